/- For the law SchemaRound: the small functions, walked. No condition. -/
import Derived.Test.YtlofkjdcapbohaaGreatDoorCfH
namespace Go.Proofs.YtlofkjdcapbohaaGreatDoor.PConfKeeps
open Go.RowKit Go.Proofs.YtlofkjdcapbohaaGreatDoorW.PrintWords Go.Proofs.YtlofkjdcapbohaaGreatDoorW.PrintLast Go.Proofs.YtlofkjdcapbohaaGreatDoorW.PrintMore
set_option linter.unusedVariables false
set_option linter.unusedSimpArgs false

set_option maxHeartbeats 1000000 in
theorem str_calls (s : ByteArray) (w : World) : Calls Tryz.prog 30 #[.string s] w fun e w' => e = .returned (.agg #[.int .i64 3, .bool false, .int .i64 0, .string s, .slice none 0 0, .slice none 0 0]) ∧ Below w.heap.size w w' := by
 have hu25 := Tryz.underlying25
 have HP := Aside0.mk (Bs.nil w)
 go_enter Tryz.func30, Tryz.ntmps30
 go_upto_region 1 with (((with_reducible refine gate_dst (N := 2) rfl ?_); refine box_event ?hg (N := 2) ?hd (cs := #[.int .i64 0, .bool false, .int .i64 0, .string ⟨#[]⟩, .slice none 0 0, .slice none 0 0]) (t := 25) ?hr ?_; (case hd => rfl); (case hg => rfl); (case hr => first | (go_simp; done) | (go_simp; rfl)); intro br hg_ W1 hbox hb; have n0 := Aside0.mk (HP.out.new hg_ hbox hb); clear HP; have HP := n0; clear n0; clear hg_ hbox hb; have yr0 : W1.cell? ⟨br, 0, none⟩ = some (.int .i64 0) := HP.out.cl 0 0 rfl rfl; have yr1 : W1.cell? ⟨br, 1, none⟩ = some (.bool false) := HP.out.cl 0 1 rfl rfl; have yr2 : W1.cell? ⟨br, 2, none⟩ = some (.int .i64 0) := HP.out.cl 0 2 rfl rfl; have yr3 : W1.cell? ⟨br, 3, none⟩ = some (.string ⟨#[]⟩) := HP.out.cl 0 3 rfl rfl; have yr4 : W1.cell? ⟨br, 4, none⟩ = some (.slice none 0 0) := HP.out.cl 0 4 rfl rfl; have yr5 : W1.cell? ⟨br, 5, none⟩ = some (.slice none 0 0) := HP.out.cl 0 5 rfl rfl; have zr0 := HP.out.fz 0 0 rfl; have zr1 := HP.out.fz 0 1 rfl; have zr2 := HP.out.fz 0 2 rfl; have zr3 := HP.out.fz 0 3 rfl; have zr4 := HP.out.fz 0 4 rfl; have zr5 := HP.out.fz 0 5 rfl))
 go_wp2_with fail
 refine bodyPost_ret (results_cell_row rfl _ _ br 25 #[.int .i64 3, .bool false, .int .i64 0, .string s, .slice none 0 0, .slice none 0 0] (0, 0) _ rfl (put6 (HP.out.get 0 rfl) _ _ _ _ _ _) Tryz.underlying25 rfl (by kernel_rfl)) rfl ?_
 exact ⟨rfl, put6_below HP.out.B (HP.out.low 0 rfl) _ _ _ _ _ _⟩
set_option maxHeartbeats 1000000 in
theorem yes_calls (s : Bool) (w : World) : Calls Tryz.prog 32 #[.bool s] w fun e w' => e = .returned (.agg #[.int .i64 1, .bool s, .int .i64 0, .string ⟨#[]⟩, .slice none 0 0, .slice none 0 0]) ∧ Below w.heap.size w w' := by
 have hu25 := Tryz.underlying25
 have HP := Aside0.mk (Bs.nil w)
 go_enter Tryz.func32, Tryz.ntmps32
 go_upto_region 1 with (((with_reducible refine gate_dst (N := 2) rfl ?_); refine box_event ?hg (N := 2) ?hd (cs := #[.int .i64 0, .bool false, .int .i64 0, .string ⟨#[]⟩, .slice none 0 0, .slice none 0 0]) (t := 25) ?hr ?_; (case hd => rfl); (case hg => rfl); (case hr => first | (go_simp; done) | (go_simp; rfl)); intro br hg_ W1 hbox hb; have n0 := Aside0.mk (HP.out.new hg_ hbox hb); clear HP; have HP := n0; clear n0; clear hg_ hbox hb; have yr0 : W1.cell? ⟨br, 0, none⟩ = some (.int .i64 0) := HP.out.cl 0 0 rfl rfl; have yr1 : W1.cell? ⟨br, 1, none⟩ = some (.bool false) := HP.out.cl 0 1 rfl rfl; have yr2 : W1.cell? ⟨br, 2, none⟩ = some (.int .i64 0) := HP.out.cl 0 2 rfl rfl; have yr3 : W1.cell? ⟨br, 3, none⟩ = some (.string ⟨#[]⟩) := HP.out.cl 0 3 rfl rfl; have yr4 : W1.cell? ⟨br, 4, none⟩ = some (.slice none 0 0) := HP.out.cl 0 4 rfl rfl; have yr5 : W1.cell? ⟨br, 5, none⟩ = some (.slice none 0 0) := HP.out.cl 0 5 rfl rfl; have zr0 := HP.out.fz 0 0 rfl; have zr1 := HP.out.fz 0 1 rfl; have zr2 := HP.out.fz 0 2 rfl; have zr3 := HP.out.fz 0 3 rfl; have zr4 := HP.out.fz 0 4 rfl; have zr5 := HP.out.fz 0 5 rfl))
 go_wp2_with fail
 refine bodyPost_ret (results_cell_row rfl _ _ br 25 #[.int .i64 1, .bool s, .int .i64 0, .string ⟨#[]⟩, .slice none 0 0, .slice none 0 0] (0, 0) _ rfl (put6 (HP.out.get 0 rfl) _ _ _ _ _ _) Tryz.underlying25 rfl (by kernel_rfl)) rfl ?_
 exact ⟨rfl, put6_below HP.out.B (HP.out.low 0 rfl) _ _ _ _ _ _⟩
set_option maxHeartbeats 1000000 in
theorem whole_calls (s : Int) (w : World) : Calls Tryz.prog 33 #[.int .i64 s] w fun e w' => e = .returned (.agg #[.int .i64 2, .bool false, .int .i64 s, .string ⟨#[]⟩, .slice none 0 0, .slice none 0 0]) ∧ Below w.heap.size w w' := by
 have hu25 := Tryz.underlying25
 have HP := Aside0.mk (Bs.nil w)
 go_enter Tryz.func33, Tryz.ntmps33
 go_upto_region 1 with (((with_reducible refine gate_dst (N := 2) rfl ?_); refine box_event ?hg (N := 2) ?hd (cs := #[.int .i64 0, .bool false, .int .i64 0, .string ⟨#[]⟩, .slice none 0 0, .slice none 0 0]) (t := 25) ?hr ?_; (case hd => rfl); (case hg => rfl); (case hr => first | (go_simp; done) | (go_simp; rfl)); intro br hg_ W1 hbox hb; have n0 := Aside0.mk (HP.out.new hg_ hbox hb); clear HP; have HP := n0; clear n0; clear hg_ hbox hb; have yr0 : W1.cell? ⟨br, 0, none⟩ = some (.int .i64 0) := HP.out.cl 0 0 rfl rfl; have yr1 : W1.cell? ⟨br, 1, none⟩ = some (.bool false) := HP.out.cl 0 1 rfl rfl; have yr2 : W1.cell? ⟨br, 2, none⟩ = some (.int .i64 0) := HP.out.cl 0 2 rfl rfl; have yr3 : W1.cell? ⟨br, 3, none⟩ = some (.string ⟨#[]⟩) := HP.out.cl 0 3 rfl rfl; have yr4 : W1.cell? ⟨br, 4, none⟩ = some (.slice none 0 0) := HP.out.cl 0 4 rfl rfl; have yr5 : W1.cell? ⟨br, 5, none⟩ = some (.slice none 0 0) := HP.out.cl 0 5 rfl rfl; have zr0 := HP.out.fz 0 0 rfl; have zr1 := HP.out.fz 0 1 rfl; have zr2 := HP.out.fz 0 2 rfl; have zr3 := HP.out.fz 0 3 rfl; have zr4 := HP.out.fz 0 4 rfl; have zr5 := HP.out.fz 0 5 rfl))
 go_wp2_with fail
 refine bodyPost_ret (results_cell_row rfl _ _ br 25 #[.int .i64 2, .bool false, .int .i64 s, .string ⟨#[]⟩, .slice none 0 0, .slice none 0 0] (0, 0) _ rfl (put6 (HP.out.get 0 rfl) _ _ _ _ _ _) Tryz.underlying25 rfl (by kernel_rfl)) rfl ?_
 exact ⟨rfl, put6_below HP.out.B (HP.out.low 0 rfl) _ _ _ _ _ _⟩
def fK (key : ByteArray) : Int := if key.toList = ([114, 111, 117, 116, 101] : List UInt8) then 3 else if key.toList = ([107, 105, 110, 100] : List UInt8) then 3 else if key.toList = ([110, 101, 101, 100] : List UInt8) then 1 else if key.toList = ([109, 97, 120] : List UInt8) then 2 else if key.toList = ([109, 105, 110] : List UInt8) then 2 else if key.toList = ([111, 110, 101, 111, 102] : List UInt8) then 5 else -1
set_option maxHeartbeats 2000000 in
theorem fieldKind_calls (key : ByteArray) (w : World) : Calls Tryz.prog 58 #[.string key] w fun e w' => e = .returned (.int .i64 (fK key)) ∧ Below w.heap.size w w' := by
 obtain ⟨r, hr⟩ : ∃ r, r = fK key := ⟨_, rfl⟩
 rw [← hr]
 unfold fK at hr
 go_enter Tryz.func58, Tryz.ntmps58
 by_cases c0 : key.toList = ([114, 111, 117, 116, 101] : List UInt8)
 case pos =>
  have c0a : (key.toList == ([114, 111, 117, 116, 101] : List UInt8)) = true := beq_iff_eq.2 c0
  have c0b : (key.toList != ([114, 111, 117, 116, 101] : List UInt8)) = false := bne_eq_false_iff_eq.2 c0
  rw [if_pos c0] at hr
  clear c0
  subst hr
  go_wp2_with fail
  go_ret
  exact ⟨rfl, Below.refl _ _⟩
 rw [if_neg c0] at hr
 have c0a : (key.toList == ([114, 111, 117, 116, 101] : List UInt8)) = false := beq_eq_false_iff_ne.2 c0
 have c0b : (key.toList != ([114, 111, 117, 116, 101] : List UInt8)) = true := bne_iff_ne.2 c0
 clear c0
 by_cases c1 : key.toList = ([107, 105, 110, 100] : List UInt8)
 case pos =>
  have c1a : (key.toList == ([107, 105, 110, 100] : List UInt8)) = true := beq_iff_eq.2 c1
  have c1b : (key.toList != ([107, 105, 110, 100] : List UInt8)) = false := bne_eq_false_iff_eq.2 c1
  rw [if_pos c1] at hr
  clear c1
  subst hr
  go_wp2_with fail
  go_ret
  exact ⟨rfl, Below.refl _ _⟩
 rw [if_neg c1] at hr
 have c1a : (key.toList == ([107, 105, 110, 100] : List UInt8)) = false := beq_eq_false_iff_ne.2 c1
 have c1b : (key.toList != ([107, 105, 110, 100] : List UInt8)) = true := bne_iff_ne.2 c1
 clear c1
 by_cases c2 : key.toList = ([110, 101, 101, 100] : List UInt8)
 case pos =>
  have c2a : (key.toList == ([110, 101, 101, 100] : List UInt8)) = true := beq_iff_eq.2 c2
  have c2b : (key.toList != ([110, 101, 101, 100] : List UInt8)) = false := bne_eq_false_iff_eq.2 c2
  rw [if_pos c2] at hr
  clear c2
  subst hr
  go_wp2_with fail
  go_ret
  exact ⟨rfl, Below.refl _ _⟩
 rw [if_neg c2] at hr
 have c2a : (key.toList == ([110, 101, 101, 100] : List UInt8)) = false := beq_eq_false_iff_ne.2 c2
 have c2b : (key.toList != ([110, 101, 101, 100] : List UInt8)) = true := bne_iff_ne.2 c2
 clear c2
 by_cases c3 : key.toList = ([109, 97, 120] : List UInt8)
 case pos =>
  have c3a : (key.toList == ([109, 97, 120] : List UInt8)) = true := beq_iff_eq.2 c3
  have c3b : (key.toList != ([109, 97, 120] : List UInt8)) = false := bne_eq_false_iff_eq.2 c3
  rw [if_pos c3] at hr
  clear c3
  subst hr
  go_wp2_with fail
  go_ret
  exact ⟨rfl, Below.refl _ _⟩
 rw [if_neg c3] at hr
 have c3a : (key.toList == ([109, 97, 120] : List UInt8)) = false := beq_eq_false_iff_ne.2 c3
 have c3b : (key.toList != ([109, 97, 120] : List UInt8)) = true := bne_iff_ne.2 c3
 clear c3
 by_cases c4 : key.toList = ([109, 105, 110] : List UInt8)
 case pos =>
  have c4a : (key.toList == ([109, 105, 110] : List UInt8)) = true := beq_iff_eq.2 c4
  have c4b : (key.toList != ([109, 105, 110] : List UInt8)) = false := bne_eq_false_iff_eq.2 c4
  rw [if_pos c4] at hr
  clear c4
  subst hr
  go_wp2_with fail
  go_ret
  exact ⟨rfl, Below.refl _ _⟩
 rw [if_neg c4] at hr
 have c4a : (key.toList == ([109, 105, 110] : List UInt8)) = false := beq_eq_false_iff_ne.2 c4
 have c4b : (key.toList != ([109, 105, 110] : List UInt8)) = true := bne_iff_ne.2 c4
 clear c4
 by_cases c5 : key.toList = ([111, 110, 101, 111, 102] : List UInt8)
 case pos =>
  have c5a : (key.toList == ([111, 110, 101, 111, 102] : List UInt8)) = true := beq_iff_eq.2 c5
  have c5b : (key.toList != ([111, 110, 101, 111, 102] : List UInt8)) = false := bne_eq_false_iff_eq.2 c5
  rw [if_pos c5] at hr
  clear c5
  subst hr
  go_wp2_with fail
  go_ret
  exact ⟨rfl, Below.refl _ _⟩
 rw [if_neg c5] at hr
 have c5a : (key.toList == ([111, 110, 101, 111, 102] : List UInt8)) = false := beq_eq_false_iff_ne.2 c5
 have c5b : (key.toList != ([111, 110, 101, 111, 102] : List UInt8)) = true := bne_iff_ne.2 c5
 clear c5
 subst hr
 go_wp2_with fail
 go_ret
 exact ⟨rfl, Below.refl _ _⟩
def kNames : List ByteArray := [⟨#[110, 105, 108]⟩, ⟨#[98, 111, 111, 108]⟩, ⟨#[105, 110, 116]⟩, ⟨#[115, 116, 114, 105, 110, 103]⟩, ⟨#[100, 97, 121]⟩, ⟨#[108, 105, 115, 116]⟩, ⟨#[116, 97, 98, 108, 101]⟩]
/-- the global variable 0 holds the kinds' names -/
def KN (w : World) : Prop := ∃ A c, w.cell? ⟨0, 0, none⟩ = some (.slice A 7 c) ∧ Kd.C Kd.string w A 7 kNames
theorem KN.below {w w' : World} (h : KN w) (hb : Below w.heap.size w w') : KN w' := by
 obtain ⟨A, c, h1, h2⟩ := h
 exact ⟨A, c, (hb.cell (World.block_lt_of_cell? w _ h1)).trans h1, Kd.C_below h2 hb⟩
def kName (k : Int) : Option ByteArray := if k = -1 then some ⟨#[97, 110, 121]⟩ else if 0 ≤ k ∧ k < 7 then some (rdOf ByteArray.empty kNames k) else none
def kOfl (s : ByteArray) : Nat → Nat → Int × Bool
 | 0, _ => (0, false)
 | n + 1, i => if (rdOf ByteArray.empty kNames (i : Int)).toList = s.toList then ((i : Int), true) else kOfl s n (i + 1)
def kOf (s : ByteArray) : Int × Bool := if s.toList = ([97, 110, 121] : List UInt8) then (-1, true) else kOfl s 7 0
set_option maxHeartbeats 2000000 in
theorem kindName_calls (k : Int) (r : ByteArray) (w : World) (hk : KN w) (h : kName k = some r) : Calls Tryz.prog 31 #[.int .i64 k] w fun e w' => e = .returned (.string r) ∧ Below w.heap.size w w' := by
 obtain ⟨A, c, g0, hC⟩ := hk
 have HC := Aside0.mk hC
 clear hC
 unfold kName at h
 go_enter Tryz.func31, Tryz.ntmps31
 by_cases c1 : k = -1
 case pos =>
  rw [if_pos c1] at h
  injection h with h
  subst h
  have c1a : (k == -1) = true := beq_iff_eq.2 c1
  have c1b : (k != -1) = false := bne_eq_false_iff_eq.2 c1
  clear c1
  go_wp2_with fail
  go_ret
  exact ⟨rfl, Below.refl _ _⟩
 have c1a : (k == -1) = false := beq_eq_false_iff_ne.2 c1
 have c1b : (k != -1) = true := bne_iff_ne.2 c1
 rw [if_neg c1] at h
 clear c1
 by_cases c2 : 0 ≤ k ∧ k < 7
 case neg => rw [if_neg c2] at h; cases h
 rw [if_pos c2] at h
 injection h with h
 obtain ⟨p0, p1⟩ := c2
 obtain ⟨ad, e_, x0⟩ := Kd.at_string HC.out k p0 p1
 cases e_
 rw [h] at x0
 clear h
 have q1 : decide (0 ≤ k) = true := decide_eq_true p0
 have q2 : decide (k < 7) = true := decide_eq_true p1
 replace p0 := eq_true p0
 replace p1 := eq_true p1
 go_wp2_with fail
 go_ret
 exact ⟨rfl, Below.refl _ _⟩
set_option maxHeartbeats 2000000 in
theorem kindOf_calls (s : ByteArray) (r : Int × Bool) (w : World) (hk : KN w) (h : kOf s = r) : Calls Tryz.prog 59 #[.string s] w fun e w' => e = .returned (.tuple #[.int .i64 r.1, .bool r.2]) ∧ Below w.heap.size w w' := by
 obtain ⟨A, c, g0, hC⟩ := hk
 have HC := Aside0.mk hC
 clear hC
 unfold kOf at h
 have HP := Aside0.mk (Bs.nil w)
 go_enter Tryz.func59, Tryz.ntmps59
 by_cases c1 : s.toList = ([97, 110, 121] : List UInt8)
 case pos =>
  rw [if_pos c1] at h
  subst h
  have c1a : (s.toList == ([97, 110, 121] : List UInt8)) = true := beq_iff_eq.2 c1
  have c1b : (s.toList != ([97, 110, 121] : List UInt8)) = false := bne_eq_false_iff_eq.2 c1
  clear c1
  go_wp2_with fail
  go_ret2
  exact ⟨rfl, Below.refl _ _⟩
 have c1a : (s.toList == ([97, 110, 121] : List UInt8)) = false := beq_eq_false_iff_ne.2 c1
 have c1b : (s.toList != ([97, 110, 121] : List UInt8)) = true := bne_iff_ne.2 c1
 rw [if_neg c1] at h
 clear c1
 have H := Aside0.mk h
 clear h
 go_wp2_with fail
 go_loopg [10] 7 (fun kq v10 w' => ∃ (ii : Int) (i : Nat), v10 = .int .i64 ii ∧ Aside0 (ii = (i : Int)) ∧ Aside0 (i + kq = 7) ∧ Aside0 (kOfl s kq i = r) ∧ Aside0 (w' = w))
 case atStart => exact ⟨0, 0, rfl, ⟨rfl⟩, ⟨rfl⟩, H, ⟨rfl⟩⟩
 case round =>
  clear H
  obtain ⟨ii, i, rfl, HII, HI, H, HW⟩ := hrel
  have hw_ := HW.out
  subst hw_
  cases gk with
  | zero =>
   have e0 : decide (ii < (7 : Int)) = false := decide_eq_false (by have := HII.out; have := HI.out; omega)
   have H1 := H.out
   rw [kOfl] at H1
   subst H1
   go_wp2_with fail
   go_ret2
   exact ⟨rfl, Below.refl _ _⟩
  | succ k1 =>
   have H1 := H.out
   clear H
   rw [kOfl, ← HII.out] at H1
   have p0 : 0 ≤ ii := by have := HII.out; omega
   have p1 : ii < (7 : Int) := by have := HII.out; have := HI.out; omega
   have q0 : decide (ii < (7 : Int)) = true := decide_eq_true p1
   have q1 : decide (0 ≤ ii) = true := decide_eq_true p0
   obtain ⟨ad, e_, x0⟩ := Kd.at_string HC.out ii p0 p1
   cases e_
   generalize rdOf ByteArray.empty kNames ii = t at x0 H1
   replace p0 := eq_true p0
   replace p1 := eq_true p1
   by_cases c2 : t.toList = s.toList
   case pos =>
    have c2a : (t.toList == s.toList) = true := beq_iff_eq.2 c2
    have c2b : (t.toList != s.toList) = false := bne_eq_false_iff_eq.2 c2
    rw [if_pos c2] at H1
    clear c2
    subst H1
    go_wp2_with fail
    go_ret2
    exact ⟨rfl, Below.refl _ _⟩
   have c2a : (t.toList == s.toList) = false := beq_eq_false_iff_ne.2 c2
   have c2b : (t.toList != s.toList) = true := bne_iff_ne.2 c2
   rw [if_neg c2] at H1
   clear c2
   go_wp2_with fail
   go_roundg k1
   case measure => omega
   case rel => exact ⟨_, i + 1, rfl, ⟨by have h2_ := HII.out; have h3_ := HI.out; unfold wrap64; omega⟩, ⟨by have := HI.out; omega⟩, ⟨H1⟩, ⟨rfl⟩⟩
def cItem (v : S25) (key : ByteArray) : Option (S25 × Bool) := (conf_find.f v.f0 v.f1 v.f2 v.f3 v.f4 v.f5 key).bind fun b => if b.2 = true then (if 0 ≤ b.1 ∧ b.1 < (v.f4.length : Int) then some (rd_T25 v.f4 b.1, true) else none) else some (z25, false)
end Go.Proofs.YtlofkjdcapbohaaGreatDoor.PConfKeeps
