/- For the law SchemaRound: wrongKinds, walked where no kind is wrong. No condition. -/
import Derived.Test.YtlofkjdcapbohaaGreatDoorCfL
namespace Go.Proofs.YtlofkjdcapbohaaGreatDoor.PConfKeeps
open Go.RowKit Go.Proofs.YtlofkjdcapbohaaGreatDoorW.PrintWords Go.Proofs.YtlofkjdcapbohaaGreatDoorW.PrintLast Go.Proofs.YtlofkjdcapbohaaGreatDoorW.PrintMore
set_option linter.unusedVariables false
set_option linter.unusedSimpArgs false

def KdOk (key : ByteArray) (x : S25) : Prop := (fK key ≠ -1 → x.f0 = fK key) ∧ (key.toList = ([111, 110, 101, 111, 102] : List UInt8) → ∀ y ∈ x.f4, y.f0 = 3)
structure WK (v F a : S25) (b1 b2 : Bool) : Prop where
 k6 : v.f0 = 6
 st : cItem v ⟨#[115, 116, 114, 105, 99, 116]⟩ = some (a, b1)
 st1 : b1 = true → a.f0 = 1
 fl : cItem v ⟨#[102, 105, 101, 108, 100, 115]⟩ = some (F, b2)
 fl5 : b2 = true → F.f0 = 5
 it : ∀ t ∈ F.f4, t.f0 = 6 ∧ t.f5.length ≤ t.f4.length ∧ ∀ i : Nat, i < t.f5.length → KdOk (rdOf ByteArray.empty t.f5 (i : Int)) (rd_T25 t.f4 (i : Int))
theorem rdOf_in {l : List ByteArray} {i : Int} (h0 : 0 ≤ i) (h1 : i < (l.length : Int)) : rdOf ByteArray.empty l i ∈ l := by
 obtain ⟨n, rfl⟩ := Int.eq_ofNat_of_zero_le h0
 unfold rdOf
 rw [List.getD_eq_getElem?_getD, Int.toNat_natCast, List.getElem?_eq_getElem (by omega)]; exact List.getElem_mem _
theorem rd25_in {l : List S25} {i : Int} (h0 : 0 ≤ i) (h1 : i < (l.length : Int)) : rd_T25 l i ∈ l := by
 obtain ⟨n, rfl⟩ := Int.eq_ofNat_of_zero_le h0
 unfold rd_T25
 rw [List.getD_eq_getElem?_getD, Int.toNat_natCast, List.getElem?_eq_getElem (by omega)]; exact List.getElem_mem _
/-- what is told of blocks that were there is so at the call's beginning -/
theorem RdF.back {w W : World} {ok : Nat → Prop} {v : S25} {A4 : Option Addr} {c4 : Nat} {A5 : Option Addr} {c5 : Nat} (h : RdF W ok v A4 c4 A5 c5) (hb : Below w.heap.size w W) (hk : ∀ k, ok k → k < w.heap.size) : RdF w ok v A4 c4 A5 c5 :=
 h.step (fun k ho _ => (hb.block k (hk k ho)).symm)
set_option maxHeartbeats 4000000 in
set_option maxRecDepth 100000 in
theorem wrongKinds_calls (v : S25) (A4 : Option Addr) (c4 : Nat) (A5 : Option Addr) (c5 : Nat) (F a : S25) (b1 b2 : Bool) (w : World) (hv : Rd w v A4 c4 A5 c5) (h : WK v F a b1 b2) :
  Calls Tryz.prog 34 #[.agg #[.int .i64 v.f0, .bool v.f1, .int .i64 v.f2, .string v.f3, .slice A4 v.f4.length c4, .slice A5 v.f5.length c5]] w fun e w' => e = .returned (.bool false) ∧ Below w.heap.size w w' := by
 have hu25 := Tryz.underlying25
 have HV := Aside0.mk hv.F
 have HP := Aside0.mk (Bs.nil w)
 obtain ⟨k6, hst, hs1, hfl, hf5, hit⟩ := h
 have HST := Aside0.mk hst
 have HS1 := Aside0.mk hs1
 have HFL := Aside0.mk hfl
 have HF5 := Aside0.mk hf5
 have HIT := Aside0.mk hit
 clear hv hst hs1 hfl hf5 hit
 go_enter Tryz.func34, Tryz.ntmps34
 have k6a : (v.f0 == 6) = true := beq_iff_eq.2 k6
 have k6b : (v.f0 != 6) = false := bne_eq_false_iff_eq.2 k6
 replace k6 := Aside0.mk k6
 go_upto_region 1 with (((with_reducible refine gate_dst (N := 1) rfl ?_); refine box_event ?hg (N := 1) ?hd (cs := #[.int .i64 v.f0, .bool v.f1, .int .i64 v.f2, .string v.f3, .slice A4 v.f4.length c4, .slice A5 v.f5.length c5]) (t := 25) ?hr ?_; (case hd => rfl); (case hg => rfl); (case hr => first | (go_simp; done) | (go_simp; rfl)); intro bv hg_ W0 hbox hb; have n0 := Aside0.mk (HP.out.new hg_ hbox hb); clear HP; have HP := n0; clear n0; clear hg_ hbox hb))
 have yv0 : W0.cell? ⟨bv, 0, none⟩ = some (.int .i64 v.f0) := HP.out.cl 0 0 rfl rfl
 have yv1 : W0.cell? ⟨bv, 1, none⟩ = some (.bool v.f1) := HP.out.cl 0 1 rfl rfl
 have yv2 : W0.cell? ⟨bv, 2, none⟩ = some (.int .i64 v.f2) := HP.out.cl 0 2 rfl rfl
 have yv3 : W0.cell? ⟨bv, 3, none⟩ = some (.string v.f3) := HP.out.cl 0 3 rfl rfl
 have yv4 : W0.cell? ⟨bv, 4, none⟩ = some (.slice A4 v.f4.length c4) := HP.out.cl 0 4 rfl rfl
 have yv5 : W0.cell? ⟨bv, 5, none⟩ = some (.slice A5 v.f5.length c5) := HP.out.cl 0 5 rfl rfl
 go_upto_region 3 with (fail)
 clear k6a k6b
 go_upto_region 4 with (first | (go_at_call 36; refine (item_calls v A4 c4 A5 c5 ⟨#[115, 116, 114, 105, 99, 116]⟩ (a, b1) _ (fun k => k < w.heap.size) (HV.out.below HP.out.B) HST.out).mono ?_; rintro e W1 ⟨G4, g4, G5, g5, rfl, hr, hb⟩; have n0 := Aside0.mk (HP.out.below hb); clear HP; have HP := n0; clear n0; clear hb; clear hr) | ((with_reducible refine gate_dst (N := 3) rfl ?_); refine box_event ?hg (N := 3) ?hd (cs := #[.int .i64 0, .bool false, .int .i64 0, .string ⟨#[]⟩, .slice none 0 0, .slice none 0 0]) (t := 25) ?hr ?_; (case hd => rfl); (case hg => rfl); (case hr => first | (go_simp; done) | (go_simp; rfl)); intro bA hg_ W2 hbox hb; have n0 := Aside0.mk (HP.out.new hg_ hbox hb); clear HP; have HP := n0; clear n0; clear hg_ hbox hb; have yz0 : W2.cell? ⟨bA, 0, none⟩ = some (.int .i64 0) := HP.out.cl 0 0 rfl rfl; have yz1 : W2.cell? ⟨bA, 1, none⟩ = some (.bool false) := HP.out.cl 0 1 rfl rfl; have yz2 : W2.cell? ⟨bA, 2, none⟩ = some (.int .i64 0) := HP.out.cl 0 2 rfl rfl; have yz3 : W2.cell? ⟨bA, 3, none⟩ = some (.string ⟨#[]⟩) := HP.out.cl 0 3 rfl rfl; have yz4 : W2.cell? ⟨bA, 4, none⟩ = some (.slice none 0 0) := HP.out.cl 0 4 rfl rfl; have yz5 : W2.cell? ⟨bA, 5, none⟩ = some (.slice none 0 0) := HP.out.cl 0 5 rfl rfl; have zz0 := HP.out.fz 0 0 rfl; have zz1 := HP.out.fz 0 1 rfl; have zz2 := HP.out.fz 0 2 rfl; have zz3 := HP.out.fz 0 3 rfl; have zz4 := HP.out.fz 0 4 rfl; have zz5 := HP.out.fz 0 5 rfl))
 have n0 := Aside0.mk (HP.out.six 0 rfl (.int .i64 a.f0) (.bool a.f1) (.int .i64 a.f2) (.string a.f3) (.slice G4 a.f4.length g4) (.slice G5 a.f5.length g5))
 clear HP
 have HP := n0
 clear n0
 clear yz0 zz0 yv0 yz1 zz1 yv1 yz2 zz2 yv2 yz3 zz3 yv3 yz4 zz4 yv4 yz5 zz5 yv5
 generalize ((((((W2.setCell ⟨bA, 0, none⟩ (.int .i64 a.f0)).setCell ⟨bA, 1, none⟩ (.bool a.f1)).setCell ⟨bA, 2, none⟩ (.int .i64 a.f2)).setCell ⟨bA, 3, none⟩ (.string a.f3)).setCell ⟨bA, 4, none⟩ (.slice G4 a.f4.length g4)).setCell ⟨bA, 5, none⟩ (.slice G5 a.f5.length g5)) = W3 at HP ⊢
 go_cut [27] (fun v wc => v = .bool false ∧ Aside0 (wc = W3))
 case first =>
  cases b1 with
  | false =>
   go_wp2_with fail
   go_meet
   case rel => exact ⟨rfl, ⟨rfl⟩⟩
  | true =>
   have c1 := HS1.out rfl
   have c1a : (a.f0 == 1) = true := beq_iff_eq.2 c1
   have c1b : (a.f0 != 1) = false := bne_eq_false_iff_eq.2 c1
   replace c1 := Aside0.mk c1
   have yk0 : W3.cell? ⟨bA, 0, none⟩ = some (.int .i64 a.f0) := HP.out.cl 0 0 rfl rfl
   go_wp2_with fail
   go_meet
   case rel => exact ⟨rfl, ⟨rfl⟩⟩
 case rest =>
  obtain ⟨rfl, HW⟩ := hcut
  have hw_ := HW.out.symm
  subst hw_
  have yv0 : W3.cell? ⟨bv, 0, none⟩ = some (.int .i64 v.f0) := HP.out.cl 1 0 rfl rfl
  have yv1 : W3.cell? ⟨bv, 1, none⟩ = some (.bool v.f1) := HP.out.cl 1 1 rfl rfl
  have yv2 : W3.cell? ⟨bv, 2, none⟩ = some (.int .i64 v.f2) := HP.out.cl 1 2 rfl rfl
  have yv3 : W3.cell? ⟨bv, 3, none⟩ = some (.string v.f3) := HP.out.cl 1 3 rfl rfl
  have yv4 : W3.cell? ⟨bv, 4, none⟩ = some (.slice A4 v.f4.length c4) := HP.out.cl 1 4 rfl rfl
  have yv5 : W3.cell? ⟨bv, 5, none⟩ = some (.slice A5 v.f5.length c5) := HP.out.cl 1 5 rfl rfl
  go_upto_region 7 with (first | (go_at_call 36; refine (item_calls v A4 c4 A5 c5 ⟨#[102, 105, 101, 108, 100, 115]⟩ (F, b2) _ (fun k => k < w.heap.size) (HV.out.below HP.out.B) HFL.out).mono ?_; rintro e W4 ⟨E4, e4, E5, e5, rfl, hr, hb⟩; have n0 := Aside0.mk (HP.out.below hb); clear HP; have HP := n0; clear n0; clear hb; have HR := Aside0.mk (hr.back HP.out.B (fun k hk => hk)); clear hr) | ((with_reducible refine gate_dst (N := 5) rfl ?_); refine box_event ?hg (N := 5) ?hd (cs := #[.int .i64 0, .bool false, .int .i64 0, .string ⟨#[]⟩, .slice none 0 0, .slice none 0 0]) (t := 25) ?hr ?_; (case hd => rfl); (case hg => rfl); (case hr => first | (go_simp; done) | (go_simp; rfl)); intro bF hg_ W5 hbox hb; have n0 := Aside0.mk (HP.out.new hg_ hbox hb); clear HP; have HP := n0; clear n0; clear hg_ hbox hb; have yz0 : W5.cell? ⟨bF, 0, none⟩ = some (.int .i64 0) := HP.out.cl 0 0 rfl rfl; have yz1 : W5.cell? ⟨bF, 1, none⟩ = some (.bool false) := HP.out.cl 0 1 rfl rfl; have yz2 : W5.cell? ⟨bF, 2, none⟩ = some (.int .i64 0) := HP.out.cl 0 2 rfl rfl; have yz3 : W5.cell? ⟨bF, 3, none⟩ = some (.string ⟨#[]⟩) := HP.out.cl 0 3 rfl rfl; have yz4 : W5.cell? ⟨bF, 4, none⟩ = some (.slice none 0 0) := HP.out.cl 0 4 rfl rfl; have yz5 : W5.cell? ⟨bF, 5, none⟩ = some (.slice none 0 0) := HP.out.cl 0 5 rfl rfl; have zz0 := HP.out.fz 0 0 rfl; have zz1 := HP.out.fz 0 1 rfl; have zz2 := HP.out.fz 0 2 rfl; have zz3 := HP.out.fz 0 3 rfl; have zz4 := HP.out.fz 0 4 rfl; have zz5 := HP.out.fz 0 5 rfl))
  have n0 := Aside0.mk (HP.out.six 0 rfl (.int .i64 F.f0) (.bool F.f1) (.int .i64 F.f2) (.string F.f3) (.slice E4 F.f4.length e4) (.slice E5 F.f5.length e5))
  clear HP
  have HP := n0
  clear n0
  clear yz0 zz0 yv0 yz1 zz1 yv1 yz2 zz2 yv2 yz3 zz3 yv3 yz4 zz4 yv4 yz5 zz5 yv5
  generalize ((((((W5.setCell ⟨bF, 0, none⟩ (.int .i64 F.f0)).setCell ⟨bF, 1, none⟩ (.bool F.f1)).setCell ⟨bF, 2, none⟩ (.int .i64 F.f2)).setCell ⟨bF, 3, none⟩ (.string F.f3)).setCell ⟨bF, 4, none⟩ (.slice E4 F.f4.length e4)).setCell ⟨bF, 5, none⟩ (.slice E5 F.f5.length e5)) = W6 at HP ⊢
  go_cut [38] (fun v wc => v = .bool false ∧ Aside0 (wc = W6))
  case first =>
   cases b2 with
   | false =>
    go_wp2_with fail
    go_meet
    case rel => exact ⟨rfl, ⟨rfl⟩⟩
   | true =>
    have c2 := HF5.out rfl
    have c2a : (F.f0 == 5) = true := beq_iff_eq.2 c2
    have c2b : (F.f0 != 5) = false := bne_eq_false_iff_eq.2 c2
    replace c2 := Aside0.mk c2
    have yk0 : W6.cell? ⟨bF, 0, none⟩ = some (.int .i64 F.f0) := HP.out.cl 0 0 rfl rfl
    go_wp2_with fail
    go_meet
    case rel => exact ⟨rfl, ⟨rfl⟩⟩
  case rest =>
   obtain ⟨rfl, HW⟩ := hcut
   have hw_ := HW.out.symm
   subst hw_
   have yf4 : W6.cell? ⟨bF, 4, none⟩ = some (.slice E4 F.f4.length e4) := HP.out.cl 0 4 rfl rfl
   have HM1 := Aside0.mk HR.out.now.1.2.1
   go_wp2_with fail
   go_loopg [42] F.f4.length (fun kq v_ w' => ∃ (ii : Int) (i : Nat), v_ = .int .i64 ii ∧ Aside0 (ii = (i : Int)) ∧ Aside0 (i + kq = F.f4.length) ∧ Aside0 (Bs w w' [(bF, #[.int .i64 F.f0, .bool F.f1, .int .i64 F.f2, .string F.f3, .slice E4 F.f4.length e4, .slice E5 F.f5.length e5], 25), (bA, #[.int .i64 a.f0, .bool a.f1, .int .i64 a.f2, .string a.f3, .slice G4 a.f4.length g4, .slice G5 a.f5.length g5], 25), (bv, #[.int .i64 v.f0, .bool v.f1, .int .i64 v.f2, .string v.f3, .slice A4 v.f4.length c4, .slice A5 v.f5.length c5], 25)]))
   case atStart => exact ⟨0, 0, rfl, ⟨rfl⟩, ⟨by omega⟩, HP⟩
   case round =>
    clear HP
    obtain ⟨ii, i, rfl, HIIi, HIi, HP⟩ := hrel
    skip
    cases gk with
    | zero =>
     have e0 : decide (ii < (F.f4.length : Int)) = false := decide_eq_false (by have := HIIi.out; have := HIi.out; omega)
     go_wp2_with fail
     go_ret
     exact ⟨rfl, HP.out.B⟩
    | succ kA =>
     clear yf4
     have pa0 : 0 ≤ ii := by have := HIIi.out; omega
     have pa1 : ii < (F.f4.length : Int) := by have := HIIi.out; have := HIi.out; omega
     have qa0 : decide (ii < (F.f4.length : Int)) = true := decide_eq_true pa1
     have qa1 : decide (0 ≤ ii) = true := decide_eq_true pa0
     obtain ⟨ad, T4, t4, T5, t5, e_, x0, x1, x2, x3, x4, x5, hrd⟩ := at_F25 HR.out.1 ii pa0 pa1
     cases e_
     have ht := HIT.out _ (rd25_in pa0 pa1)
     generalize rd_T25 F.f4 ii = t at x0 x1 x2 x3 x4 x5 hrd ht
     obtain ⟨t6, tl, htk⟩ := ht
     have HT := Aside0.mk hrd
     have HTK := Aside0.mk htk
     have HTL := Aside0.mk tl
     clear hrd htk tl
     replace x0 := (HP.out.B.cell (World.block_lt_of_cell? w _ x0)).trans x0
     replace x1 := (HP.out.B.cell (World.block_lt_of_cell? w _ x1)).trans x1
     replace x2 := (HP.out.B.cell (World.block_lt_of_cell? w _ x2)).trans x2
     replace x3 := (HP.out.B.cell (World.block_lt_of_cell? w _ x3)).trans x3
     replace x4 := (HP.out.B.cell (World.block_lt_of_cell? w _ x4)).trans x4
     replace x5 := (HP.out.B.cell (World.block_lt_of_cell? w _ x5)).trans x5
     replace pa0 := eq_true pa0
     replace pa1 := eq_true pa1
     have t6a : (t.f0 == 6) = true := beq_iff_eq.2 t6
     have t6b : (t.f0 != 6) = false := bne_eq_false_iff_eq.2 t6
     replace t6 := Aside0.mk t6
     go_upto_region 12 with (((with_reducible refine gate_dst (N := 8) rfl ?_); refine box_event ?hg (N := 8) ?hd (cs := #[.int .i64 0, .bool false, .int .i64 0, .string ⟨#[]⟩, .slice none 0 0, .slice none 0 0]) (t := 25) ?hr ?_; (case hd => rfl); (case hg => rfl); (case hr => first | (go_simp; done) | (go_simp; rfl)); intro bT hg_ W7 hbox hb; have n0 := Aside0.mk (HP.out.new hg_ hbox hb); clear HP; have HP := n0; clear n0; clear hg_ hbox hb; have yz0 : W7.cell? ⟨bT, 0, none⟩ = some (.int .i64 0) := HP.out.cl 0 0 rfl rfl; have yz1 : W7.cell? ⟨bT, 1, none⟩ = some (.bool false) := HP.out.cl 0 1 rfl rfl; have yz2 : W7.cell? ⟨bT, 2, none⟩ = some (.int .i64 0) := HP.out.cl 0 2 rfl rfl; have yz3 : W7.cell? ⟨bT, 3, none⟩ = some (.string ⟨#[]⟩) := HP.out.cl 0 3 rfl rfl; have yz4 : W7.cell? ⟨bT, 4, none⟩ = some (.slice none 0 0) := HP.out.cl 0 4 rfl rfl; have yz5 : W7.cell? ⟨bT, 5, none⟩ = some (.slice none 0 0) := HP.out.cl 0 5 rfl rfl; have zz0 := HP.out.fz 0 0 rfl; have zz1 := HP.out.fz 0 1 rfl; have zz2 := HP.out.fz 0 2 rfl; have zz3 := HP.out.fz 0 3 rfl; have zz4 := HP.out.fz 0 4 rfl; have zz5 := HP.out.fz 0 5 rfl))
     have n0 := Aside0.mk (HP.out.six 0 rfl (.int .i64 t.f0) (.bool t.f1) (.int .i64 t.f2) (.string t.f3) (.slice T4 t.f4.length t4) (.slice T5 t.f5.length t5))
     clear HP
     have HP := n0
     clear n0
     clear yz0 zz0 x0 yz1 zz1 x1 yz2 zz2 x2 yz3 zz3 x3 yz4 zz4 x4 yz5 zz5 x5
     generalize ((((((W7.setCell ⟨bT, 0, none⟩ (.int .i64 t.f0)).setCell ⟨bT, 1, none⟩ (.bool t.f1)).setCell ⟨bT, 2, none⟩ (.int .i64 t.f2)).setCell ⟨bT, 3, none⟩ (.string t.f3)).setCell ⟨bT, 4, none⟩ (.slice T4 t.f4.length t4)).setCell ⟨bT, 5, none⟩ (.slice T5 t.f5.length t5)) = W8 at HP ⊢
     have yt0 : W8.cell? ⟨bT, 0, none⟩ = some (.int .i64 t.f0) := HP.out.cl 0 0 rfl rfl
     have yt5 : W8.cell? ⟨bT, 5, none⟩ = some (.slice T5 t.f5.length t5) := HP.out.cl 0 5 rfl rfl
     have HM2 := Aside0.mk HT.out.now.2.2.1.2.1
     go_wp2_with fail
     go_loopg [52] t.f5.length (fun kq v_ w' => ∃ (jj : Int) (j : Nat), v_ = .int .i64 jj ∧ Aside0 (jj = (j : Int)) ∧ Aside0 (j + kq = t.f5.length) ∧ Aside0 (Bs w w' [(bT, #[.int .i64 t.f0, .bool t.f1, .int .i64 t.f2, .string t.f3, .slice T4 t.f4.length t4, .slice T5 t.f5.length t5], 25), (bF, #[.int .i64 F.f0, .bool F.f1, .int .i64 F.f2, .string F.f3, .slice (some ad) F.f4.length e4, .slice E5 F.f5.length e5], 25), (bA, #[.int .i64 a.f0, .bool a.f1, .int .i64 a.f2, .string a.f3, .slice G4 a.f4.length g4, .slice G5 a.f5.length g5], 25), (bv, #[.int .i64 v.f0, .bool v.f1, .int .i64 v.f2, .string v.f3, .slice A4 v.f4.length c4, .slice A5 v.f5.length c5], 25)]))
     case atStart => exact ⟨0, 0, rfl, ⟨rfl⟩, ⟨by omega⟩, HP⟩
     case round =>
      clear HP
      obtain ⟨jj, j, rfl, HIIj, HIj, HP⟩ := hrel
      skip
      cases gk with
      | zero =>
       have e0 : decide (jj < (t.f5.length : Int)) = false := decide_eq_false (by have := HIIj.out; have := HIj.out; omega)
       go_wp2_with fail
       go_roundg kA
       case measure => omega
       case rel => exact ⟨_, i + 1, rfl, ⟨by have h1_ := HM1.out; have h2_ := HIIi.out; have h3_ := HIi.out; unfold wrap64; omega⟩, ⟨by have := HIi.out; omega⟩, ⟨HP.out.tail⟩⟩
      | succ kB =>
       clear yt0 yt5 t6a t6b qa0 qa1 pa0 pa1
       have pb0 : 0 ≤ jj := by have := HIIj.out; omega
       have pb1 : jj < (t.f5.length : Int) := by have := HIIj.out; have := HIj.out; omega
       have qb0 : decide (jj < (t.f5.length : Int)) = true := decide_eq_true pb1
       have qb1 : decide (0 ≤ jj) = true := decide_eq_true pb0
       have pb2 : jj < (t.f4.length : Int) := by have := HTL.out; omega
       have qb2 : decide (jj < (t.f4.length : Int)) = true := decide_eq_true pb2
       obtain ⟨ak, e_, y0⟩ := Kd.at_string (Kd.F_now HT.out.2.2.1) jj pb0 pb1
       cases e_
       obtain ⟨ad2, X4, x4_, X5, x5_, e_, x0, x1, x2, x3, x4, x5, hrd⟩ := at_F25 HT.out.1 jj pb0 pb2
       cases e_
       have hk := HTK.out j (by have := HIj.out; omega)
       rw [← HIIj.out] at hk
       generalize rdOf ByteArray.empty t.f5 jj = key at y0 hk
       generalize rd_T25 t.f4 jj = x at x0 x1 x2 x3 x4 x5 hrd hk
       obtain ⟨hk1, hk2⟩ := hk
       have HX := Aside0.mk hrd
       have HK1 := Aside0.mk hk1
       have HK2 := Aside0.mk hk2
       clear hrd hk1 hk2
       replace x0 := (HP.out.B.cell (World.block_lt_of_cell? w _ x0)).trans x0
       replace x1 := (HP.out.B.cell (World.block_lt_of_cell? w _ x1)).trans x1
       replace x2 := (HP.out.B.cell (World.block_lt_of_cell? w _ x2)).trans x2
       replace x3 := (HP.out.B.cell (World.block_lt_of_cell? w _ x3)).trans x3
       replace x4 := (HP.out.B.cell (World.block_lt_of_cell? w _ x4)).trans x4
       replace x5 := (HP.out.B.cell (World.block_lt_of_cell? w _ x5)).trans x5
       replace y0 := (HP.out.B.cell (World.block_lt_of_cell? w _ y0)).trans y0
       replace pb0 := eq_true pb0
       replace pb1 := eq_true pb1
       replace pb2 := eq_true pb2
       clear x1 x2 x3 x5
       go_upto_region 18 with (go_at_call 58; refine (fieldKind_calls key _).mono ?_; rintro e W9 ⟨rfl, hb⟩; have n0 := Aside0.mk (HP.out.below hb); clear HP; have HP := n0; clear n0; replace x0 := (hb.cell (World.block_lt_of_cell? _ _ x0)).trans x0; replace x4 := (hb.cell (World.block_lt_of_cell? _ _ x4)).trans x4; clear hb)
       clear y0
       go_cut [70] (fun v wc => v = .bool false ∧ Aside0 (wc = W9))
       case first =>
        by_cases c3 : fK key = -1
        case pos =>
         have c3a : ((fK key) == -1) = true := beq_iff_eq.2 c3
         have c3b : ((fK key) != -1) = false := bne_eq_false_iff_eq.2 c3
         replace c3 := Aside0.mk c3
         go_wp2_with fail
         go_meet
         case rel => exact ⟨rfl, ⟨rfl⟩⟩
        case neg =>
         have c4 := HK1.out c3
         have c3a : ((fK key) == -1) = false := beq_eq_false_iff_ne.2 c3
         have c3b : ((fK key) != -1) = true := bne_iff_ne.2 c3
         replace c3 := Aside0.mk c3
         have c4a : (x.f0 == (fK key)) = true := beq_iff_eq.2 c4
         have c4b : (x.f0 != (fK key)) = false := bne_eq_false_iff_eq.2 c4
         replace c4 := Aside0.mk c4
         have yt4 : W9.cell? ⟨bT, 4, none⟩ = some (.slice (some ad2) t.f4.length t4) := HP.out.cl 0 4 rfl rfl
         go_wp2_with fail
         go_meet
         case rel => exact ⟨rfl, ⟨rfl⟩⟩
       case rest =>
        obtain ⟨rfl, HW⟩ := hcut
        have hw_ := HW.out.symm
        subst hw_
        have yt4 : W9.cell? ⟨bT, 4, none⟩ = some (.slice (some ad2) t.f4.length t4) := HP.out.cl 0 4 rfl rfl
        have HM3 := Aside0.mk HX.out.now.1.2.1
        go_wp2_with fail
        go_loopg [78] x.f4.length (fun kq v_ w' => ∃ (mm : Int) (m : Nat), v_ = .int .i64 mm ∧ Aside0 (mm = (m : Int)) ∧ Aside0 (m + kq = x.f4.length) ∧ Aside0 (Bs w w' [(bT, #[.int .i64 t.f0, .bool t.f1, .int .i64 t.f2, .string t.f3, .slice (some ad2) t.f4.length t4, .slice (some ak) t.f5.length t5], 25), (bF, #[.int .i64 F.f0, .bool F.f1, .int .i64 F.f2, .string F.f3, .slice (some ad) F.f4.length e4, .slice E5 F.f5.length e5], 25), (bA, #[.int .i64 a.f0, .bool a.f1, .int .i64 a.f2, .string a.f3, .slice G4 a.f4.length g4, .slice G5 a.f5.length g5], 25), (bv, #[.int .i64 v.f0, .bool v.f1, .int .i64 v.f2, .string v.f3, .slice A4 v.f4.length c4, .slice A5 v.f5.length c5], 25)]))
        case atStart => exact ⟨0, 0, rfl, ⟨rfl⟩, ⟨by omega⟩, HP⟩
        case round =>
         clear HP
         obtain ⟨mm, m, rfl, HIIm, HIm, HP⟩ := hrel
         skip
         cases gk with
         | zero =>
          have e0 : decide (mm < (x.f4.length : Int)) = false := decide_eq_false (by have := HIIm.out; have := HIm.out; omega)
          go_wp2_with fail
          go_roundg kB
          case measure => omega
          case rel => exact ⟨_, j + 1, rfl, ⟨by have h1_ := HM2.out; have h2_ := HIIj.out; have h3_ := HIj.out; unfold wrap64; omega⟩, ⟨by have := HIj.out; omega⟩, HP⟩
         | succ kC =>
          clear yt4 x0 x4 pb0 pb1 pb2 qb0 qb1 qb2
          have pc0 : 0 ≤ mm := by have := HIIm.out; omega
          have pc1 : mm < (x.f4.length : Int) := by have := HIIm.out; have := HIm.out; omega
          have qc0 : decide (mm < (x.f4.length : Int)) = true := decide_eq_true pc1
          have qc1 : decide (0 ≤ mm) = true := decide_eq_true pc0
          obtain ⟨ad3, Y4, y4_, Y5, y5_, e_, x0, x1, x2, x3, x4, x5, _⟩ := at_F25 HX.out.1 mm pc0 pc1
          cases e_
          have hy : key.toList = ([111, 110, 101, 111, 102] : List UInt8) → (rd_T25 x.f4 mm).f0 = 3 := fun h_ => HK2.out h_ _ (rd25_in pc0 pc1)
          generalize rd_T25 x.f4 mm = y at x0 x1 x2 x3 x4 x5 hy
          have HYK := Aside0.mk hy
          clear hy
          replace x0 := (HP.out.B.cell (World.block_lt_of_cell? w _ x0)).trans x0
          replace x1 := (HP.out.B.cell (World.block_lt_of_cell? w _ x1)).trans x1
          replace x2 := (HP.out.B.cell (World.block_lt_of_cell? w _ x2)).trans x2
          replace x3 := (HP.out.B.cell (World.block_lt_of_cell? w _ x3)).trans x3
          replace x4 := (HP.out.B.cell (World.block_lt_of_cell? w _ x4)).trans x4
          replace x5 := (HP.out.B.cell (World.block_lt_of_cell? w _ x5)).trans x5
          replace pc0 := eq_true pc0
          replace pc1 := eq_true pc1
          go_upto_region 23 with (((with_reducible refine gate_dst (N := 13) rfl ?_); refine box_event ?hg (N := 13) ?hd (cs := #[.int .i64 0, .bool false, .int .i64 0, .string ⟨#[]⟩, .slice none 0 0, .slice none 0 0]) (t := 25) ?hr ?_; (case hd => rfl); (case hg => rfl); (case hr => first | (go_simp; done) | (go_simp; rfl)); intro gd hg_ Wa hbox hb; have n0 := Aside0.mk (HP.out.new hg_ hbox hb); clear HP; have HP := n0; clear n0; clear hg_ hbox hb; have yz0 : Wa.cell? ⟨gd, 0, none⟩ = some (.int .i64 0) := HP.out.cl 0 0 rfl rfl; have yz1 : Wa.cell? ⟨gd, 1, none⟩ = some (.bool false) := HP.out.cl 0 1 rfl rfl; have yz2 : Wa.cell? ⟨gd, 2, none⟩ = some (.int .i64 0) := HP.out.cl 0 2 rfl rfl; have yz3 : Wa.cell? ⟨gd, 3, none⟩ = some (.string ⟨#[]⟩) := HP.out.cl 0 3 rfl rfl; have yz4 : Wa.cell? ⟨gd, 4, none⟩ = some (.slice none 0 0) := HP.out.cl 0 4 rfl rfl; have yz5 : Wa.cell? ⟨gd, 5, none⟩ = some (.slice none 0 0) := HP.out.cl 0 5 rfl rfl; have zz0 := HP.out.fz 0 0 rfl; have zz1 := HP.out.fz 0 1 rfl; have zz2 := HP.out.fz 0 2 rfl; have zz3 := HP.out.fz 0 3 rfl; have zz4 := HP.out.fz 0 4 rfl; have zz5 := HP.out.fz 0 5 rfl))
          have n0 := Aside0.mk (HP.out.six 0 rfl (.int .i64 y.f0) (.bool y.f1) (.int .i64 y.f2) (.string y.f3) (.slice Y4 y.f4.length y4_) (.slice Y5 y.f5.length y5_))
          clear HP
          have HP := n0
          clear n0
          clear yz0 zz0 x0 yz1 zz1 x1 yz2 zz2 x2 yz3 zz3 x3 yz4 zz4 x4 yz5 zz5 x5
          generalize ((((((Wa.setCell ⟨gd, 0, none⟩ (.int .i64 y.f0)).setCell ⟨gd, 1, none⟩ (.bool y.f1)).setCell ⟨gd, 2, none⟩ (.int .i64 y.f2)).setCell ⟨gd, 3, none⟩ (.string y.f3)).setCell ⟨gd, 4, none⟩ (.slice Y4 y.f4.length y4_)).setCell ⟨gd, 5, none⟩ (.slice Y5 y.f5.length y5_)) = Wb at HP ⊢
          go_cut [88] (fun v wc => v = .bool false ∧ Aside0 (wc = Wb))
          case first =>
           by_cases c5 : key.toList = ([111, 110, 101, 111, 102] : List UInt8)
           case neg =>
            have c5a : (key.toList == ([111, 110, 101, 111, 102] : List UInt8)) = false := beq_eq_false_iff_ne.2 c5
            have c5b : (key.toList != ([111, 110, 101, 111, 102] : List UInt8)) = true := bne_iff_ne.2 c5
            replace c5 := Aside0.mk c5
            go_wp2_with fail
            go_meet
            case rel => exact ⟨rfl, ⟨rfl⟩⟩
           case pos =>
            have c6 := HYK.out c5
            have c5a : (key.toList == ([111, 110, 101, 111, 102] : List UInt8)) = true := beq_iff_eq.2 c5
            have c5b : (key.toList != ([111, 110, 101, 111, 102] : List UInt8)) = false := bne_eq_false_iff_eq.2 c5
            replace c5 := Aside0.mk c5
            have c6a : (y.f0 == 3) = true := beq_iff_eq.2 c6
            have c6b : (y.f0 != 3) = false := bne_eq_false_iff_eq.2 c6
            replace c6 := Aside0.mk c6
            have yy0 : Wb.cell? ⟨gd, 0, none⟩ = some (.int .i64 y.f0) := HP.out.cl 0 0 rfl rfl
            go_wp2_with fail
            go_meet
            case rel => exact ⟨rfl, ⟨rfl⟩⟩
          case rest =>
           obtain ⟨rfl, HW⟩ := hcut
           have hw_ := HW.out.symm
           subst hw_
           go_wp2_with fail
           go_roundg kC
           case measure => omega
           case rel => exact ⟨_, m + 1, rfl, ⟨by have h1_ := HM3.out; have h2_ := HIIm.out; have h3_ := HIm.out; unfold wrap64; omega⟩, ⟨by have := HIm.out; omega⟩, ⟨HP.out.tail⟩⟩
end Go.Proofs.YtlofkjdcapbohaaGreatDoor.PConfKeeps
