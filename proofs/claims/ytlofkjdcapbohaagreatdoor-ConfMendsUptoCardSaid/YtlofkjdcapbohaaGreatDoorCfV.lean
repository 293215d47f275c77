/- For the law ConfMends: remove, walked along keys that are there. No condition. -/
import Derived.Test.YtlofkjdcapbohaaGreatDoorCfCE
namespace Go.Proofs.YtlofkjdcapbohaaGreatDoor.PConfKeeps
open Go.RowKit Go.Proofs.YtlofkjdcapbohaaGreatDoorW.PrintWords Go.Proofs.YtlofkjdcapbohaaGreatDoorW.PrintLast Go.Proofs.YtlofkjdcapbohaaGreatDoorW.PrintMore
set_option linter.unusedVariables false
set_option linter.unusedSimpArgs false

/-- remove along keys that are there -/
def crem : List S95 → S25 → Option S25
 | [], _ => none
 | s :: l, v => if s.f0.toList = [] ∨ v.f0 ≠ 6 then none else (conf_find.f 6 v.f1 v.f2 v.f3 v.f4 v.f5 s.f0).bind fun b => if b.2 = true ∧ 0 ≤ b.1 ∧ b.1 < (v.f4.length : Int) ∧ b.1 < (v.f5.length : Int) ∧ v.f4.length ≤ 1000000 ∧ v.f5.length ≤ 1000000 then
   (if l = [] then some { v with f4 := v.f4.eraseIdx b.1.toNat, f5 := v.f5.take b.1.toNat ++ v.f5.drop (b.1.toNat + 1) } else (crem l (rd_T25 v.f4 b.1)).bind fun y => some { v with f4 := v.f4.set b.1.toNat y }) else none
theorem Bs.head_le2 {w W : World} {l : List (Nat × Array Value × Nat)} {g t : Nat} {cs : Array Value} (h : Bs w W ((g, cs, t) :: l)) : ∀ (i : Nat) (p : Nat × Array Value × Nat), ((g, cs, t) :: l)[i]? = some p → p.1 ≤ g := fun i p hp => by
 cases i with
 | zero => injection hp with hp; subst hp; exact Nat.le_refl _
 | succ i => exact Nat.le_of_lt (h.nd 0 (i + 1) _ p (by omega) rfl hp)
theorem Bs.apart2 {α : Type} {d : Kd α} {e : Nat} {w W : World} {l : List (Nat × Array Value × Nat)} {base : Nat} {ok : Nat → Prop} {v : Value} {xs : List α} (h : Bs w W l) (ho : Kd.R d e W base ok v xs) (ht : l.all (fun p => p.2.2 != e) = true) : ∀ (i : Nat) (p : Nat × Array Value × Nat), l[i]? = some p → some p.1 ≠ v.ownBlock := fun i p hp =>
 Kd.R_ne ho (h.blk i p hp) (fun he => by
  have := List.all_eq_true.1 ht p (List.mem_of_getElem? hp)
  rw [bne_iff_ne] at this
  exact this he.symm)
theorem rowk2 {W : World} {base g : Nat} {cv : Value} {xs : List ByteArray} (h : Kd.R Kd.string 9 W base (fun _ => True) cv xs) (hn : some g ≠ cv.ownBlock) : Kd.R Kd.string 9 W base (fun k => k ≠ g) cv xs :=
 ⟨fun k hk he => hn (by rw [← he]; exact hk.symm), h.2⟩
def okR (w : World) (ok0 : Nat → Prop) (bq : Nat) : Nat → Prop := fun k => (ok0 k ∧ k < w.heap.size) ∨ bq < k
set_option maxHeartbeats 4000000 in
set_option maxRecDepth 100000 in
theorem remove_calls : ∀ (l : List S95) (v : S25) (A4 : Option Addr) (c4 : Nat) (A5 : Option Addr) (c5 : Nat) (A1 : Option Addr) (c1 : Nat) (r : S25) (w : World) (ok0 : Nat → Prop) (hv : RdF w ok0 v A4 c4 A5 c5) (hl : Kd.C k95 w A1 l.length l) (hc : l.length ≤ c1) (h : crem l v = some r),
  Calls Tryz.prog 27 #[.agg #[.int .i64 v.f0, .bool v.f1, .int .i64 v.f2, .string v.f3, .slice A4 v.f4.length c4, .slice A5 v.f5.length c5], .slice A1 l.length c1] w fun e w' => ∃ E4 e4 E5 e5, e = .returned (.tuple #[.agg #[.int .i64 r.f0, .bool r.f1, .int .i64 r.f2, .string r.f3, .slice E4 r.f4.length e4, .slice E5 r.f5.length e5], .int .i64 0]) ∧ RdF w' (fun k => ok0 k ∨ w.heap.size ≤ k) r E4 e4 E5 e5 ∧ Below w.heap.size w w' := by
 intro l
 induction l with
 | nil => intro v A4 c4 A5 c5 A1 c1 r w ok0 hv hl hc h; cases h
 | cons s l ih =>
  intro v A4 c4 A5 c5 A1 c1 r w ok0 hv hl hc h
  have hu25 := Tryz.underlying25
  have hu95 := Tryz.underlying95
  rw [crem] at h
  by_cases c0 : s.f0.toList = [] ∨ v.f0 ≠ 6
  case pos => rw [if_pos c0] at h; cases h
  rw [if_neg c0] at h
  have c1' : s.f0.toList ≠ [] := fun h_ => c0 (.inl h_)
  have c2' : v.f0 = 6 := Classical.byContradiction fun h_ => c0 (.inr h_)
  clear c0
  obtain ⟨⟨i, b⟩, hf, h⟩ := Option.bind_eq_some_iff.1 h
  by_cases c3 : b = true ∧ 0 ≤ i ∧ i < (v.f4.length : Int) ∧ i < (v.f5.length : Int) ∧ v.f4.length ≤ 1000000 ∧ v.f5.length ≤ 1000000
  case neg => rw [if_neg c3] at h; cases h
  rw [if_pos c3] at h
  obtain ⟨rfl, p0, p4, p5, l4, l5⟩ := c3
  obtain ⟨n, rfl⟩ : ∃ n : Nat, i = (n : Int) := ⟨i.toNat, by omega⟩
  rw [Int.toNat_natCast] at h
  have HFO := Aside0.mk (show cfollow v s = some (rd_T25 v.f4 (n : Int), true) by unfold cfollow; rw [if_neg c1', if_pos c2', c2', hf, Option.bind_some]; dsimp only; rw [if_pos rfl, if_pos p0, if_pos p4])
  have HF := Aside0.mk hf
  have H := Aside0.mk h
  have IH := Aside0.mk ih
  have HV := Aside0.mk hv
  have HL := Aside0.mk hl
  have HP := Aside0.mk (Bs.nil w)
  have L4 := Aside0.mk l4
  have L5 := Aside0.mk l5
  have P0 := Aside0.mk p0
  have P4 := Aside0.mk p4
  have P5 := Aside0.mk p5
  have K6 := Aside0.mk c2'
  have e1 : (s.f0.toList == []) = false := beq_eq_false_iff_ne.2 c1'
  have e2 : (s.f0.toList != []) = true := bne_iff_ne.2 c1'
  have e3 : s.f0.toList.isEmpty = false := by simpa using c1'
  have e6 : (v.f0 == 6) = true := beq_iff_eq.2 c2'
  have e7 : (v.f0 != 6) = false := bne_eq_false_iff_eq.2 c2'
  clear hv h ih hf l4 l5 p0 p4 p5 c1' c2'
  obtain ⟨pa, rfl, x0, x1, x2⟩ := at_T95 hl 0 (Int.le_refl _) (by simp)
  have es : rd_T95 (s :: l) 0 = s := rfl
  rw [es] at x0 x1 x2
  simp only [Int.toNat_zero, Nat.zero_mul] at x0 x1 x2
  have hz : pa.add 0 = pa := by unfold Addr.add; rfl
  rw [hz] at x0 x1 x2
  clear hz hl es
  have ln : (s :: l).length = l.length + 1 := rfl
  rw [ln] at hc ⊢
  have ll : (1 : Int) ≤ (l.length : Int) + 1 := by omega
  have ll2 : decide ((0 : Int) < (l.length : Int) + 1) = true := decide_eq_true (by omega)
  generalize hor : rd_T25 v.f4 (n : Int) = od at HFO H
  have HOD := Aside0.mk hor
  clear hor
  go_enter Tryz.func27, Tryz.ntmps27
  go_upto_region 1 with (first | ((with_reducible refine gate_dst (N := 2) rfl ?_); refine box_event ?hg (N := 2) ?hd (cs := #[.int .i64 v.f0, .bool v.f1, .int .i64 v.f2, .string v.f3, .slice A4 v.f4.length c4, .slice A5 v.f5.length c5]) (t := 25) ?hr ?_; (case hd => rfl); (case hg => rfl); (case hr => first | (go_simp; done) | (go_simp; rfl)); intro bv hg_ W1 hbox hb; have n0 := Aside0.mk (HP.out.new hg_ hbox hb); clear HP; have HP := n0; clear n0; clear hg_ hbox hb) | ((with_reducible refine gate_dst (N := 4) rfl ?_); refine box_event ?hg (N := 4) ?hd (cs := #[.int .i64 0, .bool false, .int .i64 0, .string ⟨#[]⟩, .slice none 0 0, .slice none 0 0]) (t := 25) ?hr ?_; (case hd => rfl); (case hg => rfl); (case hr => first | (go_simp; done) | (go_simp; rfl)); intro br hg_ W2 hbox hb; have n0 := Aside0.mk (HP.out.new hg_ hbox hb); clear HP; have HP := n0; clear n0; clear hg_ hbox hb))
  replace x0 := (HP.out.B.cell (World.block_lt_of_cell? w _ x0)).trans x0
  replace x1 := (HP.out.B.cell (World.block_lt_of_cell? w _ x1)).trans x1
  replace x2 := (HP.out.B.cell (World.block_lt_of_cell? w _ x2)).trans x2
  go_upto_region 2 with (((with_reducible refine gate_dst (N := 6) rfl ?_); refine box_event ?hg (N := 6) ?hd (cs := #[.string ⟨#[]⟩, .int .i64 0, .bool false]) (t := 95) ?hr ?_; (case hd => rfl); (case hg => rfl); (case hr => first | (go_simp; done) | (go_simp; rfl)); intro bs hg_ W3 hbox hb; have n0 := Aside0.mk (HP.out.new hg_ hbox hb); clear HP; have HP := n0; clear n0; clear hg_ hbox hb; have yz0 : W3.cell? ⟨bs, 0, none⟩ = some (.string ⟨#[]⟩) := HP.out.cl 0 0 rfl rfl; have yz1 : W3.cell? ⟨bs, 1, none⟩ = some (.int .i64 0) := HP.out.cl 0 1 rfl rfl; have yz2 : W3.cell? ⟨bs, 2, none⟩ = some (.bool false) := HP.out.cl 0 2 rfl rfl; have zz0 := HP.out.fz 0 0 rfl; have zz1 := HP.out.fz 0 1 rfl; have zz2 := HP.out.fz 0 2 rfl))
  have n0 := Aside0.mk (HP.out.three 0 rfl (.string s.f0) (.int .i64 s.f1) (.bool s.f2))
  clear HP
  have HP := n0
  clear n0
  clear yz0 yz1 yz2 zz0 zz1 zz2 x0 x1 x2
  generalize ((W3.setCell ⟨bs, 0, none⟩ (.string s.f0)).setCell ⟨bs, 1, none⟩ (.int .i64 s.f1)).setCell ⟨bs, 2, none⟩ (.bool s.f2) = W4 at HP ⊢
  have yv0 : W4.cell? ⟨bv, 0, none⟩ = some (.int .i64 v.f0) := HP.out.cl 2 0 rfl rfl
  have yv1 : W4.cell? ⟨bv, 1, none⟩ = some (.bool v.f1) := HP.out.cl 2 1 rfl rfl
  have yv2 : W4.cell? ⟨bv, 2, none⟩ = some (.int .i64 v.f2) := HP.out.cl 2 2 rfl rfl
  have yv3 : W4.cell? ⟨bv, 3, none⟩ = some (.string v.f3) := HP.out.cl 2 3 rfl rfl
  have yv4 : W4.cell? ⟨bv, 4, none⟩ = some (.slice A4 v.f4.length c4) := HP.out.cl 2 4 rfl rfl
  have yv5 : W4.cell? ⟨bv, 5, none⟩ = some (.slice A5 v.f5.length c5) := HP.out.cl 2 5 rfl rfl
  have ys0 : W4.cell? ⟨bs, 0, none⟩ = some (.string s.f0) := HP.out.cl 0 0 rfl rfl
  have ys1 : W4.cell? ⟨bs, 1, none⟩ = some (.int .i64 s.f1) := HP.out.cl 0 1 rfl rfl
  have ys2 : W4.cell? ⟨bs, 2, none⟩ = some (.bool s.f2) := HP.out.cl 0 2 rfl rfl
  go_upto_region 3 with (first | (go_at_call 49; refine (follow_calls v A4 c4 A5 c5 s (od, true) _ (fun k => ok0 k ∧ k < w.heap.size) (HV.out.bound.below HP.out.B).K HFO.out).mono ?_; rintro e W5 ⟨G4, g4, G5, g5, rfl, hro, hb⟩; have HRO := Aside0.mk hro; clear hro; have n0 := Aside0.mk (HP.out.below hb); clear HP; have HP := n0; clear n0; clear hb) | ((with_reducible refine gate_dst (N := 7) rfl ?_); refine box_event ?hg (N := 7) ?hd (cs := #[.int .i64 0, .bool false, .int .i64 0, .string ⟨#[]⟩, .slice none 0 0, .slice none 0 0]) (t := 25) ?hr ?_; (case hd => rfl); (case hg => rfl); (case hr => first | (go_simp; done) | (go_simp; rfl)); intro bo hg_ W6 hbox hb; have n0 := Aside0.mk (HP.out.new hg_ hbox hb); have n1 := Aside0.mk (HRO.out.below hb); clear HP HRO; have HP := n0; have HRO := n1; clear n0 n1; clear hg_ hbox hb; have yz0 : W6.cell? ⟨bo, 0, none⟩ = some (.int .i64 0) := HP.out.cl 0 0 rfl rfl; have yz1 : W6.cell? ⟨bo, 1, none⟩ = some (.bool false) := HP.out.cl 0 1 rfl rfl; have yz2 : W6.cell? ⟨bo, 2, none⟩ = some (.int .i64 0) := HP.out.cl 0 2 rfl rfl; have yz3 : W6.cell? ⟨bo, 3, none⟩ = some (.string ⟨#[]⟩) := HP.out.cl 0 3 rfl rfl; have yz4 : W6.cell? ⟨bo, 4, none⟩ = some (.slice none 0 0) := HP.out.cl 0 4 rfl rfl; have yz5 : W6.cell? ⟨bo, 5, none⟩ = some (.slice none 0 0) := HP.out.cl 0 5 rfl rfl; have zz0 := HP.out.fz 0 0 rfl; have zz1 := HP.out.fz 0 1 rfl; have zz2 := HP.out.fz 0 2 rfl; have zz3 := HP.out.fz 0 3 rfl; have zz4 := HP.out.fz 0 4 rfl; have zz5 := HP.out.fz 0 5 rfl))
  have n0 := Aside0.mk (HP.out.six 0 rfl (.int .i64 od.f0) (.bool od.f1) (.int .i64 od.f2) (.string od.f3) (.slice G4 od.f4.length g4) (.slice G5 od.f5.length g5))
  have n1 := Aside0.mk (HRO.out.six (g := bo) (fun k hk => by have := hk.2; have := HP.out.low 0 rfl; omega) (.int .i64 od.f0) (.bool od.f1) (.int .i64 od.f2) (.string od.f3) (.slice G4 od.f4.length g4) (.slice G5 od.f5.length g5))
  clear HP HRO
  have HP := n0
  have HRO := n1
  clear n0 n1
  clear ys0 ys1 ys2 yz0 zz0 yv0 yz1 zz1 yv1 yz2 zz2 yv2 yz3 zz3 yv3 yz4 zz4 yv4 yz5 zz5 yv5
  generalize ((((((W6.setCell ⟨bo, 0, none⟩ (.int .i64 od.f0)).setCell ⟨bo, 1, none⟩ (.bool od.f1)).setCell ⟨bo, 2, none⟩ (.int .i64 od.f2)).setCell ⟨bo, 3, none⟩ (.string od.f3)).setCell ⟨bo, 4, none⟩ (.slice G4 od.f4.length g4)).setCell ⟨bo, 5, none⟩ (.slice G5 od.f5.length g5)) = W7 at HP HRO ⊢
  have ys0 : W7.cell? ⟨bs, 0, none⟩ = some (.string s.f0) := HP.out.cl 1 0 rfl rfl
  have ys1 : W7.cell? ⟨bs, 1, none⟩ = some (.int .i64 s.f1) := HP.out.cl 1 1 rfl rfl
  go_upto_region 7 with (fail)
  have yv0 : W7.cell? ⟨bv, 0, none⟩ = some (.int .i64 v.f0) := HP.out.cl 3 0 rfl rfl
  have yv1 : W7.cell? ⟨bv, 1, none⟩ = some (.bool v.f1) := HP.out.cl 3 1 rfl rfl
  have yv2 : W7.cell? ⟨bv, 2, none⟩ = some (.int .i64 v.f2) := HP.out.cl 3 2 rfl rfl
  have yv3 : W7.cell? ⟨bv, 3, none⟩ = some (.string v.f3) := HP.out.cl 3 3 rfl rfl
  have yv4 : W7.cell? ⟨bv, 4, none⟩ = some (.slice A4 v.f4.length c4) := HP.out.cl 3 4 rfl rfl
  have yv5 : W7.cell? ⟨bv, 5, none⟩ = some (.slice A5 v.f5.length c5) := HP.out.cl 3 5 rfl rfl
  go_upto_region 8 with (go_at_call 55; rw [K6.out]; refine (conf_find.calls 6 v.f1 v.f2 v.f3 A4 c4 v.f4 A5 c5 v.f5 s.f0 (n : Int) true _ (HV.out.below HP.out.B).now.1 HV.out.2.1 (HV.out.below HP.out.B).now.2.2.1 HV.out.2.2.2 HF.out).mono ?_; rintro e W8 ⟨rfl, hb⟩; have n0 := Aside0.mk (HP.out.below hb); have n1 := Aside0.mk (HRO.out.below hb); clear HP HRO; have HP := n0; have HRO := n1; clear n0 n1; clear hb)
  clear ys0 ys1 yv0 yv1 yv2 yv3 yv4 yv5
  have yv0 : W8.cell? ⟨bv, 0, none⟩ = some (.int .i64 v.f0) := HP.out.cl 3 0 rfl rfl
  have yv1 : W8.cell? ⟨bv, 1, none⟩ = some (.bool v.f1) := HP.out.cl 3 1 rfl rfl
  have yv2 : W8.cell? ⟨bv, 2, none⟩ = some (.int .i64 v.f2) := HP.out.cl 3 2 rfl rfl
  have yv3 : W8.cell? ⟨bv, 3, none⟩ = some (.string v.f3) := HP.out.cl 3 3 rfl rfl
  have yv4 : W8.cell? ⟨bv, 4, none⟩ = some (.slice A4 v.f4.length c4) := HP.out.cl 3 4 rfl rfl
  have yv5 : W8.cell? ⟨bv, 5, none⟩ = some (.slice A5 v.f5.length c5) := HP.out.cl 3 5 rfl rfl
  go_upto_region 9 with (((with_reducible refine gate_dst (N := 10) rfl ?_); refine box_event ?hg (N := 10) ?hd (cs := #[.int .i64 0, .bool false, .int .i64 0, .string ⟨#[]⟩, .slice none 0 0, .slice none 0 0]) (t := 25) ?hr ?_; (case hd => rfl); (case hg => rfl); (case hr => first | (go_simp; done) | (go_simp; rfl)); intro bq hg_ W9 hbox hb; have n0 := Aside0.mk (HP.out.new hg_ hbox hb); have n1 := Aside0.mk (HRO.out.below hb); clear HP HRO; have HP := n0; have HRO := n1; clear n0 n1; clear hg_ hbox hb; have yz0 : W9.cell? ⟨bq, 0, none⟩ = some (.int .i64 0) := HP.out.cl 0 0 rfl rfl; have yz1 : W9.cell? ⟨bq, 1, none⟩ = some (.bool false) := HP.out.cl 0 1 rfl rfl; have yz2 : W9.cell? ⟨bq, 2, none⟩ = some (.int .i64 0) := HP.out.cl 0 2 rfl rfl; have yz3 : W9.cell? ⟨bq, 3, none⟩ = some (.string ⟨#[]⟩) := HP.out.cl 0 3 rfl rfl; have yz4 : W9.cell? ⟨bq, 4, none⟩ = some (.slice none 0 0) := HP.out.cl 0 4 rfl rfl; have yz5 : W9.cell? ⟨bq, 5, none⟩ = some (.slice none 0 0) := HP.out.cl 0 5 rfl rfl; have zz0 := HP.out.fz 0 0 rfl; have zz1 := HP.out.fz 0 1 rfl; have zz2 := HP.out.fz 0 2 rfl; have zz3 := HP.out.fz 0 3 rfl; have zz4 := HP.out.fz 0 4 rfl; have zz5 := HP.out.fz 0 5 rfl))
  have n0 := Aside0.mk (HP.out.six 0 rfl (.int .i64 v.f0) (.bool v.f1) (.int .i64 v.f2) (.string v.f3) (.slice A4 v.f4.length c4) (.slice A5 v.f5.length c5))
  have n1 := Aside0.mk (HRO.out.six (g := bq) (fun k hk => by have := hk.2; have := HP.out.low 0 rfl; omega) (.int .i64 v.f0) (.bool v.f1) (.int .i64 v.f2) (.string v.f3) (.slice A4 v.f4.length c4) (.slice A5 v.f5.length c5))
  clear HP HRO
  have HP := n0
  have HRO := n1
  clear n0 n1
  clear yz0 zz0 yv0 yz1 zz1 yv1 yz2 zz2 yv2 yz3 zz3 yv3 yz4 zz4 yv4 yz5 zz5 yv5
  generalize ((((((W9.setCell ⟨bq, 0, none⟩ (.int .i64 v.f0)).setCell ⟨bq, 1, none⟩ (.bool v.f1)).setCell ⟨bq, 2, none⟩ (.int .i64 v.f2)).setCell ⟨bq, 3, none⟩ (.string v.f3)).setCell ⟨bq, 4, none⟩ (.slice A4 v.f4.length c4)).setCell ⟨bq, 5, none⟩ (.slice A5 v.f5.length c5)) = Wa at HP HRO ⊢
  have yv4 : Wa.cell? ⟨bv, 4, none⟩ = some (.slice A4 v.f4.length c4) := HP.out.cl 4 4 rfl rfl
  have yq4 : Wa.cell? ⟨bq, 4, none⟩ = some (.slice A4 v.f4.length c4) := HP.out.cl 0 4 rfl rfl
  have zq4 := HP.out.fz 0 4 rfl
  have LBQ := Aside0.mk (HP.out.lt 0 rfl)
  have GBV := Aside0.mk (HP.out.low 4 rfl)
  have GBQ := Aside0.mk (HP.out.low 0 rfl)
  go_upto_region 10 with ((with_reducible refine gate_builtin (b := .append) (xs := #[.const (.slice none 0 0), .tmp 39]) rfl ?_); (try (refine gate_guard (by rfl) ?_; dsimp only)); at_builtin; obtain ⟨nb, hnb⟩ : ∃ nb, nb = Wa.heap.size := ⟨_, rfl⟩; refine Kd.N_append_rows k25 (w0 := Wa) nb rfl (.const (.slice none 0 0)) (.tmp 39) 22 25 (.agg #[.int .i64 0, .bool false, .int .i64 0, .string ⟨#[]⟩, .slice none 0 0, .slice none 0 0]) 88 rfl Tryz.underlying22 info25' rfl (by decide) (by omega) (.slice none 0 0) ([] : List S25) v.f4 _ _ _ (okR w ok0 bq) (fun k => ok0 k ∧ k < w.heap.size) rfl rfl (Kd.N_nil _ _ _ _ _) (HV.out.bound.below HP.out.B).1 (fun k hk => ⟨.inl hk, by simp [Value.ownBlock]⟩) (fun k hk => .inr (by have := LBQ.out; omega)) (Below.refl _ _) (Nat.le_of_eq hnb) (by have := L4.out; simp; omega) ?_; intro v1 Wb ho hb hg hat; have HNB := Aside0.mk hnb; rw [List.nil_append] at ho; have LV := Aside0.mk (own_of_nil hat); have n0 := Aside0.mk (HP.out.grown hg (HP.out.B.grown hg HP.out.size (fun k e => by simp [Value.ownBlock] at e)) (fun _ _ _ => by simp [Value.ownBlock])); have n1 := Aside0.mk (HRO.out.step (fun k _ hlt => hg.block k hlt (by simp [Value.ownBlock]))); clear HP HRO; have HP := n0; have HRO := n1; clear n0 n1; have HN := Aside0.mk ho; have HSB := Aside0.mk (show nb ≤ Wb.heap.size by rw [hnb]; exact hg.size); clear ho hb hg hat hnb; obtain ⟨Av, cv, hv1⟩ := Kd.N_slice HN.out; subst hv1; have yb4 : Wb.cell? ⟨bq, 4, none⟩ = some (.slice A4 v.f4.length c4) := HP.out.cl 0 4 rfl rfl; have zb4 := HP.out.fz 0 4 rfl)
  clear yv4 yq4 zq4 yb4 zb4
  have n0 := Aside0.mk ((HP.out.put' 0 rfl 4 (.slice Av v.f4.length cv) rfl).1)
  have n1 := Aside0.mk (Kd.N_far HN.out (p := ⟨bq, 4, none⟩) (fun k hk => by rcases hk with h_ | h_; (have := h_.2; have := GBQ.out; show k ≠ bq; omega); exact Nat.ne_of_gt h_) (.slice Av v.f4.length cv))
  have n2 := Aside0.mk (HRO.out.step (fun k hk hlt => Below.heap_setCell Wb ⟨bq, 4, none⟩ (.slice Av v.f4.length cv) k (by have h_ := hk.2; have := GBQ.out; show k ≠ bq; omega)))
  have n3 := Aside0.mk (show nb ≤ (Wb.setCell ⟨bq, 4, none⟩ (.slice Av v.f4.length cv)).heap.size from Nat.le_trans HSB.out ((Below.refl 0 Wb).setCell (p := ⟨bq, 4, none⟩) (Nat.zero_le _) (.slice Av v.f4.length cv)).size)
  clear HP HN HRO HSB
  have HP := n0
  have HN := n1
  have HRO := n2
  have HSB := n3
  clear n0 n1 n2 n3
  generalize Wb.setCell ⟨bq, 4, none⟩ (.slice Av v.f4.length cv) = Wc at HP HN HRO HSB ⊢
  have H1 := H.out
  obtain ⟨bl, hbl⟩ : ∃ b, b = decide (0 < l.length) := ⟨_, rfl⟩
  have d1 : decide ((1 : Int) < (l.length : Int) + 1) = bl := by rw [hbl]; exact decide_eq_decide.2 (by omega)
  have d2 : decide ((l.length : Int) + 1 > 1) = bl := by rw [hbl]; exact decide_eq_decide.2 (by omega)
  have d3 : decide (0 < l.length) = bl := hbl.symm
  have d4 : decide ((0 : Int) < (l.length : Int)) = bl := by rw [hbl]; exact decide_eq_decide.2 (by omega)
  have d5 : decide (1 < l.length + 1) = bl := by rw [hbl]; exact decide_eq_decide.2 (by omega)
  have HBL := Aside0.mk hbl
  clear hbl
  go_upto_if 44 with (fail)
  (try simp only [Act.put, List.setIfInBounds_toArray, List.set_cons_zero, List.set_cons_succ])
  clear d1 d2 d3 d4 d5 H
  by_cases cl : l = []
  case neg =>
   rw [if_neg cl] at H1
   obtain ⟨y, hy, H1⟩ := Option.bind_eq_some_iff.1 H1
   injection H1 with H1
   have HY := Aside0.mk hy
   have HE := Aside0.mk H1.symm
   have hb_ := HBL.out
   rw [decide_eq_true (List.length_pos_iff.2 cl)] at hb_
   subst hb_
   clear hy H1 cl
   go_upto_region 11 with (fail)
   obtain ⟨sc, hsc⟩ : ∃ n, n = Wc.heap.size := ⟨_, rfl⟩
   have HSC := Aside0.mk (Nat.le_of_eq hsc)
   have n0 := Aside0.mk (Kd.N_mono (Kd.N_bound HN.out) (ok' := fun k => okR w ok0 bq k ∧ k < sc) (fun k hk => ⟨hk.1, by rw [hsc]; exact hk.2⟩))
   clear HN hsc
   have HN := n0
   clear n0
   have hb := below_drew (Below.refl Wc.heap.size Wc)
   have n0 := Aside0.mk (HP.out.below hb)
   have n1 := Aside0.mk (HRO.out.below hb)
   have n2 := Aside0.mk (Kd.N_below HN.out hb)
   have n3 := Aside0.mk (Nat.le_trans HSC.out hb.size)
   clear HP HRO HN HSC
   have HP := n0
   have HRO := n1
   have HN := n2
   have HSC := n3
   clear n0 n1 n2 n3
   clear hb
   refine start_ (n := 10) (S := fun w' => w'.cell? ⟨bo, 0, none⟩ = some (.int .i64 od.f0) ∧ w'.cell? ⟨bo, 1, none⟩ = some (.bool od.f1) ∧ w'.cell? ⟨bo, 2, none⟩ = some (.int .i64 od.f2) ∧ w'.cell? ⟨bo, 3, none⟩ = some (.string od.f3) ∧ w'.cell? ⟨bo, 4, none⟩ = some (.slice G4 od.f4.length g4) ∧ w'.cell? ⟨bo, 5, none⟩ = some (.slice G5 od.f5.length g5)) (ds := [8]) #[false, false, false, false, false, false, false, false, false, false] (by kernel_rfl) rfl rfl ⟨HP.out.cl 1 0 rfl rfl, HP.out.cl 1 1 rfl rfl, HP.out.cl 1 2 rfl rfl, HP.out.cl 1 3 rfl rfl, HP.out.cl 1 4 rfl rfl, HP.out.cl 1 5 rfl rfl⟩ (fun hHeld => ?_)
   generalize Wc.drew = Wd at HP HRO HN HSC hHeld ⊢
   refine pure_ (i := 1) (N := some 47) (v := ?_) (a' := ?_) (ob 10 2) rfl rfl (by kernel_rfl) (fun _ _ _ h => h) (Or.inl ⟨by rfl, ?_⟩) ?_ ?_
   rotate_left
   ·intro w'
    go_simp
    with_reducible rfl
   rotate_left
   ·simp only [Act.put, List.setIfInBounds_toArray, List.set_cons_zero, List.set_cons_succ, i64_w, i32_w]
    rfl
   refine pure_ (i := 2) (N := some 48) (v := ?_) (a' := ?_) (ob 10 6) rfl rfl (by kernel_rfl) (fun _ _ _ h => h) (Or.inl ⟨by rfl, ?_⟩) ?_ ?_
   rotate_left
   ·intro w'
    go_simp
    with_reducible rfl
   rotate_left
   ·simp only [Act.put, List.setIfInBounds_toArray, List.set_cons_zero, List.set_cons_succ, i64_w, i32_w]
    rfl
   refine take_ (i := 0) (N := some 46) (v := ?_) (a' := ?_) (ob 10 7) rfl rfl (by kernel_rfl) (fun _ _ _ h => h) (Or.inl ⟨by rfl, ?_⟩) hHeld ?_ ?_
   rotate_left
   ·rintro w' ⟨s0, s1, s2, s3, s4, s5⟩
    go_simp
    with_reducible rfl
   rotate_left
   ·simp only [Act.put, List.setIfInBounds_toArray, List.set_cons_zero, List.set_cons_succ, i64_w, i32_w]
    rfl
   refine join_ (σ := Option Addr × Nat × Option Addr × Nat × Nat) 2 (ob 10 255) (fun q => [(49, .tuple #[.agg #[.int .i64 y.f0, .bool y.f1, .int .i64 y.f2, .string y.f3, .slice q.1 y.f4.length q.2.1, .slice q.2.2.1 y.f5.length q.2.2.2.1], .int .i64 0]), (45, .tuple #[.agg #[.int .i64 y.f0, .bool y.f1, .int .i64 y.f2, .string y.f3, .slice q.1 y.f4.length q.2.1, .slice q.2.2.1 y.f5.length q.2.2.2.1], .int .i64 0]), (50, .agg #[.int .i64 y.f0, .bool y.f1, .int .i64 y.f2, .string y.f3, .slice q.1 y.f4.length q.2.1, .slice q.2.2.1 y.f5.length q.2.2.2.1]), (51, .int .i64 0), (11, .pointer (some ⟨q.2.2.2.2, 0, none⟩))]) (fun q w' => Bs w w' [(q.2.2.2.2, #[.int .i64 0, .bool false, .int .i64 0, .string ⟨#[]⟩, .slice none 0 0, .slice none 0 0], 25), (bq, #[.int .i64 v.f0, .bool v.f1, .int .i64 v.f2, .string v.f3, .slice Av v.f4.length cv, .slice A5 v.f5.length c5], 25), (bo, #[.int .i64 od.f0, .bool od.f1, .int .i64 od.f2, .string od.f3, .slice G4 od.f4.length g4, .slice G5 od.f5.length g5], 25), (bs, #[.string s.f0, .int .i64 s.f1, .bool s.f2], 95), (br, #[.int .i64 0, .bool false, .int .i64 0, .string ⟨#[]⟩, .slice none 0 0, .slice none 0 0], 25), (bv, #[.int .i64 v.f0, .bool v.f1, .int .i64 v.f2, .string v.f3, .slice A4 v.f4.length c4, .slice A5 v.f5.length c5], 25)] ∧ RdF w' (fun k => ((ok0 k ∧ k < w.heap.size) ∨ sc ≤ k) ∧ k ≠ q.2.2.2.2) y q.1 q.2.1 q.2.2.1 q.2.2.2.1 ∧ Kd.N k25 25 w' nb (fun k => okR w ok0 bq k ∧ k < sc) (.slice Av v.f4.length cv) v.f4 ∧ sc ≤ q.2.2.2.2) ?_ ?_
   rotate_left
   ·intro hCont
    refine two_ (i := 3) (j := 7) (Ni := some 49) (Nj := some 11) (ob 10 15) (ob 10 135) rfl rfl rfl rfl (by kernel_rfl) (by decide) (by decide) (fun K hK => ?_) (fun K hK => ?_)
    ·skip
     refine goes_ Tryz.func27 (by kernel_rfl) rfl #[.agg #[.int .i64 od.f0, .bool od.f1, .int .i64 od.f2, .string od.f3, .slice G4 od.f4.length g4, .slice G5 od.f5.length g5], .slice (if c1 = 1 then some pa else some ⟨pa.block, pa.off + 3, none⟩) l.length (c1 - 1)] (by rfl) rfl rfl (by simp only [List.map_toArray, List.map_cons, List.map_nil]; rfl) ?_
     refine (IH.out od G4 g4 G5 g5 _ _ y _ (fun k => ok0 k ∧ k < w.heap.size) HRO.out ?sl (by omega) HY.out).mono ?_
     case sl => have h_ := Kd.C_below (Kd.C_drop HL.out (show 1 ≤ (s :: l).length by simp) (show (s :: l).length ≤ c1 from hc)) HP.out.B; simp only [List.drop_one, List.tail_cons, show k95.sz = 3 from rfl, Nat.one_mul] at h_; exact h_
     rintro e y3 ⟨J4, j4, J5, j5, rfl, hyr, hb⟩
     refine ⟨_, rfl, ?_⟩
     have HYR := Aside0.mk (hyr.mono (ok' := fun k => (ok0 k ∧ k < w.heap.size) ∨ sc ≤ k) (fun k hk => hk.elim .inl (fun h_ => .inr (by have := HSC.out; omega))))
     have n0 := Aside0.mk (HP.out.below hb)
     have n1 := Aside0.mk (Kd.N_below HN.out hb)
     have n2 := Aside0.mk (Nat.le_trans HSC.out hb.size)
     clear HP HN HSC
     have HP := n0
     have HN := n1
     have HSC := n2
     clear n0 n1 n2
     clear hyr hb
     refine hK.out _ _ ⟨HP.out.cl 1 0 rfl rfl, HP.out.cl 1 1 rfl rfl, HP.out.cl 1 2 rfl rfl, HP.out.cl 1 3 rfl rfl, HP.out.cl 1 4 rfl rfl, HP.out.cl 1 5 rfl rfl⟩ (fun hHeld => ?_)
     clear hK K
     refine norm_ (a' := ?_) ?_ ?_
     rotate_left
     ·show Act.put _ (some 49) _ = _
      simp only [Act.put, List.setIfInBounds_toArray, List.set_cons_zero, List.set_cons_succ, i64_w, i32_w]
      rfl
     refine pure_ (i := 4) (N := some 45) (v := ?_) (a' := ?_) (ob 10 31) rfl rfl (by kernel_rfl) (fun _ _ _ h => h) (Or.inl ⟨by rfl, ?_⟩) ?_ ?_
     rotate_left
     ·intro w'
      go_simp
      with_reducible rfl
     rotate_left
     ·simp only [Act.put, List.setIfInBounds_toArray, List.set_cons_zero, List.set_cons_succ, i64_w, i32_w]
      rfl
     refine pure_ (i := 5) (N := some 50) (v := ?_) (a' := ?_) (ob 10 63) rfl rfl (by kernel_rfl) (fun _ _ _ h => h) (Or.inl ⟨by rfl, ?_⟩) ?_ ?_
     rotate_left
     ·intro w'
      go_simp
      with_reducible rfl
     rotate_left
     ·simp only [Act.put, List.setIfInBounds_toArray, List.set_cons_zero, List.set_cons_succ, i64_w, i32_w]
      rfl
     refine pure_ (i := 6) (N := some 51) (v := ?_) (a' := ?_) (ob 10 127) rfl rfl (by kernel_rfl) (fun _ _ _ h => h) (Or.inl ⟨by rfl, ?_⟩) ?_ ?_
     rotate_left
     ·intro w'
      go_simp
      with_reducible rfl
     rotate_left
     ·simp only [Act.put, List.setIfInBounds_toArray, List.set_cons_zero, List.set_cons_succ, i64_w, i32_w]
      rfl
     refine one_ (i := 7) (N := some 11) (ob 10 255) rfl rfl (by kernel_rfl) (by decide) (fun K hK => ?_)
     refine value_ (w1 := ?_) (v := ?_) (by rfl) rfl ?_ ?_
     rotate_left 2
     ·go_simp
      constructor
      ·rfl
      ·rfl
     have HBY := Aside0.mk HSC.out
     have hb := below_alloc (Below.refl y3.heap.size y3) (.cells #[.int .i64 0, .bool false, .int .i64 0, .string ⟨#[]⟩, .slice none 0 0, .slice none 0 0] 25)
     have n3 := Aside0.mk ((HYR.out.bound.below hb).mono (ok' := fun k => ((ok0 k ∧ k < w.heap.size) ∨ sc ≤ k) ∧ k ≠ y3.heap.size) (fun k hk => ⟨hk.1, Nat.ne_of_lt hk.2⟩))
     clear HYR
     have HYR := n3
     clear n3
     have n0 := Aside0.mk (HP.out.new (g := y3.heap.size) rfl (blk_new y3 (.cells #[.int .i64 0, .bool false, .int .i64 0, .string ⟨#[]⟩, .slice none 0 0, .slice none 0 0] 25)) hb)
     have n1 := Aside0.mk (Kd.N_below HN.out hb)
     have n2 := Aside0.mk (Nat.le_trans HSC.out hb.size)
     clear HP HN HSC
     have HP := n0
     have HN := n1
     have HSC := n2
     clear n0 n1 n2
     clear hb
     generalize y3.alloc (.cells #[.int .i64 0, .bool false, .int .i64 0, .string ⟨#[]⟩, .slice none 0 0, .slice none 0 0] 25) = y7 at *
     generalize y3.heap.size = by_ at *
     refine hK.out _ _ ⟨HP.out.cl 2 0 rfl rfl, HP.out.cl 2 1 rfl rfl, HP.out.cl 2 2 rfl rfl, HP.out.cl 2 3 rfl rfl, HP.out.cl 2 4 rfl rfl, HP.out.cl 2 5 rfl rfl⟩ (fun hHeld => ?_)
     clear hK K
     refine norm_ (a' := ?_) ?_ ?_
     rotate_left
     ·show Act.put _ (some 11) _ = _
      simp only [Act.put, List.setIfInBounds_toArray, List.set_cons_zero, List.set_cons_succ, i64_w, i32_w]
      rfl
     exact norm_ (by first | (simp only [putAll, Act.put, List.setIfInBounds_toArray, List.set_cons_zero, List.set_cons_succ]; done) | (simp only [putAll, Act.put, List.setIfInBounds_toArray, List.set_cons_zero, List.set_cons_succ]; rfl)) (hCont (J4, j4, J5, j5, by_) _ ⟨HP.out, HYR.out, HN.out, HBY.out⟩)
    ·skip
     refine value_ (w1 := ?_) (v := ?_) (by rfl) rfl ?_ ?_
     rotate_left 2
     ·go_simp
      constructor
      ·rfl
      ·rfl
     have HBY := Aside0.mk HSC.out
     have hb := below_alloc (Below.refl Wd.heap.size Wd) (.cells #[.int .i64 0, .bool false, .int .i64 0, .string ⟨#[]⟩, .slice none 0 0, .slice none 0 0] 25)
     have n3 := Aside0.mk (HRO.out.below hb)
     clear HRO
     have HRO := n3
     clear n3
     have n0 := Aside0.mk (HP.out.new (g := Wd.heap.size) rfl (blk_new Wd (.cells #[.int .i64 0, .bool false, .int .i64 0, .string ⟨#[]⟩, .slice none 0 0, .slice none 0 0] 25)) hb)
     have n1 := Aside0.mk (Kd.N_below HN.out hb)
     have n2 := Aside0.mk (Nat.le_trans HSC.out hb.size)
     clear HP HN HSC
     have HP := n0
     have HN := n1
     have HSC := n2
     clear n0 n1 n2
     clear hb
     generalize Wd.alloc (.cells #[.int .i64 0, .bool false, .int .i64 0, .string ⟨#[]⟩, .slice none 0 0, .slice none 0 0] 25) = y7 at *
     generalize Wd.heap.size = by_ at *
     refine hK.out _ _ ⟨HP.out.cl 2 0 rfl rfl, HP.out.cl 2 1 rfl rfl, HP.out.cl 2 2 rfl rfl, HP.out.cl 2 3 rfl rfl, HP.out.cl 2 4 rfl rfl, HP.out.cl 2 5 rfl rfl⟩ (fun hHeld => ?_)
     clear hK K
     refine norm_ (a' := ?_) ?_ ?_
     rotate_left
     ·show Act.put _ (some 11) _ = _
      simp only [Act.put, List.setIfInBounds_toArray, List.set_cons_zero, List.set_cons_succ, i64_w, i32_w]
      rfl
     refine one_ (i := 3) (N := some 49) (ob 10 143) rfl rfl (by kernel_rfl) (by decide) (fun K hK => ?_)
     refine goes_ Tryz.func27 (by kernel_rfl) rfl #[.agg #[.int .i64 od.f0, .bool od.f1, .int .i64 od.f2, .string od.f3, .slice G4 od.f4.length g4, .slice G5 od.f5.length g5], .slice (if c1 = 1 then some pa else some ⟨pa.block, pa.off + 3, none⟩) l.length (c1 - 1)] (by rfl) rfl rfl (by simp only [List.map_toArray, List.map_cons, List.map_nil]; rfl) ?_
     refine (IH.out od G4 g4 G5 g5 _ _ y _ (fun k => ok0 k ∧ k < w.heap.size) HRO.out ?sl (by omega) HY.out).mono ?_
     case sl => have h_ := Kd.C_below (Kd.C_drop HL.out (show 1 ≤ (s :: l).length by simp) (show (s :: l).length ≤ c1 from hc)) HP.out.B; simp only [List.drop_one, List.tail_cons, show k95.sz = 3 from rfl, Nat.one_mul] at h_; exact h_
     rintro e y3 ⟨J4, j4, J5, j5, rfl, hyr, hb⟩
     refine ⟨_, rfl, ?_⟩
     have HYR := Aside0.mk (hyr.mono (ok' := fun k => ((ok0 k ∧ k < w.heap.size) ∨ sc ≤ k) ∧ k ≠ by_) (fun k hk => hk.elim (fun h_ => ⟨.inl h_, by have := h_.2; have := HP.out.low 0 rfl; omega⟩) (fun h_ => ⟨.inr (by have := HSC.out; omega), by have := HP.out.lt 0 rfl; omega⟩)))
     have n0 := Aside0.mk (HP.out.below hb)
     have n1 := Aside0.mk (Kd.N_below HN.out hb)
     have n2 := Aside0.mk (Nat.le_trans HSC.out hb.size)
     clear HP HN HSC
     have HP := n0
     have HN := n1
     have HSC := n2
     clear n0 n1 n2
     clear hyr hb
     refine hK.out _ _ ⟨HP.out.cl 2 0 rfl rfl, HP.out.cl 2 1 rfl rfl, HP.out.cl 2 2 rfl rfl, HP.out.cl 2 3 rfl rfl, HP.out.cl 2 4 rfl rfl, HP.out.cl 2 5 rfl rfl⟩ (fun hHeld => ?_)
     clear hK K
     refine norm_ (a' := ?_) ?_ ?_
     rotate_left
     ·show Act.put _ (some 49) _ = _
      simp only [Act.put, List.setIfInBounds_toArray, List.set_cons_zero, List.set_cons_succ, i64_w, i32_w]
      rfl
     refine pure_ (i := 4) (N := some 45) (v := ?_) (a' := ?_) (ob 10 159) rfl rfl (by kernel_rfl) (fun _ _ _ h => h) (Or.inl ⟨by rfl, ?_⟩) ?_ ?_
     rotate_left
     ·intro w'
      go_simp
      with_reducible rfl
     rotate_left
     ·simp only [Act.put, List.setIfInBounds_toArray, List.set_cons_zero, List.set_cons_succ, i64_w, i32_w]
      rfl
     refine pure_ (i := 5) (N := some 50) (v := ?_) (a' := ?_) (ob 10 191) rfl rfl (by kernel_rfl) (fun _ _ _ h => h) (Or.inl ⟨by rfl, ?_⟩) ?_ ?_
     rotate_left
     ·intro w'
      go_simp
      with_reducible rfl
     rotate_left
     ·simp only [Act.put, List.setIfInBounds_toArray, List.set_cons_zero, List.set_cons_succ, i64_w, i32_w]
      rfl
     refine pure_ (i := 6) (N := some 51) (v := ?_) (a' := ?_) (ob 10 255) rfl rfl (by kernel_rfl) (fun _ _ _ h => h) (Or.inl ⟨by rfl, ?_⟩) ?_ ?_
     rotate_left
     ·intro w'
      go_simp
      with_reducible rfl
     rotate_left
     ·simp only [Act.put, List.setIfInBounds_toArray, List.set_cons_zero, List.set_cons_succ, i64_w, i32_w]
      rfl
     exact norm_ (by first | (simp only [putAll, Act.put, List.setIfInBounds_toArray, List.set_cons_zero, List.set_cons_succ]; done) | (simp only [putAll, Act.put, List.setIfInBounds_toArray, List.set_cons_zero, List.set_cons_succ]; rfl)) (hCont (J4, j4, J5, j5, by_) _ ⟨HP.out, HYR.out, HN.out, HBY.out⟩)
   clear HP HRO HN
   rintro ⟨J4, j4, J5, j5, by_⟩ We ⟨hp, hr, hn, hby⟩
   have HP := Aside0.mk hp
   have HYR := Aside0.mk hr
   have HN := Aside0.mk hn
   have HBY := Aside0.mk (show sc ≤ by_ from hby)
   clear hp hr hn hby
   have hHeld : We.cell? ⟨bo, 0, none⟩ = some (.int .i64 od.f0) ∧ We.cell? ⟨bo, 1, none⟩ = some (.bool od.f1) ∧ We.cell? ⟨bo, 2, none⟩ = some (.int .i64 od.f2) ∧ We.cell? ⟨bo, 3, none⟩ = some (.string od.f3) ∧ We.cell? ⟨bo, 4, none⟩ = some (.slice G4 od.f4.length g4) ∧ We.cell? ⟨bo, 5, none⟩ = some (.slice G5 od.f5.length g5) := ⟨HP.out.cl 2 0 rfl rfl, HP.out.cl 2 1 rfl rfl, HP.out.cl 2 2 rfl rfl, HP.out.cl 2 3 rfl rfl, HP.out.cl 2 4 rfl rfl, HP.out.cl 2 5 rfl rfl⟩
   refine norm_ (a' := ?_) ?_ ?_
   rotate_left
   ·simp only [putAll, Act.put, List.setIfInBounds_toArray, List.set_cons_zero, List.set_cons_succ]
    rfl
   refine last_ (i := 8) (N := none) (ob 10 511) rfl rfl (by kernel_rfl) (by decide) (fun K hK => ?_)
   have yu0 : We.cell? ⟨by_, 0, none⟩ = some (.int .i64 0) := HP.out.cl 0 0 rfl rfl
   have yu1 : We.cell? ⟨by_, 1, none⟩ = some (.bool false) := HP.out.cl 0 1 rfl rfl
   have yu2 : We.cell? ⟨by_, 2, none⟩ = some (.int .i64 0) := HP.out.cl 0 2 rfl rfl
   have yu3 : We.cell? ⟨by_, 3, none⟩ = some (.string ⟨#[]⟩) := HP.out.cl 0 3 rfl rfl
   have yu4 : We.cell? ⟨by_, 4, none⟩ = some (.slice none 0 0) := HP.out.cl 0 4 rfl rfl
   have yu5 : We.cell? ⟨by_, 5, none⟩ = some (.slice none 0 0) := HP.out.cl 0 5 rfl rfl
   have zu0 := HP.out.fz 0 0 rfl
   have zu1 := HP.out.fz 0 1 rfl
   have zu2 := HP.out.fz 0 2 rfl
   have zu3 := HP.out.fz 0 3 rfl
   have zu4 := HP.out.fz 0 4 rfl
   have zu5 := HP.out.fz 0 5 rfl
   refine skip_ (w1 := ?_) (by rfl) rfl ?_ ?_
   rotate_left
   ·go_simp
    rfl
   clear yu0 zu0 yu1 zu1 yu2 zu2 yu3 zu3 yu4 zu4 yu5 zu5
   have n0 := Aside0.mk (HP.out.six 0 rfl (.int .i64 y.f0) (.bool y.f1) (.int .i64 y.f2) (.string y.f3) (.slice J4 y.f4.length j4) (.slice J5 y.f5.length j5))
   have n1 := Aside0.mk (HYR.out.six (g := by_) (fun k hk => hk.2) (.int .i64 y.f0) (.bool y.f1) (.int .i64 y.f2) (.string y.f3) (.slice J4 y.f4.length j4) (.slice J5 y.f5.length j5))
   have n2 := Aside0.mk (Kd.N_step HN.out (fun k hk hlt => six_same (g := by_) (k := k) (by have := hk.2; have := HBY.out; omega) hlt (.int .i64 y.f0) (.bool y.f1) (.int .i64 y.f2) (.string y.f3) (.slice J4 y.f4.length j4) (.slice J5 y.f5.length j5)))
   clear HP HYR HN
   have HP := n0
   have HYR := n1
   have HN := n2
   clear n0 n1 n2
   generalize ((((((We.setCell ⟨by_, 0, none⟩ (.int .i64 y.f0)).setCell ⟨by_, 1, none⟩ (.bool y.f1)).setCell ⟨by_, 2, none⟩ (.int .i64 y.f2)).setCell ⟨by_, 3, none⟩ (.string y.f3)).setCell ⟨by_, 4, none⟩ (.slice J4 y.f4.length j4)).setCell ⟨by_, 5, none⟩ (.slice J5 y.f5.length j5)) = Wf at HP HYR HN ⊢
   refine hK.out _ _ ?_
   clear hK K
   refine pure_ (i := 9) (N := some 12) (v := ?_) (a' := ?_) (ob 10 1023) rfl rfl (by kernel_rfl) (fun _ _ _ h => h) (Or.inl ⟨by rfl, ?_⟩) ?_ ?_
   rotate_left
   ·intro w'
    go_simp
    with_reducible rfl
   rotate_left
   ·simp only [Act.put, List.setIfInBounds_toArray, List.set_cons_zero, List.set_cons_succ, i64_w, i32_w]
    rfl
   refine done_ (by kernel_rfl) ?_
   generalize (if c1 = 1 then some pa else some (⟨pa.block, pa.off + 3, none⟩ : Addr)) = pb_
   go_upto_region 14 with (fail)
   have p9 := P0.out
   have q9 := P4.out
   obtain ⟨go, co, eo, gb, gl, cl, HG⟩ := Kd.N_form HN.out (by omega)
   injection eo with ea en ec
   subst ea ec
   clear en gb gl HG cl
   have HGO := Aside0.mk (show go < sc from (HN.out.1 go rfl).2)
   have n0 := Aside0.mk (Kd.N_mono HN.out (ok' := okR w ok0 bq) (fun k hk => hk.1))
   clear HN
   have HN := n0
   clear n0
   have HGW := Aside0.mk (show w.heap.size ≤ go by have h_ := Kd.N_base HN.out go rfl; have := HNB.out; have := HP.out.low 0 rfl; have := LBQ.out; have := GBQ.out; omega)
   have HBQS := Aside0.mk (show bq < sc by have := HNB.out; have := LBQ.out; have h_ := Kd.N_base HN.out go rfl; have := HGO.out; omega)
   have HYG := Aside0.mk (HYR.out.mono (ok' := fun k => okR w ok0 bq k ∧ k ≠ go) (fun k hk => ⟨hk.1.elim .inl (fun h_ => .inr (by have := HBQS.out; omega)), by rcases hk.1 with h_ | h_; (have := h_.2; have := HGW.out; omega); (have := HGO.out; omega)⟩))
   obtain ⟨ce, hcl, hM, hcc, hfr⟩ := Kd.N_elem HN.out z25 (n : Int) p9 q9
   obtain ⟨ua4, uc4, ua5, uc5, rfl, ul4, ge4, ul5, ge5⟩ := k25_openF hM
   clear ul4 ge4 ul5 ge5 hM
   have HSG := Aside0.mk (Kd.N_seg HN.out (n : Int) p9 q9 (seg := [.int .i64 y.f0, .bool y.f1, .int .i64 y.f2, .string y.f3, .slice J4 y.f4.length j4, .slice J5 y.f5.length j5]) (j := 0) hcl hcc (show 6 ≤ 6 from by decide) (x' := y) (okp := fun k => okR w ok0 bq k ∧ k ≠ go) (k25_mkF _ _ y HYG.out.2.1 HYG.out.1 HYG.out.2.2.2 HYG.out.2.2.1) (fun _ hk => hk))
   have hx0 := hcc 0 _ rfl
   (try simp only [show (k25).sz = 6 from rfl, Nat.mul_one, Nat.add_zero, Int.toNat_natCast] at hx0)
   have hf0 := hfr 0
   (try simp only [show (k25).sz = 6 from rfl, Nat.mul_one, Nat.add_zero, Int.toNat_natCast] at hf0)
   have hx1 := hcc 1 _ rfl
   (try simp only [show (k25).sz = 6 from rfl, Nat.mul_one, Nat.add_zero, Int.toNat_natCast] at hx1)
   have hf1 := hfr 1
   (try simp only [show (k25).sz = 6 from rfl, Nat.mul_one, Nat.add_zero, Int.toNat_natCast] at hf1)
   have hx2 := hcc 2 _ rfl
   (try simp only [show (k25).sz = 6 from rfl, Nat.mul_one, Nat.add_zero, Int.toNat_natCast] at hx2)
   have hf2 := hfr 2
   (try simp only [show (k25).sz = 6 from rfl, Nat.mul_one, Nat.add_zero, Int.toNat_natCast] at hf2)
   have hx3 := hcc 3 _ rfl
   (try simp only [show (k25).sz = 6 from rfl, Nat.mul_one, Nat.add_zero, Int.toNat_natCast] at hx3)
   have hf3 := hfr 3
   (try simp only [show (k25).sz = 6 from rfl, Nat.mul_one, Nat.add_zero, Int.toNat_natCast] at hf3)
   have hx4 := hcc 4 _ rfl
   (try simp only [show (k25).sz = 6 from rfl, Nat.mul_one, Nat.add_zero, Int.toNat_natCast] at hx4)
   have hf4 := hfr 4
   (try simp only [show (k25).sz = 6 from rfl, Nat.mul_one, Nat.add_zero, Int.toNat_natCast] at hf4)
   have hx5 := hcc 5 _ rfl
   (try simp only [show (k25).sz = 6 from rfl, Nat.mul_one, Nat.add_zero, Int.toNat_natCast] at hx5)
   have hf5 := hfr 5
   (try simp only [show (k25).sz = 6 from rfl, Nat.mul_one, Nat.add_zero, Int.toNat_natCast] at hf5)
   clear hcl hcc hfr
   have p9b : decide ((0 : Int) ≤ (n : Int)) = true := decide_eq_true p9
   have q9b : decide ((n : Int) < (v.f4.length : Int)) = true := decide_eq_true q9
   replace p9 := eq_true p9
   replace q9 := eq_true q9
   have yy0 : Wf.cell? ⟨by_, 0, none⟩ = some (.int .i64 y.f0) := HP.out.cl 0 0 rfl rfl
   have yy1 : Wf.cell? ⟨by_, 1, none⟩ = some (.bool y.f1) := HP.out.cl 0 1 rfl rfl
   have yy2 : Wf.cell? ⟨by_, 2, none⟩ = some (.int .i64 y.f2) := HP.out.cl 0 2 rfl rfl
   have yy3 : Wf.cell? ⟨by_, 3, none⟩ = some (.string y.f3) := HP.out.cl 0 3 rfl rfl
   have yy4 : Wf.cell? ⟨by_, 4, none⟩ = some (.slice J4 y.f4.length j4) := HP.out.cl 0 4 rfl rfl
   have yy5 : Wf.cell? ⟨by_, 5, none⟩ = some (.slice J5 y.f5.length j5) := HP.out.cl 0 5 rfl rfl
   have yq4 : Wf.cell? ⟨bq, 4, none⟩ = some (.slice (some ⟨go, 0, none⟩) v.f4.length cv) := HP.out.cl 1 4 rfl rfl
   have HGN := Aside0.mk (show ∀ (i_ : Nat) (p_ : Nat × Array Value × Nat), [(by_, #[.int .i64 y.f0, .bool y.f1, .int .i64 y.f2, .string y.f3, .slice J4 y.f4.length j4, .slice J5 y.f5.length j5], 25), (bq, #[.int .i64 v.f0, .bool v.f1, .int .i64 v.f2, .string v.f3, .slice (some ⟨go, 0, none⟩) v.f4.length cv, .slice A5 v.f5.length c5], 25), (bo, #[.int .i64 od.f0, .bool od.f1, .int .i64 od.f2, .string od.f3, .slice G4 od.f4.length g4, .slice G5 od.f5.length g5], 25), (bs, #[.string s.f0, .int .i64 s.f1, .bool s.f2], 95), (br, #[.int .i64 0, .bool false, .int .i64 0, .string ⟨#[]⟩, .slice none 0 0, .slice none 0 0], 25), (bv, #[.int .i64 v.f0, .bool v.f1, .int .i64 v.f2, .string v.f3, .slice A4 v.f4.length c4, .slice A5 v.f5.length c5], 25)][i_]? = some p_ → p_.1 ≠ go from fun i_ p_ hp_ he => by have h1_ := HNB.out; have h2_ := Kd.N_base HN.out go rfl; have h3_ := LBQ.out; have h4_ := HGO.out; have h5_ := HBY.out; cases i_ with | zero => (injection hp_ with hp_; subst hp_; dsimp only at he; omega) | succ i_ => (have h6_ := HP.out.tail.head_le2 i_ p_ hp_; omega))
   go_upto_region 15 with ((with_reducible refine gate_store (t := 25) (p := 60) rfl ?_); refine store_event (t := 25) (p := 60) (v := ?vo) (w1 := ((((((Wf.setCell ⟨go, n * 6, none⟩ (.int .i64 y.f0)).setCell ⟨go, n * 6 + 1, none⟩ (.bool y.f1)).setCell ⟨go, n * 6 + 2, none⟩ (.int .i64 y.f2)).setCell ⟨go, n * 6 + 3, none⟩ (.string y.f3)).setCell ⟨go, n * 6 + 4, none⟩ (.slice J4 y.f4.length j4)).setCell ⟨go, n * 6 + 5, none⟩ (.slice J5 y.f5.length j5))) ?hg ?ho ?hn ?hr ?_; (case ho => rfl); (case hg => rfl); (case hn => rfl); (case hr => first | (go_simp; done) | (go_simp; rfl)); intro Wg hw; have hg : Wf.grownBy Wg (some go) := (by rw [hw]; exact HSG.out.2); have ho : Kd.N k25 25 Wg nb (okR w ok0 bq) (.slice (some ⟨go, 0, none⟩) v.f4.length cv) (v.f4.set n y) := (by rw [hw]; exact HSG.out.1); clear HSG hw; have n0 := Aside0.mk (HP.out.grown hg (HP.out.B.grown hg HP.out.size (fun k e => by injection e with e; have := HGW.out; omega)) (fun i_ p_ hp_ he => by injection he with he; exact HGN.out i_ p_ hp_ he)); clear HP; have HP := n0; clear n0; clear HN; have HN := Aside0.mk ho; clear ho hg)
   clear hx0 hf0 yy0 hx1 hf1 yy1 hx2 hf2 yy2 hx3 hf3 yy3 hx4 hf4 yy4 hx5 hf5 yy5 yq4
   have yq0 : Wg.cell? ⟨bq, 0, none⟩ = some (.int .i64 v.f0) := HP.out.cl 1 0 rfl rfl
   have yq1 : Wg.cell? ⟨bq, 1, none⟩ = some (.bool v.f1) := HP.out.cl 1 1 rfl rfl
   have yq2 : Wg.cell? ⟨bq, 2, none⟩ = some (.int .i64 v.f2) := HP.out.cl 1 2 rfl rfl
   have yq3 : Wg.cell? ⟨bq, 3, none⟩ = some (.string v.f3) := HP.out.cl 1 3 rfl rfl
   have yq4 : Wg.cell? ⟨bq, 4, none⟩ = some (.slice (some ⟨go, 0, none⟩) v.f4.length cv) := HP.out.cl 1 4 rfl rfl
   have yq5 : Wg.cell? ⟨bq, 5, none⟩ = some (.slice A5 v.f5.length c5) := HP.out.cl 1 5 rfl rfl
   have yr0 : Wg.cell? ⟨br, 0, none⟩ = some (.int .i64 0) := HP.out.cl 4 0 rfl rfl
   have yr1 : Wg.cell? ⟨br, 1, none⟩ = some (.bool false) := HP.out.cl 4 1 rfl rfl
   have yr2 : Wg.cell? ⟨br, 2, none⟩ = some (.int .i64 0) := HP.out.cl 4 2 rfl rfl
   have yr3 : Wg.cell? ⟨br, 3, none⟩ = some (.string ⟨#[]⟩) := HP.out.cl 4 3 rfl rfl
   have yr4 : Wg.cell? ⟨br, 4, none⟩ = some (.slice none 0 0) := HP.out.cl 4 4 rfl rfl
   have yr5 : Wg.cell? ⟨br, 5, none⟩ = some (.slice none 0 0) := HP.out.cl 4 5 rfl rfl
   have zr0 := HP.out.fz 4 0 rfl
   have zr1 := HP.out.fz 4 1 rfl
   have zr2 := HP.out.fz 4 2 rfl
   have zr3 := HP.out.fz 4 3 rfl
   have zr4 := HP.out.fz 4 4 rfl
   have zr5 := HP.out.fz 4 5 rfl
   go_wp2_with fail
   refine bodyPost_ret (results_ct rfl _ _ br 25 #[.int .i64 v.f0, .bool v.f1, .int .i64 v.f2, .string v.f3, .slice (some ⟨go, 0, none⟩) v.f4.length cv, .slice A5 v.f5.length c5] (0, 0) _ rfl (put6 (HP.out.get 4 rfl) _ _ _ _ _ _) Tryz.underlying25 rfl (by kernel_rfl)) rfl ?_
   rw [HE.out]
   have hl_ : (v.f4.set n y).length = v.f4.length := List.length_set
   have hF := Kd.N_F (n := v.f4.length) HN.out
   have hR := Kd.N_reads' HN.out
   have GBR := HP.out.low 4 rfl
   have LRB : br < bq := HP.out.nd 1 4 _ _ (by omega) rfl rfl
   refine ⟨some ⟨go, 0, none⟩, cv, A5, c5, (by show _ = Ending.returned (.tuple #[.agg #[.int .i64 v.f0, .bool v.f1, .int .i64 v.f2, .string v.f3, .slice (some ⟨go, 0, none⟩) (v.f4.set n y).length cv, .slice A5 v.f5.length c5], .int .i64 0]); rw [hl_]; rfl), RdF.mono (RdF.six (ok := fun k => (ok0 k ∧ k < w.heap.size) ∨ bq < k) (v := { v with f4 := v.f4.set n y }) ⟨by rw [hl_]; exact hF, by rw [hl_]; exact hR.2.1, ?_, HV.out.2.2.2⟩ (fun k hk => by rcases hk with h_ | h_; (have := h_.2; omega); omega) (.int .i64 v.f0) (.bool v.f1) (.int .i64 v.f2) (.string v.f3) (.slice (some ⟨go, 0, none⟩) v.f4.length cv) (.slice A5 v.f5.length c5)) (fun k hk => hk.elim (fun h_ => .inl h_.1) (fun h_ => .inr (by omega))), put6_below HP.out.B GBR _ _ _ _ _ _⟩
   exact Kd.F_mono (HV.out.bound.below HP.out.B).2.2.1 (fun k hk => .inl hk)
  case pos =>
   rw [if_pos cl] at H1
   injection H1 with H1
   have HE := Aside0.mk H1.symm
   have hb_ := HBL.out
   rw [decide_eq_false (by rw [cl]; simp)] at hb_
   subst hb_
   clear H1 cl
   obtain ⟨go, co, eo, gb, gl, cl, HG⟩ := Kd.N_form HN.out (by have := P4.out; omega)
   injection eo with ea en ec
   subst ea ec
   clear en gb gl HG cl
   have CV := Aside0.mk (Kd.N_reads' HN.out).2.1
   have HGW := Aside0.mk (show bq < go by have h_ := Kd.N_base HN.out go rfl; have := HNB.out; have := LBQ.out; omega)
   have ln4 : n < v.f4.length := by have := P4.out; omega
   have ln5 : n < v.f5.length := by have := P5.out; omega
   have lnn4 : n ≤ v.f4.length := by omega
   have lnn5 : n ≤ v.f5.length := by omega
   have lm4 : n + 1 ≤ v.f4.length := by omega
   have lm5 : n + 1 ≤ v.f5.length := by omega
   have lc4 : n ≤ cv := by have := CV.out; omega
   have lc4' : n + 1 ≤ cv := by have := CV.out; omega
   have lc5 : n ≤ c5 := by have := HV.out.2.2.2; omega
   have lc5' : n + 1 ≤ c5 := by have := HV.out.2.2.2; omega
   have lz : (0 : Int) ≤ (n : Int) + 1 := by omega
   have lmi4 : (n : Int) + 1 ≤ (v.f4.length : Int) := by omega
   have lmi5 : (n : Int) + 1 ≤ (v.f5.length : Int) := by omega
   have lw : wrap64 ((n : Int) + 1) = (n : Int) + 1 := by have := L4.out; unfold wrap64; omega
   go_upto_region 16 with (fail)
   have hb := below_drew (Below.refl Wc.heap.size Wc)
   have n0 := Aside0.mk (HP.out.below hb)
   have n1 := Aside0.mk (Kd.N_below HN.out hb)
   have n2 := Aside0.mk (Nat.le_trans HSB.out hb.size)
   clear HP HN HSB
   have HP := n0
   have HN := n1
   have HSB := n2
   clear n0 n1 n2
   clear hb
   refine start_ (n := 12) (S := fun w' => w'.cell? ⟨bq, 4, none⟩ = some (.slice (some ⟨go, 0, none⟩) v.f4.length cv)) (ds := [11]) #[false, false, false, false, false, false, false, false, false, false, false, false] (by kernel_rfl) rfl rfl (HP.out.cl 0 4 rfl rfl) (fun hHeld => ?_)
   generalize Wc.drew = Wd at HP HN HSB hHeld ⊢
   refine pure_ (i := 0) (N := some 62) (v := ?_) (a' := ?_) (ob 12 1) rfl rfl (by kernel_rfl) (fun _ _ _ h => h) (Or.inl ⟨by rfl, ?_⟩) ?_ ?_
   rotate_left
   ·intro w'
    go_simp
    with_reducible rfl
   rotate_left
   ·simp only [Act.put, List.setIfInBounds_toArray, List.set_cons_zero, List.set_cons_succ, i64_w, i32_w]
    rfl
   refine pure_ (i := 2) (N := some 64) (v := ?_) (a' := ?_) (ob 12 5) rfl rfl (by kernel_rfl) (fun _ _ _ h => h) (Or.inl ⟨by rfl, ?_⟩) ?_ ?_
   rotate_left
   ·intro w'
    go_simp
    with_reducible rfl
   rotate_left
   ·simp only [Act.put, List.setIfInBounds_toArray, List.set_cons_zero, List.set_cons_succ, i64_w, i32_w]
    rfl
   refine pure_ (i := 4) (N := some 66) (v := ?_) (a' := ?_) (ob 12 21) rfl rfl (by kernel_rfl) (fun _ _ _ h => h) (Or.inl ⟨by rfl, ?_⟩) ?_ ?_
   rotate_left
   ·intro w'
    go_simp
    with_reducible rfl
   rotate_left
   ·simp only [Act.put, List.setIfInBounds_toArray, List.set_cons_zero, List.set_cons_succ, i64_w, i32_w]
    rfl
   refine pure_ (i := 6) (N := some 68) (v := ?_) (a' := ?_) (ob 12 85) rfl rfl (by kernel_rfl) (fun _ _ _ h => h) (Or.inl ⟨by rfl, ?_⟩) ?_ ?_
   rotate_left
   ·intro w'
    go_simp
    with_reducible rfl
   rotate_left
   ·simp only [Act.put, List.setIfInBounds_toArray, List.set_cons_zero, List.set_cons_succ, i64_w, i32_w]
    rfl
   refine pure_ (i := 7) (N := some 69) (v := ?_) (a' := ?_) (ob 12 213) rfl rfl (by kernel_rfl) (fun _ _ _ h => h) (Or.inl ⟨by rfl, ?_⟩) ?_ ?_
   rotate_left
   ·intro w'
    go_simp
    with_reducible rfl
   rotate_left
   ·simp only [Act.put, List.setIfInBounds_toArray, List.set_cons_zero, List.set_cons_succ, i64_w, i32_w]
    rfl
   refine take_ (i := 1) (N := some 63) (v := ?_) (a' := ?_) (ob 12 215) rfl rfl (by kernel_rfl) (fun _ _ _ h => h) (Or.inl ⟨by rfl, ?_⟩) hHeld ?_ ?_
   rotate_left
   ·intro w' s0
    go_simp
    with_reducible rfl
   rotate_left
   ·simp only [Act.put, List.setIfInBounds_toArray, List.set_cons_zero, List.set_cons_succ, i64_w, i32_w]
    rfl
   refine pure_ (i := 3) (N := some 65) (v := ?_) (a' := ?_) (ob 12 223) rfl rfl (by kernel_rfl) (fun _ _ _ h => h) (Or.inl ⟨by rfl, ?_⟩) ?_ ?_
   rotate_left
   ·intro w'
    go_simp
    with_reducible rfl
   rotate_left
   ·simp only [Act.put, List.setIfInBounds_toArray, List.set_cons_zero, List.set_cons_succ, i64_w, i32_w]
    rfl
   refine take_ (i := 5) (N := some 67) (v := ?_) (a' := ?_) (ob 12 255) rfl rfl (by kernel_rfl) (fun _ _ _ h => h) (Or.inl ⟨by rfl, ?_⟩) hHeld ?_ ?_
   rotate_left
   ·intro w' s0
    go_simp
    with_reducible rfl
   rotate_left
   ·simp only [Act.put, List.setIfInBounds_toArray, List.set_cons_zero, List.set_cons_succ, i64_w, i32_w]
    rfl
   refine pure_ (i := 8) (N := some 70) (v := ?_) (a' := ?_) (ob 12 511) rfl rfl (by kernel_rfl) (fun _ _ _ h => h) (Or.inl ⟨by rfl, ?_⟩) ?_ ?_
   rotate_left
   ·intro w'
    go_simp
    with_reducible rfl
   rotate_left
   ·simp only [Act.put, List.setIfInBounds_toArray, List.set_cons_zero, List.set_cons_succ, i64_w, i32_w]
    rfl
   refine one_ (i := 9) (N := some 71) (ob 12 1023) rfl rfl (by kernel_rfl) (by decide) (fun K hK => ?_)
   refine Kd.N_delete_step k25 (w0 := Wd) nb (by rfl) (.tmp 65) (.tmp 70) 22 25 rfl Tryz.underlying22 (by kernel_rfl) (g := go) (n := v.f4.length) (c := cv) (k := n) (m := v.f4.length - (n + 1)) (c2 := cv - (n + 1)) rfl rfl ?hA rfl HN.out ln4 (Below.refl _ _) HSB.out ?_
   case hA => simp only [Option.map_some, Addr.add, show k25.sz = 6 from rfl]; rw [if_neg (show ¬ (n + 1) * 6 = 0 by omega)]; simp
   intro We ho hb hg
   have n0 := Aside0.mk (HP.out.grown hg (HP.out.B.grown hg HP.out.size (fun k e => by injection e with e; have := HGW.out; have := HP.out.low 0 rfl; omega)) (fun i_ p_ hp_ he => by injection he with he; have h1_ := HP.out.head_le2 i_ p_ hp_; have := HGW.out; omega))
   have n1 := Aside0.mk (Nat.le_trans HSB.out hg.size)
   clear HP HSB
   have HP := n0
   have HSB := n1
   clear n0 n1
   clear HN
   have HN := Aside0.mk ho
   clear ho hb hg
   refine hK.out _ _ (HP.out.cl 0 4 rfl rfl) (fun hHeld => ?_)
   clear hK K
   refine norm_ (a' := ?_) ?_ ?_
   rotate_left
   ·show Act.put _ (some 71) _ = _
    simp only [Act.put, List.setIfInBounds_toArray, List.set_cons_zero, List.set_cons_succ, i64_w, i32_w]
    rfl
   refine pure_ (i := 10) (N := some 72) (v := ?_) (a' := ?_) (ob 12 2047) rfl rfl (by kernel_rfl) (fun _ _ _ h => h) (Or.inl ⟨by rfl, ?_⟩) ?_ ?_
   rotate_left
   ·intro w'
    go_simp
    with_reducible rfl
   rotate_left
   ·simp only [Act.put, List.setIfInBounds_toArray, List.set_cons_zero, List.set_cons_succ, i64_w, i32_w]
    rfl
   refine last_ (i := 11) (N := none) (ob 12 4095) rfl rfl (by kernel_rfl) (by decide) (fun K hK => ?_)
   have yo4 : We.cell? ⟨bq, 4, none⟩ = some (.slice (some ⟨go, 0, none⟩) v.f4.length cv) := HP.out.cl 0 4 rfl rfl
   have zo4 := HP.out.fz 0 4 rfl
   refine skip_ (w1 := ?_) (by rfl) rfl ?_ ?_
   rotate_left
   ·go_simp
    rfl
   clear yo4 zo4
   have n0 := Aside0.mk ((HP.out.put' 0 rfl 4 (.slice (some ⟨go, 0, none⟩) (v.f4.length - 1) cv) rfl).1)
   have n1 := Aside0.mk (Kd.N_far HN.out (p := ⟨bq, 4, none⟩) (fun k hk => by rcases hk with h_ | h_; (have := h_.2; have := GBQ.out; show k ≠ bq; omega); exact Nat.ne_of_gt h_) (.slice (some ⟨go, 0, none⟩) (v.f4.length - 1) cv))
   clear HP HN
   have HP := n0
   have HN := n1
   clear n0 n1
   generalize We.setCell ⟨bq, 4, none⟩ (.slice (some ⟨go, 0, none⟩) (v.f4.length - 1) cv) = Wf at HP HN ⊢
   refine hK.out _ _ ?_
   clear hK K
   refine done_ (by kernel_rfl) ?_
   clear HSB
   have yv0 : Wf.cell? ⟨bv, 0, none⟩ = some (.int .i64 v.f0) := HP.out.cl 4 0 rfl rfl
   go_upto_region 18 with (fail)
   clear yv0
   obtain ⟨nk, hnk⟩ : ∃ m, m = Wf.heap.size := ⟨_, rfl⟩
   have n0 := Aside0.mk (Kd.N_mono (Kd.N_bound HN.out) (ok' := fun k => okR w ok0 bq k ∧ k < nk) (fun k hk => ⟨hk.1, by rw [hnk]; exact hk.2⟩))
   clear HN
   have HN := n0
   clear n0
   have HSK := Aside0.mk (Nat.le_of_eq hnk)
   have LBK := Aside0.mk (show bq < nk by have h_ := HP.out.lt 0 rfl; omega)
   clear hnk
   have hb := below_drew (Below.refl Wf.heap.size Wf)
   have n0 := Aside0.mk (HP.out.below hb)
   have n1 := Aside0.mk (Kd.N_below HN.out hb)
   have n2 := Aside0.mk (Nat.le_trans HSK.out hb.size)
   clear HP HN HSK
   have HP := n0
   have HN := n1
   have HSK := n2
   clear n0 n1 n2
   clear hb
   refine start_ (n := 13) (S := fun w' => w'.cell? ⟨bv, 5, none⟩ = some (.slice A5 v.f5.length c5)) (ds := [12]) #[false, false, false, false, false, false, false, false, false, false, false, false, false] (by kernel_rfl) rfl rfl (HP.out.cl 4 5 rfl rfl) (fun hHeld => ?_)
   generalize Wf.drew = Wg at HP HN HSK hHeld ⊢
   refine pure_ (i := 0) (N := some 76) (v := ?_) (a' := ?_) (ob 13 1) rfl rfl (by kernel_rfl) (fun _ _ _ h => h) (Or.inl ⟨by rfl, ?_⟩) ?_ ?_
   rotate_left
   ·intro w'
    go_simp
    with_reducible rfl
   rotate_left
   ·simp only [Act.put, List.setIfInBounds_toArray, List.set_cons_zero, List.set_cons_succ, i64_w, i32_w]
    rfl
   refine pure_ (i := 2) (N := some 78) (v := ?_) (a' := ?_) (ob 13 5) rfl rfl (by kernel_rfl) (fun _ _ _ h => h) (Or.inl ⟨by rfl, ?_⟩) ?_ ?_
   rotate_left
   ·intro w'
    go_simp
    with_reducible rfl
   rotate_left
   ·simp only [Act.put, List.setIfInBounds_toArray, List.set_cons_zero, List.set_cons_succ, i64_w, i32_w]
    rfl
   refine pure_ (i := 5) (N := some 81) (v := ?_) (a' := ?_) (ob 13 37) rfl rfl (by kernel_rfl) (fun _ _ _ h => h) (Or.inl ⟨by rfl, ?_⟩) ?_ ?_
   rotate_left
   ·intro w'
    go_simp
    with_reducible rfl
   rotate_left
   ·simp only [Act.put, List.setIfInBounds_toArray, List.set_cons_zero, List.set_cons_succ, i64_w, i32_w]
    rfl
   refine pure_ (i := 7) (N := some 83) (v := ?_) (a' := ?_) (ob 13 165) rfl rfl (by kernel_rfl) (fun _ _ _ h => h) (Or.inl ⟨by rfl, ?_⟩) ?_ ?_
   rotate_left
   ·intro w'
    go_simp
    with_reducible rfl
   rotate_left
   ·simp only [Act.put, List.setIfInBounds_toArray, List.set_cons_zero, List.set_cons_succ, i64_w, i32_w]
    rfl
   refine pure_ (i := 8) (N := some 84) (v := ?_) (a' := ?_) (ob 13 421) rfl rfl (by kernel_rfl) (fun _ _ _ h => h) (Or.inl ⟨by rfl, ?_⟩) ?_ ?_
   rotate_left
   ·intro w'
    go_simp
    with_reducible rfl
   rotate_left
   ·simp only [Act.put, List.setIfInBounds_toArray, List.set_cons_zero, List.set_cons_succ, i64_w, i32_w]
    rfl
   refine take_ (i := 1) (N := some 77) (v := ?_) (a' := ?_) (ob 13 423) rfl rfl (by kernel_rfl) (fun _ _ _ h => h) (Or.inl ⟨by rfl, ?_⟩) hHeld ?_ ?_
   rotate_left
   ·intro w' s0
    go_simp
    with_reducible rfl
   rotate_left
   ·simp only [Act.put, List.setIfInBounds_toArray, List.set_cons_zero, List.set_cons_succ, i64_w, i32_w]
    rfl
   refine pure_ (i := 3) (N := some 79) (v := ?_) (a' := ?_) (ob 13 431) rfl rfl (by kernel_rfl) (fun _ _ _ h => h) (Or.inl ⟨by rfl, ?_⟩) ?_ ?_
   rotate_left
   ·intro w'
    go_simp
    with_reducible rfl
   rotate_left
   ·simp only [Act.put, List.setIfInBounds_toArray, List.set_cons_zero, List.set_cons_succ, i64_w, i32_w]
    rfl
   refine take_ (i := 6) (N := some 82) (v := ?_) (a' := ?_) (ob 13 495) rfl rfl (by kernel_rfl) (fun _ _ _ h => h) (Or.inl ⟨by rfl, ?_⟩) hHeld ?_ ?_
   rotate_left
   ·intro w' s0
    go_simp
    with_reducible rfl
   rotate_left
   ·simp only [Act.put, List.setIfInBounds_toArray, List.set_cons_zero, List.set_cons_succ, i64_w, i32_w]
    rfl
   refine pure_ (i := 9) (N := some 85) (v := ?_) (a' := ?_) (ob 13 1007) rfl rfl (by kernel_rfl) (fun _ _ _ h => h) (Or.inl ⟨by rfl, ?_⟩) ?_ ?_
   rotate_left
   ·intro w'
    go_simp
    with_reducible rfl
   rotate_left
   ·simp only [Act.put, List.setIfInBounds_toArray, List.set_cons_zero, List.set_cons_succ, i64_w, i32_w]
    rfl
   refine one_ (i := 4) (N := some 80) (ob 13 1023) rfl rfl (by kernel_rfl) (by decide) (fun K hK => ?_)
   refine Kd.R_append_rows_step Kd.string (w0 := Wg) nk (by rfl) (.const (.slice none 0 0)) (.tmp 79) 23 9 (.string ⟨#[]⟩) 16 rfl Tryz.underlying23 info9' rfl (by decide) (by omega) (.slice none 0 0) ([] : List ByteArray) (v.f5.take n) _ _ _ (fun _ => True) (fun _ => False) rfl rfl (Kd.R_nil _ _ _ _ _) (by have h_ := Kd.C_below (Kd.C_take HV.out.now.2.2.1 lnn5) HP.out.B; rw [List.length_take, Nat.min_eq_left lnn5] at h_; exact h_) (fun _ _ h => h) (fun _ h => h.elim) (fun _ _ => trivial) (Below.refl _ _) HSK.out (by have := L5.out; simp; omega) ?_
   intro vk1 Wh ho hb hg hat
   have n0 := Aside0.mk (HP.out.grown hg (HP.out.B.grown hg HP.out.size (fun k e => by simp [Value.ownBlock] at e)) (fun _ _ _ => by simp [Value.ownBlock]))
   have n1 := Aside0.mk (Kd.N_grown HN.out hg (fun k hk he => by simp [Value.ownBlock] at he))
   have n2 := Aside0.mk (Nat.le_trans HSK.out hg.size)
   clear HP HN HSK
   have HP := n0
   have HN := n1
   have HSK := n2
   clear n0 n1 n2
   rw [List.nil_append] at ho
   have HK := Aside0.mk ho
   clear ho hb hg hat
   obtain ⟨Ak, ck, hvk, _, _⟩ := Kd.R_reads HK.out
   rw [List.length_take, Nat.min_eq_left lnn5] at hvk
   subst hvk
   refine hK.out _ _ (HP.out.cl 4 5 rfl rfl) (fun hHeld => ?_)
   clear hK K
   refine norm_ (a' := ?_) ?_ ?_
   rotate_left
   ·show Act.put _ (some 80) _ = _
    simp only [Act.put, List.setIfInBounds_toArray, List.set_cons_zero, List.set_cons_succ, i64_w, i32_w]
    rfl
   refine one_ (i := 10) (N := some 86) (ob 13 2047) rfl rfl (by kernel_rfl) (by decide) (fun K hK => ?_)
   refine Kd.R_append_rows_step Kd.string (w0 := Wh) nk (by rfl) (.tmp 80) (.tmp 85) 23 9 (.string ⟨#[]⟩) 16 rfl Tryz.underlying23 info9' rfl (by decide) (by omega) (.slice Ak n ck) (v.f5.take n) (v.f5.drop (n + 1)) _ _ _ (fun _ => True) (fun _ => False) rfl rfl HK.out (by have h_ := Kd.C_drop (Kd.C_below HV.out.now.2.2.1 HP.out.B) lm5 HV.out.2.2.2; rw [List.length_drop] at h_; simp only [show Kd.string.sz = 1 from rfl, Nat.mul_one] at h_; exact h_) (fun _ _ h => h) (fun _ h => h.elim) (fun _ _ => trivial) (Below.refl _ _) HSK.out (by have := L5.out; rw [List.length_take, Nat.min_eq_left lnn5]; omega) ?_
   intro vk2 Wi ho hb hg hat
   have n0 := Aside0.mk (HP.out.grown hg (HP.out.B.grown hg HP.out.size (fun k e => by have h1_ := Kd.R_base HK.out k e; have h2_ := HP.out.low 0 rfl; have := LBK.out; omega)) (HP.out.apart2 HK.out rfl))
   have n1 := Aside0.mk (Kd.N_grown HN.out hg (fun k hk he => by have h1_ := Kd.R_base HK.out k he.symm; have := hk.2; omega))
   have n2 := Aside0.mk (Nat.le_trans HSK.out hg.size)
   clear HP HN HSK
   have HP := n0
   have HN := n1
   have HSK := n2
   clear n0 n1 n2
   clear HK
   have HK := Aside0.mk ho
   clear ho hb hg hat
   obtain ⟨Am, cm, hvk, _, _⟩ := Kd.R_reads HK.out
   have HLK := Aside0.mk (show (v.f5.take n ++ v.f5.drop (n + 1)).length = v.f5.length - 1 by rw [List.length_append, List.length_take, List.length_drop]; omega)
   rw [HLK.out] at hvk
   subst hvk
   refine hK.out _ _ (HP.out.cl 4 5 rfl rfl) (fun hHeld => ?_)
   clear hK K
   refine norm_ (a' := ?_) ?_ ?_
   rotate_left
   ·show Act.put _ (some 86) _ = _
    simp only [Act.put, List.setIfInBounds_toArray, List.set_cons_zero, List.set_cons_succ, i64_w, i32_w]
    rfl
   refine pure_ (i := 11) (N := some 87) (v := ?_) (a' := ?_) (ob 13 4095) rfl rfl (by kernel_rfl) (fun _ _ _ h => h) (Or.inl ⟨by rfl, ?_⟩) ?_ ?_
   rotate_left
   ·intro w'
    go_simp
    with_reducible rfl
   rotate_left
   ·simp only [Act.put, List.setIfInBounds_toArray, List.set_cons_zero, List.set_cons_succ, i64_w, i32_w]
    rfl
   refine last_ (i := 12) (N := none) (ob 13 8191) rfl rfl (by kernel_rfl) (by decide) (fun K hK => ?_)
   have yo5 : Wi.cell? ⟨bq, 5, none⟩ = some (.slice A5 v.f5.length c5) := HP.out.cl 0 5 rfl rfl
   have zo5 := HP.out.fz 0 5 rfl
   refine skip_ (w1 := ?_) (by rfl) rfl ?_ ?_
   rotate_left
   ·go_simp
    rfl
   clear yo5 zo5
   have n0 := Aside0.mk ((HP.out.put' 0 rfl 5 (.slice Am (v.f5.length - 1) cm) rfl).1)
   have n1 := Aside0.mk (Kd.N_far HN.out (p := ⟨bq, 5, none⟩) (fun k hk => by rcases hk.1 with h_ | h_; (have := h_.2; have := GBQ.out; show k ≠ bq; omega); exact Nat.ne_of_gt h_) (.slice Am (v.f5.length - 1) cm))
   have n2 := Aside0.mk (Kd.R_far (p := ⟨bq, 5, none⟩) (Kd.R_mono (rowk2 HK.out (Kd.R_ne HK.out (HP.out.get 0 rfl) (by decide))) (fun _ h_ => h_)) (fun _ h_ => h_) (.slice Am (v.f5.length - 1) cm))
   clear HP HN HK
   have HP := n0
   have HN := n1
   have HK := n2
   clear n0 n1 n2
   generalize Wi.setCell ⟨bq, 5, none⟩ (.slice Am (v.f5.length - 1) cm) = Wj at HP HN HK ⊢
   refine hK.out _ _ ?_
   clear hK K
   refine done_ (by kernel_rfl) ?_
   generalize (if cv = n + 1 then some (⟨go, 0, none⟩ : Addr) else some ⟨go, (n + 1) * 6, none⟩) = pz_
   generalize (if c5 = n + 1 then A5 else Option.map (fun x : Addr => (⟨x.block, x.off + (n + 1), none⟩ : Addr)) A5) = pk_
   have yq0 : Wj.cell? ⟨bq, 0, none⟩ = some (.int .i64 v.f0) := HP.out.cl 0 0 rfl rfl
   have yq1 : Wj.cell? ⟨bq, 1, none⟩ = some (.bool v.f1) := HP.out.cl 0 1 rfl rfl
   have yq2 : Wj.cell? ⟨bq, 2, none⟩ = some (.int .i64 v.f2) := HP.out.cl 0 2 rfl rfl
   have yq3 : Wj.cell? ⟨bq, 3, none⟩ = some (.string v.f3) := HP.out.cl 0 3 rfl rfl
   have yq4 : Wj.cell? ⟨bq, 4, none⟩ = some (.slice (some ⟨go, 0, none⟩) (v.f4.length - 1) cv) := HP.out.cl 0 4 rfl rfl
   have yq5 : Wj.cell? ⟨bq, 5, none⟩ = some (.slice Am (v.f5.length - 1) cm) := HP.out.cl 0 5 rfl rfl
   have yr0 : Wj.cell? ⟨br, 0, none⟩ = some (.int .i64 0) := HP.out.cl 3 0 rfl rfl
   have yr1 : Wj.cell? ⟨br, 1, none⟩ = some (.bool false) := HP.out.cl 3 1 rfl rfl
   have yr2 : Wj.cell? ⟨br, 2, none⟩ = some (.int .i64 0) := HP.out.cl 3 2 rfl rfl
   have yr3 : Wj.cell? ⟨br, 3, none⟩ = some (.string ⟨#[]⟩) := HP.out.cl 3 3 rfl rfl
   have yr4 : Wj.cell? ⟨br, 4, none⟩ = some (.slice none 0 0) := HP.out.cl 3 4 rfl rfl
   have yr5 : Wj.cell? ⟨br, 5, none⟩ = some (.slice none 0 0) := HP.out.cl 3 5 rfl rfl
   have zr0 := HP.out.fz 3 0 rfl
   have zr1 := HP.out.fz 3 1 rfl
   have zr2 := HP.out.fz 3 2 rfl
   have zr3 := HP.out.fz 3 3 rfl
   have zr4 := HP.out.fz 3 4 rfl
   have zr5 := HP.out.fz 3 5 rfl
   go_wp2_with fail
   refine bodyPost_ret (results_ct rfl _ _ br 25 #[.int .i64 v.f0, .bool v.f1, .int .i64 v.f2, .string v.f3, .slice (some ⟨go, 0, none⟩) (v.f4.length - 1) cv, .slice Am (v.f5.length - 1) cm] (0, 0) _ rfl (put6 (HP.out.get 3 rfl) _ _ _ _ _ _) Tryz.underlying25 rfl (by kernel_rfl)) rfl ?_
   rw [HE.out]
   have hl_ : (v.f4.eraseIdx n).length = v.f4.length - 1 := List.length_eraseIdx_of_lt ln4
   have hF := Kd.N_F HN.out
   have hR := (Kd.N_reads' HN.out).2.1
   have kF := Kd.R_F (Kd.R_bound HK.out)
   have kR := (Kd.R_reads' HK.out).2.1
   have GBR := HP.out.low 3 rfl
   have LRB : br < bq := HP.out.nd 0 3 _ _ (by omega) rfl rfl
   have kB := Kd.R_base HK.out
   refine ⟨some ⟨go, 0, none⟩, cv, Am, cm, (by show _ = Ending.returned (.tuple #[.agg #[.int .i64 v.f0, .bool v.f1, .int .i64 v.f2, .string v.f3, .slice (some ⟨go, 0, none⟩) (v.f4.eraseIdx n).length cv, .slice Am (v.f5.take n ++ v.f5.drop (n + 1)).length cm], .int .i64 0]); rw [hl_, HLK.out]; rfl), RdF.mono (RdF.six (ok := fun k => (ok0 k ∧ k < w.heap.size) ∨ bq < k) (v := { v with f4 := v.f4.eraseIdx n, f5 := v.f5.take n ++ v.f5.drop (n + 1) }) ⟨?_, ?_, ?_, ?_⟩ (fun k hk => by rcases hk with h_ | h_; (have := h_.2; omega); omega) (.int .i64 v.f0) (.bool v.f1) (.int .i64 v.f2) (.string v.f3) (.slice (some ⟨go, 0, none⟩) (v.f4.length - 1) cv) (.slice Am (v.f5.length - 1) cm)) (fun k hk => hk.elim (fun h_ => .inl h_.1) (fun h_ => .inr (by omega))), put6_below HP.out.B GBR _ _ _ _ _ _⟩
   ·rw [hl_]; exact Kd.F_mono hF (fun k hk => hk.1)
   ·rw [hl_]; exact hR
   ·rw [HLK.out]; exact Kd.F_mono kF (fun k hk => .inr (by have := LBK.out; have := hk.2.1; omega))
   ·rw [HLK.out]; exact kR
end Go.Proofs.YtlofkjdcapbohaaGreatDoor.PConfKeeps
