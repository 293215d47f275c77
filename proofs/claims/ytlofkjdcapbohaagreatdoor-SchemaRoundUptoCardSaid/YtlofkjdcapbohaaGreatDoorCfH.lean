/- For the laws of conf on schemas: CheckSchema and Fill, walked. No condition. -/
import Derived.Test.YtlofkjdcapbohaaGreatDoorCfG
namespace Go.Proofs.YtlofkjdcapbohaaGreatDoor.PConfKeeps
open Go.RowKit Go.Proofs.YtlofkjdcapbohaaGreatDoorW.PrintWords Go.Proofs.YtlofkjdcapbohaaGreatDoorW.PrintLast Go.Proofs.YtlofkjdcapbohaaGreatDoorW.PrintMore
set_option linter.unusedVariables false
set_option linter.unusedSimpArgs false

section
variable {w W : World} {g t k : Nat} {l : List (Nat × Array Value × Nat)}
theorem th_same (hk : k ≠ g) (v0 v1 v2 v3 v4 v5 v6 v7 v8 v9 v10 v11 v12 : Value) : (((((((((((((W.setCell ⟨g, 0, none⟩ v0).setCell ⟨g, 1, none⟩ v1).setCell ⟨g, 2, none⟩ v2).setCell ⟨g, 3, none⟩ v3).setCell ⟨g, 4, none⟩ v4).setCell ⟨g, 5, none⟩ v5).setCell ⟨g, 6, none⟩ v6).setCell ⟨g, 7, none⟩ v7).setCell ⟨g, 8, none⟩ v8).setCell ⟨g, 9, none⟩ v9).setCell ⟨g, 10, none⟩ v10).setCell ⟨g, 11, none⟩ v11).setCell ⟨g, 12, none⟩ v12).heap[k]? = W.heap[k]? := by
 iterate 13 rw [Below.heap_setCell _ _ _ _ hk]
theorem Bs.thirteen {c0 c1 c2 c3 c4 c5 c6 c7 c8 c9 c10 c11 c12 : Value} (h : Bs w W l) (i : Nat) (hi : l[i]? = some (g, #[c0, c1, c2, c3, c4, c5, c6, c7, c8, c9, c10, c11, c12], t)) (v0 v1 v2 v3 v4 v5 v6 v7 v8 v9 v10 v11 v12 : Value) :
  Bs w (((((((((((((W.setCell ⟨g, 0, none⟩ v0).setCell ⟨g, 1, none⟩ v1).setCell ⟨g, 2, none⟩ v2).setCell ⟨g, 3, none⟩ v3).setCell ⟨g, 4, none⟩ v4).setCell ⟨g, 5, none⟩ v5).setCell ⟨g, 6, none⟩ v6).setCell ⟨g, 7, none⟩ v7).setCell ⟨g, 8, none⟩ v8).setCell ⟨g, 9, none⟩ v9).setCell ⟨g, 10, none⟩ v10).setCell ⟨g, 11, none⟩ v11).setCell ⟨g, 12, none⟩ v12) (l.set i (g, #[v0, v1, v2, v3, v4, v5, v6, v7, v8, v9, v10, v11, v12], t)) := by
 obtain ⟨a0, b0⟩ := h.put' i hi 0 v0 (cs' := #[v0, c1, c2, c3, c4, c5, c6, c7, c8, c9, c10, c11, c12]) rfl
 obtain ⟨a1, b1⟩ := a0.put' i b0 1 v1 (cs' := #[v0, v1, c2, c3, c4, c5, c6, c7, c8, c9, c10, c11, c12]) rfl
 obtain ⟨a2, b2⟩ := a1.put' i b1 2 v2 (cs' := #[v0, v1, v2, c3, c4, c5, c6, c7, c8, c9, c10, c11, c12]) rfl
 obtain ⟨a3, b3⟩ := a2.put' i b2 3 v3 (cs' := #[v0, v1, v2, v3, c4, c5, c6, c7, c8, c9, c10, c11, c12]) rfl
 obtain ⟨a4, b4⟩ := a3.put' i b3 4 v4 (cs' := #[v0, v1, v2, v3, v4, c5, c6, c7, c8, c9, c10, c11, c12]) rfl
 obtain ⟨a5, b5⟩ := a4.put' i b4 5 v5 (cs' := #[v0, v1, v2, v3, v4, v5, c6, c7, c8, c9, c10, c11, c12]) rfl
 obtain ⟨a6, b6⟩ := a5.put' i b5 6 v6 (cs' := #[v0, v1, v2, v3, v4, v5, v6, c7, c8, c9, c10, c11, c12]) rfl
 obtain ⟨a7, b7⟩ := a6.put' i b6 7 v7 (cs' := #[v0, v1, v2, v3, v4, v5, v6, v7, c8, c9, c10, c11, c12]) rfl
 obtain ⟨a8, b8⟩ := a7.put' i b7 8 v8 (cs' := #[v0, v1, v2, v3, v4, v5, v6, v7, v8, c9, c10, c11, c12]) rfl
 obtain ⟨a9, b9⟩ := a8.put' i b8 9 v9 (cs' := #[v0, v1, v2, v3, v4, v5, v6, v7, v8, v9, c10, c11, c12]) rfl
 obtain ⟨a10, b10⟩ := a9.put' i b9 10 v10 (cs' := #[v0, v1, v2, v3, v4, v5, v6, v7, v8, v9, v10, c11, c12]) rfl
 obtain ⟨a11, b11⟩ := a10.put' i b10 11 v11 (cs' := #[v0, v1, v2, v3, v4, v5, v6, v7, v8, v9, v10, v11, c12]) rfl
 obtain ⟨a12, b12⟩ := a11.put' i b11 12 v12 (cs' := #[v0, v1, v2, v3, v4, v5, v6, v7, v8, v9, v10, v11, v12]) rfl
 rw [List.set_set, List.set_set, List.set_set, List.set_set, List.set_set, List.set_set, List.set_set, List.set_set, List.set_set, List.set_set, List.set_set, List.set_set] at a12
 exact a12
end
def csl (k : Nat) (l : List S44) : Nat → Nat → MS → Option Int
 | 0, _, _ => some 0
 | n + 1, i, m => (fF k (rd_T44 l (i : Int)) ((Mp.look m (rd_T44 l (i : Int)).f0).getD false)).bind fun e => if e = 0 then csl k l n (i + 1) (((rd_T44 l (i : Int)).f0, true) :: m) else some e
def cCS (k : Nat) (l : List S44) : Option Int := if 100 < l.length then some 4 else csl k l l.length 0 []
set_option maxHeartbeats 4000000 in
set_option maxRecDepth 100000 in
theorem cs_calls (k : Nat) (l : List S44) (A : Option Addr) (c : Nat) (st : Bool) (r : Int) (w : World) (hl : Kd.C k44 w A l.length l) (hc : l.length ≤ c) (hs : ∀ x ∈ l, x.f0.size ≤ maxLen) (h : cCS k l = some r) :
  Calls Tryz.prog 28 #[.agg #[.slice A l.length c, .bool st]] w fun e w' => e = .returned (.int .i64 r) ∧ Below w.heap.size w w' := by
 have hu44 := Tryz.underlying44
 have hu41 := Tryz.underlying41
 have hu25 := Tryz.underlying25
 have hu109 := Tryz.underlying109
 have hmk := @run_makeMap Tryz.prog
 have HL := Aside0.mk hl
 have HSZ := Aside0.mk hs
 have HP := Aside0.mk (Bs.nil w)
 have HMX := Aside0.mk hl.2.1
 unfold cCS at h
 have H := Aside0.mk h
 clear hl hs h
 go_enter Tryz.func28, Tryz.ntmps28
 go_upto_region 1 with (((with_reducible refine gate_dst (N := 1) rfl ?_); refine box_event ?hg (N := 1) ?hd (cs := #[.slice A l.length c, .bool st]) (t := 41) ?hr ?_; (case hd => rfl); (case hg => rfl); (case hr => first | (go_simp; done) | (go_simp; rfl)); intro bs hg_ W1 hbox hb; have n0 := Aside0.mk (HP.out.new hg_ hbox hb); clear HP; have HP := n0; clear n0; clear hg_ hbox hb))
 have ys0 : W1.cell? ⟨bs, 0, none⟩ = some (.slice A l.length c) := HP.out.cl 0 0 rfl rfl
 have ys1 : W1.cell? ⟨bs, 1, none⟩ = some (.bool st) := HP.out.cl 0 1 rfl rfl
 have H1 := H.out
 clear H
 by_cases c1 : 100 < l.length
 case pos =>
  rw [if_pos c1] at H1
  injection H1 with H1
  subst H1
  have e1 : decide ((100 : Int) < (l.length : Int)) = true := decide_eq_true (by omega)
  have e2 : decide ((l.length : Int) > 100) = true := decide_eq_true (by omega)
  have e3 : decide (100 < l.length) = true := decide_eq_true c1
  go_wp2_with fail
  go_ret
  exact ⟨rfl, HP.out.B⟩
 rw [if_neg c1] at H1
 have H := Aside0.mk H1
 clear H1
 have e1 : decide ((100 : Int) < (l.length : Int)) = false := decide_eq_false (by omega)
 have e2 : decide ((l.length : Int) > 100) = false := decide_eq_false (by omega)
 have e3 : decide (100 < l.length) = false := decide_eq_false c1
 go_upto_region 4 with (fail)
 clear e1 e2 e3 c1 ys0 ys1
 have HM := Aside0.mk (show MpS W1.heap.size [] (W1.alloc (.map #[] 0)) from Mp.Is.made W1 _ _ _ _)
 have GM := Aside0.mk HP.out.size
 have n0 := Aside0.mk (HP.out.below (below_alloc (Below.refl _ _) (.map #[] 0)))
 clear HP
 have HP := n0
 clear n0
 generalize W1.alloc (.map #[] 0) = W2 at HP HM ⊢
 generalize W1.heap.size = bm at HM GM ⊢
 have ys0 : W2.cell? ⟨bs, 0, none⟩ = some (.slice A l.length c) := HP.out.cl 0 0 rfl rfl
 have ys1 : W2.cell? ⟨bs, 1, none⟩ = some (.bool st) := HP.out.cl 0 1 rfl rfl
 go_wp2_with fail
 go_loopg [15] l.length (fun kq v15 w' => ∃ (ii : Int) (i : Nat) (m : MS), v15 = .int .i64 ii ∧ Aside0 (ii = (i : Int)) ∧ Aside0 (i + kq = l.length) ∧ Aside0 (csl k l kq i m = some r) ∧ Aside0 (MpS bm m w') ∧ Aside0 (Bs w w' [(bs, #[.slice A l.length c, .bool st], 41)]))
 case atStart => exact ⟨0, 0, [], rfl, ⟨rfl⟩, ⟨by omega⟩, H, HM, HP⟩
 case round =>
  clear HP HM H ys0 ys1
  obtain ⟨ii, i, m, rfl, HII, HI, H, HM, HP⟩ := hrel
  cases gk with
  | zero =>
   have e0 : decide (ii < (l.length : Int)) = false := decide_eq_false (by have := HII.out; have := HI.out; omega)
   have H1 := H.out
   rw [csl] at H1
   injection H1 with H1
   subst H1
   go_wp2_with fail
   go_ret
   exact ⟨rfl, HP.out.B⟩
  | succ k1 =>
   have H1 := H.out
   clear H
   rw [csl, ← HII.out] at H1
   have p0 : 0 ≤ ii := by have := HII.out; omega
   have p1 : ii < (l.length : Int) := by have := HII.out; have := HI.out; omega
   have q0 : decide (ii < (l.length : Int)) = true := decide_eq_true p1
   have q1 : decide (0 ≤ ii) = true := decide_eq_true p0
   obtain ⟨ad, A6, c6, A11, c11, A12, c12, e_, x0, x1, x2, x3, x4, x5, x6, x7, x8, x9, x10, x11, x12, l6, g6, g7⟩ := at_T44 HL.out ii p0 p1
   cases e_
   have HSX := Aside0.mk (show (rd_T44 l ii).f0.size ≤ maxLen from HSZ.out _ (by rw [HII.out]; unfold rd_T44; rw [Int.toNat_natCast, List.getD_eq_getElem?_getD, List.getElem?_eq_getElem (by have := HI.out; omega)]; exact List.getElem_mem _))
   obtain ⟨x, hx⟩ : ∃ x, x = rd_T44 l ii := ⟨_, rfl⟩
   rw [← hx] at x0 x1 x2 x3 x4 x5 x6 x7 x8 x9 x10 x11 x12 l6 g6 g7 H1 HSX
   clear hx
   have G6 := Aside0.mk g6
   have G7 := Aside0.mk g7
   have L6 := Aside0.mk l6
   clear g6 g7 l6
   obtain ⟨qq, hqq⟩ := tm_q1 x.f0 HSX.out
   have HQQ := Aside0.mk hqq
   clear hqq
   obtain ⟨e1, hff, H1⟩ := Option.bind_eq_some_iff.1 H1
   have HFF := Aside0.mk hff
   clear hff
   replace x0 := (HP.out.B.cell (World.block_lt_of_cell? w _ x0)).trans x0
   replace x1 := (HP.out.B.cell (World.block_lt_of_cell? w _ x1)).trans x1
   replace x2 := (HP.out.B.cell (World.block_lt_of_cell? w _ x2)).trans x2
   replace x3 := (HP.out.B.cell (World.block_lt_of_cell? w _ x3)).trans x3
   replace x4 := (HP.out.B.cell (World.block_lt_of_cell? w _ x4)).trans x4
   replace x5 := (HP.out.B.cell (World.block_lt_of_cell? w _ x5)).trans x5
   replace x6 := (HP.out.B.cell (World.block_lt_of_cell? w _ x6)).trans x6
   replace x7 := (HP.out.B.cell (World.block_lt_of_cell? w _ x7)).trans x7
   replace x8 := (HP.out.B.cell (World.block_lt_of_cell? w _ x8)).trans x8
   replace x9 := (HP.out.B.cell (World.block_lt_of_cell? w _ x9)).trans x9
   replace x10 := (HP.out.B.cell (World.block_lt_of_cell? w _ x10)).trans x10
   replace x11 := (HP.out.B.cell (World.block_lt_of_cell? w _ x11)).trans x11
   replace x12 := (HP.out.B.cell (World.block_lt_of_cell? w _ x12)).trans x12
   replace p0 := eq_true p0
   replace p1 := eq_true p1
   go_upto_region 7 with (((with_reducible refine gate_dst (N := 5) rfl ?_); refine box_event ?hg (N := 5) ?hd (cs := #[.string ⟨#[]⟩, .int .i64 0, .bool false, .bool false, .int .i64 0, .int .i64 0, .slice none 0 0, .int .i64 0, .bool false, .int .i64 0, .string ⟨#[]⟩, .slice none 0 0, .slice none 0 0]) (t := 44) ?hr ?_; (case hd => rfl); (case hg => rfl); (case hr => first | (go_simp; done) | (go_simp; rfl)); intro bf hg_ W3 hbox hb; have n0 := Aside0.mk (HP.out.new hg_ hbox hb); have n1 := Aside0.mk (HM.out.below hb); have n2 := Aside0.mk ((show bm ≠ bf by rw [hg_]; exact Nat.ne_of_lt HM.out.lt)); clear HP HM; have HP := n0; have HM := n1; have HGM := n2; clear n0 n1 n2; clear hg_ hbox hb; have yz0 : W3.cell? ⟨bf, 0, none⟩ = some (.string ⟨#[]⟩) := HP.out.cl 0 0 rfl rfl; have yz1 : W3.cell? ⟨bf, 1, none⟩ = some (.int .i64 0) := HP.out.cl 0 1 rfl rfl; have yz2 : W3.cell? ⟨bf, 2, none⟩ = some (.bool false) := HP.out.cl 0 2 rfl rfl; have yz3 : W3.cell? ⟨bf, 3, none⟩ = some (.bool false) := HP.out.cl 0 3 rfl rfl; have yz4 : W3.cell? ⟨bf, 4, none⟩ = some (.int .i64 0) := HP.out.cl 0 4 rfl rfl; have yz5 : W3.cell? ⟨bf, 5, none⟩ = some (.int .i64 0) := HP.out.cl 0 5 rfl rfl; have yz6 : W3.cell? ⟨bf, 6, none⟩ = some (.slice none 0 0) := HP.out.cl 0 6 rfl rfl; have yz7 : W3.cell? ⟨bf, 7, none⟩ = some (.int .i64 0) := HP.out.cl 0 7 rfl rfl; have yz8 : W3.cell? ⟨bf, 8, none⟩ = some (.bool false) := HP.out.cl 0 8 rfl rfl; have yz9 : W3.cell? ⟨bf, 9, none⟩ = some (.int .i64 0) := HP.out.cl 0 9 rfl rfl; have yz10 : W3.cell? ⟨bf, 10, none⟩ = some (.string ⟨#[]⟩) := HP.out.cl 0 10 rfl rfl; have yz11 : W3.cell? ⟨bf, 11, none⟩ = some (.slice none 0 0) := HP.out.cl 0 11 rfl rfl; have yz12 : W3.cell? ⟨bf, 12, none⟩ = some (.slice none 0 0) := HP.out.cl 0 12 rfl rfl; have zz0 := HP.out.fz 0 0 rfl; have zz1 := HP.out.fz 0 1 rfl; have zz2 := HP.out.fz 0 2 rfl; have zz3 := HP.out.fz 0 3 rfl; have zz4 := HP.out.fz 0 4 rfl; have zz5 := HP.out.fz 0 5 rfl; have zz6 := HP.out.fz 0 6 rfl; have zz7 := HP.out.fz 0 7 rfl; have zz8 := HP.out.fz 0 8 rfl; have zz9 := HP.out.fz 0 9 rfl; have zz10 := HP.out.fz 0 10 rfl; have zz11 := HP.out.fz 0 11 rfl; have zz12 := HP.out.fz 0 12 rfl))
   have n0 := Aside0.mk (HP.out.thirteen 0 rfl (.string x.f0) (.int .i64 x.f1) (.bool x.f2) (.bool x.f3) (.int .i64 x.f4) (.int .i64 x.f5) (.slice A6 x.f6.length c6) (.int .i64 x.f7.f0) (.bool x.f7.f1) (.int .i64 x.f7.f2) (.string x.f7.f3) (.slice A11 x.f7.f4.length c11) (.slice A12 x.f7.f5.length c12))
   have n1 := Aside0.mk (HM.out.block (th_same HGM.out (.string x.f0) (.int .i64 x.f1) (.bool x.f2) (.bool x.f3) (.int .i64 x.f4) (.int .i64 x.f5) (.slice A6 x.f6.length c6) (.int .i64 x.f7.f0) (.bool x.f7.f1) (.int .i64 x.f7.f2) (.string x.f7.f3) (.slice A11 x.f7.f4.length c11) (.slice A12 x.f7.f5.length c12)))
   clear HP HM
   have HP := n0
   have HM := n1
   clear n0 n1
   clear yz0 zz0 x0 yz1 zz1 x1 yz2 zz2 x2 yz3 zz3 x3 yz4 zz4 x4 yz5 zz5 x5 yz6 zz6 x6 yz7 zz7 x7 yz8 zz8 x8 yz9 zz9 x9 yz10 zz10 x10 yz11 zz11 x11 yz12 zz12 x12
   generalize (((((((((((((W3.setCell ⟨bf, 0, none⟩ (.string x.f0)).setCell ⟨bf, 1, none⟩ (.int .i64 x.f1)).setCell ⟨bf, 2, none⟩ (.bool x.f2)).setCell ⟨bf, 3, none⟩ (.bool x.f3)).setCell ⟨bf, 4, none⟩ (.int .i64 x.f4)).setCell ⟨bf, 5, none⟩ (.int .i64 x.f5)).setCell ⟨bf, 6, none⟩ (.slice A6 x.f6.length c6)).setCell ⟨bf, 7, none⟩ (.int .i64 x.f7.f0)).setCell ⟨bf, 8, none⟩ (.bool x.f7.f1)).setCell ⟨bf, 9, none⟩ (.int .i64 x.f7.f2)).setCell ⟨bf, 10, none⟩ (.string x.f7.f3)).setCell ⟨bf, 11, none⟩ (.slice A11 x.f7.f4.length c11)).setCell ⟨bf, 12, none⟩ (.slice A12 x.f7.f5.length c12)) = W4 at HP HM ⊢
   have yf0 : W4.cell? ⟨bf, 0, none⟩ = some (.string x.f0) := HP.out.cl 0 0 rfl rfl
   have yf1 : W4.cell? ⟨bf, 1, none⟩ = some (.int .i64 x.f1) := HP.out.cl 0 1 rfl rfl
   have yf2 : W4.cell? ⟨bf, 2, none⟩ = some (.bool x.f2) := HP.out.cl 0 2 rfl rfl
   have yf3 : W4.cell? ⟨bf, 3, none⟩ = some (.bool x.f3) := HP.out.cl 0 3 rfl rfl
   have yf4 : W4.cell? ⟨bf, 4, none⟩ = some (.int .i64 x.f4) := HP.out.cl 0 4 rfl rfl
   have yf5 : W4.cell? ⟨bf, 5, none⟩ = some (.int .i64 x.f5) := HP.out.cl 0 5 rfl rfl
   have yf6 : W4.cell? ⟨bf, 6, none⟩ = some (.slice A6 x.f6.length c6) := HP.out.cl 0 6 rfl rfl
   have yf7 : W4.cell? ⟨bf, 7, none⟩ = some (.int .i64 x.f7.f0) := HP.out.cl 0 7 rfl rfl
   have yf8 : W4.cell? ⟨bf, 8, none⟩ = some (.bool x.f7.f1) := HP.out.cl 0 8 rfl rfl
   have yf9 : W4.cell? ⟨bf, 9, none⟩ = some (.int .i64 x.f7.f2) := HP.out.cl 0 9 rfl rfl
   have yf10 : W4.cell? ⟨bf, 10, none⟩ = some (.string x.f7.f3) := HP.out.cl 0 10 rfl rfl
   have yf11 : W4.cell? ⟨bf, 11, none⟩ = some (.slice A11 x.f7.f4.length c11) := HP.out.cl 0 11 rfl rfl
   have yf12 : W4.cell? ⟨bf, 12, none⟩ = some (.slice A12 x.f7.f5.length c12) := HP.out.cl 0 12 rfl rfl
   by_cases c2 : e1 = 0
   case neg =>
    rw [if_neg c2] at H1
    injection H1 with H1
    subst H1
    have e2a : (e1 == 0) = false := beq_eq_false_iff_ne.2 c2
    have e2b : (e1 != 0) = true := bne_iff_ne.2 c2
    go_wp2_with (go_at_call 57; refine (ff_calls k x A6 c6 A11 c11 A12 c12 bm m e1 _ L6.out (Kd.C_below G6.out HP.out.B) (G7.out.below HP.out.B) HM.out HSX.out HFF.out).mono ?_; rintro e w5 ⟨rfl, hb⟩; have n0 := Aside0.mk (HP.out.below hb); have n1 := Aside0.mk (HM.out.below hb); clear HP HM; have HP := n0; have HM := n1; clear n0 n1; clear hb; have yg0 : w5.cell? ⟨bf, 0, none⟩ = some (.string x.f0) := HP.out.cl 0 0 rfl rfl)
    go_ret
    exact ⟨rfl, HP.out.B⟩
   rw [if_pos c2] at H1
   have e2a : (e1 == 0) = true := beq_iff_eq.2 c2
   have e2b : (e1 != 0) = false := bne_eq_false_iff_eq.2 c2
   go_wp2_with (first | (go_at_call 57; refine (ff_calls k x A6 c6 A11 c11 A12 c12 bm m e1 _ L6.out (Kd.C_below G6.out HP.out.B) (G7.out.below HP.out.B) HM.out HSX.out HFF.out).mono ?_; rintro e w5 ⟨rfl, hb⟩; have n0 := Aside0.mk (HP.out.below hb); have n1 := Aside0.mk (HM.out.below hb); clear HP HM; have HP := n0; have HM := n1; clear n0 n1; clear hb; have yg0 : w5.cell? ⟨bf, 0, none⟩ = some (.string x.f0) := HP.out.cl 0 0 rfl rfl) | (at_mapUpdate; refine Mp.wp_put (V := VB) rfl _ _ _ rfl tm_k1 Tryz.underlying109 E1_inj rfl HM.out x.f0 true qq rfl rfl HQQ.out ?_; intro w6 hm2 hg2; have hb := HP.out.B.grown hg2 HP.out.size (fun k e => by cases e; exact GM.out); have n1 := Aside0.mk (HP.out.grown hg2 hb (fun i p hp he => by injection he with he; exact HM.out.ne (HP.out.blk i p hp) he)); clear HP HM; have HP := n1; clear n1; have HM := Aside0.mk hm2; clear hm2 hg2 hb))
   go_roundg k1
   case measure => omega
   case rel => exact ⟨_, i + 1, _, rfl, ⟨by have h1_ := HMX.out; have h2_ := HII.out; have h3_ := HI.out; unfold wrap64; omega⟩, ⟨by have := HI.out; omega⟩, ⟨H1⟩, HM, ⟨HP.out.tail⟩⟩
end Go.Proofs.YtlofkjdcapbohaaGreatDoor.PConfKeeps
