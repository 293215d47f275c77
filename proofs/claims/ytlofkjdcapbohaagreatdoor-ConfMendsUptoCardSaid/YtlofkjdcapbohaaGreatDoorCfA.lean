/- For the laws of conf: what is read of a value; six stores; follow, walked. No condition. -/
import Derived.Test.YtlofkjdcapbohaaGreatDoorPConfKeepsx6
namespace Go.Proofs.YtlofkjdcapbohaaGreatDoor.PConfKeeps
open Go.RowKit Go.Proofs.YtlofkjdcapbohaaGreatDoorW.PrintWords Go.Proofs.YtlofkjdcapbohaaGreatDoorW.PrintLast Go.Proofs.YtlofkjdcapbohaaGreatDoorW.PrintMore
set_option linter.unusedVariables false
set_option linter.unusedSimpArgs false
/-- a value's slices, read at a world -/
def Rd (w : World) (v : S25) (A4 : Option Addr) (c4 : Nat) (A5 : Option Addr) (c5 : Nat) : Prop := Kd.C k25 w A4 v.f4.length v.f4 ∧ v.f4.length ≤ c4 ∧ Kd.C Kd.string w A5 v.f5.length v.f5 ∧ v.f5.length ≤ c5
theorem Rd.below {w W : World} {v : S25} {A4 : Option Addr} {c4 : Nat} {A5 : Option Addr} {c5 : Nat} (h : Rd w v A4 c4 A5 c5) (hb : Below w.heap.size w W) : Rd W v A4 c4 A5 c5 := ⟨Kd.C_below h.1 hb, h.2.1, Kd.C_below h.2.2.1 hb, h.2.2.2⟩
theorem Rd.nil (w : World) (k : Int) (b : Bool) (i : Int) (s : ByteArray) : Rd w ⟨k, b, i, s, [], []⟩ none 0 none 0 := ⟨Kd.C_nil _ _, Nat.le_refl _, Kd.C_nil _ _, Nat.le_refl _⟩
/-- a value's slices, read at a world, and the blocks they lie in -/
def RdF (w : World) (ok : Nat → Prop) (v : S25) (A4 : Option Addr) (c4 : Nat) (A5 : Option Addr) (c5 : Nat) : Prop := Kd.F k25 w ok A4 v.f4.length v.f4 ∧ v.f4.length ≤ c4 ∧ Kd.F Kd.string w ok A5 v.f5.length v.f5 ∧ v.f5.length ≤ c5
section
variable {w W : World} {ok ok' : Nat → Prop} {v : S25} {A4 : Option Addr} {c4 : Nat} {A5 : Option Addr} {c5 : Nat}
theorem RdF.now (h : RdF w ok v A4 c4 A5 c5) : Rd w v A4 c4 A5 c5 := ⟨Kd.F_now h.1, h.2.1, Kd.F_now h.2.2.1, h.2.2.2⟩
theorem RdF.below (h : RdF w ok v A4 c4 A5 c5) (hb : Below w.heap.size w W) : RdF W ok v A4 c4 A5 c5 := ⟨Kd.F_below h.1 hb, h.2.1, Kd.F_below h.2.2.1 hb, h.2.2.2⟩
theorem RdF.mono (h : RdF w ok v A4 c4 A5 c5) (hm : ∀ k, ok k → ok' k) : RdF w ok' v A4 c4 A5 c5 := ⟨Kd.F_mono h.1 hm, h.2.1, Kd.F_mono h.2.2.1 hm, h.2.2.2⟩
theorem RdF.bound (h : RdF w ok v A4 c4 A5 c5) : RdF w (fun k => ok k ∧ k < w.heap.size) v A4 c4 A5 c5 := ⟨Kd.F_bound h.1, h.2.1, Kd.F_bound h.2.2.1, h.2.2.2⟩
theorem RdF.step (h : RdF w ok v A4 c4 A5 c5) (hm : ∀ k, ok k → k < w.heap.size → W.heap[k]? = w.heap[k]?) : RdF W ok v A4 c4 A5 c5 := ⟨Kd.F_step h.1 hm, h.2.1, Kd.F_step h.2.2.1 hm, h.2.2.2⟩
theorem RdF.nil (w : World) (ok : Nat → Prop) (k : Int) (b : Bool) (i : Int) (s : ByteArray) : RdF w ok ⟨k, b, i, s, [], []⟩ none 0 none 0 := ⟨Kd.F_nil _ _ _, Nat.le_refl _, Kd.F_nil _ _ _, Nat.le_refl _⟩
/-- the items' blocks alone are told -/
def RdK (w : World) (ok : Nat → Prop) (v : S25) (A4 : Option Addr) (c4 : Nat) (A5 : Option Addr) (c5 : Nat) : Prop := Kd.F k25 w ok A4 v.f4.length v.f4 ∧ v.f4.length ≤ c4 ∧ Kd.C Kd.string w A5 v.f5.length v.f5 ∧ v.f5.length ≤ c5
theorem RdF.K (h : RdF w ok v A4 c4 A5 c5) : RdK w ok v A4 c4 A5 c5 := ⟨h.1, h.2.1, Kd.F_now h.2.2.1, h.2.2.2⟩
theorem RdK.now (h : RdK w ok v A4 c4 A5 c5) : Rd w v A4 c4 A5 c5 := ⟨Kd.F_now h.1, h.2.1, h.2.2.1, h.2.2.2⟩
theorem at_F25 {A : Option Addr} {n : Nat} {xs : List S25} (h : Kd.F k25 w ok A n xs) (i : Int) (h0 : 0 ≤ i) (h1 : i < n) : ∃ ad A4 c4 A5 c5, A = some ad ∧ w.cell? (ad.add (i.toNat * 6)) = some (.int .i64 (rd_T25 xs i).f0) ∧ w.cell? ⟨(ad.add (i.toNat * 6)).block, (ad.add (i.toNat * 6)).off + 1, none⟩ = some (.bool (rd_T25 xs i).f1) ∧ w.cell? ⟨(ad.add (i.toNat * 6)).block, (ad.add (i.toNat * 6)).off + 2, none⟩ = some (.int .i64 (rd_T25 xs i).f2) ∧ w.cell? ⟨(ad.add (i.toNat * 6)).block, (ad.add (i.toNat * 6)).off + 3, none⟩ = some (.string (rd_T25 xs i).f3) ∧ w.cell? ⟨(ad.add (i.toNat * 6)).block, (ad.add (i.toNat * 6)).off + 4, none⟩ = some (.slice A4 (rd_T25 xs i).f4.length c4) ∧ w.cell? ⟨(ad.add (i.toNat * 6)).block, (ad.add (i.toNat * 6)).off + 5, none⟩ = some (.slice A5 (rd_T25 xs i).f5.length c5) ∧ RdF w ok (rd_T25 xs i) A4 c4 A5 c5 := by
 obtain ⟨ad, c, e, _, hK, hc0, _⟩ := Kd.F_get h z25 i h0 h1
 have hc : ∀ j u, c[j]? = some u → w.cell? (ad.add (i.toNat * 6 + j)) = some u := hc0
 obtain ⟨A4, c4, A5, c5, rfl, l4, g4, l5, g5⟩ := k25_openF hK
 exact ⟨ad, A4, c4, A5, c5, e, hc 0 _ rfl, by rw [← add_field _ _ 1 (by omega)]; exact hc 1 _ rfl, by rw [← add_field _ _ 2 (by omega)]; exact hc 2 _ rfl, by rw [← add_field _ _ 3 (by omega)]; exact hc 3 _ rfl, by rw [← add_field _ _ 4 (by omega)]; exact hc 4 _ rfl, by rw [← add_field _ _ 5 (by omega)]; exact hc 5 _ rfl, ⟨g4, l4, g5, l5⟩⟩
end
theorem put6 {W : World} {g t : Nat} {c0 c1 c2 c3 c4 c5 : Value} (h : W.heap[g]? = some (.cells #[c0, c1, c2, c3, c4, c5] t (0, 0))) (v0 v1 v2 v3 v4 v5 : Value) :
  ((((((W.setCell ⟨g, 0, none⟩ v0).setCell ⟨g, 1, none⟩ v1).setCell ⟨g, 2, none⟩ v2).setCell ⟨g, 3, none⟩ v3).setCell ⟨g, 4, none⟩ v4).setCell ⟨g, 5, none⟩ v5).heap[g]? = some (.cells #[v0, v1, v2, v3, v4, v5] t (0, 0)) := by
 have h0 := blk_put (cs' := #[v0, c1, c2, c3, c4, c5]) h 0 v0 rfl
 have h1 := blk_put (cs' := #[v0, v1, c2, c3, c4, c5]) h0 1 v1 rfl
 have h2 := blk_put (cs' := #[v0, v1, v2, c3, c4, c5]) h1 2 v2 rfl
 have h3 := blk_put (cs' := #[v0, v1, v2, v3, c4, c5]) h2 3 v3 rfl
 have h4 := blk_put (cs' := #[v0, v1, v2, v3, v4, c5]) h3 4 v4 rfl
 exact blk_put (cs' := #[v0, v1, v2, v3, v4, v5]) h4 5 v5 rfl
theorem put6_below {w W : World} {g : Nat} (hb : Below w.heap.size w W) (hg : w.heap.size ≤ g) (v0 v1 v2 v3 v4 v5 : Value) :
  Below w.heap.size w ((((((W.setCell ⟨g, 0, none⟩ v0).setCell ⟨g, 1, none⟩ v1).setCell ⟨g, 2, none⟩ v2).setCell ⟨g, 3, none⟩ v3).setCell ⟨g, 4, none⟩ v4).setCell ⟨g, 5, none⟩ v5) :=
 below_set (below_set (below_set (below_set (below_set (below_set hb hg) hg) hg) hg) hg) hg
theorem put6_far {W : World} {g b : Nat} {o : Obj} (h : W.heap[b]? = some o) (hne : b ≠ g) (v0 v1 v2 v3 v4 v5 : Value) :
  ((((((W.setCell ⟨g, 0, none⟩ v0).setCell ⟨g, 1, none⟩ v1).setCell ⟨g, 2, none⟩ v2).setCell ⟨g, 3, none⟩ v3).setCell ⟨g, 4, none⟩ v4).setCell ⟨g, 5, none⟩ v5).heap[b]? = some o :=
 (Below.heap_setCell _ _ _ _ hne).trans ((Below.heap_setCell _ _ _ _ hne).trans ((Below.heap_setCell _ _ _ _ hne).trans ((Below.heap_setCell _ _ _ _ hne).trans ((Below.heap_setCell _ _ _ _ hne).trans ((Below.heap_setCell _ _ _ _ hne).trans h)))))
/-- what follow answers -/
def cfollow (v : S25) (s : S95) : Option (S25 × Bool) :=
 if s.f0.toList = [] then (if v.f0 = 5 then (if s.f1 < (v.f4.length : Int) then (if 0 ≤ s.f1 then some (rd_T25 v.f4 s.f1, true) else none) else some (z25, false)) else some (z25, false))
 else if v.f0 = 6 then ((conf_find.f v.f0 v.f1 v.f2 v.f3 v.f4 v.f5 s.f0).bind fun b => if b.2 = true then (if 0 ≤ b.1 then (if b.1 < (v.f4.length : Int) then some (rd_T25 v.f4 b.1, true) else none) else none) else some (z25, false)) else some (z25, false)
set_option maxHeartbeats 3000000 in
set_option maxRecDepth 100000 in
theorem follow_calls (v : S25) (A4 : Option Addr) (c4 : Nat) (A5 : Option Addr) (c5 : Nat) (s : S95) (r : S25 × Bool) (w : World) (ok0 : Nat → Prop) (hv : RdK w ok0 v A4 c4 A5 c5) (h : cfollow v s = some r) :
  Calls Tryz.prog 49 #[.agg #[.int .i64 v.f0, .bool v.f1, .int .i64 v.f2, .string v.f3, .slice A4 v.f4.length c4, .slice A5 v.f5.length c5], .agg #[.string s.f0, .int .i64 s.f1, .bool s.f2]] w fun e w' => ∃ B4 d4 B5 d5, e = .returned (.tuple #[.agg #[.int .i64 r.1.f0, .bool r.1.f1, .int .i64 r.1.f2, .string r.1.f3, .slice B4 r.1.f4.length d4, .slice B5 r.1.f5.length d5], .bool r.2]) ∧ RdF w' ok0 r.1 B4 d4 B5 d5 ∧ Below w.heap.size w w' := by
 have hu25 := Tryz.underlying25
 have hu95 := Tryz.underlying95
 have HV := Aside0.mk hv
 have H := Aside0.mk h
 unfold cfollow at h
 clear hv
 go_enter Tryz.func49, Tryz.ntmps49
 go_upto_region 1 with (fail)
 have HB := Aside0.mk (show Below w.heap.size w (((w.alloc (.cells #[.int .i64 v.f0, .bool v.f1, .int .i64 v.f2, .string v.f3, .slice A4 v.f4.length c4, .slice A5 v.f5.length c5] 25)).alloc (.cells #[.string s.f0, .int .i64 s.f1, .bool s.f2] 95)).alloc (.cells #[.int .i64 0, .bool false, .int .i64 0, .string ⟨#[]⟩, .slice none 0 0, .slice none 0 0] 25)) from below_alloc (below_alloc (below_alloc (Below.refl _ _) _) _) _)
 have BKbv : (w.alloc (.cells #[.int .i64 v.f0, .bool v.f1, .int .i64 v.f2, .string v.f3, .slice A4 v.f4.length c4, .slice A5 v.f5.length c5] 25)).heap[w.heap.size]? = some (.cells #[.int .i64 v.f0, .bool v.f1, .int .i64 v.f2, .string v.f3, .slice A4 v.f4.length c4, .slice A5 v.f5.length c5] 25 (0, 0)) := by
  have h_ := blk_new w (.cells #[.int .i64 v.f0, .bool v.f1, .int .i64 v.f2, .string v.f3, .slice A4 v.f4.length c4, .slice A5 v.f5.length c5] 25)
  simpa using h_
 replace BKbv := blk_alloc BKbv (.cells #[.string s.f0, .int .i64 s.f1, .bool s.f2] 95)
 replace BKbv := blk_alloc BKbv (.cells #[.int .i64 0, .bool false, .int .i64 0, .string ⟨#[]⟩, .slice none 0 0, .slice none 0 0] 25)
 replace BKbv := Aside0.mk BKbv
 have BKbs : ((w.alloc (.cells #[.int .i64 v.f0, .bool v.f1, .int .i64 v.f2, .string v.f3, .slice A4 v.f4.length c4, .slice A5 v.f5.length c5] 25)).alloc (.cells #[.string s.f0, .int .i64 s.f1, .bool s.f2] 95)).heap[w.heap.size + 1]? = some (.cells #[.string s.f0, .int .i64 s.f1, .bool s.f2] 95 (0, 0)) := by
  have h_ := blk_new (w.alloc (.cells #[.int .i64 v.f0, .bool v.f1, .int .i64 v.f2, .string v.f3, .slice A4 v.f4.length c4, .slice A5 v.f5.length c5] 25)) (.cells #[.string s.f0, .int .i64 s.f1, .bool s.f2] 95)
  simpa using h_
 replace BKbs := blk_alloc BKbs (.cells #[.int .i64 0, .bool false, .int .i64 0, .string ⟨#[]⟩, .slice none 0 0, .slice none 0 0] 25)
 replace BKbs := Aside0.mk BKbs
 have BKbr : (((w.alloc (.cells #[.int .i64 v.f0, .bool v.f1, .int .i64 v.f2, .string v.f3, .slice A4 v.f4.length c4, .slice A5 v.f5.length c5] 25)).alloc (.cells #[.string s.f0, .int .i64 s.f1, .bool s.f2] 95)).alloc (.cells #[.int .i64 0, .bool false, .int .i64 0, .string ⟨#[]⟩, .slice none 0 0, .slice none 0 0] 25)).heap[w.heap.size + 1 + 1]? = some (.cells #[.int .i64 0, .bool false, .int .i64 0, .string ⟨#[]⟩, .slice none 0 0, .slice none 0 0] 25 (0, 0)) := by
  have h_ := blk_new ((w.alloc (.cells #[.int .i64 v.f0, .bool v.f1, .int .i64 v.f2, .string v.f3, .slice A4 v.f4.length c4, .slice A5 v.f5.length c5] 25)).alloc (.cells #[.string s.f0, .int .i64 s.f1, .bool s.f2] 95)) (.cells #[.int .i64 0, .bool false, .int .i64 0, .string ⟨#[]⟩, .slice none 0 0, .slice none 0 0] 25)
  simpa using h_
 replace BKbr := Aside0.mk BKbr
 have Gbv : Aside0 (w.heap.size ≤ w.heap.size) := ⟨by omega⟩
 have Gbs : Aside0 (w.heap.size ≤ w.heap.size + 1) := ⟨by omega⟩
 have Nbvbs : w.heap.size ≠ w.heap.size + 1 := by omega
 have Lbvbs : w.heap.size < w.heap.size + 1 := by omega
 have Nbsbv : w.heap.size + 1 ≠ w.heap.size := by omega
 have Gbr : Aside0 (w.heap.size ≤ w.heap.size + 1 + 1) := ⟨by omega⟩
 have Nbvbr : w.heap.size ≠ w.heap.size + 1 + 1 := by omega
 have Lbvbr : w.heap.size < w.heap.size + 1 + 1 := by omega
 have Nbrbv : w.heap.size + 1 + 1 ≠ w.heap.size := by omega
 have Nbsbr : w.heap.size + 1 ≠ w.heap.size + 1 + 1 := by omega
 have Lbsbr : w.heap.size + 1 < w.heap.size + 1 + 1 := by omega
 have Nbrbs : w.heap.size + 1 + 1 ≠ w.heap.size + 1 := by omega
 generalize (((w.alloc (.cells #[.int .i64 v.f0, .bool v.f1, .int .i64 v.f2, .string v.f3, .slice A4 v.f4.length c4, .slice A5 v.f5.length c5] 25)).alloc (.cells #[.string s.f0, .int .i64 s.f1, .bool s.f2] 95)).alloc (.cells #[.int .i64 0, .bool false, .int .i64 0, .string ⟨#[]⟩, .slice none 0 0, .slice none 0 0] 25)) = W at HB BKbv BKbs BKbr ⊢
 generalize w.heap.size + 1 + 1 = br at BKbr Gbr Nbrbv Nbvbr Lbvbr Nbrbs Nbsbr Lbsbr ⊢
 generalize w.heap.size + 1 = bs at BKbs Gbs Nbsbv Nbvbs Lbvbs Nbsbr Nbrbs Lbsbr ⊢
 have yv_0 : W.cell? ⟨w.heap.size, 0, none⟩ = some (.int .i64 v.f0) := (blk_cell BKbv.out 0).trans rfl
 have ys_0 : W.cell? ⟨bs, 0, none⟩ = some (.string s.f0) := (blk_cell BKbs.out 0).trans rfl
 have ys_1 : W.cell? ⟨bs, 1, none⟩ = some (.int .i64 s.f1) := (blk_cell BKbs.out 1).trans rfl
 by_cases c1 : s.f0.toList = []
 ·rw [if_pos c1] at h
  have c1b : (s.f0.toList == ([] : List UInt8)) = true := beq_iff_eq.mpr c1
  have c1c : (s.f0.toList != ([] : List UInt8)) = false := bne_eq_false_iff_eq.mpr c1
  by_cases c2 : v.f0 = 5
  ·rw [if_pos c2] at h
   have c2b : (v.f0 == 5) = true := beq_iff_eq.mpr c2
   have c2c : (v.f0 != 5) = false := bne_eq_false_iff_eq.mpr c2
   by_cases c3 : s.f1 < (v.f4.length : Int)
   ·rw [if_pos c3] at h
    have yv_4 : W.cell? ⟨w.heap.size, 4, none⟩ = some (.slice A4 v.f4.length c4) := (blk_cell BKbv.out 4).trans rfl
    have c3b : decide ((v.f4.length : Int) ≤ s.f1) = false := decide_eq_false (by omega)
    by_cases q4 : 0 ≤ s.f1
    ·rw [if_pos q4] at h
     injection h with h
     subst h
     obtain ⟨ad, B4, d4, B5, d5, e_, x0, x1, x2, x3, x4, x5, hrd⟩ := at_F25 HV.out.1 s.f1 q4 c3
     cases e_
     replace x0 := (HB.out.cell (World.block_lt_of_cell? w _ x0)).trans x0
     replace x1 := (HB.out.cell (World.block_lt_of_cell? w _ x1)).trans x1
     replace x2 := (HB.out.cell (World.block_lt_of_cell? w _ x2)).trans x2
     replace x3 := (HB.out.cell (World.block_lt_of_cell? w _ x3)).trans x3
     replace x4 := (HB.out.cell (World.block_lt_of_cell? w _ x4)).trans x4
     replace x5 := (HB.out.cell (World.block_lt_of_cell? w _ x5)).trans x5
     have RD := Aside0.mk hrd
     clear hrd H
     obtain ⟨x, hx⟩ : ∃ x, x = rd_T25 v.f4 s.f1 := ⟨_, rfl⟩
     rw [← hx] at x0 x1 x2 x3 x4 x5 RD
     have HX := Aside0.mk hx
     clear hx
     have c3e := eq_true c3
     have c4e := eq_true q4
     have yr_0 : W.cell? ⟨br, 0, none⟩ = some (.int .i64 0) := (blk_cell BKbr.out 0).trans rfl
     have yr_1 : W.cell? ⟨br, 1, none⟩ = some (.bool false) := (blk_cell BKbr.out 1).trans rfl
     have yr_2 : W.cell? ⟨br, 2, none⟩ = some (.int .i64 0) := (blk_cell BKbr.out 2).trans rfl
     have yr_3 : W.cell? ⟨br, 3, none⟩ = some (.string ⟨#[]⟩) := (blk_cell BKbr.out 3).trans rfl
     have yr_4 : W.cell? ⟨br, 4, none⟩ = some (.slice none 0 0) := (blk_cell BKbr.out 4).trans rfl
     have yr_5 : W.cell? ⟨br, 5, none⟩ = some (.slice none 0 0) := (blk_cell BKbr.out 5).trans rfl
     have zr_0 := blk_frozen BKbr.out 0
     have zr_1 := blk_frozen BKbr.out 1
     have zr_2 := blk_frozen BKbr.out 2
     have zr_3 := blk_frozen BKbr.out 3
     have zr_4 := blk_frozen BKbr.out 4
     have zr_5 := blk_frozen BKbr.out 5
     go_wp2_with fail
     refine bodyPost_ret (results_ct rfl _ _ br 25 #[.int .i64 x.f0, .bool x.f1, .int .i64 x.f2, .string x.f3, .slice B4 x.f4.length d4, .slice B5 x.f5.length d5] (0, 0) _ rfl (put6 BKbr.out _ _ _ _ _ _) Tryz.underlying25 rfl (by kernel_rfl)) rfl ?_
     obtain rfl := HX.out
     exact ⟨B4, d4, B5, d5, rfl, RD.out.below (put6_below HB.out Gbr.out _ _ _ _ _ _), put6_below HB.out Gbr.out _ _ _ _ _ _⟩
    ·rw [if_neg q4] at h; cases h
   ·rw [if_neg c3] at h
    injection h with h
    subst h
    have yv_4 : W.cell? ⟨w.heap.size, 4, none⟩ = some (.slice A4 v.f4.length c4) := (blk_cell BKbv.out 4).trans rfl
    have c3b : decide ((v.f4.length : Int) ≤ s.f1) = true := decide_eq_true (by omega)
    have yr_0 : W.cell? ⟨br, 0, none⟩ = some (.int .i64 0) := (blk_cell BKbr.out 0).trans rfl
    have yr_1 : W.cell? ⟨br, 1, none⟩ = some (.bool false) := (blk_cell BKbr.out 1).trans rfl
    have yr_2 : W.cell? ⟨br, 2, none⟩ = some (.int .i64 0) := (blk_cell BKbr.out 2).trans rfl
    have yr_3 : W.cell? ⟨br, 3, none⟩ = some (.string ⟨#[]⟩) := (blk_cell BKbr.out 3).trans rfl
    have yr_4 : W.cell? ⟨br, 4, none⟩ = some (.slice none 0 0) := (blk_cell BKbr.out 4).trans rfl
    have yr_5 : W.cell? ⟨br, 5, none⟩ = some (.slice none 0 0) := (blk_cell BKbr.out 5).trans rfl
    have zr_0 := blk_frozen BKbr.out 0
    have zr_1 := blk_frozen BKbr.out 1
    have zr_2 := blk_frozen BKbr.out 2
    have zr_3 := blk_frozen BKbr.out 3
    have zr_4 := blk_frozen BKbr.out 4
    have zr_5 := blk_frozen BKbr.out 5
    go_wp2_with fail
    refine bodyPost_ret (results_ct rfl _ _ br 25 #[.int .i64 0, .bool false, .int .i64 0, .string ⟨#[]⟩, .slice none 0 0, .slice none 0 0] (0, 0) _ rfl (put6 BKbr.out _ _ _ _ _ _) Tryz.underlying25 rfl (by kernel_rfl)) rfl ?_
    exact ⟨none, 0, none, 0, rfl, RdF.nil _ _ _ _ _ _, put6_below HB.out Gbr.out _ _ _ _ _ _⟩
  ·rw [if_neg c2] at h
   injection h with h
   subst h
   have c2b : (v.f0 == 5) = false := beq_eq_false_iff_ne.mpr c2
   have c2c : (v.f0 != 5) = true := bne_iff_ne.mpr c2
   have yr_0 : W.cell? ⟨br, 0, none⟩ = some (.int .i64 0) := (blk_cell BKbr.out 0).trans rfl
   have yr_1 : W.cell? ⟨br, 1, none⟩ = some (.bool false) := (blk_cell BKbr.out 1).trans rfl
   have yr_2 : W.cell? ⟨br, 2, none⟩ = some (.int .i64 0) := (blk_cell BKbr.out 2).trans rfl
   have yr_3 : W.cell? ⟨br, 3, none⟩ = some (.string ⟨#[]⟩) := (blk_cell BKbr.out 3).trans rfl
   have yr_4 : W.cell? ⟨br, 4, none⟩ = some (.slice none 0 0) := (blk_cell BKbr.out 4).trans rfl
   have yr_5 : W.cell? ⟨br, 5, none⟩ = some (.slice none 0 0) := (blk_cell BKbr.out 5).trans rfl
   have zr_0 := blk_frozen BKbr.out 0
   have zr_1 := blk_frozen BKbr.out 1
   have zr_2 := blk_frozen BKbr.out 2
   have zr_3 := blk_frozen BKbr.out 3
   have zr_4 := blk_frozen BKbr.out 4
   have zr_5 := blk_frozen BKbr.out 5
   go_wp2_with fail
   refine bodyPost_ret (results_ct rfl _ _ br 25 #[.int .i64 0, .bool false, .int .i64 0, .string ⟨#[]⟩, .slice none 0 0, .slice none 0 0] (0, 0) _ rfl (put6 BKbr.out _ _ _ _ _ _) Tryz.underlying25 rfl (by kernel_rfl)) rfl ?_
   exact ⟨none, 0, none, 0, rfl, RdF.nil _ _ _ _ _ _, put6_below HB.out Gbr.out _ _ _ _ _ _⟩
 ·rw [if_neg c1] at h
  have c1b : (s.f0.toList == ([] : List UInt8)) = false := beq_eq_false_iff_ne.mpr c1
  have c1c : (s.f0.toList != ([] : List UInt8)) = true := bne_iff_ne.mpr c1
  by_cases c2 : v.f0 = 6
  ·rw [if_pos c2] at h
   have c2b : (v.f0 == 6) = true := beq_iff_eq.mpr c2
   have c2c : (v.f0 != 6) = false := bne_eq_false_iff_eq.mpr c2
   obtain ⟨⟨i, ok⟩, hf, h⟩ := Option.bind_eq_some_iff.1 h
   rw [c2] at hf
   have HF := Aside0.mk hf
   clear hf
   have yv_1 : W.cell? ⟨w.heap.size, 1, none⟩ = some (.bool v.f1) := (blk_cell BKbv.out 1).trans rfl
   have yv_2 : W.cell? ⟨w.heap.size, 2, none⟩ = some (.int .i64 v.f2) := (blk_cell BKbv.out 2).trans rfl
   have yv_3 : W.cell? ⟨w.heap.size, 3, none⟩ = some (.string v.f3) := (blk_cell BKbv.out 3).trans rfl
   have yv_4 : W.cell? ⟨w.heap.size, 4, none⟩ = some (.slice A4 v.f4.length c4) := (blk_cell BKbv.out 4).trans rfl
   have yv_5 : W.cell? ⟨w.heap.size, 5, none⟩ = some (.slice A5 v.f5.length c5) := (blk_cell BKbv.out 5).trans rfl
   go_upto_region 5 with (go_at_call 55; refine (conf_find.calls 6 v.f1 v.f2 v.f3 A4 c4 v.f4 A5 c5 v.f5 s.f0 i ok _ (Kd.C_below HV.out.now.1 HB.out) HV.out.2.1 (Kd.C_below HV.out.now.2.2.1 HB.out) HV.out.2.2.2 HF.out).mono ?_; rintro e W2 ⟨rfl, hb⟩; have HB2 := Aside0.mk (below_step HB.out hb); have BKbv2 := Aside0.mk (blk_below BKbv.out hb); have BKbr2 := Aside0.mk (blk_below BKbr.out hb); clear hb)
   clear yv_0 yv_1 yv_2 yv_3 yv_4 yv_5 ys_0 ys_1
   cases ok with
   | false =>
    rw [if_neg (by decide)] at h
    injection h with h
    subst h
    have yr2_0 : W2.cell? ⟨br, 0, none⟩ = some (.int .i64 0) := (blk_cell BKbr2.out 0).trans rfl
    have yr2_1 : W2.cell? ⟨br, 1, none⟩ = some (.bool false) := (blk_cell BKbr2.out 1).trans rfl
    have yr2_2 : W2.cell? ⟨br, 2, none⟩ = some (.int .i64 0) := (blk_cell BKbr2.out 2).trans rfl
    have yr2_3 : W2.cell? ⟨br, 3, none⟩ = some (.string ⟨#[]⟩) := (blk_cell BKbr2.out 3).trans rfl
    have yr2_4 : W2.cell? ⟨br, 4, none⟩ = some (.slice none 0 0) := (blk_cell BKbr2.out 4).trans rfl
    have yr2_5 : W2.cell? ⟨br, 5, none⟩ = some (.slice none 0 0) := (blk_cell BKbr2.out 5).trans rfl
    have zr2_0 := blk_frozen BKbr2.out 0
    have zr2_1 := blk_frozen BKbr2.out 1
    have zr2_2 := blk_frozen BKbr2.out 2
    have zr2_3 := blk_frozen BKbr2.out 3
    have zr2_4 := blk_frozen BKbr2.out 4
    have zr2_5 := blk_frozen BKbr2.out 5
    go_wp2_with fail
    refine bodyPost_ret (results_ct rfl _ _ br 25 #[.int .i64 0, .bool false, .int .i64 0, .string ⟨#[]⟩, .slice none 0 0, .slice none 0 0] (0, 0) _ rfl (put6 BKbr2.out _ _ _ _ _ _) Tryz.underlying25 rfl (by kernel_rfl)) rfl ?_
    exact ⟨none, 0, none, 0, rfl, RdF.nil _ _ _ _ _ _, put6_below HB2.out Gbr.out _ _ _ _ _ _⟩
   | true =>
    rw [if_pos rfl] at h
    by_cases q4 : 0 ≤ i
    ·rw [if_pos q4] at h
     by_cases c3 : i < (v.f4.length : Int)
     ·rw [if_pos c3] at h
      injection h with h
      subst h
      have yv2_4 : W2.cell? ⟨w.heap.size, 4, none⟩ = some (.slice A4 v.f4.length c4) := (blk_cell BKbv2.out 4).trans rfl
      obtain ⟨ad, B4, d4, B5, d5, e_, x0, x1, x2, x3, x4, x5, hrd⟩ := at_F25 HV.out.1 i q4 c3
      cases e_
      replace x0 := (HB2.out.cell (World.block_lt_of_cell? w _ x0)).trans x0
      replace x1 := (HB2.out.cell (World.block_lt_of_cell? w _ x1)).trans x1
      replace x2 := (HB2.out.cell (World.block_lt_of_cell? w _ x2)).trans x2
      replace x3 := (HB2.out.cell (World.block_lt_of_cell? w _ x3)).trans x3
      replace x4 := (HB2.out.cell (World.block_lt_of_cell? w _ x4)).trans x4
      replace x5 := (HB2.out.cell (World.block_lt_of_cell? w _ x5)).trans x5
      have RD := Aside0.mk hrd
      clear hrd H
      obtain ⟨x, hx⟩ : ∃ x, x = rd_T25 v.f4 i := ⟨_, rfl⟩
      rw [← hx] at x0 x1 x2 x3 x4 x5 RD
      have HX := Aside0.mk hx
      clear hx
      have c3e := eq_true c3
      have c4e := eq_true q4
      have yr2_0 : W2.cell? ⟨br, 0, none⟩ = some (.int .i64 0) := (blk_cell BKbr2.out 0).trans rfl
      have yr2_1 : W2.cell? ⟨br, 1, none⟩ = some (.bool false) := (blk_cell BKbr2.out 1).trans rfl
      have yr2_2 : W2.cell? ⟨br, 2, none⟩ = some (.int .i64 0) := (blk_cell BKbr2.out 2).trans rfl
      have yr2_3 : W2.cell? ⟨br, 3, none⟩ = some (.string ⟨#[]⟩) := (blk_cell BKbr2.out 3).trans rfl
      have yr2_4 : W2.cell? ⟨br, 4, none⟩ = some (.slice none 0 0) := (blk_cell BKbr2.out 4).trans rfl
      have yr2_5 : W2.cell? ⟨br, 5, none⟩ = some (.slice none 0 0) := (blk_cell BKbr2.out 5).trans rfl
      have zr2_0 := blk_frozen BKbr2.out 0
      have zr2_1 := blk_frozen BKbr2.out 1
      have zr2_2 := blk_frozen BKbr2.out 2
      have zr2_3 := blk_frozen BKbr2.out 3
      have zr2_4 := blk_frozen BKbr2.out 4
      have zr2_5 := blk_frozen BKbr2.out 5
      go_wp2_with fail
      refine bodyPost_ret (results_ct rfl _ _ br 25 #[.int .i64 x.f0, .bool x.f1, .int .i64 x.f2, .string x.f3, .slice B4 x.f4.length d4, .slice B5 x.f5.length d5] (0, 0) _ rfl (put6 BKbr2.out _ _ _ _ _ _) Tryz.underlying25 rfl (by kernel_rfl)) rfl ?_
      obtain rfl := HX.out
      exact ⟨B4, d4, B5, d5, rfl, RD.out.below (put6_below HB2.out Gbr.out _ _ _ _ _ _), put6_below HB2.out Gbr.out _ _ _ _ _ _⟩
     ·rw [if_neg c3] at h; cases h
    ·rw [if_neg q4] at h; cases h
  ·rw [if_neg c2] at h
   injection h with h
   subst h
   have c2b : (v.f0 == 6) = false := beq_eq_false_iff_ne.mpr c2
   have c2c : (v.f0 != 6) = true := bne_iff_ne.mpr c2
   have yr_0 : W.cell? ⟨br, 0, none⟩ = some (.int .i64 0) := (blk_cell BKbr.out 0).trans rfl
   have yr_1 : W.cell? ⟨br, 1, none⟩ = some (.bool false) := (blk_cell BKbr.out 1).trans rfl
   have yr_2 : W.cell? ⟨br, 2, none⟩ = some (.int .i64 0) := (blk_cell BKbr.out 2).trans rfl
   have yr_3 : W.cell? ⟨br, 3, none⟩ = some (.string ⟨#[]⟩) := (blk_cell BKbr.out 3).trans rfl
   have yr_4 : W.cell? ⟨br, 4, none⟩ = some (.slice none 0 0) := (blk_cell BKbr.out 4).trans rfl
   have yr_5 : W.cell? ⟨br, 5, none⟩ = some (.slice none 0 0) := (blk_cell BKbr.out 5).trans rfl
   have zr_0 := blk_frozen BKbr.out 0
   have zr_1 := blk_frozen BKbr.out 1
   have zr_2 := blk_frozen BKbr.out 2
   have zr_3 := blk_frozen BKbr.out 3
   have zr_4 := blk_frozen BKbr.out 4
   have zr_5 := blk_frozen BKbr.out 5
   go_wp2_with fail
   refine bodyPost_ret (results_ct rfl _ _ br 25 #[.int .i64 0, .bool false, .int .i64 0, .string ⟨#[]⟩, .slice none 0 0, .slice none 0 0] (0, 0) _ rfl (put6 BKbr.out _ _ _ _ _ _) Tryz.underlying25 rfl (by kernel_rfl)) rfl ?_
   exact ⟨none, 0, none, 0, rfl, RdF.nil _ _ _ _ _ _, put6_below HB.out Gbr.out _ _ _ _ _ _⟩
end Go.Proofs.YtlofkjdcapbohaaGreatDoor.PConfKeeps
