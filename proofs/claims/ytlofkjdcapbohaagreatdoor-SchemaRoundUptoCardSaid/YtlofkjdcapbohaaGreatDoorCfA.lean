/- For the laws of conf: what is read of a value; six stores; follow, walked. No condition. -/
import Derived.Test.YtlofkjdcapbohaaGreatDoorPConfKeepsx6
namespace Go.Proofs.YtlofkjdcapbohaaGreatDoor.PConfKeeps
open Go.RowKit Go.Proofs.YtlofkjdcapbohaaGreatDoorW.PrintWords Go.Proofs.YtlofkjdcapbohaaGreatDoorW.PrintLast Go.Proofs.YtlofkjdcapbohaaGreatDoorW.PrintMore
set_option linter.unusedVariables false
set_option linter.unusedSimpArgs false
/-- a value's slices, read at a world -/
def Rd (w : World) (v : S25) (A4 : Option Addr) (c4 : Nat) (A5 : Option Addr) (c5 : Nat) : Prop := Kd.C k25 w A4 v.f4.length v.f4 ∧ v.f4.length ≤ c4 ∧ Kd.C Kd.string w A5 v.f5.length v.f5 ∧ v.f5.length ≤ c5
theorem Rd.below {w W : World} {v : S25} {A4 : Option Addr} {c4 : Nat} {A5 : Option Addr} {c5 : Nat} (h : Rd w v A4 c4 A5 c5) (hb : Below w.heap.size w W) : Rd W v A4 c4 A5 c5 := ⟨Kd.C_below h.1 hb, h.2.1, Kd.C_below h.2.2.1 hb, h.2.2.2⟩
theorem Rd.nil (w : World) (k : Int) (b : Bool) (i : Int) (s : ByteArray) : Rd w ⟨k, b, i, s, [], []⟩ none 0 none 0 := ⟨Kd.C_nil _ _, Nat.le_refl _, Kd.C_nil _ _, Nat.le_refl _⟩
/-- a value's slices, read at a world, and the blocks they lie in -/
def RdF (w : World) (ok : Nat → Prop) (v : S25) (A4 : Option Addr) (c4 : Nat) (A5 : Option Addr) (c5 : Nat) : Prop := Kd.F k25 w ok A4 v.f4.length v.f4 ∧ v.f4.length ≤ c4 ∧ Kd.F Kd.string w ok A5 v.f5.length v.f5 ∧ v.f5.length ≤ c5
section
variable {w W : World} {ok ok' : Nat → Prop} {v : S25} {A4 : Option Addr} {c4 : Nat} {A5 : Option Addr} {c5 : Nat}
theorem RdF.now (h : RdF w ok v A4 c4 A5 c5) : Rd w v A4 c4 A5 c5 := ⟨Kd.F_now h.1, h.2.1, Kd.F_now h.2.2.1, h.2.2.2⟩
theorem RdF.below (h : RdF w ok v A4 c4 A5 c5) (hb : Below w.heap.size w W) : RdF W ok v A4 c4 A5 c5 := ⟨Kd.F_below h.1 hb, h.2.1, Kd.F_below h.2.2.1 hb, h.2.2.2⟩
theorem RdF.mono (h : RdF w ok v A4 c4 A5 c5) (hm : ∀ k, ok k → ok' k) : RdF w ok' v A4 c4 A5 c5 := ⟨Kd.F_mono h.1 hm, h.2.1, Kd.F_mono h.2.2.1 hm, h.2.2.2⟩
theorem RdF.bound (h : RdF w ok v A4 c4 A5 c5) : RdF w (fun k => ok k ∧ k < w.heap.size) v A4 c4 A5 c5 := ⟨Kd.F_bound h.1, h.2.1, Kd.F_bound h.2.2.1, h.2.2.2⟩
theorem RdF.step (h : RdF w ok v A4 c4 A5 c5) (hm : ∀ k, ok k → k < w.heap.size → W.heap[k]? = w.heap[k]?) : RdF W ok v A4 c4 A5 c5 := ⟨Kd.F_step h.1 hm, h.2.1, Kd.F_step h.2.2.1 hm, h.2.2.2⟩
theorem RdF.nil (w : World) (ok : Nat → Prop) (k : Int) (b : Bool) (i : Int) (s : ByteArray) : RdF w ok ⟨k, b, i, s, [], []⟩ none 0 none 0 := ⟨Kd.F_nil _ _ _, Nat.le_refl _, Kd.F_nil _ _ _, Nat.le_refl _⟩
/-- the items' blocks alone are told -/
def RdK (w : World) (ok : Nat → Prop) (v : S25) (A4 : Option Addr) (c4 : Nat) (A5 : Option Addr) (c5 : Nat) : Prop := Kd.F k25 w ok A4 v.f4.length v.f4 ∧ v.f4.length ≤ c4 ∧ Kd.C Kd.string w A5 v.f5.length v.f5 ∧ v.f5.length ≤ c5
theorem RdF.K (h : RdF w ok v A4 c4 A5 c5) : RdK w ok v A4 c4 A5 c5 := ⟨h.1, h.2.1, Kd.F_now h.2.2.1, h.2.2.2⟩
theorem RdK.now (h : RdK w ok v A4 c4 A5 c5) : Rd w v A4 c4 A5 c5 := ⟨Kd.F_now h.1, h.2.1, h.2.2.1, h.2.2.2⟩
theorem at_F25 {A : Option Addr} {n : Nat} {xs : List S25} (h : Kd.F k25 w ok A n xs) (i : Int) (h0 : 0 ≤ i) (h1 : i < n) : ∃ ad A4 c4 A5 c5, A = some ad ∧ w.cell? (ad.add (i.toNat * 6)) = some (.int .i64 (rd_T25 xs i).f0) ∧ w.cell? ⟨(ad.add (i.toNat * 6)).block, (ad.add (i.toNat * 6)).off + 1, none⟩ = some (.bool (rd_T25 xs i).f1) ∧ w.cell? ⟨(ad.add (i.toNat * 6)).block, (ad.add (i.toNat * 6)).off + 2, none⟩ = some (.int .i64 (rd_T25 xs i).f2) ∧ w.cell? ⟨(ad.add (i.toNat * 6)).block, (ad.add (i.toNat * 6)).off + 3, none⟩ = some (.string (rd_T25 xs i).f3) ∧ w.cell? ⟨(ad.add (i.toNat * 6)).block, (ad.add (i.toNat * 6)).off + 4, none⟩ = some (.slice A4 (rd_T25 xs i).f4.length c4) ∧ w.cell? ⟨(ad.add (i.toNat * 6)).block, (ad.add (i.toNat * 6)).off + 5, none⟩ = some (.slice A5 (rd_T25 xs i).f5.length c5) ∧ RdF w ok (rd_T25 xs i) A4 c4 A5 c5 := by
 obtain ⟨ad, c, e, _, hK, hc0, _⟩ := Kd.F_get h z25 i h0 h1
 have hc : ∀ j u, c[j]? = some u → w.cell? (ad.add (i.toNat * 6 + j)) = some u := hc0
 obtain ⟨A4, c4, A5, c5, rfl, l4, g4, l5, g5⟩ := k25_openF hK
 exact ⟨ad, A4, c4, A5, c5, e, hc 0 _ rfl, by rw [← add_field _ _ 1 (by omega)]; exact hc 1 _ rfl, by rw [← add_field _ _ 2 (by omega)]; exact hc 2 _ rfl, by rw [← add_field _ _ 3 (by omega)]; exact hc 3 _ rfl, by rw [← add_field _ _ 4 (by omega)]; exact hc 4 _ rfl, by rw [← add_field _ _ 5 (by omega)]; exact hc 5 _ rfl, ⟨g4, l4, g5, l5⟩⟩
end
theorem put6 {W : World} {g t : Nat} {c0 c1 c2 c3 c4 c5 : Value} (h : W.heap[g]? = some (.cells #[c0, c1, c2, c3, c4, c5] t (0, 0))) (v0 v1 v2 v3 v4 v5 : Value) :
  ((((((W.setCell ⟨g, 0, none⟩ v0).setCell ⟨g, 1, none⟩ v1).setCell ⟨g, 2, none⟩ v2).setCell ⟨g, 3, none⟩ v3).setCell ⟨g, 4, none⟩ v4).setCell ⟨g, 5, none⟩ v5).heap[g]? = some (.cells #[v0, v1, v2, v3, v4, v5] t (0, 0)) := by
 have h0 := blk_put (cs' := #[v0, c1, c2, c3, c4, c5]) h 0 v0 rfl
 have h1 := blk_put (cs' := #[v0, v1, c2, c3, c4, c5]) h0 1 v1 rfl
 have h2 := blk_put (cs' := #[v0, v1, v2, c3, c4, c5]) h1 2 v2 rfl
 have h3 := blk_put (cs' := #[v0, v1, v2, v3, c4, c5]) h2 3 v3 rfl
 have h4 := blk_put (cs' := #[v0, v1, v2, v3, v4, c5]) h3 4 v4 rfl
 exact blk_put (cs' := #[v0, v1, v2, v3, v4, v5]) h4 5 v5 rfl
theorem put6_below {w W : World} {g : Nat} (hb : Below w.heap.size w W) (hg : w.heap.size ≤ g) (v0 v1 v2 v3 v4 v5 : Value) :
  Below w.heap.size w ((((((W.setCell ⟨g, 0, none⟩ v0).setCell ⟨g, 1, none⟩ v1).setCell ⟨g, 2, none⟩ v2).setCell ⟨g, 3, none⟩ v3).setCell ⟨g, 4, none⟩ v4).setCell ⟨g, 5, none⟩ v5) :=
 below_set (below_set (below_set (below_set (below_set (below_set hb hg) hg) hg) hg) hg) hg
theorem put6_far {W : World} {g b : Nat} {o : Obj} (h : W.heap[b]? = some o) (hne : b ≠ g) (v0 v1 v2 v3 v4 v5 : Value) :
  ((((((W.setCell ⟨g, 0, none⟩ v0).setCell ⟨g, 1, none⟩ v1).setCell ⟨g, 2, none⟩ v2).setCell ⟨g, 3, none⟩ v3).setCell ⟨g, 4, none⟩ v4).setCell ⟨g, 5, none⟩ v5).heap[b]? = some o :=
 (Below.heap_setCell _ _ _ _ hne).trans ((Below.heap_setCell _ _ _ _ hne).trans ((Below.heap_setCell _ _ _ _ hne).trans ((Below.heap_setCell _ _ _ _ hne).trans ((Below.heap_setCell _ _ _ _ hne).trans ((Below.heap_setCell _ _ _ _ hne).trans h)))))
end Go.Proofs.YtlofkjdcapbohaaGreatDoor.PConfKeeps
