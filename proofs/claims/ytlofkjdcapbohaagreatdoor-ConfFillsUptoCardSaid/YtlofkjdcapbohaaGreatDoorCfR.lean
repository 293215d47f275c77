/- For the laws of conf: routes and Routes, walked. No condition. -/
import Derived.Test.YtlofkjdcapbohaaGreatDoorCfP
namespace Go.Proofs.YtlofkjdcapbohaaGreatDoor.PConfKeeps
open Go.RowKit Go.Proofs.YtlofkjdcapbohaaGreatDoorW.PrintWords Go.Proofs.YtlofkjdcapbohaaGreatDoorW.PrintLast Go.Proofs.YtlofkjdcapbohaaGreatDoorW.PrintMore
set_option linter.unusedVariables false
set_option linter.unusedSimpArgs false
theorem grown_trans {w W w1 : World} {r r' : Option Nat} (h : w.grownBy W r) (k : W.grownBy w1 r') (hr : ∀ i, i < w.heap.size → some i ≠ r → some i ≠ r') : w.grownBy w1 r :=
  ⟨k.os.trans h.os, k.tape.trans h.tape, k.output.trans h.output, Nat.le_trans h.size k.size, fun i hi hne => (k.block i (Nat.lt_of_lt_of_le hi h.size) (hr i hi hne)).trans (h.block i hi hne)⟩
theorem rowk {W : World} {base g : Nat} {cv : Value} {xs : List ByteArray} (h : Kd.R Kd.string 9 W base (fun _ => True) cv xs) (hn : some g ≠ cv.ownBlock) : Kd.R Kd.string 9 W base (fun k => k ≠ g) cv xs :=
  ⟨fun k hk he => hn (by rw [← he]; exact hk.symm), h.2⟩
structure RtAt (w : World) (base : Nat) (v0 : Value) (vc : Array Value) (cv : Value) (xs : List ByteArray) (W : World) : Prop where
  V : W.heap[w.heap.size]? = some (.cells vc 25 (0, 0))
  O : Kd.R Kd.string 9 W base (fun _ => True) cv xs
  G : w.grownBy W v0.ownBlock
  T : cv.ownBlock = v0.ownBlock ∨ ∃ b, cv.ownBlock = some b ∧ w.heap.size ≤ b
section
variable {w W w1 : World} {base : Nat} {v0 cv v1 : Value} {vc : Array Value} {xs ys : List ByteArray}
theorem RtAt.far (h : RtAt w base v0 vc cv xs W) : ∀ i, i < w.heap.size → some i ≠ v0.ownBlock → some i ≠ cv.ownBlock := fun i hi hne he => by
  rcases h.T with t | ⟨b, t, hb⟩
  · exact hne (he.trans t)
  · rw [t] at he; injection he with he; omega
theorem RtAt.below (h : RtAt w base v0 vc cv xs W) (hb : Below W.heap.size W w1) : RtAt w base v0 vc cv xs w1 :=
  ⟨blk_below h.V hb, Kd.R_below h.O hb, grown_trans h.G (grown_of_below hb v0.ownBlock) (fun _ _ hne => hne), h.T⟩
theorem RtAt.row (h : RtAt w base v0 vc cv xs W) (ho : Kd.R Kd.string 9 w1 base (fun _ => True) v1 ys) (hg : W.grownBy w1 cv.ownBlock) (hat : v1.ownBlock = cv.ownBlock ∨ ∃ b, v1.ownBlock = some b ∧ W.heap.size ≤ b) : RtAt w base v0 vc v1 ys w1 := by
  refine ⟨blk_grown h.V hg (Kd.R_ne h.O h.V (by decide)), ho, grown_trans h.G hg h.far, ?_⟩
  rcases hat with t | ⟨b, t, hb⟩
  · rcases h.T with t' | ⟨b', t', hb'⟩
    · exact .inl (t.trans t')
    · exact .inr ⟨b', t.trans t', hb'⟩
  · exact .inr ⟨b, t, Nat.le_trans h.G.size hb⟩
theorem six_same {g k : Nat} (hk : k ≠ g) (hlt : k < W.heap.size) (u0 u1 u2 u3 u4 u5 : Value) : ((((((W.setCell ⟨g, 0, none⟩ u0).setCell ⟨g, 1, none⟩ u1).setCell ⟨g, 2, none⟩ u2).setCell ⟨g, 3, none⟩ u3).setCell ⟨g, 4, none⟩ u4).setCell ⟨g, 5, none⟩ u5).heap[k]? = W.heap[k]? := by
  obtain ⟨o, ho⟩ : ∃ o, W.heap[k]? = some o := ⟨_, Array.getElem?_eq_getElem hlt⟩
  rw [ho]
  exact put6_far ho hk _ _ _ _ _ _
theorem RtAt.six (h : RtAt w base v0 vc cv xs W) {g : Nat} (h1 : w.heap.size < g) (hn : some g ≠ cv.ownBlock) (u0 u1 u2 u3 u4 u5 : Value) : RtAt w base v0 vc cv xs ((((((W.setCell ⟨g, 0, none⟩ u0).setCell ⟨g, 1, none⟩ u1).setCell ⟨g, 2, none⟩ u2).setCell ⟨g, 3, none⟩ u3).setCell ⟨g, 4, none⟩ u4).setCell ⟨g, 5, none⟩ u5) := by
  have hl := Nat.le_of_lt h1
  have hb : Below w.heap.size W ((((((W.setCell ⟨g, 0, none⟩ u0).setCell ⟨g, 1, none⟩ u1).setCell ⟨g, 2, none⟩ u2).setCell ⟨g, 3, none⟩ u3).setCell ⟨g, 4, none⟩ u4).setCell ⟨g, 5, none⟩ u5) := ((((((Below.refl _ W).setCell hl _).setCell hl _).setCell hl _).setCell hl _).setCell hl _).setCell hl _
  have hr := rowk h.O hn
  refine ⟨put6_far h.V (by omega) _ _ _ _ _ _, Kd.R_mono (Kd.R_far (Kd.R_far (Kd.R_far (Kd.R_far (Kd.R_far (Kd.R_far hr (fun _ hk => hk) _) (fun _ hk => hk) _) (fun _ hk => hk) _) (fun _ hk => hk) _) (fun _ hk => hk) _) (fun _ hk => hk) _) (fun _ _ => trivial), ⟨hb.os.trans h.G.os, hb.tape.trans h.G.tape, hb.output.trans h.G.output, Nat.le_trans h.G.size hb.size, fun i hi hne => (hb.block i hi).trans (h.G.block i hi hne)⟩, h.T⟩
theorem RtAt.low (h : RtAt w base v0 vc cv xs W) (hb : base ≤ w.heap.size) : base ≤ W.heap.size := Nat.le_trans hb h.G.size
end
section
variable {w : World} {ok : Nat → Prop} {v : S25} {A4 : Option Addr} {c4 : Nat} {A5 : Option Addr} {c5 : Nat}
theorem RdF.i (h : RdF w ok v A4 c4 A5 c5) : Kd.C k25 w A4 v.f4.length v.f4 := h.now.1
theorem RdF.li (h : RdF w ok v A4 c4 A5 c5) : v.f4.length ≤ c4 := h.2.1
theorem RdF.k (h : RdF w ok v A4 c4 A5 c5) : Kd.C Kd.string w A5 v.f5.length v.f5 := h.now.2.2.1
end
end Go.Proofs.YtlofkjdcapbohaaGreatDoor.PConfKeeps
