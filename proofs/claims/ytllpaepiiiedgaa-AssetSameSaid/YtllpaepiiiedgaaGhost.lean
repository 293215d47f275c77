/- The library's variable MaxLen holds a number, and goes on doing so: it lies in block 0, which no call of ours writes. -/
import Derived.Test.YtllpaepiiiedgaaProg
import Derived.WalkKit
import Derived.RowKit3
import Derived.Test.YtllpaepiiiedgaaWWords
import Derived.Test.YtllpaepiiiedgaaWMore
namespace Go.Proofs.Ytllpaepiiiedgaa.Gh
open Go.RowKit Go.Proofs.YtllpaepiiiedgaaW.PrintWords Go.Proofs.YtllpaepiiiedgaaW.PrintMore
/-- block 0 is a number's -/
structure G (w : World) : Prop where
  c : ∃ m, w.cell? ⟨0, 0, none⟩ = some (.int .i64 m)
theorem G.lt {w : World} (h : G w) : 0 < w.heap.size := by
  obtain ⟨m, h⟩ := h.c
  exact World.block_lt_of_cell? w _ h
theorem G.below {B : Nat} {w w' : World} (h : G w) (hb : Below B w w') (hB : 0 < B) : G w' := by
  obtain ⟨m, hm⟩ := h.c
  exact ⟨m, (hb.cell (p := ⟨0, 0, none⟩) hB).trans hm⟩
theorem G.step {w w' : World} (h : G w) (hb : Below w.heap.size w w') : G w' := h.below hb h.lt
theorem G.drew {w : World} (h : G w) : G w.drew := h.step (below_drew (Below.refl _ _))
theorem G.drewN {w : World} (h : G w) (n : Nat) : G (w.drewN n) := h.step (pw_below_drewN (Below.refl _ _) n)
theorem G.alloc {w : World} (h : G w) (o : Obj) : G (w.alloc o) := h.step (below_alloc (Below.refl _ _) o)
theorem G.aside {w w' : World} (h : G w) (hb : Aside0 (Below w.heap.size w w')) : G w' := h.step hb.out
theorem G.drawn {w w' : World} (h : G w) (hb : Drawn0 w w') : G w' := by
  obtain ⟨n, rfl⟩ := hb.out
  exact h.drewN n
theorem G.set {w0 w : World} {g i : Nat} {v : Value} (h : G w) (h0 : G w0) (hg : Aside0 (w0.heap.size ≤ g)) : G (w.setCell ⟨g, i, none⟩ v) :=
  h.below (B := 1) ((Below.refl 1 w).setCell (p := ⟨g, i, none⟩) (show 1 ≤ g by have := h0.lt; have := hg.out; omega) v) (by decide)
end Go.Proofs.Ytllpaepiiiedgaa.Gh
