/- For TopServed: sort.SliceStable at a nil slice of redirects. -/
import Derived.Test.YtbldjamcnohfjaaDoorSvA
import Derived.Test.YtbldjamcnohfjaaDoorSPlain
import Derived.Shelf.GgSortMore.Stable
namespace Go.Proofs.YtbldjamcnohfjaaDoor.PTopServed
open Go.RowKit Go.Proofs.YtbldjamcnohfjaaDoorW.PrintWords Go.Proofs.YtbldjamcnohfjaaDoorW.PrintLast Go.Proofs.YtbldjamcnohfjaaDoorW.PrintMore
open Go.Shelf Go.Lib Go.Sort
set_option linter.unusedVariables false
noncomputable def siT : TypeInfo := (Tryd.prog.info? 50).get (by kernel_rfl)
noncomputable def siE : TypeInfo := (Tryd.prog.info? 64).get (by kernel_rfl)
theorem grow_below (w : World) (os : Array Obj) : RowKit.Below w.heap.size w (grow w os) :=
  ⟨rfl, rfl, rfl, by simp [grow], fun i hi => by
    show (w.heap ++ os)[i]? = _
    rw [Array.getElem?_append_left hi]⟩
theorem stable_nil (lf : Fn) (la lb : Array Value) (w : World) :
    Calls Tryd.prog 44 #[.iface 50 (.slice none 0 0), .func lf la lb] w fun e w' => e = .returned (.tuple #[]) ∧ RowKit.Below w.heap.size w w' := by
  have h := Any.sort_SliceStable_tiny Shelf.Tryd.laysGt8 50 64 siT siE (by kernel_rfl) (by kernel_rfl) (by kernel_rfl) (by kernel_rfl) 25 (fun _ => by kernel_rfl) none 0 0 (by omega) 75 (by kernel_rfl) lf la lb w
  change Calls Tryd.prog 44 _ _ _ at h
  refine h.mono ?_
  rintro e w' ⟨rfl, os, rfl⟩
  exact ⟨rfl, grow_below _ _⟩
end Go.Proofs.YtbldjamcnohfjaaDoor.PTopServed
