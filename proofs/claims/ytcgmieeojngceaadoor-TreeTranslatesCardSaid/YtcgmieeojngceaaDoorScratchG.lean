/- For TreeTranslates: The law's contract, as the row takes it. No condition. -/
import Derived.Test.YtcgmieeojngceaaDoorScratchF
namespace Go.Proofs.YtcgmieeojngceaaDoor.PTreeTranslates
open Go.RowKit Go.Proofs.YtcgmieeojngceaaDoorW.PrintWords Go.Proofs.YtcgmieeojngceaaDoorW.PrintLast Go.Proofs.YtcgmieeojngceaaDoorW.PrintMore
set_option linter.unusedVariables false
def TTok (k : Nat) (l0 : List ByteArray) (l1 : List S39) (b : Bool) : Prop := b = true ∧ ∃ r, l1.length ≤ 1000000000000 ∧ mastkeep2_awakeTree.f k = some true ∧ tree_CheckSite.f k l0 l1 = some r ∧ (r = 0 → ∃ T, TTs k l0 l1 T)
theorem mastkeep2_TreeTranslates.calls (k : Nat) (A0_0 : Option Addr) (c0_0 : Nat) (l0_0 : List ByteArray) (A0_1 : Option Addr) (c0_1 : Nat) (l0_1 : List (S39)) (r : Bool) (w : World) (hr0_0 : Kd.C Kd.string w A0_0 l0_0.length l0_0) (hc0_0 : l0_0.length ≤ c0_0) (hr0_1 : Kd.C k39 w A0_1 l0_1.length l0_1) (hc0_1 : l0_1.length ≤ c0_1) (h : TTok k l0_0 l0_1 r) :
    Calls Tryd.prog 3 #[.agg #[.slice A0_0 l0_0.length c0_0, .slice A0_1 l0_1.length c0_1]] w fun e w' => e = .returned (.bool r) ∧ Below w.heap.size w w' := by
  obtain ⟨rfl, q, h1, h2, h3, h4⟩ := h
  exact tt_calls k w A0_0 c0_0 l0_0 A0_1 c0_1 l0_1 q hr0_0 hc0_0 hr0_1 hc0_1 h1 h2 h3 h4
end Go.Proofs.YtcgmieeojngceaaDoor.PTreeTranslates
