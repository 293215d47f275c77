/- For TopServed: the law's contract, as the row takes it. No condition. -/
import Derived.Test.YtbldjamcnohfjaaDoorSvK
namespace Go.Proofs.YtbldjamcnohfjaaDoor.PTopServed
open Go.RowKit Go.Proofs.YtbldjamcnohfjaaDoorW.PrintWords Go.Proofs.YtbldjamcnohfjaaDoorW.PrintLast Go.Proofs.YtbldjamcnohfjaaDoorW.PrintMore
set_option linter.unusedVariables false
def LSok (k : Nat) (l0 l1 : List S30) (b : Bool) : Prop := b = true ∧ mastkeep1_awakeShip.f k = some true ∧
  ((∃ e0, e0 ≠ 0 ∧ (ship_CheckOuts.f k l0 = some e0 ∨ (ship_CheckOuts.f k l0 = some 0 ∧ ship_CheckOuts.f k l1 = some e0))) ∨
    (l0.length ≤ 1000000000 ∧ l1.length ≤ 1000000000 ∧ ∃ S ad0 tr0 ad1 tr1, Sv k l0 l1 S ad0 tr0 ad1 tr1))
theorem mastkeep1_TopServed.calls (k : Nat) (A0 : Option Addr) (c0 : Nat) (l0 : List (S30)) (A1 : Option Addr) (c1 : Nat) (l1 : List (S30)) (r : Bool) (w : World) (hr0 : Kd.C k30 w A0 l0.length l0) (hc0 : l0.length ≤ c0) (hr1 : Kd.C k30 w A1 l1.length l1) (hc1 : l1.length ≤ c1) (h : LSok k l0 l1 r) :
    Calls Tryd.prog 3 #[.slice A0 l0.length c0, .slice A1 l1.length c1] w fun e w' => e = .returned (.bool r) ∧ Below w.heap.size w w' := by
  obtain ⟨rfl, haw, ⟨e0, hne, h⟩ | ⟨hl0, hl1, S, ad0, tr0, ad1, tr1, hs⟩⟩ := h
  · exact law_err k A0 c0 l0 A1 c1 l1 w e0 hr0 hc0 hr1 hc1 hne h haw
  · exact law_ok k A0 c0 l0 A1 c1 l1 w S ad0 tr0 ad1 tr1 hr0 hc0 hr1 hc1 hl0 hl1 hs haw
end Go.Proofs.YtbldjamcnohfjaaDoor.PTopServed
