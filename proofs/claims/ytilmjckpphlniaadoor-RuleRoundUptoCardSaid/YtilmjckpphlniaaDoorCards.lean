/-
  DERIVED. GIVEN WITH THE SEED: THE CARDS: each row of YtilmjckpphlniaaDoorRows.lean that lists a variable, with what it lists TIED to the program's text (the seventh form; the later family's looks); each row that meets fmt, with fmt's text TOLD by the authors' own Lean function (tested against real Go, not proved from fmt's source: count such statements apart). THE CARD IS WHAT COUNTS. Prove the row's statement (the work); the ties are given (YtilmjckpphlniaaDoorTie.lean); close each card by the builder's one call (the guide's Derived/Test/ToyasCard.lean, 'card_holds'). Laid BY PROGRAM, IN A SANDBOX (cutbox-door.mjs). By AI agents, Wed Nov 11 2026. No macro, syntax, notation, axiom, sorry.
-/
import Derived.Test.YtilmjckpphlniaaDoorRows
import GoSem.ClaimSeven
namespace Go.Proofs.YtilmjckpphlniaaDoor
namespace Rows

/-- THE TIED CARD OF 'mastkeep2.RuleRound'. -/
def ruleRoundCard : Claim7 := { stood := { row := ruleRoundRow, standIns := [], harness := (true, "947681dfb7782e86a22614c309c05bf8fdf290344eb8ab75c4fb7849354853bc"), looks := true }, kinds := [], alts := [], laidByText := true, laidKinds := [.data, .data, .data, .sentinel, .sentinel], laidTests := true, laidLooks := .later }
def RuleRoundCardSaid : Prop := Claim7.holds Tryd.pinned (.plain (OpenSpec.ofChange ruleRoundSpec)) ruleRoundCard

/-- THE TIED CARD OF 'mastkeep2.MessageRound'. -/
def messageRoundCard : Claim7 := { stood := { row := messageRoundRow, standIns := [], harness := (true, "947681dfb7782e86a22614c309c05bf8fdf290344eb8ab75c4fb7849354853bc"), looks := true }, kinds := [], alts := [], laidByText := true, laidKinds := [.data, .data, .data, .sentinel, .sentinel], laidTests := true, laidLooks := .later }
def MessageRoundCardSaid : Prop := Claim7.holds Tryd.pinned (.plain (OpenSpec.ofChange messageRoundSpec)) messageRoundCard

/-- THE SECOND FORM's CARD OF 'mastkeep2.RuleRound'. -/
def ruleRoundUptoCard : Claim7 := { stood := { row := ruleRoundUptoRow, standIns := [], harness := (true, "947681dfb7782e86a22614c309c05bf8fdf290344eb8ab75c4fb7849354853bc"), looks := true }, kinds := [], alts := [], laidByText := true, laidKinds := [.data, .data, .data, .sentinel, .sentinel], laidTests := true, laidLooks := .later }
def RuleRoundUptoCardSaid : Prop := Claim7.holds Tryd.pinned (.plain (OpenSpec.upto ruleRoundSpec)) ruleRoundUptoCard

/-- THE SECOND FORM's CARD OF 'mastkeep2.MessageRound'. -/
def messageRoundUptoCard : Claim7 := { stood := { row := messageRoundUptoRow, standIns := [], harness := (true, "947681dfb7782e86a22614c309c05bf8fdf290344eb8ab75c4fb7849354853bc"), looks := true }, kinds := [], alts := [], laidByText := true, laidKinds := [.data, .data, .data, .sentinel, .sentinel], laidTests := true, laidLooks := .later }
def MessageRoundUptoCardSaid : Prop := Claim7.holds Tryd.pinned (.plain (OpenSpec.upto messageRoundSpec)) messageRoundUptoCard
end Rows
end Go.Proofs.YtilmjckpphlniaaDoor
