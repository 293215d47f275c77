/-
  DERIVED. GIVEN WITH THE SEED: THE CARDS: each row of YtnndipcggegclaaDoorRows.lean that lists a variable, with what it lists TIED to the program's text (the seventh form; the later family's looks); each row that meets fmt, with fmt's text TOLD by the authors' own Lean function (tested against real Go, not proved from fmt's source: count such statements apart). THE CARD IS WHAT COUNTS. Prove the row's statement (the work); the ties are given (YtnndipcggegclaaDoorTie.lean); close each card by the builder's one call (the guide's Derived/Test/ToyasCard.lean, 'card_holds'). Laid BY PROGRAM, IN A SANDBOX (cutbox-door.mjs). By AI agents, Wed Nov 11 2026. No macro, syntax, notation, axiom, sorry.
-/
import Derived.Test.YtnndipcggegclaaDoorRows
import GoSem.ClaimSeven
namespace Go.Proofs.YtnndipcggegclaaDoor
namespace Rows

/-- THE TIED CARD OF 'mastkeep2.TreeTranslates'. -/
def treeTranslatesCard : Claim7 := { stood := { row := treeTranslatesRow, standIns := [], harness := (true, "8cda997053df0e8cfe32582cfce74e8bbe83421742c9cf673d15cbdbe1edac2c"), looks := true }, kinds := [], alts := [], laidByText := true, laidKinds := [.data, .pinned], laidTests := true, laidLooks := .later }
def TreeTranslatesCardSaid : Prop := Claim7.holds Tryd.pinned (.plain (OpenSpec.ofChange treeTranslatesSpec)) treeTranslatesCard

/-- THE TIED CARD OF 'mastkeep2.ConfOrders'. -/
def confOrdersCard : Claim7 := { stood := { row := confOrdersRow, standIns := [], harness := (true, "8cda997053df0e8cfe32582cfce74e8bbe83421742c9cf673d15cbdbe1edac2c"), looks := true }, kinds := [], alts := [], laidByText := true, laidKinds := [.data, .data, .data, .sentinel, .sentinel], laidTests := true, laidLooks := .later }
def ConfOrdersCardSaid : Prop := Claim7.holds Tryd.pinned (.plain (OpenSpec.ofChange confOrdersSpec)) confOrdersCard

/-- THE TIED CARD OF 'mastkeep2.DayRound'. -/
def dayRoundCard : Claim7 := { stood := { row := dayRoundRow, standIns := [], harness := (true, "8cda997053df0e8cfe32582cfce74e8bbe83421742c9cf673d15cbdbe1edac2c"), looks := true }, kinds := [], alts := [], laidByText := true, laidKinds := [.data, .data, .data, .sentinel, .sentinel], laidTests := true, laidLooks := .later }
def DayRoundCardSaid : Prop := Claim7.holds Tryd.pinned (.plain (OpenSpec.ofChange dayRoundSpec)) dayRoundCard

/-- THE SECOND FORM's CARD OF 'mastkeep2.TreeTranslates'. -/
def treeTranslatesUptoCard : Claim7 := { stood := { row := treeTranslatesUptoRow, standIns := [], harness := (true, "8cda997053df0e8cfe32582cfce74e8bbe83421742c9cf673d15cbdbe1edac2c"), looks := true }, kinds := [], alts := [], laidByText := true, laidKinds := [.data, .pinned], laidTests := true, laidLooks := .later }
def TreeTranslatesUptoCardSaid : Prop := Claim7.holds Tryd.pinned (.plain (OpenSpec.upto treeTranslatesSpec)) treeTranslatesUptoCard

/-- THE SECOND FORM's CARD OF 'mastkeep2.ConfOrders'. -/
def confOrdersUptoCard : Claim7 := { stood := { row := confOrdersUptoRow, standIns := [], harness := (true, "8cda997053df0e8cfe32582cfce74e8bbe83421742c9cf673d15cbdbe1edac2c"), looks := true }, kinds := [], alts := [], laidByText := true, laidKinds := [.data, .data, .data, .sentinel, .sentinel], laidTests := true, laidLooks := .later }
def ConfOrdersUptoCardSaid : Prop := Claim7.holds Tryd.pinned (.plain (OpenSpec.upto confOrdersSpec)) confOrdersUptoCard

/-- THE SECOND FORM's CARD OF 'mastkeep2.DayRound'. -/
def dayRoundUptoCard : Claim7 := { stood := { row := dayRoundUptoRow, standIns := [], harness := (true, "8cda997053df0e8cfe32582cfce74e8bbe83421742c9cf673d15cbdbe1edac2c"), looks := true }, kinds := [], alts := [], laidByText := true, laidKinds := [.data, .data, .data, .sentinel, .sentinel], laidTests := true, laidLooks := .later }
def DayRoundUptoCardSaid : Prop := Claim7.holds Tryd.pinned (.plain (OpenSpec.upto dayRoundSpec)) dayRoundUptoCard
end Rows
end Go.Proofs.YtnndipcggegclaaDoor
