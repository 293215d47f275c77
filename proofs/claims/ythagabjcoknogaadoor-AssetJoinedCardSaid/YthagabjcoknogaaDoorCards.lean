/-
  DERIVED. GIVEN WITH THE SEED: THE CARDS: each row of YthagabjcoknogaaDoorRows.lean that lists a variable, with what it lists TIED to the program's text (the seventh form; the later family's looks); each row that meets fmt, with fmt's text TOLD by the authors' own Lean function (tested against real Go, not proved from fmt's source: count such statements apart). THE CARD IS WHAT COUNTS. Prove the row's statement (the work); the ties are given (YthagabjcoknogaaDoorTie.lean); close each card by the builder's one call (the guide's Derived/Test/ToyasCard.lean, 'card_holds'). Laid BY PROGRAM, IN A SANDBOX (cutbox-door.mjs). By AI agents, Wed Nov 11 2026. No macro, syntax, notation, axiom, sorry.
-/
import Derived.Test.YthagabjcoknogaaDoorRows
import GoSem.ClaimSeven
namespace Go.Proofs.YthagabjcoknogaaDoor
namespace Rows

/-- THE TIED CARD OF 'mastkeep2.AssetRound'. -/
def assetRoundCard : Claim7 := { stood := { row := assetRoundRow, standIns := [], harness := (true, "e7339cadcdb1781d61164fe5b83714b69bd2d274edb13b75cae9c6eb850a24dc"), looks := false }, kinds := [], alts := [], laidByText := true, laidKinds := [.data, .pinned], laidTests := true, laidLooks := .later }
def AssetRoundCardSaid : Prop := Claim7.holds Tryd.pinned (.plain (OpenSpec.ofChange assetRoundSpec)) assetRoundCard

/-- THE TIED CARD OF 'mastkeep2.AssetJoined'. -/
def assetJoinedCard : Claim7 := { stood := { row := assetJoinedRow, standIns := [], harness := (true, "e7339cadcdb1781d61164fe5b83714b69bd2d274edb13b75cae9c6eb850a24dc"), looks := false }, kinds := [], alts := [], laidByText := true, laidKinds := [.data, .pinned], laidTests := true, laidLooks := .later }
def AssetJoinedCardSaid : Prop := Claim7.holds Tryd.pinned (.plain (OpenSpec.ofChange assetJoinedSpec)) assetJoinedCard

/-- THE TIED CARD OF 'mastkeep2.ImageRound'. -/
def imageRoundCard : Claim7 := { stood := { row := imageRoundRow, standIns := [], harness := (true, "e7339cadcdb1781d61164fe5b83714b69bd2d274edb13b75cae9c6eb850a24dc"), looks := false }, kinds := [], alts := [], laidByText := true, laidKinds := [.data, .data, .data, .data, .pinned], laidTests := true, laidLooks := .later }
def ImageRoundCardSaid : Prop := Claim7.holds Tryd.pinned (.plain (OpenSpec.ofChange imageRoundSpec)) imageRoundCard

/-- THE SECOND FORM's CARD OF 'mastkeep2.AssetRound'. -/
def assetRoundUptoCard : Claim7 := { stood := { row := assetRoundUptoRow, standIns := [], harness := (true, "e7339cadcdb1781d61164fe5b83714b69bd2d274edb13b75cae9c6eb850a24dc"), looks := false }, kinds := [], alts := [], laidByText := true, laidKinds := [.data, .pinned], laidTests := true, laidLooks := .later }
def AssetRoundUptoCardSaid : Prop := Claim7.holds Tryd.pinned (.plain (OpenSpec.upto assetRoundSpec)) assetRoundUptoCard

/-- THE SECOND FORM's CARD OF 'mastkeep2.AssetJoined'. -/
def assetJoinedUptoCard : Claim7 := { stood := { row := assetJoinedUptoRow, standIns := [], harness := (true, "e7339cadcdb1781d61164fe5b83714b69bd2d274edb13b75cae9c6eb850a24dc"), looks := false }, kinds := [], alts := [], laidByText := true, laidKinds := [.data, .pinned], laidTests := true, laidLooks := .later }
def AssetJoinedUptoCardSaid : Prop := Claim7.holds Tryd.pinned (.plain (OpenSpec.upto assetJoinedSpec)) assetJoinedUptoCard

/-- THE SECOND FORM's CARD OF 'mastkeep2.ImageRound'. -/
def imageRoundUptoCard : Claim7 := { stood := { row := imageRoundUptoRow, standIns := [], harness := (true, "e7339cadcdb1781d61164fe5b83714b69bd2d274edb13b75cae9c6eb850a24dc"), looks := false }, kinds := [], alts := [], laidByText := true, laidKinds := [.data, .data, .data, .data, .pinned], laidTests := true, laidLooks := .later }
def ImageRoundUptoCardSaid : Prop := Claim7.holds Tryd.pinned (.plain (OpenSpec.upto imageRoundSpec)) imageRoundUptoCard
end Rows
end Go.Proofs.YthagabjcoknogaaDoor
