-- Made for this claim by a program of this session (xprint.py over the kit's printing program); Lean checks it.
import Derived.Test.YtnndipcggegclaaDoorProg
import Derived.Below
import Derived.Deep.Draws
import Derived.Deep.AppendLies
import Derived.Maps.AppendAt
import Derived.OwnWalk
import Derived.Laws.BytesArg
import Derived.Laws.MakeOwn
import Derived.Laws.OwnMore
import Derived.Deep.OwnRows
import Derived.Tactics
import Derived.Lib.ConvBytes
import Derived.Laws.Slices
import Derived.WalkKit
import Derived.KernelRfl
import Derived.RowKit3
import Derived.Deep.LoopGhost
import Derived.Deep.QuietTactic
import Derived.BigQuiet
import Derived.WideLaws
import Derived.Deep.DeepCutAuto
import Derived.Deep.CutBlock
import Derived.Deep.RegionHeld3
import Derived.Laws.Rows
import Derived.Lib.AppendStr
import Derived.ArgAppend
import Derived.Laws.IdiomCopy
import Derived.OrdersHeld
import Derived.Laws.BitsLemmas
import Derived.RowKit
import Derived.Test.YtnndipcggegclaaDoorWWords
import Derived.Test.YtnndipcggegclaaDoorWLast
import Derived.Test.YtnndipcggegclaaDoorWTab
import Derived.Test.YtnndipcggegclaaDoorWFour
import Derived.Test.YtnndipcggegclaaDoorWQPut
import Derived.Test.YtnndipcggegclaaDoorWApart
import Derived.Test.YtnndipcggegclaaDoorWArr
import Derived.Test.YtnndipcggegclaaDoorWZeros
import Derived.Test.YtnndipcggegclaaDoorWFoot
import Derived.Test.YtnndipcggegclaaDoorWKept
import Derived.Test.YtnndipcggegclaaDoorWShare
import Derived.Test.YtnndipcggegclaaDoorWN
import Derived.Test.YtnndipcggegclaaDoorWFootNe
import Derived.Test.YtnndipcggegclaaDoorWAt
import Derived.Test.YtnndipcggegclaaDoorWEqStruct
import Derived.Test.YtnndipcggegclaaDoorWRepsOne
import Derived.Test.YtnndipcggegclaaDoorWInv
import Derived.Test.YtnndipcggegclaaDoorWInvWords
import Derived.Test.YtnndipcggegclaaDoorWGuard
import Derived.Test.YtnndipcggegclaaDoorWNEv
import Derived.Test.YtnndipcggegclaaDoorWMore
import Derived.Deep.DeepMust
import Derived.Deep.RegionWith
import Derived.Lib.Hide
import Derived.OneCell
import Derived.Outline
import Derived.RegionTactic
import Derived.Test.YtnndipcggegclaaDoorSstringsCount
import Derived.Test.YtnndipcggegclaaDoorSstringsIndexByte
namespace Go.Proofs.YtnndipcggegclaaDoor.PDayRound
open Go.RowKit Go.Proofs.YtnndipcggegclaaDoorW.PrintWords Go.Proofs.YtnndipcggegclaaDoorW.PrintLast Go.Proofs.YtnndipcggegclaaDoorW.PrintMore
attribute [local go_sem] max2_int min2_int max_two min_two max_three min_three max_four min_four   -- for this text's walks alone
set_option linter.unusedVariables false
set_option linter.unusedSimpArgs false



def errW : Option Int → Value
  | none => .nilIface
  | some c => .iface 0 (.int .i64 c)
theorem errW_none : errW none = .nilIface := rfl
theorem errW_some (c : Int) : errW (some c) = .iface 0 (.int .i64 c) := rfl

theorem info5 : (Tryd.prog.info? 5).map (fun i => (i.zero, i.size, i.bytes)) = some (some (.int .u8 0), 1, 1) := by kernel_rfl
-- the values' own types

end Go.Proofs.YtnndipcggegclaaDoor.PDayRound
