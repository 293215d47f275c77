-- Made for this claim by a program of this session (xprint.py over the kit's printing program); Lean checks it.
import Derived.Test.YthagabjcoknogaaDoorProg
import Derived.Below
import Derived.Deep.Draws
import Derived.Deep.AppendLies
import Derived.Maps.AppendAt
import Derived.OwnWalk
import Derived.Laws.BytesArg
import Derived.Laws.MakeOwn
import Derived.Laws.OwnMore
import Derived.Deep.OwnRows
import Derived.Tactics
import Derived.Lib.ConvBytes
import Derived.Laws.Slices
import Derived.WalkKit
import Derived.KernelRfl
import Derived.RowKit3
import Derived.Deep.LoopGhost
import Derived.Deep.QuietTactic
import Derived.BigQuiet
import Derived.WideLaws
import Derived.Deep.DeepCutAuto
import Derived.Deep.CutBlock
import Derived.Deep.RegionHeld3
import Derived.Laws.Rows
import Derived.Lib.AppendStr
import Derived.ArgAppend
import Derived.Laws.IdiomCopy
import Derived.OrdersHeld
import Derived.Laws.BitsLemmas
import Derived.RowKit
import Derived.Test.YthagabjcoknogaaDoorWWords
import Derived.Test.YthagabjcoknogaaDoorWLast
import Derived.Test.YthagabjcoknogaaDoorWTab
import Derived.Test.YthagabjcoknogaaDoorWFour
import Derived.Test.YthagabjcoknogaaDoorWQPut
import Derived.Test.YthagabjcoknogaaDoorWApart
import Derived.Test.YthagabjcoknogaaDoorWArr
import Derived.Test.YthagabjcoknogaaDoorWZeros
import Derived.Test.YthagabjcoknogaaDoorWFoot
import Derived.Test.YthagabjcoknogaaDoorWKept
import Derived.Test.YthagabjcoknogaaDoorWShare
import Derived.Test.YthagabjcoknogaaDoorWN
import Derived.Test.YthagabjcoknogaaDoorWFootNe
import Derived.Test.YthagabjcoknogaaDoorWAt
import Derived.Test.YthagabjcoknogaaDoorWEqStruct
import Derived.Test.YthagabjcoknogaaDoorWRepsOne
import Derived.Test.YthagabjcoknogaaDoorWInv
import Derived.Test.YthagabjcoknogaaDoorWInvWords
import Derived.Test.YthagabjcoknogaaDoorWGuard
import Derived.Test.YthagabjcoknogaaDoorWNEv
import Derived.Test.YthagabjcoknogaaDoorWMore
import Derived.BigCall
import Derived.Deep.LoopGhost
import Derived.Deep.OwnRows
import Derived.Deep.RegionLaw
import Derived.Laws.CopyOwn
import Derived.Lib.Bytealg
import Derived.Lib.Hide
import Derived.Lib.IndexBytes
import Derived.Lib.ItoaNum
import Derived.Lib.ItoaWalk
import Derived.Lib.Slices
import Derived.Lib.Split
import Derived.Lib.Strings
import Derived.Lib.Walk
import Derived.OneCell
import Derived.StillTailTactics
import Derived.Test.YthagabjcoknogaaDoorMarked
import Derived.Test.YthagabjcoknogaaDoorSinternalstringsliteIndex
import Derived.Test.YthagabjcoknogaaDoorSstringsCount
import Derived.Test.YthagabjcoknogaaDoorSstringsIndex
namespace Go.Proofs.YthagabjcoknogaaDoor.PImageRound
open Go.RowKit Go.Proofs.YthagabjcoknogaaDoorW.PrintWords Go.Proofs.YthagabjcoknogaaDoorW.PrintLast Go.Proofs.YthagabjcoknogaaDoorW.PrintMore
attribute [local go_sem] max2_int min2_int max_two min_two max_three min_three max_four min_four   -- for this text's walks alone
set_option linter.unusedVariables false
set_option linter.unusedSimpArgs false



def errW : Option Int → Value
  | none => .nilIface
  | some c => .iface 0 (.int .i64 c)
theorem errW_none : errW none = .nilIface := rfl
theorem errW_some (c : Int) : errW (some c) = .iface 0 (.int .i64 c) := rfl

theorem info3 : (Tryd.prog.info? 3).map (fun i => (i.zero, i.size, i.bytes)) = some (some (.int .i64 0), 1, 8) := by kernel_rfl
theorem info5 : (Tryd.prog.info? 5).map (fun i => (i.zero, i.size, i.bytes)) = some (some (.int .u8 0), 1, 1) := by kernel_rfl
-- the values' own types

end Go.Proofs.YthagabjcoknogaaDoor.PImageRound
