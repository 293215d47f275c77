-- Made for this claim by a program of this session (xprint.py over the kit's printing program); Lean checks it.
import Derived.Test.YthagabjcoknogaaProg
import Derived.Below
import Derived.Deep.Draws
import Derived.Deep.AppendLies
import Derived.Maps.AppendAt
import Derived.OwnWalk
import Derived.Laws.BytesArg
import Derived.Laws.MakeOwn
import Derived.Laws.OwnMore
import Derived.Deep.OwnRows
import Derived.Tactics
import Derived.Lib.ConvBytes
import Derived.Laws.Slices
import Derived.WalkKit
import Derived.KernelRfl
import Derived.RowKit3
import Derived.Deep.LoopGhost
import Derived.Deep.QuietTactic
import Derived.BigQuiet
import Derived.WideLaws
import Derived.Deep.DeepCutAuto
import Derived.Deep.CutBlock
import Derived.Deep.RegionHeld3
import Derived.Laws.Rows
import Derived.Lib.AppendStr
import Derived.ArgAppend
import Derived.Laws.IdiomCopy
import Derived.OrdersHeld
import Derived.Laws.BitsLemmas
import Derived.RowKit
import Derived.Test.YthagabjcoknogaaWWords
import Derived.Test.YthagabjcoknogaaWLast
import Derived.Test.YthagabjcoknogaaWTab
import Derived.Test.YthagabjcoknogaaWFour
import Derived.Test.YthagabjcoknogaaWQPut
import Derived.Test.YthagabjcoknogaaWApart
import Derived.Test.YthagabjcoknogaaWArr
import Derived.Test.YthagabjcoknogaaWZeros
import Derived.Test.YthagabjcoknogaaWFoot
import Derived.Test.YthagabjcoknogaaWKept
import Derived.Test.YthagabjcoknogaaWShare
import Derived.Test.YthagabjcoknogaaWN
import Derived.Test.YthagabjcoknogaaWFootNe
import Derived.Test.YthagabjcoknogaaWAt
import Derived.Test.YthagabjcoknogaaWEqStruct
import Derived.Test.YthagabjcoknogaaWRepsOne
import Derived.Test.YthagabjcoknogaaWInv
import Derived.Test.YthagabjcoknogaaWInvWords
import Derived.Test.YthagabjcoknogaaWGuard
import Derived.Test.YthagabjcoknogaaWNEv
import Derived.Test.YthagabjcoknogaaWMore
import Derived.Deep.RegionLaw
import Derived.Laws.CopyOwn
import Derived.Lib.Hide
import Derived.Lib.Slices
import Derived.OneCell
namespace Go.Proofs.Ythagabjcoknogaa.PImageFits
open Go.RowKit Go.Proofs.YthagabjcoknogaaW.PrintWords Go.Proofs.YthagabjcoknogaaW.PrintLast Go.Proofs.YthagabjcoknogaaW.PrintMore
attribute [local go_sem] max2_int min2_int max_two min_two max_three min_three max_four min_four   -- for this text's walks alone
set_option linter.unusedVariables false
set_option linter.unusedSimpArgs false



def errW : Option Int → Value
  | none => .nilIface
  | some c => .iface 0 (.int .i64 c)
theorem errW_none : errW none = .nilIface := rfl
theorem errW_some (c : Int) : errW (some c) = .iface 0 (.int .i64 c) := rfl

theorem info3 : (Try.prog.info? 3).map (fun i => (i.zero, i.size, i.bytes)) = some (some (.int .i64 0), 1, 8) := by kernel_rfl
theorem info5 : (Try.prog.info? 5).map (fun i => (i.zero, i.size, i.bytes)) = some (some (.int .u8 0), 1, 1) := by kernel_rfl
-- the values' own types

end Go.Proofs.Ythagabjcoknogaa.PImageFits
