/- For the law ConfKeeps: Routes and the law itself, walked. No condition. -/
import Derived.Test.YtlofkjdcapbohaaGreatDoorCfD
import Derived.Test.YtlofkjdcapbohaaGreatDoorPConfKeepsx12
namespace Go.Proofs.YtlofkjdcapbohaaGreatDoor.PConfKeeps
open Go.RowKit Go.Proofs.YtlofkjdcapbohaaGreatDoorW.PrintWords Go.Proofs.YtlofkjdcapbohaaGreatDoorW.PrintLast Go.Proofs.YtlofkjdcapbohaaGreatDoorW.PrintMore
set_option linter.unusedVariables false
set_option linter.unusedSimpArgs false

def Fsm (k : Nat) (v x : S25) : Option Bool := mastkeep2_same.f k v.f0 v.f1 v.f2 v.f3 v.f4 v.f5 x.f0 x.f1 x.f2 x.f3 x.f4 x.f5
theorem same_calls (k : Nat) (v : S25) (A4 : Option Addr) (c4 : Nat) (A5 : Option Addr) (c5 : Nat) (x : S25) (B4 : Option Addr) (d4 : Nat) (B5 : Option Addr) (d5 : Nat) (b : Bool) (w : World) (hv : Rd w v A4 c4 A5 c5) (hx : Rd w x B4 d4 B5 d5) (h : Fsm k v x = some b) : Calls Tryz.prog 9 #[.agg #[.int .i64 v.f0, .bool v.f1, .int .i64 v.f2, .string v.f3, .slice A4 v.f4.length c4, .slice A5 v.f5.length c5], .agg #[.int .i64 x.f0, .bool x.f1, .int .i64 x.f2, .string x.f3, .slice B4 x.f4.length d4, .slice B5 x.f5.length d5]] w fun e w' => e = .returned (.bool b) ∧ Below w.heap.size w w' :=
  (mastkeep2_same.calls k v.f0 v.f1 v.f2 v.f3 A4 c4 v.f4 A5 c5 v.f5 x.f0 x.f1 x.f2 x.f3 B4 d4 x.f4 B5 d5 x.f5 b w hv.1 hv.2.1 hv.2.2.1 hv.2.2.2 hx.1 hx.2.1 hx.2.2.1 hx.2.2.2 h)
end Go.Proofs.YtlofkjdcapbohaaGreatDoor.PConfKeeps
