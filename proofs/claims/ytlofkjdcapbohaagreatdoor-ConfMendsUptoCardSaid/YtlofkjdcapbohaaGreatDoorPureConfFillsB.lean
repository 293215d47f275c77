/- For ConfFills: CheckSchema and Fill come to an answer; what is filled lacks no default and is filled to itself. -/
import Derived.Test.YtlofkjdcapbohaaGreatDoorPureConfKeeps
import Derived.Test.YtlofkjdcapbohaaGreatDoorCfCE
import Derived.Test.YtlofkjdcapbohaaGreatDoorMaps
import Derived.Test.YtlofkjdcapbohaaGreatDoorPConfKeepsx0
namespace Go.Proofs.YtlofkjdcapbohaaGreatDoor.Pure
open Go.RowKit Go.Proofs.YtlofkjdcapbohaaGreatDoor.PConfKeeps Go.Proofs.YtlofkjdcapbohaaGreatDoorW.PrintWords Go.Proofs.YtlofkjdcapbohaaGreatDoorW.PrintLast Go.Proofs.YtlofkjdcapbohaaGreatDoorW.PrintMore
set_option linter.unusedVariables false
set_option linter.unusedSimpArgs false
/-! ### fields -/
/-! ### Set, of two checked values -/
theorem chk_gd {n : Nat} (hn : n ≤ 4194304) {v : S25} (hv : Fits n v) (h : Ev (fun k => Fck k v) 0) : Gd v := by
 obtain ⟨k, hk⟩ := h.rounds
 exact ⟨8, (check_v hn hv hk).1⟩
/-! ### Fill -/
end Go.Proofs.YtlofkjdcapbohaaGreatDoor.Pure
