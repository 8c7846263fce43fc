/- One closed fact of the tie to the program's text. Conditions: none. -/
import Derived.Test.YtcjhpnnfbhcegaaGreatDoorExT0
namespace Go.Proofs.YtcjhpnnfbhcegaaGreatDoor
open Go
theorem tieF9 : ∀ os tape, (DataW.laidRun Tryz.prog (varsWorld Tryz.prog 400 (varsId Tryz.prog) os tape).memory 8 ((tieL.filter fun x => x.2.handleName?.isNone).map (·.1))).map (fun x => decide x.2.Nodup && laidRowsB Tryz.prog (varsWorld Tryz.prog 400 (varsId Tryz.prog) os tape).memory x.2) = some true := fun _ _ => by kernel_rfl
end Go.Proofs.YtcjhpnnfbhcegaaGreatDoor
