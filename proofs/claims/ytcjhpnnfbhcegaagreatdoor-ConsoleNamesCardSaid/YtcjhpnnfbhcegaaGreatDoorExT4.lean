/- One closed fact of the tie to the program's text. Conditions: none. -/
import Derived.Test.YtcjhpnnfbhcegaaGreatDoorExT0
namespace Go.Proofs.YtcjhpnnfbhcegaaGreatDoor
open Go
theorem tieF4 : tieL.map (fun x => Tryz.prog.kindOfLater x.1) = ([.data, .handle, .data, .data, .data] : List LaidKind).map some := by kernel_rfl
end Go.Proofs.YtcjhpnnfbhcegaaGreatDoor
