/- One closed fact of the tie to the program's text. Conditions: none. -/
import Derived.Test.YtcjhpnnfbhcegaaGreatDoorExT0
namespace Go.Proofs.YtcjhpnnfbhcegaaGreatDoor
open Go
theorem tieF2 : Tryz.prog.worded (varsWordLater !true) = false := by kernel_rfl
end Go.Proofs.YtcjhpnnfbhcegaaGreatDoor
