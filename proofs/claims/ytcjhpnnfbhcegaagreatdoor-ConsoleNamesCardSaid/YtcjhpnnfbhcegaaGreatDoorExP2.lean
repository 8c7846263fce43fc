/- One closed fact of the row's tie. Conditions: none. -/
import Derived.Test.YtcjhpnnfbhcegaaGreatDoorExT0
namespace Go.Proofs.YtcjhpnnfbhcegaaGreatDoor
open Go
theorem noOwnUnsafe : Tryz.pinned.checked.prog.headLifts.contains "ownunsafe" = false := by kernel_rfl
end Go.Proofs.YtcjhpnnfbhcegaaGreatDoor
