/- One closed fact of the row's tie. Conditions: none. -/
import Derived.Test.YtcjhpnnfbhcegaaGreatDoorExT0
namespace Go.Proofs.YtcjhpnnfbhcegaaGreatDoor
open Go
theorem pin_laid_unicode_utf8_first : Tryz.pinned.checked.prog.pinnedFits "unicode/utf8.first" = true := by kernel_rfl
end Go.Proofs.YtcjhpnnfbhcegaaGreatDoor
