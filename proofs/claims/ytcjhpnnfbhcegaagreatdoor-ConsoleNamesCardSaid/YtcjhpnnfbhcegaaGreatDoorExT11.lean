/- The row's tie to the program's text. Conditions: none. -/
import Derived.Test.YtcjhpnnfbhcegaaGreatDoorExT1
import Derived.Test.YtcjhpnnfbhcegaaGreatDoorExT2
import Derived.Test.YtcjhpnnfbhcegaaGreatDoorExT3
import Derived.Test.YtcjhpnnfbhcegaaGreatDoorExT4
import Derived.Test.YtcjhpnnfbhcegaaGreatDoorExT5
import Derived.Test.YtcjhpnnfbhcegaaGreatDoorExT6
import Derived.Test.YtcjhpnnfbhcegaaGreatDoorExT7
import Derived.Test.YtcjhpnnfbhcegaaGreatDoorExT8
import Derived.Test.YtcjhpnnfbhcegaaGreatDoorExT9
import Derived.Test.YtcjhpnnfbhcegaaGreatDoorExT10
import Derived.Test.YtcjhpnnfbhcegaaGreatDoorExP1
import Derived.Test.YtcjhpnnfbhcegaaGreatDoorExP2
import Derived.Test.YtcjhpnnfbhcegaaGreatDoorExP3
namespace Go.Proofs.YtcjhpnnfbhcegaaGreatDoor
open Go
theorem tieAll : Tryz.prog.laidByTextLater [("math/bits.deBruijn64tab", Rows.laid_math_bits_deBruijn64tab), ("errors.errorType", Rows.laid_errors_errorType), ("internal/strconv.uint64pow10", Rows.laid_internal_strconv_uint64pow10), ("math/bits.deBruijn32tab", Rows.laid_math_bits_deBruijn32tab), ("unicode/utf8.acceptRanges", Rows.laid_unicode_utf8_acceptRanges)] [.data, .handle, .data, .data, .data] true :=
  Program.laidByTextLater_by_run_h 400 8 tieF1 tieF2 tieF3 tieF4 tieF5 tieF6 tieF7 tieF8 tieF9 tieF10
theorem consoleNames_row_tie : Rows.consoleNamesRow.laidByTextAt .later Tryz.pinned [.data, .handle, .data, .data, .pinned, .data] true :=
  OpenClaim.laidByTextAt_pinned rfl rfl tieAll rfl rfl rfl rfl (fun y hy _e => by
    simp only [Rows.consoleNamesRow, List.zip_cons_cons, List.zip_nil_right, List.mem_cons, List.mem_nil_iff, or_false] at hy
    rcases hy with rfl | rfl | rfl | rfl | rfl | rfl
    · cases _e
    · cases _e
    · cases _e
    · cases _e
    · exact ⟨pin_laid_unicode_utf8_first, by kernel_rfl⟩
    · cases _e) fits1
end Go.Proofs.YtcjhpnnfbhcegaaGreatDoor
