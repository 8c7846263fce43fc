/- One closed fact of the row's tie. Conditions: none. -/
import Derived.Test.YtcjhpnnfbhcegaaGreatDoorExT0
import Derived.Test.YtcjhpnnfbhcegaaGreatDoorExP2
namespace Go.Proofs.YtcjhpnnfbhcegaaGreatDoor
open Go
theorem fits1 : Tryz.pinned.checked.prog.listedFits [("math/bits.deBruijn64tab", Rows.laid_math_bits_deBruijn64tab), ("errors.errorType", Rows.laid_errors_errorType), ("internal/strconv.uint64pow10", Rows.laid_internal_strconv_uint64pow10), ("math/bits.deBruijn32tab", Rows.laid_math_bits_deBruijn32tab), ("unicode/utf8.first", Rows.laid_unicode_utf8_first), ("unicode/utf8.acceptRanges", Rows.laid_unicode_utf8_acceptRanges)] = true := by
  unfold Program.listedFits
  rw [noOwnUnsafe]
  kernel_rfl
end Go.Proofs.YtcjhpnnfbhcegaaGreatDoor
