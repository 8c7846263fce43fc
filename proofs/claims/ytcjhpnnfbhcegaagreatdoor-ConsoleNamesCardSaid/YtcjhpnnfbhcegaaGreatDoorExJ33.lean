/- One closed fact of the row. Conditions: none. -/
import Derived.Test.YtcjhpnnfbhcegaaGreatDoorRows
import Derived.Test.YtcjhpnnfbhcegaaGreatDoorCards
import Derived.ProofKit
import Derived.SevenTiedAt
namespace Go.Proofs.YtcjhpnnfbhcegaaGreatDoor
open Go
theorem jgo : Tryz.prog.funcs.any Func.goes = false := by kernel_rfl
end Go.Proofs.YtcjhpnnfbhcegaaGreatDoor
