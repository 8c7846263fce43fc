/- One closed fact of the row. Conditions: none. -/
import Derived.Test.YtcjhpnnfbhcegaaGreatDoorRows
import Derived.Test.YtcjhpnnfbhcegaaGreatDoorCards
import Derived.ProofKit
import Derived.SevenTiedAt
namespace Go.Proofs.YtcjhpnnfbhcegaaGreatDoor
open Go
theorem jnamed : Tryz.prog.funcNamed "banyan/banyanlaw23.ConsoleNames" = some 3 := by kernel_rfl
end Go.Proofs.YtcjhpnnfbhcegaaGreatDoor
