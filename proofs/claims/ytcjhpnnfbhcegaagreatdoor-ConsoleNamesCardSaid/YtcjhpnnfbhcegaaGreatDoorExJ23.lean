/- One closed fact of the row. Conditions: none. -/
import Derived.Test.YtcjhpnnfbhcegaaGreatDoorRows
import Derived.Test.YtcjhpnnfbhcegaaGreatDoorCards
import Derived.ProofKit
import Derived.SevenTiedAt
namespace Go.Proofs.YtcjhpnnfbhcegaaGreatDoor
open Go
theorem j23 : (Rows.consoleNamesRow.plainKeys == Tryz.prog.plainKeys) = true := by kernel_rfl
end Go.Proofs.YtcjhpnnfbhcegaaGreatDoor
