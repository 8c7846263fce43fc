/- One closed fact of the row. Conditions: none. -/
import Derived.Test.YtcjhpnnfbhcegaaGreatDoorRows
import Derived.Test.YtcjhpnnfbhcegaaGreatDoorCards
import Derived.ProofKit
import Derived.SevenTiedAt
namespace Go.Proofs.YtcjhpnnfbhcegaaGreatDoor
open Go
theorem j2b : (List.range' 389 (Tryz.prog.types.size - 389)).all (rowFine Tryz.prog) = true := by kernel_rfl
end Go.Proofs.YtcjhpnnfbhcegaaGreatDoor
