/- Closed facts of the row. Conditions: none. -/
import Derived.Test.YtcjhpnnfbhcegaaGreatDoorRows
import Derived.Test.YtcjhpnnfbhcegaaGreatDoorCards
import Derived.ProofKit
import Derived.SevenTiedAt
namespace Go.Proofs.YtcjhpnnfbhcegaaGreatDoor
open Go
theorem j2d : Tryz.prog.funcs.all (fun f => f.params.all fun t => decide (t < Tryz.prog.types.size)) = true := by kernel_rfl
end Go.Proofs.YtcjhpnnfbhcegaaGreatDoor
