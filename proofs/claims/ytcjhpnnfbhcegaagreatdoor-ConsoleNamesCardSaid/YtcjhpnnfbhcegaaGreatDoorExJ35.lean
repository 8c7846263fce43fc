/- The row's closed facts, all of them. Conditions: none. -/
import Derived.Test.YtcjhpnnfbhcegaaGreatDoorExJ0
import Derived.Test.YtcjhpnnfbhcegaaGreatDoorExJ1
import Derived.Test.YtcjhpnnfbhcegaaGreatDoorExJ2a
import Derived.Test.YtcjhpnnfbhcegaaGreatDoorExJ2b
import Derived.Test.YtcjhpnnfbhcegaaGreatDoorExJ2c
import Derived.Test.YtcjhpnnfbhcegaaGreatDoorExJ2d
import Derived.Test.YtcjhpnnfbhcegaaGreatDoorExJ10
import Derived.Test.YtcjhpnnfbhcegaaGreatDoorExJ11
import Derived.Test.YtcjhpnnfbhcegaaGreatDoorExJ12
import Derived.Test.YtcjhpnnfbhcegaaGreatDoorExJ13
import Derived.Test.YtcjhpnnfbhcegaaGreatDoorExJ3
import Derived.Test.YtcjhpnnfbhcegaaGreatDoorExJ23
import Derived.Test.YtcjhpnnfbhcegaaGreatDoorExJ25
import Derived.Test.YtcjhpnnfbhcegaaGreatDoorExJ26
import Derived.Test.YtcjhpnnfbhcegaaGreatDoorExJ33
import Derived.Test.YtcjhpnnfbhcegaaGreatDoorExJ34
namespace Go.Proofs.YtcjhpnnfbhcegaaGreatDoor
open Go
theorem j2 : laidOutB Tryz.prog = true := laidOut_of (range_two 389 (of_decide_eq_true (by kernel_rfl)) j2a j2b) j2c j2d
theorem joined : joinedFacts Tryz.prog 3 Tryz.f3 Rows.consoleNamesSpec Rows.consoleNamesRow = true :=
  joined_of j1 j2 j3 j4 j5 j6 j7 j8 j9 j10 j11 j12 j13 j14 j15 j16 j17 j18 j19 j20 j21 j22 j23 j24 j25 j26 j27 j28 j30 j31 j32 j29
end Go.Proofs.YtcjhpnnfbhcegaaGreatDoor
