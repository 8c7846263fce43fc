/- The law's run, worked out: it hands back true. Conditions: the table of math/bits is laid. -/
import Derived.Test.YtcjhpnnfbhcegaaGreatDoorExI1
namespace Go.Proofs.YtcjhpnnfbhcegaaGreatDoor
open Go.Ex
def bruijn : List Nat := [0, 1, 56, 2, 57, 49, 28, 3, 61, 58, 42, 50, 38, 29, 17, 4, 62, 47, 59, 36, 45, 43, 51, 22, 53, 39, 33, 30, 24, 18, 12, 5, 63, 55, 48, 27, 60, 41, 37, 16, 46, 35, 44, 21, 52, 32, 23, 11, 54, 26, 40, 15, 34, 20, 31, 10, 25, 14, 19, 9, 13, 8, 7, 6]
theorem evLaw : retsM isT (enterF (runA G 3000000) 3 [] .normal (ahTab 4 507 .u8 bruijn) none (G.fn 3)) = true := by kernel_rfl
end Go.Proofs.YtcjhpnnfbhcegaaGreatDoor
