/- The row's closed facts, the light ones. Conditions: none. -/
import Derived.Test.YtcjhpnnfbhcegaaGreatDoorRows
import Derived.Test.YtcjhpnnfbhcegaaGreatDoorCards
import Derived.ProofKit
import Derived.SevenTiedAt
namespace Go.Proofs.YtcjhpnnfbhcegaaGreatDoor
open Go
theorem j1 : Rows.consoleNamesRow.wf (OpenSpec.ofChange Rows.consoleNamesSpec) = true := by kernel_rfl
theorem j4 : Tryz.f3.params.all (Tryz.prog.readableRec ·) = true := by kernel_rfl
theorem j5 : namedTie Tryz.prog Rows.consoleNamesRow.named Rows.consoleNamesSpec.vars = true := by kernel_rfl
theorem j6 : (Rows.consoleNamesRow.stops == []) = true := by kernel_rfl
theorem j7 : (Tryz.prog.stops == []) = true := by kernel_rfl
theorem j8 : (Rows.consoleNamesRow.knobs == []) = true := by kernel_rfl
theorem j9 : (Tryz.prog.stopKnobs == []) = true := by kernel_rfl
theorem j14 : (Rows.consoleNamesRow.maps == (Tryz.f3.params.toList ++ Rows.consoleNamesSpec.plain.varTypes Tryz.prog).any (Tryz.prog.mapsRec ·)) = true := by kernel_rfl
theorem j15 : (Rows.consoleNamesRow.ifaces == (Tryz.f3.params.toList ++ Rows.consoleNamesSpec.plain.varTypes Tryz.prog).any (Tryz.prog.ifacesRec ·)) = true := by kernel_rfl
theorem j16 : (Rows.consoleNamesRow.mapsOut == Tryz.prog.mapsAmong Tryz.f3.resultTypes.toList) = true := by kernel_rfl
theorem j17 : (Rows.consoleNamesRow.loops == (Tryz.f3.params.toList ++ Rows.consoleNamesSpec.plain.varTypes Tryz.prog).any (Tryz.prog.loopsFrom ·)) = true := by kernel_rfl
theorem j18 : (Rows.consoleNamesRow.wideKeys == (Tryz.f3.params.toList ++ Rows.consoleNamesSpec.plain.varTypes Tryz.prog ++ Tryz.f3.resultTypes.toList).any (Tryz.prog.wideKeysFrom ·)) = true := by kernel_rfl
theorem j19 : Rows.consoleNamesSpec.vars.all (Tryz.prog.varReadable ·) = true := by kernel_rfl
theorem j20 : Tryz.f3.resultTypes.all (fun t => Tryz.prog.readableRec t && decide (t < Tryz.prog.types.size)) = true := by kernel_rfl
theorem j21 : (Rows.consoleNamesRow.ifacesOut == Tryz.f3.resultTypes.toList.any (Tryz.prog.ifacesRec ·)) = true := by kernel_rfl
theorem j22 : (Rows.consoleNamesRow.loopsOut == Tryz.f3.resultTypes.toList.any (Tryz.prog.loopsFrom ·)) = true := by kernel_rfl
theorem j24 : Rows.consoleNamesRow.shortTexts.isNone = true := by kernel_rfl
theorem j27 : (Rows.consoleNamesRow.lifted == Tryz.prog.liftsFinal) = true := by kernel_rfl
theorem j28 : (Tryz.prog.make == some Rows.consoleNamesRow.make) = true := by kernel_rfl
theorem j30 : (Rows.consoleNamesRow.pinned == Rows.consoleNamesRow.pinnedBy) = true := by kernel_rfl
theorem j31 : (Rows.consoleNamesRow.veiled == (Tryz.f3.params.toList ++ Rows.consoleNamesSpec.plain.varTypes Tryz.prog ++ Tryz.f3.resultTypes.toList).any (Tryz.prog.veiledRec ·)) = true := by kernel_rfl
theorem j32 : Rows.consoleNamesRow.veiledFits Tryz.prog Tryz.f3.params.toList (Tryz.f3.params.toList ++ Rows.consoleNamesSpec.plain.varTypes Tryz.prog ++ Tryz.f3.resultTypes.toList) = true := by kernel_rfl
theorem j29 : Rows.consoleNamesRow.domain.isEmpty = true ∧ (Rows.consoleNamesRow.kinds == []) = true := by constructor <;> kernel_rfl
theorem jB : Rows.consoleNamesRow.wfByText (OpenSpec.ofChange Rows.consoleNamesSpec) = true := by kernel_rfl
end Go.Proofs.YtcjhpnnfbhcegaaGreatDoor
