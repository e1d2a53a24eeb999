/- Facts on this seat's program that each row asks for: told once. -/
import Derived.Test.YtdlipbfcadmhjaaGreatDoorY3
import Derived.Test.YtdlipbfcadmhjaaGreatDoorCards
import Derived.SevenTiedAt
namespace Go.Proofs.YtdlipbfcadmhjaaGreatDoor
set_option linter.unusedVariables false
set_option linter.unusedSimpArgs false
open Go
theorem f_mayEnter : Tryz.pinned.checked.prog.mayEnter = true := by kernel_rfl
theorem f_lifts : Tryz.pinned.checked.prog.liftsFinal = Rows.treeMatchesReferenceRow.lifted := by kernel_rfl
theorem f_make : Tryz.pinned.checked.prog.make = some Rows.treeMatchesReferenceRow.make := by kernel_rfl
theorem f_main : Tryz.pinned.checked.prog.mainIs = some (Rows.treeMatchesReferenceCard.stood.harness.1, Rows.treeMatchesReferenceCard.stood.harness.2.toList) := by kernel_rfl
theorem f_looks : Rows.treeMatchesReferenceCard.stood.looks = Tryz.pinned.checked.prog.looks [] := by kernel_rfl
theorem f_laidOut : laidOutB Tryz.pinned.checked.prog = true := by kernel_rfl
theorem f_mapsRowed : mapsRowed Tryz.pinned.checked.prog = true := by kernel_rfl
end Go.Proofs.YtdlipbfcadmhjaaGreatDoor
