/- Facts on this seat's program that each row asks for: told once. -/
import Derived.Test.YtdlipbfcadmhjaaDoorGR
import Derived.Test.YtdlipbfcadmhjaaDoorCards
import Derived.SevenTiedAt
namespace Go.Proofs.YtdlipbfcadmhjaaDoor
set_option linter.unusedVariables false
set_option linter.unusedSimpArgs false
open Go
theorem f_mayEnter : Tryd.pinned.checked.prog.mayEnter = true := by kernel_rfl
theorem f_lifts : Tryd.pinned.checked.prog.liftsFinal = Rows.digestChainsRow.lifted := by kernel_rfl
theorem f_make : Tryd.pinned.checked.prog.make = some Rows.digestChainsRow.make := by kernel_rfl
theorem f_main : Tryd.pinned.checked.prog.mainIs = some (Rows.digestChainsCard.stood.harness.1, Rows.digestChainsCard.stood.harness.2.toList) := by kernel_rfl
theorem f_looks : Rows.digestChainsCard.stood.looks = Tryd.pinned.checked.prog.looks [] := by kernel_rfl
theorem f_laidOut : laidOutB Tryd.pinned.checked.prog = true := by kernel_rfl
theorem f_mapsRowed : mapsRowed Tryd.pinned.checked.prog = true := by kernel_rfl
end Go.Proofs.YtdlipbfcadmhjaaDoor
