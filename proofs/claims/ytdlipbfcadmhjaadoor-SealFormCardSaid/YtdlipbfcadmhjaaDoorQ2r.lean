/- Plain: what the reference functions answer, over the print PG2. -/
import Derived.Test.YtdlipbfcadmhjaaDoorQ2
import Derived.Test.YtdlipbfcadmhjaaDoorPG2x9
import Derived.Test.YtdlipbfcadmhjaaDoorPG2x11
namespace Go.Proofs.YtdlipbfcadmhjaaDoor
set_option linter.unusedVariables false
set_option linter.unusedSimpArgs false
open Go.RowKit Go.Proofs.YtdlipbfcadmhjaaDoorW.PrintWords Go.Proofs.YtdlipbfcadmhjaaDoorW.PrintMore PG2
theorem dig_at : ∀ n : Fin 16, ((⟨#[48, 49, 50, 51, 52, 53, 54, 55, 56, 57, 97, 98, 99, 100, 101, 102]⟩ : ByteArray).extract n.val (n.val + 1)).data.toList = [Pl.hexd n.val] := by
 intro n
 rw [Pl.ext_data]
 revert n
 decide
end Go.Proofs.YtdlipbfcadmhjaaDoor
