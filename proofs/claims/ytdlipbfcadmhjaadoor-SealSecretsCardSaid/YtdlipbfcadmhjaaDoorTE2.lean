/- tree, plain: what the reference functions answer. -/
import Derived.Test.YtdlipbfcadmhjaaDoorTE
import Derived.Test.YtdlipbfcadmhjaaDoorQ2r
import Derived.Test.YtdlipbfcadmhjaaDoorPG2x11
import Derived.Test.YtdlipbfcadmhjaaDoorPG2x12
namespace Go.Proofs.YtdlipbfcadmhjaaDoor
set_option linter.unusedVariables false
set_option linter.unusedSimpArgs false
open Go.RowKit Go.Proofs.YtdlipbfcadmhjaaDoorW.PrintWords Go.Proofs.YtdlipbfcadmhjaaDoorW.PrintMore PG2

/-! ### the reference functions -/

theorem jE (l : List ByteArray) (h : Pl.few l 1000 = true) : customhouseref01_Joined.f l = some (Pl.joined l) := joinedE h (by omega)
end Go.Proofs.YtdlipbfcadmhjaaDoor
