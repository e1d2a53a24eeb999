/- Plain: what the reference functions answer, over the print PG3. -/
import Derived.Test.YtdlipbfcadmhjaaDoorQ2r
import Derived.Test.YtdlipbfcadmhjaaDoorPG3x7
import Derived.Test.YtdlipbfcadmhjaaDoorPG3x1
namespace Go.Proofs.YtdlipbfcadmhjaaDoor.Q4
set_option linter.unusedVariables false
set_option linter.unusedSimpArgs false
open Go.RowKit Go.Proofs.YtdlipbfcadmhjaaDoorW.PrintWords Go.Proofs.YtdlipbfcadmhjaaDoorW.PrintMore PG3
end Go.Proofs.YtdlipbfcadmhjaaDoor.Q4
