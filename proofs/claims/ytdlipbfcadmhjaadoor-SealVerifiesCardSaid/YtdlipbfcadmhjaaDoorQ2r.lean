/- Plain: what the reference functions answer, over the print PG2. -/
import Derived.Test.YtdlipbfcadmhjaaDoorQ2
import Derived.Test.YtdlipbfcadmhjaaDoorPG2x9
import Derived.Test.YtdlipbfcadmhjaaDoorPG2x11
namespace Go.Proofs.YtdlipbfcadmhjaaDoor
set_option linter.unusedVariables false
set_option linter.unusedSimpArgs false
open Go.RowKit Go.Proofs.YtdlipbfcadmhjaaDoorW.PrintWords Go.Proofs.YtdlipbfcadmhjaaDoorW.PrintMore PG2

end Go.Proofs.YtdlipbfcadmhjaaDoor
