/- tree.Extends. -/
import Derived.Test.YtdlipbfcadmhjaaDoorT4d
import Derived.Test.YtdlipbfcadmhjaaDoorPG2x2
namespace Go.Proofs.YtdlipbfcadmhjaaDoor
set_option linter.unusedVariables false
set_option linter.unusedSimpArgs false
open Go.RowKit Go.Proofs.YtdlipbfcadmhjaaDoorW.PrintWords Go.Proofs.YtdlipbfcadmhjaaDoorW.PrintMore PG2
def Pl.emptyP : ByteArray := Pl.sum (Pl.joined [⟨#[101, 109, 112, 116, 121]⟩])
end Go.Proofs.YtdlipbfcadmhjaaDoor
