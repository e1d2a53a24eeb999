/- tree, plain: what the reference functions answer. -/
import Derived.Test.YtdlipbfcadmhjaaGreatDoorY9
import Derived.Test.YtdlipbfcadmhjaaGreatDoorY5
import Derived.Test.YtdlipbfcadmhjaaGreatDoorPG3x10
import Derived.Test.YtdlipbfcadmhjaaGreatDoorPG3x11
namespace Go.Proofs.YtdlipbfcadmhjaaGreatDoor
set_option linter.unusedVariables false
set_option linter.unusedSimpArgs false
open Go.RowKit Go.Proofs.YtdlipbfcadmhjaaGreatDoorW.PrintWords Go.Proofs.YtdlipbfcadmhjaaGreatDoorW.PrintMore PG3
theorem jE (l : List ByteArray) (h : Pl.few l 1000 = true) : customhouseref01_Joined.f l = some (Pl.joined l) := joinedE h (by omega)
end Go.Proofs.YtdlipbfcadmhjaaGreatDoor
