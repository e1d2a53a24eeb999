/- tree.Extends. -/
import Derived.Test.YtdlipbfcadmhjaaDoorT5
import Derived.Test.YtdlipbfcadmhjaaDoorPG2x2
namespace Go.Proofs.YtdlipbfcadmhjaaDoor
set_option linter.unusedVariables false
set_option linter.unusedSimpArgs false
open Go.RowKit Go.Proofs.YtdlipbfcadmhjaaDoorW.PrintWords Go.Proofs.YtdlipbfcadmhjaaDoorW.PrintMore PG2

def Pl.emptyP : ByteArray := Pl.sum (Pl.joined [⟨#[101, 109, 112, 116, 121]⟩])
def Pl.extendsP (old : ByteArray) (m : Int) (root : ByteArray) (n : Int) (xs : List ByteArray) : Bool :=
  if m < 0 ∨ m > n ∨ n > 1000000 ∨ xs.all Pl.isDig = false ∨ (Pl.isDig old && Pl.isDig root) = false then false
  else if m = 0 then xs.isEmpty && (old.toList == Pl.emptyP.toList && (decide (n > 0) || root.toList == old.toList))
  else
    let q := Pl.bothP n.toNat n.toNat m.toNat true old xs false
    q.1.toList == old.toList && (q.2.1.toList == root.toList && (!q.2.2.2 && q.2.2.1.isEmpty))

end Go.Proofs.YtdlipbfcadmhjaaDoor
