/- tree.Extends: the closure that climbs a link. -/
import Derived.Test.YtdlipbfcadmhjaaDoorTT
namespace Go.Proofs.YtdlipbfcadmhjaaDoor
set_option linter.unusedVariables false
set_option linter.unusedSimpArgs false
open Go.RowKit Go.Proofs.YtdlipbfcadmhjaaDoorW.PrintWords Go.Proofs.YtdlipbfcadmhjaaDoorW.PrintMore PG2

/-- The two roots that a link leads to; what is left of the link; was something missing? -/
def Pl.bothP : Nat → Nat → Nat → Bool → ByteArray → List ByteArray → Bool → ByteArray × ByteArray × List ByteArray × Bool
  | 0, _, _, _, old, xs, s => (old, old, xs, s)
  | f + 1, n, m, whole, old, xs, s =>
    if m = n then
      if whole then (old, old, xs, s) else ((Pl.nextP xs s).1, (Pl.nextP xs s).1, (Pl.nextP xs s).2)
    else if m ≤ Pl.half n then
      let q := Pl.bothP f (Pl.half n) m whole old (Pl.nextP xs s).2.1 (Pl.nextP xs s).2.2
      (q.1, Pl.nodeP q.2.1 (Pl.nextP xs s).1, q.2.2)
    else
      let q := Pl.bothP f (n - Pl.half n) (m - Pl.half n) false old (Pl.nextP xs s).2.1 (Pl.nextP xs s).2.2
      (Pl.nodeP (Pl.nextP xs s).1 q.1, Pl.nodeP (Pl.nextP xs s).1 q.2.1, q.2.2)

end Go.Proofs.YtdlipbfcadmhjaaDoor
