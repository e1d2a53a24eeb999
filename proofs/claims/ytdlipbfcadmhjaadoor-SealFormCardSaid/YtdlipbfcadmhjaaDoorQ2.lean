/- Plain: what the reference functions answer, over the print PG2. -/
import Derived.Test.YtdlipbfcadmhjaaDoorP1
import Derived.Test.YtdlipbfcadmhjaaDoorPG2x1
import Derived.Test.YtdlipbfcadmhjaaDoorPG2x7
namespace Go.Proofs.YtdlipbfcadmhjaaDoor
set_option linter.unusedVariables false
set_option linter.unusedSimpArgs false
open Go.RowKit Go.Proofs.YtdlipbfcadmhjaaDoorW.PrintWords Go.Proofs.YtdlipbfcadmhjaaDoorW.PrintMore PG2
theorem evS {α : Type} {g : Nat → Option α} {r : α} (h : Ev (fun k => g (k + 1)) r) : Ev g r := Ev.step (fun _ => rfl) h
theorem evE {α : Type} {g : Nat → Option α} {r s : α} (h : Ev g r) (e : r = s) : Ev g s := e ▸ h
theorem w64_id {x : Int} (h : -9223372036854775808 ≤ x) (h' : x ≤ 9223372036854775807) : wrap64 x = x := by unfold wrap64; omega
theorem sumE {a : ByteArray} (h : a.size ≤ 140737488355328) : digest_Sum.f a = some (Pl.sum a) := by unfold digest_Sum.f; rw [if_pos h]
theorem listE {l : List ByteArray} (h : (Pl.joined l).size ≤ 140737488355328) : digest_List.f l = some (Pl.sum (Pl.joined l)) := by unfold digest_List.f; rw [if_pos h]
theorem isE (a : ByteArray) : digest_Is.f a = some (Pl.isDig a) := by rw [digest_Is.f]
end Go.Proofs.YtdlipbfcadmhjaaDoor
