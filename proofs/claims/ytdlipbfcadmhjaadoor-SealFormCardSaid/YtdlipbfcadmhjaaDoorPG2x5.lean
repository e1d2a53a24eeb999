/- Written by a program of this session's over the kit's print: the functions that a law comes to as plain Lean functions, and that Go's code computes them. Nothing is assumed. -/
import Derived.Test.YtdlipbfcadmhjaaDoorPG2x0
import Derived.Test.YtdlipbfcadmhjaaDoorPG2x1
import Derived.Test.YtdlipbfcadmhjaaDoorPG2x2
import Derived.Test.YtdlipbfcadmhjaaDoorPG2x3
namespace Go.Proofs.YtdlipbfcadmhjaaDoor.PG2
open Go.RowKit Go.Proofs.YtdlipbfcadmhjaaDoorW.PrintWords Go.Proofs.YtdlipbfcadmhjaaDoorW.PrintLast Go.Proofs.YtdlipbfcadmhjaaDoorW.PrintMore
attribute [local go_sem] max2_int min2_int max_two min_two max_three min_three max_four min_four
set_option linter.unusedVariables false
set_option linter.unusedSimpArgs false
mutual
def tree_Link.j0 : Nat → List ByteArray → Int → Bool → Option (List ByteArray × Int)
  | 0, _, _, _ => none
  | k + 1, x0, x1, x16 => if x16 = true then (some (([] : List ByteArray), 1)) else (if x1 = 0 then (some (([] : List ByteArray), 0)) else (tree_Link.l0 k x0 x1 ([] : List ByteArray) true))
def tree_Link.l0 : Nat → List ByteArray → Int → List ByteArray → Bool → Option (List ByteArray × Int)
  | 0, _, _, _, _ => none
  | k + 1, x0, x1, x6, x7 => if x1 < (x0.length : Int) then ((tree_half.f k (x0.length : Int)).bind fun t156 => (if x1 ≤ t156 then (if 0 ≤ t156 then (if t156 ≤ (x0.length : Int) then ((tree_Root.f k (x0.drop (t156 : Int).toNat)).bind fun t162 => (if x6.length < 8796093022208 then (tree_Link.l0 k (x0.take (t156 : Int).toNat) x1 (x6 ++ [t162]) x7) else (none))) else (none)) else (none)) else (if 0 ≤ t156 then (if t156 ≤ (x0.length : Int) then ((tree_Root.f k (x0.take (t156 : Int).toNat)).bind fun t176 => (if x6.length < 8796093022208 then (tree_Link.l0 k (x0.drop (t156 : Int).toNat) (wrap64 (x1 - t156)) (x6 ++ [t176]) false) else (none))) else (none)) else (none)))) else (if x7 = true then ((slices_Reverse_string_string.f k x6).bind fun t185 => (some (t185, 0))) else ((tree_Root.f k x0).bind fun t186 => (if x6.length < 8796093022208 then ((slices_Reverse_string_string.f k (x6 ++ [t186])).bind fun t190 => (some (t190, 0))) else (none))))
end
end Go.Proofs.YtdlipbfcadmhjaaDoor.PG2
