/- Written by a program of this session's over the kit's print: the functions that a law comes to as plain Lean functions, and that Go's code computes them. Nothing is assumed. -/
import Derived.Test.YtdlipbfcadmhjaaGreatDoorPG3x0
import Derived.Test.YtdlipbfcadmhjaaGreatDoorPG3x9
namespace Go.Proofs.YtdlipbfcadmhjaaGreatDoor.PG3
open Go.RowKit Go.Proofs.YtdlipbfcadmhjaaGreatDoorW.PrintWords Go.Proofs.YtdlipbfcadmhjaaGreatDoorW.PrintLast Go.Proofs.YtdlipbfcadmhjaaGreatDoorW.PrintMore
attribute [local go_sem] max2_int min2_int max_two min_two max_three min_three max_four min_four
set_option linter.unusedVariables false
set_option linter.unusedSimpArgs false
mutual
def customhouseref02_Shown.l0 : Nat → List ByteArray → List ByteArray → Int → Option (Bool)
  | 0, _, _, _ => none
  | k + 1, x0, x3, x4 => if x4 < (x0.length : Int) then (if 0 ≤ x4 then ((customhouseref01_Sum.f k (rdOf ByteArray.empty x0 x4)).bind fun t554 => (if x3.length < 8796093022208 then (customhouseref02_Shown.l0 k x0 (x3 ++ [t554]) (wrap64 (x4 + 1))) else (none))) else (none)) else (customhouseref02_Shown.l1 k x0 x3 0)
def customhouseref02_Shown.l1 : Nat → List ByteArray → List ByteArray → Int → Option (Bool)
  | 0, _, _, _ => none
  | k + 1, x0, x3, x5 => if x5 < (x0.length : Int) then (customhouseref02_Shown.l2 k x0 x3 x5 0) else (some false)
def customhouseref02_Shown.l2 : Nat → List ByteArray → List ByteArray → Int → Int → Option (Bool)
  | 0, _, _, _, _ => none
  | k + 1, x0, x3, x5, x6 => if x6 < x5 then (if 0 ≤ x5 then (if x5 < (x3.length : Int) then (if 0 ≤ x6 then (if x6 < (x3.length : Int) then (if (rdOf ByteArray.empty x3 x5).toList = (rdOf ByteArray.empty x3 x6).toList then (if x5 < (x0.length : Int) then (if x6 < (x0.length : Int) then (if (rdOf ByteArray.empty x0 x5).toList = (rdOf ByteArray.empty x0 x6).toList then (customhouseref02_Shown.l2 k x0 x3 x5 (wrap64 (x6 + 1))) else (some true)) else (none)) else (none)) else (customhouseref02_Shown.l2 k x0 x3 x5 (wrap64 (x6 + 1)))) else (none)) else (none)) else (none)) else (none)) else (customhouseref02_Shown.l1 k x0 x3 (wrap64 (x5 + 1)))
end
def customhouseref02_Shown.f (k : Nat) (l0 : List ByteArray) : Option (Bool) := customhouseref02_Shown.l0 k l0 ([] : List ByteArray) 0
end Go.Proofs.YtdlipbfcadmhjaaGreatDoor.PG3
