/- Written by a program of this session's over the kit's print: the functions that a law comes to as plain Lean functions, and that Go's code computes them. Nothing is assumed. -/
import Derived.Test.YtdlipbfcadmhjaaGreatDoorPG3x0
namespace Go.Proofs.YtdlipbfcadmhjaaGreatDoor.PG3
open Go.RowKit Go.Proofs.YtdlipbfcadmhjaaGreatDoorW.PrintWords Go.Proofs.YtdlipbfcadmhjaaGreatDoorW.PrintLast Go.Proofs.YtdlipbfcadmhjaaGreatDoorW.PrintMore
attribute [local go_sem] max2_int min2_int max_two min_two max_three min_three max_four min_four
set_option linter.unusedVariables false
set_option linter.unusedSimpArgs false
mutual
def customhouseref03_Few.l0 : Nat → Int → Int → List ByteArray → List ByteArray → Option (Bool)
  | 0, _, _, _, _ => none
  | k + 1, x3, x420000, x420001, x420002 => if x3 < (x420001.length : Int) then (customhouseref03_Few.j1 k x3 (decide (x3 < 30)) x420000 x420001 x420002) else (customhouseref03_Few.j1 k x3 false x420000 x420001 x420002)
def customhouseref03_Few.j1 : Nat → Int → Bool → Int → List ByteArray → List ByteArray → Option (Bool)
  | 0, _, _, _, _, _ => none
  | k + 1, x3, x13, x420000, x420001, x420002 => if x13 = true then (if 0 ≤ x3 then (if x3 < (x420001.length : Int) then (if ((rdOf ByteArray.empty x420001 x3).size : Int) > 100 then (some false) else (customhouseref03_Few.l0 k (wrap64 (x3 + 1)) x420000 x420001 x420002)) else (none)) else (none)) else (customhouseref03_Few.l1 k 0 x420000 x420001 x420002)
def customhouseref03_Few.l1 : Nat → Int → Int → List ByteArray → List ByteArray → Option (Bool)
  | 0, _, _, _, _ => none
  | k + 1, x4, x420000, x420001, x420002 => if x4 < (x420002.length : Int) then (customhouseref03_Few.j3 k x4 (decide (x4 < 30)) x420000 x420001 x420002) else (customhouseref03_Few.j3 k x4 false x420000 x420001 x420002)
def customhouseref03_Few.j3 : Nat → Int → Bool → Int → List ByteArray → List ByteArray → Option (Bool)
  | 0, _, _, _, _, _ => none
  | k + 1, x4, x31, x420000, x420001, x420002 => if x31 = true then (if 0 ≤ x4 then (if x4 < (x420002.length : Int) then (if ((rdOf ByteArray.empty x420002 x4).size : Int) > 100 then (some false) else (customhouseref03_Few.l1 k (wrap64 (x4 + 1)) x420000 x420001 x420002)) else (none)) else (none)) else (if (x420001.length : Int) ≤ 30 then (some (decide ((x420002.length : Int) ≤ 30))) else (some false))
end
def customhouseref03_Few.f (k : Nat) (a0_0 : Int) (l0_1 : List ByteArray) (l0_2 : List ByteArray) : Option (Bool) := customhouseref03_Few.l0 k 0 a0_0 l0_1 l0_2
end Go.Proofs.YtdlipbfcadmhjaaGreatDoor.PG3
