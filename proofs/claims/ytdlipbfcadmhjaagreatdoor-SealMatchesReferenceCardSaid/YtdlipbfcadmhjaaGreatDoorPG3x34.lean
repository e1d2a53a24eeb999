/- Written by a program of this session's over the kit's print: the functions that a law comes to as plain Lean functions, and that Go's code computes them. Nothing is assumed. -/
import Derived.Test.YtdlipbfcadmhjaaGreatDoorPG3x0
import Derived.Test.YtdlipbfcadmhjaaGreatDoorPG3x9
import Derived.Test.YtdlipbfcadmhjaaGreatDoorPG3x24
import Derived.Test.YtdlipbfcadmhjaaGreatDoorPG3x33
namespace Go.Proofs.YtdlipbfcadmhjaaGreatDoor.PG3
open Go.RowKit Go.Proofs.YtdlipbfcadmhjaaGreatDoorW.PrintWords Go.Proofs.YtdlipbfcadmhjaaGreatDoorW.PrintLast Go.Proofs.YtdlipbfcadmhjaaGreatDoorW.PrintMore
attribute [local go_sem] max2_int min2_int max_two min_two max_three min_three max_four min_four
set_option linter.unusedVariables false
set_option linter.unusedSimpArgs false
mutual
def customhouseref03_Made.l0 : Nat → ByteArray → Int → Int → List ByteArray → List ByteArray → Int → Option (List ByteArray)
  | 0, _, _, _, _, _, _ => none
  | k + 1, x0, x1, x2, x7, x8, x9 => (customhouseref03_Power.f k x1).bind fun t573 => (if x9 < t573 then (customhouseref03_Made.l1 k x0 x1 x2 x7 x8 x9 ([] : List ByteArray) 0) else (customhouseref03_Made.l2 k x7 x8))
def customhouseref03_Made.l1 : Nat → ByteArray → Int → Int → List ByteArray → List ByteArray → Int → List ByteArray → Int → Option (List ByteArray)
  | 0, _, _, _, _, _, _, _, _ => none
  | k + 1, x0, x1, x2, x7, x8, x9, x10, x11 => if x11 < 18 then ((customhouseref01_Decimal.f x9).bind fun t574 => ((customhouseref01_Decimal.f x11).bind fun t575 => ((customhouseref01_Joined.f (([x0, t574, t575] : List ByteArray))).bind fun t579 => (if x7.length < 8796093022208 then ((some (x7 ++ [t579] : List ByteArray)).bind fun y580 => ((customhouseref01_Sum.f k t579).bind fun t583 => ((customhouseref03_chained.f k t583 x2).bind fun t584 => (if y580.length + t584.length < 8796093022208 then (if 15 < (t584.length : Int) then (if x10.length < 8796093022208 then (customhouseref03_Made.l1 k x0 x1 x2 (y580 ++ t584) x8 x9 (x10 ++ [rdOf ByteArray.empty t584 15]) (wrap64 (x11 + 1))) else (none)) else (none)) else (none))))) else (none))))) else ((customhouseref01_Joined.f x10).bind fun t594 => ((customhouseref01_Sum.f k t594).bind fun t595 => ((customhouseref01_Joined.f (([(⟨#[108, 101, 97, 102]⟩ : ByteArray), t595] : List ByteArray))).bind fun t599 => ((some (([t594, t599] : List ByteArray) : List ByteArray)).bind fun y600 => (if x7.length + y600.length < 8796093022208 then ((customhouseref01_Sum.f k t599).bind fun t606 => (if x8.length < 8796093022208 then (customhouseref03_Made.l0 k x0 x1 x2 (x7 ++ y600) (x8 ++ [t606]) (wrap64 (x9 + 1))) else (none))) else (none))))))
def customhouseref03_Made.l2 : Nat → List ByteArray → List ByteArray → Option (List ByteArray)
  | 0, _, _ => none
  | k + 1, x7, x8 => if (x8.length : Int) > 1 then (customhouseref03_Made.l3 k x7 x8 ([] : List ByteArray) 0) else (some x7)
def customhouseref03_Made.l3 : Nat → List ByteArray → List ByteArray → List ByteArray → Int → Option (List ByteArray)
  | 0, _, _, _, _ => none
  | k + 1, x7, x8, x16, x17 => if (wrap64 (x17 + 1)) < (x8.length : Int) then (if 0 ≤ x17 then (if x17 < (x8.length : Int) then (if 0 ≤ (wrap64 (x17 + 1)) then ((customhouseref03_node.f (rdOf ByteArray.empty x8 x17) (rdOf ByteArray.empty x8 (wrap64 (x17 + 1)))).bind fun t612 => (if x7.length < 8796093022208 then ((customhouseref03_node.f (rdOf ByteArray.empty x8 x17) (rdOf ByteArray.empty x8 (wrap64 (x17 + 1)))).bind fun t618 => ((customhouseref01_Sum.f k t618).bind fun t619 => (if x16.length < 8796093022208 then (customhouseref03_Made.l3 k (x7 ++ [t612]) x8 (x16 ++ [t619]) (wrap64 (x17 + 2))) else (none)))) else (none))) else (none)) else (none)) else (none)) else (customhouseref03_Made.l2 k x7 x16)
end
def customhouseref03_Made.f (k : Nat) (a0 : ByteArray) (a1 : Int) (a2 : Int) : Option (List ByteArray) := customhouseref03_Made.l0 k a0 a1 a2 ([] : List ByteArray) ([] : List ByteArray) 0
end Go.Proofs.YtdlipbfcadmhjaaGreatDoor.PG3
