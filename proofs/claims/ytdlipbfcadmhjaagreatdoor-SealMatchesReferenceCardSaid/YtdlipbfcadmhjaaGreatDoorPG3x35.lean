/- Written by a program of this session's over the kit's print: the functions that a law comes to as plain Lean functions, and that Go's code computes them. Nothing is assumed. -/
import Derived.Test.YtdlipbfcadmhjaaGreatDoorPG3x0
import Derived.Test.YtdlipbfcadmhjaaGreatDoorPG3x9
import Derived.Test.YtdlipbfcadmhjaaGreatDoorPG3x27
import Derived.Test.YtdlipbfcadmhjaaGreatDoorPG3x33
namespace Go.Proofs.YtdlipbfcadmhjaaGreatDoor.PG3
open Go.RowKit Go.Proofs.YtdlipbfcadmhjaaGreatDoorW.PrintWords Go.Proofs.YtdlipbfcadmhjaaGreatDoorW.PrintLast Go.Proofs.YtdlipbfcadmhjaaGreatDoorW.PrintMore
attribute [local go_sem] max2_int min2_int max_two min_two max_three min_three max_four min_four
set_option linter.unusedVariables false
set_option linter.unusedSimpArgs false
mutual
def customhouseref03_Checked.j1 : Nat → List ByteArray → List ByteArray → Int → List ByteArray → List ByteArray → Option (List ByteArray)
  | 0, _, _, _, _, _ => none
  | k + 1, x6, x7, x624000, x624001, x624002 => (customhouseref01_Joined.f x7).bind fun t640 => ((customhouseref01_Sum.f k t640).bind fun t641 => ((customhouseref01_Joined.f (([(⟨#[108, 101, 97, 102]⟩ : ByteArray), t641] : List ByteArray))).bind fun t645 => ((some (([t640, t645] : List ByteArray) : List ByteArray)).bind fun y646 => (if x6.length + y646.length < 8796093022208 then ((customhouseref01_Sum.f k t645).bind fun t652 => (customhouseref03_Checked.l1 k (x6 ++ y646) t652 x624000 0 x624000 x624001 x624002)) else (none)))))
def customhouseref03_Checked.l1 : Nat → List ByteArray → ByteArray → Int → Int → Int → List ByteArray → List ByteArray → Option (List ByteArray)
  | 0, _, _, _, _, _, _, _ => none
  | k + 1, x6, x12, x13, x14, x624000, x624001, x624002 => if x14 < (x624002.length : Int) then (if 0 ≤ x14 then ((customhouseref03_node.f x12 (rdOf ByteArray.empty x624002 x14)).bind fun t654 => (if (Int.tmod x13 2) = 1 then ((customhouseref03_node.f (rdOf ByteArray.empty x624002 x14) x12).bind fun t656 => (if x6.length < 8796093022208 then ((customhouseref01_Sum.f k t656).bind fun t660 => (customhouseref03_Checked.l1 k (x6 ++ [t656]) t660 (wrap64 (Int.tdiv x13 2)) (wrap64 (x14 + 1)) x624000 x624001 x624002)) else (none))) else (if x6.length < 8796093022208 then ((customhouseref01_Sum.f k t654).bind fun t664 => (customhouseref03_Checked.l1 k (x6 ++ [t654]) t664 (wrap64 (Int.tdiv x13 2)) (wrap64 (x14 + 1)) x624000 x624001 x624002)) else (none)))) else (none)) else (some x6)
def customhouseref03_Checked.l0 : Nat → List Int → List ByteArray → List ByteArray → Int → Int → List ByteArray → List ByteArray → Option (List ByteArray)
  | 0, _, _, _, _, _, _, _ => none
  | k + 1, x5, x6, x7, x8, x624000, x624001, x624002 => if x8 < 18 then (if x8 < (x624001.length : Int) then (if 0 ≤ x8 then (if x8 < (x5.length : Int) then ((customhouseref03_chained.f k (rdOf ByteArray.empty x624001 x8) (wrap64 (15 - (rd x5 x8)))).bind fun t629 => (if x6.length + t629.length < 8796093022208 then (if 0 ≤ (wrap64 (15 - (rd x5 x8))) then (if (wrap64 (15 - (rd x5 x8))) < (t629.length : Int) then (if x7.length < 8796093022208 then (customhouseref03_Checked.l0 k x5 (x6 ++ t629) (x7 ++ [rdOf ByteArray.empty t629 (wrap64 (15 - (rd x5 x8)))]) (wrap64 (x8 + 1)) x624000 x624001 x624002) else (none)) else (none)) else (none)) else (none))) else (none)) else (none)) else (customhouseref03_Checked.j1 k x6 x7 x624000 x624001 x624002)) else (customhouseref03_Checked.j1 k x6 x7 x624000 x624001 x624002)
end
def customhouseref03_Checked.f (k : Nat) (a0 : ByteArray) (a1_0 : Int) (l1_1 : List ByteArray) (l1_2 : List ByteArray) : Option (List ByteArray) := (customhouseref03_Digits.f k a0).bind fun t624 => (customhouseref03_Checked.l0 k t624 ([] : List ByteArray) ([] : List ByteArray) 0 a1_0 l1_1 l1_2)
end Go.Proofs.YtdlipbfcadmhjaaGreatDoor.PG3
