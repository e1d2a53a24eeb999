/- Written by a program of this session's over the kit's print: the functions that a law comes to as plain Lean functions, and that Go's code computes them. Nothing is assumed. -/
import Derived.Test.YtdlipbfcadmhjaaGreatDoorPG3x0
import Derived.Test.YtdlipbfcadmhjaaGreatDoorPG3x9
namespace Go.Proofs.YtdlipbfcadmhjaaGreatDoor.PG3
open Go.RowKit Go.Proofs.YtdlipbfcadmhjaaGreatDoorW.PrintWords Go.Proofs.YtdlipbfcadmhjaaGreatDoorW.PrintLast Go.Proofs.YtdlipbfcadmhjaaGreatDoorW.PrintMore
attribute [local go_sem] max2_int min2_int max_two min_two max_three min_three max_four min_four
set_option linter.unusedVariables false
set_option linter.unusedSimpArgs false
def customhouseref03_chained.l0 : Nat → ByteArray → Int → List ByteArray → Int → Option (List ByteArray)
  | 0, _, _, _, _ => none
  | k + 1, x0, x1, x5, x6 => if x6 < x1 then ((customhouseref01_Sum.f k x0).bind fun t565 => (if x5.length < 8796093022208 then (customhouseref03_chained.l0 k t565 x1 (x5 ++ [t565]) (wrap64 (x6 + 1))) else (none))) else (some x5)
def customhouseref03_chained.f (k : Nat) (a0 : ByteArray) (a1 : Int) : Option (List ByteArray) := customhouseref03_chained.l0 k a0 a1 (([a0] : List ByteArray)) 0
def customhouseref03_node.f (a0 : ByteArray) (a1 : ByteArray) : Option (ByteArray) := (customhouseref01_Joined.f (([(⟨#[110, 111, 100, 101]⟩ : ByteArray), a0, a1] : List ByteArray))).bind fun t572 => (some t572)
end Go.Proofs.YtdlipbfcadmhjaaGreatDoor.PG3
