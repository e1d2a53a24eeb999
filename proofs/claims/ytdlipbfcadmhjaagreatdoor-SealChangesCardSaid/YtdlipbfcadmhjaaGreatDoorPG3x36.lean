/- Written by a program of this session's over the kit's print: the functions that a law comes to as plain Lean functions, and that Go's code computes them. Nothing is assumed. -/
import Derived.Test.YtdlipbfcadmhjaaGreatDoorPG3x0
import Derived.Test.YtdlipbfcadmhjaaGreatDoorPG3x21
import Derived.Test.YtdlipbfcadmhjaaGreatDoorPG3x22
import Derived.Test.YtdlipbfcadmhjaaGreatDoorPG3x24
import Derived.Test.YtdlipbfcadmhjaaGreatDoorPG3x29
import Derived.Test.YtdlipbfcadmhjaaGreatDoorPG3x32
import Derived.Test.YtdlipbfcadmhjaaGreatDoorPG3x34
import Derived.Test.YtdlipbfcadmhjaaGreatDoorPG3x35
import Derived.Test.YtdlipbfcadmhjaaGreatDoorY13
import Derived.Test.YtdlipbfcadmhjaaGreatDoorY14
namespace Go.Proofs.YtdlipbfcadmhjaaGreatDoor.PG3
open Go.RowKit Go.Proofs.YtdlipbfcadmhjaaGreatDoorW.PrintWords Go.Proofs.YtdlipbfcadmhjaaGreatDoorW.PrintLast Go.Proofs.YtdlipbfcadmhjaaGreatDoorW.PrintMore
attribute [local go_sem] max2_int min2_int max_two min_two max_three min_three max_four min_four
set_option linter.unusedVariables false
set_option linter.unusedSimpArgs false
mutual
def customhouselaw03_SealSound.j0 : Nat → ByteArray → ByteArray → Bool → Int → Bool → Int → List ByteArray → List ByteArray → Option (Bool)
  | 0, _, _, _, _, _, _, _, _ => none
  | k + 1, x0, x2, x9, x10, x28, x666000, x666001, x666002 => if x28 = true then (some x9) else ((seal_Public.f k x0 x10).bind fun bt672 => (if bt672.2 = 0 then ((seal_Verify.f bt672.1 x2 x666000 x666001 x666002).bind fun t674 => (if t674 = true then ((seal_Sign.f x0 x10 x666000 x2).bind fun bt675 => (if bt675.2.2.2 = 0 then ((customhouseref03_Same.f k bt675.1 bt675.2.1 bt675.2.2.1 x666000 x666001 x666002).bind fun t684 => (customhouselaw03_SealSound.j1 k x0 x2 x9 x10 t684 x666000 x666001 x666002)) else (customhouselaw03_SealSound.j1 k x0 x2 x9 x10 false x666000 x666001 x666002))) else (some x9))) else (some false)))
def customhouselaw03_SealSound.j1 : Nat → ByteArray → ByteArray → Bool → Int → Bool → Int → List ByteArray → List ByteArray → Option (Bool)
  | 0, _, _, _, _, _, _, _, _ => none
  | k + 1, x0, x2, x9, x10, x59, x666000, x666001, x666002 => if x59 = true then (some x9) else (if x9 = true then ((customhouseref03_Made.f k x0 x10 15).bind fun t685 => ((customhouseref03_Checked.f k x2 x666000 x666001 x666002).bind fun t688 => (if t685.length + t688.length < 8796093022208 then ((customhouseref02_Shown.f k (t685 ++ t688)).bind fun t694 => (some t694)) else (none)))) else (some false))
end
def customhouselaw03_SealSound.f (k : Nat) (a0 : ByteArray) (a1 : Int) (a2 : ByteArray) (a3_0 : Int) (l3_1 : List ByteArray) (l3_2 : List ByteArray) : Option (Bool) := (customhouselaw03_head.f).bind fun t666 => ((customhouselaw03_short.f k (([a0, a2] : List ByteArray))).bind fun t670 => (if t670 = true then ((customhouseref03_Few.f k a3_0 l3_1 l3_2).bind fun t671 => (customhouselaw03_SealSound.j0 k a0 a2 t666 (Int.tmod (wrap64 (a1)) 3) (!t671) a3_0 l3_1 l3_2)) else (customhouselaw03_SealSound.j0 k a0 a2 t666 (Int.tmod (wrap64 (a1)) 3) true a3_0 l3_1 l3_2)))
end Go.Proofs.YtdlipbfcadmhjaaGreatDoor.PG3
