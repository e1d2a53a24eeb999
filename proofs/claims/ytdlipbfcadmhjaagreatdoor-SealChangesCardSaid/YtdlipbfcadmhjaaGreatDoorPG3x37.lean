/- Written by a program of this session's over the kit's print: the functions that a law comes to as plain Lean functions, and that Go's code computes them. Nothing is assumed. -/
import Derived.Test.YtdlipbfcadmhjaaGreatDoorPG3x0
import Derived.Test.YtdlipbfcadmhjaaGreatDoorPG3x9
import Derived.Test.YtdlipbfcadmhjaaGreatDoorPG3x21
import Derived.Test.YtdlipbfcadmhjaaGreatDoorPG3x24
import Derived.Test.YtdlipbfcadmhjaaGreatDoorPG3x32
import Derived.Test.YtdlipbfcadmhjaaGreatDoorPG3x34
import Derived.Test.YtdlipbfcadmhjaaGreatDoorPG3x35
import Derived.Test.YtdlipbfcadmhjaaGreatDoorY13
import Derived.Test.YtdlipbfcadmhjaaGreatDoorY14
namespace Go.Proofs.YtdlipbfcadmhjaaGreatDoor.PG3
open Go.RowKit Go.Proofs.YtdlipbfcadmhjaaGreatDoorW.PrintWords Go.Proofs.YtdlipbfcadmhjaaGreatDoorW.PrintLast Go.Proofs.YtdlipbfcadmhjaaGreatDoorW.PrintMore
attribute [local go_sem] max2_int min2_int max_two min_two max_three min_three max_four min_four
set_option linter.unusedVariables false
set_option linter.unusedSimpArgs false
mutual
def customhouselaw03_SealBinds.j0 : Nat → ByteArray → ByteArray → ByteArray → Bool → Int → Int → Bool → Option (Bool)
  | 0, _, _, _, _, _, _, _ => none
  | k + 1, x0, x3, x4, x11, x12, x13, x39 => if x39 = true then (some x11) else ((seal_Public.f k x0 x12).bind fun bt702 => ((seal_Sign.f x0 x12 x13 x3).bind fun bt704 => (if bt702.2 = 0 then (customhouselaw03_SealBinds.j1 k x0 x4 x11 x12 bt702.1 (bt704.2.2.2 != 0) bt704.1 bt704.2.1 bt704.2.2.1) else (customhouselaw03_SealBinds.j1 k x0 x4 x11 x12 bt702.1 true bt704.1 bt704.2.1 bt704.2.2.1))))
def customhouselaw03_SealBinds.j1 : Nat → ByteArray → ByteArray → Bool → Int → ByteArray → Bool → Int → List ByteArray → List ByteArray → Option (Bool)
  | 0, _, _, _, _, _, _, _, _, _ => none
  | k + 1, x0, x4, x11, x12, x14, x60, x713000, x713001, x713002 => if x60 = true then (some false) else ((seal_Verify.f x14 x4 x713000 x713001 x713002).bind fun t713 => (if t713 = true then (if x11 = true then ((customhouseref03_Made.f k x0 x12 30).bind fun t714 => ((customhouseref03_Checked.f k x4 x713000 x713001 x713002).bind fun t717 => (if t714.length + t717.length < 8796093022208 then ((customhouseref02_Shown.f k (t714 ++ t717)).bind fun t723 => (some t723)) else (none)))) else (some false)) else (some x11)))
end
def customhouselaw03_SealBinds.f (k : Nat) (a0 : ByteArray) (a1 : Int) (a2 : Int) (a3 : ByteArray) (a4 : ByteArray) : Option (Bool) := (customhouselaw03_head.f).bind fun t695 => (if 0 ≤ (Int.tmod (wrap64 (a1)) 3) then (if (shl .i64 1 (Int.tmod (wrap64 (a1)) 3)) = 0 then (none) else ((customhouselaw03_short.f k (([a0, a3, a4] : List ByteArray))).bind fun t699 => (if t699 = true then ((customhouseref01_Sum.f k a3).bind fun t700 => ((customhouseref01_Sum.f k a4).bind fun t701 => (customhouselaw03_SealBinds.j0 k a0 a3 a4 t695 (Int.tmod (wrap64 (a1)) 3) (Int.tmod (wrap64 (a2)) (shl .i64 1 (Int.tmod (wrap64 (a1)) 3))) (t700.toList == t701.toList)))) else (customhouselaw03_SealBinds.j0 k a0 a3 a4 t695 (Int.tmod (wrap64 (a1)) 3) (Int.tmod (wrap64 (a2)) (shl .i64 1 (Int.tmod (wrap64 (a1)) 3))) true)))) else (none))
end Go.Proofs.YtdlipbfcadmhjaaGreatDoor.PG3
