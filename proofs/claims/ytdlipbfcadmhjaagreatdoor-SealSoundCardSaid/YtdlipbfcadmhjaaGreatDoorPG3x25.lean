/- Written by a program of this session's over the kit's print: the functions that a law comes to as plain Lean functions, and that Go's code computes them. Nothing is assumed. -/
import Derived.Test.YtdlipbfcadmhjaaGreatDoorPG3x0
import Derived.Test.YtdlipbfcadmhjaaGreatDoorPG3x1
import Derived.Test.YtdlipbfcadmhjaaGreatDoorPG3x6
import Derived.Test.YtdlipbfcadmhjaaGreatDoorPG3x7
import Derived.Test.YtdlipbfcadmhjaaGreatDoorPG3x20
import Derived.Test.YtdlipbfcadmhjaaGreatDoorPG3x22
import Derived.Test.YtdlipbfcadmhjaaGreatDoorPG3x23
import Derived.Test.YtdlipbfcadmhjaaGreatDoorY14
import Derived.Test.YtdlipbfcadmhjaaGreatDoorY16
namespace Go.Proofs.YtdlipbfcadmhjaaGreatDoor.PG3
open Go.RowKit Go.Proofs.YtdlipbfcadmhjaaGreatDoorW.PrintWords Go.Proofs.YtdlipbfcadmhjaaGreatDoorW.PrintLast Go.Proofs.YtdlipbfcadmhjaaGreatDoorW.PrintMore
attribute [local go_sem] max2_int min2_int max_two min_two max_three min_three max_four min_four   -- for this text's walks alone
set_option linter.unusedVariables false
set_option linter.unusedSimpArgs false

/-! ### customhouselaw03_SealBinds: function 7 -/
mutual
def customhouselaw03_SealBinds.j0 : Nat → ByteArray → ByteArray → ByteArray → Bool → Int → Int → Bool → Option (Bool)
  | 0, _, _, _, _, _, _, _ => none
  | k + 1, x0, x3, x4, x11, x12, x13, x39 => if x39 = true then (some x11) else ((seal_Public.f k x0 x12).bind fun bt469 => ((seal_Sign.f x0 x12 x13 x3).bind fun bt471 => (if bt469.2 = 0 then (customhouselaw03_SealBinds.j1 k x0 x4 x11 x12 bt469.1 (bt471.2.2.2 != 0) bt471.1 bt471.2.1 bt471.2.2.1) else (customhouselaw03_SealBinds.j1 k x0 x4 x11 x12 bt469.1 true bt471.1 bt471.2.1 bt471.2.2.1))))
def customhouselaw03_SealBinds.j1 : Nat → ByteArray → ByteArray → Bool → Int → ByteArray → Bool → Int → List ByteArray → List ByteArray → Option (Bool)
  | 0, _, _, _, _, _, _, _, _, _ => none
  | k + 1, x0, x4, x11, x12, x14, x60, x480000, x480001, x480002 => if x60 = true then (some false) else ((seal_Verify.f x14 x4 x480000 x480001 x480002).bind fun t480 => (if t480 = true then (if x11 = true then ((customhouseref03_Made.f k x0 x12 30).bind fun t481 => ((customhouseref03_Checked.f k x4 x480000 x480001 x480002).bind fun t484 => (if t481.length + t484.length < 8796093022208 then ((customhouseref02_Shown.f k (t481 ++ t484)).bind fun t490 => (some t490)) else (none)))) else (some false)) else (some x11)))
end
def customhouselaw03_SealBinds.f (k : Nat) (a0 : ByteArray) (a1 : Int) (a2 : Int) (a3 : ByteArray) (a4 : ByteArray) : Option (Bool) := (customhouselaw03_head.f).bind fun t462 => (if 0 ≤ (Int.tmod (wrap64 (a1)) 3) then (if (shl .i64 1 (Int.tmod (wrap64 (a1)) 3)) = 0 then (none) else ((customhouselaw03_short.f k (([a0, a3, a4] : List ByteArray))).bind fun t466 => (if t466 = true then ((customhouseref01_Sum.f k a3).bind fun t467 => ((customhouseref01_Sum.f k a4).bind fun t468 => (customhouselaw03_SealBinds.j0 k a0 a3 a4 t462 (Int.tmod (wrap64 (a1)) 3) (Int.tmod (wrap64 (a2)) (shl .i64 1 (Int.tmod (wrap64 (a1)) 3))) (t467.toList == t468.toList)))) else (customhouselaw03_SealBinds.j0 k a0 a3 a4 t462 (Int.tmod (wrap64 (a1)) 3) (Int.tmod (wrap64 (a2)) (shl .i64 1 (Int.tmod (wrap64 (a1)) 3))) true)))) else (none))

end Go.Proofs.YtdlipbfcadmhjaaGreatDoor.PG3
