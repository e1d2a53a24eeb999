/- Written by a program of this session's over the kit's print: the functions that a law comes to as plain Lean functions, and that Go's code computes them. Nothing is assumed. -/
import Derived.Test.YtdlipbfcadmhjaaGreatDoorPG2x0
import Derived.Test.YtdlipbfcadmhjaaGreatDoorPG2x2
import Derived.Test.YtdlipbfcadmhjaaGreatDoorPG2x4
import Derived.Test.YtdlipbfcadmhjaaGreatDoorPG2x5
import Derived.Test.YtdlipbfcadmhjaaGreatDoorPG2x6
import Derived.Test.YtdlipbfcadmhjaaGreatDoorPG2x7
import Derived.Test.YtdlipbfcadmhjaaGreatDoorPG2x8
import Derived.Test.YtdlipbfcadmhjaaGreatDoorPG2x11
import Derived.Test.YtdlipbfcadmhjaaGreatDoorPG2x13
import Derived.Test.YtdlipbfcadmhjaaGreatDoorPG2x15
import Derived.Test.YtdlipbfcadmhjaaGreatDoorPG2x17
import Derived.Test.YtdlipbfcadmhjaaGreatDoorPG2x19
import Derived.Test.YtdlipbfcadmhjaaGreatDoorT4d
import Derived.Test.YtdlipbfcadmhjaaGreatDoorT5c
namespace Go.Proofs.YtdlipbfcadmhjaaGreatDoor.PG2
open Go.RowKit Go.Proofs.YtdlipbfcadmhjaaGreatDoorW.PrintWords Go.Proofs.YtdlipbfcadmhjaaGreatDoorW.PrintLast Go.Proofs.YtdlipbfcadmhjaaGreatDoorW.PrintMore
attribute [local go_sem] max2_int min2_int max_two min_two max_three min_three max_four min_four   -- for this text's walks alone
set_option linter.unusedVariables false
set_option linter.unusedSimpArgs false

/-! ### customhouselaw02_TreeMatchesReference: function 4 -/
mutual
def customhouselaw02_TreeMatchesReference.j0 : Nat → List ByteArray → Int → Int → Int → ByteArray → ByteArray → ByteArray → List ByteArray → Bool → Bool → Option (Bool)
  | 0, _, _, _, _, _, _, _, _, _, _ => none
  | k + 1, x0, x1, x2, x3, x4, x5, x6, x7, x17, x51 => if x51 = true then (some x17) else ((tree_Path.f k x0 x1).bind fun bt386 => ((customhouseref02_Path.f k x0 x1).bind fun bt390 => ((tree_Link.f k x0 x2).bind fun bt394 => ((customhouseref02_Link.f k x0 x2).bind fun bt398 => ((tree_Root.f k x0).bind fun t402 => ((customhouseref02_Root.f k x0).bind fun t403 => (if t402.toList = t403.toList then (if bt386.2 = bt390.2 then ((customhouseref01_Same.f k bt386.1 bt390.1).bind fun t404 => (if t404 = true then (if bt394.2 = bt398.2 then ((customhouseref01_Same.f k bt394.1 bt398.1).bind fun t405 => (customhouselaw02_TreeMatchesReference.j1 k x0 x1 x2 x3 x4 x5 x6 x7 x17 t405)) else (customhouselaw02_TreeMatchesReference.j1 k x0 x1 x2 x3 x4 x5 x6 x7 x17 false)) else (customhouselaw02_TreeMatchesReference.j1 k x0 x1 x2 x3 x4 x5 x6 x7 x17 false))) else (customhouselaw02_TreeMatchesReference.j1 k x0 x1 x2 x3 x4 x5 x6 x7 x17 false)) else (customhouselaw02_TreeMatchesReference.j1 k x0 x1 x2 x3 x4 x5 x6 x7 x17 false))))))))
def customhouselaw02_TreeMatchesReference.j1 : Nat → List ByteArray → Int → Int → Int → ByteArray → ByteArray → ByteArray → List ByteArray → Bool → Bool → Option (Bool)
  | 0, _, _, _, _, _, _, _, _, _, _ => none
  | k + 1, x0, x1, x2, x3, x4, x5, x6, x7, x17, x26 => (tree_Check.f x4 x3 x1 x6 x7).bind fun t406 => ((customhouseref02_Check.f k x4 x3 x1 x6 x7).bind fun t407 => (if (t406 == t407) = true then ((tree_Root.f k x0).bind fun t408 => ((tree_Check.f t408 (x0.length : Int) x1 x6 x7).bind fun t409 => ((customhouseref02_Root.f k x0).bind fun t410 => ((customhouseref02_Check.f k t410 (x0.length : Int) x1 x6 x7).bind fun t411 => (customhouselaw02_TreeMatchesReference.j2 k x0 x2 x3 x4 x5 x7 x17 x26 (t409 == t411)))))) else (customhouselaw02_TreeMatchesReference.j2 k x0 x2 x3 x4 x5 x7 x17 x26 false)))
def customhouselaw02_TreeMatchesReference.j2 : Nat → List ByteArray → Int → Int → ByteArray → ByteArray → List ByteArray → Bool → Bool → Bool → Option (Bool)
  | 0, _, _, _, _, _, _, _, _, _ => none
  | k + 1, x0, x2, x3, x4, x5, x7, x17, x26, x27 => if x17 = true then (if x26 = true then (if x27 = true then ((tree_Extends.f x5 x2 x4 x3 x7).bind fun t412 => ((customhouseref02_Extends.f k x5 x2 x4 x3 x7).bind fun t413 => (if (t412 == t413) = true then ((tree_Root.f k x0).bind fun t414 => ((tree_Extends.f x5 x2 t414 (x0.length : Int) x7).bind fun t415 => ((customhouseref02_Root.f k x0).bind fun t416 => ((customhouseref02_Extends.f k x5 x2 t416 (x0.length : Int) x7).bind fun t417 => (some (t415 == t417)))))) else (some false)))) else (some false)) else (some false)) else (some false)
end
def customhouselaw02_TreeMatchesReference.f (k : Nat) (l0 : List ByteArray) (a1 : Int) (a2 : Int) (a3 : Int) (a4 : ByteArray) (a5 : ByteArray) (a6 : ByteArray) (l7 : List ByteArray) : Option (Bool) := (customhouselaw02_head.f k).bind fun t383 => ((customhouselaw02_few.f k l0).bind fun t384 => (if t384 = true then ((customhouselaw02_few.f k l7).bind fun t385 => (if t385 = true then (if (a4.size : Int) > 100 then (customhouselaw02_TreeMatchesReference.j0 k l0 a1 a2 a3 a4 a5 a6 l7 t383 true) else (if (a5.size : Int) > 100 then (customhouselaw02_TreeMatchesReference.j0 k l0 a1 a2 a3 a4 a5 a6 l7 t383 true) else (customhouselaw02_TreeMatchesReference.j0 k l0 a1 a2 a3 a4 a5 a6 l7 t383 (decide ((a6.size : Int) > 100))))) else (customhouselaw02_TreeMatchesReference.j0 k l0 a1 a2 a3 a4 a5 a6 l7 t383 true))) else (customhouselaw02_TreeMatchesReference.j0 k l0 a1 a2 a3 a4 a5 a6 l7 t383 true)))
theorem customhouselaw02_TreeMatchesReference.mono_l : ∀ k, (∀ y0 y1 y2 y3 y4 y5 y6 y7 y8 y9, LeO (customhouselaw02_TreeMatchesReference.j0 k y0 y1 y2 y3 y4 y5 y6 y7 y8 y9) (customhouselaw02_TreeMatchesReference.j0 (k + 1) y0 y1 y2 y3 y4 y5 y6 y7 y8 y9)) ∧ (∀ y0 y1 y2 y3 y4 y5 y6 y7 y8 y9, LeO (customhouselaw02_TreeMatchesReference.j1 k y0 y1 y2 y3 y4 y5 y6 y7 y8 y9) (customhouselaw02_TreeMatchesReference.j1 (k + 1) y0 y1 y2 y3 y4 y5 y6 y7 y8 y9)) ∧ (∀ y0 y1 y2 y3 y4 y5 y6 y7 y8, LeO (customhouselaw02_TreeMatchesReference.j2 k y0 y1 y2 y3 y4 y5 y6 y7 y8) (customhouselaw02_TreeMatchesReference.j2 (k + 1) y0 y1 y2 y3 y4 y5 y6 y7 y8))
  | 0 => ⟨fun _ _ _ _ _ _ _ _ _ _ r h => by simp [customhouselaw02_TreeMatchesReference.j0] at h, fun _ _ _ _ _ _ _ _ _ _ r h => by simp [customhouselaw02_TreeMatchesReference.j1] at h, fun _ _ _ _ _ _ _ _ _ r h => by simp [customhouselaw02_TreeMatchesReference.j2] at h⟩
  | k + 1 => by
    obtain ⟨ih0, ih1, ih2⟩ := customhouselaw02_TreeMatchesReference.mono_l k
    refine ⟨?_, ?_, ?_⟩
    · intro y0 y1 y2 y3 y4 y5 y6 y7 y8 y9
      unfold customhouselaw02_TreeMatchesReference.j0
      repeat' first
      | (with_reducible exact ih0 _ _ _ _ _ _ _ _ _ _)
      | (with_reducible exact ih1 _ _ _ _ _ _ _ _ _ _)
      | (with_reducible exact ih2 _ _ _ _ _ _ _ _ _)
      | (with_reducible exact customhouselaw02_few.mono _ _)
      | (with_reducible exact customhouselaw02_head.mono _)
      | (with_reducible exact customhouseref01_Same.mono _ _ _)
      | (with_reducible exact customhouseref02_Check.mono _ _ _ _ _ _)
      | (with_reducible exact customhouseref02_Extends.mono _ _ _ _ _ _)
      | (with_reducible exact customhouseref02_Link.mono _ _ _)
      | (with_reducible exact customhouseref02_Path.mono _ _ _)
      | (with_reducible exact customhouseref02_Root.mono _ _)
      | (with_reducible exact tree_Link.mono _ _ _)
      | (with_reducible exact tree_Path.mono _ _ _)
      | (with_reducible exact tree_Root.mono _ _)
      | (with_reducible exact LeO.refl _)
      | (with_reducible exact LeO.none _)
      | (with_reducible refine LeO.ite ?_ ?_)
      | (with_reducible refine LeO.bind ?_ (fun _ => ?_))
      | exact ih0 _ _ _ _ _ _ _ _ _ _
      | exact ih1 _ _ _ _ _ _ _ _ _ _
      | exact ih2 _ _ _ _ _ _ _ _ _
      | exact customhouselaw02_few.mono _ _
      | exact customhouselaw02_head.mono _
      | exact customhouseref01_Same.mono _ _ _
      | exact customhouseref02_Check.mono _ _ _ _ _ _
      | exact customhouseref02_Extends.mono _ _ _ _ _ _
      | exact customhouseref02_Link.mono _ _ _
      | exact customhouseref02_Path.mono _ _ _
      | exact customhouseref02_Root.mono _ _
      | exact tree_Link.mono _ _ _
      | exact tree_Path.mono _ _ _
      | exact tree_Root.mono _ _
      | exact LeO.none _
      | refine LeO.ite ?_ ?_
      | refine LeO.bind ?_ (fun _ => ?_)
    · intro y0 y1 y2 y3 y4 y5 y6 y7 y8 y9
      unfold customhouselaw02_TreeMatchesReference.j1
      repeat' first
      | (with_reducible exact ih0 _ _ _ _ _ _ _ _ _ _)
      | (with_reducible exact ih1 _ _ _ _ _ _ _ _ _ _)
      | (with_reducible exact ih2 _ _ _ _ _ _ _ _ _)
      | (with_reducible exact customhouselaw02_few.mono _ _)
      | (with_reducible exact customhouselaw02_head.mono _)
      | (with_reducible exact customhouseref01_Same.mono _ _ _)
      | (with_reducible exact customhouseref02_Check.mono _ _ _ _ _ _)
      | (with_reducible exact customhouseref02_Extends.mono _ _ _ _ _ _)
      | (with_reducible exact customhouseref02_Link.mono _ _ _)
      | (with_reducible exact customhouseref02_Path.mono _ _ _)
      | (with_reducible exact customhouseref02_Root.mono _ _)
      | (with_reducible exact tree_Link.mono _ _ _)
      | (with_reducible exact tree_Path.mono _ _ _)
      | (with_reducible exact tree_Root.mono _ _)
      | (with_reducible exact LeO.refl _)
      | (with_reducible exact LeO.none _)
      | (with_reducible refine LeO.ite ?_ ?_)
      | (with_reducible refine LeO.bind ?_ (fun _ => ?_))
      | exact ih0 _ _ _ _ _ _ _ _ _ _
      | exact ih1 _ _ _ _ _ _ _ _ _ _
      | exact ih2 _ _ _ _ _ _ _ _ _
      | exact customhouselaw02_few.mono _ _
      | exact customhouselaw02_head.mono _
      | exact customhouseref01_Same.mono _ _ _
      | exact customhouseref02_Check.mono _ _ _ _ _ _
      | exact customhouseref02_Extends.mono _ _ _ _ _ _
      | exact customhouseref02_Link.mono _ _ _
      | exact customhouseref02_Path.mono _ _ _
      | exact customhouseref02_Root.mono _ _
      | exact tree_Link.mono _ _ _
      | exact tree_Path.mono _ _ _
      | exact tree_Root.mono _ _
      | exact LeO.none _
      | refine LeO.ite ?_ ?_
      | refine LeO.bind ?_ (fun _ => ?_)
    · intro y0 y1 y2 y3 y4 y5 y6 y7 y8
      unfold customhouselaw02_TreeMatchesReference.j2
      repeat' first
      | (with_reducible exact ih0 _ _ _ _ _ _ _ _ _ _)
      | (with_reducible exact ih1 _ _ _ _ _ _ _ _ _ _)
      | (with_reducible exact ih2 _ _ _ _ _ _ _ _ _)
      | (with_reducible exact customhouselaw02_few.mono _ _)
      | (with_reducible exact customhouselaw02_head.mono _)
      | (with_reducible exact customhouseref01_Same.mono _ _ _)
      | (with_reducible exact customhouseref02_Check.mono _ _ _ _ _ _)
      | (with_reducible exact customhouseref02_Extends.mono _ _ _ _ _ _)
      | (with_reducible exact customhouseref02_Link.mono _ _ _)
      | (with_reducible exact customhouseref02_Path.mono _ _ _)
      | (with_reducible exact customhouseref02_Root.mono _ _)
      | (with_reducible exact tree_Link.mono _ _ _)
      | (with_reducible exact tree_Path.mono _ _ _)
      | (with_reducible exact tree_Root.mono _ _)
      | (with_reducible exact LeO.refl _)
      | (with_reducible exact LeO.none _)
      | (with_reducible refine LeO.ite ?_ ?_)
      | (with_reducible refine LeO.bind ?_ (fun _ => ?_))
      | exact ih0 _ _ _ _ _ _ _ _ _ _
      | exact ih1 _ _ _ _ _ _ _ _ _ _
      | exact ih2 _ _ _ _ _ _ _ _ _
      | exact customhouselaw02_few.mono _ _
      | exact customhouselaw02_head.mono _
      | exact customhouseref01_Same.mono _ _ _
      | exact customhouseref02_Check.mono _ _ _ _ _ _
      | exact customhouseref02_Extends.mono _ _ _ _ _ _
      | exact customhouseref02_Link.mono _ _ _
      | exact customhouseref02_Path.mono _ _ _
      | exact customhouseref02_Root.mono _ _
      | exact tree_Link.mono _ _ _
      | exact tree_Path.mono _ _ _
      | exact tree_Root.mono _ _
      | exact LeO.none _
      | refine LeO.ite ?_ ?_
      | refine LeO.bind ?_ (fun _ => ?_)
theorem customhouselaw02_TreeMatchesReference.mono : ∀ a0 a1 a2 a3 a4 a5 a6 a7 k, LeO (customhouselaw02_TreeMatchesReference.f k a0 a1 a2 a3 a4 a5 a6 a7) (customhouselaw02_TreeMatchesReference.f (k + 1) a0 a1 a2 a3 a4 a5 a6 a7) := by
  intro a0 a1 a2 a3 a4 a5 a6 a7 k
  obtain ⟨ih0, ih1, ih2⟩ := customhouselaw02_TreeMatchesReference.mono_l k
  unfold customhouselaw02_TreeMatchesReference.f
  repeat' first
      | (with_reducible exact ih0 _ _ _ _ _ _ _ _ _ _)
      | (with_reducible exact ih1 _ _ _ _ _ _ _ _ _ _)
      | (with_reducible exact ih2 _ _ _ _ _ _ _ _ _)
      | (with_reducible exact customhouselaw02_few.mono _ _)
      | (with_reducible exact customhouselaw02_head.mono _)
      | (with_reducible exact customhouseref01_Same.mono _ _ _)
      | (with_reducible exact customhouseref02_Check.mono _ _ _ _ _ _)
      | (with_reducible exact customhouseref02_Extends.mono _ _ _ _ _ _)
      | (with_reducible exact customhouseref02_Link.mono _ _ _)
      | (with_reducible exact customhouseref02_Path.mono _ _ _)
      | (with_reducible exact customhouseref02_Root.mono _ _)
      | (with_reducible exact tree_Link.mono _ _ _)
      | (with_reducible exact tree_Path.mono _ _ _)
      | (with_reducible exact tree_Root.mono _ _)
      | (with_reducible exact LeO.refl _)
      | (with_reducible exact LeO.none _)
      | (with_reducible refine LeO.ite ?_ ?_)
      | (with_reducible refine LeO.bind ?_ (fun _ => ?_))
      | exact ih0 _ _ _ _ _ _ _ _ _ _
      | exact ih1 _ _ _ _ _ _ _ _ _ _
      | exact ih2 _ _ _ _ _ _ _ _ _
      | exact customhouselaw02_few.mono _ _
      | exact customhouselaw02_head.mono _
      | exact customhouseref01_Same.mono _ _ _
      | exact customhouseref02_Check.mono _ _ _ _ _ _
      | exact customhouseref02_Extends.mono _ _ _ _ _ _
      | exact customhouseref02_Link.mono _ _ _
      | exact customhouseref02_Path.mono _ _ _
      | exact customhouseref02_Root.mono _ _
      | exact tree_Link.mono _ _ _
      | exact tree_Path.mono _ _ _
      | exact tree_Root.mono _ _
      | exact LeO.none _
      | refine LeO.ite ?_ ?_
      | refine LeO.bind ?_ (fun _ => ?_)
set_option maxHeartbeats 8000000 in
set_option maxRecDepth 100000 in
theorem customhouselaw02_TreeMatchesReference.calls (k : Nat) (A0 : Option Addr) (c0 : Nat) (l0 : List ByteArray) (a1 : Int) (a2 : Int) (a3 : Int) (a4 : ByteArray) (a5 : ByteArray) (a6 : ByteArray) (A7 : Option Addr) (c7 : Nat) (l7 : List ByteArray) (r : Bool) (w : World) (hG : GL w) (hr0 : Kd.C Kd.string w A0 l0.length l0) (hc0 : l0.length ≤ c0) (hr7 : Kd.C Kd.string w A7 l7.length l7) (hc7 : l7.length ≤ c7) (h : customhouselaw02_TreeMatchesReference.f k l0 a1 a2 a3 a4 a5 a6 l7 = some r) :
    Calls Tryz.prog 4 #[.slice A0 l0.length c0, .int .i64 a1, .int .i64 a2, .int .i64 a3, .string a4, .string a5, .string a6, .slice A7 l7.length c7] w fun e w' => e = .returned (.bool r) ∧ Below w.heap.size w w' := by
  have HR0 := Aside0.mk hr0
  have HC0 := Aside0.mk hc0
  clear hr0 hc0
  have HR7 := Aside0.mk hr7
  have HC7 := Aside0.mk hc7
  clear hr7 hc7
  have HB := Aside0.mk (Below.refl w.heap.size w)
  have HG := Aside0.mk hG
  clear hG
  have H : ((customhouselaw02_head.f k).bind fun t383 => ((customhouselaw02_few.f k l0).bind fun t384 => (if t384 = true then ((customhouselaw02_few.f k l7).bind fun t385 => (if t385 = true then (if (a4.size : Int) > 100 then (customhouselaw02_TreeMatchesReference.j0 k l0 a1 a2 a3 a4 a5 a6 l7 t383 true) else (if (a5.size : Int) > 100 then (customhouselaw02_TreeMatchesReference.j0 k l0 a1 a2 a3 a4 a5 a6 l7 t383 true) else (customhouselaw02_TreeMatchesReference.j0 k l0 a1 a2 a3 a4 a5 a6 l7 t383 (decide ((a6.size : Int) > 100))))) else (customhouselaw02_TreeMatchesReference.j0 k l0 a1 a2 a3 a4 a5 a6 l7 t383 true))) else (customhouselaw02_TreeMatchesReference.j0 k l0 a1 a2 a3 a4 a5 a6 l7 t383 true)))) = some r := h
  clear h
  replace H := Option.bind_eq_some_iff.mp H
  obtain ⟨t383, A90, H⟩ := H
  replace H : ((customhouselaw02_few.f k l0).bind fun t384 => (if t384 = true then ((customhouselaw02_few.f k l7).bind fun t385 => (if t385 = true then (if (a4.size : Int) > 100 then (customhouselaw02_TreeMatchesReference.j0 k l0 a1 a2 a3 a4 a5 a6 l7 t383 true) else (if (a5.size : Int) > 100 then (customhouselaw02_TreeMatchesReference.j0 k l0 a1 a2 a3 a4 a5 a6 l7 t383 true) else (customhouselaw02_TreeMatchesReference.j0 k l0 a1 a2 a3 a4 a5 a6 l7 t383 (decide ((a6.size : Int) > 100))))) else (customhouselaw02_TreeMatchesReference.j0 k l0 a1 a2 a3 a4 a5 a6 l7 t383 true))) else (customhouselaw02_TreeMatchesReference.j0 k l0 a1 a2 a3 a4 a5 a6 l7 t383 true))) = some r := H
  have A9 := Aside0.mk A90
  clear A90
  have HC10 := Aside0.mk H
  clear H
  go_enter Tryz.func4, Tryz.ntmps4
  go_upto_region 2 with (first | ((with_reducible refine gate_callee (f := 23) rfl ?_); refine goesL_ (some 28) rfl rfl Tryz.func23 (by kernel_rfl) rfl #[] rfl (by (try simp only [List.map_toArray, List.map_cons, List.map_nil]); first | done | rfl | (simp only [List.length_drop, List.length_take]; rfl)) ?_; (with_reducible refine (customhouselaw02_head.calls k  t383 _ ?side1 A9.out).mono ?_); (case side1 => exact GL.below HG.out (by repeat (first | (with_reducible first | exact HB.out | apply below_alloc | apply pw_below_drewN | apply below_drew1) | exact HB.out))); rintro e w11 ⟨rfl, hb⟩; refine ⟨_, rfl, ?_⟩; have n0_ := Aside0.mk (below_step (by repeat (first | (with_reducible first | exact HB.out | apply below_alloc | apply pw_below_drewN | apply below_drew1) | exact HB.out)) hb); clear HB; have HB := n0_; clear n0_; (try clear hb); (try clear hb2); (try clear hk); (try clear hi)))
  (try simp only [Act.put, List.setIfInBounds_toArray, List.set_cons_zero, List.set_cons_succ])
  go_cut [51] (fun v51 wc => ∃ (kq : Nat) (x51_9 : Bool), v51 = .bool x51_9 ∧ Aside0 (customhouselaw02_TreeMatchesReference.j0 kq l0 a1 a2 a3 a4 a5 a6 l7 t383 x51_9 = some r) ∧ Aside0 (kq ≤ k) ∧ Aside0 (Below w.heap.size w wc))
  case first =>
    have H := HC10.out
    clear HC10
    replace H := Option.bind_eq_some_iff.mp H
    obtain ⟨t384, A120, H⟩ := H
    replace H : (if t384 = true then ((customhouselaw02_few.f k l7).bind fun t385 => (if t385 = true then (if (a4.size : Int) > 100 then (customhouselaw02_TreeMatchesReference.j0 k l0 a1 a2 a3 a4 a5 a6 l7 t383 true) else (if (a5.size : Int) > 100 then (customhouselaw02_TreeMatchesReference.j0 k l0 a1 a2 a3 a4 a5 a6 l7 t383 true) else (customhouselaw02_TreeMatchesReference.j0 k l0 a1 a2 a3 a4 a5 a6 l7 t383 (decide ((a6.size : Int) > 100))))) else (customhouselaw02_TreeMatchesReference.j0 k l0 a1 a2 a3 a4 a5 a6 l7 t383 true))) else (customhouselaw02_TreeMatchesReference.j0 k l0 a1 a2 a3 a4 a5 a6 l7 t383 true)) = some r := H
    have A12 := Aside0.mk A120
    clear A120
    by_cases c13 : t384 = true
    · subst c13
      have H1 : ((customhouselaw02_few.f k l7).bind fun t385 => (if t385 = true then (if (a4.size : Int) > 100 then (customhouselaw02_TreeMatchesReference.j0 k l0 a1 a2 a3 a4 a5 a6 l7 t383 true) else (if (a5.size : Int) > 100 then (customhouselaw02_TreeMatchesReference.j0 k l0 a1 a2 a3 a4 a5 a6 l7 t383 true) else (customhouselaw02_TreeMatchesReference.j0 k l0 a1 a2 a3 a4 a5 a6 l7 t383 (decide ((a6.size : Int) > 100))))) else (customhouselaw02_TreeMatchesReference.j0 k l0 a1 a2 a3 a4 a5 a6 l7 t383 true))) = some r := by rw [if_pos rfl] at H; exact H
      clear H
      have H := H1
      clear H1
      replace H := Option.bind_eq_some_iff.mp H
      obtain ⟨t385, A140, H⟩ := H
      replace H : (if t385 = true then (if (a4.size : Int) > 100 then (customhouselaw02_TreeMatchesReference.j0 k l0 a1 a2 a3 a4 a5 a6 l7 t383 true) else (if (a5.size : Int) > 100 then (customhouselaw02_TreeMatchesReference.j0 k l0 a1 a2 a3 a4 a5 a6 l7 t383 true) else (customhouselaw02_TreeMatchesReference.j0 k l0 a1 a2 a3 a4 a5 a6 l7 t383 (decide ((a6.size : Int) > 100))))) else (customhouselaw02_TreeMatchesReference.j0 k l0 a1 a2 a3 a4 a5 a6 l7 t383 true)) = some r := H
      have A14 := Aside0.mk A140
      clear A140
      by_cases c15 : t385 = true
      · subst c15
        have H1 : (if (a4.size : Int) > 100 then (customhouselaw02_TreeMatchesReference.j0 k l0 a1 a2 a3 a4 a5 a6 l7 t383 true) else (if (a5.size : Int) > 100 then (customhouselaw02_TreeMatchesReference.j0 k l0 a1 a2 a3 a4 a5 a6 l7 t383 true) else (customhouselaw02_TreeMatchesReference.j0 k l0 a1 a2 a3 a4 a5 a6 l7 t383 (decide ((a6.size : Int) > 100))))) = some r := by rw [if_pos rfl] at H; exact H
        clear H
        have H := H1
        clear H1
        by_cases c16 : (a4.size : Int) > 100
        · rw [if_pos c16] at H
          have c16b0 : decide (100 < (a4.size : Int)) = true := decide_eq_true c16
          have c16b1 : decide (100 < a4.size) = true := decide_eq_true (by omega)
          clear c16
          (first | rw [c16b0] | (simp only [i64_w, i32_w]; rw [c16b0]) | skip)
          have H' := Aside0.mk H
          clear H
          go_wp2_with (first | ((with_reducible refine gate_callee (f := 24) rfl ?_); refine goesL_ (some 30) rfl rfl Tryz.func24 (by kernel_rfl) rfl #[.slice A0 l0.length c0] rfl (by (try simp only [List.map_toArray, List.map_cons, List.map_nil]); first | done | rfl | (simp only [List.length_drop, List.length_take]; rfl)) ?_; (with_reducible refine (customhouselaw02_few.calls k _ _ l0 true _ ?side1 ?side2 A12.out).mono ?_); (case side1 => repeat (first | exact (Kd.C_below HR0.out HB.out) | (with_reducible refine Kd.C_alloc ?_ _) | (with_reducible refine Kd.C_drewN ?_ _) | (with_reducible refine Kd.C_drew ?_))); (case side2 => exact HC0.out); rintro e w' ⟨rfl, ⟨nd, rfl⟩⟩; refine ⟨_, rfl, ?_⟩) | (go_at_call 24; (with_reducible refine (customhouselaw02_few.calls k _ _ l7 true _ ?side1 ?side2 A14.out).mono ?_); (case side1 => repeat (first | exact (Kd.C_below HR7.out (by repeat (first | (with_reducible first | exact HB.out | apply below_alloc | apply pw_below_drewN | apply below_drew1) | exact HB.out))) | (with_reducible refine Kd.C_alloc ?_ _) | (with_reducible refine Kd.C_drewN ?_ _) | (with_reducible refine Kd.C_drew ?_))); (case side2 => exact HC7.out); rintro e w' ⟨rfl, ⟨nd, rfl⟩⟩))
          go_meet
          case rel => exact ⟨_, (true), (by first | rfl | (simp; done) | (simp [*]; done)), H', ⟨by first | omega | exact Nat.le_refl _⟩, ⟨by repeat (first | (with_reducible first | exact HB.out | apply below_alloc | apply pw_below_drewN | apply below_drew1) | exact HB.out)⟩⟩
        · rw [if_neg c16] at H
          have c16b0 : decide (100 < (a4.size : Int)) = false := decide_eq_false c16
          have c16b1 : decide (100 < a4.size) = false := decide_eq_false (by omega)
          clear c16
          (first | rw [c16b0] | (simp only [i64_w, i32_w]; rw [c16b0]) | skip)
          by_cases c17 : (a5.size : Int) > 100
          · rw [if_pos c17] at H
            have c17b0 : decide (100 < (a5.size : Int)) = true := decide_eq_true c17
            have c17b1 : decide (100 < a5.size) = true := decide_eq_true (by omega)
            clear c17
            have H' := Aside0.mk H
            clear H
            go_wp2_with (first | ((with_reducible refine gate_callee (f := 24) rfl ?_); refine goesL_ (some 30) rfl rfl Tryz.func24 (by kernel_rfl) rfl #[.slice A0 l0.length c0] rfl (by (try simp only [List.map_toArray, List.map_cons, List.map_nil]); first | done | rfl | (simp only [List.length_drop, List.length_take]; rfl)) ?_; (with_reducible refine (customhouselaw02_few.calls k _ _ l0 true _ ?side1 ?side2 A12.out).mono ?_); (case side1 => repeat (first | exact (Kd.C_below HR0.out HB.out) | (with_reducible refine Kd.C_alloc ?_ _) | (with_reducible refine Kd.C_drewN ?_ _) | (with_reducible refine Kd.C_drew ?_))); (case side2 => exact HC0.out); rintro e w' ⟨rfl, ⟨nd, rfl⟩⟩; refine ⟨_, rfl, ?_⟩) | (go_at_call 24; (with_reducible refine (customhouselaw02_few.calls k _ _ l7 true _ ?side1 ?side2 A14.out).mono ?_); (case side1 => repeat (first | exact (Kd.C_below HR7.out (by repeat (first | (with_reducible first | exact HB.out | apply below_alloc | apply pw_below_drewN | apply below_drew1) | exact HB.out))) | (with_reducible refine Kd.C_alloc ?_ _) | (with_reducible refine Kd.C_drewN ?_ _) | (with_reducible refine Kd.C_drew ?_))); (case side2 => exact HC7.out); rintro e w' ⟨rfl, ⟨nd, rfl⟩⟩))
            go_meet
            case rel => exact ⟨_, (true), (by first | rfl | (simp; done) | (simp [*]; done)), H', ⟨by first | omega | exact Nat.le_refl _⟩, ⟨by repeat (first | (with_reducible first | exact HB.out | apply below_alloc | apply pw_below_drewN | apply below_drew1) | exact HB.out)⟩⟩
          · rw [if_neg c17] at H
            have c17b0 : decide (100 < (a5.size : Int)) = false := decide_eq_false c17
            have c17b1 : decide (100 < a5.size) = false := decide_eq_false (by omega)
            clear c17
            have H' := Aside0.mk H
            clear H
            go_wp2_with (first | ((with_reducible refine gate_callee (f := 24) rfl ?_); refine goesL_ (some 30) rfl rfl Tryz.func24 (by kernel_rfl) rfl #[.slice A0 l0.length c0] rfl (by (try simp only [List.map_toArray, List.map_cons, List.map_nil]); first | done | rfl | (simp only [List.length_drop, List.length_take]; rfl)) ?_; (with_reducible refine (customhouselaw02_few.calls k _ _ l0 true _ ?side1 ?side2 A12.out).mono ?_); (case side1 => repeat (first | exact (Kd.C_below HR0.out HB.out) | (with_reducible refine Kd.C_alloc ?_ _) | (with_reducible refine Kd.C_drewN ?_ _) | (with_reducible refine Kd.C_drew ?_))); (case side2 => exact HC0.out); rintro e w' ⟨rfl, ⟨nd, rfl⟩⟩; refine ⟨_, rfl, ?_⟩) | (go_at_call 24; (with_reducible refine (customhouselaw02_few.calls k _ _ l7 true _ ?side1 ?side2 A14.out).mono ?_); (case side1 => repeat (first | exact (Kd.C_below HR7.out (by repeat (first | (with_reducible first | exact HB.out | apply below_alloc | apply pw_below_drewN | apply below_drew1) | exact HB.out))) | (with_reducible refine Kd.C_alloc ?_ _) | (with_reducible refine Kd.C_drewN ?_ _) | (with_reducible refine Kd.C_drew ?_))); (case side2 => exact HC7.out); rintro e w' ⟨rfl, ⟨nd, rfl⟩⟩))
            go_meet
            case rel => exact ⟨_, (decide ((a6.size : Int) > 100)), (by first | rfl | (simp; done) | (simp [*]; done)), H', ⟨by first | omega | exact Nat.le_refl _⟩, ⟨by repeat (first | (with_reducible first | exact HB.out | apply below_alloc | apply pw_below_drewN | apply below_drew1) | exact HB.out)⟩⟩
      · replace c15 := Bool.eq_false_iff.mpr c15
        subst c15
        have H1 : (customhouselaw02_TreeMatchesReference.j0 k l0 a1 a2 a3 a4 a5 a6 l7 t383 true) = some r := by rw [if_neg (show ¬ (false = true) by decide)] at H; exact H
        clear H
        have H := H1
        clear H1
        have H' := Aside0.mk H
        clear H
        go_wp2_with (first | ((with_reducible refine gate_callee (f := 24) rfl ?_); refine goesL_ (some 30) rfl rfl Tryz.func24 (by kernel_rfl) rfl #[.slice A0 l0.length c0] rfl (by (try simp only [List.map_toArray, List.map_cons, List.map_nil]); first | done | rfl | (simp only [List.length_drop, List.length_take]; rfl)) ?_; (with_reducible refine (customhouselaw02_few.calls k _ _ l0 true _ ?side1 ?side2 A12.out).mono ?_); (case side1 => repeat (first | exact (Kd.C_below HR0.out HB.out) | (with_reducible refine Kd.C_alloc ?_ _) | (with_reducible refine Kd.C_drewN ?_ _) | (with_reducible refine Kd.C_drew ?_))); (case side2 => exact HC0.out); rintro e w' ⟨rfl, ⟨nd, rfl⟩⟩; refine ⟨_, rfl, ?_⟩) | (go_at_call 24; (with_reducible refine (customhouselaw02_few.calls k _ _ l7 false _ ?side1 ?side2 A14.out).mono ?_); (case side1 => repeat (first | exact (Kd.C_below HR7.out (by repeat (first | (with_reducible first | exact HB.out | apply below_alloc | apply pw_below_drewN | apply below_drew1) | exact HB.out))) | (with_reducible refine Kd.C_alloc ?_ _) | (with_reducible refine Kd.C_drewN ?_ _) | (with_reducible refine Kd.C_drew ?_))); (case side2 => exact HC7.out); rintro e w' ⟨rfl, ⟨nd, rfl⟩⟩))
        go_meet
        case rel => exact ⟨_, (true), (by first | rfl | (simp; done) | (simp [*]; done)), H', ⟨by first | omega | exact Nat.le_refl _⟩, ⟨by repeat (first | (with_reducible first | exact HB.out | apply below_alloc | apply pw_below_drewN | apply below_drew1) | exact HB.out)⟩⟩
    · replace c13 := Bool.eq_false_iff.mpr c13
      subst c13
      have H1 : (customhouselaw02_TreeMatchesReference.j0 k l0 a1 a2 a3 a4 a5 a6 l7 t383 true) = some r := by rw [if_neg (show ¬ (false = true) by decide)] at H; exact H
      clear H
      have H := H1
      clear H1
      have H' := Aside0.mk H
      clear H
      go_wp2_with (first | ((with_reducible refine gate_callee (f := 24) rfl ?_); refine goesL_ (some 30) rfl rfl Tryz.func24 (by kernel_rfl) rfl #[.slice A0 l0.length c0] rfl (by (try simp only [List.map_toArray, List.map_cons, List.map_nil]); first | done | rfl | (simp only [List.length_drop, List.length_take]; rfl)) ?_; (with_reducible refine (customhouselaw02_few.calls k _ _ l0 false _ ?side1 ?side2 A12.out).mono ?_); (case side1 => repeat (first | exact (Kd.C_below HR0.out HB.out) | (with_reducible refine Kd.C_alloc ?_ _) | (with_reducible refine Kd.C_drewN ?_ _) | (with_reducible refine Kd.C_drew ?_))); (case side2 => exact HC0.out); rintro e w' ⟨rfl, ⟨nd, rfl⟩⟩; refine ⟨_, rfl, ?_⟩))
      go_meet
      case rel => exact ⟨_, (true), (by first | rfl | (simp; done) | (simp [*]; done)), H', ⟨by first | omega | exact Nat.le_refl _⟩, ⟨by repeat (first | (with_reducible first | exact HB.out | apply below_alloc | apply pw_below_drewN | apply below_drew1) | exact HB.out)⟩⟩
  case rest =>
    clear HC10
    try clear c1
    try clear c2
    try clear p2
    try clear c4
    try clear c7
    try clear c13
    try clear c15
    try clear c16
    try clear c16b0
    try clear c16b1
    try clear c17
    try clear c17b0
    try clear c17b1
    obtain ⟨kq, x51_9, rfl, HA, HJ9, HB⟩ := hcut
    cases kq with
    | zero => exact absurd HA.out (by simp [customhouselaw02_TreeMatchesReference.j0])
    | succ kj9 =>
      have H := HA.out
      clear HA
      simp only [customhouselaw02_TreeMatchesReference.j0] at H
      by_cases c18 : x51_9 = true
      · subst c18
        have H1 : (some t383) = some r := by rw [if_pos rfl] at H; exact H
        clear H
        have H := H1
        clear H1
        obtain rfl := Option.some.inj H
        go_wp2
        go_ret
        exact ⟨by first | rfl | (simp [errW_none, errW_some] <;> rfl) | (simp [*, errW_none, errW_some] <;> rfl), by repeat (first | (with_reducible first | exact HB.out | apply below_alloc | apply pw_below_drewN | apply below_drew1) | exact HB.out)⟩
      · replace c18 := Bool.eq_false_iff.mpr c18
        subst c18
        have H1 : ((tree_Path.f kj9 l0 a1).bind fun bt386 => ((customhouseref02_Path.f kj9 l0 a1).bind fun bt390 => ((tree_Link.f kj9 l0 a2).bind fun bt394 => ((customhouseref02_Link.f kj9 l0 a2).bind fun bt398 => ((tree_Root.f kj9 l0).bind fun t402 => ((customhouseref02_Root.f kj9 l0).bind fun t403 => (if t402.toList = t403.toList then (if bt386.2 = bt390.2 then ((customhouseref01_Same.f kj9 bt386.1 bt390.1).bind fun t404 => (if t404 = true then (if bt394.2 = bt398.2 then ((customhouseref01_Same.f kj9 bt394.1 bt398.1).bind fun t405 => (customhouselaw02_TreeMatchesReference.j1 kj9 l0 a1 a2 a3 a4 a5 a6 l7 t383 t405)) else (customhouselaw02_TreeMatchesReference.j1 kj9 l0 a1 a2 a3 a4 a5 a6 l7 t383 false)) else (customhouselaw02_TreeMatchesReference.j1 kj9 l0 a1 a2 a3 a4 a5 a6 l7 t383 false))) else (customhouselaw02_TreeMatchesReference.j1 kj9 l0 a1 a2 a3 a4 a5 a6 l7 t383 false)) else (customhouselaw02_TreeMatchesReference.j1 kj9 l0 a1 a2 a3 a4 a5 a6 l7 t383 false)))))))) = some r := by rw [if_neg (show ¬ (false = true) by decide)] at H; exact H
        clear H
        have H := H1
        clear H1
        replace H := Option.bind_eq_some_iff.mp H
        obtain ⟨⟨t386, t389⟩, A190, H⟩ := H
        replace H : ((customhouseref02_Path.f kj9 l0 a1).bind fun bt390 => ((tree_Link.f kj9 l0 a2).bind fun bt394 => ((customhouseref02_Link.f kj9 l0 a2).bind fun bt398 => ((tree_Root.f kj9 l0).bind fun t402 => ((customhouseref02_Root.f kj9 l0).bind fun t403 => (if t402.toList = t403.toList then (if t389 = bt390.2 then ((customhouseref01_Same.f kj9 t386 bt390.1).bind fun t404 => (if t404 = true then (if bt394.2 = bt398.2 then ((customhouseref01_Same.f kj9 bt394.1 bt398.1).bind fun t405 => (customhouselaw02_TreeMatchesReference.j1 kj9 l0 a1 a2 a3 a4 a5 a6 l7 t383 t405)) else (customhouselaw02_TreeMatchesReference.j1 kj9 l0 a1 a2 a3 a4 a5 a6 l7 t383 false)) else (customhouselaw02_TreeMatchesReference.j1 kj9 l0 a1 a2 a3 a4 a5 a6 l7 t383 false))) else (customhouselaw02_TreeMatchesReference.j1 kj9 l0 a1 a2 a3 a4 a5 a6 l7 t383 false)) else (customhouselaw02_TreeMatchesReference.j1 kj9 l0 a1 a2 a3 a4 a5 a6 l7 t383 false))))))) = some r := H
        have A19 := Aside0.mk A190
        clear A190
        replace H := Option.bind_eq_some_iff.mp H
        obtain ⟨⟨t390, t391⟩, A200, H⟩ := H
        replace H : ((tree_Link.f kj9 l0 a2).bind fun bt394 => ((customhouseref02_Link.f kj9 l0 a2).bind fun bt398 => ((tree_Root.f kj9 l0).bind fun t402 => ((customhouseref02_Root.f kj9 l0).bind fun t403 => (if t402.toList = t403.toList then (if t389 = t391 then ((customhouseref01_Same.f kj9 t386 t390).bind fun t404 => (if t404 = true then (if bt394.2 = bt398.2 then ((customhouseref01_Same.f kj9 bt394.1 bt398.1).bind fun t405 => (customhouselaw02_TreeMatchesReference.j1 kj9 l0 a1 a2 a3 a4 a5 a6 l7 t383 t405)) else (customhouselaw02_TreeMatchesReference.j1 kj9 l0 a1 a2 a3 a4 a5 a6 l7 t383 false)) else (customhouselaw02_TreeMatchesReference.j1 kj9 l0 a1 a2 a3 a4 a5 a6 l7 t383 false))) else (customhouselaw02_TreeMatchesReference.j1 kj9 l0 a1 a2 a3 a4 a5 a6 l7 t383 false)) else (customhouselaw02_TreeMatchesReference.j1 kj9 l0 a1 a2 a3 a4 a5 a6 l7 t383 false)))))) = some r := H
        have A20 := Aside0.mk A200
        clear A200
        replace H := Option.bind_eq_some_iff.mp H
        obtain ⟨⟨t394, t397⟩, A210, H⟩ := H
        replace H : ((customhouseref02_Link.f kj9 l0 a2).bind fun bt398 => ((tree_Root.f kj9 l0).bind fun t402 => ((customhouseref02_Root.f kj9 l0).bind fun t403 => (if t402.toList = t403.toList then (if t389 = t391 then ((customhouseref01_Same.f kj9 t386 t390).bind fun t404 => (if t404 = true then (if t397 = bt398.2 then ((customhouseref01_Same.f kj9 t394 bt398.1).bind fun t405 => (customhouselaw02_TreeMatchesReference.j1 kj9 l0 a1 a2 a3 a4 a5 a6 l7 t383 t405)) else (customhouselaw02_TreeMatchesReference.j1 kj9 l0 a1 a2 a3 a4 a5 a6 l7 t383 false)) else (customhouselaw02_TreeMatchesReference.j1 kj9 l0 a1 a2 a3 a4 a5 a6 l7 t383 false))) else (customhouselaw02_TreeMatchesReference.j1 kj9 l0 a1 a2 a3 a4 a5 a6 l7 t383 false)) else (customhouselaw02_TreeMatchesReference.j1 kj9 l0 a1 a2 a3 a4 a5 a6 l7 t383 false))))) = some r := H
        have A21 := Aside0.mk A210
        clear A210
        replace H := Option.bind_eq_some_iff.mp H
        obtain ⟨⟨t398, t399⟩, A220, H⟩ := H
        replace H : ((tree_Root.f kj9 l0).bind fun t402 => ((customhouseref02_Root.f kj9 l0).bind fun t403 => (if t402.toList = t403.toList then (if t389 = t391 then ((customhouseref01_Same.f kj9 t386 t390).bind fun t404 => (if t404 = true then (if t397 = t399 then ((customhouseref01_Same.f kj9 t394 t398).bind fun t405 => (customhouselaw02_TreeMatchesReference.j1 kj9 l0 a1 a2 a3 a4 a5 a6 l7 t383 t405)) else (customhouselaw02_TreeMatchesReference.j1 kj9 l0 a1 a2 a3 a4 a5 a6 l7 t383 false)) else (customhouselaw02_TreeMatchesReference.j1 kj9 l0 a1 a2 a3 a4 a5 a6 l7 t383 false))) else (customhouselaw02_TreeMatchesReference.j1 kj9 l0 a1 a2 a3 a4 a5 a6 l7 t383 false)) else (customhouselaw02_TreeMatchesReference.j1 kj9 l0 a1 a2 a3 a4 a5 a6 l7 t383 false)))) = some r := H
        have A22 := Aside0.mk A220
        clear A220
        have HC23 := Aside0.mk H
        clear H
        go_upto_region 8 with (first | ((with_reducible refine gate_callee (f := 25) rfl ?_); refine goesL_ (some 56) rfl rfl Tryz.func25 (by kernel_rfl) rfl #[.slice A0 l0.length c0, .int .i64 a1] rfl (by (try simp only [List.map_toArray, List.map_cons, List.map_nil]); first | done | rfl | (simp only [List.length_drop, List.length_take]; rfl)) ?_; (with_reducible refine (tree_Path.calls kj9 (fun k_ => k_ < w.heap.size) _ _ l0 a1 t386 t389 _ ?side2 ?side1 A19.out).mono ?_); (case side1 => exact Kd.V_mk HC0.out (Kd.F_below (Kd.C_F Kd.heap_string HR0.out) (by repeat (first | (with_reducible first | exact HB.out | apply below_alloc | apply pw_below_drewN | apply below_drew1) | exact HB.out)))); (case side2 => exact GL.below HG.out (by repeat (first | (with_reducible first | exact HB.out | apply below_alloc | apply pw_below_drewN | apply below_drew1) | exact HB.out))); rintro e w24 ⟨v387, rfl, ho0, hb⟩; refine ⟨_, rfl, ?_⟩; have n0_ := Aside0.mk (Kd.R_lower (Kd.R_mono (ok' := fun k_ => True) ho0 (fun _ hk_ => trivial)) (below_size (by repeat (first | (with_reducible first | exact HB.out | apply below_alloc | apply pw_below_drewN | apply below_drew1) | exact HB.out)))); have n1_ := Aside0.mk (below_step (by repeat (first | (with_reducible first | exact HB.out | apply below_alloc | apply pw_below_drewN | apply below_drew1) | exact HB.out)) hb); clear HB; have HO388 := n0_; have HB := n1_; clear n0_ n1_; (try clear hb); (try clear hb2); (try clear hk); (try clear hi); (try clear ho0)) | ((with_reducible refine gate_callee (f := 26) rfl ?_); refine goesL_ (some 62) rfl rfl Tryz.func26 (by kernel_rfl) rfl #[.slice A0 l0.length c0, .int .i64 a1] rfl (by (try simp only [List.map_toArray, List.map_cons, List.map_nil]); first | done | rfl | (simp only [List.length_drop, List.length_take]; rfl)) ?_; (with_reducible refine (customhouseref02_Path.calls kj9 _ _ l0 a1 t390 t391 _ ?side1 ?side2 A20.out).mono ?_); (case side1 => repeat (first | exact (Kd.C_below HR0.out HB.out) | (with_reducible refine Kd.C_alloc ?_ _) | (with_reducible refine Kd.C_drewN ?_ _) | (with_reducible refine Kd.C_drew ?_))); (case side2 => exact HC0.out); rintro e w25 ⟨v392, rfl, ho0, hb⟩; refine ⟨_, rfl, ?_⟩; have n0_ := Aside0.mk (Kd.R_elder' (by (with_reducible repeat (first | apply Kd.R_alloc | apply Kd.R_drewN | apply Kd.R_drew)); exact HO388.out) (Kd.R_base ho0) hb); have n1_ := Aside0.mk (Kd.R_lower (Kd.R_new' ho0 (Kd.R_lt (by (with_reducible repeat (first | apply Kd.R_alloc | apply Kd.R_drewN | apply Kd.R_drew)); exact HO388.out))) (below_size (by repeat (first | (with_reducible first | exact HB.out | apply below_alloc | apply pw_below_drewN | apply below_drew1) | exact HB.out)))); have n2_ := Aside0.mk (below_step (by repeat (first | (with_reducible first | exact HB.out | apply below_alloc | apply pw_below_drewN | apply below_drew1) | exact HB.out)) hb); clear HO388; clear HB; have HO388 := n0_; have HO393 := n1_; have HB := n2_; clear n0_ n1_ n2_; (try clear hb); (try clear hb2); (try clear hk); (try clear hi); (try clear ho0)) | ((with_reducible refine gate_callee (f := 27) rfl ?_); refine goesL_ (some 68) rfl rfl Tryz.func27 (by kernel_rfl) rfl #[.slice A0 l0.length c0, .int .i64 a2] rfl (by (try simp only [List.map_toArray, List.map_cons, List.map_nil]); first | done | rfl | (simp only [List.length_drop, List.length_take]; rfl)) ?_; (with_reducible refine (tree_Link.calls kj9 (fun k_ => k_ < w.heap.size) _ _ l0 a2 t394 t397 _ ?side2 ?side1 A21.out).mono ?_); (case side1 => exact Kd.V_mk HC0.out (Kd.F_below (Kd.C_F Kd.heap_string HR0.out) (by repeat (first | (with_reducible first | exact HB.out | apply below_alloc | apply pw_below_drewN | apply below_drew1) | exact HB.out)))); (case side2 => exact GL.below HG.out (by repeat (first | (with_reducible first | exact HB.out | apply below_alloc | apply pw_below_drewN | apply below_drew1) | exact HB.out))); rintro e w26 ⟨v395, rfl, ho0, hb⟩; refine ⟨_, rfl, ?_⟩; have n0_ := Aside0.mk (Kd.R_elder' (by (with_reducible repeat (first | apply Kd.R_alloc | apply Kd.R_drewN | apply Kd.R_drew)); exact HO388.out) (Kd.R_base ho0) hb); have n1_ := Aside0.mk (Kd.R_elder' (by (with_reducible repeat (first | apply Kd.R_alloc | apply Kd.R_drewN | apply Kd.R_drew)); exact HO393.out) (Kd.R_base ho0) hb); have n2_ := Aside0.mk (Kd.R_lower (Kd.R_new' (Kd.R_new' (Kd.R_mono (ok' := fun k_ => True) ho0 (fun _ hk_ => trivial)) (Kd.R_lt (by (with_reducible repeat (first | apply Kd.R_alloc | apply Kd.R_drewN | apply Kd.R_drew)); exact HO388.out))) (Kd.R_lt (by (with_reducible repeat (first | apply Kd.R_alloc | apply Kd.R_drewN | apply Kd.R_drew)); exact HO393.out))) (below_size (by repeat (first | (with_reducible first | exact HB.out | apply below_alloc | apply pw_below_drewN | apply below_drew1) | exact HB.out)))); have n3_ := Aside0.mk (below_step (by repeat (first | (with_reducible first | exact HB.out | apply below_alloc | apply pw_below_drewN | apply below_drew1) | exact HB.out)) hb); clear HO388; clear HO393; clear HB; have HO388 := n0_; have HO393 := n1_; have HO396 := n2_; have HB := n3_; clear n0_ n1_ n2_ n3_; (try clear hb); (try clear hb2); (try clear hk); (try clear hi); (try clear ho0)) | ((with_reducible refine gate_callee (f := 28) rfl ?_); refine goesL_ (some 74) rfl rfl Tryz.func28 (by kernel_rfl) rfl #[.slice A0 l0.length c0, .int .i64 a2] rfl (by (try simp only [List.map_toArray, List.map_cons, List.map_nil]); first | done | rfl | (simp only [List.length_drop, List.length_take]; rfl)) ?_; (with_reducible refine (customhouseref02_Link.calls kj9 _ _ l0 a2 t398 t399 _ ?side1 ?side2 A22.out).mono ?_); (case side1 => repeat (first | exact (Kd.C_below HR0.out HB.out) | (with_reducible refine Kd.C_alloc ?_ _) | (with_reducible refine Kd.C_drewN ?_ _) | (with_reducible refine Kd.C_drew ?_))); (case side2 => exact HC0.out); rintro e w27 ⟨v400, rfl, ho0, hb⟩; refine ⟨_, rfl, ?_⟩; have n0_ := Aside0.mk (Kd.R_elder' (by (with_reducible repeat (first | apply Kd.R_alloc | apply Kd.R_drewN | apply Kd.R_drew)); exact HO388.out) (Kd.R_base ho0) hb); have n1_ := Aside0.mk (Kd.R_elder' (by (with_reducible repeat (first | apply Kd.R_alloc | apply Kd.R_drewN | apply Kd.R_drew)); exact HO393.out) (Kd.R_base ho0) hb); have n2_ := Aside0.mk (Kd.R_elder' (by (with_reducible repeat (first | apply Kd.R_alloc | apply Kd.R_drewN | apply Kd.R_drew)); exact HO396.out) (Kd.R_base ho0) hb); have n3_ := Aside0.mk (Kd.R_lower (Kd.R_new' (Kd.R_new' (Kd.R_new' ho0 (Kd.R_lt (by (with_reducible repeat (first | apply Kd.R_alloc | apply Kd.R_drewN | apply Kd.R_drew)); exact HO388.out))) (Kd.R_lt (by (with_reducible repeat (first | apply Kd.R_alloc | apply Kd.R_drewN | apply Kd.R_drew)); exact HO393.out))) (Kd.R_lt (by (with_reducible repeat (first | apply Kd.R_alloc | apply Kd.R_drewN | apply Kd.R_drew)); exact HO396.out))) (below_size (by repeat (first | (with_reducible first | exact HB.out | apply below_alloc | apply pw_below_drewN | apply below_drew1) | exact HB.out)))); have n4_ := Aside0.mk (below_step (by repeat (first | (with_reducible first | exact HB.out | apply below_alloc | apply pw_below_drewN | apply below_drew1) | exact HB.out)) hb); clear HO388; clear HO393; clear HO396; clear HB; have HO388 := n0_; have HO393 := n1_; have HO396 := n2_; have HO401 := n3_; have HB := n4_; clear n0_ n1_ n2_ n3_ n4_; (try clear hb); (try clear hb2); (try clear hk); (try clear hi); (try clear ho0)))
        (try simp only [Act.put, List.setIfInBounds_toArray, List.set_cons_zero, List.set_cons_succ])
        go_cut [26] (fun v26 wc => ∃ (kq : Nat) (x26_22 : Bool), v26 = .bool x26_22 ∧ Aside0 (customhouselaw02_TreeMatchesReference.j1 kq l0 a1 a2 a3 a4 a5 a6 l7 t383 x26_22 = some r) ∧ Aside0 (kq ≤ kj9) ∧ Aside0 (Below w.heap.size w wc))
        case first =>
          have H := HC23.out
          clear HC23
          replace H := Option.bind_eq_some_iff.mp H
          obtain ⟨t402, A280, H⟩ := H
          replace H : ((customhouseref02_Root.f kj9 l0).bind fun t403 => (if t402.toList = t403.toList then (if t389 = t391 then ((customhouseref01_Same.f kj9 t386 t390).bind fun t404 => (if t404 = true then (if t397 = t399 then ((customhouseref01_Same.f kj9 t394 t398).bind fun t405 => (customhouselaw02_TreeMatchesReference.j1 kj9 l0 a1 a2 a3 a4 a5 a6 l7 t383 t405)) else (customhouselaw02_TreeMatchesReference.j1 kj9 l0 a1 a2 a3 a4 a5 a6 l7 t383 false)) else (customhouselaw02_TreeMatchesReference.j1 kj9 l0 a1 a2 a3 a4 a5 a6 l7 t383 false))) else (customhouselaw02_TreeMatchesReference.j1 kj9 l0 a1 a2 a3 a4 a5 a6 l7 t383 false)) else (customhouselaw02_TreeMatchesReference.j1 kj9 l0 a1 a2 a3 a4 a5 a6 l7 t383 false))) = some r := H
          have A28 := Aside0.mk A280
          clear A280
          replace H := Option.bind_eq_some_iff.mp H
          obtain ⟨t403, A290, H⟩ := H
          replace H : (if t402.toList = t403.toList then (if t389 = t391 then ((customhouseref01_Same.f kj9 t386 t390).bind fun t404 => (if t404 = true then (if t397 = t399 then ((customhouseref01_Same.f kj9 t394 t398).bind fun t405 => (customhouselaw02_TreeMatchesReference.j1 kj9 l0 a1 a2 a3 a4 a5 a6 l7 t383 t405)) else (customhouselaw02_TreeMatchesReference.j1 kj9 l0 a1 a2 a3 a4 a5 a6 l7 t383 false)) else (customhouselaw02_TreeMatchesReference.j1 kj9 l0 a1 a2 a3 a4 a5 a6 l7 t383 false))) else (customhouselaw02_TreeMatchesReference.j1 kj9 l0 a1 a2 a3 a4 a5 a6 l7 t383 false)) else (customhouselaw02_TreeMatchesReference.j1 kj9 l0 a1 a2 a3 a4 a5 a6 l7 t383 false)) = some r := H
          have A29 := Aside0.mk A290
          clear A290
          by_cases c30 : t402.toList = t403.toList
          · rw [if_pos c30] at H
            have c30b0 : (t402.toList == t403.toList) = true := beq_iff_eq.mpr c30
            have c30b1 : (t402.toList != t403.toList) = false := bne_eq_false_iff_eq.mpr c30
            clear c30
            (first | rw [c30b0] | (simp only [i64_w, i32_w]; rw [c30b0]) | skip)
            by_cases c31 : t389 = t391
            · rw [if_pos c31] at H
              have c31b0 : (t389 == t391) = true := beq_iff_eq.mpr c31
              have c31b1 : (t389 != t391) = false := bne_eq_false_iff_eq.mpr c31
              clear c31
              replace H := Option.bind_eq_some_iff.mp H
              obtain ⟨t404, A320, H⟩ := H
              replace H : (if t404 = true then (if t397 = t399 then ((customhouseref01_Same.f kj9 t394 t398).bind fun t405 => (customhouselaw02_TreeMatchesReference.j1 kj9 l0 a1 a2 a3 a4 a5 a6 l7 t383 t405)) else (customhouselaw02_TreeMatchesReference.j1 kj9 l0 a1 a2 a3 a4 a5 a6 l7 t383 false)) else (customhouselaw02_TreeMatchesReference.j1 kj9 l0 a1 a2 a3 a4 a5 a6 l7 t383 false)) = some r := H
              have A32 := Aside0.mk A320
              clear A320
              by_cases c33 : t404 = true
              · subst c33
                have H1 : (if t397 = t399 then ((customhouseref01_Same.f kj9 t394 t398).bind fun t405 => (customhouselaw02_TreeMatchesReference.j1 kj9 l0 a1 a2 a3 a4 a5 a6 l7 t383 t405)) else (customhouselaw02_TreeMatchesReference.j1 kj9 l0 a1 a2 a3 a4 a5 a6 l7 t383 false)) = some r := by rw [if_pos rfl] at H; exact H
                clear H
                have H := H1
                clear H1
                by_cases c34 : t397 = t399
                · rw [if_pos c34] at H
                  have c34b0 : (t397 == t399) = true := beq_iff_eq.mpr c34
                  have c34b1 : (t397 != t399) = false := bne_eq_false_iff_eq.mpr c34
                  clear c34
                  replace H := Option.bind_eq_some_iff.mp H
                  obtain ⟨t405, A350, H⟩ := H
                  replace H : (customhouselaw02_TreeMatchesReference.j1 kj9 l0 a1 a2 a3 a4 a5 a6 l7 t383 t405) = some r := H
                  have A35 := Aside0.mk A350
                  clear A350
                  have H' := Aside0.mk H
                  clear H
                  go_wp2_with (first | ((with_reducible refine gate_callee (f := 29) rfl ?_); refine goesL_ (some 78) rfl rfl Tryz.func29 (by kernel_rfl) rfl #[.slice A0 l0.length c0] rfl (by (try simp only [List.map_toArray, List.map_cons, List.map_nil]); first | done | rfl | (simp only [List.length_drop, List.length_take]; rfl)) ?_; (with_reducible refine (tree_Root.calls kj9 _ _ l0 t402 _ ?side3 ?side1 ?side2 A28.out).mono ?_); (case side1 => repeat (first | exact (Kd.C_below HR0.out HB.out) | (with_reducible refine Kd.C_alloc ?_ _) | (with_reducible refine Kd.C_drewN ?_ _) | (with_reducible refine Kd.C_drew ?_))); (case side2 => exact HC0.out); (case side3 => exact GL.below HG.out (by repeat (first | (with_reducible first | exact HB.out | apply below_alloc | apply pw_below_drewN | apply below_drew1) | exact HB.out))); rintro e w36 ⟨rfl, hb⟩; refine ⟨_, rfl, ?_⟩; have n0_ := Aside0.mk (Kd.R_below (by (with_reducible repeat (first | apply Kd.R_alloc | apply Kd.R_drewN | apply Kd.R_drew)); exact HO388.out) hb); have n1_ := Aside0.mk (Kd.R_below (by (with_reducible repeat (first | apply Kd.R_alloc | apply Kd.R_drewN | apply Kd.R_drew)); exact HO393.out) hb); have n2_ := Aside0.mk (Kd.R_below (by (with_reducible repeat (first | apply Kd.R_alloc | apply Kd.R_drewN | apply Kd.R_drew)); exact HO396.out) hb); have n3_ := Aside0.mk (Kd.R_below (by (with_reducible repeat (first | apply Kd.R_alloc | apply Kd.R_drewN | apply Kd.R_drew)); exact HO401.out) hb); have n4_ := Aside0.mk (below_step (by repeat (first | (with_reducible first | exact HB.out | apply below_alloc | apply pw_below_drewN | apply below_drew1) | exact HB.out)) hb); clear HO388; clear HO393; clear HO396; clear HO401; clear HB; have HO388 := n0_; have HO393 := n1_; have HO396 := n2_; have HO401 := n3_; have HB := n4_; clear n0_ n1_ n2_ n3_ n4_; (try clear hb); (try clear hb2); (try clear hk); (try clear hi)) | ((with_reducible refine gate_callee (f := 30) rfl ?_); refine goesL_ (some 80) rfl rfl Tryz.func30 (by kernel_rfl) rfl #[.slice A0 l0.length c0] rfl (by (try simp only [List.map_toArray, List.map_cons, List.map_nil]); first | done | rfl | (simp only [List.length_drop, List.length_take]; rfl)) ?_; (with_reducible refine (customhouseref02_Root.calls kj9 _ _ l0 t403 _ ?side1 ?side2 A29.out).mono ?_); (case side1 => repeat (first | exact (Kd.C_below HR0.out HB.out) | (with_reducible refine Kd.C_alloc ?_ _) | (with_reducible refine Kd.C_drewN ?_ _) | (with_reducible refine Kd.C_drew ?_))); (case side2 => exact HC0.out); rintro e w37 ⟨rfl, hb⟩; refine ⟨_, rfl, ?_⟩; have n0_ := Aside0.mk (Kd.R_below (by (with_reducible repeat (first | apply Kd.R_alloc | apply Kd.R_drewN | apply Kd.R_drew)); exact HO388.out) hb); have n1_ := Aside0.mk (Kd.R_below (by (with_reducible repeat (first | apply Kd.R_alloc | apply Kd.R_drewN | apply Kd.R_drew)); exact HO393.out) hb); have n2_ := Aside0.mk (Kd.R_below (by (with_reducible repeat (first | apply Kd.R_alloc | apply Kd.R_drewN | apply Kd.R_drew)); exact HO396.out) hb); have n3_ := Aside0.mk (Kd.R_below (by (with_reducible repeat (first | apply Kd.R_alloc | apply Kd.R_drewN | apply Kd.R_drew)); exact HO401.out) hb); have n4_ := Aside0.mk (below_step (by repeat (first | (with_reducible first | exact HB.out | apply below_alloc | apply pw_below_drewN | apply below_drew1) | exact HB.out)) hb); clear HO388; clear HO393; clear HO396; clear HO401; clear HB; have HO388 := n0_; have HO393 := n1_; have HO396 := n2_; have HO401 := n3_; have HB := n4_; clear n0_ n1_ n2_ n3_ n4_; (try clear hb); (try clear hb2); (try clear hk); (try clear hi); obtain ⟨Ao38, co38, eo38⟩ := Kd.R_slice HO388.out; subst eo38; obtain ⟨Ao39, co39, eo39⟩ := Kd.R_slice HO393.out; subst eo39) | (go_at_call 31; (with_reducible refine (customhouseref01_Same.calls kj9 _ _ t386 _ _ t390 true _ ?side1 ?side2 ?side3 ?side4 A32.out).mono ?_); (case side1 => repeat (first | exact (Kd.R_reads' HO388.out).2.2 | (with_reducible refine Kd.C_alloc ?_ _) | (with_reducible refine Kd.C_drewN ?_ _) | (with_reducible refine Kd.C_drew ?_))); (case side2 => exact (Kd.R_reads' HO388.out).2.1); (case side3 => repeat (first | exact (Kd.R_reads' HO393.out).2.2 | (with_reducible refine Kd.C_alloc ?_ _) | (with_reducible refine Kd.C_drewN ?_ _) | (with_reducible refine Kd.C_drew ?_))); (case side4 => exact (Kd.R_reads' HO393.out).2.1); rintro e w' ⟨rfl, ⟨nd, rfl⟩⟩; obtain ⟨Ao40, co40, eo40⟩ := Kd.R_slice HO396.out; subst eo40; obtain ⟨Ao41, co41, eo41⟩ := Kd.R_slice HO401.out; subst eo41) | (go_at_call 31; (with_reducible refine (customhouseref01_Same.calls kj9 _ _ t394 _ _ t398 t405 _ ?side1 ?side2 ?side3 ?side4 A35.out).mono ?_); (case side1 => repeat (first | exact (Kd.R_reads' HO396.out).2.2 | (with_reducible refine Kd.C_alloc ?_ _) | (with_reducible refine Kd.C_drewN ?_ _) | (with_reducible refine Kd.C_drew ?_))); (case side2 => exact (Kd.R_reads' HO396.out).2.1); (case side3 => repeat (first | exact (Kd.R_reads' HO401.out).2.2 | (with_reducible refine Kd.C_alloc ?_ _) | (with_reducible refine Kd.C_drewN ?_ _) | (with_reducible refine Kd.C_drew ?_))); (case side4 => exact (Kd.R_reads' HO401.out).2.1); rintro e w' ⟨rfl, ⟨nd, rfl⟩⟩))
                  go_meet
                  case rel => exact ⟨_, (t405), (by first | rfl | (simp; done) | (simp [*]; done)), H', ⟨by have := HJ9.out; first | omega | exact Nat.le_refl _⟩, ⟨by repeat (first | (with_reducible first | exact HB.out | apply below_alloc | apply pw_below_drewN | apply below_drew1) | exact HB.out)⟩⟩
                · rw [if_neg c34] at H
                  have c34b0 : (t397 == t399) = false := beq_eq_false_iff_ne.mpr c34
                  have c34b1 : (t397 != t399) = true := bne_iff_ne.mpr c34
                  have H' := Aside0.mk H
                  clear H
                  go_wp2_with (first | ((with_reducible refine gate_callee (f := 29) rfl ?_); refine goesL_ (some 78) rfl rfl Tryz.func29 (by kernel_rfl) rfl #[.slice A0 l0.length c0] rfl (by (try simp only [List.map_toArray, List.map_cons, List.map_nil]); first | done | rfl | (simp only [List.length_drop, List.length_take]; rfl)) ?_; (with_reducible refine (tree_Root.calls kj9 _ _ l0 t402 _ ?side3 ?side1 ?side2 A28.out).mono ?_); (case side1 => repeat (first | exact (Kd.C_below HR0.out HB.out) | (with_reducible refine Kd.C_alloc ?_ _) | (with_reducible refine Kd.C_drewN ?_ _) | (with_reducible refine Kd.C_drew ?_))); (case side2 => exact HC0.out); (case side3 => exact GL.below HG.out (by repeat (first | (with_reducible first | exact HB.out | apply below_alloc | apply pw_below_drewN | apply below_drew1) | exact HB.out))); rintro e w42 ⟨rfl, hb⟩; refine ⟨_, rfl, ?_⟩; have n0_ := Aside0.mk (Kd.R_below (by (with_reducible repeat (first | apply Kd.R_alloc | apply Kd.R_drewN | apply Kd.R_drew)); exact HO388.out) hb); have n1_ := Aside0.mk (Kd.R_below (by (with_reducible repeat (first | apply Kd.R_alloc | apply Kd.R_drewN | apply Kd.R_drew)); exact HO393.out) hb); have n2_ := Aside0.mk (Kd.R_below (by (with_reducible repeat (first | apply Kd.R_alloc | apply Kd.R_drewN | apply Kd.R_drew)); exact HO396.out) hb); have n3_ := Aside0.mk (Kd.R_below (by (with_reducible repeat (first | apply Kd.R_alloc | apply Kd.R_drewN | apply Kd.R_drew)); exact HO401.out) hb); have n4_ := Aside0.mk (below_step (by repeat (first | (with_reducible first | exact HB.out | apply below_alloc | apply pw_below_drewN | apply below_drew1) | exact HB.out)) hb); clear HO388; clear HO393; clear HO396; clear HO401; clear HB; have HO388 := n0_; have HO393 := n1_; have HO396 := n2_; have HO401 := n3_; have HB := n4_; clear n0_ n1_ n2_ n3_ n4_; (try clear hb); (try clear hb2); (try clear hk); (try clear hi)) | ((with_reducible refine gate_callee (f := 30) rfl ?_); refine goesL_ (some 80) rfl rfl Tryz.func30 (by kernel_rfl) rfl #[.slice A0 l0.length c0] rfl (by (try simp only [List.map_toArray, List.map_cons, List.map_nil]); first | done | rfl | (simp only [List.length_drop, List.length_take]; rfl)) ?_; (with_reducible refine (customhouseref02_Root.calls kj9 _ _ l0 t403 _ ?side1 ?side2 A29.out).mono ?_); (case side1 => repeat (first | exact (Kd.C_below HR0.out HB.out) | (with_reducible refine Kd.C_alloc ?_ _) | (with_reducible refine Kd.C_drewN ?_ _) | (with_reducible refine Kd.C_drew ?_))); (case side2 => exact HC0.out); rintro e w43 ⟨rfl, hb⟩; refine ⟨_, rfl, ?_⟩; have n0_ := Aside0.mk (Kd.R_below (by (with_reducible repeat (first | apply Kd.R_alloc | apply Kd.R_drewN | apply Kd.R_drew)); exact HO388.out) hb); have n1_ := Aside0.mk (Kd.R_below (by (with_reducible repeat (first | apply Kd.R_alloc | apply Kd.R_drewN | apply Kd.R_drew)); exact HO393.out) hb); have n2_ := Aside0.mk (Kd.R_below (by (with_reducible repeat (first | apply Kd.R_alloc | apply Kd.R_drewN | apply Kd.R_drew)); exact HO396.out) hb); have n3_ := Aside0.mk (Kd.R_below (by (with_reducible repeat (first | apply Kd.R_alloc | apply Kd.R_drewN | apply Kd.R_drew)); exact HO401.out) hb); have n4_ := Aside0.mk (below_step (by repeat (first | (with_reducible first | exact HB.out | apply below_alloc | apply pw_below_drewN | apply below_drew1) | exact HB.out)) hb); clear HO388; clear HO393; clear HO396; clear HO401; clear HB; have HO388 := n0_; have HO393 := n1_; have HO396 := n2_; have HO401 := n3_; have HB := n4_; clear n0_ n1_ n2_ n3_ n4_; (try clear hb); (try clear hb2); (try clear hk); (try clear hi); obtain ⟨Ao44, co44, eo44⟩ := Kd.R_slice HO388.out; subst eo44; obtain ⟨Ao45, co45, eo45⟩ := Kd.R_slice HO393.out; subst eo45) | (go_at_call 31; (with_reducible refine (customhouseref01_Same.calls kj9 _ _ t386 _ _ t390 true _ ?side1 ?side2 ?side3 ?side4 A32.out).mono ?_); (case side1 => repeat (first | exact (Kd.R_reads' HO388.out).2.2 | (with_reducible refine Kd.C_alloc ?_ _) | (with_reducible refine Kd.C_drewN ?_ _) | (with_reducible refine Kd.C_drew ?_))); (case side2 => exact (Kd.R_reads' HO388.out).2.1); (case side3 => repeat (first | exact (Kd.R_reads' HO393.out).2.2 | (with_reducible refine Kd.C_alloc ?_ _) | (with_reducible refine Kd.C_drewN ?_ _) | (with_reducible refine Kd.C_drew ?_))); (case side4 => exact (Kd.R_reads' HO393.out).2.1); rintro e w' ⟨rfl, ⟨nd, rfl⟩⟩))
                  go_meet
                  case rel => exact ⟨_, (false), (by first | rfl | (simp; done) | (simp [*]; done)), H', ⟨by have := HJ9.out; first | omega | exact Nat.le_refl _⟩, ⟨by repeat (first | (with_reducible first | exact HB.out | apply below_alloc | apply pw_below_drewN | apply below_drew1) | exact HB.out)⟩⟩
              · replace c33 := Bool.eq_false_iff.mpr c33
                subst c33
                have H1 : (customhouselaw02_TreeMatchesReference.j1 kj9 l0 a1 a2 a3 a4 a5 a6 l7 t383 false) = some r := by rw [if_neg (show ¬ (false = true) by decide)] at H; exact H
                clear H
                have H := H1
                clear H1
                have H' := Aside0.mk H
                clear H
                go_wp2_with (first | ((with_reducible refine gate_callee (f := 29) rfl ?_); refine goesL_ (some 78) rfl rfl Tryz.func29 (by kernel_rfl) rfl #[.slice A0 l0.length c0] rfl (by (try simp only [List.map_toArray, List.map_cons, List.map_nil]); first | done | rfl | (simp only [List.length_drop, List.length_take]; rfl)) ?_; (with_reducible refine (tree_Root.calls kj9 _ _ l0 t402 _ ?side3 ?side1 ?side2 A28.out).mono ?_); (case side1 => repeat (first | exact (Kd.C_below HR0.out HB.out) | (with_reducible refine Kd.C_alloc ?_ _) | (with_reducible refine Kd.C_drewN ?_ _) | (with_reducible refine Kd.C_drew ?_))); (case side2 => exact HC0.out); (case side3 => exact GL.below HG.out (by repeat (first | (with_reducible first | exact HB.out | apply below_alloc | apply pw_below_drewN | apply below_drew1) | exact HB.out))); rintro e w46 ⟨rfl, hb⟩; refine ⟨_, rfl, ?_⟩; have n0_ := Aside0.mk (Kd.R_below (by (with_reducible repeat (first | apply Kd.R_alloc | apply Kd.R_drewN | apply Kd.R_drew)); exact HO388.out) hb); have n1_ := Aside0.mk (Kd.R_below (by (with_reducible repeat (first | apply Kd.R_alloc | apply Kd.R_drewN | apply Kd.R_drew)); exact HO393.out) hb); have n2_ := Aside0.mk (Kd.R_below (by (with_reducible repeat (first | apply Kd.R_alloc | apply Kd.R_drewN | apply Kd.R_drew)); exact HO396.out) hb); have n3_ := Aside0.mk (Kd.R_below (by (with_reducible repeat (first | apply Kd.R_alloc | apply Kd.R_drewN | apply Kd.R_drew)); exact HO401.out) hb); have n4_ := Aside0.mk (below_step (by repeat (first | (with_reducible first | exact HB.out | apply below_alloc | apply pw_below_drewN | apply below_drew1) | exact HB.out)) hb); clear HO388; clear HO393; clear HO396; clear HO401; clear HB; have HO388 := n0_; have HO393 := n1_; have HO396 := n2_; have HO401 := n3_; have HB := n4_; clear n0_ n1_ n2_ n3_ n4_; (try clear hb); (try clear hb2); (try clear hk); (try clear hi)) | ((with_reducible refine gate_callee (f := 30) rfl ?_); refine goesL_ (some 80) rfl rfl Tryz.func30 (by kernel_rfl) rfl #[.slice A0 l0.length c0] rfl (by (try simp only [List.map_toArray, List.map_cons, List.map_nil]); first | done | rfl | (simp only [List.length_drop, List.length_take]; rfl)) ?_; (with_reducible refine (customhouseref02_Root.calls kj9 _ _ l0 t403 _ ?side1 ?side2 A29.out).mono ?_); (case side1 => repeat (first | exact (Kd.C_below HR0.out HB.out) | (with_reducible refine Kd.C_alloc ?_ _) | (with_reducible refine Kd.C_drewN ?_ _) | (with_reducible refine Kd.C_drew ?_))); (case side2 => exact HC0.out); rintro e w47 ⟨rfl, hb⟩; refine ⟨_, rfl, ?_⟩; have n0_ := Aside0.mk (Kd.R_below (by (with_reducible repeat (first | apply Kd.R_alloc | apply Kd.R_drewN | apply Kd.R_drew)); exact HO388.out) hb); have n1_ := Aside0.mk (Kd.R_below (by (with_reducible repeat (first | apply Kd.R_alloc | apply Kd.R_drewN | apply Kd.R_drew)); exact HO393.out) hb); have n2_ := Aside0.mk (Kd.R_below (by (with_reducible repeat (first | apply Kd.R_alloc | apply Kd.R_drewN | apply Kd.R_drew)); exact HO396.out) hb); have n3_ := Aside0.mk (Kd.R_below (by (with_reducible repeat (first | apply Kd.R_alloc | apply Kd.R_drewN | apply Kd.R_drew)); exact HO401.out) hb); have n4_ := Aside0.mk (below_step (by repeat (first | (with_reducible first | exact HB.out | apply below_alloc | apply pw_below_drewN | apply below_drew1) | exact HB.out)) hb); clear HO388; clear HO393; clear HO396; clear HO401; clear HB; have HO388 := n0_; have HO393 := n1_; have HO396 := n2_; have HO401 := n3_; have HB := n4_; clear n0_ n1_ n2_ n3_ n4_; (try clear hb); (try clear hb2); (try clear hk); (try clear hi); obtain ⟨Ao48, co48, eo48⟩ := Kd.R_slice HO388.out; subst eo48; obtain ⟨Ao49, co49, eo49⟩ := Kd.R_slice HO393.out; subst eo49) | (go_at_call 31; (with_reducible refine (customhouseref01_Same.calls kj9 _ _ t386 _ _ t390 false _ ?side1 ?side2 ?side3 ?side4 A32.out).mono ?_); (case side1 => repeat (first | exact (Kd.R_reads' HO388.out).2.2 | (with_reducible refine Kd.C_alloc ?_ _) | (with_reducible refine Kd.C_drewN ?_ _) | (with_reducible refine Kd.C_drew ?_))); (case side2 => exact (Kd.R_reads' HO388.out).2.1); (case side3 => repeat (first | exact (Kd.R_reads' HO393.out).2.2 | (with_reducible refine Kd.C_alloc ?_ _) | (with_reducible refine Kd.C_drewN ?_ _) | (with_reducible refine Kd.C_drew ?_))); (case side4 => exact (Kd.R_reads' HO393.out).2.1); rintro e w' ⟨rfl, ⟨nd, rfl⟩⟩))
                go_meet
                case rel => exact ⟨_, (false), (by first | rfl | (simp; done) | (simp [*]; done)), H', ⟨by have := HJ9.out; first | omega | exact Nat.le_refl _⟩, ⟨by repeat (first | (with_reducible first | exact HB.out | apply below_alloc | apply pw_below_drewN | apply below_drew1) | exact HB.out)⟩⟩
            · rw [if_neg c31] at H
              have c31b0 : (t389 == t391) = false := beq_eq_false_iff_ne.mpr c31
              have c31b1 : (t389 != t391) = true := bne_iff_ne.mpr c31
              have H' := Aside0.mk H
              clear H
              go_wp2_with (first | ((with_reducible refine gate_callee (f := 29) rfl ?_); refine goesL_ (some 78) rfl rfl Tryz.func29 (by kernel_rfl) rfl #[.slice A0 l0.length c0] rfl (by (try simp only [List.map_toArray, List.map_cons, List.map_nil]); first | done | rfl | (simp only [List.length_drop, List.length_take]; rfl)) ?_; (with_reducible refine (tree_Root.calls kj9 _ _ l0 t402 _ ?side3 ?side1 ?side2 A28.out).mono ?_); (case side1 => repeat (first | exact (Kd.C_below HR0.out HB.out) | (with_reducible refine Kd.C_alloc ?_ _) | (with_reducible refine Kd.C_drewN ?_ _) | (with_reducible refine Kd.C_drew ?_))); (case side2 => exact HC0.out); (case side3 => exact GL.below HG.out (by repeat (first | (with_reducible first | exact HB.out | apply below_alloc | apply pw_below_drewN | apply below_drew1) | exact HB.out))); rintro e w50 ⟨rfl, hb⟩; refine ⟨_, rfl, ?_⟩; have n0_ := Aside0.mk (Kd.R_below (by (with_reducible repeat (first | apply Kd.R_alloc | apply Kd.R_drewN | apply Kd.R_drew)); exact HO388.out) hb); have n1_ := Aside0.mk (Kd.R_below (by (with_reducible repeat (first | apply Kd.R_alloc | apply Kd.R_drewN | apply Kd.R_drew)); exact HO393.out) hb); have n2_ := Aside0.mk (Kd.R_below (by (with_reducible repeat (first | apply Kd.R_alloc | apply Kd.R_drewN | apply Kd.R_drew)); exact HO396.out) hb); have n3_ := Aside0.mk (Kd.R_below (by (with_reducible repeat (first | apply Kd.R_alloc | apply Kd.R_drewN | apply Kd.R_drew)); exact HO401.out) hb); have n4_ := Aside0.mk (below_step (by repeat (first | (with_reducible first | exact HB.out | apply below_alloc | apply pw_below_drewN | apply below_drew1) | exact HB.out)) hb); clear HO388; clear HO393; clear HO396; clear HO401; clear HB; have HO388 := n0_; have HO393 := n1_; have HO396 := n2_; have HO401 := n3_; have HB := n4_; clear n0_ n1_ n2_ n3_ n4_; (try clear hb); (try clear hb2); (try clear hk); (try clear hi)) | ((with_reducible refine gate_callee (f := 30) rfl ?_); refine goesL_ (some 80) rfl rfl Tryz.func30 (by kernel_rfl) rfl #[.slice A0 l0.length c0] rfl (by (try simp only [List.map_toArray, List.map_cons, List.map_nil]); first | done | rfl | (simp only [List.length_drop, List.length_take]; rfl)) ?_; (with_reducible refine (customhouseref02_Root.calls kj9 _ _ l0 t403 _ ?side1 ?side2 A29.out).mono ?_); (case side1 => repeat (first | exact (Kd.C_below HR0.out HB.out) | (with_reducible refine Kd.C_alloc ?_ _) | (with_reducible refine Kd.C_drewN ?_ _) | (with_reducible refine Kd.C_drew ?_))); (case side2 => exact HC0.out); rintro e w51 ⟨rfl, hb⟩; refine ⟨_, rfl, ?_⟩; have n0_ := Aside0.mk (Kd.R_below (by (with_reducible repeat (first | apply Kd.R_alloc | apply Kd.R_drewN | apply Kd.R_drew)); exact HO388.out) hb); have n1_ := Aside0.mk (Kd.R_below (by (with_reducible repeat (first | apply Kd.R_alloc | apply Kd.R_drewN | apply Kd.R_drew)); exact HO393.out) hb); have n2_ := Aside0.mk (Kd.R_below (by (with_reducible repeat (first | apply Kd.R_alloc | apply Kd.R_drewN | apply Kd.R_drew)); exact HO396.out) hb); have n3_ := Aside0.mk (Kd.R_below (by (with_reducible repeat (first | apply Kd.R_alloc | apply Kd.R_drewN | apply Kd.R_drew)); exact HO401.out) hb); have n4_ := Aside0.mk (below_step (by repeat (first | (with_reducible first | exact HB.out | apply below_alloc | apply pw_below_drewN | apply below_drew1) | exact HB.out)) hb); clear HO388; clear HO393; clear HO396; clear HO401; clear HB; have HO388 := n0_; have HO393 := n1_; have HO396 := n2_; have HO401 := n3_; have HB := n4_; clear n0_ n1_ n2_ n3_ n4_; (try clear hb); (try clear hb2); (try clear hk); (try clear hi)))
              go_meet
              case rel => exact ⟨_, (false), (by first | rfl | (simp; done) | (simp [*]; done)), H', ⟨by have := HJ9.out; first | omega | exact Nat.le_refl _⟩, ⟨by repeat (first | (with_reducible first | exact HB.out | apply below_alloc | apply pw_below_drewN | apply below_drew1) | exact HB.out)⟩⟩
          · rw [if_neg c30] at H
            have c30b0 : (t402.toList == t403.toList) = false := beq_eq_false_iff_ne.mpr c30
            have c30b1 : (t402.toList != t403.toList) = true := bne_iff_ne.mpr c30
            (first | rw [c30b0] | (simp only [i64_w, i32_w]; rw [c30b0]) | skip)
            have H' := Aside0.mk H
            clear H
            go_wp2_with (first | ((with_reducible refine gate_callee (f := 29) rfl ?_); refine goesL_ (some 78) rfl rfl Tryz.func29 (by kernel_rfl) rfl #[.slice A0 l0.length c0] rfl (by (try simp only [List.map_toArray, List.map_cons, List.map_nil]); first | done | rfl | (simp only [List.length_drop, List.length_take]; rfl)) ?_; (with_reducible refine (tree_Root.calls kj9 _ _ l0 t402 _ ?side3 ?side1 ?side2 A28.out).mono ?_); (case side1 => repeat (first | exact (Kd.C_below HR0.out HB.out) | (with_reducible refine Kd.C_alloc ?_ _) | (with_reducible refine Kd.C_drewN ?_ _) | (with_reducible refine Kd.C_drew ?_))); (case side2 => exact HC0.out); (case side3 => exact GL.below HG.out (by repeat (first | (with_reducible first | exact HB.out | apply below_alloc | apply pw_below_drewN | apply below_drew1) | exact HB.out))); rintro e w52 ⟨rfl, hb⟩; refine ⟨_, rfl, ?_⟩; have n0_ := Aside0.mk (Kd.R_below (by (with_reducible repeat (first | apply Kd.R_alloc | apply Kd.R_drewN | apply Kd.R_drew)); exact HO388.out) hb); have n1_ := Aside0.mk (Kd.R_below (by (with_reducible repeat (first | apply Kd.R_alloc | apply Kd.R_drewN | apply Kd.R_drew)); exact HO393.out) hb); have n2_ := Aside0.mk (Kd.R_below (by (with_reducible repeat (first | apply Kd.R_alloc | apply Kd.R_drewN | apply Kd.R_drew)); exact HO396.out) hb); have n3_ := Aside0.mk (Kd.R_below (by (with_reducible repeat (first | apply Kd.R_alloc | apply Kd.R_drewN | apply Kd.R_drew)); exact HO401.out) hb); have n4_ := Aside0.mk (below_step (by repeat (first | (with_reducible first | exact HB.out | apply below_alloc | apply pw_below_drewN | apply below_drew1) | exact HB.out)) hb); clear HO388; clear HO393; clear HO396; clear HO401; clear HB; have HO388 := n0_; have HO393 := n1_; have HO396 := n2_; have HO401 := n3_; have HB := n4_; clear n0_ n1_ n2_ n3_ n4_; (try clear hb); (try clear hb2); (try clear hk); (try clear hi)) | ((with_reducible refine gate_callee (f := 30) rfl ?_); refine goesL_ (some 80) rfl rfl Tryz.func30 (by kernel_rfl) rfl #[.slice A0 l0.length c0] rfl (by (try simp only [List.map_toArray, List.map_cons, List.map_nil]); first | done | rfl | (simp only [List.length_drop, List.length_take]; rfl)) ?_; (with_reducible refine (customhouseref02_Root.calls kj9 _ _ l0 t403 _ ?side1 ?side2 A29.out).mono ?_); (case side1 => repeat (first | exact (Kd.C_below HR0.out HB.out) | (with_reducible refine Kd.C_alloc ?_ _) | (with_reducible refine Kd.C_drewN ?_ _) | (with_reducible refine Kd.C_drew ?_))); (case side2 => exact HC0.out); rintro e w53 ⟨rfl, hb⟩; refine ⟨_, rfl, ?_⟩; have n0_ := Aside0.mk (Kd.R_below (by (with_reducible repeat (first | apply Kd.R_alloc | apply Kd.R_drewN | apply Kd.R_drew)); exact HO388.out) hb); have n1_ := Aside0.mk (Kd.R_below (by (with_reducible repeat (first | apply Kd.R_alloc | apply Kd.R_drewN | apply Kd.R_drew)); exact HO393.out) hb); have n2_ := Aside0.mk (Kd.R_below (by (with_reducible repeat (first | apply Kd.R_alloc | apply Kd.R_drewN | apply Kd.R_drew)); exact HO396.out) hb); have n3_ := Aside0.mk (Kd.R_below (by (with_reducible repeat (first | apply Kd.R_alloc | apply Kd.R_drewN | apply Kd.R_drew)); exact HO401.out) hb); have n4_ := Aside0.mk (below_step (by repeat (first | (with_reducible first | exact HB.out | apply below_alloc | apply pw_below_drewN | apply below_drew1) | exact HB.out)) hb); clear HO388; clear HO393; clear HO396; clear HO401; clear HB; have HO388 := n0_; have HO393 := n1_; have HO396 := n2_; have HO401 := n3_; have HB := n4_; clear n0_ n1_ n2_ n3_ n4_; (try clear hb); (try clear hb2); (try clear hk); (try clear hi)))
            go_meet
            case rel => exact ⟨_, (false), (by first | rfl | (simp; done) | (simp [*]; done)), H', ⟨by have := HJ9.out; first | omega | exact Nat.le_refl _⟩, ⟨by repeat (first | (with_reducible first | exact HB.out | apply below_alloc | apply pw_below_drewN | apply below_drew1) | exact HB.out)⟩⟩
        case rest =>
          clear HC23
          try clear c1
          try clear c2
          try clear p2
          try clear c3
          try clear c4
          try clear c7
          try clear c13
          try clear c15
          try clear c16
          try clear c16b0
          try clear c16b1
          try clear c17
          try clear c17b0
          try clear c17b1
          try clear c18
          try clear c23
          try clear c24
          try clear c25
          try clear c26
          try clear c27
          try clear c28
          try clear c29
          try clear c30
          try clear c30b0
          try clear c30b1
          try clear c31
          try clear c31b0
          try clear c31b1
          try clear c33
          try clear c34
          try clear c34b0
          try clear c34b1
          try clear p2
          obtain ⟨kq, x26_22, rfl, HA, HJ22, HB⟩ := hcut
          cases kq with
          | zero => exact absurd HA.out (by simp [customhouselaw02_TreeMatchesReference.j1])
          | succ kj22 =>
            have H := HA.out
            clear HA
            simp only [customhouselaw02_TreeMatchesReference.j1] at H
            have HC54 := Aside0.mk H
            clear H
            go_upto_region 9 with (fail)
            go_cut [27] (fun v27 wc => ∃ (kq : Nat) (x27_53 : Bool), v27 = .bool x27_53 ∧ Aside0 (customhouselaw02_TreeMatchesReference.j2 kq l0 a2 a3 a4 a5 l7 t383 x26_22 x27_53 = some r) ∧ Aside0 (kq ≤ kj22) ∧ Aside0 (Below w.heap.size w wc))
            case first =>
              have H := HC54.out
              clear HC54
              replace H := Option.bind_eq_some_iff.mp H
              obtain ⟨t406, A550, H⟩ := H
              replace H : ((customhouseref02_Check.f kj22 a4 a3 a1 a6 l7).bind fun t407 => (if (t406 == t407) = true then ((tree_Root.f kj22 l0).bind fun t408 => ((tree_Check.f t408 (l0.length : Int) a1 a6 l7).bind fun t409 => ((customhouseref02_Root.f kj22 l0).bind fun t410 => ((customhouseref02_Check.f kj22 t410 (l0.length : Int) a1 a6 l7).bind fun t411 => (customhouselaw02_TreeMatchesReference.j2 kj22 l0 a2 a3 a4 a5 l7 t383 x26_22 (t409 == t411)))))) else (customhouselaw02_TreeMatchesReference.j2 kj22 l0 a2 a3 a4 a5 l7 t383 x26_22 false))) = some r := H
              have A55 := Aside0.mk A550
              clear A550
              replace H := Option.bind_eq_some_iff.mp H
              obtain ⟨t407, A560, H⟩ := H
              replace H : (if (t406 == t407) = true then ((tree_Root.f kj22 l0).bind fun t408 => ((tree_Check.f t408 (l0.length : Int) a1 a6 l7).bind fun t409 => ((customhouseref02_Root.f kj22 l0).bind fun t410 => ((customhouseref02_Check.f kj22 t410 (l0.length : Int) a1 a6 l7).bind fun t411 => (customhouselaw02_TreeMatchesReference.j2 kj22 l0 a2 a3 a4 a5 l7 t383 x26_22 (t409 == t411)))))) else (customhouselaw02_TreeMatchesReference.j2 kj22 l0 a2 a3 a4 a5 l7 t383 x26_22 false)) = some r := H
              have A56 := Aside0.mk A560
              clear A560
              by_cases c57 : (t406 == t407) = true
              · rw [if_pos c57] at H
                have c57b0 : (t406 == t407) = true := c57
                (try (have c57b1 : decide (t406 = t407) = true := by simpa using c57))
                (try (have c57b2 : (t406 == t407) = true := by simpa using c57))
                clear c57
                (first | rw [c57b0] | (simp only [i64_w, i32_w]; rw [c57b0]) | skip)
                replace H := Option.bind_eq_some_iff.mp H
                obtain ⟨t408, A580, H⟩ := H
                replace H : ((tree_Check.f t408 (l0.length : Int) a1 a6 l7).bind fun t409 => ((customhouseref02_Root.f kj22 l0).bind fun t410 => ((customhouseref02_Check.f kj22 t410 (l0.length : Int) a1 a6 l7).bind fun t411 => (customhouselaw02_TreeMatchesReference.j2 kj22 l0 a2 a3 a4 a5 l7 t383 x26_22 (t409 == t411))))) = some r := H
                have A58 := Aside0.mk A580
                clear A580
                replace H := Option.bind_eq_some_iff.mp H
                obtain ⟨t409, A590, H⟩ := H
                replace H : ((customhouseref02_Root.f kj22 l0).bind fun t410 => ((customhouseref02_Check.f kj22 t410 (l0.length : Int) a1 a6 l7).bind fun t411 => (customhouselaw02_TreeMatchesReference.j2 kj22 l0 a2 a3 a4 a5 l7 t383 x26_22 (t409 == t411)))) = some r := H
                have A59 := Aside0.mk A590
                clear A590
                replace H := Option.bind_eq_some_iff.mp H
                obtain ⟨t410, A600, H⟩ := H
                replace H : ((customhouseref02_Check.f kj22 t410 (l0.length : Int) a1 a6 l7).bind fun t411 => (customhouselaw02_TreeMatchesReference.j2 kj22 l0 a2 a3 a4 a5 l7 t383 x26_22 (t409 == t411))) = some r := H
                have A60 := Aside0.mk A600
                clear A600
                replace H := Option.bind_eq_some_iff.mp H
                obtain ⟨t411, A610, H⟩ := H
                replace H : (customhouselaw02_TreeMatchesReference.j2 kj22 l0 a2 a3 a4 a5 l7 t383 x26_22 (t409 == t411)) = some r := H
                have A61 := Aside0.mk A610
                clear A610
                have H' := Aside0.mk H
                clear H
                go_wp2_with (first | ((with_reducible refine gate_callee (f := 32) rfl ?_); refine goesL_ (some 107) rfl rfl Tryz.func32 (by kernel_rfl) rfl #[.string a4, .int .i64 a3, .int .i64 a1, .string a6, .slice A7 l7.length c7] rfl (by (try simp only [List.map_toArray, List.map_cons, List.map_nil]); first | done | rfl | (simp only [List.length_drop, List.length_take]; rfl)) ?_; (with_reducible refine (tree_Check.calls a4 a3 a1 a6 _ _ l7 t406 _ ?side3 ?side1 ?side2 A55.out).mono ?_); (case side1 => repeat (first | exact (Kd.C_below HR7.out HB.out) | (with_reducible refine Kd.C_alloc ?_ _) | (with_reducible refine Kd.C_drewN ?_ _) | (with_reducible refine Kd.C_drew ?_))); (case side2 => exact HC7.out); (case side3 => exact GL.below HG.out (by repeat (first | (with_reducible first | exact HB.out | apply below_alloc | apply pw_below_drewN | apply below_drew1) | exact HB.out))); rintro e w62 ⟨rfl, hb⟩; refine ⟨_, rfl, ?_⟩; have n0_ := Aside0.mk (below_step (by repeat (first | (with_reducible first | exact HB.out | apply below_alloc | apply pw_below_drewN | apply below_drew1) | exact HB.out)) hb); clear HB; have HB := n0_; clear n0_; (try clear hb); (try clear hb2); (try clear hk); (try clear hi)) | ((with_reducible refine gate_callee (f := 33) rfl ?_); refine goesL_ (some 113) rfl rfl Tryz.func33 (by kernel_rfl) rfl #[.string a4, .int .i64 a3, .int .i64 a1, .string a6, .slice A7 l7.length c7] rfl (by (try simp only [List.map_toArray, List.map_cons, List.map_nil]); first | done | rfl | (simp only [List.length_drop, List.length_take]; rfl)) ?_; (with_reducible refine (customhouseref02_Check.calls kj22 a4 a3 a1 a6 _ _ l7 t407 _ ?side1 ?side2 A56.out).mono ?_); (case side1 => repeat (first | exact (Kd.C_below HR7.out HB.out) | (with_reducible refine Kd.C_alloc ?_ _) | (with_reducible refine Kd.C_drewN ?_ _) | (with_reducible refine Kd.C_drew ?_))); (case side2 => exact HC7.out); rintro e w63 ⟨rfl, hb⟩; refine ⟨_, rfl, ?_⟩; have n0_ := Aside0.mk (below_step (by repeat (first | (with_reducible first | exact HB.out | apply below_alloc | apply pw_below_drewN | apply below_drew1) | exact HB.out)) hb); clear HB; have HB := n0_; clear n0_; (try clear hb); (try clear hb2); (try clear hk); (try clear hi)) | (go_at_call 29; (with_reducible refine (tree_Root.calls kj22 _ _ l0 t408 _ ?side3 ?side1 ?side2 A58.out).mono ?_); (case side1 => repeat (first | exact (Kd.C_below HR0.out HB.out) | (with_reducible refine Kd.C_alloc ?_ _) | (with_reducible refine Kd.C_drewN ?_ _) | (with_reducible refine Kd.C_drew ?_))); (case side2 => exact HC0.out); (case side3 => exact GL.below HG.out (by repeat (first | (with_reducible first | exact HB.out | apply below_alloc | apply pw_below_drewN | apply below_drew1) | exact HB.out))); rintro e w64 ⟨rfl, hb⟩; have n0_ := Aside0.mk (below_step (by repeat (first | (with_reducible first | exact HB.out | apply below_alloc | apply pw_below_drewN | apply below_drew1) | exact HB.out)) hb); clear HB; have HB := n0_; clear n0_; (try clear hb); (try clear hb2); (try clear hk); (try clear hi)) | (go_at_call 32; (with_reducible refine (tree_Check.calls t408 (l0.length : Int) a1 a6 _ _ l7 t409 _ ?side3 ?side1 ?side2 A59.out).mono ?_); (case side1 => repeat (first | exact (Kd.C_below HR7.out HB.out) | (with_reducible refine Kd.C_alloc ?_ _) | (with_reducible refine Kd.C_drewN ?_ _) | (with_reducible refine Kd.C_drew ?_))); (case side2 => exact HC7.out); (case side3 => exact GL.below HG.out (by repeat (first | (with_reducible first | exact HB.out | apply below_alloc | apply pw_below_drewN | apply below_drew1) | exact HB.out))); rintro e w65 ⟨rfl, hb⟩; have n0_ := Aside0.mk (below_step (by repeat (first | (with_reducible first | exact HB.out | apply below_alloc | apply pw_below_drewN | apply below_drew1) | exact HB.out)) hb); clear HB; have HB := n0_; clear n0_; (try clear hb); (try clear hb2); (try clear hk); (try clear hi)) | (go_at_call 30; (with_reducible refine (customhouseref02_Root.calls kj22 _ _ l0 t410 _ ?side1 ?side2 A60.out).mono ?_); (case side1 => repeat (first | exact (Kd.C_below HR0.out HB.out) | (with_reducible refine Kd.C_alloc ?_ _) | (with_reducible refine Kd.C_drewN ?_ _) | (with_reducible refine Kd.C_drew ?_))); (case side2 => exact HC0.out); rintro e w66 ⟨rfl, hb⟩; have n0_ := Aside0.mk (below_step (by repeat (first | (with_reducible first | exact HB.out | apply below_alloc | apply pw_below_drewN | apply below_drew1) | exact HB.out)) hb); clear HB; have HB := n0_; clear n0_; (try clear hb); (try clear hb2); (try clear hk); (try clear hi)) | (go_at_call 33; (with_reducible refine (customhouseref02_Check.calls kj22 t410 (l0.length : Int) a1 a6 _ _ l7 t411 _ ?side1 ?side2 A61.out).mono ?_); (case side1 => repeat (first | exact (Kd.C_below HR7.out HB.out) | (with_reducible refine Kd.C_alloc ?_ _) | (with_reducible refine Kd.C_drewN ?_ _) | (with_reducible refine Kd.C_drew ?_))); (case side2 => exact HC7.out); rintro e w67 ⟨rfl, hb⟩; have n0_ := Aside0.mk (below_step (by repeat (first | (with_reducible first | exact HB.out | apply below_alloc | apply pw_below_drewN | apply below_drew1) | exact HB.out)) hb); clear HB; have HB := n0_; clear n0_; (try clear hb); (try clear hb2); (try clear hk); (try clear hi)))
                go_meet
                case rel => exact ⟨_, ((t409 == t411)), (by first | rfl | (simp; done) | (simp [*]; done)), H', ⟨by have := HJ9.out; have := HJ22.out; first | omega | exact Nat.le_refl _⟩, ⟨by repeat (first | (with_reducible first | exact HB.out | apply below_alloc | apply pw_below_drewN | apply below_drew1) | exact HB.out)⟩⟩
              · rw [if_neg c57] at H
                have c57b0 : (t406 == t407) = false := by simpa using c57
                (try (have c57b1 : decide (t406 = t407) = false := by simpa using c57))
                (try (have c57b2 : (t406 == t407) = false := by simpa using c57))
                (try (have c57b3 : ¬ (t406 = t407) := by simpa using c57))
                clear c57
                (first | rw [c57b0] | (simp only [i64_w, i32_w]; rw [c57b0]) | skip)
                have H' := Aside0.mk H
                clear H
                go_wp2_with (first | ((with_reducible refine gate_callee (f := 32) rfl ?_); refine goesL_ (some 107) rfl rfl Tryz.func32 (by kernel_rfl) rfl #[.string a4, .int .i64 a3, .int .i64 a1, .string a6, .slice A7 l7.length c7] rfl (by (try simp only [List.map_toArray, List.map_cons, List.map_nil]); first | done | rfl | (simp only [List.length_drop, List.length_take]; rfl)) ?_; (with_reducible refine (tree_Check.calls a4 a3 a1 a6 _ _ l7 t406 _ ?side3 ?side1 ?side2 A55.out).mono ?_); (case side1 => repeat (first | exact (Kd.C_below HR7.out HB.out) | (with_reducible refine Kd.C_alloc ?_ _) | (with_reducible refine Kd.C_drewN ?_ _) | (with_reducible refine Kd.C_drew ?_))); (case side2 => exact HC7.out); (case side3 => exact GL.below HG.out (by repeat (first | (with_reducible first | exact HB.out | apply below_alloc | apply pw_below_drewN | apply below_drew1) | exact HB.out))); rintro e w68 ⟨rfl, hb⟩; refine ⟨_, rfl, ?_⟩; have n0_ := Aside0.mk (below_step (by repeat (first | (with_reducible first | exact HB.out | apply below_alloc | apply pw_below_drewN | apply below_drew1) | exact HB.out)) hb); clear HB; have HB := n0_; clear n0_; (try clear hb); (try clear hb2); (try clear hk); (try clear hi)) | ((with_reducible refine gate_callee (f := 33) rfl ?_); refine goesL_ (some 113) rfl rfl Tryz.func33 (by kernel_rfl) rfl #[.string a4, .int .i64 a3, .int .i64 a1, .string a6, .slice A7 l7.length c7] rfl (by (try simp only [List.map_toArray, List.map_cons, List.map_nil]); first | done | rfl | (simp only [List.length_drop, List.length_take]; rfl)) ?_; (with_reducible refine (customhouseref02_Check.calls kj22 a4 a3 a1 a6 _ _ l7 t407 _ ?side1 ?side2 A56.out).mono ?_); (case side1 => repeat (first | exact (Kd.C_below HR7.out HB.out) | (with_reducible refine Kd.C_alloc ?_ _) | (with_reducible refine Kd.C_drewN ?_ _) | (with_reducible refine Kd.C_drew ?_))); (case side2 => exact HC7.out); rintro e w69 ⟨rfl, hb⟩; refine ⟨_, rfl, ?_⟩; have n0_ := Aside0.mk (below_step (by repeat (first | (with_reducible first | exact HB.out | apply below_alloc | apply pw_below_drewN | apply below_drew1) | exact HB.out)) hb); clear HB; have HB := n0_; clear n0_; (try clear hb); (try clear hb2); (try clear hk); (try clear hi)))
                go_meet
                case rel => exact ⟨_, (false), (by first | rfl | (simp; done) | (simp [*]; done)), H', ⟨by have := HJ9.out; have := HJ22.out; first | omega | exact Nat.le_refl _⟩, ⟨by repeat (first | (with_reducible first | exact HB.out | apply below_alloc | apply pw_below_drewN | apply below_drew1) | exact HB.out)⟩⟩
            case rest =>
              clear HC54
              try clear c1
              try clear c2
              try clear p2
              try clear c3
              try clear c4
              try clear c5
              try clear c7
              try clear c13
              try clear c15
              try clear c16
              try clear c16b0
              try clear c16b1
              try clear c17
              try clear c17b0
              try clear c17b1
              try clear c18
              try clear c23
              try clear c24
              try clear c25
              try clear c26
              try clear c27
              try clear c28
              try clear c29
              try clear c30
              try clear c30b0
              try clear c30b1
              try clear c31
              try clear c31b0
              try clear c31b1
              try clear c32
              try clear c33
              try clear c34
              try clear c34b0
              try clear c34b1
              try clear c57
              try clear c57b0
              try clear c57b1
              try clear c57b2
              try clear p2
              obtain ⟨kq, x27_53, rfl, HA, HJ53, HB⟩ := hcut
              cases kq with
              | zero => exact absurd HA.out (by simp [customhouselaw02_TreeMatchesReference.j2])
              | succ kj53 =>
                have H := HA.out
                clear HA
                simp only [customhouselaw02_TreeMatchesReference.j2] at H
                by_cases c70 : t383 = true
                · subst c70
                  have H1 : (if x26_22 = true then (if x27_53 = true then ((tree_Extends.f a5 a2 a4 a3 l7).bind fun t412 => ((customhouseref02_Extends.f kj53 a5 a2 a4 a3 l7).bind fun t413 => (if (t412 == t413) = true then ((tree_Root.f kj53 l0).bind fun t414 => ((tree_Extends.f a5 a2 t414 (l0.length : Int) l7).bind fun t415 => ((customhouseref02_Root.f kj53 l0).bind fun t416 => ((customhouseref02_Extends.f kj53 a5 a2 t416 (l0.length : Int) l7).bind fun t417 => (some (t415 == t417)))))) else (some false)))) else (some false)) else (some false)) = some r := by rw [if_pos rfl] at H; exact H
                  clear H
                  have H := H1
                  clear H1
                  by_cases c71 : x26_22 = true
                  · subst c71
                    have H1 : (if x27_53 = true then ((tree_Extends.f a5 a2 a4 a3 l7).bind fun t412 => ((customhouseref02_Extends.f kj53 a5 a2 a4 a3 l7).bind fun t413 => (if (t412 == t413) = true then ((tree_Root.f kj53 l0).bind fun t414 => ((tree_Extends.f a5 a2 t414 (l0.length : Int) l7).bind fun t415 => ((customhouseref02_Root.f kj53 l0).bind fun t416 => ((customhouseref02_Extends.f kj53 a5 a2 t416 (l0.length : Int) l7).bind fun t417 => (some (t415 == t417)))))) else (some false)))) else (some false)) = some r := by rw [if_pos rfl] at H; exact H
                    clear H
                    have H := H1
                    clear H1
                    by_cases c72 : x27_53 = true
                    · subst c72
                      have H1 : ((tree_Extends.f a5 a2 a4 a3 l7).bind fun t412 => ((customhouseref02_Extends.f kj53 a5 a2 a4 a3 l7).bind fun t413 => (if (t412 == t413) = true then ((tree_Root.f kj53 l0).bind fun t414 => ((tree_Extends.f a5 a2 t414 (l0.length : Int) l7).bind fun t415 => ((customhouseref02_Root.f kj53 l0).bind fun t416 => ((customhouseref02_Extends.f kj53 a5 a2 t416 (l0.length : Int) l7).bind fun t417 => (some (t415 == t417)))))) else (some false)))) = some r := by rw [if_pos rfl] at H; exact H
                      clear H
                      have H := H1
                      clear H1
                      replace H := Option.bind_eq_some_iff.mp H
                      obtain ⟨t412, A730, H⟩ := H
                      replace H : ((customhouseref02_Extends.f kj53 a5 a2 a4 a3 l7).bind fun t413 => (if (t412 == t413) = true then ((tree_Root.f kj53 l0).bind fun t414 => ((tree_Extends.f a5 a2 t414 (l0.length : Int) l7).bind fun t415 => ((customhouseref02_Root.f kj53 l0).bind fun t416 => ((customhouseref02_Extends.f kj53 a5 a2 t416 (l0.length : Int) l7).bind fun t417 => (some (t415 == t417)))))) else (some false))) = some r := H
                      have A73 := Aside0.mk A730
                      clear A730
                      replace H := Option.bind_eq_some_iff.mp H
                      obtain ⟨t413, A740, H⟩ := H
                      replace H : (if (t412 == t413) = true then ((tree_Root.f kj53 l0).bind fun t414 => ((tree_Extends.f a5 a2 t414 (l0.length : Int) l7).bind fun t415 => ((customhouseref02_Root.f kj53 l0).bind fun t416 => ((customhouseref02_Extends.f kj53 a5 a2 t416 (l0.length : Int) l7).bind fun t417 => (some (t415 == t417)))))) else (some false)) = some r := H
                      have A74 := Aside0.mk A740
                      clear A740
                      by_cases c75 : (t412 == t413) = true
                      · rw [if_pos c75] at H
                        have c75b0 : (t412 == t413) = true := c75
                        (try (have c75b1 : decide (t412 = t413) = true := by simpa using c75))
                        (try (have c75b2 : (t412 == t413) = true := by simpa using c75))
                        clear c75
                        replace H := Option.bind_eq_some_iff.mp H
                        obtain ⟨t414, A760, H⟩ := H
                        replace H : ((tree_Extends.f a5 a2 t414 (l0.length : Int) l7).bind fun t415 => ((customhouseref02_Root.f kj53 l0).bind fun t416 => ((customhouseref02_Extends.f kj53 a5 a2 t416 (l0.length : Int) l7).bind fun t417 => (some (t415 == t417))))) = some r := H
                        have A76 := Aside0.mk A760
                        clear A760
                        replace H := Option.bind_eq_some_iff.mp H
                        obtain ⟨t415, A770, H⟩ := H
                        replace H : ((customhouseref02_Root.f kj53 l0).bind fun t416 => ((customhouseref02_Extends.f kj53 a5 a2 t416 (l0.length : Int) l7).bind fun t417 => (some (t415 == t417)))) = some r := H
                        have A77 := Aside0.mk A770
                        clear A770
                        replace H := Option.bind_eq_some_iff.mp H
                        obtain ⟨t416, A780, H⟩ := H
                        replace H : ((customhouseref02_Extends.f kj53 a5 a2 t416 (l0.length : Int) l7).bind fun t417 => (some (t415 == t417))) = some r := H
                        have A78 := Aside0.mk A780
                        clear A780
                        replace H := Option.bind_eq_some_iff.mp H
                        obtain ⟨t417, A790, H⟩ := H
                        replace H : (some (t415 == t417)) = some r := H
                        have A79 := Aside0.mk A790
                        clear A790
                        obtain rfl := Option.some.inj H
                        go_wp2_with (first | (go_at_call 34; (with_reducible refine (tree_Extends.calls a5 a2 a4 a3 _ _ l7 t412 _ ?side3 ?side1 ?side2 A73.out).mono ?_); (case side1 => repeat (first | exact (Kd.C_below HR7.out HB.out) | (with_reducible refine Kd.C_alloc ?_ _) | (with_reducible refine Kd.C_drewN ?_ _) | (with_reducible refine Kd.C_drew ?_))); (case side2 => exact HC7.out); (case side3 => exact GL.below HG.out (by repeat (first | (with_reducible first | exact HB.out | apply below_alloc | apply pw_below_drewN | apply below_drew1) | exact HB.out))); rintro e w80 ⟨rfl, hb⟩; have n0_ := Aside0.mk (below_step (by repeat (first | (with_reducible first | exact HB.out | apply below_alloc | apply pw_below_drewN | apply below_drew1) | exact HB.out)) hb); clear HB; have HB := n0_; clear n0_; (try clear hb); (try clear hb2); (try clear hk); (try clear hi)) | (go_at_call 35; (with_reducible refine (customhouseref02_Extends.calls kj53 a5 a2 a4 a3 _ _ l7 t413 _ ?side1 ?side2 A74.out).mono ?_); (case side1 => repeat (first | exact (Kd.C_below HR7.out HB.out) | (with_reducible refine Kd.C_alloc ?_ _) | (with_reducible refine Kd.C_drewN ?_ _) | (with_reducible refine Kd.C_drew ?_))); (case side2 => exact HC7.out); rintro e w81 ⟨rfl, hb⟩; have n0_ := Aside0.mk (below_step (by repeat (first | (with_reducible first | exact HB.out | apply below_alloc | apply pw_below_drewN | apply below_drew1) | exact HB.out)) hb); clear HB; have HB := n0_; clear n0_; (try clear hb); (try clear hb2); (try clear hk); (try clear hi)) | (go_at_call 29; (with_reducible refine (tree_Root.calls kj53 _ _ l0 t414 _ ?side3 ?side1 ?side2 A76.out).mono ?_); (case side1 => repeat (first | exact (Kd.C_below HR0.out HB.out) | (with_reducible refine Kd.C_alloc ?_ _) | (with_reducible refine Kd.C_drewN ?_ _) | (with_reducible refine Kd.C_drew ?_))); (case side2 => exact HC0.out); (case side3 => exact GL.below HG.out (by repeat (first | (with_reducible first | exact HB.out | apply below_alloc | apply pw_below_drewN | apply below_drew1) | exact HB.out))); rintro e w82 ⟨rfl, hb⟩; have n0_ := Aside0.mk (below_step (by repeat (first | (with_reducible first | exact HB.out | apply below_alloc | apply pw_below_drewN | apply below_drew1) | exact HB.out)) hb); clear HB; have HB := n0_; clear n0_; (try clear hb); (try clear hb2); (try clear hk); (try clear hi)) | (go_at_call 34; (with_reducible refine (tree_Extends.calls a5 a2 t414 (l0.length : Int) _ _ l7 t415 _ ?side3 ?side1 ?side2 A77.out).mono ?_); (case side1 => repeat (first | exact (Kd.C_below HR7.out HB.out) | (with_reducible refine Kd.C_alloc ?_ _) | (with_reducible refine Kd.C_drewN ?_ _) | (with_reducible refine Kd.C_drew ?_))); (case side2 => exact HC7.out); (case side3 => exact GL.below HG.out (by repeat (first | (with_reducible first | exact HB.out | apply below_alloc | apply pw_below_drewN | apply below_drew1) | exact HB.out))); rintro e w83 ⟨rfl, hb⟩; have n0_ := Aside0.mk (below_step (by repeat (first | (with_reducible first | exact HB.out | apply below_alloc | apply pw_below_drewN | apply below_drew1) | exact HB.out)) hb); clear HB; have HB := n0_; clear n0_; (try clear hb); (try clear hb2); (try clear hk); (try clear hi)) | (go_at_call 30; (with_reducible refine (customhouseref02_Root.calls kj53 _ _ l0 t416 _ ?side1 ?side2 A78.out).mono ?_); (case side1 => repeat (first | exact (Kd.C_below HR0.out HB.out) | (with_reducible refine Kd.C_alloc ?_ _) | (with_reducible refine Kd.C_drewN ?_ _) | (with_reducible refine Kd.C_drew ?_))); (case side2 => exact HC0.out); rintro e w84 ⟨rfl, hb⟩; have n0_ := Aside0.mk (below_step (by repeat (first | (with_reducible first | exact HB.out | apply below_alloc | apply pw_below_drewN | apply below_drew1) | exact HB.out)) hb); clear HB; have HB := n0_; clear n0_; (try clear hb); (try clear hb2); (try clear hk); (try clear hi)) | (go_at_call 35; (with_reducible refine (customhouseref02_Extends.calls kj53 a5 a2 t416 (l0.length : Int) _ _ l7 t417 _ ?side1 ?side2 A79.out).mono ?_); (case side1 => repeat (first | exact (Kd.C_below HR7.out HB.out) | (with_reducible refine Kd.C_alloc ?_ _) | (with_reducible refine Kd.C_drewN ?_ _) | (with_reducible refine Kd.C_drew ?_))); (case side2 => exact HC7.out); rintro e w85 ⟨rfl, hb⟩; have n0_ := Aside0.mk (below_step (by repeat (first | (with_reducible first | exact HB.out | apply below_alloc | apply pw_below_drewN | apply below_drew1) | exact HB.out)) hb); clear HB; have HB := n0_; clear n0_; (try clear hb); (try clear hb2); (try clear hk); (try clear hi)))
                        go_ret
                        exact ⟨by first | rfl | (simp [errW_none, errW_some] <;> rfl) | (simp [*, errW_none, errW_some] <;> rfl), by repeat (first | (with_reducible first | exact HB.out | apply below_alloc | apply pw_below_drewN | apply below_drew1) | exact HB.out)⟩
                      · rw [if_neg c75] at H
                        have c75b0 : (t412 == t413) = false := by simpa using c75
                        (try (have c75b1 : decide (t412 = t413) = false := by simpa using c75))
                        (try (have c75b2 : (t412 == t413) = false := by simpa using c75))
                        (try (have c75b3 : ¬ (t412 = t413) := by simpa using c75))
                        clear c75
                        obtain rfl := Option.some.inj H
                        go_wp2_with (first | (go_at_call 34; (with_reducible refine (tree_Extends.calls a5 a2 a4 a3 _ _ l7 t412 _ ?side3 ?side1 ?side2 A73.out).mono ?_); (case side1 => repeat (first | exact (Kd.C_below HR7.out HB.out) | (with_reducible refine Kd.C_alloc ?_ _) | (with_reducible refine Kd.C_drewN ?_ _) | (with_reducible refine Kd.C_drew ?_))); (case side2 => exact HC7.out); (case side3 => exact GL.below HG.out (by repeat (first | (with_reducible first | exact HB.out | apply below_alloc | apply pw_below_drewN | apply below_drew1) | exact HB.out))); rintro e w86 ⟨rfl, hb⟩; have n0_ := Aside0.mk (below_step (by repeat (first | (with_reducible first | exact HB.out | apply below_alloc | apply pw_below_drewN | apply below_drew1) | exact HB.out)) hb); clear HB; have HB := n0_; clear n0_; (try clear hb); (try clear hb2); (try clear hk); (try clear hi)) | (go_at_call 35; (with_reducible refine (customhouseref02_Extends.calls kj53 a5 a2 a4 a3 _ _ l7 t413 _ ?side1 ?side2 A74.out).mono ?_); (case side1 => repeat (first | exact (Kd.C_below HR7.out HB.out) | (with_reducible refine Kd.C_alloc ?_ _) | (with_reducible refine Kd.C_drewN ?_ _) | (with_reducible refine Kd.C_drew ?_))); (case side2 => exact HC7.out); rintro e w87 ⟨rfl, hb⟩; have n0_ := Aside0.mk (below_step (by repeat (first | (with_reducible first | exact HB.out | apply below_alloc | apply pw_below_drewN | apply below_drew1) | exact HB.out)) hb); clear HB; have HB := n0_; clear n0_; (try clear hb); (try clear hb2); (try clear hk); (try clear hi)))
                        go_ret
                        exact ⟨by first | rfl | (simp [errW_none, errW_some] <;> rfl) | (simp [*, errW_none, errW_some] <;> rfl), by repeat (first | (with_reducible first | exact HB.out | apply below_alloc | apply pw_below_drewN | apply below_drew1) | exact HB.out)⟩
                    · replace c72 := Bool.eq_false_iff.mpr c72
                      subst c72
                      have H1 : (some false) = some r := by rw [if_neg (show ¬ (false = true) by decide)] at H; exact H
                      clear H
                      have H := H1
                      clear H1
                      obtain rfl := Option.some.inj H
                      go_wp2
                      go_ret
                      exact ⟨by first | rfl | (simp [errW_none, errW_some] <;> rfl) | (simp [*, errW_none, errW_some] <;> rfl), by repeat (first | (with_reducible first | exact HB.out | apply below_alloc | apply pw_below_drewN | apply below_drew1) | exact HB.out)⟩
                  · replace c71 := Bool.eq_false_iff.mpr c71
                    subst c71
                    have H1 : (some false) = some r := by rw [if_neg (show ¬ (false = true) by decide)] at H; exact H
                    clear H
                    have H := H1
                    clear H1
                    obtain rfl := Option.some.inj H
                    go_wp2
                    go_ret
                    exact ⟨by first | rfl | (simp [errW_none, errW_some] <;> rfl) | (simp [*, errW_none, errW_some] <;> rfl), by repeat (first | (with_reducible first | exact HB.out | apply below_alloc | apply pw_below_drewN | apply below_drew1) | exact HB.out)⟩
                · replace c70 := Bool.eq_false_iff.mpr c70
                  subst c70
                  have H1 : (some false) = some r := by rw [if_neg (show ¬ (false = true) by decide)] at H; exact H
                  clear H
                  have H := H1
                  clear H1
                  obtain rfl := Option.some.inj H
                  go_wp2
                  go_ret
                  exact ⟨by first | rfl | (simp [errW_none, errW_some] <;> rfl) | (simp [*, errW_none, errW_some] <;> rfl), by repeat (first | (with_reducible first | exact HB.out | apply below_alloc | apply pw_below_drewN | apply below_drew1) | exact HB.out)⟩

end Go.Proofs.YtdlipbfcadmhjaaGreatDoor.PG2
