/- Written by a program of this session's over the kit's print: the functions that a law comes to as plain Lean functions, and that Go's code computes them. Nothing is assumed. -/
import Derived.Test.YtdlipbfcadmhjaaDoorPG2x0
import Derived.Test.YtdlipbfcadmhjaaDoorPG2x2
import Derived.Test.YtdlipbfcadmhjaaDoorPG2x4
import Derived.Test.YtdlipbfcadmhjaaDoorPG2x6
import Derived.Test.YtdlipbfcadmhjaaDoorPG2x7
import Derived.Test.YtdlipbfcadmhjaaDoorPG2x10
import Derived.Test.YtdlipbfcadmhjaaDoorPG2x13
import Derived.Test.YtdlipbfcadmhjaaDoorPG2x14
import Derived.Test.YtdlipbfcadmhjaaDoorT4d
namespace Go.Proofs.YtdlipbfcadmhjaaDoor.PG2
open Go.RowKit Go.Proofs.YtdlipbfcadmhjaaDoorW.PrintWords Go.Proofs.YtdlipbfcadmhjaaDoorW.PrintLast Go.Proofs.YtdlipbfcadmhjaaDoorW.PrintMore
attribute [local go_sem] max2_int min2_int max_two min_two max_three min_three max_four min_four   -- for this text's walks alone
set_option linter.unusedVariables false
set_option linter.unusedSimpArgs false

/-! ### customhouselaw02_TreeBinds: function 11 -/
mutual
def customhouselaw02_TreeBinds.j0 : Nat → List ByteArray → Int → ByteArray → List ByteArray → Bool → Bool → Option (Bool)
  | 0, _, _, _, _, _, _ => none
  | k + 1, x0, x1, x2, x3, x9, x31 => if x31 = true then (some x9) else (if (x0.length : Int) = 0 then (none) else (if 0 ≤ (Int.tmod (wrap64 (x1)) (x0.length : Int)) then (if (Int.tmod (wrap64 (x1)) (x0.length : Int)) < (x0.length : Int) then (if x2.toList = (rdOf ByteArray.empty x0 (Int.tmod (wrap64 (x1)) (x0.length : Int))).toList then (customhouselaw02_TreeBinds.j1 k x0 x2 x3 x9 (Int.tmod (wrap64 (x1)) (x0.length : Int)) true) else ((tree_Root.f k x0).bind fun t418 => ((tree_Check.f t418 (x0.length : Int) (Int.tmod (wrap64 (x1)) (x0.length : Int)) x2 x3).bind fun t419 => (customhouselaw02_TreeBinds.j1 k x0 x2 x3 x9 (Int.tmod (wrap64 (x1)) (x0.length : Int)) (!t419))))) else (none)) else (none)))
def customhouselaw02_TreeBinds.j1 : Nat → List ByteArray → ByteArray → List ByteArray → Bool → Int → Bool → Option (Bool)
  | 0, _, _, _, _, _, _ => none
  | k + 1, x0, x2, x3, x9, x10, x54 => if x54 = true then (some x9) else ((tree_Path.f k x0 x10).bind fun bt420 => (if bt420.2 = 0 then (customhouselaw02_TreeBinds.j2 k x0 x2 x3 x9 x10 ((bt420.1.length : Int) != (x3.length : Int))) else (customhouselaw02_TreeBinds.j2 k x0 x2 x3 x9 x10 true)))
def customhouselaw02_TreeBinds.j2 : Nat → List ByteArray → ByteArray → List ByteArray → Bool → Int → Bool → Option (Bool)
  | 0, _, _, _, _, _, _ => none
  | k + 1, x0, x2, x3, x9, x10, x70 => if x70 = true then (some false) else (if x9 = true then ((customhouseref02_Texts.f k x0).bind fun t424 => ((customhouseref02_PathTexts.f k (x0.length : Int) x10 x2 x3).bind fun t427 => (if t424.length + t427.length < 8796093022208 then ((customhouseref02_Shown.f k (t424 ++ t427)).bind fun t433 => (some t433)) else (none)))) else (some false))
end
def customhouselaw02_TreeBinds.f (k : Nat) (l0 : List ByteArray) (a1 : Int) (a2 : ByteArray) (l3 : List ByteArray) : Option (Bool) := (customhouselaw02_head.f k).bind fun t414 => ((customhouselaw02_few.f k l0).bind fun t415 => (if t415 = true then ((customhouselaw02_few.f k l3).bind fun t416 => (if t416 = true then (if (a2.size : Int) > 100 then (customhouselaw02_TreeBinds.j0 k l0 a1 a2 l3 t414 true) else (customhouselaw02_TreeBinds.j0 k l0 a1 a2 l3 t414 ((l0.length : Int) == 0))) else (customhouselaw02_TreeBinds.j0 k l0 a1 a2 l3 t414 true))) else (customhouselaw02_TreeBinds.j0 k l0 a1 a2 l3 t414 true)))
theorem customhouselaw02_TreeBinds.mono_l : ∀ k, (∀ y0 y1 y2 y3 y4 y5, LeO (customhouselaw02_TreeBinds.j0 k y0 y1 y2 y3 y4 y5) (customhouselaw02_TreeBinds.j0 (k + 1) y0 y1 y2 y3 y4 y5)) ∧ (∀ y0 y1 y2 y3 y4 y5, LeO (customhouselaw02_TreeBinds.j1 k y0 y1 y2 y3 y4 y5) (customhouselaw02_TreeBinds.j1 (k + 1) y0 y1 y2 y3 y4 y5)) ∧ (∀ y0 y1 y2 y3 y4 y5, LeO (customhouselaw02_TreeBinds.j2 k y0 y1 y2 y3 y4 y5) (customhouselaw02_TreeBinds.j2 (k + 1) y0 y1 y2 y3 y4 y5))
  | 0 => ⟨fun _ _ _ _ _ _ r h => by simp [customhouselaw02_TreeBinds.j0] at h, fun _ _ _ _ _ _ r h => by simp [customhouselaw02_TreeBinds.j1] at h, fun _ _ _ _ _ _ r h => by simp [customhouselaw02_TreeBinds.j2] at h⟩
  | k + 1 => by
    obtain ⟨ih0, ih1, ih2⟩ := customhouselaw02_TreeBinds.mono_l k
    refine ⟨?_, ?_, ?_⟩
    · intro y0 y1 y2 y3 y4 y5
      unfold customhouselaw02_TreeBinds.j0
      repeat' first
      | (with_reducible exact ih0 _ _ _ _ _ _)
      | (with_reducible exact ih1 _ _ _ _ _ _)
      | (with_reducible exact ih2 _ _ _ _ _ _)
      | (with_reducible exact customhouselaw02_few.mono _ _)
      | (with_reducible exact customhouselaw02_head.mono _)
      | (with_reducible exact customhouseref02_PathTexts.mono _ _ _ _ _)
      | (with_reducible exact customhouseref02_Shown.mono _ _)
      | (with_reducible exact customhouseref02_Texts.mono _ _)
      | (with_reducible exact tree_Path.mono _ _ _)
      | (with_reducible exact tree_Root.mono _ _)
      | (with_reducible exact LeO.refl _)
      | (with_reducible exact LeO.none _)
      | (with_reducible refine LeO.ite ?_ ?_)
      | (with_reducible refine LeO.bind ?_ (fun _ => ?_))
      | exact ih0 _ _ _ _ _ _
      | exact ih1 _ _ _ _ _ _
      | exact ih2 _ _ _ _ _ _
      | exact customhouselaw02_few.mono _ _
      | exact customhouselaw02_head.mono _
      | exact customhouseref02_PathTexts.mono _ _ _ _ _
      | exact customhouseref02_Shown.mono _ _
      | exact customhouseref02_Texts.mono _ _
      | exact tree_Path.mono _ _ _
      | exact tree_Root.mono _ _
      | exact LeO.none _
      | refine LeO.ite ?_ ?_
      | refine LeO.bind ?_ (fun _ => ?_)
    · intro y0 y1 y2 y3 y4 y5
      unfold customhouselaw02_TreeBinds.j1
      repeat' first
      | (with_reducible exact ih0 _ _ _ _ _ _)
      | (with_reducible exact ih1 _ _ _ _ _ _)
      | (with_reducible exact ih2 _ _ _ _ _ _)
      | (with_reducible exact customhouselaw02_few.mono _ _)
      | (with_reducible exact customhouselaw02_head.mono _)
      | (with_reducible exact customhouseref02_PathTexts.mono _ _ _ _ _)
      | (with_reducible exact customhouseref02_Shown.mono _ _)
      | (with_reducible exact customhouseref02_Texts.mono _ _)
      | (with_reducible exact tree_Path.mono _ _ _)
      | (with_reducible exact tree_Root.mono _ _)
      | (with_reducible exact LeO.refl _)
      | (with_reducible exact LeO.none _)
      | (with_reducible refine LeO.ite ?_ ?_)
      | (with_reducible refine LeO.bind ?_ (fun _ => ?_))
      | exact ih0 _ _ _ _ _ _
      | exact ih1 _ _ _ _ _ _
      | exact ih2 _ _ _ _ _ _
      | exact customhouselaw02_few.mono _ _
      | exact customhouselaw02_head.mono _
      | exact customhouseref02_PathTexts.mono _ _ _ _ _
      | exact customhouseref02_Shown.mono _ _
      | exact customhouseref02_Texts.mono _ _
      | exact tree_Path.mono _ _ _
      | exact tree_Root.mono _ _
      | exact LeO.none _
      | refine LeO.ite ?_ ?_
      | refine LeO.bind ?_ (fun _ => ?_)
    · intro y0 y1 y2 y3 y4 y5
      unfold customhouselaw02_TreeBinds.j2
      repeat' first
      | (with_reducible exact ih0 _ _ _ _ _ _)
      | (with_reducible exact ih1 _ _ _ _ _ _)
      | (with_reducible exact ih2 _ _ _ _ _ _)
      | (with_reducible exact customhouselaw02_few.mono _ _)
      | (with_reducible exact customhouselaw02_head.mono _)
      | (with_reducible exact customhouseref02_PathTexts.mono _ _ _ _ _)
      | (with_reducible exact customhouseref02_Shown.mono _ _)
      | (with_reducible exact customhouseref02_Texts.mono _ _)
      | (with_reducible exact tree_Path.mono _ _ _)
      | (with_reducible exact tree_Root.mono _ _)
      | (with_reducible exact LeO.refl _)
      | (with_reducible exact LeO.none _)
      | (with_reducible refine LeO.ite ?_ ?_)
      | (with_reducible refine LeO.bind ?_ (fun _ => ?_))
      | exact ih0 _ _ _ _ _ _
      | exact ih1 _ _ _ _ _ _
      | exact ih2 _ _ _ _ _ _
      | exact customhouselaw02_few.mono _ _
      | exact customhouselaw02_head.mono _
      | exact customhouseref02_PathTexts.mono _ _ _ _ _
      | exact customhouseref02_Shown.mono _ _
      | exact customhouseref02_Texts.mono _ _
      | exact tree_Path.mono _ _ _
      | exact tree_Root.mono _ _
      | exact LeO.none _
      | refine LeO.ite ?_ ?_
      | refine LeO.bind ?_ (fun _ => ?_)
theorem customhouselaw02_TreeBinds.mono : ∀ a0 a1 a2 a3 k, LeO (customhouselaw02_TreeBinds.f k a0 a1 a2 a3) (customhouselaw02_TreeBinds.f (k + 1) a0 a1 a2 a3) := by
  intro a0 a1 a2 a3 k
  obtain ⟨ih0, ih1, ih2⟩ := customhouselaw02_TreeBinds.mono_l k
  unfold customhouselaw02_TreeBinds.f
  repeat' first
      | (with_reducible exact ih0 _ _ _ _ _ _)
      | (with_reducible exact ih1 _ _ _ _ _ _)
      | (with_reducible exact ih2 _ _ _ _ _ _)
      | (with_reducible exact customhouselaw02_few.mono _ _)
      | (with_reducible exact customhouselaw02_head.mono _)
      | (with_reducible exact customhouseref02_PathTexts.mono _ _ _ _ _)
      | (with_reducible exact customhouseref02_Shown.mono _ _)
      | (with_reducible exact customhouseref02_Texts.mono _ _)
      | (with_reducible exact tree_Path.mono _ _ _)
      | (with_reducible exact tree_Root.mono _ _)
      | (with_reducible exact LeO.refl _)
      | (with_reducible exact LeO.none _)
      | (with_reducible refine LeO.ite ?_ ?_)
      | (with_reducible refine LeO.bind ?_ (fun _ => ?_))
      | exact ih0 _ _ _ _ _ _
      | exact ih1 _ _ _ _ _ _
      | exact ih2 _ _ _ _ _ _
      | exact customhouselaw02_few.mono _ _
      | exact customhouselaw02_head.mono _
      | exact customhouseref02_PathTexts.mono _ _ _ _ _
      | exact customhouseref02_Shown.mono _ _
      | exact customhouseref02_Texts.mono _ _
      | exact tree_Path.mono _ _ _
      | exact tree_Root.mono _ _
      | exact LeO.none _
      | refine LeO.ite ?_ ?_
      | refine LeO.bind ?_ (fun _ => ?_)
set_option maxHeartbeats 8000000 in
set_option maxRecDepth 100000 in
theorem customhouselaw02_TreeBinds.calls (k : Nat) (A0 : Option Addr) (c0 : Nat) (l0 : List ByteArray) (a1 : Int) (a2 : ByteArray) (A3 : Option Addr) (c3 : Nat) (l3 : List ByteArray) (r : Bool) (w : World) (hG : GL w) (hr0 : Kd.C Kd.string w A0 l0.length l0) (hc0 : l0.length ≤ c0) (hr3 : Kd.C Kd.string w A3 l3.length l3) (hc3 : l3.length ≤ c3) (h : customhouselaw02_TreeBinds.f k l0 a1 a2 l3 = some r) :
    Calls Tryd.prog 11 #[.slice A0 l0.length c0, .int .u8 a1, .string a2, .slice A3 l3.length c3] w fun e w' => e = .returned (.bool r) ∧ Below w.heap.size w w' := by
  have HR0 := Aside0.mk hr0
  have HC0 := Aside0.mk hc0
  clear hr0 hc0
  have HR3 := Aside0.mk hr3
  have HC3 := Aside0.mk hc3
  clear hr3 hc3
  have HB := Aside0.mk (Below.refl w.heap.size w)
  have HG := Aside0.mk hG
  clear hG
  have H : ((customhouselaw02_head.f k).bind fun t414 => ((customhouselaw02_few.f k l0).bind fun t415 => (if t415 = true then ((customhouselaw02_few.f k l3).bind fun t416 => (if t416 = true then (if (a2.size : Int) > 100 then (customhouselaw02_TreeBinds.j0 k l0 a1 a2 l3 t414 true) else (customhouselaw02_TreeBinds.j0 k l0 a1 a2 l3 t414 ((l0.length : Int) == 0))) else (customhouselaw02_TreeBinds.j0 k l0 a1 a2 l3 t414 true))) else (customhouselaw02_TreeBinds.j0 k l0 a1 a2 l3 t414 true)))) = some r := h
  clear h
  replace H := Option.bind_eq_some_iff.mp H
  obtain ⟨t414, A50, H⟩ := H
  replace H : ((customhouselaw02_few.f k l0).bind fun t415 => (if t415 = true then ((customhouselaw02_few.f k l3).bind fun t416 => (if t416 = true then (if (a2.size : Int) > 100 then (customhouselaw02_TreeBinds.j0 k l0 a1 a2 l3 t414 true) else (customhouselaw02_TreeBinds.j0 k l0 a1 a2 l3 t414 ((l0.length : Int) == 0))) else (customhouselaw02_TreeBinds.j0 k l0 a1 a2 l3 t414 true))) else (customhouselaw02_TreeBinds.j0 k l0 a1 a2 l3 t414 true))) = some r := H
  have A5 := Aside0.mk A50
  clear A50
  have HC6 := Aside0.mk H
  clear H
  go_enter Tryd.func11, Tryd.ntmps11
  go_upto_region 2 with (first | ((with_reducible refine gate_callee (f := 30) rfl ?_); refine goesL_ (some 13) rfl rfl Tryd.func30 (by kernel_rfl) rfl #[] rfl (by (try simp only [List.map_toArray, List.map_cons, List.map_nil]); first | done | rfl | (simp only [List.length_drop, List.length_take]; rfl)) ?_; (with_reducible refine (customhouselaw02_head.calls k  t414 _ ?side1 A5.out).mono ?_); (case side1 => exact GL.below HG.out (by repeat (first | (with_reducible first | exact HB.out | apply below_alloc | apply pw_below_drewN | apply below_drew1) | exact HB.out))); rintro e w7 ⟨rfl, hb⟩; refine ⟨_, rfl, ?_⟩; have n0_ := Aside0.mk (below_step (by repeat (first | (with_reducible first | exact HB.out | apply below_alloc | apply pw_below_drewN | apply below_drew1) | exact HB.out)) hb); clear HB; have HB := n0_; clear n0_; (try clear hb); (try clear hb2); (try clear hk); (try clear hi)))
  (try simp only [Act.put, List.setIfInBounds_toArray, List.set_cons_zero, List.set_cons_succ])
  go_cut [31] (fun v31 wc => ∃ (kq : Nat) (x31_5 : Bool), v31 = .bool x31_5 ∧ Aside0 (customhouselaw02_TreeBinds.j0 kq l0 a1 a2 l3 t414 x31_5 = some r) ∧ Aside0 (kq ≤ k) ∧ Aside0 (Below w.heap.size w wc))
  case first =>
    have H := HC6.out
    clear HC6
    replace H := Option.bind_eq_some_iff.mp H
    obtain ⟨t415, A80, H⟩ := H
    replace H : (if t415 = true then ((customhouselaw02_few.f k l3).bind fun t416 => (if t416 = true then (if (a2.size : Int) > 100 then (customhouselaw02_TreeBinds.j0 k l0 a1 a2 l3 t414 true) else (customhouselaw02_TreeBinds.j0 k l0 a1 a2 l3 t414 ((l0.length : Int) == 0))) else (customhouselaw02_TreeBinds.j0 k l0 a1 a2 l3 t414 true))) else (customhouselaw02_TreeBinds.j0 k l0 a1 a2 l3 t414 true)) = some r := H
    have A8 := Aside0.mk A80
    clear A80
    by_cases c9 : t415 = true
    · subst c9
      have H1 : ((customhouselaw02_few.f k l3).bind fun t416 => (if t416 = true then (if (a2.size : Int) > 100 then (customhouselaw02_TreeBinds.j0 k l0 a1 a2 l3 t414 true) else (customhouselaw02_TreeBinds.j0 k l0 a1 a2 l3 t414 ((l0.length : Int) == 0))) else (customhouselaw02_TreeBinds.j0 k l0 a1 a2 l3 t414 true))) = some r := by rw [if_pos rfl] at H; exact H
      clear H
      have H := H1
      clear H1
      replace H := Option.bind_eq_some_iff.mp H
      obtain ⟨t416, A100, H⟩ := H
      replace H : (if t416 = true then (if (a2.size : Int) > 100 then (customhouselaw02_TreeBinds.j0 k l0 a1 a2 l3 t414 true) else (customhouselaw02_TreeBinds.j0 k l0 a1 a2 l3 t414 ((l0.length : Int) == 0))) else (customhouselaw02_TreeBinds.j0 k l0 a1 a2 l3 t414 true)) = some r := H
      have A10 := Aside0.mk A100
      clear A100
      by_cases c11 : t416 = true
      · subst c11
        have H1 : (if (a2.size : Int) > 100 then (customhouselaw02_TreeBinds.j0 k l0 a1 a2 l3 t414 true) else (customhouselaw02_TreeBinds.j0 k l0 a1 a2 l3 t414 ((l0.length : Int) == 0))) = some r := by rw [if_pos rfl] at H; exact H
        clear H
        have H := H1
        clear H1
        by_cases c12 : (a2.size : Int) > 100
        · rw [if_pos c12] at H
          have c12b0 : decide (100 < (a2.size : Int)) = true := decide_eq_true c12
          have c12b1 : decide (100 < a2.size) = true := decide_eq_true (by omega)
          clear c12
          (first | rw [c12b0] | (simp only [i64_w, i32_w]; rw [c12b0]) | skip)
          have H' := Aside0.mk H
          clear H
          go_wp2_with (first | ((with_reducible refine gate_callee (f := 31) rfl ?_); refine goesL_ (some 15) rfl rfl Tryd.func31 (by kernel_rfl) rfl #[.slice A0 l0.length c0] rfl (by (try simp only [List.map_toArray, List.map_cons, List.map_nil]); first | done | rfl | (simp only [List.length_drop, List.length_take]; rfl)) ?_; (with_reducible refine (customhouselaw02_few.calls k _ _ l0 true _ ?side1 ?side2 A8.out).mono ?_); (case side1 => repeat (first | exact (Kd.C_below HR0.out HB.out) | (with_reducible refine Kd.C_alloc ?_ _) | (with_reducible refine Kd.C_drewN ?_ _) | (with_reducible refine Kd.C_drew ?_))); (case side2 => exact HC0.out); rintro e w' ⟨rfl, ⟨nd, rfl⟩⟩; refine ⟨_, rfl, ?_⟩) | (go_at_call 31; (with_reducible refine (customhouselaw02_few.calls k _ _ l3 true _ ?side1 ?side2 A10.out).mono ?_); (case side1 => repeat (first | exact (Kd.C_below HR3.out (by repeat (first | (with_reducible first | exact HB.out | apply below_alloc | apply pw_below_drewN | apply below_drew1) | exact HB.out))) | (with_reducible refine Kd.C_alloc ?_ _) | (with_reducible refine Kd.C_drewN ?_ _) | (with_reducible refine Kd.C_drew ?_))); (case side2 => exact HC3.out); rintro e w' ⟨rfl, ⟨nd, rfl⟩⟩))
          go_meet
          case rel => exact ⟨_, (true), (by first | rfl | (simp; done) | (simp [*]; done)), H', ⟨by first | omega | exact Nat.le_refl _⟩, ⟨by repeat (first | (with_reducible first | exact HB.out | apply below_alloc | apply pw_below_drewN | apply below_drew1) | exact HB.out)⟩⟩
        · rw [if_neg c12] at H
          have c12b0 : decide (100 < (a2.size : Int)) = false := decide_eq_false c12
          have c12b1 : decide (100 < a2.size) = false := decide_eq_false (by omega)
          clear c12
          (first | rw [c12b0] | (simp only [i64_w, i32_w]; rw [c12b0]) | skip)
          have H' := Aside0.mk H
          clear H
          go_wp2_with (first | ((with_reducible refine gate_callee (f := 31) rfl ?_); refine goesL_ (some 15) rfl rfl Tryd.func31 (by kernel_rfl) rfl #[.slice A0 l0.length c0] rfl (by (try simp only [List.map_toArray, List.map_cons, List.map_nil]); first | done | rfl | (simp only [List.length_drop, List.length_take]; rfl)) ?_; (with_reducible refine (customhouselaw02_few.calls k _ _ l0 true _ ?side1 ?side2 A8.out).mono ?_); (case side1 => repeat (first | exact (Kd.C_below HR0.out HB.out) | (with_reducible refine Kd.C_alloc ?_ _) | (with_reducible refine Kd.C_drewN ?_ _) | (with_reducible refine Kd.C_drew ?_))); (case side2 => exact HC0.out); rintro e w' ⟨rfl, ⟨nd, rfl⟩⟩; refine ⟨_, rfl, ?_⟩) | (go_at_call 31; (with_reducible refine (customhouselaw02_few.calls k _ _ l3 true _ ?side1 ?side2 A10.out).mono ?_); (case side1 => repeat (first | exact (Kd.C_below HR3.out (by repeat (first | (with_reducible first | exact HB.out | apply below_alloc | apply pw_below_drewN | apply below_drew1) | exact HB.out))) | (with_reducible refine Kd.C_alloc ?_ _) | (with_reducible refine Kd.C_drewN ?_ _) | (with_reducible refine Kd.C_drew ?_))); (case side2 => exact HC3.out); rintro e w' ⟨rfl, ⟨nd, rfl⟩⟩))
          go_meet
          case rel => exact ⟨_, (((l0.length : Int) == 0)), (by first | rfl | (simp; done) | (simp [*]; done)), H', ⟨by first | omega | exact Nat.le_refl _⟩, ⟨by repeat (first | (with_reducible first | exact HB.out | apply below_alloc | apply pw_below_drewN | apply below_drew1) | exact HB.out)⟩⟩
      · replace c11 := Bool.eq_false_iff.mpr c11
        subst c11
        have H1 : (customhouselaw02_TreeBinds.j0 k l0 a1 a2 l3 t414 true) = some r := by rw [if_neg (show ¬ (false = true) by decide)] at H; exact H
        clear H
        have H := H1
        clear H1
        have H' := Aside0.mk H
        clear H
        go_wp2_with (first | ((with_reducible refine gate_callee (f := 31) rfl ?_); refine goesL_ (some 15) rfl rfl Tryd.func31 (by kernel_rfl) rfl #[.slice A0 l0.length c0] rfl (by (try simp only [List.map_toArray, List.map_cons, List.map_nil]); first | done | rfl | (simp only [List.length_drop, List.length_take]; rfl)) ?_; (with_reducible refine (customhouselaw02_few.calls k _ _ l0 true _ ?side1 ?side2 A8.out).mono ?_); (case side1 => repeat (first | exact (Kd.C_below HR0.out HB.out) | (with_reducible refine Kd.C_alloc ?_ _) | (with_reducible refine Kd.C_drewN ?_ _) | (with_reducible refine Kd.C_drew ?_))); (case side2 => exact HC0.out); rintro e w' ⟨rfl, ⟨nd, rfl⟩⟩; refine ⟨_, rfl, ?_⟩) | (go_at_call 31; (with_reducible refine (customhouselaw02_few.calls k _ _ l3 false _ ?side1 ?side2 A10.out).mono ?_); (case side1 => repeat (first | exact (Kd.C_below HR3.out (by repeat (first | (with_reducible first | exact HB.out | apply below_alloc | apply pw_below_drewN | apply below_drew1) | exact HB.out))) | (with_reducible refine Kd.C_alloc ?_ _) | (with_reducible refine Kd.C_drewN ?_ _) | (with_reducible refine Kd.C_drew ?_))); (case side2 => exact HC3.out); rintro e w' ⟨rfl, ⟨nd, rfl⟩⟩))
        go_meet
        case rel => exact ⟨_, (true), (by first | rfl | (simp; done) | (simp [*]; done)), H', ⟨by first | omega | exact Nat.le_refl _⟩, ⟨by repeat (first | (with_reducible first | exact HB.out | apply below_alloc | apply pw_below_drewN | apply below_drew1) | exact HB.out)⟩⟩
    · replace c9 := Bool.eq_false_iff.mpr c9
      subst c9
      have H1 : (customhouselaw02_TreeBinds.j0 k l0 a1 a2 l3 t414 true) = some r := by rw [if_neg (show ¬ (false = true) by decide)] at H; exact H
      clear H
      have H := H1
      clear H1
      have H' := Aside0.mk H
      clear H
      go_wp2_with (first | ((with_reducible refine gate_callee (f := 31) rfl ?_); refine goesL_ (some 15) rfl rfl Tryd.func31 (by kernel_rfl) rfl #[.slice A0 l0.length c0] rfl (by (try simp only [List.map_toArray, List.map_cons, List.map_nil]); first | done | rfl | (simp only [List.length_drop, List.length_take]; rfl)) ?_; (with_reducible refine (customhouselaw02_few.calls k _ _ l0 false _ ?side1 ?side2 A8.out).mono ?_); (case side1 => repeat (first | exact (Kd.C_below HR0.out HB.out) | (with_reducible refine Kd.C_alloc ?_ _) | (with_reducible refine Kd.C_drewN ?_ _) | (with_reducible refine Kd.C_drew ?_))); (case side2 => exact HC0.out); rintro e w' ⟨rfl, ⟨nd, rfl⟩⟩; refine ⟨_, rfl, ?_⟩))
      go_meet
      case rel => exact ⟨_, (true), (by first | rfl | (simp; done) | (simp [*]; done)), H', ⟨by first | omega | exact Nat.le_refl _⟩, ⟨by repeat (first | (with_reducible first | exact HB.out | apply below_alloc | apply pw_below_drewN | apply below_drew1) | exact HB.out)⟩⟩
  case rest =>
    clear HC6
    try clear c1
    try clear p2
    try clear c3
    try clear c9
    try clear c11
    try clear c12
    try clear c12b0
    try clear c12b1
    obtain ⟨kq, x31_5, rfl, HA, HJ5, HB⟩ := hcut
    cases kq with
    | zero => exact absurd HA.out (by simp [customhouselaw02_TreeBinds.j0])
    | succ kj5 =>
      have H := HA.out
      clear HA
      simp only [customhouselaw02_TreeBinds.j0] at H
      by_cases c13 : x31_5 = true
      · subst c13
        have H1 : (some t414) = some r := by rw [if_pos rfl] at H; exact H
        clear H
        have H := H1
        clear H1
        obtain rfl := Option.some.inj H
        go_wp2
        go_ret
        exact ⟨by first | rfl | (simp [errW_none, errW_some] <;> rfl) | (simp [*, errW_none, errW_some] <;> rfl), by repeat (first | (with_reducible first | exact HB.out | apply below_alloc | apply pw_below_drewN | apply below_drew1) | exact HB.out)⟩
      · replace c13 := Bool.eq_false_iff.mpr c13
        subst c13
        have H1 : (if (l0.length : Int) = 0 then (none) else (if 0 ≤ (Int.tmod (wrap64 (a1)) (l0.length : Int)) then (if (Int.tmod (wrap64 (a1)) (l0.length : Int)) < (l0.length : Int) then (if a2.toList = (rdOf ByteArray.empty l0 (Int.tmod (wrap64 (a1)) (l0.length : Int))).toList then (customhouselaw02_TreeBinds.j1 kj5 l0 a2 l3 t414 (Int.tmod (wrap64 (a1)) (l0.length : Int)) true) else ((tree_Root.f kj5 l0).bind fun t418 => ((tree_Check.f t418 (l0.length : Int) (Int.tmod (wrap64 (a1)) (l0.length : Int)) a2 l3).bind fun t419 => (customhouselaw02_TreeBinds.j1 kj5 l0 a2 l3 t414 (Int.tmod (wrap64 (a1)) (l0.length : Int)) (!t419))))) else (none)) else (none))) = some r := by rw [if_neg (show ¬ (false = true) by decide)] at H; exact H
        clear H
        have H := H1
        clear H1
        by_cases c14 : (l0.length : Int) = 0
        · rw [if_pos c14] at H
          exact absurd H (by simp)
        · rw [if_neg c14] at H
          have c14b0 : ((l0.length : Int) == 0) = false := beq_eq_false_iff_ne.mpr c14
          have c14b1 : ((l0.length : Int) != 0) = true := bne_iff_ne.mpr c14
          have c14b2 : ¬ (l0 = []) := fun h_ => c14 (by rw [h_]; rfl)
          have HC15 := Aside0.mk H
          clear H
          go_upto_region 5 with (fail)
          go_cut [54] (fun v54 wc => ∃ (kq : Nat) (x54_14 : Bool), v54 = .bool x54_14 ∧ Aside0 (customhouselaw02_TreeBinds.j1 kq l0 a2 l3 t414 (Int.tmod (wrap64 (a1)) (l0.length : Int)) x54_14 = some r) ∧ Aside0 (kq ≤ kj5) ∧ Aside0 (Below w.heap.size w wc))
          case first =>
            have H := HC15.out
            clear HC15
            obtain ⟨ji16, hji16⟩ : ∃ j_ : Int, (Int.tmod (wrap64 (a1)) (l0.length : Int)) = j_ := ⟨_, rfl⟩
            replace H : (if 0 ≤ (ji16) then (if (ji16) < (l0.length : Int) then (if a2.toList = (rdOf ByteArray.empty l0 (ji16)).toList then (customhouselaw02_TreeBinds.j1 kj5 l0 a2 l3 t414 ji16 true) else ((tree_Root.f kj5 l0).bind fun t418 => ((tree_Check.f t418 (l0.length : Int) (ji16) a2 l3).bind fun t419 => (customhouselaw02_TreeBinds.j1 kj5 l0 a2 l3 t414 ji16 (!t419))))) else (none)) else (none)) = some r := by first | (rw [hji16] at H; exact H) | (simp only [hji16] at H ⊢; exact H)
            by_cases c17 : 0 ≤ (ji16)
            · rw [if_pos c17] at H
              have c17b0 : decide (0 ≤ (ji16)) = true := decide_eq_true c17
              clear c17
              (first | rw [c17b0] | (simp only [i64_w, i32_w]; rw [c17b0]) | skip)
              by_cases c18 : (ji16) < (l0.length : Int)
              · rw [if_pos c18] at H
                have c18b0 : decide ((ji16) < (l0.length : Int)) = true := decide_eq_true c18
                clear c18
                by_cases c19 : a2.toList = (rdOf ByteArray.empty l0 (ji16)).toList
                · rw [if_pos c19] at H
                  have c19b0 : (a2.toList == (rdOf ByteArray.empty l0 (ji16)).toList) = true := beq_iff_eq.mpr c19
                  have c19b1 : (a2.toList != (rdOf ByteArray.empty l0 (ji16)).toList) = false := bne_eq_false_iff_eq.mpr c19
                  clear c19
                  have H' := Aside0.mk H
                  clear H
                  have p417 : 0 ≤ ((ji16) : Int) := of_decide_eq_true (by first | (with_reducible assumption) | assumption)
                  have q417 : (ji16) < (l0.length : Int) := of_decide_eq_true (by first | (with_reducible assumption) | assumption)
                  obtain ⟨ad417, e417, hx417_0⟩ := Kd.at_string HR0.out (ji16) p417 q417
                  cases e417
                  replace hx417_0 := (HB.out.cell (World.block_lt_of_cell? w _ hx417_0)).trans hx417_0
                  replace p417 := eq_true p417
                  replace q417 := eq_true q417
                  go_wp2
                  (try rw [← hji16]); go_meet
                  case rel => exact ⟨_, (true), (by first | rfl | (simp; done) | (simp [*]; done)), (by first | exact H' | (rw [hji16]; exact H')), ⟨by have := HJ5.out; first | omega | exact Nat.le_refl _⟩, ⟨by repeat (first | (with_reducible first | exact HB.out | apply below_alloc | apply pw_below_drewN | apply below_drew1) | exact HB.out)⟩⟩
                · rw [if_neg c19] at H
                  have c19b0 : (a2.toList == (rdOf ByteArray.empty l0 (ji16)).toList) = false := beq_eq_false_iff_ne.mpr c19
                  have c19b1 : (a2.toList != (rdOf ByteArray.empty l0 (ji16)).toList) = true := bne_iff_ne.mpr c19
                  replace H := Option.bind_eq_some_iff.mp H
                  obtain ⟨t418, A200, H⟩ := H
                  replace H : ((tree_Check.f t418 (l0.length : Int) (ji16) a2 l3).bind fun t419 => (customhouselaw02_TreeBinds.j1 kj5 l0 a2 l3 t414 ji16 (!t419))) = some r := H
                  have A20 := Aside0.mk A200
                  clear A200
                  replace H := Option.bind_eq_some_iff.mp H
                  obtain ⟨t419, A210, H⟩ := H
                  replace H : (customhouselaw02_TreeBinds.j1 kj5 l0 a2 l3 t414 ji16 (!t419)) = some r := H
                  have A21 := Aside0.mk A210
                  clear A210
                  have H' := Aside0.mk H
                  clear H
                  have p417 : 0 ≤ ((ji16) : Int) := of_decide_eq_true (by first | (with_reducible assumption) | assumption)
                  have q417 : (ji16) < (l0.length : Int) := of_decide_eq_true (by first | (with_reducible assumption) | assumption)
                  obtain ⟨ad417, e417, hx417_0⟩ := Kd.at_string HR0.out (ji16) p417 q417
                  cases e417
                  replace hx417_0 := (HB.out.cell (World.block_lt_of_cell? w _ hx417_0)).trans hx417_0
                  replace p417 := eq_true p417
                  replace q417 := eq_true q417
                  go_wp2_with (first | (go_at_call 34; (with_reducible refine (tree_Root.calls kj5 _ _ l0 t418 _ ?side3 ?side1 ?side2 A20.out).mono ?_); (case side1 => repeat (first | exact (Kd.C_below HR0.out HB.out) | (with_reducible refine Kd.C_alloc ?_ _) | (with_reducible refine Kd.C_drewN ?_ _) | (with_reducible refine Kd.C_drew ?_))); (case side2 => exact HC0.out); (case side3 => exact GL.below HG.out (by repeat (first | (with_reducible first | exact HB.out | apply below_alloc | apply pw_below_drewN | apply below_drew1) | exact HB.out))); rintro e w22 ⟨rfl, hb⟩; have n0_ := Aside0.mk (below_step (by repeat (first | (with_reducible first | exact HB.out | apply below_alloc | apply pw_below_drewN | apply below_drew1) | exact HB.out)) hb); clear HB; have HB := n0_; clear n0_; (try clear hb); (try clear hb2); (try clear hk); (try clear hi)) | (go_at_call 33; (with_reducible refine (tree_Check.calls t418 (l0.length : Int) ji16 a2 _ _ l3 t419 _ ?side3 ?side1 ?side2 A21.out).mono ?_); (case side1 => repeat (first | exact (Kd.C_below HR3.out HB.out) | (with_reducible refine Kd.C_alloc ?_ _) | (with_reducible refine Kd.C_drewN ?_ _) | (with_reducible refine Kd.C_drew ?_))); (case side2 => exact HC3.out); (case side3 => exact GL.below HG.out (by repeat (first | (with_reducible first | exact HB.out | apply below_alloc | apply pw_below_drewN | apply below_drew1) | exact HB.out))); rintro e w23 ⟨rfl, hb⟩; have n0_ := Aside0.mk (below_step (by repeat (first | (with_reducible first | exact HB.out | apply below_alloc | apply pw_below_drewN | apply below_drew1) | exact HB.out)) hb); clear HB; have HB := n0_; clear n0_; (try clear hb); (try clear hb2); (try clear hk); (try clear hi)))
                  (try rw [← hji16]); go_meet
                  case rel => exact ⟨_, (!t419), (by first | rfl | (simp; done) | (simp [*]; done)), (by first | exact H' | (rw [hji16]; exact H')), ⟨by have := HJ5.out; first | omega | exact Nat.le_refl _⟩, ⟨by repeat (first | (with_reducible first | exact HB.out | apply below_alloc | apply pw_below_drewN | apply below_drew1) | exact HB.out)⟩⟩
              · rw [if_neg c18] at H
                exact absurd H (by simp)
            · rw [if_neg c17] at H
              exact absurd H (by simp)
          case rest =>
            clear HC15
            try clear c1
            try clear p2
            try clear c3
            try clear p4
            try clear q4
            try clear hx4
            try clear p6
            try clear c9
            try clear c11
            try clear c12
            try clear c12b0
            try clear c12b1
            try clear c13
            try clear c14
            try clear c14b0
            try clear c14b1
            try clear c14b2
            try clear c17
            try clear c17b0
            try clear c18
            try clear c18b0
            try clear c19
            try clear c19b0
            try clear c19b1
            try clear hx417_0
            try clear p2
            try clear p417
            try clear q417
            obtain ⟨kq, x54_14, rfl, HA, HJ14, HB⟩ := hcut
            cases kq with
            | zero => exact absurd HA.out (by simp [customhouselaw02_TreeBinds.j1])
            | succ kj14 =>
              have H := HA.out
              clear HA
              simp only [customhouselaw02_TreeBinds.j1] at H
              by_cases c24 : x54_14 = true
              · subst c24
                have H1 : (some t414) = some r := by rw [if_pos rfl] at H; exact H
                clear H
                have H := H1
                clear H1
                obtain rfl := Option.some.inj H
                go_wp2
                go_ret
                exact ⟨by first | rfl | (simp [errW_none, errW_some] <;> rfl) | (simp [*, errW_none, errW_some] <;> rfl), by repeat (first | (with_reducible first | exact HB.out | apply below_alloc | apply pw_below_drewN | apply below_drew1) | exact HB.out)⟩
              · replace c24 := Bool.eq_false_iff.mpr c24
                subst c24
                have H1 : ((tree_Path.f kj14 l0 (Int.tmod (wrap64 (a1)) (l0.length : Int))).bind fun bt420 => (if bt420.2 = 0 then (customhouselaw02_TreeBinds.j2 kj14 l0 a2 l3 t414 (Int.tmod (wrap64 (a1)) (l0.length : Int)) ((bt420.1.length : Int) != (l3.length : Int))) else (customhouselaw02_TreeBinds.j2 kj14 l0 a2 l3 t414 (Int.tmod (wrap64 (a1)) (l0.length : Int)) true))) = some r := by rw [if_neg (show ¬ (false = true) by decide)] at H; exact H
                clear H
                have H := H1
                clear H1
                replace H := Option.bind_eq_some_iff.mp H
                obtain ⟨⟨t420, t423⟩, A250, H⟩ := H
                replace H : (if t423 = 0 then (customhouselaw02_TreeBinds.j2 kj14 l0 a2 l3 t414 (Int.tmod (wrap64 (a1)) (l0.length : Int)) ((t420.length : Int) != (l3.length : Int))) else (customhouselaw02_TreeBinds.j2 kj14 l0 a2 l3 t414 (Int.tmod (wrap64 (a1)) (l0.length : Int)) true)) = some r := H
                have A25 := Aside0.mk A250
                clear A250
                have HC26 := Aside0.mk H
                clear H
                go_upto_region 8 with (first | ((with_reducible refine gate_callee (f := 32) rfl ?_); refine goesL_ (some 59) rfl rfl Tryd.func32 (by kernel_rfl) rfl #[.slice A0 l0.length c0, .int .i64 (Int.tmod (wrap64 (a1)) (l0.length : Int))] rfl (by (try simp only [List.map_toArray, List.map_cons, List.map_nil]); first | done | rfl | (simp only [List.length_drop, List.length_take]; rfl)) ?_; (with_reducible refine (tree_Path.calls kj14 (fun k_ => k_ < w.heap.size) _ _ l0 (Int.tmod (wrap64 (a1)) (l0.length : Int)) t420 t423 _ ?side2 ?side1 A25.out).mono ?_); (case side1 => exact Kd.V_mk HC0.out (Kd.F_below (Kd.C_F Kd.heap_string HR0.out) (by repeat (first | (with_reducible first | exact HB.out | apply below_alloc | apply pw_below_drewN | apply below_drew1) | exact HB.out)))); (case side2 => exact GL.below HG.out (by repeat (first | (with_reducible first | exact HB.out | apply below_alloc | apply pw_below_drewN | apply below_drew1) | exact HB.out))); rintro e w27 ⟨v421, rfl, ho0, hb⟩; refine ⟨_, rfl, ?_⟩; have n0_ := Aside0.mk (Kd.R_lower (Kd.R_mono (ok' := fun k_ => True) ho0 (fun _ hk_ => trivial)) (below_size (by repeat (first | (with_reducible first | exact HB.out | apply below_alloc | apply pw_below_drewN | apply below_drew1) | exact HB.out)))); have n1_ := Aside0.mk (below_step (by repeat (first | (with_reducible first | exact HB.out | apply below_alloc | apply pw_below_drewN | apply below_drew1) | exact HB.out)) hb); clear HB; have HO422 := n0_; have HB := n1_; clear n0_ n1_; (try clear hb); (try clear hb2); (try clear hk); (try clear hi); (try clear ho0)))
                (try simp only [Act.put, List.setIfInBounds_toArray, List.set_cons_zero, List.set_cons_succ])
                go_cut [70] (fun v70 wc => ∃ (kq : Nat) (x70_25 : Bool), v70 = .bool x70_25 ∧ Aside0 (customhouselaw02_TreeBinds.j2 kq l0 a2 l3 t414 (Int.tmod (wrap64 (a1)) (l0.length : Int)) x70_25 = some r) ∧ Aside0 (kq ≤ kj14) ∧ Aside0 (Below w.heap.size w wc))
                case first =>
                  have H := HC26.out
                  clear HC26
                  by_cases c28 : t423 = 0
                  · rw [if_pos c28] at H
                    have c28b0 : (t423 == 0) = true := beq_iff_eq.mpr c28
                    have c28b1 : (t423 != 0) = false := bne_eq_false_iff_eq.mpr c28
                    clear c28
                    (first | rw [c28b0] | (simp only [i64_w, i32_w]; rw [c28b0]) | skip)
                    have H' := Aside0.mk H
                    clear H
                    obtain ⟨Ao29, co29, eo29⟩ := Kd.R_slice HO422.out
                    subst eo29
                    go_wp2
                    (try rw [← hji16]); go_meet
                    case rel => exact ⟨_, (((t420.length : Int) != (l3.length : Int))), (by first | rfl | (simp; done) | (simp [*]; done)), (by first | exact H' | (rw [hji16]; exact H')), ⟨by have := HJ5.out; have := HJ14.out; first | omega | exact Nat.le_refl _⟩, ⟨by repeat (first | (with_reducible first | exact HB.out | apply below_alloc | apply pw_below_drewN | apply below_drew1) | exact HB.out)⟩⟩
                  · rw [if_neg c28] at H
                    have c28b0 : (t423 == 0) = false := beq_eq_false_iff_ne.mpr c28
                    have c28b1 : (t423 != 0) = true := bne_iff_ne.mpr c28
                    (first | rw [c28b0] | (simp only [i64_w, i32_w]; rw [c28b0]) | skip)
                    have H' := Aside0.mk H
                    clear H
                    go_wp2
                    (try rw [← hji16]); go_meet
                    case rel => exact ⟨_, (true), (by first | rfl | (simp; done) | (simp [*]; done)), (by first | exact H' | (rw [hji16]; exact H')), ⟨by have := HJ5.out; have := HJ14.out; first | omega | exact Nat.le_refl _⟩, ⟨by repeat (first | (with_reducible first | exact HB.out | apply below_alloc | apply pw_below_drewN | apply below_drew1) | exact HB.out)⟩⟩
                case rest =>
                  clear HC26
                  try clear c1
                  try clear c2
                  try clear p2
                  try clear c3
                  try clear p4
                  try clear q4
                  try clear hx4
                  try clear p6
                  try clear c9
                  try clear c11
                  try clear c12
                  try clear c12b0
                  try clear c12b1
                  try clear c13
                  try clear c14
                  try clear c14b0
                  try clear c14b1
                  try clear c14b2
                  try clear c17
                  try clear c17b0
                  try clear c18
                  try clear c18b0
                  try clear c19
                  try clear c19b0
                  try clear c19b1
                  try clear c24
                  try clear c28
                  try clear c28b0
                  try clear c28b1
                  try clear hx417_0
                  try clear p2
                  try clear p4
                  try clear p417
                  try clear p6
                  try clear q4
                  try clear q417
                  obtain ⟨kq, x70_25, rfl, HA, HJ25, HB⟩ := hcut
                  cases kq with
                  | zero => exact absurd HA.out (by simp [customhouselaw02_TreeBinds.j2])
                  | succ kj25 =>
                    have H := HA.out
                    clear HA
                    simp only [customhouselaw02_TreeBinds.j2] at H
                    by_cases c30 : x70_25 = true
                    · subst c30
                      have H1 : (some false) = some r := by rw [if_pos rfl] at H; exact H
                      clear H
                      have H := H1
                      clear H1
                      obtain rfl := Option.some.inj H
                      go_wp2
                      go_ret
                      exact ⟨by first | rfl | (simp [errW_none, errW_some] <;> rfl) | (simp [*, errW_none, errW_some] <;> rfl), by repeat (first | (with_reducible first | exact HB.out | apply below_alloc | apply pw_below_drewN | apply below_drew1) | exact HB.out)⟩
                    · replace c30 := Bool.eq_false_iff.mpr c30
                      subst c30
                      have H1 : (if t414 = true then ((customhouseref02_Texts.f kj25 l0).bind fun t424 => ((customhouseref02_PathTexts.f kj25 (l0.length : Int) (Int.tmod (wrap64 (a1)) (l0.length : Int)) a2 l3).bind fun t427 => (if t424.length + t427.length < 8796093022208 then ((customhouseref02_Shown.f kj25 (t424 ++ t427)).bind fun t433 => (some t433)) else (none)))) else (some false)) = some r := by rw [if_neg (show ¬ (false = true) by decide)] at H; exact H
                      clear H
                      have H := H1
                      clear H1
                      by_cases c31 : t414 = true
                      · subst c31
                        have H1 : ((customhouseref02_Texts.f kj25 l0).bind fun t424 => ((customhouseref02_PathTexts.f kj25 (l0.length : Int) (Int.tmod (wrap64 (a1)) (l0.length : Int)) a2 l3).bind fun t427 => (if t424.length + t427.length < 8796093022208 then ((customhouseref02_Shown.f kj25 (t424 ++ t427)).bind fun t433 => (some t433)) else (none)))) = some r := by rw [if_pos rfl] at H; exact H
                        clear H
                        have H := H1
                        clear H1
                        replace H := Option.bind_eq_some_iff.mp H
                        obtain ⟨t424, A320, H⟩ := H
                        replace H : ((customhouseref02_PathTexts.f kj25 (l0.length : Int) (Int.tmod (wrap64 (a1)) (l0.length : Int)) a2 l3).bind fun t427 => (if t424.length + t427.length < 8796093022208 then ((customhouseref02_Shown.f kj25 (t424 ++ t427)).bind fun t433 => (some t433)) else (none))) = some r := H
                        have A32 := Aside0.mk A320
                        clear A320
                        replace H := Option.bind_eq_some_iff.mp H
                        obtain ⟨t427, A330, H⟩ := H
                        replace H : (if t424.length + t427.length < 8796093022208 then ((customhouseref02_Shown.f kj25 (t424 ++ t427)).bind fun t433 => (some t433)) else (none)) = some r := H
                        have A33 := Aside0.mk A330
                        clear A330
                        by_cases c34 : t424.length + t427.length < 8796093022208
                        · rw [if_pos c34] at H
                          have LMc34 := Aside0.mk c34
                          clear c34
                          obtain ⟨y430, hy430⟩ : ∃ y_ : List ByteArray, y_ = (t424 ++ t427) := ⟨_, rfl⟩
                          replace H : ((customhouseref02_Shown.f kj25 y430).bind fun t433 => (some t433)) = some r := by first | (rw [hy430]; with_reducible exact H) | (have H2_ := (Option.bind_some _ _).symm.trans H; rw [hy430]; with_reducible exact H2_) | (have H2_ := (Option.bind_some _ _).symm.trans H; with_reducible exact H2_) | with_reducible exact H | (rw [hy430]; exact H) | exact H
                          have Ny430 := Aside0.mk hy430
                          clear hy430
                          replace H := Option.bind_eq_some_iff.mp H
                          obtain ⟨t433, A350, H⟩ := H
                          replace H : (some t433) = some r := H
                          have A35 := Aside0.mk A350
                          clear A350
                          obtain rfl := Option.some.inj H
                          go_wp2_with (first | (go_at_call 36; (with_reducible refine (customhouseref02_Texts.calls kj25 _ _ l0 t424 _ ?side1 ?side2 A32.out).mono ?_); (case side1 => repeat (first | exact (Kd.C_below HR0.out HB.out) | (with_reducible refine Kd.C_alloc ?_ _) | (with_reducible refine Kd.C_drewN ?_ _) | (with_reducible refine Kd.C_drew ?_))); (case side2 => exact HC0.out); rintro e w36 ⟨v425, rfl, ho0, hb⟩; have n0_ := Aside0.mk (Kd.R_lower ho0 (below_size (by repeat (first | (with_reducible first | exact HB.out | apply below_alloc | apply pw_below_drewN | apply below_drew1) | exact HB.out)))); have n1_ := Aside0.mk (below_step (by repeat (first | (with_reducible first | exact HB.out | apply below_alloc | apply pw_below_drewN | apply below_drew1) | exact HB.out)) hb); clear HB; have HO426 := n0_; have HB := n1_; clear n0_ n1_; (try clear hb); (try clear hb2); (try clear hk); (try clear hi); (try clear ho0)) | (go_at_call 37; (with_reducible refine (customhouseref02_PathTexts.calls kj25 (l0.length : Int) (Int.tmod (wrap64 (a1)) (l0.length : Int)) a2 _ _ l3 t427 _ ?side1 ?side2 A33.out).mono ?_); (case side1 => repeat (first | exact (Kd.C_below HR3.out HB.out) | (with_reducible refine Kd.C_alloc ?_ _) | (with_reducible refine Kd.C_drewN ?_ _) | (with_reducible refine Kd.C_drew ?_))); (case side2 => exact HC3.out); rintro e w37 ⟨v428, rfl, ho0, hb⟩; have n0_ := Aside0.mk (Kd.R_elder' (by (with_reducible repeat (first | apply Kd.R_alloc | apply Kd.R_drewN | apply Kd.R_drew)); exact HO426.out) (Kd.R_base ho0) hb); have n1_ := Aside0.mk (Kd.R_lower (Kd.R_new' ho0 (Kd.R_lt (by (with_reducible repeat (first | apply Kd.R_alloc | apply Kd.R_drewN | apply Kd.R_drew)); exact HO426.out))) (below_size (by repeat (first | (with_reducible first | exact HB.out | apply below_alloc | apply pw_below_drewN | apply below_drew1) | exact HB.out)))); have n2_ := Aside0.mk (below_step (by repeat (first | (with_reducible first | exact HB.out | apply below_alloc | apply pw_below_drewN | apply below_drew1) | exact HB.out)) hb); clear HO426; clear HB; have HO426 := n0_; have HO429 := n1_; have HB := n2_; clear n0_ n1_ n2_; (try clear hb); (try clear hb2); (try clear hk); (try clear hi); (try clear ho0); obtain ⟨Ao39, co39, eo39⟩ := Kd.R_slice HO429.out; subst eo39) | ((with_reducible refine gate_builtin (b := .append) (xs := #[.tmp 74, .tmp 80]) rfl ?_); (try (refine gate_guard (by rfl) ?_; dsimp only)); at_builtin; refine Kd.R_append_rows Kd.string (w0 := w) w.heap.size rfl (.tmp 74) (.tmp 80) 22 9 (.string ⟨#[]⟩) 16 rfl Tryd.underlying22 info9 rfl (by decide) (by omega) v425 t424 t427 _ _ _ (fun k_ => some k_ ≠ (.slice Ao39 t427.length co39 : Value).ownBlock) (fun _ => False) rfl rfl ?aO ?aR (fun _ _ h => h) (fun _ h => h.elim) ?aF ?aB ?aS ?aL ?_; (case aR => repeat (first | exact (Kd.R_reads' HO429.out).2.2 | (with_reducible refine Kd.C_alloc ?_ _) | (with_reducible refine Kd.C_drewN ?_ _) | (with_reducible refine Kd.C_drew ?_))); (case aB => exact (by repeat (first | (with_reducible first | exact HB.out | apply below_alloc | apply pw_below_drewN | apply below_drew1) | exact HB.out))); (case aF => exact (fun k_ hk => Kd.fresh' (Kd.R_lt (by (with_reducible repeat (first | apply Kd.R_alloc | apply Kd.R_drewN | apply Kd.R_drew)); exact HO429.out)) k_ hk)); (case aO => exact (by (with_reducible repeat (first | apply Kd.R_alloc | apply Kd.R_drewN | apply Kd.R_drew)); exact Kd.R_mono HO426.out (fun _ hk => hk.2))); (case aS => exact (below_size (by repeat (first | (with_reducible first | exact HB.out | apply below_alloc | apply pw_below_drewN | apply below_drew1) | exact HB.out)))); (case aL => have := LMc34.out; omega); intro v431 w38 ho hb hg hat; rw [← Ny430.out] at ho; have n0_ := Aside0.mk (Kd.R_after (ok := (fun _ => True)) (by (with_reducible repeat (first | apply Kd.R_alloc | apply Kd.R_drewN | apply Kd.R_drew)); exact HO429.out) hg hat); have n1_ := Aside0.mk (hb); have n2_ := Aside0.mk (ho); clear HO429; clear HB; clear HO426; have HO429 := n0_; have HB := n1_; have HO432 := n2_; clear n0_ n1_ n2_; clear ho hb hg hat; obtain ⟨Ao40, co40, eo40⟩ := Kd.R_slice HO432.out; subst eo40) | (go_at_call 35; (with_reducible refine (customhouseref02_Shown.calls kj25 _ _ y430 t433 _ ?side1 ?side2 A35.out).mono ?_); (case side1 => repeat (first | exact (Kd.R_reads' HO432.out).2.2 | (with_reducible refine Kd.C_alloc ?_ _) | (with_reducible refine Kd.C_drewN ?_ _) | (with_reducible refine Kd.C_drew ?_))); (case side2 => exact (Kd.R_reads' HO432.out).2.1); rintro e w41 ⟨rfl, hb⟩; have n0_ := Aside0.mk (Kd.R_below (by (with_reducible repeat (first | apply Kd.R_alloc | apply Kd.R_drewN | apply Kd.R_drew)); exact HO429.out) hb); have n1_ := Aside0.mk (Kd.R_below (by (with_reducible repeat (first | apply Kd.R_alloc | apply Kd.R_drewN | apply Kd.R_drew)); exact HO432.out) hb); have n2_ := Aside0.mk (below_step (by repeat (first | (with_reducible first | exact HB.out | apply below_alloc | apply pw_below_drewN | apply below_drew1) | exact HB.out)) hb); clear HO429; clear HO432; clear HB; have HO429 := n0_; have HO432 := n1_; have HB := n2_; clear n0_ n1_ n2_; (try clear hb); (try clear hb2); (try clear hk); (try clear hi)))
                          go_ret
                          exact ⟨by first | rfl | (simp [errW_none, errW_some] <;> rfl) | (simp [*, errW_none, errW_some] <;> rfl), by repeat (first | (with_reducible first | exact HB.out | apply below_alloc | apply pw_below_drewN | apply below_drew1) | exact HB.out)⟩
                        · rw [if_neg c34] at H
                          exact absurd H (by simp)
                      · replace c31 := Bool.eq_false_iff.mpr c31
                        subst c31
                        have H1 : (some false) = some r := by rw [if_neg (show ¬ (false = true) by decide)] at H; exact H
                        clear H
                        have H := H1
                        clear H1
                        obtain rfl := Option.some.inj H
                        go_wp2
                        go_ret
                        exact ⟨by first | rfl | (simp [errW_none, errW_some] <;> rfl) | (simp [*, errW_none, errW_some] <;> rfl), by repeat (first | (with_reducible first | exact HB.out | apply below_alloc | apply pw_below_drewN | apply below_drew1) | exact HB.out)⟩

end Go.Proofs.YtdlipbfcadmhjaaDoor.PG2
