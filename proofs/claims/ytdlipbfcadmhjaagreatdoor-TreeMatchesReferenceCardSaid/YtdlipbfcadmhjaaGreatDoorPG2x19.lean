/- Written by a program of this session's over the kit's print: the functions that a law comes to as plain Lean functions, and that Go's code computes them. Nothing is assumed. -/
import Derived.Test.YtdlipbfcadmhjaaGreatDoorPG2x0
import Derived.Test.YtdlipbfcadmhjaaGreatDoorPG2x9
import Derived.Test.YtdlipbfcadmhjaaGreatDoorPG2x16
import Derived.Test.YtdlipbfcadmhjaaGreatDoorPG2x18
namespace Go.Proofs.YtdlipbfcadmhjaaGreatDoor.PG2
open Go.RowKit Go.Proofs.YtdlipbfcadmhjaaGreatDoorW.PrintWords Go.Proofs.YtdlipbfcadmhjaaGreatDoorW.PrintLast Go.Proofs.YtdlipbfcadmhjaaGreatDoorW.PrintMore
attribute [local go_sem] max2_int min2_int max_two min_two max_three min_three max_four min_four   -- for this text's walks alone
set_option linter.unusedVariables false
set_option linter.unusedSimpArgs false

/-! ### customhouseref02_Extends: function 35 -/
def customhouseref02_Extends.j0 : Nat → ByteArray → Int → ByteArray → Int → List ByteArray → Bool → Option (Bool)
  | 0, _, _, _, _, _, _ => none
  | k + 1, x0, x1, x2, x3, x4, x35 => if x35 = true then (some false) else (if x1 = 0 then (if (x4.length : Int) = 0 then ((customhouseref02_Empty.f k).bind fun t379 => (if x0.toList = t379.toList then (if x3 > 0 then (some true) else (some (x2.toList == x0.toList))) else (some false))) else (some false)) else (if x1 = x3 then (if (x4.length : Int) = 0 then (some (x0.toList == x2.toList)) else (some false)) else ((customhouseref02_long.f k x3 x1 true).bind fun t380 => (if (x4.length : Int) = t380 then ((customhouseref02_both.f k x3 x1 true x0 x4).bind fun bt381 => (if bt381.1.toList = x0.toList then (some (bt381.2.toList == x2.toList)) else (some false))) else (some false)))))
def customhouseref02_Extends.f (k : Nat) (a0 : ByteArray) (a1 : Int) (a2 : ByteArray) (a3 : Int) (l4 : List ByteArray) : Option (Bool) := if a1 < 0 then (customhouseref02_Extends.j0 k a0 a1 a2 a3 l4 true) else (if a1 > a3 then (customhouseref02_Extends.j0 k a0 a1 a2 a3 l4 true) else (if a3 > 1000000 then (customhouseref02_Extends.j0 k a0 a1 a2 a3 l4 true) else ((customhouseref02_digests.f k (([a0, a2] : List ByteArray))).bind fun t377 => (if t377 = true then ((customhouseref02_digests.f k l4).bind fun t378 => (customhouseref02_Extends.j0 k a0 a1 a2 a3 l4 (!t378))) else (customhouseref02_Extends.j0 k a0 a1 a2 a3 l4 true)))))
theorem customhouseref02_Extends.mono_l : ∀ k, (∀ y0 y1 y2 y3 y4 y5, LeO (customhouseref02_Extends.j0 k y0 y1 y2 y3 y4 y5) (customhouseref02_Extends.j0 (k + 1) y0 y1 y2 y3 y4 y5))
  | 0 => fun _ _ _ _ _ _ r h => by simp [customhouseref02_Extends.j0] at h
  | k + 1 => by
    have ih0 := customhouseref02_Extends.mono_l k
    · intro y0 y1 y2 y3 y4 y5
      unfold customhouseref02_Extends.j0
      repeat' first
      | (with_reducible exact ih0 _ _ _ _ _ _)
      | (with_reducible exact customhouseref02_Empty.mono _)
      | (with_reducible exact customhouseref02_both.mono _ _ _ _ _ _)
      | (with_reducible exact customhouseref02_digests.mono _ _)
      | (with_reducible exact customhouseref02_long.mono _ _ _ _)
      | (with_reducible exact LeO.refl _)
      | (with_reducible exact LeO.none _)
      | (with_reducible refine LeO.ite ?_ ?_)
      | (with_reducible refine LeO.bind ?_ (fun _ => ?_))
      | exact ih0 _ _ _ _ _ _
      | exact customhouseref02_Empty.mono _
      | exact customhouseref02_both.mono _ _ _ _ _ _
      | exact customhouseref02_digests.mono _ _
      | exact customhouseref02_long.mono _ _ _ _
      | exact LeO.none _
      | refine LeO.ite ?_ ?_
      | refine LeO.bind ?_ (fun _ => ?_)
theorem customhouseref02_Extends.mono : ∀ a0 a1 a2 a3 a4 k, LeO (customhouseref02_Extends.f k a0 a1 a2 a3 a4) (customhouseref02_Extends.f (k + 1) a0 a1 a2 a3 a4) := by
  intro a0 a1 a2 a3 a4 k
  have ih0 := customhouseref02_Extends.mono_l k
  unfold customhouseref02_Extends.f
  repeat' first
      | (with_reducible exact ih0 _ _ _ _ _ _)
      | (with_reducible exact customhouseref02_Empty.mono _)
      | (with_reducible exact customhouseref02_both.mono _ _ _ _ _ _)
      | (with_reducible exact customhouseref02_digests.mono _ _)
      | (with_reducible exact customhouseref02_long.mono _ _ _ _)
      | (with_reducible exact LeO.refl _)
      | (with_reducible exact LeO.none _)
      | (with_reducible refine LeO.ite ?_ ?_)
      | (with_reducible refine LeO.bind ?_ (fun _ => ?_))
      | exact ih0 _ _ _ _ _ _
      | exact customhouseref02_Empty.mono _
      | exact customhouseref02_both.mono _ _ _ _ _ _
      | exact customhouseref02_digests.mono _ _
      | exact customhouseref02_long.mono _ _ _ _
      | exact LeO.none _
      | refine LeO.ite ?_ ?_
      | refine LeO.bind ?_ (fun _ => ?_)
set_option maxHeartbeats 8000000 in
set_option maxRecDepth 100000 in
theorem customhouseref02_Extends.calls (k : Nat) (a0 : ByteArray) (a1 : Int) (a2 : ByteArray) (a3 : Int) (A4 : Option Addr) (c4 : Nat) (l4 : List ByteArray) (r : Bool) (w : World) (hr4 : Kd.C Kd.string w A4 l4.length l4) (hc4 : l4.length ≤ c4) (h : customhouseref02_Extends.f k a0 a1 a2 a3 l4 = some r) :
    Calls Tryz.prog 35 #[.string a0, .int .i64 a1, .string a2, .int .i64 a3, .slice A4 l4.length c4] w fun e w' => e = .returned (.bool r) ∧ Below w.heap.size w w' := by
  have HR4 := Aside0.mk hr4
  have HC4 := Aside0.mk hc4
  clear hr4 hc4
  have HB := Aside0.mk (Below.refl w.heap.size w)
  have H : (if a1 < 0 then (customhouseref02_Extends.j0 k a0 a1 a2 a3 l4 true) else (if a1 > a3 then (customhouseref02_Extends.j0 k a0 a1 a2 a3 l4 true) else (if a3 > 1000000 then (customhouseref02_Extends.j0 k a0 a1 a2 a3 l4 true) else ((customhouseref02_digests.f k (([a0, a2] : List ByteArray))).bind fun t377 => (if t377 = true then ((customhouseref02_digests.f k l4).bind fun t378 => (customhouseref02_Extends.j0 k a0 a1 a2 a3 l4 (!t378))) else (customhouseref02_Extends.j0 k a0 a1 a2 a3 l4 true)))))) = some r := h
  clear h
  have HC6 := Aside0.mk H
  clear H
  go_enter Tryz.func35, Tryz.ntmps35
  go_upto_region 1 with (fail)
  go_cut [35] (fun v35 wc => ∃ (kq : Nat) (x35_5 : Bool), v35 = .bool x35_5 ∧ Aside0 (customhouseref02_Extends.j0 kq a0 a1 a2 a3 l4 x35_5 = some r) ∧ Aside0 (kq ≤ k) ∧ Aside0 (Below w.heap.size w wc))
  case first =>
    have H := HC6.out
    clear HC6
    by_cases c7 : a1 < 0
    · rw [if_pos c7] at H
      have c7b0 : decide (a1 < 0) = true := decide_eq_true c7
      clear c7
      (first | rw [c7b0] | (simp only [i64_w, i32_w]; rw [c7b0]) | skip)
      have H' := Aside0.mk H
      clear H
      go_wp2
      go_meet
      case rel => exact ⟨_, (true), (by first | rfl | (simp; done) | (simp [*]; done)), H', ⟨by first | omega | exact Nat.le_refl _⟩, ⟨by repeat (first | (with_reducible first | exact HB.out | apply below_alloc | apply pw_below_drewN | apply below_drew1) | exact HB.out)⟩⟩
    · rw [if_neg c7] at H
      have c7b0 : decide (a1 < 0) = false := decide_eq_false c7
      clear c7
      (first | rw [c7b0] | (simp only [i64_w, i32_w]; rw [c7b0]) | skip)
      by_cases c8 : a1 > a3
      · rw [if_pos c8] at H
        have c8b0 : decide (a3 < a1) = true := decide_eq_true c8
        clear c8
        have H' := Aside0.mk H
        clear H
        go_wp2
        go_meet
        case rel => exact ⟨_, (true), (by first | rfl | (simp; done) | (simp [*]; done)), H', ⟨by first | omega | exact Nat.le_refl _⟩, ⟨by repeat (first | (with_reducible first | exact HB.out | apply below_alloc | apply pw_below_drewN | apply below_drew1) | exact HB.out)⟩⟩
      · rw [if_neg c8] at H
        have c8b0 : decide (a3 < a1) = false := decide_eq_false c8
        clear c8
        by_cases c9 : a3 > 1000000
        · rw [if_pos c9] at H
          have c9b0 : decide (1000000 < a3) = true := decide_eq_true c9
          clear c9
          have H' := Aside0.mk H
          clear H
          go_wp2
          go_meet
          case rel => exact ⟨_, (true), (by first | rfl | (simp; done) | (simp [*]; done)), H', ⟨by first | omega | exact Nat.le_refl _⟩, ⟨by repeat (first | (with_reducible first | exact HB.out | apply below_alloc | apply pw_below_drewN | apply below_drew1) | exact HB.out)⟩⟩
        · rw [if_neg c9] at H
          have c9b0 : decide (1000000 < a3) = false := decide_eq_false c9
          clear c9
          obtain ⟨y374, hy374⟩ : ∃ y_ : List ByteArray, y_ = (([a0, a2] : List ByteArray)) := ⟨_, rfl⟩
          replace H : ((customhouseref02_digests.f k y374).bind fun t377 => (if t377 = true then ((customhouseref02_digests.f k l4).bind fun t378 => (customhouseref02_Extends.j0 k a0 a1 a2 a3 l4 (!t378))) else (customhouseref02_Extends.j0 k a0 a1 a2 a3 l4 true))) = some r := by first | (rw [hy374]; with_reducible exact H) | (have H2_ := (Option.bind_some _ _).symm.trans H; rw [hy374]; with_reducible exact H2_) | (have H2_ := (Option.bind_some _ _).symm.trans H; with_reducible exact H2_) | with_reducible exact H | (rw [hy374]; exact H) | exact H
          have Ny374 := Aside0.mk hy374
          clear hy374
          replace H := Option.bind_eq_some_iff.mp H
          obtain ⟨t377, A100, H⟩ := H
          replace H : (if t377 = true then ((customhouseref02_digests.f k l4).bind fun t378 => (customhouseref02_Extends.j0 k a0 a1 a2 a3 l4 (!t378))) else (customhouseref02_Extends.j0 k a0 a1 a2 a3 l4 true)) = some r := H
          have A10 := Aside0.mk A100
          clear A100
          by_cases c11 : t377 = true
          · subst c11
            have H1 : ((customhouseref02_digests.f k l4).bind fun t378 => (customhouseref02_Extends.j0 k a0 a1 a2 a3 l4 (!t378))) = some r := by rw [if_pos rfl] at H; exact H
            clear H
            have H := H1
            clear H1
            replace H := Option.bind_eq_some_iff.mp H
            obtain ⟨t378, A120, H⟩ := H
            replace H : (customhouseref02_Extends.j0 k a0 a1 a2 a3 l4 (!t378)) = some r := H
            have A12 := Aside0.mk A120
            clear A120
            have H' := Aside0.mk H
            clear H
            go_wp2_with (first | ((with_reducible refine gate_dst (N := 27) rfl ?_); (try (refine gate_guard (by rfl) ?_; dsimp only)); refine Kd.R_lit Kd.string _ 9 ?hg (N := 27) ?hd (xs := ([a0, a2] : List ByteArray)) (inner := [.string a0, .string a2]) (ok := fun _ => True) (okp := fun _ => True) ?hr ?hp (fun _ hk => hk) trivial (Below.refl _ _) (Nat.le_refl _) (by simp) ?_; (case hd => rfl); (case hg => rfl); (case hr => first | (go_simp; done) | (go_simp; rfl)); (case hp => exact (Reps.one (show Kd.M Kd.string _ _ _ a0 [.string a0] from rfl) (Reps.one (show Kd.M Kd.string _ _ _ a2 [.string a2] from rfl) (Reps.none _ _)))); intro v375 w13 ho14 hb hg_ hnew_; clear hg_ hnew_; (first | rw [← Ny374.out] at ho14 | (simp only [Int.reduceToNat] at ho14; rw [← Ny374.out] at ho14)); have n0_ := Aside0.mk (Kd.R_lower ho14 (below_size (by repeat (first | (with_reducible first | exact HB.out | apply below_alloc | apply pw_below_drewN | apply below_drew1) | exact HB.out)))); have n1_ := Aside0.mk (below_step (by repeat (first | (with_reducible first | exact HB.out | apply below_alloc | apply pw_below_drewN | apply below_drew1) | exact HB.out)) hb); clear HB; have HO376 := n0_; have HB := n1_; clear n0_ n1_; clear hb ho14; obtain ⟨Ao15, co15, eo15⟩ := Kd.R_slice HO376.out; subst eo15) | (go_at_call 97; (with_reducible refine (customhouseref02_digests.calls k _ _ y374 true _ ?side1 ?side2 A10.out).mono ?_); (case side1 => repeat (first | exact (Kd.R_reads' HO376.out).2.2 | (with_reducible refine Kd.C_alloc ?_ _) | (with_reducible refine Kd.C_drewN ?_ _) | (with_reducible refine Kd.C_drew ?_))); (case side2 => exact (Kd.R_reads' HO376.out).2.1); rintro e w' ⟨rfl, ⟨nd, rfl⟩⟩) | (go_at_call 97; (with_reducible refine (customhouseref02_digests.calls k _ _ l4 t378 _ ?side1 ?side2 A12.out).mono ?_); (case side1 => repeat (first | exact (Kd.C_below HR4.out (by repeat (first | (with_reducible first | exact HB.out | apply below_alloc | apply pw_below_drewN | apply below_drew1) | exact HB.out))) | (with_reducible refine Kd.C_alloc ?_ _) | (with_reducible refine Kd.C_drewN ?_ _) | (with_reducible refine Kd.C_drew ?_))); (case side2 => exact HC4.out); rintro e w' ⟨rfl, ⟨nd, rfl⟩⟩))
            go_meet
            case rel => exact ⟨_, (!t378), (by first | rfl | (simp; done) | (simp [*]; done)), H', ⟨by first | omega | exact Nat.le_refl _⟩, ⟨by repeat (first | (with_reducible first | exact HB.out | apply below_alloc | apply pw_below_drewN | apply below_drew1) | exact HB.out)⟩⟩
          · replace c11 := Bool.eq_false_iff.mpr c11
            subst c11
            have H1 : (customhouseref02_Extends.j0 k a0 a1 a2 a3 l4 true) = some r := by rw [if_neg (show ¬ (false = true) by decide)] at H; exact H
            clear H
            have H := H1
            clear H1
            have H' := Aside0.mk H
            clear H
            go_wp2_with (first | ((with_reducible refine gate_dst (N := 27) rfl ?_); (try (refine gate_guard (by rfl) ?_; dsimp only)); refine Kd.R_lit Kd.string _ 9 ?hg (N := 27) ?hd (xs := ([a0, a2] : List ByteArray)) (inner := [.string a0, .string a2]) (ok := fun _ => True) (okp := fun _ => True) ?hr ?hp (fun _ hk => hk) trivial (Below.refl _ _) (Nat.le_refl _) (by simp) ?_; (case hd => rfl); (case hg => rfl); (case hr => first | (go_simp; done) | (go_simp; rfl)); (case hp => exact (Reps.one (show Kd.M Kd.string _ _ _ a0 [.string a0] from rfl) (Reps.one (show Kd.M Kd.string _ _ _ a2 [.string a2] from rfl) (Reps.none _ _)))); intro v375 w16 ho17 hb hg_ hnew_; clear hg_ hnew_; (first | rw [← Ny374.out] at ho17 | (simp only [Int.reduceToNat] at ho17; rw [← Ny374.out] at ho17)); have n0_ := Aside0.mk (Kd.R_lower ho17 (below_size (by repeat (first | (with_reducible first | exact HB.out | apply below_alloc | apply pw_below_drewN | apply below_drew1) | exact HB.out)))); have n1_ := Aside0.mk (below_step (by repeat (first | (with_reducible first | exact HB.out | apply below_alloc | apply pw_below_drewN | apply below_drew1) | exact HB.out)) hb); clear HB; have HO376 := n0_; have HB := n1_; clear n0_ n1_; clear hb ho17; obtain ⟨Ao18, co18, eo18⟩ := Kd.R_slice HO376.out; subst eo18) | (go_at_call 97; (with_reducible refine (customhouseref02_digests.calls k _ _ y374 false _ ?side1 ?side2 A10.out).mono ?_); (case side1 => repeat (first | exact (Kd.R_reads' HO376.out).2.2 | (with_reducible refine Kd.C_alloc ?_ _) | (with_reducible refine Kd.C_drewN ?_ _) | (with_reducible refine Kd.C_drew ?_))); (case side2 => exact (Kd.R_reads' HO376.out).2.1); rintro e w' ⟨rfl, ⟨nd, rfl⟩⟩))
            go_meet
            case rel => exact ⟨_, (true), (by first | rfl | (simp; done) | (simp [*]; done)), H', ⟨by first | omega | exact Nat.le_refl _⟩, ⟨by repeat (first | (with_reducible first | exact HB.out | apply below_alloc | apply pw_below_drewN | apply below_drew1) | exact HB.out)⟩⟩
  case rest =>
    clear HC6
    try clear c1
    try clear p2
    try clear c3
    try clear c4
    try clear c7
    try clear c7b0
    try clear c8
    try clear c8b0
    try clear c9
    try clear c9b0
    try clear c11
    obtain ⟨kq, x35_5, rfl, HA, HJ5, HB⟩ := hcut
    cases kq with
    | zero => exact absurd HA.out (by simp [customhouseref02_Extends.j0])
    | succ kj5 =>
      have H := HA.out
      clear HA
      simp only [customhouseref02_Extends.j0] at H
      by_cases c19 : x35_5 = true
      · subst c19
        have H1 : (some false) = some r := by rw [if_pos rfl] at H; exact H
        clear H
        have H := H1
        clear H1
        obtain rfl := Option.some.inj H
        go_wp2
        go_ret
        exact ⟨by first | rfl | (simp [errW_none, errW_some] <;> rfl) | (simp [*, errW_none, errW_some] <;> rfl), by repeat (first | (with_reducible first | exact HB.out | apply below_alloc | apply pw_below_drewN | apply below_drew1) | exact HB.out)⟩
      · replace c19 := Bool.eq_false_iff.mpr c19
        subst c19
        have H1 : (if a1 = 0 then (if (l4.length : Int) = 0 then ((customhouseref02_Empty.f kj5).bind fun t379 => (if a0.toList = t379.toList then (if a3 > 0 then (some true) else (some (a2.toList == a0.toList))) else (some false))) else (some false)) else (if a1 = a3 then (if (l4.length : Int) = 0 then (some (a0.toList == a2.toList)) else (some false)) else ((customhouseref02_long.f kj5 a3 a1 true).bind fun t380 => (if (l4.length : Int) = t380 then ((customhouseref02_both.f kj5 a3 a1 true a0 l4).bind fun bt381 => (if bt381.1.toList = a0.toList then (some (bt381.2.toList == a2.toList)) else (some false))) else (some false))))) = some r := by rw [if_neg (show ¬ (false = true) by decide)] at H; exact H
        clear H
        have H := H1
        clear H1
        by_cases c20 : a1 = 0
        · rw [if_pos c20] at H
          have c20b0 : (a1 == 0) = true := beq_iff_eq.mpr c20
          have c20b1 : (a1 != 0) = false := bne_eq_false_iff_eq.mpr c20
          clear c20
          by_cases c21 : (l4.length : Int) = 0
          · rw [if_pos c21] at H
            have c21b0 : ((l4.length : Int) == 0) = true := beq_iff_eq.mpr c21
            have c21b1 : ((l4.length : Int) != 0) = false := bne_eq_false_iff_eq.mpr c21
            clear c21
            replace H := Option.bind_eq_some_iff.mp H
            obtain ⟨t379, A220, H⟩ := H
            replace H : (if a0.toList = t379.toList then (if a3 > 0 then (some true) else (some (a2.toList == a0.toList))) else (some false)) = some r := H
            have A22 := Aside0.mk A220
            clear A220
            by_cases c23 : a0.toList = t379.toList
            · rw [if_pos c23] at H
              have c23b0 : (a0.toList == t379.toList) = true := beq_iff_eq.mpr c23
              have c23b1 : (a0.toList != t379.toList) = false := bne_eq_false_iff_eq.mpr c23
              clear c23
              by_cases c24 : a3 > 0
              · rw [if_pos c24] at H
                have c24b0 : decide (0 < a3) = true := decide_eq_true c24
                clear c24
                obtain rfl := Option.some.inj H
                go_wp2_with (first | (go_at_call 88; (with_reducible refine (customhouseref02_Empty.calls kj5  t379 _ A22.out).mono ?_); rintro e w25 ⟨rfl, hb⟩; have n0_ := Aside0.mk (below_step (by repeat (first | (with_reducible first | exact HB.out | apply below_alloc | apply pw_below_drewN | apply below_drew1) | exact HB.out)) hb); clear HB; have HB := n0_; clear n0_; (try clear hb); (try clear hb2); (try clear hk); (try clear hi)))
                go_ret
                exact ⟨by first | rfl | (simp [errW_none, errW_some] <;> rfl) | (simp [*, errW_none, errW_some] <;> rfl), by repeat (first | (with_reducible first | exact HB.out | apply below_alloc | apply pw_below_drewN | apply below_drew1) | exact HB.out)⟩
              · rw [if_neg c24] at H
                have c24b0 : decide (0 < a3) = false := decide_eq_false c24
                clear c24
                obtain rfl := Option.some.inj H
                go_wp2_with (first | (go_at_call 88; (with_reducible refine (customhouseref02_Empty.calls kj5  t379 _ A22.out).mono ?_); rintro e w26 ⟨rfl, hb⟩; have n0_ := Aside0.mk (below_step (by repeat (first | (with_reducible first | exact HB.out | apply below_alloc | apply pw_below_drewN | apply below_drew1) | exact HB.out)) hb); clear HB; have HB := n0_; clear n0_; (try clear hb); (try clear hb2); (try clear hk); (try clear hi)))
                go_ret
                exact ⟨by first | rfl | (simp [errW_none, errW_some] <;> rfl) | (simp [*, errW_none, errW_some] <;> rfl), by repeat (first | (with_reducible first | exact HB.out | apply below_alloc | apply pw_below_drewN | apply below_drew1) | exact HB.out)⟩
            · rw [if_neg c23] at H
              have c23b0 : (a0.toList == t379.toList) = false := beq_eq_false_iff_ne.mpr c23
              have c23b1 : (a0.toList != t379.toList) = true := bne_iff_ne.mpr c23
              obtain rfl := Option.some.inj H
              go_wp2_with (first | (go_at_call 88; (with_reducible refine (customhouseref02_Empty.calls kj5  t379 _ A22.out).mono ?_); rintro e w27 ⟨rfl, hb⟩; have n0_ := Aside0.mk (below_step (by repeat (first | (with_reducible first | exact HB.out | apply below_alloc | apply pw_below_drewN | apply below_drew1) | exact HB.out)) hb); clear HB; have HB := n0_; clear n0_; (try clear hb); (try clear hb2); (try clear hk); (try clear hi)))
              go_ret
              exact ⟨by first | rfl | (simp [errW_none, errW_some] <;> rfl) | (simp [*, errW_none, errW_some] <;> rfl), by repeat (first | (with_reducible first | exact HB.out | apply below_alloc | apply pw_below_drewN | apply below_drew1) | exact HB.out)⟩
          · rw [if_neg c21] at H
            have c21b0 : ((l4.length : Int) == 0) = false := beq_eq_false_iff_ne.mpr c21
            have c21b1 : ((l4.length : Int) != 0) = true := bne_iff_ne.mpr c21
            have c21b2 : ¬ (l4 = []) := fun h_ => c21 (by rw [h_]; rfl)
            obtain rfl := Option.some.inj H
            go_wp2
            go_ret
            exact ⟨by first | rfl | (simp [errW_none, errW_some] <;> rfl) | (simp [*, errW_none, errW_some] <;> rfl), by repeat (first | (with_reducible first | exact HB.out | apply below_alloc | apply pw_below_drewN | apply below_drew1) | exact HB.out)⟩
        · rw [if_neg c20] at H
          have c20b0 : (a1 == 0) = false := beq_eq_false_iff_ne.mpr c20
          have c20b1 : (a1 != 0) = true := bne_iff_ne.mpr c20
          by_cases c28 : a1 = a3
          · rw [if_pos c28] at H
            have c28b0 : (a1 == a3) = true := beq_iff_eq.mpr c28
            have c28b1 : (a1 != a3) = false := bne_eq_false_iff_eq.mpr c28
            clear c28
            by_cases c29 : (l4.length : Int) = 0
            · rw [if_pos c29] at H
              have c29b0 : ((l4.length : Int) == 0) = true := beq_iff_eq.mpr c29
              have c29b1 : ((l4.length : Int) != 0) = false := bne_eq_false_iff_eq.mpr c29
              clear c29
              obtain rfl := Option.some.inj H
              go_wp2
              go_ret
              exact ⟨by first | rfl | (simp [errW_none, errW_some] <;> rfl) | (simp [*, errW_none, errW_some] <;> rfl), by repeat (first | (with_reducible first | exact HB.out | apply below_alloc | apply pw_below_drewN | apply below_drew1) | exact HB.out)⟩
            · rw [if_neg c29] at H
              have c29b0 : ((l4.length : Int) == 0) = false := beq_eq_false_iff_ne.mpr c29
              have c29b1 : ((l4.length : Int) != 0) = true := bne_iff_ne.mpr c29
              have c29b2 : ¬ (l4 = []) := fun h_ => c29 (by rw [h_]; rfl)
              obtain rfl := Option.some.inj H
              go_wp2
              go_ret
              exact ⟨by first | rfl | (simp [errW_none, errW_some] <;> rfl) | (simp [*, errW_none, errW_some] <;> rfl), by repeat (first | (with_reducible first | exact HB.out | apply below_alloc | apply pw_below_drewN | apply below_drew1) | exact HB.out)⟩
          · rw [if_neg c28] at H
            have c28b0 : (a1 == a3) = false := beq_eq_false_iff_ne.mpr c28
            have c28b1 : (a1 != a3) = true := bne_iff_ne.mpr c28
            replace H := Option.bind_eq_some_iff.mp H
            obtain ⟨t380, A300, H⟩ := H
            replace H : (if (l4.length : Int) = t380 then ((customhouseref02_both.f kj5 a3 a1 true a0 l4).bind fun bt381 => (if bt381.1.toList = a0.toList then (some (bt381.2.toList == a2.toList)) else (some false))) else (some false)) = some r := H
            have A30 := Aside0.mk A300
            clear A300
            by_cases c31 : (l4.length : Int) = t380
            · rw [if_pos c31] at H
              have c31b0 : ((l4.length : Int) == t380) = true := beq_iff_eq.mpr c31
              have c31b1 : ((l4.length : Int) != t380) = false := bne_eq_false_iff_eq.mpr c31
              clear c31
              replace H := Option.bind_eq_some_iff.mp H
              obtain ⟨⟨t381, t382⟩, A320, H⟩ := H
              replace H : (if t381.toList = a0.toList then (some (t382.toList == a2.toList)) else (some false)) = some r := H
              have A32 := Aside0.mk A320
              clear A320
              by_cases c33 : t381.toList = a0.toList
              · rw [if_pos c33] at H
                have c33b0 : (t381.toList == a0.toList) = true := beq_iff_eq.mpr c33
                have c33b1 : (t381.toList != a0.toList) = false := bne_eq_false_iff_eq.mpr c33
                clear c33
                obtain rfl := Option.some.inj H
                go_wp2_with (first | ((with_reducible refine gate_callee (f := 100) rfl ?_); refine goesL_ (some 70) rfl rfl Tryz.func100 (by kernel_rfl) rfl #[.int .i64 a3, .int .i64 a1, .bool true] rfl (by (try simp only [List.map_toArray, List.map_cons, List.map_nil]); first | done | rfl | (simp only [List.length_drop, List.length_take]; rfl)) ?_; (with_reducible refine (customhouseref02_long.calls kj5 a3 a1 true t380 _ A30.out).mono ?_); rintro e w' ⟨rfl, ⟨nd, rfl⟩⟩; refine ⟨_, rfl, ?_⟩) | ((with_reducible refine gate_callee (f := 101) rfl ?_); refine goesL_ (some 77) rfl rfl Tryz.func101 (by kernel_rfl) rfl #[.int .i64 a3, .int .i64 a1, .bool true, .string a0, .slice A4 l4.length c4] rfl (by (try simp only [List.map_toArray, List.map_cons, List.map_nil]); first | done | rfl | (simp only [List.length_drop, List.length_take]; rfl)) ?_; (with_reducible refine (customhouseref02_both.calls kj5 a3 a1 true a0 _ _ l4 t381 t382 _ ?side1 ?side2 A32.out).mono ?_); (case side1 => repeat (first | exact (Kd.C_below HR4.out (by repeat (first | (with_reducible first | exact HB.out | apply below_alloc | apply pw_below_drewN | apply below_drew1) | exact HB.out))) | (with_reducible refine Kd.C_alloc ?_ _) | (with_reducible refine Kd.C_drewN ?_ _) | (with_reducible refine Kd.C_drew ?_))); (case side2 => exact HC4.out); rintro e w34 ⟨rfl, hb⟩; refine ⟨_, rfl, ?_⟩; have n0_ := Aside0.mk (below_step (by repeat (first | (with_reducible first | exact HB.out | apply below_alloc | apply pw_below_drewN | apply below_drew1) | exact HB.out)) hb); clear HB; have HB := n0_; clear n0_; (try clear hb); (try clear hb2); (try clear hk); (try clear hi)))
                go_ret
                exact ⟨by first | rfl | (simp [errW_none, errW_some] <;> rfl) | (simp [*, errW_none, errW_some] <;> rfl), by repeat (first | (with_reducible first | exact HB.out | apply below_alloc | apply pw_below_drewN | apply below_drew1) | exact HB.out)⟩
              · rw [if_neg c33] at H
                have c33b0 : (t381.toList == a0.toList) = false := beq_eq_false_iff_ne.mpr c33
                have c33b1 : (t381.toList != a0.toList) = true := bne_iff_ne.mpr c33
                obtain rfl := Option.some.inj H
                go_wp2_with (first | ((with_reducible refine gate_callee (f := 100) rfl ?_); refine goesL_ (some 70) rfl rfl Tryz.func100 (by kernel_rfl) rfl #[.int .i64 a3, .int .i64 a1, .bool true] rfl (by (try simp only [List.map_toArray, List.map_cons, List.map_nil]); first | done | rfl | (simp only [List.length_drop, List.length_take]; rfl)) ?_; (with_reducible refine (customhouseref02_long.calls kj5 a3 a1 true t380 _ A30.out).mono ?_); rintro e w' ⟨rfl, ⟨nd, rfl⟩⟩; refine ⟨_, rfl, ?_⟩) | ((with_reducible refine gate_callee (f := 101) rfl ?_); refine goesL_ (some 77) rfl rfl Tryz.func101 (by kernel_rfl) rfl #[.int .i64 a3, .int .i64 a1, .bool true, .string a0, .slice A4 l4.length c4] rfl (by (try simp only [List.map_toArray, List.map_cons, List.map_nil]); first | done | rfl | (simp only [List.length_drop, List.length_take]; rfl)) ?_; (with_reducible refine (customhouseref02_both.calls kj5 a3 a1 true a0 _ _ l4 t381 t382 _ ?side1 ?side2 A32.out).mono ?_); (case side1 => repeat (first | exact (Kd.C_below HR4.out (by repeat (first | (with_reducible first | exact HB.out | apply below_alloc | apply pw_below_drewN | apply below_drew1) | exact HB.out))) | (with_reducible refine Kd.C_alloc ?_ _) | (with_reducible refine Kd.C_drewN ?_ _) | (with_reducible refine Kd.C_drew ?_))); (case side2 => exact HC4.out); rintro e w35 ⟨rfl, hb⟩; refine ⟨_, rfl, ?_⟩; have n0_ := Aside0.mk (below_step (by repeat (first | (with_reducible first | exact HB.out | apply below_alloc | apply pw_below_drewN | apply below_drew1) | exact HB.out)) hb); clear HB; have HB := n0_; clear n0_; (try clear hb); (try clear hb2); (try clear hk); (try clear hi)))
                go_ret
                exact ⟨by first | rfl | (simp [errW_none, errW_some] <;> rfl) | (simp [*, errW_none, errW_some] <;> rfl), by repeat (first | (with_reducible first | exact HB.out | apply below_alloc | apply pw_below_drewN | apply below_drew1) | exact HB.out)⟩
            · rw [if_neg c31] at H
              have c31b0 : ((l4.length : Int) == t380) = false := beq_eq_false_iff_ne.mpr c31
              have c31b1 : ((l4.length : Int) != t380) = true := bne_iff_ne.mpr c31
              obtain rfl := Option.some.inj H
              go_wp2_with (first | ((with_reducible refine gate_callee (f := 100) rfl ?_); refine goesL_ (some 70) rfl rfl Tryz.func100 (by kernel_rfl) rfl #[.int .i64 a3, .int .i64 a1, .bool true] rfl (by (try simp only [List.map_toArray, List.map_cons, List.map_nil]); first | done | rfl | (simp only [List.length_drop, List.length_take]; rfl)) ?_; (with_reducible refine (customhouseref02_long.calls kj5 a3 a1 true t380 _ A30.out).mono ?_); rintro e w' ⟨rfl, ⟨nd, rfl⟩⟩; refine ⟨_, rfl, ?_⟩))
              go_ret
              exact ⟨by first | rfl | (simp [errW_none, errW_some] <;> rfl) | (simp [*, errW_none, errW_some] <;> rfl), by repeat (first | (with_reducible first | exact HB.out | apply below_alloc | apply pw_below_drewN | apply below_drew1) | exact HB.out)⟩

end Go.Proofs.YtdlipbfcadmhjaaGreatDoor.PG2
