/- Written by a program of this session's over the kit's print: the functions that a law comes to as plain Lean functions, and that Go's code computes them. Nothing is assumed. -/
import Derived.Test.YtdlipbfcadmhjaaGreatDoorPG2x0
import Derived.Test.YtdlipbfcadmhjaaGreatDoorPG2x10
namespace Go.Proofs.YtdlipbfcadmhjaaGreatDoor.PG2
open Go.RowKit Go.Proofs.YtdlipbfcadmhjaaGreatDoorW.PrintWords Go.Proofs.YtdlipbfcadmhjaaGreatDoorW.PrintLast Go.Proofs.YtdlipbfcadmhjaaGreatDoorW.PrintMore
attribute [local go_sem] max2_int min2_int max_two min_two max_three min_three max_four min_four   -- for this text's walks alone
set_option linter.unusedVariables false
set_option linter.unusedSimpArgs false

/-! ### customhouseref02_long: function 100 -/
def customhouseref02_long.f : Nat → Int → Int → Bool → Option (Int)
  | 0, _, _, _ => none
  | k + 1, a0, a1, a2 => if a1 = a0 then (if a2 = true then (some 0) else (some 1)) else ((customhouseref02_Half.f k a0).bind fun t359 => (if a1 ≤ t359 then ((customhouseref02_long.f k t359 a1 a2).bind fun t360 => (some (wrap64 (1 + t360)))) else ((customhouseref02_long.f k (wrap64 (a0 - t359)) (wrap64 (a1 - t359)) false).bind fun t361 => (some (wrap64 (1 + t361))))))
theorem customhouseref02_long.mono_l : ∀ k, (∀ y0 y1 y2, LeO (customhouseref02_long.f k y0 y1 y2) (customhouseref02_long.f (k + 1) y0 y1 y2))
  | 0 => fun _ _ _ r h => by simp [customhouseref02_long.f] at h
  | k + 1 => by
    have ih0 := customhouseref02_long.mono_l k
    · intro y0 y1 y2
      unfold customhouseref02_long.f
      repeat' first
      | (with_reducible exact ih0 _ _ _)
      | (with_reducible exact customhouseref02_Half.mono _ _)
      | (with_reducible exact LeO.refl _)
      | (with_reducible exact LeO.none _)
      | (with_reducible refine LeO.ite ?_ ?_)
      | (with_reducible refine LeO.bind ?_ (fun _ => ?_))
      | exact ih0 _ _ _
      | exact customhouseref02_Half.mono _ _
      | exact LeO.none _
      | refine LeO.ite ?_ ?_
      | refine LeO.bind ?_ (fun _ => ?_)
theorem customhouseref02_long.mono : ∀ a0 a1 a2 k, LeO (customhouseref02_long.f k a0 a1 a2) (customhouseref02_long.f (k + 1) a0 a1 a2) := by
  intro a0 a1 a2 k
  have ih0 := customhouseref02_long.mono_l k
  exact ih0 a0 a1 a2
set_option maxHeartbeats 8000000 in
set_option maxRecDepth 100000 in
theorem customhouseref02_long.calls (k : Nat) : ∀ (a0 : Int) (a1 : Int) (a2 : Bool) (r : Int) (w : World) (h : customhouseref02_long.f k a0 a1 a2 = some r),
    Calls Tryz.prog 100 #[.int .i64 a0, .int .i64 a1, .bool a2] w fun e w' => e = .returned (.int .i64 r) ∧ Drawn0 w w' := by
  induction k using Nat.strongRecOn with
  | _ k ih =>
  intro a0 a1 a2 r w h
  cases k with
  | zero => exact absurd h (by simp [customhouseref02_long.f])
  | succ k =>
  simp only [customhouseref02_long.f] at h
  have H : (if a1 = a0 then (if a2 = true then (some 0) else (some 1)) else ((customhouseref02_Half.f k a0).bind fun t359 => (if a1 ≤ t359 then ((customhouseref02_long.f k t359 a1 a2).bind fun t360 => (some (wrap64 (1 + t360)))) else ((customhouseref02_long.f k (wrap64 (a0 - t359)) (wrap64 (a1 - t359)) false).bind fun t361 => (some (wrap64 (1 + t361))))))) = some r := h
  clear h
  by_cases c4 : a1 = a0
  · rw [if_pos c4] at H
    have c4b0 : (a1 == a0) = true := beq_iff_eq.mpr c4
    have c4b1 : (a1 != a0) = false := bne_eq_false_iff_eq.mpr c4
    clear c4
    by_cases c5 : a2 = true
    · subst c5
      have H1 : (some 0) = some r := by rw [if_pos rfl] at H; exact H
      clear H
      have H := H1
      clear H1
      obtain rfl := Option.some.inj H
      go_enter Tryz.func100, Tryz.ntmps100
      go_wp2
      go_ret
      exact ⟨by first | rfl | (simp; done) | (simp [*]; done), by repeat (first | exact Drawn0.refl _ | apply Drawn0.step)⟩
    · replace c5 := Bool.eq_false_iff.mpr c5
      subst c5
      have H1 : (some 1) = some r := by rw [if_neg (show ¬ (false = true) by decide)] at H; exact H
      clear H
      have H := H1
      clear H1
      obtain rfl := Option.some.inj H
      go_enter Tryz.func100, Tryz.ntmps100
      go_wp2
      go_ret
      exact ⟨by first | rfl | (simp; done) | (simp [*]; done), by repeat (first | exact Drawn0.refl _ | apply Drawn0.step)⟩
  · rw [if_neg c4] at H
    have c4b0 : (a1 == a0) = false := beq_eq_false_iff_ne.mpr c4
    have c4b1 : (a1 != a0) = true := bne_iff_ne.mpr c4
    replace H := Option.bind_eq_some_iff.mp H
    obtain ⟨t359, A60, H⟩ := H
    replace H : (if a1 ≤ t359 then ((customhouseref02_long.f k t359 a1 a2).bind fun t360 => (some (wrap64 (1 + t360)))) else ((customhouseref02_long.f k (wrap64 (a0 - t359)) (wrap64 (a1 - t359)) false).bind fun t361 => (some (wrap64 (1 + t361))))) = some r := H
    have A6 := Aside0.mk A60
    clear A60
    by_cases c7 : a1 ≤ t359
    · rw [if_pos c7] at H
      have c7b0 : decide (a1 ≤ t359) = true := decide_eq_true c7
      clear c7
      replace H := Option.bind_eq_some_iff.mp H
      obtain ⟨t360, A80, H⟩ := H
      replace H : (some (wrap64 (1 + t360))) = some r := H
      have A8 := Aside0.mk A80
      clear A80
      obtain rfl := Option.some.inj H
      go_enter Tryz.func100, Tryz.ntmps100
      go_wp2_with (first | ((with_reducible refine gate_callee (f := 90) rfl ?_); refine goesL_ (some 13) rfl rfl Tryz.func90 (by kernel_rfl) rfl #[.int .i64 a0] rfl (by (try simp only [List.map_toArray, List.map_cons, List.map_nil]); first | done | rfl | (simp only [List.length_drop, List.length_take]; rfl)) ?_; (with_reducible refine (customhouseref02_Half.calls k a0 t359 _ A6.out).mono ?_); rintro e w' ⟨rfl, ⟨nd, rfl⟩⟩; refine ⟨_, rfl, ?_⟩) | ((with_reducible refine gate_callee (f := 100) rfl ?_); refine goesL_ (some 20) rfl rfl Tryz.func100 (by kernel_rfl) rfl #[.int .i64 t359, .int .i64 a1, .bool a2] rfl (by (try simp only [List.map_toArray, List.map_cons, List.map_nil]); first | done | rfl | (simp only [List.length_drop, List.length_take]; rfl)) ?_; (with_reducible refine (ih k (by omega) t359 a1 a2 t360 _ A8.out).mono ?_); rintro e w' ⟨rfl, ⟨nd, rfl⟩⟩; refine ⟨_, rfl, ?_⟩))
      go_ret
      exact ⟨by first | rfl | (simp; done) | (simp [*]; done), by repeat (first | exact Drawn0.refl _ | apply Drawn0.step)⟩
    · rw [if_neg c7] at H
      have c7b0 : decide (a1 ≤ t359) = false := decide_eq_false c7
      clear c7
      replace H := Option.bind_eq_some_iff.mp H
      obtain ⟨t361, A90, H⟩ := H
      replace H : (some (wrap64 (1 + t361))) = some r := H
      have A9 := Aside0.mk A90
      clear A90
      obtain rfl := Option.some.inj H
      go_enter Tryz.func100, Tryz.ntmps100
      go_wp2_with (first | ((with_reducible refine gate_callee (f := 90) rfl ?_); refine goesL_ (some 13) rfl rfl Tryz.func90 (by kernel_rfl) rfl #[.int .i64 a0] rfl (by (try simp only [List.map_toArray, List.map_cons, List.map_nil]); first | done | rfl | (simp only [List.length_drop, List.length_take]; rfl)) ?_; (with_reducible refine (customhouseref02_Half.calls k a0 t359 _ A6.out).mono ?_); rintro e w' ⟨rfl, ⟨nd, rfl⟩⟩; refine ⟨_, rfl, ?_⟩) | ((with_reducible refine gate_callee (f := 100) rfl ?_); refine goesL_ (some 28) rfl rfl Tryz.func100 (by kernel_rfl) rfl #[.int .i64 (wrap64 (a0 - t359)), .int .i64 (wrap64 (a1 - t359)), .bool false] rfl (by (try simp only [List.map_toArray, List.map_cons, List.map_nil]); first | done | rfl | (simp only [List.length_drop, List.length_take]; rfl)) ?_; (with_reducible refine (ih k (by omega) (wrap64 (a0 - t359)) (wrap64 (a1 - t359)) false t361 _ A9.out).mono ?_); rintro e w' ⟨rfl, ⟨nd, rfl⟩⟩; refine ⟨_, rfl, ?_⟩))
      go_ret
      exact ⟨by first | rfl | (simp; done) | (simp [*]; done), by repeat (first | exact Drawn0.refl _ | apply Drawn0.step)⟩

/-! ### customhouseref02_both: function 101 -/
def customhouseref02_both.f : Nat → Int → Int → Bool → ByteArray → List ByteArray → Option (ByteArray × ByteArray)
  | 0, _, _, _, _, _ => none
  | k + 1, a0, a1, a2, a3, l4 => if a1 = a0 then (if a2 = true then (some (a3, a3)) else (if 0 < (l4.length : Int) then (some (rdOf ByteArray.empty l4 0, rdOf ByteArray.empty l4 0)) else (none))) else ((customhouseref02_Half.f k a0).bind fun t364 => (if 0 ≤ (wrap64 ((l4.length : Int) - 1)) then (if (wrap64 ((l4.length : Int) - 1)) < (l4.length : Int) then (if (wrap64 ((l4.length : Int) - 1)) ≤ (l4.length : Int) then (if a1 ≤ t364 then ((customhouseref02_both.f k t364 a1 a2 a3 (l4.take ((wrap64 ((l4.length : Int) - 1)) : Int).toNat)).bind fun bt367 => ((customhouseref02_node.f k bt367.2 (rdOf ByteArray.empty l4 (wrap64 ((l4.length : Int) - 1)))).bind fun t369 => (some (bt367.1, t369)))) else ((customhouseref02_both.f k (wrap64 (a0 - t364)) (wrap64 (a1 - t364)) false a3 (l4.take ((wrap64 ((l4.length : Int) - 1)) : Int).toNat)).bind fun bt370 => ((customhouseref02_node.f k (rdOf ByteArray.empty l4 (wrap64 ((l4.length : Int) - 1))) bt370.1).bind fun t372 => ((customhouseref02_node.f k (rdOf ByteArray.empty l4 (wrap64 ((l4.length : Int) - 1))) bt370.2).bind fun t373 => (some (t372, t373)))))) else (none)) else (none)) else (none)))
theorem customhouseref02_both.mono_l : ∀ k, (∀ y0 y1 y2 y3 y4, LeO (customhouseref02_both.f k y0 y1 y2 y3 y4) (customhouseref02_both.f (k + 1) y0 y1 y2 y3 y4))
  | 0 => fun _ _ _ _ _ r h => by simp [customhouseref02_both.f] at h
  | k + 1 => by
    have ih0 := customhouseref02_both.mono_l k
    · intro y0 y1 y2 y3 y4
      unfold customhouseref02_both.f
      repeat' first
      | (with_reducible exact ih0 _ _ _ _ _)
      | (with_reducible exact customhouseref02_Half.mono _ _)
      | (with_reducible exact customhouseref02_node.mono _ _ _)
      | (with_reducible exact LeO.refl _)
      | (with_reducible exact LeO.none _)
      | (with_reducible refine LeO.ite ?_ ?_)
      | (with_reducible refine LeO.bind ?_ (fun _ => ?_))
      | exact ih0 _ _ _ _ _
      | exact customhouseref02_Half.mono _ _
      | exact customhouseref02_node.mono _ _ _
      | exact LeO.none _
      | refine LeO.ite ?_ ?_
      | refine LeO.bind ?_ (fun _ => ?_)
theorem customhouseref02_both.mono : ∀ a0 a1 a2 a3 a4 k, LeO (customhouseref02_both.f k a0 a1 a2 a3 a4) (customhouseref02_both.f (k + 1) a0 a1 a2 a3 a4) := by
  intro a0 a1 a2 a3 a4 k
  have ih0 := customhouseref02_both.mono_l k
  exact ih0 a0 a1 a2 a3 a4
set_option maxHeartbeats 8000000 in
set_option maxRecDepth 100000 in
theorem customhouseref02_both.calls (k : Nat) : ∀ (a0 : Int) (a1 : Int) (a2 : Bool) (a3 : ByteArray) (A4 : Option Addr) (c4 : Nat) (l4 : List ByteArray) (r1 : ByteArray) (r2 : ByteArray) (w : World) (hr4 : Kd.C Kd.string w A4 l4.length l4) (hc4 : l4.length ≤ c4) (h : customhouseref02_both.f k a0 a1 a2 a3 l4 = some (r1, r2)),
    Calls Tryz.prog 101 #[.int .i64 a0, .int .i64 a1, .bool a2, .string a3, .slice A4 l4.length c4] w fun e w' => e = .returned (.tuple #[.string r1, .string r2]) ∧ Below w.heap.size w w' := by
  induction k using Nat.strongRecOn with
  | _ k ih =>
  intro a0 a1 a2 a3 A4 c4 l4 r1 r2 w hr4 hc4 h
  cases k with
  | zero => exact absurd h (by simp [customhouseref02_both.f])
  | succ k =>
  simp only [customhouseref02_both.f] at h
  have HR4 := Aside0.mk hr4
  have HC4 := Aside0.mk hc4
  clear hr4 hc4
  have HB := Aside0.mk (Below.refl w.heap.size w)
  have H : (if a1 = a0 then (if a2 = true then (some (a3, a3)) else (if 0 < (l4.length : Int) then (some (rdOf ByteArray.empty l4 0, rdOf ByteArray.empty l4 0)) else (none))) else ((customhouseref02_Half.f k a0).bind fun t364 => (if 0 ≤ (wrap64 ((l4.length : Int) - 1)) then (if (wrap64 ((l4.length : Int) - 1)) < (l4.length : Int) then (if (wrap64 ((l4.length : Int) - 1)) ≤ (l4.length : Int) then (if a1 ≤ t364 then ((customhouseref02_both.f k t364 a1 a2 a3 (l4.take ((wrap64 ((l4.length : Int) - 1)) : Int).toNat)).bind fun bt367 => ((customhouseref02_node.f k bt367.2 (rdOf ByteArray.empty l4 (wrap64 ((l4.length : Int) - 1)))).bind fun t369 => (some (bt367.1, t369)))) else ((customhouseref02_both.f k (wrap64 (a0 - t364)) (wrap64 (a1 - t364)) false a3 (l4.take ((wrap64 ((l4.length : Int) - 1)) : Int).toNat)).bind fun bt370 => ((customhouseref02_node.f k (rdOf ByteArray.empty l4 (wrap64 ((l4.length : Int) - 1))) bt370.1).bind fun t372 => ((customhouseref02_node.f k (rdOf ByteArray.empty l4 (wrap64 ((l4.length : Int) - 1))) bt370.2).bind fun t373 => (some (t372, t373)))))) else (none)) else (none)) else (none)))) = some (r1, r2) := h
  clear h
  by_cases c6 : a1 = a0
  · rw [if_pos c6] at H
    have c6b0 : (a1 == a0) = true := beq_iff_eq.mpr c6
    have c6b1 : (a1 != a0) = false := bne_eq_false_iff_eq.mpr c6
    clear c6
    by_cases c7 : a2 = true
    · subst c7
      have H1 : (some (a3, a3)) = some (r1, r2) := by rw [if_pos rfl] at H; exact H
      clear H
      have H := H1
      clear H1
      simp only [Option.some.injEq, Prod.mk.injEq] at H
      obtain ⟨rfl, rfl⟩ := H
      go_enter Tryz.func101, Tryz.ntmps101
      go_wp2
      repeat (go_quiet (fail); try go_wp2)
      go_ret2
      exact ⟨by first | rfl | (simp [errW_none, errW_some] <;> rfl) | (simp [*, errW_none, errW_some] <;> rfl), by repeat (first | (with_reducible first | exact HB.out | apply below_alloc | apply pw_below_drewN | apply below_drew1) | exact HB.out)⟩
    · replace c7 := Bool.eq_false_iff.mpr c7
      subst c7
      have H1 : (if 0 < (l4.length : Int) then (some (rdOf ByteArray.empty l4 0, rdOf ByteArray.empty l4 0)) else (none)) = some (r1, r2) := by rw [if_neg (show ¬ (false = true) by decide)] at H; exact H
      clear H
      have H := H1
      clear H1
      by_cases c8 : 0 < (l4.length : Int)
      · rw [if_pos c8] at H
        have c8b0 : decide (0 < (l4.length : Int)) = true := decide_eq_true c8
        have c8b1 : decide (0 < l4.length) = true := decide_eq_true (by omega)
        clear c8
        simp only [Option.some.injEq, Prod.mk.injEq] at H
        obtain ⟨rfl, rfl⟩ := H
        have p362 : 0 ≤ (0 : Int) := (by omega)
        have q362 : 0 < (l4.length : Int) := of_decide_eq_true (by first | (with_reducible assumption) | assumption)
        obtain ⟨ad362, e362, hx362_0⟩ := Kd.at_string HR4.out 0 p362 q362
        cases e362
        have qi362 : (0 < l4.length) = True := eq_true (by omega)
        (try rw [show ((0 : Int)).toNat = 0 from rfl] at hx362_0)
        (try rw [Addr.add_zero'] at hx362_0)
        replace p362 := eq_true p362
        replace q362 := eq_true q362
        have p363 : 0 ≤ (0 : Int) := (by omega)
        have q363 : 0 < (l4.length : Int) := of_decide_eq_true (by first | (with_reducible assumption) | assumption)
        obtain ⟨ad363, e363, hx363_0⟩ := Kd.at_string HR4.out 0 p363 q363
        obtain rfl : ad362 = ad363 := (by injection e363)
        have qi363 : (0 < l4.length) = True := eq_true (by omega)
        (try rw [show ((0 : Int)).toNat = 0 from rfl] at hx363_0)
        (try rw [Addr.add_zero'] at hx363_0)
        replace p363 := eq_true p363
        replace q363 := eq_true q363
        go_enter Tryz.func101, Tryz.ntmps101
        go_wp2
        repeat (go_quiet (fail); try go_wp2)
        go_ret2
        exact ⟨by first | rfl | (simp [errW_none, errW_some] <;> rfl) | (simp [*, errW_none, errW_some] <;> rfl), by repeat (first | (with_reducible first | exact HB.out | apply below_alloc | apply pw_below_drewN | apply below_drew1) | exact HB.out)⟩
      · rw [if_neg c8] at H
        exact absurd H (by simp)
  · rw [if_neg c6] at H
    have c6b0 : (a1 == a0) = false := beq_eq_false_iff_ne.mpr c6
    have c6b1 : (a1 != a0) = true := bne_iff_ne.mpr c6
    replace H := Option.bind_eq_some_iff.mp H
    obtain ⟨t364, A90, H⟩ := H
    replace H : (if 0 ≤ (wrap64 ((l4.length : Int) - 1)) then (if (wrap64 ((l4.length : Int) - 1)) < (l4.length : Int) then (if (wrap64 ((l4.length : Int) - 1)) ≤ (l4.length : Int) then (if a1 ≤ t364 then ((customhouseref02_both.f k t364 a1 a2 a3 (l4.take ((wrap64 ((l4.length : Int) - 1)) : Int).toNat)).bind fun bt367 => ((customhouseref02_node.f k bt367.2 (rdOf ByteArray.empty l4 (wrap64 ((l4.length : Int) - 1)))).bind fun t369 => (some (bt367.1, t369)))) else ((customhouseref02_both.f k (wrap64 (a0 - t364)) (wrap64 (a1 - t364)) false a3 (l4.take ((wrap64 ((l4.length : Int) - 1)) : Int).toNat)).bind fun bt370 => ((customhouseref02_node.f k (rdOf ByteArray.empty l4 (wrap64 ((l4.length : Int) - 1))) bt370.1).bind fun t372 => ((customhouseref02_node.f k (rdOf ByteArray.empty l4 (wrap64 ((l4.length : Int) - 1))) bt370.2).bind fun t373 => (some (t372, t373)))))) else (none)) else (none)) else (none)) = some (r1, r2) := H
    have A9 := Aside0.mk A90
    clear A90
    obtain ⟨ji10, hji10⟩ : ∃ j_ : Int, (wrap64 ((l4.length : Int) - 1)) = j_ := ⟨_, rfl⟩
    replace H : (if 0 ≤ (ji10) then (if (ji10) < (l4.length : Int) then (if (ji10) ≤ (l4.length : Int) then (if a1 ≤ t364 then ((customhouseref02_both.f k t364 a1 a2 a3 (l4.take ((ji10) : Int).toNat)).bind fun bt367 => ((customhouseref02_node.f k bt367.2 (rdOf ByteArray.empty l4 (ji10))).bind fun t369 => (some (bt367.1, t369)))) else ((customhouseref02_both.f k (wrap64 (a0 - t364)) (wrap64 (a1 - t364)) false a3 (l4.take ((ji10) : Int).toNat)).bind fun bt370 => ((customhouseref02_node.f k (rdOf ByteArray.empty l4 (ji10)) bt370.1).bind fun t372 => ((customhouseref02_node.f k (rdOf ByteArray.empty l4 (ji10)) bt370.2).bind fun t373 => (some (t372, t373)))))) else (none)) else (none)) else (none)) = some (r1, r2) := by first | (rw [hji10] at H; exact H) | (simp only [hji10] at H ⊢; exact H)
    (try rw [hji10] at A9)
    have hji10w : (IntKind.i64.wrap ((l4.length : Int) - 1)) = ji10 := (i64_w _).trans hji10
    by_cases c11 : 0 ≤ (ji10)
    · rw [if_pos c11] at H
      have c11b0 : decide (0 ≤ (ji10)) = true := decide_eq_true c11
      clear c11
      by_cases c12 : (ji10) < (l4.length : Int)
      · rw [if_pos c12] at H
        have c12b0 : decide ((ji10) < (l4.length : Int)) = true := decide_eq_true c12
        clear c12
        have c13b0 := eq_true (of_decide_eq_true (by first | (with_reducible assumption) | assumption) : 0 ≤ (ji10))
        by_cases c14 : (ji10) ≤ (l4.length : Int)
        · rw [if_pos c14] at H
          have c14b0 := eq_true c14
          have c14b1 : decide ((ji10) ≤ (l4.length : Int)) = true := decide_eq_true c14
          clear c14
          by_cases c15 : a1 ≤ t364
          · rw [if_pos c15] at H
            have c15b0 : decide (a1 ≤ t364) = true := decide_eq_true c15
            clear c15
            replace H := Option.bind_eq_some_iff.mp H
            obtain ⟨⟨t367, t368⟩, A160, H⟩ := H
            replace H : ((customhouseref02_node.f k t368 (rdOf ByteArray.empty l4 (ji10))).bind fun t369 => (some (t367, t369))) = some (r1, r2) := H
            have A16 := Aside0.mk A160
            clear A160
            replace H := Option.bind_eq_some_iff.mp H
            obtain ⟨t369, A170, H⟩ := H
            replace H : (some (t367, t369)) = some (r1, r2) := H
            have A17 := Aside0.mk A170
            clear A170
            simp only [Option.some.injEq, Prod.mk.injEq] at H
            obtain ⟨rfl, rfl⟩ := H
            go_enter Tryz.func101, Tryz.ntmps101
            go_wp2_with (first | (go_at_call 90; (with_reducible refine (customhouseref02_Half.calls k a0 t364 _ A9.out).mono ?_); rintro e w' ⟨rfl, ⟨nd, rfl⟩⟩; (try first | exact ⟨rfl, _, World.drewN_drewN _ _ _⟩ | exact ⟨rfl, _, Eq.trans (World.drewN_drewN _ _ _) (congrArg (World.drewN _) (Nat.add_assoc _ _ _))⟩); have p365 : 0 ≤ ((ji10) : Int) := of_decide_eq_true (by first | (with_reducible assumption) | assumption); have q365 : (ji10) < (l4.length : Int) := of_decide_eq_true (by first | (with_reducible assumption) | assumption); obtain ⟨ad365, e365, hx365_0⟩ := Kd.at_string HR4.out (ji10) p365 q365; cases e365; replace p365 := eq_true p365; replace q365 := eq_true q365; obtain ⟨i018, hi018, _, hsz18, _⟩ := info_parts info9; obtain ⟨hcut18, hA18, hC18⟩ := print_take_of (P := Tryz.prog) Value.string (⟨#[]⟩ : ByteArray) 30 9 .i64 Tryz.underlying30 hi018 hsz18 (some ad365) c4 l4 (ji10) (of_decide_eq_true (by first | (with_reducible assumption) | assumption)) (of_decide_eq_true (by first | (with_reducible assumption) | assumption)) HC4.out; have HR366 := Aside0.mk (Kd.C_of_reads (h1 := fun _ => rfl) (hA18 _ (Kd.reads_of_C HR4.out))); have HC366 := Aside0.mk hC18; clear hA18 hC18 hi018 hsz18) | (go_at_call 101; (try rw [show (ji10).toNat = (l4.take (ji10).toNat).length from (by rw [List.length_take]; have h_ : ((ji10) : Int) ≤ (l4.length : Int) := of_decide_eq_true (by first | (with_reducible assumption) | assumption); omega)]); (with_reducible refine (ih k (by omega) t364 a1 a2 a3 _ _ (l4.take ((ji10) : Int).toNat) t367 t368 _ ?side1 ?side2 A16.out).mono ?_); (case side1 => repeat (first | exact HR366.out | (with_reducible refine Kd.C_alloc ?_ _) | (with_reducible refine Kd.C_drewN ?_ _) | (with_reducible refine Kd.C_drew ?_))); (case side2 => exact HC366.out); rintro e w19 ⟨rfl, hb⟩; have n0_ := Aside0.mk (below_step (by repeat (first | (with_reducible first | exact HB.out | apply below_alloc | apply pw_below_drewN | apply below_drew1) | exact HB.out)) hb); clear HB; have HB := n0_; clear n0_; (try clear hb); (try clear hb2); (try clear hk); (try clear hi)) | (go_at_call 91; (with_reducible refine (customhouseref02_node.calls k t368 (rdOf ByteArray.empty l4 (ji10)) t369 _ A17.out).mono ?_); rintro e w20 ⟨rfl, hb⟩; have n0_ := Aside0.mk (below_step (by repeat (first | (with_reducible first | exact HB.out | apply below_alloc | apply pw_below_drewN | apply below_drew1) | exact HB.out)) hb); clear HB; have HB := n0_; clear n0_; (try clear hb); (try clear hb2); (try clear hk); (try clear hi)))
            repeat (go_quiet (first | (go_at_call 90; (with_reducible refine (customhouseref02_Half.calls k a0 t364 _ A9.out).mono ?_); rintro e w' ⟨rfl, ⟨nd, rfl⟩⟩; (try first | exact ⟨rfl, _, World.drewN_drewN _ _ _⟩ | exact ⟨rfl, _, Eq.trans (World.drewN_drewN _ _ _) (congrArg (World.drewN _) (Nat.add_assoc _ _ _))⟩); have p365 : 0 ≤ ((ji10) : Int) := of_decide_eq_true (by first | (with_reducible assumption) | assumption); have q365 : (ji10) < (l4.length : Int) := of_decide_eq_true (by first | (with_reducible assumption) | assumption); obtain ⟨ad365, e365, hx365_0⟩ := Kd.at_string HR4.out (ji10) p365 q365; cases e365; replace p365 := eq_true p365; replace q365 := eq_true q365; obtain ⟨i018, hi018, _, hsz18, _⟩ := info_parts info9; obtain ⟨hcut18, hA18, hC18⟩ := print_take_of (P := Tryz.prog) Value.string (⟨#[]⟩ : ByteArray) 30 9 .i64 Tryz.underlying30 hi018 hsz18 (some ad365) c4 l4 (ji10) (of_decide_eq_true (by first | (with_reducible assumption) | assumption)) (of_decide_eq_true (by first | (with_reducible assumption) | assumption)) HC4.out; have HR366 := Aside0.mk (Kd.C_of_reads (h1 := fun _ => rfl) (hA18 _ (Kd.reads_of_C HR4.out))); have HC366 := Aside0.mk hC18; clear hA18 hC18 hi018 hsz18) | (go_at_call 101; (try rw [show (ji10).toNat = (l4.take (ji10).toNat).length from (by rw [List.length_take]; have h_ : ((ji10) : Int) ≤ (l4.length : Int) := of_decide_eq_true (by first | (with_reducible assumption) | assumption); omega)]); (with_reducible refine (ih k (by omega) t364 a1 a2 a3 _ _ (l4.take ((ji10) : Int).toNat) t367 t368 _ ?side1 ?side2 A16.out).mono ?_); (case side1 => repeat (first | exact HR366.out | (with_reducible refine Kd.C_alloc ?_ _) | (with_reducible refine Kd.C_drewN ?_ _) | (with_reducible refine Kd.C_drew ?_))); (case side2 => exact HC366.out); rintro e w19 ⟨rfl, hb⟩; have n0_ := Aside0.mk (below_step (by repeat (first | (with_reducible first | exact HB.out | apply below_alloc | apply pw_below_drewN | apply below_drew1) | exact HB.out)) hb); clear HB; have HB := n0_; clear n0_; (try clear hb); (try clear hb2); (try clear hk); (try clear hi)) | (go_at_call 91; (with_reducible refine (customhouseref02_node.calls k t368 (rdOf ByteArray.empty l4 (ji10)) t369 _ A17.out).mono ?_); rintro e w20 ⟨rfl, hb⟩; have n0_ := Aside0.mk (below_step (by repeat (first | (with_reducible first | exact HB.out | apply below_alloc | apply pw_below_drewN | apply below_drew1) | exact HB.out)) hb); clear HB; have HB := n0_; clear n0_; (try clear hb); (try clear hb2); (try clear hk); (try clear hi))); try go_wp2_with (first | (go_at_call 90; (with_reducible refine (customhouseref02_Half.calls k a0 t364 _ A9.out).mono ?_); rintro e w' ⟨rfl, ⟨nd, rfl⟩⟩; (try first | exact ⟨rfl, _, World.drewN_drewN _ _ _⟩ | exact ⟨rfl, _, Eq.trans (World.drewN_drewN _ _ _) (congrArg (World.drewN _) (Nat.add_assoc _ _ _))⟩); have p365 : 0 ≤ ((ji10) : Int) := of_decide_eq_true (by first | (with_reducible assumption) | assumption); have q365 : (ji10) < (l4.length : Int) := of_decide_eq_true (by first | (with_reducible assumption) | assumption); obtain ⟨ad365, e365, hx365_0⟩ := Kd.at_string HR4.out (ji10) p365 q365; cases e365; replace p365 := eq_true p365; replace q365 := eq_true q365; obtain ⟨i018, hi018, _, hsz18, _⟩ := info_parts info9; obtain ⟨hcut18, hA18, hC18⟩ := print_take_of (P := Tryz.prog) Value.string (⟨#[]⟩ : ByteArray) 30 9 .i64 Tryz.underlying30 hi018 hsz18 (some ad365) c4 l4 (ji10) (of_decide_eq_true (by first | (with_reducible assumption) | assumption)) (of_decide_eq_true (by first | (with_reducible assumption) | assumption)) HC4.out; have HR366 := Aside0.mk (Kd.C_of_reads (h1 := fun _ => rfl) (hA18 _ (Kd.reads_of_C HR4.out))); have HC366 := Aside0.mk hC18; clear hA18 hC18 hi018 hsz18) | (go_at_call 101; (try rw [show (ji10).toNat = (l4.take (ji10).toNat).length from (by rw [List.length_take]; have h_ : ((ji10) : Int) ≤ (l4.length : Int) := of_decide_eq_true (by first | (with_reducible assumption) | assumption); omega)]); (with_reducible refine (ih k (by omega) t364 a1 a2 a3 _ _ (l4.take ((ji10) : Int).toNat) t367 t368 _ ?side1 ?side2 A16.out).mono ?_); (case side1 => repeat (first | exact HR366.out | (with_reducible refine Kd.C_alloc ?_ _) | (with_reducible refine Kd.C_drewN ?_ _) | (with_reducible refine Kd.C_drew ?_))); (case side2 => exact HC366.out); rintro e w19 ⟨rfl, hb⟩; have n0_ := Aside0.mk (below_step (by repeat (first | (with_reducible first | exact HB.out | apply below_alloc | apply pw_below_drewN | apply below_drew1) | exact HB.out)) hb); clear HB; have HB := n0_; clear n0_; (try clear hb); (try clear hb2); (try clear hk); (try clear hi)) | (go_at_call 91; (with_reducible refine (customhouseref02_node.calls k t368 (rdOf ByteArray.empty l4 (ji10)) t369 _ A17.out).mono ?_); rintro e w20 ⟨rfl, hb⟩; have n0_ := Aside0.mk (below_step (by repeat (first | (with_reducible first | exact HB.out | apply below_alloc | apply pw_below_drewN | apply below_drew1) | exact HB.out)) hb); clear HB; have HB := n0_; clear n0_; (try clear hb); (try clear hb2); (try clear hk); (try clear hi))))
            go_ret2
            exact ⟨by first | rfl | (simp [errW_none, errW_some] <;> rfl) | (simp only [← hji10]; first | rfl | (simp [errW_none, errW_some] <;> rfl)) | (simp [*, errW_none, errW_some] <;> rfl), by repeat (first | (with_reducible first | exact HB.out | apply below_alloc | apply pw_below_drewN | apply below_drew1) | exact HB.out)⟩
          · rw [if_neg c15] at H
            have c15b0 : decide (a1 ≤ t364) = false := decide_eq_false c15
            clear c15
            replace H := Option.bind_eq_some_iff.mp H
            obtain ⟨⟨t370, t371⟩, A210, H⟩ := H
            replace H : ((customhouseref02_node.f k (rdOf ByteArray.empty l4 (ji10)) t370).bind fun t372 => ((customhouseref02_node.f k (rdOf ByteArray.empty l4 (ji10)) t371).bind fun t373 => (some (t372, t373)))) = some (r1, r2) := H
            have A21 := Aside0.mk A210
            clear A210
            replace H := Option.bind_eq_some_iff.mp H
            obtain ⟨t372, A220, H⟩ := H
            replace H : ((customhouseref02_node.f k (rdOf ByteArray.empty l4 (ji10)) t371).bind fun t373 => (some (t372, t373))) = some (r1, r2) := H
            have A22 := Aside0.mk A220
            clear A220
            replace H := Option.bind_eq_some_iff.mp H
            obtain ⟨t373, A230, H⟩ := H
            replace H : (some (t372, t373)) = some (r1, r2) := H
            have A23 := Aside0.mk A230
            clear A230
            simp only [Option.some.injEq, Prod.mk.injEq] at H
            obtain ⟨rfl, rfl⟩ := H
            go_enter Tryz.func101, Tryz.ntmps101
            go_wp2_with (first | (go_at_call 90; (with_reducible refine (customhouseref02_Half.calls k a0 t364 _ A9.out).mono ?_); rintro e w' ⟨rfl, ⟨nd, rfl⟩⟩; (try first | exact ⟨rfl, _, World.drewN_drewN _ _ _⟩ | exact ⟨rfl, _, Eq.trans (World.drewN_drewN _ _ _) (congrArg (World.drewN _) (Nat.add_assoc _ _ _))⟩); have p365 : 0 ≤ ((ji10) : Int) := of_decide_eq_true (by first | (with_reducible assumption) | assumption); have q365 : (ji10) < (l4.length : Int) := of_decide_eq_true (by first | (with_reducible assumption) | assumption); obtain ⟨ad365, e365, hx365_0⟩ := Kd.at_string HR4.out (ji10) p365 q365; cases e365; replace p365 := eq_true p365; replace q365 := eq_true q365; obtain ⟨i024, hi024, _, hsz24, _⟩ := info_parts info9; obtain ⟨hcut24, hA24, hC24⟩ := print_take_of (P := Tryz.prog) Value.string (⟨#[]⟩ : ByteArray) 30 9 .i64 Tryz.underlying30 hi024 hsz24 (some ad365) c4 l4 (ji10) (of_decide_eq_true (by first | (with_reducible assumption) | assumption)) (of_decide_eq_true (by first | (with_reducible assumption) | assumption)) HC4.out; have HR366 := Aside0.mk (Kd.C_of_reads (h1 := fun _ => rfl) (hA24 _ (Kd.reads_of_C HR4.out))); have HC366 := Aside0.mk hC24; clear hA24 hC24 hi024 hsz24) | (go_at_call 101; (try rw [show (ji10).toNat = (l4.take (ji10).toNat).length from (by rw [List.length_take]; have h_ : ((ji10) : Int) ≤ (l4.length : Int) := of_decide_eq_true (by first | (with_reducible assumption) | assumption); omega)]); (with_reducible refine (ih k (by omega) (wrap64 (a0 - t364)) (wrap64 (a1 - t364)) false a3 _ _ (l4.take ((ji10) : Int).toNat) t370 t371 _ ?side1 ?side2 A21.out).mono ?_); (case side1 => repeat (first | exact HR366.out | (with_reducible refine Kd.C_alloc ?_ _) | (with_reducible refine Kd.C_drewN ?_ _) | (with_reducible refine Kd.C_drew ?_))); (case side2 => exact HC366.out); rintro e w25 ⟨rfl, hb⟩; have n0_ := Aside0.mk (below_step (by repeat (first | (with_reducible first | exact HB.out | apply below_alloc | apply pw_below_drewN | apply below_drew1) | exact HB.out)) hb); clear HB; have HB := n0_; clear n0_; (try clear hb); (try clear hb2); (try clear hk); (try clear hi)) | (go_at_call 91; (with_reducible refine (customhouseref02_node.calls k (rdOf ByteArray.empty l4 (ji10)) t370 t372 _ A22.out).mono ?_); rintro e w26 ⟨rfl, hb⟩; have n0_ := Aside0.mk (below_step (by repeat (first | (with_reducible first | exact HB.out | apply below_alloc | apply pw_below_drewN | apply below_drew1) | exact HB.out)) hb); clear HB; have HB := n0_; clear n0_; (try clear hb); (try clear hb2); (try clear hk); (try clear hi)) | (go_at_call 91; (with_reducible refine (customhouseref02_node.calls k (rdOf ByteArray.empty l4 (ji10)) t371 t373 _ A23.out).mono ?_); rintro e w27 ⟨rfl, hb⟩; have n0_ := Aside0.mk (below_step (by repeat (first | (with_reducible first | exact HB.out | apply below_alloc | apply pw_below_drewN | apply below_drew1) | exact HB.out)) hb); clear HB; have HB := n0_; clear n0_; (try clear hb); (try clear hb2); (try clear hk); (try clear hi)))
            repeat (go_quiet (first | (go_at_call 90; (with_reducible refine (customhouseref02_Half.calls k a0 t364 _ A9.out).mono ?_); rintro e w' ⟨rfl, ⟨nd, rfl⟩⟩; (try first | exact ⟨rfl, _, World.drewN_drewN _ _ _⟩ | exact ⟨rfl, _, Eq.trans (World.drewN_drewN _ _ _) (congrArg (World.drewN _) (Nat.add_assoc _ _ _))⟩); have p365 : 0 ≤ ((ji10) : Int) := of_decide_eq_true (by first | (with_reducible assumption) | assumption); have q365 : (ji10) < (l4.length : Int) := of_decide_eq_true (by first | (with_reducible assumption) | assumption); obtain ⟨ad365, e365, hx365_0⟩ := Kd.at_string HR4.out (ji10) p365 q365; cases e365; replace p365 := eq_true p365; replace q365 := eq_true q365; obtain ⟨i024, hi024, _, hsz24, _⟩ := info_parts info9; obtain ⟨hcut24, hA24, hC24⟩ := print_take_of (P := Tryz.prog) Value.string (⟨#[]⟩ : ByteArray) 30 9 .i64 Tryz.underlying30 hi024 hsz24 (some ad365) c4 l4 (ji10) (of_decide_eq_true (by first | (with_reducible assumption) | assumption)) (of_decide_eq_true (by first | (with_reducible assumption) | assumption)) HC4.out; have HR366 := Aside0.mk (Kd.C_of_reads (h1 := fun _ => rfl) (hA24 _ (Kd.reads_of_C HR4.out))); have HC366 := Aside0.mk hC24; clear hA24 hC24 hi024 hsz24) | (go_at_call 101; (try rw [show (ji10).toNat = (l4.take (ji10).toNat).length from (by rw [List.length_take]; have h_ : ((ji10) : Int) ≤ (l4.length : Int) := of_decide_eq_true (by first | (with_reducible assumption) | assumption); omega)]); (with_reducible refine (ih k (by omega) (wrap64 (a0 - t364)) (wrap64 (a1 - t364)) false a3 _ _ (l4.take ((ji10) : Int).toNat) t370 t371 _ ?side1 ?side2 A21.out).mono ?_); (case side1 => repeat (first | exact HR366.out | (with_reducible refine Kd.C_alloc ?_ _) | (with_reducible refine Kd.C_drewN ?_ _) | (with_reducible refine Kd.C_drew ?_))); (case side2 => exact HC366.out); rintro e w25 ⟨rfl, hb⟩; have n0_ := Aside0.mk (below_step (by repeat (first | (with_reducible first | exact HB.out | apply below_alloc | apply pw_below_drewN | apply below_drew1) | exact HB.out)) hb); clear HB; have HB := n0_; clear n0_; (try clear hb); (try clear hb2); (try clear hk); (try clear hi)) | (go_at_call 91; (with_reducible refine (customhouseref02_node.calls k (rdOf ByteArray.empty l4 (ji10)) t370 t372 _ A22.out).mono ?_); rintro e w26 ⟨rfl, hb⟩; have n0_ := Aside0.mk (below_step (by repeat (first | (with_reducible first | exact HB.out | apply below_alloc | apply pw_below_drewN | apply below_drew1) | exact HB.out)) hb); clear HB; have HB := n0_; clear n0_; (try clear hb); (try clear hb2); (try clear hk); (try clear hi)) | (go_at_call 91; (with_reducible refine (customhouseref02_node.calls k (rdOf ByteArray.empty l4 (ji10)) t371 t373 _ A23.out).mono ?_); rintro e w27 ⟨rfl, hb⟩; have n0_ := Aside0.mk (below_step (by repeat (first | (with_reducible first | exact HB.out | apply below_alloc | apply pw_below_drewN | apply below_drew1) | exact HB.out)) hb); clear HB; have HB := n0_; clear n0_; (try clear hb); (try clear hb2); (try clear hk); (try clear hi))); try go_wp2_with (first | (go_at_call 90; (with_reducible refine (customhouseref02_Half.calls k a0 t364 _ A9.out).mono ?_); rintro e w' ⟨rfl, ⟨nd, rfl⟩⟩; (try first | exact ⟨rfl, _, World.drewN_drewN _ _ _⟩ | exact ⟨rfl, _, Eq.trans (World.drewN_drewN _ _ _) (congrArg (World.drewN _) (Nat.add_assoc _ _ _))⟩); have p365 : 0 ≤ ((ji10) : Int) := of_decide_eq_true (by first | (with_reducible assumption) | assumption); have q365 : (ji10) < (l4.length : Int) := of_decide_eq_true (by first | (with_reducible assumption) | assumption); obtain ⟨ad365, e365, hx365_0⟩ := Kd.at_string HR4.out (ji10) p365 q365; cases e365; replace p365 := eq_true p365; replace q365 := eq_true q365; obtain ⟨i024, hi024, _, hsz24, _⟩ := info_parts info9; obtain ⟨hcut24, hA24, hC24⟩ := print_take_of (P := Tryz.prog) Value.string (⟨#[]⟩ : ByteArray) 30 9 .i64 Tryz.underlying30 hi024 hsz24 (some ad365) c4 l4 (ji10) (of_decide_eq_true (by first | (with_reducible assumption) | assumption)) (of_decide_eq_true (by first | (with_reducible assumption) | assumption)) HC4.out; have HR366 := Aside0.mk (Kd.C_of_reads (h1 := fun _ => rfl) (hA24 _ (Kd.reads_of_C HR4.out))); have HC366 := Aside0.mk hC24; clear hA24 hC24 hi024 hsz24) | (go_at_call 101; (try rw [show (ji10).toNat = (l4.take (ji10).toNat).length from (by rw [List.length_take]; have h_ : ((ji10) : Int) ≤ (l4.length : Int) := of_decide_eq_true (by first | (with_reducible assumption) | assumption); omega)]); (with_reducible refine (ih k (by omega) (wrap64 (a0 - t364)) (wrap64 (a1 - t364)) false a3 _ _ (l4.take ((ji10) : Int).toNat) t370 t371 _ ?side1 ?side2 A21.out).mono ?_); (case side1 => repeat (first | exact HR366.out | (with_reducible refine Kd.C_alloc ?_ _) | (with_reducible refine Kd.C_drewN ?_ _) | (with_reducible refine Kd.C_drew ?_))); (case side2 => exact HC366.out); rintro e w25 ⟨rfl, hb⟩; have n0_ := Aside0.mk (below_step (by repeat (first | (with_reducible first | exact HB.out | apply below_alloc | apply pw_below_drewN | apply below_drew1) | exact HB.out)) hb); clear HB; have HB := n0_; clear n0_; (try clear hb); (try clear hb2); (try clear hk); (try clear hi)) | (go_at_call 91; (with_reducible refine (customhouseref02_node.calls k (rdOf ByteArray.empty l4 (ji10)) t370 t372 _ A22.out).mono ?_); rintro e w26 ⟨rfl, hb⟩; have n0_ := Aside0.mk (below_step (by repeat (first | (with_reducible first | exact HB.out | apply below_alloc | apply pw_below_drewN | apply below_drew1) | exact HB.out)) hb); clear HB; have HB := n0_; clear n0_; (try clear hb); (try clear hb2); (try clear hk); (try clear hi)) | (go_at_call 91; (with_reducible refine (customhouseref02_node.calls k (rdOf ByteArray.empty l4 (ji10)) t371 t373 _ A23.out).mono ?_); rintro e w27 ⟨rfl, hb⟩; have n0_ := Aside0.mk (below_step (by repeat (first | (with_reducible first | exact HB.out | apply below_alloc | apply pw_below_drewN | apply below_drew1) | exact HB.out)) hb); clear HB; have HB := n0_; clear n0_; (try clear hb); (try clear hb2); (try clear hk); (try clear hi))))
            go_ret2
            exact ⟨by first | rfl | (simp [errW_none, errW_some] <;> rfl) | (simp only [← hji10]; first | rfl | (simp [errW_none, errW_some] <;> rfl)) | (simp [*, errW_none, errW_some] <;> rfl), by repeat (first | (with_reducible first | exact HB.out | apply below_alloc | apply pw_below_drewN | apply below_drew1) | exact HB.out)⟩
        · rw [if_neg c14] at H
          exact absurd H (by simp)
      · rw [if_neg c12] at H
        exact absurd H (by simp)
    · rw [if_neg c11] at H
      exact absurd H (by simp)

end Go.Proofs.YtdlipbfcadmhjaaGreatDoor.PG2
