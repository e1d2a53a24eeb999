/- Written by a program of this session's over the kit's print: the functions that a law comes to as plain Lean functions, and that Go's code computes them. Nothing is assumed. -/
import Derived.Test.YtdlipbfcadmhjaaDoorPG1x0
import Derived.Test.YtdlipbfcadmhjaaDoorPG1x1
namespace Go.Proofs.YtdlipbfcadmhjaaDoor.PG1
open Go.RowKit Go.Proofs.YtdlipbfcadmhjaaDoorW.PrintWords Go.Proofs.YtdlipbfcadmhjaaDoorW.PrintLast Go.Proofs.YtdlipbfcadmhjaaDoorW.PrintMore
attribute [local go_sem] max2_int min2_int max_two min_two max_three min_three max_four min_four   -- for this text's walks alone
set_option linter.unusedVariables false
set_option linter.unusedSimpArgs false

/-! ### customhouselaw01_DigestBlock: function 7 -/
def customhouselaw01_DigestBlock.j0 : Nat → ByteArray → ByteArray → ByteArray → Bool → Int → Int → Bool → Option (Bool)
  | 0, _, _, _, _, _, _, _ => none
  | k + 1, x0, x2, x3, x9, x10, x11, x36 => if x36 = true then (some x9) else (if 0 ≤ (mn (wrap64 (x11 + x10)) (x0.size : Int)) then (if (mn (wrap64 (x11 + x10)) (x0.size : Int)) ≤ (x0.size : Int) then (if x9 = true then (if 0 ≤ x11 then (if x11 ≤ (x0.size : Int) then (if (x0.extract 0 (x11 : Int).toNat).size + x2.size ≤ 9223372036854775807 then (if ((x0.extract 0 (x11 : Int).toNat) ++ x2).size + (x0.extract ((mn (wrap64 (x11 + x10)) (x0.size : Int)) : Int).toNat x0.size).size ≤ 9223372036854775807 then ((digest_Sum.f (((x0.extract 0 (x11 : Int).toNat) ++ x2) ++ (x0.extract ((mn (wrap64 (x11 + x10)) (x0.size : Int)) : Int).toNat x0.size))).bind fun t149 => (if (x0.extract 0 (x11 : Int).toNat).size + x3.size ≤ 9223372036854775807 then (if ((x0.extract 0 (x11 : Int).toNat) ++ x3).size + (x0.extract ((mn (wrap64 (x11 + x10)) (x0.size : Int)) : Int).toNat x0.size).size ≤ 9223372036854775807 then ((digest_Sum.f (((x0.extract 0 (x11 : Int).toNat) ++ x3) ++ (x0.extract ((mn (wrap64 (x11 + x10)) (x0.size : Int)) : Int).toNat x0.size))).bind fun t150 => (some ((t149.toList == t150.toList) == (x2.toList == x3.toList)))) else (none)) else (none))) else (none)) else (none)) else (none)) else (none)) else (some false)) else (none)) else (none))
def customhouselaw01_DigestBlock.f (k : Nat) (a0 : ByteArray) (a1 : Int) (a2 : ByteArray) (a3 : ByteArray) : Option (Bool) := (customhouselaw01_head.f k).bind fun t148 => (if 0 ≤ (mn (mn (a2.size : Int) (a3.size : Int)) 8) then (if (mn (mn (a2.size : Int) (a3.size : Int)) 8) ≤ (a2.size : Int) then (if (mn (mn (a2.size : Int) (a3.size : Int)) 8) ≤ (a3.size : Int) then (if (a0.size : Int) > 2000 then (customhouselaw01_DigestBlock.j0 k a0 (a2.extract 0 ((mn (mn (a2.size : Int) (a3.size : Int)) 8) : Int).toNat) (a3.extract 0 ((mn (mn (a2.size : Int) (a3.size : Int)) 8) : Int).toNat) t148 (mn (mn (a2.size : Int) (a3.size : Int)) 8) (wrap64 (8 * (wrap64 (a1)))) true) else (customhouselaw01_DigestBlock.j0 k a0 (a2.extract 0 ((mn (mn (a2.size : Int) (a3.size : Int)) 8) : Int).toNat) (a3.extract 0 ((mn (mn (a2.size : Int) (a3.size : Int)) 8) : Int).toNat) t148 (mn (mn (a2.size : Int) (a3.size : Int)) 8) (wrap64 (8 * (wrap64 (a1)))) (decide ((wrap64 (8 * (wrap64 (a1)))) > (a0.size : Int))))) else (none)) else (none)) else (none))
theorem customhouselaw01_DigestBlock.mono_l : ∀ k, (∀ y0 y1 y2 y3 y4 y5 y6, LeO (customhouselaw01_DigestBlock.j0 k y0 y1 y2 y3 y4 y5 y6) (customhouselaw01_DigestBlock.j0 (k + 1) y0 y1 y2 y3 y4 y5 y6))
  | 0 => fun _ _ _ _ _ _ _ r h => by simp [customhouselaw01_DigestBlock.j0] at h
  | k + 1 => by
    have ih0 := customhouselaw01_DigestBlock.mono_l k
    · intro y0 y1 y2 y3 y4 y5 y6
      unfold customhouselaw01_DigestBlock.j0
      repeat' first
      | (with_reducible exact ih0 _ _ _ _ _ _ _)
      | (with_reducible exact customhouselaw01_head.mono _)
      | (with_reducible exact LeO.refl _)
      | (with_reducible exact LeO.none _)
      | (with_reducible refine LeO.ite ?_ ?_)
      | (with_reducible refine LeO.bind ?_ (fun _ => ?_))
      | exact ih0 _ _ _ _ _ _ _
      | exact customhouselaw01_head.mono _
      | exact LeO.none _
      | refine LeO.ite ?_ ?_
      | refine LeO.bind ?_ (fun _ => ?_)
theorem customhouselaw01_DigestBlock.mono : ∀ a0 a1 a2 a3 k, LeO (customhouselaw01_DigestBlock.f k a0 a1 a2 a3) (customhouselaw01_DigestBlock.f (k + 1) a0 a1 a2 a3) := by
  intro a0 a1 a2 a3 k
  have ih0 := customhouselaw01_DigestBlock.mono_l k
  unfold customhouselaw01_DigestBlock.f
  repeat' first
      | (with_reducible exact ih0 _ _ _ _ _ _ _)
      | (with_reducible exact customhouselaw01_head.mono _)
      | (with_reducible exact LeO.refl _)
      | (with_reducible exact LeO.none _)
      | (with_reducible refine LeO.ite ?_ ?_)
      | (with_reducible refine LeO.bind ?_ (fun _ => ?_))
      | exact ih0 _ _ _ _ _ _ _
      | exact customhouselaw01_head.mono _
      | exact LeO.none _
      | refine LeO.ite ?_ ?_
      | refine LeO.bind ?_ (fun _ => ?_)
def customhouselaw01_DigestBlock.T9 : Bool × List (List Nat × List Nat) := (true, [([], []), ([0], [0]), ([1], [1]), ([1], [1]), ([2, 3, 1], [1, 2, 3]), ([1], [1]), ([4, 5, 1], [1, 4, 5]), ([1], [1]), ([6, 7, 1], [1, 6, 7]), ([8, 1, 1], [1, 8]), ([1], [1]), ([1], [1]), ([10, 11, 1], [1, 10, 11]), ([1], [1]), ([12, 13, 1], [1, 12, 13]), ([1], [1]), ([14, 15, 1], [1, 14, 15]), ([16, 9, 1], [1, 16]), ([9, 17, 1], [1, 9, 17]), ([1], [1]), ([1], [1]), ([19, 20, 1], [1, 19, 20]), ([18, 21, 1], [1, 18, 21]), ([1, 22], [1, 22]), ([23, 17, 0, 1, 2, 3, 4, 5, 6, 7, 8, 9, 10, 11, 12, 13, 14, 15, 16, 17, 18, 19, 20, 21, 22, 23], [23])])
def customhouselaw01_DigestBlock.B9 : List Nat := [0, 1, 3, 3, 15, 3, 63, 3, 255, 511, 3, 3, 3075, 3, 15363, 3, 64515, 131071, 262143, 3, 3, 1572867, 4194303, 8388607, 16777215]
theorem customhouselaw01_DigestBlock.tab9 : rtab .any (opsOf Tryd.f7 9) = customhouselaw01_DigestBlock.T9 := by kernel_rfl
theorem customhouselaw01_DigestBlock.bits9 : waitsOk customhouselaw01_DigestBlock.T9.2 customhouselaw01_DigestBlock.B9 = true := by kernel_rfl
set_option maxHeartbeats 8000000 in
set_option maxRecDepth 100000 in
theorem customhouselaw01_DigestBlock.calls (k : Nat) (a0 : ByteArray) (a1 : Int) (a2 : ByteArray) (a3 : ByteArray) (r : Bool) (w : World) (hG : GL w) (h : customhouselaw01_DigestBlock.f k a0 a1 a2 a3 = some r) :
    Calls Tryd.prog 7 #[.string a0, .int .u8 a1, .string a2, .string a3] w fun e w' => e = .returned (.bool r) ∧ Below w.heap.size w w' := by
  have HB := Aside0.mk (Below.refl w.heap.size w)
  have HG := Aside0.mk hG
  clear hG
  have H : ((customhouselaw01_head.f k).bind fun t148 => (if 0 ≤ (mn (mn (a2.size : Int) (a3.size : Int)) 8) then (if (mn (mn (a2.size : Int) (a3.size : Int)) 8) ≤ (a2.size : Int) then (if (mn (mn (a2.size : Int) (a3.size : Int)) 8) ≤ (a3.size : Int) then (if (a0.size : Int) > 2000 then (customhouselaw01_DigestBlock.j0 k a0 (a2.extract 0 ((mn (mn (a2.size : Int) (a3.size : Int)) 8) : Int).toNat) (a3.extract 0 ((mn (mn (a2.size : Int) (a3.size : Int)) 8) : Int).toNat) t148 (mn (mn (a2.size : Int) (a3.size : Int)) 8) (wrap64 (8 * (wrap64 (a1)))) true) else (customhouselaw01_DigestBlock.j0 k a0 (a2.extract 0 ((mn (mn (a2.size : Int) (a3.size : Int)) 8) : Int).toNat) (a3.extract 0 ((mn (mn (a2.size : Int) (a3.size : Int)) 8) : Int).toNat) t148 (mn (mn (a2.size : Int) (a3.size : Int)) 8) (wrap64 (8 * (wrap64 (a1)))) (decide ((wrap64 (8 * (wrap64 (a1)))) > (a0.size : Int))))) else (none)) else (none)) else (none))) = some r := h
  clear h
  replace H := Option.bind_eq_some_iff.mp H
  obtain ⟨t148, A50, H⟩ := H
  replace H : (if 0 ≤ (mn (mn (a2.size : Int) (a3.size : Int)) 8) then (if (mn (mn (a2.size : Int) (a3.size : Int)) 8) ≤ (a2.size : Int) then (if (mn (mn (a2.size : Int) (a3.size : Int)) 8) ≤ (a3.size : Int) then (if (a0.size : Int) > 2000 then (customhouselaw01_DigestBlock.j0 k a0 (a2.extract 0 ((mn (mn (a2.size : Int) (a3.size : Int)) 8) : Int).toNat) (a3.extract 0 ((mn (mn (a2.size : Int) (a3.size : Int)) 8) : Int).toNat) t148 (mn (mn (a2.size : Int) (a3.size : Int)) 8) (wrap64 (8 * (wrap64 (a1)))) true) else (customhouselaw01_DigestBlock.j0 k a0 (a2.extract 0 ((mn (mn (a2.size : Int) (a3.size : Int)) 8) : Int).toNat) (a3.extract 0 ((mn (mn (a2.size : Int) (a3.size : Int)) 8) : Int).toNat) t148 (mn (mn (a2.size : Int) (a3.size : Int)) 8) (wrap64 (8 * (wrap64 (a1)))) (decide ((wrap64 (8 * (wrap64 (a1)))) > (a0.size : Int))))) else (none)) else (none)) else (none)) = some r := H
  have A5 := Aside0.mk A50
  clear A50
  obtain ⟨ji6, hji6⟩ : ∃ j_ : Int, (mn (a2.size : Int) (a3.size : Int)) = j_ := ⟨_, rfl⟩
  replace H : (if 0 ≤ (mn (ji6) 8) then (if (mn (ji6) 8) ≤ (a2.size : Int) then (if (mn (ji6) 8) ≤ (a3.size : Int) then (if (a0.size : Int) > 2000 then (customhouselaw01_DigestBlock.j0 k a0 (a2.extract 0 ((mn (ji6) 8) : Int).toNat) (a3.extract 0 ((mn (ji6) 8) : Int).toNat) t148 (mn (ji6) 8) (wrap64 (8 * (wrap64 (a1)))) true) else (customhouselaw01_DigestBlock.j0 k a0 (a2.extract 0 ((mn (ji6) 8) : Int).toNat) (a3.extract 0 ((mn (ji6) 8) : Int).toNat) t148 (mn (ji6) 8) (wrap64 (8 * (wrap64 (a1)))) (decide ((wrap64 (8 * (wrap64 (a1)))) > (a0.size : Int))))) else (none)) else (none)) else (none)) = some r := by first | (rw [hji6] at H; exact H) | (simp only [hji6] at H ⊢; exact H)
  (try rw [hji6] at A5)
  (try (have hji6l : 0 ≤ ji6 := by (rw [← hji6]; unfold mn; (repeat' split) <;> omega)))
  (try (have hji6m : 0 ≤ ji6 := by omega))
  have hji6_ : (if (a3.size : Int) < (a2.size : Int) then (a3.size : Int) else (a2.size : Int)) = ji6 := hji6
  (try (have hji6n := hji6_; simp only [Int.ofNat_lt] at hji6n))
  obtain ⟨ji7, hji7⟩ : ∃ j_ : Int, (mn (ji6) 8) = j_ := ⟨_, rfl⟩
  replace H : (if 0 ≤ (ji7) then (if (ji7) ≤ (a2.size : Int) then (if (ji7) ≤ (a3.size : Int) then (if (a0.size : Int) > 2000 then (customhouselaw01_DigestBlock.j0 k a0 (a2.extract 0 ((ji7) : Int).toNat) (a3.extract 0 ((ji7) : Int).toNat) t148 ji7 (wrap64 (8 * (wrap64 (a1)))) true) else (customhouselaw01_DigestBlock.j0 k a0 (a2.extract 0 ((ji7) : Int).toNat) (a3.extract 0 ((ji7) : Int).toNat) t148 ji7 (wrap64 (8 * (wrap64 (a1)))) (decide ((wrap64 (8 * (wrap64 (a1)))) > (a0.size : Int))))) else (none)) else (none)) else (none)) = some r := by first | (rw [hji7] at H; exact H) | (simp only [hji7] at H ⊢; exact H)
  (try rw [hji7] at A5)
  have hji7_ : (if 8 < (ji6) then 8 else (ji6)) = ji7 := hji7
  by_cases c8 : 0 ≤ (ji7)
  · rw [if_pos c8] at H
    have c8b0 := eq_true c8
    have c8b1 : decide (0 ≤ (ji7)) = true := decide_eq_true c8
    clear c8
    by_cases c9 : (ji7) ≤ (a2.size : Int)
    · rw [if_pos c9] at H
      have c9b0 := eq_true c9
      have c9b1 : decide ((ji7) ≤ (a2.size : Int)) = true := decide_eq_true c9
      clear c9
      have c10b0 := eq_true (of_decide_eq_true (by first | (with_reducible assumption) | assumption) : 0 ≤ (ji7))
      by_cases c11 : (ji7) ≤ (a3.size : Int)
      · rw [if_pos c11] at H
        have c11b0 := eq_true c11
        have c11b1 : decide ((ji7) ≤ (a3.size : Int)) = true := decide_eq_true c11
        clear c11
        have HC12 := Aside0.mk H
        clear H
        go_enter Tryd.func7, Tryd.ntmps7
        go_upto_region 6 with (first | ((with_reducible refine gate_callee (f := 18) rfl ?_); refine goesL_ (some 13) rfl rfl Tryd.func18 (by kernel_rfl) rfl #[] rfl (by (try simp only [List.map_toArray, List.map_cons, List.map_nil]); first | done | rfl | (simp only [List.length_drop, List.length_take]; rfl)) ?_; (with_reducible refine (customhouselaw01_head.calls k  t148 _ ?side1 A5.out).mono ?_); (case side1 => exact GL.below HG.out (by repeat (first | (with_reducible first | exact HB.out | apply below_alloc | apply pw_below_drewN | apply below_drew1) | exact HB.out))); rintro e w13 ⟨rfl, hb⟩; refine ⟨_, rfl, ?_⟩; have n0_ := Aside0.mk (below_step (by repeat (first | (with_reducible first | exact HB.out | apply below_alloc | apply pw_below_drewN | apply below_drew1) | exact HB.out)) hb); clear HB; have HB := n0_; clear n0_; (try clear hb); (try clear hb2); (try clear hk); (try clear hi)))
        (try simp only [Act.put, List.setIfInBounds_toArray, List.set_cons_zero, List.set_cons_succ])
        go_cut [36] (fun v36 wc => ∃ (kq : Nat) (x36_11 : Bool), v36 = .bool x36_11 ∧ Aside0 (customhouselaw01_DigestBlock.j0 kq a0 (a2.extract 0 ((ji7) : Int).toNat) (a3.extract 0 ((ji7) : Int).toNat) t148 ji7 (wrap64 (8 * (wrap64 (a1)))) x36_11 = some r) ∧ Aside0 (kq ≤ k) ∧ Aside0 (Below w.heap.size w wc))
        case first =>
          have H := HC12.out
          clear HC12
          by_cases c14 : (a0.size : Int) > 2000
          · rw [if_pos c14] at H
            have c14b0 : decide (2000 < (a0.size : Int)) = true := decide_eq_true c14
            have c14b1 : decide (2000 < a0.size) = true := decide_eq_true (by omega)
            clear c14
            (first | rw [c14b0] | (simp only [i64_w, i32_w]; rw [c14b0]) | skip)
            have H' := Aside0.mk H
            clear H
            go_wp2
            go_meet
            case rel => exact ⟨_, (true), (by first | rfl | (simp; done) | (simp [*]; done)), H', ⟨by first | omega | exact Nat.le_refl _⟩, ⟨by repeat (first | (with_reducible first | exact HB.out | apply below_alloc | apply pw_below_drewN | apply below_drew1) | exact HB.out)⟩⟩
          · rw [if_neg c14] at H
            have c14b0 : decide (2000 < (a0.size : Int)) = false := decide_eq_false c14
            have c14b1 : decide (2000 < a0.size) = false := decide_eq_false (by omega)
            clear c14
            (first | rw [c14b0] | (simp only [i64_w, i32_w]; rw [c14b0]) | skip)
            have H' := Aside0.mk H
            clear H
            go_wp2
            go_meet
            case rel => exact ⟨_, (decide ((wrap64 (8 * (wrap64 (a1)))) > (a0.size : Int))), (by first | rfl | (simp; done) | (simp [*]; done)), H', ⟨by first | omega | exact Nat.le_refl _⟩, ⟨by repeat (first | (with_reducible first | exact HB.out | apply below_alloc | apply pw_below_drewN | apply below_drew1) | exact HB.out)⟩⟩
        case rest =>
          clear HC12
          try clear c1
          try clear p2
          try clear p6
          try clear c7
          try clear c8
          try clear c8b0
          try clear c8b1
          try clear c9
          try clear c9b0
          try clear c9b1
          try clear c10
          try clear c10b0
          try clear c11
          try clear c11b0
          try clear c11b1
          try clear c14
          try clear c14b0
          try clear c14b1
          obtain ⟨kq, x36_11, rfl, HA, HJ11, HB⟩ := hcut
          cases kq with
          | zero => exact absurd HA.out (by simp [customhouselaw01_DigestBlock.j0])
          | succ kj11 =>
            have H := HA.out
            clear HA
            simp only [customhouselaw01_DigestBlock.j0] at H
            by_cases c15 : x36_11 = true
            · subst c15
              have H1 : (some t148) = some r := by rw [if_pos rfl] at H; exact H
              clear H
              have H := H1
              clear H1
              obtain rfl := Option.some.inj H
              go_wp2
              go_ret
              exact ⟨by first | rfl | (simp [errW_none, errW_some] <;> rfl) | (simp only [← hji6, ← hji7]; first | rfl | (simp [errW_none, errW_some] <;> rfl)) | (simp [*, errW_none, errW_some] <;> rfl), by repeat (first | (with_reducible first | exact HB.out | apply below_alloc | apply pw_below_drewN | apply below_drew1) | exact HB.out)⟩
            · replace c15 := Bool.eq_false_iff.mpr c15
              subst c15
              have H1 : (if 0 ≤ (mn (wrap64 ((wrap64 (8 * (wrap64 (a1)))) + ji7)) (a0.size : Int)) then (if (mn (wrap64 ((wrap64 (8 * (wrap64 (a1)))) + ji7)) (a0.size : Int)) ≤ (a0.size : Int) then (if t148 = true then (if 0 ≤ (wrap64 (8 * (wrap64 (a1)))) then (if (wrap64 (8 * (wrap64 (a1)))) ≤ (a0.size : Int) then (if (a0.extract 0 ((wrap64 (8 * (wrap64 (a1)))) : Int).toNat).size + (a2.extract 0 ((ji7) : Int).toNat).size ≤ 9223372036854775807 then (if ((a0.extract 0 ((wrap64 (8 * (wrap64 (a1)))) : Int).toNat) ++ (a2.extract 0 ((ji7) : Int).toNat)).size + (a0.extract ((mn (wrap64 ((wrap64 (8 * (wrap64 (a1)))) + ji7)) (a0.size : Int)) : Int).toNat a0.size).size ≤ 9223372036854775807 then ((digest_Sum.f (((a0.extract 0 ((wrap64 (8 * (wrap64 (a1)))) : Int).toNat) ++ (a2.extract 0 ((ji7) : Int).toNat)) ++ (a0.extract ((mn (wrap64 ((wrap64 (8 * (wrap64 (a1)))) + ji7)) (a0.size : Int)) : Int).toNat a0.size))).bind fun t149 => (if (a0.extract 0 ((wrap64 (8 * (wrap64 (a1)))) : Int).toNat).size + (a3.extract 0 ((ji7) : Int).toNat).size ≤ 9223372036854775807 then (if ((a0.extract 0 ((wrap64 (8 * (wrap64 (a1)))) : Int).toNat) ++ (a3.extract 0 ((ji7) : Int).toNat)).size + (a0.extract ((mn (wrap64 ((wrap64 (8 * (wrap64 (a1)))) + ji7)) (a0.size : Int)) : Int).toNat a0.size).size ≤ 9223372036854775807 then ((digest_Sum.f (((a0.extract 0 ((wrap64 (8 * (wrap64 (a1)))) : Int).toNat) ++ (a3.extract 0 ((ji7) : Int).toNat)) ++ (a0.extract ((mn (wrap64 ((wrap64 (8 * (wrap64 (a1)))) + ji7)) (a0.size : Int)) : Int).toNat a0.size))).bind fun t150 => (some ((t149.toList == t150.toList) == ((a2.extract 0 ((ji7) : Int).toNat).toList == (a3.extract 0 ((ji7) : Int).toNat).toList)))) else (none)) else (none))) else (none)) else (none)) else (none)) else (none)) else (some false)) else (none)) else (none)) = some r := by rw [if_neg (show ¬ (false = true) by decide)] at H; exact H
              clear H
              have H := H1
              clear H1
              obtain ⟨ji16, hji16⟩ : ∃ j_ : Int, (mn (wrap64 ((wrap64 (8 * (wrap64 (a1)))) + ji7)) (a0.size : Int)) = j_ := ⟨_, rfl⟩
              replace H : (if 0 ≤ (ji16) then (if (ji16) ≤ (a0.size : Int) then (if t148 = true then (if 0 ≤ (wrap64 (8 * (wrap64 (a1)))) then (if (wrap64 (8 * (wrap64 (a1)))) ≤ (a0.size : Int) then (if (a0.extract 0 ((wrap64 (8 * (wrap64 (a1)))) : Int).toNat).size + (a2.extract 0 ((ji7) : Int).toNat).size ≤ 9223372036854775807 then (if ((a0.extract 0 ((wrap64 (8 * (wrap64 (a1)))) : Int).toNat) ++ (a2.extract 0 ((ji7) : Int).toNat)).size + (a0.extract ((ji16) : Int).toNat a0.size).size ≤ 9223372036854775807 then ((digest_Sum.f (((a0.extract 0 ((wrap64 (8 * (wrap64 (a1)))) : Int).toNat) ++ (a2.extract 0 ((ji7) : Int).toNat)) ++ (a0.extract ((ji16) : Int).toNat a0.size))).bind fun t149 => (if (a0.extract 0 ((wrap64 (8 * (wrap64 (a1)))) : Int).toNat).size + (a3.extract 0 ((ji7) : Int).toNat).size ≤ 9223372036854775807 then (if ((a0.extract 0 ((wrap64 (8 * (wrap64 (a1)))) : Int).toNat) ++ (a3.extract 0 ((ji7) : Int).toNat)).size + (a0.extract ((ji16) : Int).toNat a0.size).size ≤ 9223372036854775807 then ((digest_Sum.f (((a0.extract 0 ((wrap64 (8 * (wrap64 (a1)))) : Int).toNat) ++ (a3.extract 0 ((ji7) : Int).toNat)) ++ (a0.extract ((ji16) : Int).toNat a0.size))).bind fun t150 => (some ((t149.toList == t150.toList) == ((a2.extract 0 ((ji7) : Int).toNat).toList == (a3.extract 0 ((ji7) : Int).toNat).toList)))) else (none)) else (none))) else (none)) else (none)) else (none)) else (none)) else (some false)) else (none)) else (none)) = some r := by first | (rw [hji16] at H; exact H) | (simp only [hji16] at H ⊢; exact H)
              have hji16_ : (if (a0.size : Int) < (wrap64 ((wrap64 (8 * (wrap64 (a1)))) + ji7)) then (a0.size : Int) else (wrap64 ((wrap64 (8 * (wrap64 (a1)))) + ji7))) = ji16 := hji16
              by_cases c17 : 0 ≤ (ji16)
              · rw [if_pos c17] at H
                have c17b0 := eq_true c17
                have c17b1 : decide (0 ≤ (ji16)) = true := decide_eq_true c17
                clear c17
                by_cases c18 : (ji16) ≤ (a0.size : Int)
                · rw [if_pos c18] at H
                  have c18b0 := eq_true c18
                  have c18b1 : decide ((ji16) ≤ (a0.size : Int)) = true := decide_eq_true c18
                  clear c18
                  by_cases c19 : t148 = true
                  · subst c19
                    have H1 : (if 0 ≤ (wrap64 (8 * (wrap64 (a1)))) then (if (wrap64 (8 * (wrap64 (a1)))) ≤ (a0.size : Int) then (if (a0.extract 0 ((wrap64 (8 * (wrap64 (a1)))) : Int).toNat).size + (a2.extract 0 ((ji7) : Int).toNat).size ≤ 9223372036854775807 then (if ((a0.extract 0 ((wrap64 (8 * (wrap64 (a1)))) : Int).toNat) ++ (a2.extract 0 ((ji7) : Int).toNat)).size + (a0.extract ((ji16) : Int).toNat a0.size).size ≤ 9223372036854775807 then ((digest_Sum.f (((a0.extract 0 ((wrap64 (8 * (wrap64 (a1)))) : Int).toNat) ++ (a2.extract 0 ((ji7) : Int).toNat)) ++ (a0.extract ((ji16) : Int).toNat a0.size))).bind fun t149 => (if (a0.extract 0 ((wrap64 (8 * (wrap64 (a1)))) : Int).toNat).size + (a3.extract 0 ((ji7) : Int).toNat).size ≤ 9223372036854775807 then (if ((a0.extract 0 ((wrap64 (8 * (wrap64 (a1)))) : Int).toNat) ++ (a3.extract 0 ((ji7) : Int).toNat)).size + (a0.extract ((ji16) : Int).toNat a0.size).size ≤ 9223372036854775807 then ((digest_Sum.f (((a0.extract 0 ((wrap64 (8 * (wrap64 (a1)))) : Int).toNat) ++ (a3.extract 0 ((ji7) : Int).toNat)) ++ (a0.extract ((ji16) : Int).toNat a0.size))).bind fun t150 => (some ((t149.toList == t150.toList) == ((a2.extract 0 ((ji7) : Int).toNat).toList == (a3.extract 0 ((ji7) : Int).toNat).toList)))) else (none)) else (none))) else (none)) else (none)) else (none)) else (none)) = some r := by rw [if_pos rfl] at H; exact H
                    clear H
                    have H := H1
                    clear H1
                    obtain ⟨ji20, hji20⟩ : ∃ j_ : Int, (wrap64 (8 * (wrap64 (a1)))) = j_ := ⟨_, rfl⟩
                    replace H : (if 0 ≤ (ji20) then (if (ji20) ≤ (a0.size : Int) then (if (a0.extract 0 ((ji20) : Int).toNat).size + (a2.extract 0 ((ji7) : Int).toNat).size ≤ 9223372036854775807 then (if ((a0.extract 0 ((ji20) : Int).toNat) ++ (a2.extract 0 ((ji7) : Int).toNat)).size + (a0.extract ((ji16) : Int).toNat a0.size).size ≤ 9223372036854775807 then ((digest_Sum.f (((a0.extract 0 ((ji20) : Int).toNat) ++ (a2.extract 0 ((ji7) : Int).toNat)) ++ (a0.extract ((ji16) : Int).toNat a0.size))).bind fun t149 => (if (a0.extract 0 ((ji20) : Int).toNat).size + (a3.extract 0 ((ji7) : Int).toNat).size ≤ 9223372036854775807 then (if ((a0.extract 0 ((ji20) : Int).toNat) ++ (a3.extract 0 ((ji7) : Int).toNat)).size + (a0.extract ((ji16) : Int).toNat a0.size).size ≤ 9223372036854775807 then ((digest_Sum.f (((a0.extract 0 ((ji20) : Int).toNat) ++ (a3.extract 0 ((ji7) : Int).toNat)) ++ (a0.extract ((ji16) : Int).toNat a0.size))).bind fun t150 => (some ((t149.toList == t150.toList) == ((a2.extract 0 ((ji7) : Int).toNat).toList == (a3.extract 0 ((ji7) : Int).toNat).toList)))) else (none)) else (none))) else (none)) else (none)) else (none)) else (none)) = some r := by first | (rw [hji20] at H; exact H) | (simp only [hji20] at H ⊢; exact H)
                    have hji20w : (IntKind.i64.wrap (8 * (wrap64 (a1)))) = ji20 := (i64_w _).trans hji20
                    (try rw [hji20] at hji16_)
                    by_cases c21 : 0 ≤ (ji20)
                    · rw [if_pos c21] at H
                      have c21b0 := eq_true c21
                      have c21b1 : decide (0 ≤ (ji20)) = true := decide_eq_true c21
                      clear c21
                      by_cases c22 : (ji20) ≤ (a0.size : Int)
                      · rw [if_pos c22] at H
                        have c22b0 := eq_true c22
                        have c22b1 : decide ((ji20) ≤ (a0.size : Int)) = true := decide_eq_true c22
                        clear c22
                        by_cases c23 : (a0.extract 0 ((ji20) : Int).toNat).size + (a2.extract 0 ((ji7) : Int).toNat).size ≤ 9223372036854775807
                        · rw [if_pos c23] at H
                          have c23b0 := eq_true c23
                          have c23b1 : decide ((a0.extract 0 ((ji20) : Int).toNat).size + (a2.extract 0 ((ji7) : Int).toNat).size ≤ 9223372036854775807) = true := decide_eq_true c23
                          try have c23b2 : (9223372036854775807 < (a0.extract 0 ((ji20) : Int).toNat).size + (a2.extract 0 ((ji7) : Int).toNat).size) = False := eq_false (Nat.not_lt.2 c23)
                          by_cases c24 : ((a0.extract 0 ((ji20) : Int).toNat) ++ (a2.extract 0 ((ji7) : Int).toNat)).size + (a0.extract ((ji16) : Int).toNat a0.size).size ≤ 9223372036854775807
                          · rw [if_pos c24] at H
                            have c24b0 := eq_true c24
                            have c24b1 : decide (((a0.extract 0 ((ji20) : Int).toNat) ++ (a2.extract 0 ((ji7) : Int).toNat)).size + (a0.extract ((ji16) : Int).toNat a0.size).size ≤ 9223372036854775807) = true := decide_eq_true c24
                            try have c24b2 : (9223372036854775807 < ((a0.extract 0 ((ji20) : Int).toNat) ++ (a2.extract 0 ((ji7) : Int).toNat)).size + (a0.extract ((ji16) : Int).toNat a0.size).size) = False := eq_false (Nat.not_lt.2 c24)
                            replace H := Option.bind_eq_some_iff.mp H
                            obtain ⟨t149, A250, H⟩ := H
                            replace H : (if (a0.extract 0 ((ji20) : Int).toNat).size + (a3.extract 0 ((ji7) : Int).toNat).size ≤ 9223372036854775807 then (if ((a0.extract 0 ((ji20) : Int).toNat) ++ (a3.extract 0 ((ji7) : Int).toNat)).size + (a0.extract ((ji16) : Int).toNat a0.size).size ≤ 9223372036854775807 then ((digest_Sum.f (((a0.extract 0 ((ji20) : Int).toNat) ++ (a3.extract 0 ((ji7) : Int).toNat)) ++ (a0.extract ((ji16) : Int).toNat a0.size))).bind fun t150 => (some ((t149.toList == t150.toList) == ((a2.extract 0 ((ji7) : Int).toNat).toList == (a3.extract 0 ((ji7) : Int).toNat).toList)))) else (none)) else (none)) = some r := H
                            have A25 := Aside0.mk A250
                            clear A250
                            have c26b0 := eq_true (of_decide_eq_true (by first | (with_reducible assumption) | assumption) : 0 ≤ (ji20))
                            have c27b0 := eq_true (of_decide_eq_true (by first | (with_reducible assumption) | assumption) : (ji20) ≤ (a0.size : Int))
                            by_cases c28 : (a0.extract 0 ((ji20) : Int).toNat).size + (a3.extract 0 ((ji7) : Int).toNat).size ≤ 9223372036854775807
                            · rw [if_pos c28] at H
                              have c28b0 := eq_true c28
                              have c28b1 : decide ((a0.extract 0 ((ji20) : Int).toNat).size + (a3.extract 0 ((ji7) : Int).toNat).size ≤ 9223372036854775807) = true := decide_eq_true c28
                              try have c28b2 : (9223372036854775807 < (a0.extract 0 ((ji20) : Int).toNat).size + (a3.extract 0 ((ji7) : Int).toNat).size) = False := eq_false (Nat.not_lt.2 c28)
                              by_cases c29 : ((a0.extract 0 ((ji20) : Int).toNat) ++ (a3.extract 0 ((ji7) : Int).toNat)).size + (a0.extract ((ji16) : Int).toNat a0.size).size ≤ 9223372036854775807
                              · rw [if_pos c29] at H
                                have c29b0 := eq_true c29
                                have c29b1 : decide (((a0.extract 0 ((ji20) : Int).toNat) ++ (a3.extract 0 ((ji7) : Int).toNat)).size + (a0.extract ((ji16) : Int).toNat a0.size).size ≤ 9223372036854775807) = true := decide_eq_true c29
                                try have c29b2 : (9223372036854775807 < ((a0.extract 0 ((ji20) : Int).toNat) ++ (a3.extract 0 ((ji7) : Int).toNat)).size + (a0.extract ((ji16) : Int).toNat a0.size).size) = False := eq_false (Nat.not_lt.2 c29)
                                replace H := Option.bind_eq_some_iff.mp H
                                obtain ⟨t150, A300, H⟩ := H
                                replace H : (some ((t149.toList == t150.toList) == ((a2.extract 0 ((ji7) : Int).toNat).toList == (a3.extract 0 ((ji7) : Int).toNat).toList))) = some r := H
                                have A30 := Aside0.mk A300
                                clear A300
                                obtain rfl := Option.some.inj H
                                try go_wp2
                                have n0_ := Aside0.mk (below_drew1 HB.out)
                                clear HB
                                have HB := n0_
                                clear n0_
                                refine start_ (n := 25) (S := fun w' => True) (ds := []) #[false, false, false, false, false, false, false, false, false, false, false, false, false, false, false, false, false, false, false, false, false, false, false, false, false] (by kernel_rfl) rfl rfl trivial (fun hHeld => ?_); refine with_tabW customhouselaw01_DigestBlock.tab9 customhouselaw01_DigestBlock.bits9 (fun HT_ HW_ => ?_)
                                generalize wc.drew = w31 at HB hHeld ⊢
                                refine pure_ (i := 0) (N := some 46) (v := ?_) (a' := ?_) #[true, false, false, false, false, false, false, false, false, false, false, false, false, false, false, false, false, false, false, false, false, false, false, false, false] rfl rfl (any_of HT_.out (by kernel_rfl)) (fun _ _ _ h => h) (Or.inl ⟨by rfl, ?_⟩) ?_ ?_
                                rotate_left
                                · intro w'
                                  go_simp
                                  first | with_reducible rfl | (rw [if_neg (by (try simp only [ByteArray.size_append, ByteArray.size_extract, eq_iff_iff, iff_true, iff_false, decide_eq_true_eq] at *); omega)] <;> with_reducible rfl)
                                rotate_left
                                · simp only [Act.put, List.setIfInBounds_toArray, List.set_cons_zero, List.set_cons_succ, i64_w, i32_w]
                                  rfl
                                refine pure_ (i := 1) (N := some 47) (v := ?_) (a' := ?_) #[true, true, false, false, false, false, false, false, false, false, false, false, false, false, false, false, false, false, false, false, false, false, false, false, false] rfl rfl (any_of HT_.out (by kernel_rfl)) (fun _ _ _ h => h) (Or.inl ⟨by rfl, ?_⟩) ?_ ?_
                                rotate_left
                                · intro w'
                                  go_simp
                                  first | with_reducible rfl | (rw [if_neg (by (try simp only [ByteArray.size_append, ByteArray.size_extract, eq_iff_iff, iff_true, iff_false, decide_eq_true_eq] at *); omega)] <;> with_reducible rfl)
                                rotate_left
                                · simp only [Act.put, List.setIfInBounds_toArray, List.set_cons_zero, List.set_cons_succ, i64_w, i32_w]
                                  rfl
                                refine pure_ (i := 2) (N := some 48) (v := ?_) (a' := ?_) #[true, true, true, false, false, false, false, false, false, false, false, false, false, false, false, false, false, false, false, false, false, false, false, false, false] rfl rfl (any_of HT_.out (by kernel_rfl)) (fun _ _ _ h => h) (Or.inl ⟨by rfl, ?_⟩) ?_ ?_
                                rotate_left
                                · intro w'
                                  go_simp
                                  first | with_reducible rfl | (rw [if_neg (by (try simp only [ByteArray.size_append, ByteArray.size_extract, eq_iff_iff, iff_true, iff_false, decide_eq_true_eq] at *); omega)] <;> with_reducible rfl)
                                rotate_left
                                · simp only [Act.put, List.setIfInBounds_toArray, List.set_cons_zero, List.set_cons_succ, i64_w, i32_w]
                                  rfl
                                refine pure_ (i := 3) (N := some 49) (v := ?_) (a' := ?_) #[true, true, true, true, false, false, false, false, false, false, false, false, false, false, false, false, false, false, false, false, false, false, false, false, false] rfl rfl (any_of HT_.out (by kernel_rfl)) (fun _ _ _ h => h) (Or.inl ⟨by rfl, ?_⟩) ?_ ?_
                                rotate_left
                                · intro w'
                                  go_simp
                                  first | with_reducible rfl | (rw [if_neg (by (try simp only [ByteArray.size_append, ByteArray.size_extract, eq_iff_iff, iff_true, iff_false, decide_eq_true_eq] at *); omega)] <;> with_reducible rfl)
                                rotate_left
                                · simp only [Act.put, List.setIfInBounds_toArray, List.set_cons_zero, List.set_cons_succ, i64_w, i32_w]
                                  rfl
                                refine pure_ (i := 4) (N := some 50) (v := ?_) (a' := ?_) #[true, true, true, true, true, false, false, false, false, false, false, false, false, false, false, false, false, false, false, false, false, false, false, false, false] rfl rfl (any_of HT_.out (by kernel_rfl)) (fun _ _ _ h => h) (Or.inl ⟨by rfl, ?_⟩) ?_ ?_
                                rotate_left
                                · intro w'
                                  go_simp
                                  first | with_reducible rfl | (rw [if_neg (by (try simp only [ByteArray.size_append, ByteArray.size_extract, eq_iff_iff, iff_true, iff_false, decide_eq_true_eq] at *); omega)] <;> with_reducible rfl)
                                rotate_left
                                · simp only [Act.put, List.setIfInBounds_toArray, List.set_cons_zero, List.set_cons_succ, i64_w, i32_w]
                                  rfl
                                refine pure_ (i := 5) (N := some 51) (v := ?_) (a' := ?_) #[true, true, true, true, true, true, false, false, false, false, false, false, false, false, false, false, false, false, false, false, false, false, false, false, false] rfl rfl (any_of HT_.out (by kernel_rfl)) (fun _ _ _ h => h) (Or.inl ⟨by rfl, ?_⟩) ?_ ?_
                                rotate_left
                                · intro w'
                                  go_simp
                                  first | with_reducible rfl | (rw [if_neg (by (try simp only [ByteArray.size_append, ByteArray.size_extract, eq_iff_iff, iff_true, iff_false, decide_eq_true_eq] at *); omega)] <;> with_reducible rfl)
                                rotate_left
                                · simp only [Act.put, List.setIfInBounds_toArray, List.set_cons_zero, List.set_cons_succ, i64_w, i32_w]
                                  rfl
                                refine pure_ (i := 6) (N := some 52) (v := ?_) (a' := ?_) #[true, true, true, true, true, true, true, false, false, false, false, false, false, false, false, false, false, false, false, false, false, false, false, false, false] rfl rfl (any_of HT_.out (by kernel_rfl)) (fun _ _ _ h => h) (Or.inl ⟨by rfl, ?_⟩) ?_ ?_
                                rotate_left
                                · intro w'
                                  go_simp
                                  first | with_reducible rfl | (rw [if_neg (by (try simp only [ByteArray.size_append, ByteArray.size_extract, eq_iff_iff, iff_true, iff_false, decide_eq_true_eq] at *); omega)] <;> with_reducible rfl)
                                rotate_left
                                · simp only [Act.put, List.setIfInBounds_toArray, List.set_cons_zero, List.set_cons_succ, i64_w, i32_w]
                                  rfl
                                refine pure_ (i := 7) (N := some 53) (v := ?_) (a' := ?_) #[true, true, true, true, true, true, true, true, false, false, false, false, false, false, false, false, false, false, false, false, false, false, false, false, false] rfl rfl (any_of HT_.out (by kernel_rfl)) (fun _ _ _ h => h) (Or.inl ⟨by rfl, ?_⟩) ?_ ?_
                                rotate_left
                                · intro w'
                                  go_simp
                                  first | with_reducible rfl | (rw [if_neg (by (try simp only [ByteArray.size_append, ByteArray.size_extract, eq_iff_iff, iff_true, iff_false, decide_eq_true_eq] at *); omega)] <;> with_reducible rfl)
                                rotate_left
                                · simp only [Act.put, List.setIfInBounds_toArray, List.set_cons_zero, List.set_cons_succ, i64_w, i32_w]
                                  rfl
                                refine pure_ (i := 8) (N := some 54) (v := ?_) (a' := ?_) #[true, true, true, true, true, true, true, true, true, false, false, false, false, false, false, false, false, false, false, false, false, false, false, false, false] rfl rfl (any_of HT_.out (by kernel_rfl)) (fun _ _ _ h => h) (Or.inl ⟨by rfl, ?_⟩) ?_ ?_
                                rotate_left
                                · intro w'
                                  go_simp
                                  first | with_reducible rfl | (rw [if_neg (by (try simp only [ByteArray.size_append, ByteArray.size_extract, eq_iff_iff, iff_true, iff_false, decide_eq_true_eq] at *); omega)] <;> with_reducible rfl)
                                rotate_left
                                · simp only [Act.put, List.setIfInBounds_toArray, List.set_cons_zero, List.set_cons_succ, i64_w, i32_w]
                                  rfl
                                refine pure_ (i := 10) (N := some 56) (v := ?_) (a' := ?_) #[true, true, true, true, true, true, true, true, true, false, true, false, false, false, false, false, false, false, false, false, false, false, false, false, false] rfl rfl (any_of HT_.out (by kernel_rfl)) (fun _ _ _ h => h) (Or.inl ⟨by rfl, ?_⟩) ?_ ?_
                                rotate_left
                                · intro w'
                                  go_simp
                                  first | with_reducible rfl | (rw [if_neg (by (try simp only [ByteArray.size_append, ByteArray.size_extract, eq_iff_iff, iff_true, iff_false, decide_eq_true_eq] at *); omega)] <;> with_reducible rfl)
                                rotate_left
                                · simp only [Act.put, List.setIfInBounds_toArray, List.set_cons_zero, List.set_cons_succ, i64_w, i32_w]
                                  rfl
                                refine pure_ (i := 11) (N := some 57) (v := ?_) (a' := ?_) #[true, true, true, true, true, true, true, true, true, false, true, true, false, false, false, false, false, false, false, false, false, false, false, false, false] rfl rfl (any_of HT_.out (by kernel_rfl)) (fun _ _ _ h => h) (Or.inl ⟨by rfl, ?_⟩) ?_ ?_
                                rotate_left
                                · intro w'
                                  go_simp
                                  first | with_reducible rfl | (rw [if_neg (by (try simp only [ByteArray.size_append, ByteArray.size_extract, eq_iff_iff, iff_true, iff_false, decide_eq_true_eq] at *); omega)] <;> with_reducible rfl)
                                rotate_left
                                · simp only [Act.put, List.setIfInBounds_toArray, List.set_cons_zero, List.set_cons_succ, i64_w, i32_w]
                                  rfl
                                refine pure_ (i := 12) (N := some 58) (v := ?_) (a' := ?_) #[true, true, true, true, true, true, true, true, true, false, true, true, true, false, false, false, false, false, false, false, false, false, false, false, false] rfl rfl (any_of HT_.out (by kernel_rfl)) (fun _ _ _ h => h) (Or.inl ⟨by rfl, ?_⟩) ?_ ?_
                                rotate_left
                                · intro w'
                                  go_simp
                                  first | with_reducible rfl | (rw [if_neg (by (try simp only [ByteArray.size_append, ByteArray.size_extract, eq_iff_iff, iff_true, iff_false, decide_eq_true_eq] at *); omega)] <;> with_reducible rfl)
                                rotate_left
                                · simp only [Act.put, List.setIfInBounds_toArray, List.set_cons_zero, List.set_cons_succ, i64_w, i32_w]
                                  rfl
                                refine pure_ (i := 13) (N := some 59) (v := ?_) (a' := ?_) #[true, true, true, true, true, true, true, true, true, false, true, true, true, true, false, false, false, false, false, false, false, false, false, false, false] rfl rfl (any_of HT_.out (by kernel_rfl)) (fun _ _ _ h => h) (Or.inl ⟨by rfl, ?_⟩) ?_ ?_
                                rotate_left
                                · intro w'
                                  go_simp
                                  first | with_reducible rfl | (rw [if_neg (by (try simp only [ByteArray.size_append, ByteArray.size_extract, eq_iff_iff, iff_true, iff_false, decide_eq_true_eq] at *); omega)] <;> with_reducible rfl)
                                rotate_left
                                · simp only [Act.put, List.setIfInBounds_toArray, List.set_cons_zero, List.set_cons_succ, i64_w, i32_w]
                                  rfl
                                refine pure_ (i := 14) (N := some 60) (v := ?_) (a' := ?_) #[true, true, true, true, true, true, true, true, true, false, true, true, true, true, true, false, false, false, false, false, false, false, false, false, false] rfl rfl (any_of HT_.out (by kernel_rfl)) (fun _ _ _ h => h) (Or.inl ⟨by rfl, ?_⟩) ?_ ?_
                                rotate_left
                                · intro w'
                                  go_simp
                                  first | with_reducible rfl | (rw [if_neg (by (try simp only [ByteArray.size_append, ByteArray.size_extract, eq_iff_iff, iff_true, iff_false, decide_eq_true_eq] at *); omega)] <;> with_reducible rfl)
                                rotate_left
                                · simp only [Act.put, List.setIfInBounds_toArray, List.set_cons_zero, List.set_cons_succ, i64_w, i32_w]
                                  rfl
                                refine pure_ (i := 15) (N := some 61) (v := ?_) (a' := ?_) #[true, true, true, true, true, true, true, true, true, false, true, true, true, true, true, true, false, false, false, false, false, false, false, false, false] rfl rfl (any_of HT_.out (by kernel_rfl)) (fun _ _ _ h => h) (Or.inl ⟨by rfl, ?_⟩) ?_ ?_
                                rotate_left
                                · intro w'
                                  go_simp
                                  first | with_reducible rfl | (rw [if_neg (by (try simp only [ByteArray.size_append, ByteArray.size_extract, eq_iff_iff, iff_true, iff_false, decide_eq_true_eq] at *); omega)] <;> with_reducible rfl)
                                rotate_left
                                · simp only [Act.put, List.setIfInBounds_toArray, List.set_cons_zero, List.set_cons_succ, i64_w, i32_w]
                                  rfl
                                refine pure_ (i := 16) (N := some 62) (v := ?_) (a' := ?_) #[true, true, true, true, true, true, true, true, true, false, true, true, true, true, true, true, true, false, false, false, false, false, false, false, false] rfl rfl (any_of HT_.out (by kernel_rfl)) (fun _ _ _ h => h) (Or.inl ⟨by rfl, ?_⟩) ?_ ?_
                                rotate_left
                                · intro w'
                                  go_simp
                                  first | with_reducible rfl | (rw [if_neg (by (try simp only [ByteArray.size_append, ByteArray.size_extract, eq_iff_iff, iff_true, iff_false, decide_eq_true_eq] at *); omega)] <;> with_reducible rfl)
                                rotate_left
                                · simp only [Act.put, List.setIfInBounds_toArray, List.set_cons_zero, List.set_cons_succ, i64_w, i32_w]
                                  rfl
                                refine pure_ (i := 19) (N := some 65) (v := ?_) (a' := ?_) #[true, true, true, true, true, true, true, true, true, false, true, true, true, true, true, true, true, false, false, true, false, false, false, false, false] rfl rfl (any_of HT_.out (by kernel_rfl)) (fun _ _ _ h => h) (Or.inl ⟨by rfl, ?_⟩) ?_ ?_
                                rotate_left
                                · intro w'
                                  go_simp
                                  first | with_reducible rfl | (rw [if_neg (by (try simp only [ByteArray.size_append, ByteArray.size_extract, eq_iff_iff, iff_true, iff_false, decide_eq_true_eq] at *); omega)] <;> with_reducible rfl)
                                rotate_left
                                · simp only [Act.put, List.setIfInBounds_toArray, List.set_cons_zero, List.set_cons_succ, i64_w, i32_w]
                                  rfl
                                refine pure_ (i := 20) (N := some 66) (v := ?_) (a' := ?_) #[true, true, true, true, true, true, true, true, true, false, true, true, true, true, true, true, true, false, false, true, true, false, false, false, false] rfl rfl (any_of HT_.out (by kernel_rfl)) (fun _ _ _ h => h) (Or.inl ⟨by rfl, ?_⟩) ?_ ?_
                                rotate_left
                                · intro w'
                                  go_simp
                                  first | with_reducible rfl | (rw [if_neg (by (try simp only [ByteArray.size_append, ByteArray.size_extract, eq_iff_iff, iff_true, iff_false, decide_eq_true_eq] at *); omega)] <;> with_reducible rfl)
                                rotate_left
                                · simp only [Act.put, List.setIfInBounds_toArray, List.set_cons_zero, List.set_cons_succ, i64_w, i32_w]
                                  rfl
                                refine pure_ (i := 21) (N := some 67) (v := ?_) (a' := ?_) #[true, true, true, true, true, true, true, true, true, false, true, true, true, true, true, true, true, false, false, true, true, true, false, false, false] rfl rfl (any_of HT_.out (by kernel_rfl)) (fun _ _ _ h => h) (Or.inl ⟨by rfl, ?_⟩) ?_ ?_
                                rotate_left
                                · intro w'
                                  go_simp
                                  first | with_reducible rfl | (rw [if_neg (by (try simp only [ByteArray.size_append, ByteArray.size_extract, eq_iff_iff, iff_true, iff_false, decide_eq_true_eq] at *); omega)] <;> with_reducible rfl)
                                rotate_left
                                · simp only [Act.put, List.setIfInBounds_toArray, List.set_cons_zero, List.set_cons_succ, i64_w, i32_w]
                                  rfl
                                refine one_ (i := 9) (N := some 55) #[true, true, true, true, true, true, true, true, true, true, true, true, true, true, true, true, true, false, false, true, true, true, false, false, false] rfl rfl (one_of HT_.out (by kernel_rfl)) (by decide) (fun K hK => ?_)
                                refine goes_ Tryd.func20 (by kernel_rfl) rfl #[.string (((a0.extract 0 ((ji20) : Int).toNat) ++ (a2.extract 0 ((ji7) : Int).toNat)) ++ (a0.extract ((ji16) : Int).toNat a0.size))] (by rfl) rfl rfl (by (try simp only [List.map_toArray, List.map_cons, List.map_nil]); first | done | (simp only [hji16, hji20, hji7]; rfl) | rfl | (simp only [List.length_drop, List.length_take]; rfl)) ?_
                                with_reducible refine (digest_Sum.calls (((a0.extract 0 ((ji20) : Int).toNat) ++ (a2.extract 0 ((ji7) : Int).toNat)) ++ (a0.extract ((ji16) : Int).toNat a0.size)) t149 _ ?side1 A25.out).mono ?_
                                (case side1 => exact GL.below HG.out (by repeat (first | (with_reducible first | exact HB.out | apply below_alloc | apply pw_below_drewN | apply below_drew1) | exact HB.out)))
                                rintro e w32 ⟨rfl, hb⟩
                                refine ⟨_, rfl, ?_⟩
                                have n0_ := Aside0.mk (below_step (by repeat (first | (with_reducible first | exact HB.out | apply below_alloc | apply pw_below_drewN | apply below_drew1) | exact HB.out)) hb)
                                clear HB
                                have HB := n0_
                                clear n0_
                                (try clear hb)
                                (try clear hb2)
                                (try clear hk)
                                (try clear hi)
                                refine hK.out _ _ trivial (fun hHeld => ?_)
                                clear hK K
                                refine norm_ (a' := ?_) ?_ ?_
                                rotate_left
                                · show Act.put _ (some 55) _ = _
                                  simp only [Act.put, List.setIfInBounds_toArray, List.set_cons_zero, List.set_cons_succ, i64_w, i32_w]
                                  rfl
                                refine one_ (i := 17) (N := some 63) #[true, true, true, true, true, true, true, true, true, true, true, true, true, true, true, true, true, true, false, true, true, true, false, false, false] rfl rfl (one_of HT_.out (by kernel_rfl)) (by decide) (fun K hK => ?_)
                                refine goes_ Tryd.func20 (by kernel_rfl) rfl #[.string (((a0.extract 0 ((ji20) : Int).toNat) ++ (a3.extract 0 ((ji7) : Int).toNat)) ++ (a0.extract ((ji16) : Int).toNat a0.size))] (by rfl) rfl rfl (by (try simp only [List.map_toArray, List.map_cons, List.map_nil]); first | done | (simp only [hji16, hji20, hji7]; rfl) | rfl | (simp only [List.length_drop, List.length_take]; rfl)) ?_
                                with_reducible refine (digest_Sum.calls (((a0.extract 0 ((ji20) : Int).toNat) ++ (a3.extract 0 ((ji7) : Int).toNat)) ++ (a0.extract ((ji16) : Int).toNat a0.size)) t150 _ ?side1 A30.out).mono ?_
                                (case side1 => exact GL.below HG.out (by repeat (first | (with_reducible first | exact HB.out | apply below_alloc | apply pw_below_drewN | apply below_drew1) | exact HB.out)))
                                rintro e w33 ⟨rfl, hb⟩
                                refine ⟨_, rfl, ?_⟩
                                have n0_ := Aside0.mk (below_step (by repeat (first | (with_reducible first | exact HB.out | apply below_alloc | apply pw_below_drewN | apply below_drew1) | exact HB.out)) hb)
                                clear HB
                                have HB := n0_
                                clear n0_
                                (try clear hb)
                                (try clear hb2)
                                (try clear hk)
                                (try clear hi)
                                refine hK.out _ _ trivial (fun hHeld => ?_)
                                clear hK K
                                refine norm_ (a' := ?_) ?_ ?_
                                rotate_left
                                · show Act.put _ (some 63) _ = _
                                  simp only [Act.put, List.setIfInBounds_toArray, List.set_cons_zero, List.set_cons_succ, i64_w, i32_w]
                                  rfl
                                refine pure_ (i := 18) (N := some 64) (v := ?_) (a' := ?_) #[true, true, true, true, true, true, true, true, true, true, true, true, true, true, true, true, true, true, true, true, true, true, false, false, false] rfl rfl (any_of HT_.out (by kernel_rfl)) (fun _ _ _ h => h) (Or.inl ⟨by rfl, ?_⟩) ?_ ?_
                                rotate_left
                                · intro w'
                                  go_simp
                                  first | with_reducible rfl | (rw [if_neg (by (try simp only [ByteArray.size_append, ByteArray.size_extract, eq_iff_iff, iff_true, iff_false, decide_eq_true_eq] at *); omega)] <;> with_reducible rfl)
                                rotate_left
                                · simp only [Act.put, List.setIfInBounds_toArray, List.set_cons_zero, List.set_cons_succ, i64_w, i32_w]
                                  rfl
                                refine pure_ (i := 22) (N := some 68) (v := ?_) (a' := ?_) #[true, true, true, true, true, true, true, true, true, true, true, true, true, true, true, true, true, true, true, true, true, true, true, false, false] rfl rfl (any_of HT_.out (by kernel_rfl)) (fun _ _ _ h => h) (Or.inl ⟨by rfl, ?_⟩) ?_ ?_
                                rotate_left
                                · intro w'
                                  go_simp
                                  first | with_reducible rfl | (rw [if_neg (by (try simp only [ByteArray.size_append, ByteArray.size_extract, eq_iff_iff, iff_true, iff_false, decide_eq_true_eq] at *); omega)] <;> with_reducible rfl)
                                rotate_left
                                · simp only [Act.put, List.setIfInBounds_toArray, List.set_cons_zero, List.set_cons_succ, i64_w, i32_w]
                                  rfl
                                refine pure_ (i := 23) (N := some 69) (v := ?_) (a' := ?_) #[true, true, true, true, true, true, true, true, true, true, true, true, true, true, true, true, true, true, true, true, true, true, true, true, false] rfl rfl (any_of HT_.out (by kernel_rfl)) (fun _ _ _ h => h) (Or.inl ⟨by rfl, ?_⟩) ?_ ?_
                                rotate_left
                                · intro w'
                                  go_simp
                                  first | with_reducible rfl | (rw [if_neg (by (try simp only [ByteArray.size_append, ByteArray.size_extract, eq_iff_iff, iff_true, iff_false, decide_eq_true_eq] at *); omega)] <;> with_reducible rfl)
                                rotate_left
                                · simp only [Act.put, List.setIfInBounds_toArray, List.set_cons_zero, List.set_cons_succ, i64_w, i32_w]
                                  rfl
                                refine pure_ (i := 24) (N := some 8) (v := ?_) (a' := ?_) #[true, true, true, true, true, true, true, true, true, true, true, true, true, true, true, true, true, true, true, true, true, true, true, true, true] rfl rfl (any_of HT_.out (by kernel_rfl)) (fun _ _ _ h => h) (Or.inl ⟨by rfl, ?_⟩) ?_ ?_
                                rotate_left
                                · intro w'
                                  go_simp
                                  first | with_reducible rfl | (rw [if_neg (by (try simp only [ByteArray.size_append, ByteArray.size_extract, eq_iff_iff, iff_true, iff_false, decide_eq_true_eq] at *); omega)] <;> with_reducible rfl)
                                rotate_left
                                · simp only [Act.put, List.setIfInBounds_toArray, List.set_cons_zero, List.set_cons_succ, i64_w, i32_w]
                                  rfl
                                refine done_ (done_of HT_.out (by kernel_rfl)) ?_
                                try go_wp2
                                go_ret
                                exact ⟨by first | rfl | (simp [errW_none, errW_some] <;> rfl) | (simp only [← hji6, ← hji7, ← hji16, ← hji20]; first | rfl | (simp [errW_none, errW_some] <;> rfl)) | (simp [*, errW_none, errW_some] <;> rfl), by repeat (first | (with_reducible first | exact HB.out | apply below_alloc | apply pw_below_drewN | apply below_drew1) | exact HB.out)⟩
                              · rw [if_neg c29] at H
                                exact absurd H (by simp)
                            · rw [if_neg c28] at H
                              exact absurd H (by simp)
                          · rw [if_neg c24] at H
                            exact absurd H (by simp)
                        · rw [if_neg c23] at H
                          exact absurd H (by simp)
                      · rw [if_neg c22] at H
                        exact absurd H (by simp)
                    · rw [if_neg c21] at H
                      exact absurd H (by simp)
                  · replace c19 := Bool.eq_false_iff.mpr c19
                    subst c19
                    have H1 : (some false) = some r := by rw [if_neg (show ¬ (false = true) by decide)] at H; exact H
                    clear H
                    have H := H1
                    clear H1
                    obtain rfl := Option.some.inj H
                    try go_wp2
                    have n0_ := Aside0.mk (below_drew1 HB.out)
                    clear HB
                    have HB := n0_
                    clear n0_
                    refine start_ (n := 25) (S := fun w' => True) (ds := []) #[false, false, false, false, false, false, false, false, false, false, false, false, false, false, false, false, false, false, false, false, false, false, false, false, false] (by kernel_rfl) rfl rfl trivial (fun hHeld => ?_); refine with_tabW customhouselaw01_DigestBlock.tab9 customhouselaw01_DigestBlock.bits9 (fun HT_ HW_ => ?_)
                    generalize wc.drew = w34 at HB hHeld ⊢
                    refine pure_ (i := 0) (N := some 46) (v := ?_) (a' := ?_) #[true, false, false, false, false, false, false, false, false, false, false, false, false, false, false, false, false, false, false, false, false, false, false, false, false] rfl rfl (any_of HT_.out (by kernel_rfl)) (fun _ _ _ h => h) (Or.inl ⟨by rfl, ?_⟩) ?_ ?_
                    rotate_left
                    · intro w'
                      go_simp
                      first | with_reducible rfl | (rw [if_neg (by (try simp only [ByteArray.size_append, ByteArray.size_extract, eq_iff_iff, iff_true, iff_false, decide_eq_true_eq] at *); omega)] <;> with_reducible rfl)
                    rotate_left
                    · simp only [Act.put, List.setIfInBounds_toArray, List.set_cons_zero, List.set_cons_succ, i64_w, i32_w]
                      rfl
                    refine pure_ (i := 1) (N := some 47) (v := ?_) (a' := ?_) #[true, true, false, false, false, false, false, false, false, false, false, false, false, false, false, false, false, false, false, false, false, false, false, false, false] rfl rfl (any_of HT_.out (by kernel_rfl)) (fun _ _ _ h => h) (Or.inl ⟨by rfl, ?_⟩) ?_ ?_
                    rotate_left
                    · intro w'
                      go_simp
                      first | with_reducible rfl | (rw [if_neg (by (try simp only [ByteArray.size_append, ByteArray.size_extract, eq_iff_iff, iff_true, iff_false, decide_eq_true_eq] at *); omega)] <;> with_reducible rfl)
                    rotate_left
                    · simp only [Act.put, List.setIfInBounds_toArray, List.set_cons_zero, List.set_cons_succ, i64_w, i32_w]
                      rfl
                    refine pure_ (i := 2) (N := some 48) (v := undef) (a' := ?_) #[true, true, true, false, false, false, false, false, false, false, false, false, false, false, false, false, false, false, false, false, false, false, false, false, false] rfl rfl (any_of HT_.out (by kernel_rfl)) (fun _ _ _ h => h) (Or.inr ⟨by rfl, rfl⟩) ?_ ?_
                    rotate_left
                    · simp only [Act.put, List.setIfInBounds_toArray, List.set_cons_zero, List.set_cons_succ, i64_w, i32_w]
                      rfl
                    refine pure_ (i := 3) (N := some 49) (v := undef) (a' := ?_) #[true, true, true, true, false, false, false, false, false, false, false, false, false, false, false, false, false, false, false, false, false, false, false, false, false] rfl rfl (any_of HT_.out (by kernel_rfl)) (fun _ _ _ h => h) (Or.inr ⟨by rfl, rfl⟩) ?_ ?_
                    rotate_left
                    · simp only [Act.put, List.setIfInBounds_toArray, List.set_cons_zero, List.set_cons_succ, i64_w, i32_w]
                      rfl
                    refine pure_ (i := 4) (N := some 50) (v := undef) (a' := ?_) #[true, true, true, true, true, false, false, false, false, false, false, false, false, false, false, false, false, false, false, false, false, false, false, false, false] rfl rfl (any_of HT_.out (by kernel_rfl)) (fun _ _ _ h => h) (Or.inr ⟨by rfl, rfl⟩) ?_ ?_
                    rotate_left
                    · simp only [Act.put, List.setIfInBounds_toArray, List.set_cons_zero, List.set_cons_succ, i64_w, i32_w]
                      rfl
                    refine pure_ (i := 5) (N := some 51) (v := undef) (a' := ?_) #[true, true, true, true, true, true, false, false, false, false, false, false, false, false, false, false, false, false, false, false, false, false, false, false, false] rfl rfl (any_of HT_.out (by kernel_rfl)) (fun _ _ _ h => h) (Or.inr ⟨by rfl, rfl⟩) ?_ ?_
                    rotate_left
                    · simp only [Act.put, List.setIfInBounds_toArray, List.set_cons_zero, List.set_cons_succ, i64_w, i32_w]
                      rfl
                    refine pure_ (i := 6) (N := some 52) (v := undef) (a' := ?_) #[true, true, true, true, true, true, true, false, false, false, false, false, false, false, false, false, false, false, false, false, false, false, false, false, false] rfl rfl (any_of HT_.out (by kernel_rfl)) (fun _ _ _ h => h) (Or.inr ⟨by rfl, rfl⟩) ?_ ?_
                    rotate_left
                    · simp only [Act.put, List.setIfInBounds_toArray, List.set_cons_zero, List.set_cons_succ, i64_w, i32_w]
                      rfl
                    refine pure_ (i := 7) (N := some 53) (v := undef) (a' := ?_) #[true, true, true, true, true, true, true, true, false, false, false, false, false, false, false, false, false, false, false, false, false, false, false, false, false] rfl rfl (any_of HT_.out (by kernel_rfl)) (fun _ _ _ h => h) (Or.inr ⟨by rfl, rfl⟩) ?_ ?_
                    rotate_left
                    · simp only [Act.put, List.setIfInBounds_toArray, List.set_cons_zero, List.set_cons_succ, i64_w, i32_w]
                      rfl
                    refine pure_ (i := 8) (N := some 54) (v := undef) (a' := ?_) #[true, true, true, true, true, true, true, true, true, false, false, false, false, false, false, false, false, false, false, false, false, false, false, false, false] rfl rfl (any_of HT_.out (by kernel_rfl)) (fun _ _ _ h => h) (Or.inr ⟨by rfl, rfl⟩) ?_ ?_
                    rotate_left
                    · simp only [Act.put, List.setIfInBounds_toArray, List.set_cons_zero, List.set_cons_succ, i64_w, i32_w]
                      rfl
                    refine pure_ (i := 9) (N := some 55) (v := undef) (a' := ?_) #[true, true, true, true, true, true, true, true, true, true, false, false, false, false, false, false, false, false, false, false, false, false, false, false, false] rfl rfl (any_of HT_.out (by kernel_rfl)) (fun _ _ _ h => h) (Or.inr ⟨by rfl, rfl⟩) ?_ ?_
                    rotate_left
                    · simp only [Act.put, List.setIfInBounds_toArray, List.set_cons_zero, List.set_cons_succ, i64_w, i32_w]
                      rfl
                    refine pure_ (i := 10) (N := some 56) (v := undef) (a' := ?_) #[true, true, true, true, true, true, true, true, true, true, true, false, false, false, false, false, false, false, false, false, false, false, false, false, false] rfl rfl (any_of HT_.out (by kernel_rfl)) (fun _ _ _ h => h) (Or.inr ⟨by rfl, rfl⟩) ?_ ?_
                    rotate_left
                    · simp only [Act.put, List.setIfInBounds_toArray, List.set_cons_zero, List.set_cons_succ, i64_w, i32_w]
                      rfl
                    refine pure_ (i := 11) (N := some 57) (v := undef) (a' := ?_) #[true, true, true, true, true, true, true, true, true, true, true, true, false, false, false, false, false, false, false, false, false, false, false, false, false] rfl rfl (any_of HT_.out (by kernel_rfl)) (fun _ _ _ h => h) (Or.inr ⟨by rfl, rfl⟩) ?_ ?_
                    rotate_left
                    · simp only [Act.put, List.setIfInBounds_toArray, List.set_cons_zero, List.set_cons_succ, i64_w, i32_w]
                      rfl
                    refine pure_ (i := 12) (N := some 58) (v := undef) (a' := ?_) #[true, true, true, true, true, true, true, true, true, true, true, true, true, false, false, false, false, false, false, false, false, false, false, false, false] rfl rfl (any_of HT_.out (by kernel_rfl)) (fun _ _ _ h => h) (Or.inr ⟨by rfl, rfl⟩) ?_ ?_
                    rotate_left
                    · simp only [Act.put, List.setIfInBounds_toArray, List.set_cons_zero, List.set_cons_succ, i64_w, i32_w]
                      rfl
                    refine pure_ (i := 13) (N := some 59) (v := undef) (a' := ?_) #[true, true, true, true, true, true, true, true, true, true, true, true, true, true, false, false, false, false, false, false, false, false, false, false, false] rfl rfl (any_of HT_.out (by kernel_rfl)) (fun _ _ _ h => h) (Or.inr ⟨by rfl, rfl⟩) ?_ ?_
                    rotate_left
                    · simp only [Act.put, List.setIfInBounds_toArray, List.set_cons_zero, List.set_cons_succ, i64_w, i32_w]
                      rfl
                    refine pure_ (i := 14) (N := some 60) (v := undef) (a' := ?_) #[true, true, true, true, true, true, true, true, true, true, true, true, true, true, true, false, false, false, false, false, false, false, false, false, false] rfl rfl (any_of HT_.out (by kernel_rfl)) (fun _ _ _ h => h) (Or.inr ⟨by rfl, rfl⟩) ?_ ?_
                    rotate_left
                    · simp only [Act.put, List.setIfInBounds_toArray, List.set_cons_zero, List.set_cons_succ, i64_w, i32_w]
                      rfl
                    refine pure_ (i := 15) (N := some 61) (v := undef) (a' := ?_) #[true, true, true, true, true, true, true, true, true, true, true, true, true, true, true, true, false, false, false, false, false, false, false, false, false] rfl rfl (any_of HT_.out (by kernel_rfl)) (fun _ _ _ h => h) (Or.inr ⟨by rfl, rfl⟩) ?_ ?_
                    rotate_left
                    · simp only [Act.put, List.setIfInBounds_toArray, List.set_cons_zero, List.set_cons_succ, i64_w, i32_w]
                      rfl
                    refine pure_ (i := 16) (N := some 62) (v := undef) (a' := ?_) #[true, true, true, true, true, true, true, true, true, true, true, true, true, true, true, true, true, false, false, false, false, false, false, false, false] rfl rfl (any_of HT_.out (by kernel_rfl)) (fun _ _ _ h => h) (Or.inr ⟨by rfl, rfl⟩) ?_ ?_
                    rotate_left
                    · simp only [Act.put, List.setIfInBounds_toArray, List.set_cons_zero, List.set_cons_succ, i64_w, i32_w]
                      rfl
                    refine pure_ (i := 17) (N := some 63) (v := undef) (a' := ?_) #[true, true, true, true, true, true, true, true, true, true, true, true, true, true, true, true, true, true, false, false, false, false, false, false, false] rfl rfl (any_of HT_.out (by kernel_rfl)) (fun _ _ _ h => h) (Or.inr ⟨by rfl, rfl⟩) ?_ ?_
                    rotate_left
                    · simp only [Act.put, List.setIfInBounds_toArray, List.set_cons_zero, List.set_cons_succ, i64_w, i32_w]
                      rfl
                    refine pure_ (i := 18) (N := some 64) (v := undef) (a' := ?_) #[true, true, true, true, true, true, true, true, true, true, true, true, true, true, true, true, true, true, true, false, false, false, false, false, false] rfl rfl (any_of HT_.out (by kernel_rfl)) (fun _ _ _ h => h) (Or.inr ⟨by rfl, rfl⟩) ?_ ?_
                    rotate_left
                    · simp only [Act.put, List.setIfInBounds_toArray, List.set_cons_zero, List.set_cons_succ, i64_w, i32_w]
                      rfl
                    refine pure_ (i := 19) (N := some 65) (v := undef) (a' := ?_) #[true, true, true, true, true, true, true, true, true, true, true, true, true, true, true, true, true, true, true, true, false, false, false, false, false] rfl rfl (any_of HT_.out (by kernel_rfl)) (fun _ _ _ h => h) (Or.inr ⟨by rfl, rfl⟩) ?_ ?_
                    rotate_left
                    · simp only [Act.put, List.setIfInBounds_toArray, List.set_cons_zero, List.set_cons_succ, i64_w, i32_w]
                      rfl
                    refine pure_ (i := 20) (N := some 66) (v := undef) (a' := ?_) #[true, true, true, true, true, true, true, true, true, true, true, true, true, true, true, true, true, true, true, true, true, false, false, false, false] rfl rfl (any_of HT_.out (by kernel_rfl)) (fun _ _ _ h => h) (Or.inr ⟨by rfl, rfl⟩) ?_ ?_
                    rotate_left
                    · simp only [Act.put, List.setIfInBounds_toArray, List.set_cons_zero, List.set_cons_succ, i64_w, i32_w]
                      rfl
                    refine pure_ (i := 21) (N := some 67) (v := undef) (a' := ?_) #[true, true, true, true, true, true, true, true, true, true, true, true, true, true, true, true, true, true, true, true, true, true, false, false, false] rfl rfl (any_of HT_.out (by kernel_rfl)) (fun _ _ _ h => h) (Or.inr ⟨by rfl, rfl⟩) ?_ ?_
                    rotate_left
                    · simp only [Act.put, List.setIfInBounds_toArray, List.set_cons_zero, List.set_cons_succ, i64_w, i32_w]
                      rfl
                    refine pure_ (i := 22) (N := some 68) (v := undef) (a' := ?_) #[true, true, true, true, true, true, true, true, true, true, true, true, true, true, true, true, true, true, true, true, true, true, true, false, false] rfl rfl (any_of HT_.out (by kernel_rfl)) (fun _ _ _ h => h) (Or.inr ⟨by rfl, rfl⟩) ?_ ?_
                    rotate_left
                    · simp only [Act.put, List.setIfInBounds_toArray, List.set_cons_zero, List.set_cons_succ, i64_w, i32_w]
                      rfl
                    refine pure_ (i := 23) (N := some 69) (v := ?_) (a' := ?_) #[true, true, true, true, true, true, true, true, true, true, true, true, true, true, true, true, true, true, true, true, true, true, true, true, false] rfl rfl (any_of HT_.out (by kernel_rfl)) (fun _ _ _ h => h) (Or.inl ⟨by rfl, ?_⟩) ?_ ?_
                    rotate_left
                    · intro w'
                      go_simp
                      first | with_reducible rfl | (rw [if_neg (by (try simp only [ByteArray.size_append, ByteArray.size_extract, eq_iff_iff, iff_true, iff_false, decide_eq_true_eq] at *); omega)] <;> with_reducible rfl)
                    rotate_left
                    · simp only [Act.put, List.setIfInBounds_toArray, List.set_cons_zero, List.set_cons_succ, i64_w, i32_w]
                      rfl
                    refine pure_ (i := 24) (N := some 8) (v := ?_) (a' := ?_) #[true, true, true, true, true, true, true, true, true, true, true, true, true, true, true, true, true, true, true, true, true, true, true, true, true] rfl rfl (any_of HT_.out (by kernel_rfl)) (fun _ _ _ h => h) (Or.inl ⟨by rfl, ?_⟩) ?_ ?_
                    rotate_left
                    · intro w'
                      go_simp
                      first | with_reducible rfl | (rw [if_neg (by (try simp only [ByteArray.size_append, ByteArray.size_extract, eq_iff_iff, iff_true, iff_false, decide_eq_true_eq] at *); omega)] <;> with_reducible rfl)
                    rotate_left
                    · simp only [Act.put, List.setIfInBounds_toArray, List.set_cons_zero, List.set_cons_succ, i64_w, i32_w]
                      rfl
                    refine done_ (done_of HT_.out (by kernel_rfl)) ?_
                    try go_wp2
                    go_ret
                    exact ⟨by first | rfl | (simp [errW_none, errW_some] <;> rfl) | (simp only [← hji6, ← hji7, ← hji16]; first | rfl | (simp [errW_none, errW_some] <;> rfl)) | (simp [*, errW_none, errW_some] <;> rfl), by repeat (first | (with_reducible first | exact HB.out | apply below_alloc | apply pw_below_drewN | apply below_drew1) | exact HB.out)⟩
                · rw [if_neg c18] at H
                  exact absurd H (by simp)
              · rw [if_neg c17] at H
                exact absurd H (by simp)
      · rw [if_neg c11] at H
        exact absurd H (by simp)
    · rw [if_neg c9] at H
      exact absurd H (by simp)
  · rw [if_neg c8] at H
    exact absurd H (by simp)

/-! ### customhouselaw01_DigestChains: function 8 -/
def customhouselaw01_DigestChains.f (k : Nat) (a0 : ByteArray) (a1 : Int) (a2 : Int) : Option (Bool) := (customhouselaw01_head.f k).bind fun t151 => (if (a0.size : Int) > 2000 then (some t151) else (if t151 = true then ((digest_Chain.f k a0 (Int.tmod (wrap64 (a1)) 51)).bind fun t152 => ((digest_Chain.f k t152 (Int.tmod (wrap64 (a2)) 51)).bind fun t153 => ((digest_Chain.f k a0 (wrap64 ((Int.tmod (wrap64 (a1)) 51) + (Int.tmod (wrap64 (a2)) 51)))).bind fun t154 => (some (t153.toList == t154.toList))))) else (some false)))
theorem customhouselaw01_DigestChains.mono : ∀ a0 a1 a2 k, LeO (customhouselaw01_DigestChains.f k a0 a1 a2) (customhouselaw01_DigestChains.f (k + 1) a0 a1 a2) := by
  intro a0 a1 a2 k
  unfold customhouselaw01_DigestChains.f
  repeat' first
      | (with_reducible exact customhouselaw01_head.mono _)
      | (with_reducible exact digest_Chain.mono _ _ _)
      | (with_reducible exact LeO.refl _)
      | (with_reducible exact LeO.none _)
      | (with_reducible refine LeO.ite ?_ ?_)
      | (with_reducible refine LeO.bind ?_ (fun _ => ?_))
      | exact customhouselaw01_head.mono _
      | exact digest_Chain.mono _ _ _
      | exact LeO.none _
      | refine LeO.ite ?_ ?_
      | refine LeO.bind ?_ (fun _ => ?_)
set_option maxHeartbeats 8000000 in
set_option maxRecDepth 100000 in
theorem customhouselaw01_DigestChains.calls (k : Nat) (a0 : ByteArray) (a1 : Int) (a2 : Int) (r : Bool) (w : World) (hG : GL w) (h : customhouselaw01_DigestChains.f k a0 a1 a2 = some r) :
    Calls Tryd.prog 8 #[.string a0, .int .u8 a1, .int .u8 a2] w fun e w' => e = .returned (.bool r) ∧ Below w.heap.size w w' := by
  have HB := Aside0.mk (Below.refl w.heap.size w)
  have HG := Aside0.mk hG
  clear hG
  have H : ((customhouselaw01_head.f k).bind fun t151 => (if (a0.size : Int) > 2000 then (some t151) else (if t151 = true then ((digest_Chain.f k a0 (Int.tmod (wrap64 (a1)) 51)).bind fun t152 => ((digest_Chain.f k t152 (Int.tmod (wrap64 (a2)) 51)).bind fun t153 => ((digest_Chain.f k a0 (wrap64 ((Int.tmod (wrap64 (a1)) 51) + (Int.tmod (wrap64 (a2)) 51)))).bind fun t154 => (some (t153.toList == t154.toList))))) else (some false)))) = some r := h
  clear h
  replace H := Option.bind_eq_some_iff.mp H
  obtain ⟨t151, A40, H⟩ := H
  replace H : (if (a0.size : Int) > 2000 then (some t151) else (if t151 = true then ((digest_Chain.f k a0 (Int.tmod (wrap64 (a1)) 51)).bind fun t152 => ((digest_Chain.f k t152 (Int.tmod (wrap64 (a2)) 51)).bind fun t153 => ((digest_Chain.f k a0 (wrap64 ((Int.tmod (wrap64 (a1)) 51) + (Int.tmod (wrap64 (a2)) 51)))).bind fun t154 => (some (t153.toList == t154.toList))))) else (some false))) = some r := H
  have A4 := Aside0.mk A40
  clear A40
  by_cases c5 : (a0.size : Int) > 2000
  · rw [if_pos c5] at H
    have c5b0 : decide (2000 < (a0.size : Int)) = true := decide_eq_true c5
    have c5b1 : decide (2000 < a0.size) = true := decide_eq_true (by omega)
    clear c5
    obtain rfl := Option.some.inj H
    go_enter Tryd.func8, Tryd.ntmps8
    go_wp2_with (first | ((with_reducible refine gate_callee (f := 18) rfl ?_); refine goesL_ (some 10) rfl rfl Tryd.func18 (by kernel_rfl) rfl #[] rfl (by (try simp only [List.map_toArray, List.map_cons, List.map_nil]); first | done | rfl | (simp only [List.length_drop, List.length_take]; rfl)) ?_; (with_reducible refine (customhouselaw01_head.calls k  t151 _ ?side1 A4.out).mono ?_); (case side1 => exact GL.below HG.out (by repeat (first | (with_reducible first | exact HB.out | apply below_alloc | apply pw_below_drewN | apply below_drew1) | exact HB.out))); rintro e w6 ⟨rfl, hb⟩; refine ⟨_, rfl, ?_⟩; have n0_ := Aside0.mk (below_step (by repeat (first | (with_reducible first | exact HB.out | apply below_alloc | apply pw_below_drewN | apply below_drew1) | exact HB.out)) hb); clear HB; have HB := n0_; clear n0_; (try clear hb); (try clear hb2); (try clear hk); (try clear hi)))
    go_ret
    exact ⟨by first | rfl | (simp [errW_none, errW_some] <;> rfl) | (simp [*, errW_none, errW_some] <;> rfl), by repeat (first | (with_reducible first | exact HB.out | apply below_alloc | apply pw_below_drewN | apply below_drew1) | exact HB.out)⟩
  · rw [if_neg c5] at H
    have c5b0 : decide (2000 < (a0.size : Int)) = false := decide_eq_false c5
    have c5b1 : decide (2000 < a0.size) = false := decide_eq_false (by omega)
    clear c5
    by_cases c7 : t151 = true
    · subst c7
      have H1 : ((digest_Chain.f k a0 (Int.tmod (wrap64 (a1)) 51)).bind fun t152 => ((digest_Chain.f k t152 (Int.tmod (wrap64 (a2)) 51)).bind fun t153 => ((digest_Chain.f k a0 (wrap64 ((Int.tmod (wrap64 (a1)) 51) + (Int.tmod (wrap64 (a2)) 51)))).bind fun t154 => (some (t153.toList == t154.toList))))) = some r := by rw [if_pos rfl] at H; exact H
      clear H
      have H := H1
      clear H1
      replace H := Option.bind_eq_some_iff.mp H
      obtain ⟨t152, A80, H⟩ := H
      replace H : ((digest_Chain.f k t152 (Int.tmod (wrap64 (a2)) 51)).bind fun t153 => ((digest_Chain.f k a0 (wrap64 ((Int.tmod (wrap64 (a1)) 51) + (Int.tmod (wrap64 (a2)) 51)))).bind fun t154 => (some (t153.toList == t154.toList)))) = some r := H
      have A8 := Aside0.mk A80
      clear A80
      replace H := Option.bind_eq_some_iff.mp H
      obtain ⟨t153, A90, H⟩ := H
      replace H : ((digest_Chain.f k a0 (wrap64 ((Int.tmod (wrap64 (a1)) 51) + (Int.tmod (wrap64 (a2)) 51)))).bind fun t154 => (some (t153.toList == t154.toList))) = some r := H
      have A9 := Aside0.mk A90
      clear A90
      replace H := Option.bind_eq_some_iff.mp H
      obtain ⟨t154, A100, H⟩ := H
      replace H : (some (t153.toList == t154.toList)) = some r := H
      have A10 := Aside0.mk A100
      clear A100
      obtain rfl := Option.some.inj H
      go_enter Tryd.func8, Tryd.ntmps8
      go_wp2_with (first | ((with_reducible refine gate_callee (f := 18) rfl ?_); refine goesL_ (some 10) rfl rfl Tryd.func18 (by kernel_rfl) rfl #[] rfl (by (try simp only [List.map_toArray, List.map_cons, List.map_nil]); first | done | rfl | (simp only [List.length_drop, List.length_take]; rfl)) ?_; (with_reducible refine (customhouselaw01_head.calls k  true _ ?side1 A4.out).mono ?_); (case side1 => exact GL.below HG.out (by repeat (first | (with_reducible first | exact HB.out | apply below_alloc | apply pw_below_drewN | apply below_drew1) | exact HB.out))); rintro e w11 ⟨rfl, hb⟩; refine ⟨_, rfl, ?_⟩; have n0_ := Aside0.mk (below_step (by repeat (first | (with_reducible first | exact HB.out | apply below_alloc | apply pw_below_drewN | apply below_drew1) | exact HB.out)) hb); clear HB; have HB := n0_; clear n0_; (try clear hb); (try clear hb2); (try clear hk); (try clear hi)) | (go_at_call 24; (with_reducible refine (digest_Chain.calls k a0 (Int.tmod (wrap64 (a1)) 51) t152 _ ?side1 A8.out).mono ?_); (case side1 => exact GL.below HG.out (by repeat (first | (with_reducible first | exact HB.out | apply below_alloc | apply pw_below_drewN | apply below_drew1) | exact HB.out))); rintro e w12 ⟨rfl, hb⟩; have n0_ := Aside0.mk (below_step (by repeat (first | (with_reducible first | exact HB.out | apply below_alloc | apply pw_below_drewN | apply below_drew1) | exact HB.out)) hb); clear HB; have HB := n0_; clear n0_; (try clear hb); (try clear hb2); (try clear hk); (try clear hi)) | (go_at_call 24; (with_reducible refine (digest_Chain.calls k t152 (Int.tmod (wrap64 (a2)) 51) t153 _ ?side1 A9.out).mono ?_); (case side1 => exact GL.below HG.out (by repeat (first | (with_reducible first | exact HB.out | apply below_alloc | apply pw_below_drewN | apply below_drew1) | exact HB.out))); rintro e w13 ⟨rfl, hb⟩; have n0_ := Aside0.mk (below_step (by repeat (first | (with_reducible first | exact HB.out | apply below_alloc | apply pw_below_drewN | apply below_drew1) | exact HB.out)) hb); clear HB; have HB := n0_; clear n0_; (try clear hb); (try clear hb2); (try clear hk); (try clear hi)) | (go_at_call 24; (with_reducible refine (digest_Chain.calls k a0 (wrap64 ((Int.tmod (wrap64 (a1)) 51) + (Int.tmod (wrap64 (a2)) 51))) t154 _ ?side1 A10.out).mono ?_); (case side1 => exact GL.below HG.out (by repeat (first | (with_reducible first | exact HB.out | apply below_alloc | apply pw_below_drewN | apply below_drew1) | exact HB.out))); rintro e w14 ⟨rfl, hb⟩; have n0_ := Aside0.mk (below_step (by repeat (first | (with_reducible first | exact HB.out | apply below_alloc | apply pw_below_drewN | apply below_drew1) | exact HB.out)) hb); clear HB; have HB := n0_; clear n0_; (try clear hb); (try clear hb2); (try clear hk); (try clear hi)))
      go_ret
      exact ⟨by first | rfl | (simp [errW_none, errW_some] <;> rfl) | (simp [*, errW_none, errW_some] <;> rfl), by repeat (first | (with_reducible first | exact HB.out | apply below_alloc | apply pw_below_drewN | apply below_drew1) | exact HB.out)⟩
    · replace c7 := Bool.eq_false_iff.mpr c7
      subst c7
      have H1 : (some false) = some r := by rw [if_neg (show ¬ (false = true) by decide)] at H; exact H
      clear H
      have H := H1
      clear H1
      obtain rfl := Option.some.inj H
      go_enter Tryd.func8, Tryd.ntmps8
      go_wp2_with (first | ((with_reducible refine gate_callee (f := 18) rfl ?_); refine goesL_ (some 10) rfl rfl Tryd.func18 (by kernel_rfl) rfl #[] rfl (by (try simp only [List.map_toArray, List.map_cons, List.map_nil]); first | done | rfl | (simp only [List.length_drop, List.length_take]; rfl)) ?_; (with_reducible refine (customhouselaw01_head.calls k  false _ ?side1 A4.out).mono ?_); (case side1 => exact GL.below HG.out (by repeat (first | (with_reducible first | exact HB.out | apply below_alloc | apply pw_below_drewN | apply below_drew1) | exact HB.out))); rintro e w15 ⟨rfl, hb⟩; refine ⟨_, rfl, ?_⟩; have n0_ := Aside0.mk (below_step (by repeat (first | (with_reducible first | exact HB.out | apply below_alloc | apply pw_below_drewN | apply below_drew1) | exact HB.out)) hb); clear HB; have HB := n0_; clear n0_; (try clear hb); (try clear hb2); (try clear hk); (try clear hi)))
      go_ret
      exact ⟨by first | rfl | (simp [errW_none, errW_some] <;> rfl) | (simp [*, errW_none, errW_some] <;> rfl), by repeat (first | (with_reducible first | exact HB.out | apply below_alloc | apply pw_below_drewN | apply below_drew1) | exact HB.out)⟩

/-! ### customhouseref01_Same: function 29 -/
def customhouseref01_Same.l0 : Nat → List ByteArray → List ByteArray → Int → Option (Bool)
  | 0, _, _, _ => none
  | k + 1, x0, x1, x5 => if x5 < (x0.length : Int) then (if 0 ≤ x5 then (if x5 < (x1.length : Int) then (if (rdOf ByteArray.empty x0 x5).toList = (rdOf ByteArray.empty x1 x5).toList then (customhouseref01_Same.l0 k x0 x1 (wrap64 (x5 + 1))) else (some false)) else (none)) else (none)) else (some true)
def customhouseref01_Same.f (k : Nat) (l0 : List ByteArray) (l1 : List ByteArray) : Option (Bool) := if (l0.length : Int) = (l1.length : Int) then (customhouseref01_Same.l0 k l0 l1 0) else (some false)
theorem customhouseref01_Same.mono_l : ∀ k, (∀ y0 y1 y2, LeO (customhouseref01_Same.l0 k y0 y1 y2) (customhouseref01_Same.l0 (k + 1) y0 y1 y2))
  | 0 => fun _ _ _ r h => by simp [customhouseref01_Same.l0] at h
  | k + 1 => by
    have ih0 := customhouseref01_Same.mono_l k
    · intro y0 y1 y2
      unfold customhouseref01_Same.l0
      repeat' first
      | (with_reducible exact ih0 _ _ _)
      | (with_reducible exact LeO.refl _)
      | (with_reducible exact LeO.none _)
      | (with_reducible refine LeO.ite ?_ ?_)
      | (with_reducible refine LeO.bind ?_ (fun _ => ?_))
      | exact ih0 _ _ _
      | exact LeO.none _
      | refine LeO.ite ?_ ?_
      | refine LeO.bind ?_ (fun _ => ?_)
theorem customhouseref01_Same.mono : ∀ a0 a1 k, LeO (customhouseref01_Same.f k a0 a1) (customhouseref01_Same.f (k + 1) a0 a1) := by
  intro a0 a1 k
  have ih0 := customhouseref01_Same.mono_l k
  unfold customhouseref01_Same.f
  repeat' first
      | (with_reducible exact ih0 _ _ _)
      | (with_reducible exact LeO.refl _)
      | (with_reducible exact LeO.none _)
      | (with_reducible refine LeO.ite ?_ ?_)
      | (with_reducible refine LeO.bind ?_ (fun _ => ?_))
      | exact ih0 _ _ _
      | exact LeO.none _
      | refine LeO.ite ?_ ?_
      | refine LeO.bind ?_ (fun _ => ?_)
set_option maxHeartbeats 8000000 in
set_option maxRecDepth 100000 in
theorem customhouseref01_Same.calls (k : Nat) (A0 : Option Addr) (c0 : Nat) (l0 : List ByteArray) (A1 : Option Addr) (c1 : Nat) (l1 : List ByteArray) (r : Bool) (w : World) (hr0 : Kd.C Kd.string w A0 l0.length l0) (hc0 : l0.length ≤ c0) (hr1 : Kd.C Kd.string w A1 l1.length l1) (hc1 : l1.length ≤ c1) (h : customhouseref01_Same.f k l0 l1 = some r) :
    Calls Tryd.prog 29 #[.slice A0 l0.length c0, .slice A1 l1.length c1] w fun e w' => e = .returned (.bool r) ∧ Drawn0 w w' := by
  have HR0 := Aside0.mk hr0
  have HC0 := Aside0.mk hc0
  clear hr0 hc0
  have HR1 := Aside0.mk hr1
  have HC1 := Aside0.mk hc1
  clear hr1 hc1
  have H : (if (l0.length : Int) = (l1.length : Int) then (customhouseref01_Same.l0 k l0 l1 0) else (some false)) = some r := h
  clear h
  by_cases c3 : (l0.length : Int) = (l1.length : Int)
  · rw [if_pos c3] at H
    have c3b0 : ((l0.length : Int) == (l1.length : Int)) = true := beq_iff_eq.mpr c3
    have c3b1 : ((l0.length : Int) != (l1.length : Int)) = false := bne_eq_false_iff_eq.mpr c3
    have c3b2 : (l0.length == l1.length) = true := by first | simpa using c3 | (simp at c3 ⊢; omega)
    clear c3
    have H' := Aside0.mk H
    clear H
    go_enter Tryd.func29, Tryd.ntmps29
    go_wp2
    repeat (go_quiet (fail); try go_wp2)
    go_loopg [5] k (fun kq v5 w' => ∃ (x5_1 : Int), v5 = .int .i64 x5_1 ∧ Aside0 (customhouseref01_Same.l0 kq l0 l1 x5_1 = some r) ∧ Aside0 (kq ≤ k) ∧ Drawn0 w w')
    case atStart => exact ⟨(0), (by first | rfl | (simp; done) | (simp [*]; done)), H', ⟨Nat.le_refl _⟩, by repeat (first | exact Drawn0.refl _ | apply Drawn0.step)⟩
    case round =>
      clear H'
      try clear c1
      try clear c2
      try clear p2
      try clear c3
      try clear c3b0
      try clear c3b1
      try clear c3b2
      obtain ⟨x5_1, rfl, HA, HK1, ⟨m1, rfl⟩⟩ := hrel
      cases gk with
      | zero => exact absurd HA.out (by simp [customhouseref01_Same.l0])
      | succ k1 =>
        have H := HA.out
        clear HA
        simp only [customhouseref01_Same.l0] at H
        by_cases c4 : x5_1 < (l0.length : Int)
        · rw [if_pos c4] at H
          have c4b0 : decide (x5_1 < (l0.length : Int)) = true := decide_eq_true c4
          clear c4
          by_cases c5 : 0 ≤ x5_1
          · rw [if_pos c5] at H
            have c5b0 : decide (0 ≤ x5_1) = true := decide_eq_true c5
            clear c5
            by_cases c6 : x5_1 < (l1.length : Int)
            · rw [if_pos c6] at H
              have c6b0 : decide (x5_1 < (l1.length : Int)) = true := decide_eq_true c6
              clear c6
              by_cases c7 : (rdOf ByteArray.empty l0 x5_1).toList = (rdOf ByteArray.empty l1 x5_1).toList
              · rw [if_pos c7] at H
                have c7b0 : ((rdOf ByteArray.empty l0 x5_1).toList == (rdOf ByteArray.empty l1 x5_1).toList) = true := beq_iff_eq.mpr c7
                have c7b1 : ((rdOf ByteArray.empty l0 x5_1).toList != (rdOf ByteArray.empty l1 x5_1).toList) = false := bne_eq_false_iff_eq.mpr c7
                clear c7
                have H' := Aside0.mk H
                clear H
                have p155 : 0 ≤ (x5_1 : Int) := of_decide_eq_true (by first | (with_reducible assumption) | assumption)
                have q155 : x5_1 < (l0.length : Int) := of_decide_eq_true (by first | (with_reducible assumption) | assumption)
                obtain ⟨ad155, e155, hx155_0⟩ := Kd.at_string HR0.out x5_1 p155 q155
                cases e155
                replace p155 := eq_true p155
                replace q155 := eq_true q155
                have p156 : 0 ≤ (x5_1 : Int) := of_decide_eq_true (by first | (with_reducible assumption) | assumption)
                have q156 : x5_1 < (l1.length : Int) := of_decide_eq_true (by first | (with_reducible assumption) | assumption)
                obtain ⟨ad156, e156, hx156_0⟩ := Kd.at_string HR1.out x5_1 p156 q156
                cases e156
                replace p156 := eq_true p156
                replace q156 := eq_true q156
                go_wp2
                repeat (go_quiet (fail); try go_wp2)
                go_roundg k1
                case measure => have := HK1.out; omega
                case rel => exact ⟨(wrap64 (x5_1 + 1)), (by first | rfl | (simp; done) | (simp [*]; done)), H', ⟨by have := HK1.out; omega⟩, by repeat (first | exact Drawn0.refl _ | apply Drawn0.step)⟩
              · rw [if_neg c7] at H
                have c7b0 : ((rdOf ByteArray.empty l0 x5_1).toList == (rdOf ByteArray.empty l1 x5_1).toList) = false := beq_eq_false_iff_ne.mpr c7
                have c7b1 : ((rdOf ByteArray.empty l0 x5_1).toList != (rdOf ByteArray.empty l1 x5_1).toList) = true := bne_iff_ne.mpr c7
                obtain rfl := Option.some.inj H
                have p155 : 0 ≤ (x5_1 : Int) := of_decide_eq_true (by first | (with_reducible assumption) | assumption)
                have q155 : x5_1 < (l0.length : Int) := of_decide_eq_true (by first | (with_reducible assumption) | assumption)
                obtain ⟨ad155, e155, hx155_0⟩ := Kd.at_string HR0.out x5_1 p155 q155
                cases e155
                replace p155 := eq_true p155
                replace q155 := eq_true q155
                have p156 : 0 ≤ (x5_1 : Int) := of_decide_eq_true (by first | (with_reducible assumption) | assumption)
                have q156 : x5_1 < (l1.length : Int) := of_decide_eq_true (by first | (with_reducible assumption) | assumption)
                obtain ⟨ad156, e156, hx156_0⟩ := Kd.at_string HR1.out x5_1 p156 q156
                cases e156
                replace p156 := eq_true p156
                replace q156 := eq_true q156
                go_wp2
                repeat (go_quiet (fail); try go_wp2)
                go_ret
                exact ⟨by first | rfl | (simp; done) | (simp [*]; done), by repeat (first | exact Drawn0.refl _ | apply Drawn0.step)⟩
            · rw [if_neg c6] at H
              exact absurd H (by simp)
          · rw [if_neg c5] at H
            exact absurd H (by simp)
        · rw [if_neg c4] at H
          have c4b0 : decide (x5_1 < (l0.length : Int)) = false := decide_eq_false c4
          clear c4
          obtain rfl := Option.some.inj H
          go_wp2
          repeat (go_quiet (fail); try go_wp2)
          go_ret
          exact ⟨by first | rfl | (simp; done) | (simp [*]; done), by repeat (first | exact Drawn0.refl _ | apply Drawn0.step)⟩
  · rw [if_neg c3] at H
    have c3b0 : ((l0.length : Int) == (l1.length : Int)) = false := beq_eq_false_iff_ne.mpr c3
    have c3b1 : ((l0.length : Int) != (l1.length : Int)) = true := bne_iff_ne.mpr c3
    have c3b2 : (l0.length == l1.length) = false := by first | simpa using c3 | (simp at c3 ⊢; omega)
    obtain rfl := Option.some.inj H
    go_enter Tryd.func29, Tryd.ntmps29
    go_wp2
    repeat (go_quiet (fail); try go_wp2)
    go_ret
    exact ⟨by first | rfl | (simp; done) | (simp [*]; done), by repeat (first | exact Drawn0.refl _ | apply Drawn0.step)⟩

end Go.Proofs.YtdlipbfcadmhjaaDoor.PG1
