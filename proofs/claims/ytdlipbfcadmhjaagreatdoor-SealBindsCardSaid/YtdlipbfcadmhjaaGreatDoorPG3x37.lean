/- Written by a program of this session's over the kit's print: the functions that a law comes to as plain Lean functions, and that Go's code computes them. Nothing is assumed. -/
import Derived.Test.YtdlipbfcadmhjaaGreatDoorPG3x0
import Derived.Test.YtdlipbfcadmhjaaGreatDoorPG3x9
import Derived.Test.YtdlipbfcadmhjaaGreatDoorPG3x21
import Derived.Test.YtdlipbfcadmhjaaGreatDoorPG3x24
import Derived.Test.YtdlipbfcadmhjaaGreatDoorPG3x32
import Derived.Test.YtdlipbfcadmhjaaGreatDoorPG3x34
import Derived.Test.YtdlipbfcadmhjaaGreatDoorPG3x35
import Derived.Test.YtdlipbfcadmhjaaGreatDoorS4
import Derived.Test.YtdlipbfcadmhjaaGreatDoorY5
namespace Go.Proofs.YtdlipbfcadmhjaaGreatDoor.PG3
open Go.RowKit Go.Proofs.YtdlipbfcadmhjaaGreatDoorW.PrintWords Go.Proofs.YtdlipbfcadmhjaaGreatDoorW.PrintLast Go.Proofs.YtdlipbfcadmhjaaGreatDoorW.PrintMore
attribute [local go_sem] max2_int min2_int max_two min_two max_three min_three max_four min_four   -- for this text's walks alone
set_option linter.unusedVariables false
set_option linter.unusedSimpArgs false

/-! ### customhouselaw03_SealBinds: function 7 -/
mutual
def customhouselaw03_SealBinds.j0 : Nat → ByteArray → ByteArray → ByteArray → Bool → Int → Int → Bool → Option (Bool)
  | 0, _, _, _, _, _, _, _ => none
  | k + 1, x0, x3, x4, x11, x12, x13, x39 => if x39 = true then (some x11) else ((seal_Public.f k x0 x12).bind fun bt702 => ((seal_Sign.f x0 x12 x13 x3).bind fun bt704 => (if bt702.2 = 0 then (customhouselaw03_SealBinds.j1 k x0 x4 x11 x12 bt702.1 (bt704.2.2.2 != 0) bt704.1 bt704.2.1 bt704.2.2.1) else (customhouselaw03_SealBinds.j1 k x0 x4 x11 x12 bt702.1 true bt704.1 bt704.2.1 bt704.2.2.1))))
def customhouselaw03_SealBinds.j1 : Nat → ByteArray → ByteArray → Bool → Int → ByteArray → Bool → Int → List ByteArray → List ByteArray → Option (Bool)
  | 0, _, _, _, _, _, _, _, _, _ => none
  | k + 1, x0, x4, x11, x12, x14, x60, x713000, x713001, x713002 => if x60 = true then (some false) else ((seal_Verify.f x14 x4 x713000 x713001 x713002).bind fun t713 => (if t713 = true then (if x11 = true then ((customhouseref03_Made.f k x0 x12 30).bind fun t714 => ((customhouseref03_Checked.f k x4 x713000 x713001 x713002).bind fun t717 => (if t714.length + t717.length < 8796093022208 then ((customhouseref02_Shown.f k (t714 ++ t717)).bind fun t723 => (some t723)) else (none)))) else (some false)) else (some x11)))
end
def customhouselaw03_SealBinds.f (k : Nat) (a0 : ByteArray) (a1 : Int) (a2 : Int) (a3 : ByteArray) (a4 : ByteArray) : Option (Bool) := (customhouselaw03_head.f).bind fun t695 => (if 0 ≤ (Int.tmod (wrap64 (a1)) 3) then (if (shl .i64 1 (Int.tmod (wrap64 (a1)) 3)) = 0 then (none) else ((customhouselaw03_short.f k (([a0, a3, a4] : List ByteArray))).bind fun t699 => (if t699 = true then ((customhouseref01_Sum.f k a3).bind fun t700 => ((customhouseref01_Sum.f k a4).bind fun t701 => (customhouselaw03_SealBinds.j0 k a0 a3 a4 t695 (Int.tmod (wrap64 (a1)) 3) (Int.tmod (wrap64 (a2)) (shl .i64 1 (Int.tmod (wrap64 (a1)) 3))) (t700.toList == t701.toList)))) else (customhouselaw03_SealBinds.j0 k a0 a3 a4 t695 (Int.tmod (wrap64 (a1)) 3) (Int.tmod (wrap64 (a2)) (shl .i64 1 (Int.tmod (wrap64 (a1)) 3))) true)))) else (none))
def customhouselaw03_SealBinds.T12 : Bool × List (List Nat × List Nat) := (true, [([], []), ([0], [0]), ([1], [1]), ([1], [1]), ([2, 3, 1, 1], [1, 2, 3]), ([1], [1]), ([1], [1]), ([5, 6, 4, 1], [1, 5, 6]), ([4, 7, 7, 1], [1, 4, 7]), ([8, 8, 1], [1, 8]), ([1, 9], [1, 9]), ([10, 9, 0, 1, 2, 3, 4, 5, 6, 7, 8, 9, 10], [10])])
def customhouselaw03_SealBinds.B12 : List Nat := [0, 1, 3, 3, 15, 3, 3, 127, 255, 511, 1023, 2047]
theorem customhouselaw03_SealBinds.tab12 : rtab .any (opsOf Tryz.f7 12) = customhouselaw03_SealBinds.T12 := by kernel_rfl
theorem customhouselaw03_SealBinds.bits12 : waitsOk customhouselaw03_SealBinds.T12.2 customhouselaw03_SealBinds.B12 = true := by kernel_rfl
set_option maxHeartbeats 8000000 in
set_option maxRecDepth 100000 in
theorem customhouselaw03_SealBinds.calls (k : Nat) (a0 : ByteArray) (a1 : Int) (a2 : Int) (a3 : ByteArray) (a4 : ByteArray) (r : Bool) (w : World) (hG : GL w) (h : customhouselaw03_SealBinds.f k a0 a1 a2 a3 a4 = some r) :
    Calls Tryz.prog 7 #[.string a0, .int .u8 a1, .int .u8 a2, .string a3, .string a4] w fun e w' => e = .returned (.bool r) ∧ Below w.heap.size w w' := by
  have hu33 := Tryz.underlying33
  have HB := Aside0.mk (Below.refl w.heap.size w)
  have HG := Aside0.mk hG
  clear hG
  have H : ((customhouselaw03_head.f).bind fun t695 => (if 0 ≤ (Int.tmod (wrap64 (a1)) 3) then (if (shl .i64 1 (Int.tmod (wrap64 (a1)) 3)) = 0 then (none) else ((customhouselaw03_short.f k (([a0, a3, a4] : List ByteArray))).bind fun t699 => (if t699 = true then ((customhouseref01_Sum.f k a3).bind fun t700 => ((customhouseref01_Sum.f k a4).bind fun t701 => (customhouselaw03_SealBinds.j0 k a0 a3 a4 t695 (Int.tmod (wrap64 (a1)) 3) (Int.tmod (wrap64 (a2)) (shl .i64 1 (Int.tmod (wrap64 (a1)) 3))) (t700.toList == t701.toList)))) else (customhouselaw03_SealBinds.j0 k a0 a3 a4 t695 (Int.tmod (wrap64 (a1)) 3) (Int.tmod (wrap64 (a2)) (shl .i64 1 (Int.tmod (wrap64 (a1)) 3))) true)))) else (none))) = some r := h
  clear h
  replace H := Option.bind_eq_some_iff.mp H
  obtain ⟨t695, A60, H⟩ := H
  replace H : (if 0 ≤ (Int.tmod (wrap64 (a1)) 3) then (if (shl .i64 1 (Int.tmod (wrap64 (a1)) 3)) = 0 then (none) else ((customhouselaw03_short.f k (([a0, a3, a4] : List ByteArray))).bind fun t699 => (if t699 = true then ((customhouseref01_Sum.f k a3).bind fun t700 => ((customhouseref01_Sum.f k a4).bind fun t701 => (customhouselaw03_SealBinds.j0 k a0 a3 a4 t695 (Int.tmod (wrap64 (a1)) 3) (Int.tmod (wrap64 (a2)) (shl .i64 1 (Int.tmod (wrap64 (a1)) 3))) (t700.toList == t701.toList)))) else (customhouselaw03_SealBinds.j0 k a0 a3 a4 t695 (Int.tmod (wrap64 (a1)) 3) (Int.tmod (wrap64 (a2)) (shl .i64 1 (Int.tmod (wrap64 (a1)) 3))) true)))) else (none)) = some r := H
  have A6 := Aside0.mk A60
  clear A60
  obtain ⟨ji7, hji7⟩ : ∃ j_ : Int, (Int.tmod (wrap64 (a1)) 3) = j_ := ⟨_, rfl⟩
  replace H : (if 0 ≤ (ji7) then (if (shl .i64 1 (ji7)) = 0 then (none) else ((customhouselaw03_short.f k (([a0, a3, a4] : List ByteArray))).bind fun t699 => (if t699 = true then ((customhouseref01_Sum.f k a3).bind fun t700 => ((customhouseref01_Sum.f k a4).bind fun t701 => (customhouselaw03_SealBinds.j0 k a0 a3 a4 t695 ji7 (Int.tmod (wrap64 (a2)) (shl .i64 1 (ji7))) (t700.toList == t701.toList)))) else (customhouselaw03_SealBinds.j0 k a0 a3 a4 t695 ji7 (Int.tmod (wrap64 (a2)) (shl .i64 1 (ji7))) true)))) else (none)) = some r := by first | (rw [hji7] at H; exact H) | (simp only [hji7] at H ⊢; exact H)
  (try rw [hji7] at A6)
  by_cases c8 : 0 ≤ (ji7)
  · rw [if_pos c8] at H
    have c8b0 := eq_true c8
    have c8b1 : decide (0 ≤ (ji7)) = true := decide_eq_true c8
    clear c8
    obtain ⟨ji9, hji9⟩ : ∃ j_ : Int, (shl .i64 1 (ji7)) = j_ := ⟨_, rfl⟩
    replace H : (if (ji9) = 0 then (none) else ((customhouselaw03_short.f k (([a0, a3, a4] : List ByteArray))).bind fun t699 => (if t699 = true then ((customhouseref01_Sum.f k a3).bind fun t700 => ((customhouseref01_Sum.f k a4).bind fun t701 => (customhouselaw03_SealBinds.j0 k a0 a3 a4 t695 ji7 (Int.tmod (wrap64 (a2)) (ji9)) (t700.toList == t701.toList)))) else (customhouselaw03_SealBinds.j0 k a0 a3 a4 t695 ji7 (Int.tmod (wrap64 (a2)) (ji9)) true)))) = some r := by first | (rw [hji9] at H; exact H) | (simp only [hji9] at H ⊢; exact H)
    (try rw [hji9] at A6)
    have hji9_ : (IntKind.i64.wrap (1 * 2 ^ min (ji7).toNat 64)) = ji9 := hji9
    have hji9z : (ji7) ≤ 64 → (IntKind.i64.wrap (1 * 2 ^ (ji7).toNat)) = ji9 := shl_small hji9
    have hji9u : (IntKind.i64.wrap (2 ^ min (ji7).toNat 64)) = ji9 := by have h_ := hji9_; rw [Int.one_mul] at h_; exact h_
    have hji9v : (ji7) ≤ 64 → (IntKind.i64.wrap (2 ^ (ji7).toNat)) = ji9 := fun hle_ => by have h_ := hji9z hle_; rw [Int.one_mul] at h_; exact h_
    have hji9y : (wrap64 (1 * 2 ^ min (ji7).toNat 64)) = ji9 := (i64_w _).symm.trans hji9_
    have hji9x : (ji7) ≤ 64 → (wrap64 (1 * 2 ^ (ji7).toNat)) = ji9 := fun h_ => (i64_w _).symm.trans (hji9z h_)
    by_cases c10 : (ji9) = 0
    · rw [if_pos c10] at H
      exact absurd H (by simp)
    · rw [if_neg c10] at H
      have c10b0 : ((ji9) == 0) = false := beq_eq_false_iff_ne.mpr c10
      have c10b1 : ((ji9) != 0) = true := bne_iff_ne.mpr c10
      have HC11 := Aside0.mk H
      clear H
      go_enter Tryz.func7, Tryz.ntmps7
      go_upto_region 4 with (first | ((with_reducible refine gate_callee (f := 36) rfl ?_); refine goesL_ (some 18) rfl rfl Tryz.func36 (by kernel_rfl) rfl #[] rfl (by (try simp only [List.map_toArray, List.map_cons, List.map_nil]); first | done | rfl | (simp only [List.length_drop, List.length_take]; rfl)) ?_; (with_reducible refine (customhouselaw03_head.calls  t695 _ ?side1 A6.out).mono ?_); (case side1 => exact GL.below HG.out (by repeat (first | (with_reducible first | exact HB.out | apply below_alloc | apply pw_below_drewN | apply below_drew1) | exact HB.out))); rintro e w12 ⟨rfl, hb⟩; refine ⟨_, rfl, ?_⟩; have n0_ := Aside0.mk (below_step (by repeat (first | (with_reducible first | exact HB.out | apply below_alloc | apply pw_below_drewN | apply below_drew1) | exact HB.out)) hb); clear HB; have HB := n0_; clear n0_; (try clear hb); (try clear hb2); (try clear hk); (try clear hi)))
      (try simp only [Act.put, List.setIfInBounds_toArray, List.set_cons_zero, List.set_cons_succ])
      go_cut [39] (fun v39 wc => ∃ (kq : Nat) (x39_10 : Bool), v39 = .bool x39_10 ∧ Aside0 (customhouselaw03_SealBinds.j0 kq a0 a3 a4 t695 ji7 (Int.tmod (wrap64 (a2)) (ji9)) x39_10 = some r) ∧ Aside0 (kq ≤ k) ∧ Aside0 (Below w.heap.size w wc))
      case first =>
        have H := HC11.out
        clear HC11
        obtain ⟨y696, hy696⟩ : ∃ y_ : List ByteArray, y_ = (([a0, a3, a4] : List ByteArray)) := ⟨_, rfl⟩
        replace H : ((customhouselaw03_short.f k y696).bind fun t699 => (if t699 = true then ((customhouseref01_Sum.f k a3).bind fun t700 => ((customhouseref01_Sum.f k a4).bind fun t701 => (customhouselaw03_SealBinds.j0 k a0 a3 a4 t695 ji7 (Int.tmod (wrap64 (a2)) (ji9)) (t700.toList == t701.toList)))) else (customhouselaw03_SealBinds.j0 k a0 a3 a4 t695 ji7 (Int.tmod (wrap64 (a2)) (ji9)) true))) = some r := by first | (rw [hy696]; with_reducible exact H) | (have H2_ := (Option.bind_some _ _).symm.trans H; rw [hy696]; with_reducible exact H2_) | (have H2_ := (Option.bind_some _ _).symm.trans H; with_reducible exact H2_) | with_reducible exact H | (rw [hy696]; exact H) | exact H
        have Ny696 := Aside0.mk hy696
        clear hy696
        replace H := Option.bind_eq_some_iff.mp H
        obtain ⟨t699, A130, H⟩ := H
        replace H : (if t699 = true then ((customhouseref01_Sum.f k a3).bind fun t700 => ((customhouseref01_Sum.f k a4).bind fun t701 => (customhouselaw03_SealBinds.j0 k a0 a3 a4 t695 ji7 (Int.tmod (wrap64 (a2)) (ji9)) (t700.toList == t701.toList)))) else (customhouselaw03_SealBinds.j0 k a0 a3 a4 t695 ji7 (Int.tmod (wrap64 (a2)) (ji9)) true)) = some r := H
        have A13 := Aside0.mk A130
        clear A130
        by_cases c14 : t699 = true
        · subst c14
          have H1 : ((customhouseref01_Sum.f k a3).bind fun t700 => ((customhouseref01_Sum.f k a4).bind fun t701 => (customhouselaw03_SealBinds.j0 k a0 a3 a4 t695 ji7 (Int.tmod (wrap64 (a2)) (ji9)) (t700.toList == t701.toList)))) = some r := by rw [if_pos rfl] at H; exact H
          clear H
          have H := H1
          clear H1
          replace H := Option.bind_eq_some_iff.mp H
          obtain ⟨t700, A150, H⟩ := H
          replace H : ((customhouseref01_Sum.f k a4).bind fun t701 => (customhouselaw03_SealBinds.j0 k a0 a3 a4 t695 ji7 (Int.tmod (wrap64 (a2)) (ji9)) (t700.toList == t701.toList))) = some r := H
          have A15 := Aside0.mk A150
          clear A150
          replace H := Option.bind_eq_some_iff.mp H
          obtain ⟨t701, A160, H⟩ := H
          replace H : (customhouselaw03_SealBinds.j0 k a0 a3 a4 t695 ji7 (Int.tmod (wrap64 (a2)) (ji9)) (t700.toList == t701.toList)) = some r := H
          have A16 := Aside0.mk A160
          clear A160
          have H' := Aside0.mk H
          clear H
          go_wp2_with (first | ((with_reducible refine gate_dst (N := 30) rfl ?_); (try (refine gate_guard (by rfl) ?_; dsimp only)); refine Kd.R_lit Kd.string _ 9 ?hg (N := 30) ?hd (xs := ([a0, a3, a4] : List ByteArray)) (inner := [.string a0, .string a3, .string a4]) (ok := fun _ => True) (okp := fun _ => True) ?hr ?hp (fun _ hk => hk) trivial (Below.refl _ _) (Nat.le_refl _) (by simp) ?_; (case hd => rfl); (case hg => rfl); (case hr => first | (go_simp; done) | (go_simp; rfl)); (case hp => exact (Reps.one (show Kd.M Kd.string _ _ _ a0 [.string a0] from rfl) (Reps.one (show Kd.M Kd.string _ _ _ a3 [.string a3] from rfl) (Reps.one (show Kd.M Kd.string _ _ _ a4 [.string a4] from rfl) (Reps.none _ _))))); intro v697 w17 ho18 hb hg_ hnew_; clear hg_ hnew_; (first | rw [← Ny696.out] at ho18 | (simp only [Int.reduceToNat] at ho18; rw [← Ny696.out] at ho18)); have n0_ := Aside0.mk (Kd.R_lower ho18 (below_size (by repeat (first | (with_reducible first | exact HB.out | apply below_alloc | apply pw_below_drewN | apply below_drew1) | exact HB.out)))); have n1_ := Aside0.mk (below_step (by repeat (first | (with_reducible first | exact HB.out | apply below_alloc | apply pw_below_drewN | apply below_drew1) | exact HB.out)) hb); clear HB; have HO698 := n0_; have HB := n1_; clear n0_ n1_; clear hb ho18; obtain ⟨Ao19, co19, eo19⟩ := Kd.R_slice HO698.out; subst eo19) | ((with_reducible refine gate_callee (f := 37) rfl ?_); refine goesL_ (some 31) rfl rfl Tryz.func37 (by kernel_rfl) rfl #[.slice Ao19 y696.length co19] rfl (by (try simp only [List.map_toArray, List.map_cons, List.map_nil]); first | done | rfl | (simp only [List.length_drop, List.length_take]; rfl)) ?_; (with_reducible refine (customhouselaw03_short.calls k _ _ y696 true _ ?side1 ?side2 A13.out).mono ?_); (case side1 => repeat (first | exact (Kd.R_reads' HO698.out).2.2 | (with_reducible refine Kd.C_alloc ?_ _) | (with_reducible refine Kd.C_drewN ?_ _) | (with_reducible refine Kd.C_drew ?_))); (case side2 => exact (Kd.R_reads' HO698.out).2.1); rintro e w' ⟨rfl, ⟨nd, rfl⟩⟩; refine ⟨_, rfl, ?_⟩) | (go_at_call 49; (with_reducible refine (customhouseref01_Sum.calls k a3 t700 _ A15.out).mono ?_); rintro e w' ⟨rfl, ⟨nd, rfl⟩⟩) | (go_at_call 49; (with_reducible refine (customhouseref01_Sum.calls k a4 t701 _ A16.out).mono ?_); rintro e w' ⟨rfl, ⟨nd, rfl⟩⟩))
          first | ((try rw [← hji9]); (try rw [← hji7]); go_meet) | ((try rw [hji7]); (try rw [hji9]); go_meet) | go_meet
          case rel => exact ⟨_, ((t700.toList == t701.toList)), (by first | rfl | (simp; done) | (simp [*]; done)), (by first | exact H' | (rw [hji7]; exact H') | (rw [hji9]; exact H') | (rw [hji7, hji9]; exact H') | (rw [hji9, hji7]; exact H')), ⟨by first | omega | exact Nat.le_refl _⟩, ⟨by repeat (first | (with_reducible first | exact HB.out | apply below_alloc | apply pw_below_drewN | apply below_drew1) | exact HB.out)⟩⟩
        · replace c14 := Bool.eq_false_iff.mpr c14
          subst c14
          have H1 : (customhouselaw03_SealBinds.j0 k a0 a3 a4 t695 ji7 (Int.tmod (wrap64 (a2)) (ji9)) true) = some r := by rw [if_neg (show ¬ (false = true) by decide)] at H; exact H
          clear H
          have H := H1
          clear H1
          have H' := Aside0.mk H
          clear H
          go_wp2_with (first | ((with_reducible refine gate_dst (N := 30) rfl ?_); (try (refine gate_guard (by rfl) ?_; dsimp only)); refine Kd.R_lit Kd.string _ 9 ?hg (N := 30) ?hd (xs := ([a0, a3, a4] : List ByteArray)) (inner := [.string a0, .string a3, .string a4]) (ok := fun _ => True) (okp := fun _ => True) ?hr ?hp (fun _ hk => hk) trivial (Below.refl _ _) (Nat.le_refl _) (by simp) ?_; (case hd => rfl); (case hg => rfl); (case hr => first | (go_simp; done) | (go_simp; rfl)); (case hp => exact (Reps.one (show Kd.M Kd.string _ _ _ a0 [.string a0] from rfl) (Reps.one (show Kd.M Kd.string _ _ _ a3 [.string a3] from rfl) (Reps.one (show Kd.M Kd.string _ _ _ a4 [.string a4] from rfl) (Reps.none _ _))))); intro v697 w20 ho21 hb hg_ hnew_; clear hg_ hnew_; (first | rw [← Ny696.out] at ho21 | (simp only [Int.reduceToNat] at ho21; rw [← Ny696.out] at ho21)); have n0_ := Aside0.mk (Kd.R_lower ho21 (below_size (by repeat (first | (with_reducible first | exact HB.out | apply below_alloc | apply pw_below_drewN | apply below_drew1) | exact HB.out)))); have n1_ := Aside0.mk (below_step (by repeat (first | (with_reducible first | exact HB.out | apply below_alloc | apply pw_below_drewN | apply below_drew1) | exact HB.out)) hb); clear HB; have HO698 := n0_; have HB := n1_; clear n0_ n1_; clear hb ho21; obtain ⟨Ao22, co22, eo22⟩ := Kd.R_slice HO698.out; subst eo22) | ((with_reducible refine gate_callee (f := 37) rfl ?_); refine goesL_ (some 31) rfl rfl Tryz.func37 (by kernel_rfl) rfl #[.slice Ao22 y696.length co22] rfl (by (try simp only [List.map_toArray, List.map_cons, List.map_nil]); first | done | rfl | (simp only [List.length_drop, List.length_take]; rfl)) ?_; (with_reducible refine (customhouselaw03_short.calls k _ _ y696 false _ ?side1 ?side2 A13.out).mono ?_); (case side1 => repeat (first | exact (Kd.R_reads' HO698.out).2.2 | (with_reducible refine Kd.C_alloc ?_ _) | (with_reducible refine Kd.C_drewN ?_ _) | (with_reducible refine Kd.C_drew ?_))); (case side2 => exact (Kd.R_reads' HO698.out).2.1); rintro e w' ⟨rfl, ⟨nd, rfl⟩⟩; refine ⟨_, rfl, ?_⟩))
          first | ((try rw [← hji9]); (try rw [← hji7]); go_meet) | ((try rw [hji7]); (try rw [hji9]); go_meet) | go_meet
          case rel => exact ⟨_, (true), (by first | rfl | (simp; done) | (simp [*]; done)), (by first | exact H' | (rw [hji7]; exact H') | (rw [hji9]; exact H') | (rw [hji7, hji9]; exact H') | (rw [hji9, hji7]; exact H')), ⟨by first | omega | exact Nat.le_refl _⟩, ⟨by repeat (first | (with_reducible first | exact HB.out | apply below_alloc | apply pw_below_drewN | apply below_drew1) | exact HB.out)⟩⟩
      case rest =>
        clear HC11
        try clear c1
        try clear p2
        try clear c3
        try clear p6
        try clear c7
        try clear c8
        try clear c8b0
        try clear c8b1
        try clear c10
        try clear c10b0
        try clear c10b1
        try clear c14
        obtain ⟨kq, x39_10, rfl, HA, HJ10, HB⟩ := hcut
        cases kq with
        | zero => exact absurd HA.out (by simp [customhouselaw03_SealBinds.j0])
        | succ kj10 =>
          have H := HA.out
          clear HA
          simp only [customhouselaw03_SealBinds.j0] at H
          by_cases c23 : x39_10 = true
          · subst c23
            have H1 : (some t695) = some r := by rw [if_pos rfl] at H; exact H
            clear H
            have H := H1
            clear H1
            obtain rfl := Option.some.inj H
            go_wp2
            go_ret
            exact ⟨by first | rfl | (simp [errW_none, errW_some] <;> rfl) | (simp only [← hji7, ← hji9]; first | rfl | (simp [errW_none, errW_some] <;> rfl)) | (simp [*, errW_none, errW_some] <;> rfl), by repeat (first | (with_reducible first | exact HB.out | apply below_alloc | apply pw_below_drewN | apply below_drew1) | exact HB.out)⟩
          · replace c23 := Bool.eq_false_iff.mpr c23
            subst c23
            have H1 : ((seal_Public.f kj10 a0 ji7).bind fun bt702 => ((seal_Sign.f a0 ji7 (Int.tmod (wrap64 (a2)) (ji9)) a3).bind fun bt704 => (if bt702.2 = 0 then (customhouselaw03_SealBinds.j1 kj10 a0 a4 t695 ji7 bt702.1 (bt704.2.2.2 != 0) bt704.1 bt704.2.1 bt704.2.2.1) else (customhouselaw03_SealBinds.j1 kj10 a0 a4 t695 ji7 bt702.1 true bt704.1 bt704.2.1 bt704.2.2.1)))) = some r := by rw [if_neg (show ¬ (false = true) by decide)] at H; exact H
            clear H
            have H := H1
            clear H1
            replace H := Option.bind_eq_some_iff.mp H
            obtain ⟨⟨t702, t703⟩, A240, H⟩ := H
            replace H : ((seal_Sign.f a0 ji7 (Int.tmod (wrap64 (a2)) (ji9)) a3).bind fun bt704 => (if t703 = 0 then (customhouselaw03_SealBinds.j1 kj10 a0 a4 t695 ji7 t702 (bt704.2.2.2 != 0) bt704.1 bt704.2.1 bt704.2.2.1) else (customhouselaw03_SealBinds.j1 kj10 a0 a4 t695 ji7 t702 true bt704.1 bt704.2.1 bt704.2.2.1))) = some r := H
            have A24 := Aside0.mk A240
            clear A240
            replace H := Option.bind_eq_some_iff.mp H
            obtain ⟨⟨t704, t705, t708, t711⟩, A250, H⟩ := H
            replace H : (if t703 = 0 then (customhouselaw03_SealBinds.j1 kj10 a0 a4 t695 ji7 t702 (t711 != 0) t704 t705 t708) else (customhouselaw03_SealBinds.j1 kj10 a0 a4 t695 ji7 t702 true t704 t705 t708)) = some r := H
            have A25 := Aside0.mk A250
            clear A250
            have HC26 := Aside0.mk H
            clear H
            go_upto_region 8 with (first | ((with_reducible refine gate_callee (f := 39) rfl ?_); refine goesL_ (some 44) rfl rfl Tryz.func39 (by kernel_rfl) rfl #[.string a0, .int .i64 ji7] rfl (by (try simp only [List.map_toArray, List.map_cons, List.map_nil]); first | done | (simp only [hji7]; rfl) | rfl | (simp only [List.length_drop, List.length_take]; rfl)) ?_; (with_reducible refine (seal_Public.calls kj10 a0 ji7 t702 t703 _ ?side1 A24.out).mono ?_); (case side1 => exact GL.below HG.out (by repeat (first | (with_reducible first | exact HB.out | apply below_alloc | apply pw_below_drewN | apply below_drew1) | exact HB.out))); rintro e w27 ⟨rfl, hb⟩; refine ⟨_, rfl, ?_⟩; have n0_ := Aside0.mk (below_step (by repeat (first | (with_reducible first | exact HB.out | apply below_alloc | apply pw_below_drewN | apply below_drew1) | exact HB.out)) hb); clear HB; have HB := n0_; clear n0_; (try clear hb); (try clear hb2); (try clear hk); (try clear hi)) | ((with_reducible refine gate_callee (f := 41) rfl ?_); refine goesL_ (some 52) rfl rfl Tryz.func41 (by kernel_rfl) rfl #[.string a0, .int .i64 ji7, .int .i64 (Int.tmod (wrap64 (a2)) (ji9)), .string a3] rfl (by (try simp only [List.map_toArray, List.map_cons, List.map_nil]); first | done | (simp only [hji7, hji9]; rfl) | rfl | (simp only [List.length_drop, List.length_take]; rfl)) ?_; (with_reducible refine (seal_Sign.calls a0 ji7 (Int.tmod (wrap64 (a2)) (ji9)) a3 t704 t705 t708 t711 _ ?side1 A25.out).mono ?_); (case side1 => exact GL.below HG.out (by repeat (first | (with_reducible first | exact HB.out | apply below_alloc | apply pw_below_drewN | apply below_drew1) | exact HB.out))); rintro e w28 ⟨v706, v709, rfl, ho0, ho1, hb⟩; refine ⟨_, rfl, ?_⟩; have n0_ := Aside0.mk (Kd.R_lower ho0 (below_size (by repeat (first | (with_reducible first | exact HB.out | apply below_alloc | apply pw_below_drewN | apply below_drew1) | exact HB.out)))); have n1_ := Aside0.mk (Kd.R_lower ho1 (below_size (by repeat (first | (with_reducible first | exact HB.out | apply below_alloc | apply pw_below_drewN | apply below_drew1) | exact HB.out)))); have n2_ := Aside0.mk (below_step (by repeat (first | (with_reducible first | exact HB.out | apply below_alloc | apply pw_below_drewN | apply below_drew1) | exact HB.out)) hb); clear HB; have HO707 := n0_; have HO710 := n1_; have HB := n2_; clear n0_ n1_ n2_; (try clear hb); (try clear hb2); (try clear hk); (try clear hi); (try clear ho0); (try clear ho1)) | ((with_reducible refine gate_dst (N := 16) rfl ?_); (try (refine gate_guard (by rfl) ?_; dsimp only)); refine box_event ?hg (N := 16) ?hd (cs := #[.int .i64 0, .slice none 0 0, .slice none 0 0]) (t := 33) ?hr ?_; (case hd => rfl); (case hg => rfl); (case hr => first | (go_simp; done) | (go_simp; rfl)); intro gb712 hg w29 hbox hb; have n0_ := Aside0.mk (Kd.R_below (by (with_reducible repeat (first | apply Kd.R_alloc | apply Kd.R_drewN | apply Kd.R_drew)); exact HO707.out) hb); have n1_ := Aside0.mk (Kd.R_below (by (with_reducible repeat (first | apply Kd.R_alloc | apply Kd.R_drewN | apply Kd.R_drew)); exact HO710.out) hb); have n2_ := Aside0.mk (below_step (by repeat (first | (with_reducible first | exact HB.out | apply below_alloc | apply pw_below_drewN | apply below_drew1) | exact HB.out)) hb); have n3_ := Aside0.mk (hbox); have n4_ := Aside0.mk ((by rw [hg]; exact (below_size (by repeat (first | (with_reducible first | exact HB.out | apply below_alloc | apply pw_below_drewN | apply below_drew1) | exact HB.out))) : w.heap.size ≤ gb712)); have n5_ := Aside0.mk ((by rw [hg]; exact (below_size (by repeat (first | (with_reducible first | exact HB.out | apply below_alloc | apply pw_below_drewN | apply below_drew1) | exact HB.out))) : w.heap.size ≤ gb712)); clear HO707; clear HO710; clear HB; have HO707 := n0_; have HO710 := n1_; have HB := n2_; have BK712 := n3_; have GW712 := n4_; have GE712 := n5_; clear n0_ n1_ n2_ n3_ n4_ n5_; clear hb hbox hg; have hcz30_0 : w29.cell? ⟨gb712, 0, none⟩ = some (.int .i64 0) := (blk_cell BK712.out 0).trans rfl; have hcz30_1 : w29.cell? ⟨gb712, 1, none⟩ = some (.slice none 0 0) := (blk_cell BK712.out 1).trans rfl; have hcz30_2 : w29.cell? ⟨gb712, 2, none⟩ = some (.slice none 0 0) := (blk_cell BK712.out 2).trans rfl; have hfz30_0 := blk_frozen BK712.out 0; have hfz30_1 := blk_frozen BK712.out 1; have hfz30_2 := blk_frozen BK712.out 2; obtain ⟨Ao31, co31, eo31⟩ := Kd.R_slice HO707.out; subst eo31; obtain ⟨Ao32, co32, eo32⟩ := Kd.R_slice HO710.out; subst eo32))
            (try simp only [Act.put, List.setIfInBounds_toArray, List.set_cons_zero, List.set_cons_succ])
            go_cut [60] (fun v60 wc => ∃ (kq : Nat) (x60_25 : Bool), v60 = .bool x60_25 ∧ Aside0 (customhouselaw03_SealBinds.j1 kq a0 a4 t695 ji7 t702 x60_25 t704 t705 t708 = some r) ∧ Aside0 (kq ≤ kj10) ∧ Aside0 (Kd.R Kd.string 9 wc w.heap.size (fun k_ => some k_ ≠ ((.slice Ao32 t708.length co32) : Value).ownBlock) (.slice Ao31 t705.length co31) t705) ∧ Aside0 (Kd.R Kd.string 9 wc w.heap.size (fun k_ => some k_ ≠ ((.slice Ao31 t705.length co31) : Value).ownBlock) (.slice Ao32 t708.length co32) t708) ∧ Aside0 (wc.heap[gb712]? = some (.cells #[.int .i64 t704, (.slice Ao31 t705.length co31), (.slice Ao32 t708.length co32)] 33 (0, 0))) ∧ Aside0 (Below w.heap.size w wc))
            case first =>
              have H := HC26.out
              clear HC26
              by_cases c33 : t703 = 0
              · rw [if_pos c33] at H
                have c33b0 : (t703 == 0) = true := beq_iff_eq.mpr c33
                have c33b1 : (t703 != 0) = false := bne_eq_false_iff_eq.mpr c33
                clear c33
                (first | rw [c33b0] | (simp only [i64_w, i32_w]; rw [c33b0]) | skip)
                have H' := Aside0.mk H
                clear H
                go_wp2
                first | ((try rw [← hji9]); (try rw [← hji7]); go_meet) | ((try rw [hji7]); (try rw [hji9]); go_meet) | go_meet
                case rel => exact ⟨_, ((t711 != 0)), (by first | rfl | (simp; done) | (simp [*]; done)), (by first | exact H' | (rw [hji7]; exact H') | (rw [hji9]; exact H') | (rw [hji7, hji9]; exact H') | (rw [hji9, hji7]; exact H')), ⟨by have := HJ10.out; first | omega | exact Nat.le_refl _⟩, ⟨by (with_reducible repeat (first | apply Kd.R_alloc | apply Kd.R_drewN | apply Kd.R_drew)); exact Kd.R_mono (Kd.R_far (p := ⟨gb712, 2, none⟩) (Kd.R_far (p := ⟨gb712, 1, none⟩) (Kd.R_far (p := ⟨gb712, 0, none⟩) (Kd.R_types HO707.out BK712.out (by decide)) (fun _ hk => hk.2) (.int .i64 t704)) (fun _ hk => hk.2) (.slice Ao31 t705.length co31)) (fun _ hk => hk.2) (.slice Ao32 t708.length co32)) (fun _ hk => hk.1)⟩, ⟨by (with_reducible repeat (first | apply Kd.R_alloc | apply Kd.R_drewN | apply Kd.R_drew)); exact Kd.R_mono (Kd.R_far (p := ⟨gb712, 2, none⟩) (Kd.R_far (p := ⟨gb712, 1, none⟩) (Kd.R_far (p := ⟨gb712, 0, none⟩) (Kd.R_types HO710.out BK712.out (by decide)) (fun _ hk => hk.2) (.int .i64 t704)) (fun _ hk => hk.2) (.slice Ao31 t705.length co31)) (fun _ hk => hk.2) (.slice Ao32 t708.length co32)) (fun _ hk => hk.1)⟩, ⟨by (with_reducible repeat (first | refine blk_drewN ?_ _ | refine blk_drew ?_ | refine blk_alloc ?_ _)); refine blk_put (cs := #[.int .i64 t704, .slice Ao31 t705.length co31, .slice none 0 0]) ?_ 2 _ rfl; (with_reducible repeat (first | refine blk_drewN ?_ _ | refine blk_drew ?_ | refine blk_alloc ?_ _)); refine blk_put (cs := #[.int .i64 t704, .slice none 0 0, .slice none 0 0]) ?_ 1 _ rfl; (with_reducible repeat (first | refine blk_drewN ?_ _ | refine blk_drew ?_ | refine blk_alloc ?_ _)); refine blk_put (cs := #[.int .i64 0, .slice none 0 0, .slice none 0 0]) ?_ 0 _ rfl; (with_reducible repeat (first | refine blk_drewN ?_ _ | refine blk_drew ?_ | refine blk_alloc ?_ _)); exact BK712.out⟩, ⟨by repeat (first | (with_reducible first | exact HB.out | apply below_alloc | apply pw_below_drewN | apply below_drew1 | refine below_set ?_ GE712.out) | exact HB.out)⟩⟩
              · rw [if_neg c33] at H
                have c33b0 : (t703 == 0) = false := beq_eq_false_iff_ne.mpr c33
                have c33b1 : (t703 != 0) = true := bne_iff_ne.mpr c33
                (first | rw [c33b0] | (simp only [i64_w, i32_w]; rw [c33b0]) | skip)
                have H' := Aside0.mk H
                clear H
                go_wp2
                first | ((try rw [← hji9]); (try rw [← hji7]); go_meet) | ((try rw [hji7]); (try rw [hji9]); go_meet) | go_meet
                case rel => exact ⟨_, (true), (by first | rfl | (simp; done) | (simp [*]; done)), (by first | exact H' | (rw [hji7]; exact H') | (rw [hji9]; exact H') | (rw [hji7, hji9]; exact H') | (rw [hji9, hji7]; exact H')), ⟨by have := HJ10.out; first | omega | exact Nat.le_refl _⟩, ⟨by (with_reducible repeat (first | apply Kd.R_alloc | apply Kd.R_drewN | apply Kd.R_drew)); exact Kd.R_mono (Kd.R_far (p := ⟨gb712, 2, none⟩) (Kd.R_far (p := ⟨gb712, 1, none⟩) (Kd.R_far (p := ⟨gb712, 0, none⟩) (Kd.R_types HO707.out BK712.out (by decide)) (fun _ hk => hk.2) (.int .i64 t704)) (fun _ hk => hk.2) (.slice Ao31 t705.length co31)) (fun _ hk => hk.2) (.slice Ao32 t708.length co32)) (fun _ hk => hk.1)⟩, ⟨by (with_reducible repeat (first | apply Kd.R_alloc | apply Kd.R_drewN | apply Kd.R_drew)); exact Kd.R_mono (Kd.R_far (p := ⟨gb712, 2, none⟩) (Kd.R_far (p := ⟨gb712, 1, none⟩) (Kd.R_far (p := ⟨gb712, 0, none⟩) (Kd.R_types HO710.out BK712.out (by decide)) (fun _ hk => hk.2) (.int .i64 t704)) (fun _ hk => hk.2) (.slice Ao31 t705.length co31)) (fun _ hk => hk.2) (.slice Ao32 t708.length co32)) (fun _ hk => hk.1)⟩, ⟨by (with_reducible repeat (first | refine blk_drewN ?_ _ | refine blk_drew ?_ | refine blk_alloc ?_ _)); refine blk_put (cs := #[.int .i64 t704, .slice Ao31 t705.length co31, .slice none 0 0]) ?_ 2 _ rfl; (with_reducible repeat (first | refine blk_drewN ?_ _ | refine blk_drew ?_ | refine blk_alloc ?_ _)); refine blk_put (cs := #[.int .i64 t704, .slice none 0 0, .slice none 0 0]) ?_ 1 _ rfl; (with_reducible repeat (first | refine blk_drewN ?_ _ | refine blk_drew ?_ | refine blk_alloc ?_ _)); refine blk_put (cs := #[.int .i64 0, .slice none 0 0, .slice none 0 0]) ?_ 0 _ rfl; (with_reducible repeat (first | refine blk_drewN ?_ _ | refine blk_drew ?_ | refine blk_alloc ?_ _)); exact BK712.out⟩, ⟨by repeat (first | (with_reducible first | exact HB.out | apply below_alloc | apply pw_below_drewN | apply below_drew1 | refine below_set ?_ GE712.out) | exact HB.out)⟩⟩
            case rest =>
              clear HC26
              try clear c1
              try clear c2
              try clear p2
              try clear c3
              try clear c4
              try clear p6
              try clear c7
              try clear c8
              try clear c8b0
              try clear c8b1
              try clear c10
              try clear c10b0
              try clear c10b1
              try clear c14
              try clear c23
              try clear c33
              try clear c33b0
              try clear c33b1
              try clear hcz30_0
              try clear hcz30_1
              try clear hcz30_2
              try clear hfz30_0
              try clear hfz30_1
              try clear hfz30_2
              try clear p2
              try clear p6
              obtain ⟨kq, x60_25, rfl, HA, HJ25, HO_713001, HO_713002, BK712, HB⟩ := hcut
              cases kq with
              | zero => exact absurd HA.out (by simp [customhouselaw03_SealBinds.j1])
              | succ kj25 =>
                have H := HA.out
                clear HA
                simp only [customhouselaw03_SealBinds.j1] at H
                by_cases c34 : x60_25 = true
                · subst c34
                  have H1 : (some false) = some r := by rw [if_pos rfl] at H; exact H
                  clear H
                  have H := H1
                  clear H1
                  obtain rfl := Option.some.inj H
                  go_wp2
                  go_ret
                  exact ⟨by first | rfl | (simp [errW_none, errW_some] <;> rfl) | (simp only [← hji7, ← hji9]; first | rfl | (simp [errW_none, errW_some] <;> rfl)) | (simp [*, errW_none, errW_some] <;> rfl), by repeat (first | (with_reducible first | exact HB.out | apply below_alloc | apply pw_below_drewN | apply below_drew1 | refine below_set ?_ GE712.out) | exact HB.out)⟩
                · replace c34 := Bool.eq_false_iff.mpr c34
                  subst c34
                  have H1 : ((seal_Verify.f t702 a4 t704 t705 t708).bind fun t713 => (if t713 = true then (if t695 = true then ((customhouseref03_Made.f kj25 a0 ji7 30).bind fun t714 => ((customhouseref03_Checked.f kj25 a4 t704 t705 t708).bind fun t717 => (if t714.length + t717.length < 8796093022208 then ((customhouseref02_Shown.f kj25 (t714 ++ t717)).bind fun t723 => (some t723)) else (none)))) else (some false)) else (some t695))) = some r := by rw [if_neg (show ¬ (false = true) by decide)] at H; exact H
                  clear H
                  have H := H1
                  clear H1
                  replace H := Option.bind_eq_some_iff.mp H
                  obtain ⟨t713, A350, H⟩ := H
                  replace H : (if t713 = true then (if t695 = true then ((customhouseref03_Made.f kj25 a0 ji7 30).bind fun t714 => ((customhouseref03_Checked.f kj25 a4 t704 t705 t708).bind fun t717 => (if t714.length + t717.length < 8796093022208 then ((customhouseref02_Shown.f kj25 (t714 ++ t717)).bind fun t723 => (some t723)) else (none)))) else (some false)) else (some t695)) = some r := H
                  have A35 := Aside0.mk A350
                  clear A350
                  by_cases c36 : t713 = true
                  · subst c36
                    have H1 : (if t695 = true then ((customhouseref03_Made.f kj25 a0 ji7 30).bind fun t714 => ((customhouseref03_Checked.f kj25 a4 t704 t705 t708).bind fun t717 => (if t714.length + t717.length < 8796093022208 then ((customhouseref02_Shown.f kj25 (t714 ++ t717)).bind fun t723 => (some t723)) else (none)))) else (some false)) = some r := by rw [if_pos rfl] at H; exact H
                    clear H
                    have H := H1
                    clear H1
                    by_cases c37 : t695 = true
                    · subst c37
                      have H1 : ((customhouseref03_Made.f kj25 a0 ji7 30).bind fun t714 => ((customhouseref03_Checked.f kj25 a4 t704 t705 t708).bind fun t717 => (if t714.length + t717.length < 8796093022208 then ((customhouseref02_Shown.f kj25 (t714 ++ t717)).bind fun t723 => (some t723)) else (none)))) = some r := by rw [if_pos rfl] at H; exact H
                      clear H
                      have H := H1
                      clear H1
                      replace H := Option.bind_eq_some_iff.mp H
                      obtain ⟨t714, A380, H⟩ := H
                      replace H : ((customhouseref03_Checked.f kj25 a4 t704 t705 t708).bind fun t717 => (if t714.length + t717.length < 8796093022208 then ((customhouseref02_Shown.f kj25 (t714 ++ t717)).bind fun t723 => (some t723)) else (none))) = some r := H
                      have A38 := Aside0.mk A380
                      clear A380
                      replace H := Option.bind_eq_some_iff.mp H
                      obtain ⟨t717, A390, H⟩ := H
                      replace H : (if t714.length + t717.length < 8796093022208 then ((customhouseref02_Shown.f kj25 (t714 ++ t717)).bind fun t723 => (some t723)) else (none)) = some r := H
                      have A39 := Aside0.mk A390
                      clear A390
                      by_cases c40 : t714.length + t717.length < 8796093022208
                      · rw [if_pos c40] at H
                        have LMc40 := Aside0.mk c40
                        clear c40
                        obtain ⟨y720, hy720⟩ : ∃ y_ : List ByteArray, y_ = (t714 ++ t717) := ⟨_, rfl⟩
                        replace H : ((customhouseref02_Shown.f kj25 y720).bind fun t723 => (some t723)) = some r := by first | (rw [hy720]; with_reducible exact H) | (have H2_ := (Option.bind_some _ _).symm.trans H; rw [hy720]; with_reducible exact H2_) | (have H2_ := (Option.bind_some _ _).symm.trans H; with_reducible exact H2_) | with_reducible exact H | (rw [hy720]; exact H) | exact H
                        have Ny720 := Aside0.mk hy720
                        clear hy720
                        replace H := Option.bind_eq_some_iff.mp H
                        obtain ⟨t723, A410, H⟩ := H
                        replace H : (some t723) = some r := H
                        have A41 := Aside0.mk A410
                        clear A410
                        obtain rfl := Option.some.inj H
                        have hcz42_0 : wc.cell? ⟨gb712, 0, none⟩ = some (.int .i64 t704) := (blk_cell BK712.out 0).trans rfl
                        have hcz42_1 : wc.cell? ⟨gb712, 1, none⟩ = some (.slice Ao31 t705.length co31) := (blk_cell BK712.out 1).trans rfl
                        have hcz42_2 : wc.cell? ⟨gb712, 2, none⟩ = some (.slice Ao32 t708.length co32) := (blk_cell BK712.out 2).trans rfl
                        have hfz42_0 := blk_frozen BK712.out 0
                        have hfz42_1 := blk_frozen BK712.out 1
                        have hfz42_2 := blk_frozen BK712.out 2
                        try go_wp2_with (first | ((with_reducible refine gate_callee (f := 44) rfl ?_); refine goesL_ (some 64) rfl rfl Tryz.func44 (by kernel_rfl) rfl #[.string t702, .string a4, .agg #[.int .i64 t704, .slice Ao31 t705.length co31, .slice Ao32 t708.length co32]] rfl (by (try simp only [List.map_toArray, List.map_cons, List.map_nil]); first | done | rfl | (simp only [List.length_drop, List.length_take]; rfl)) ?_; (with_reducible refine (seal_Verify.calls t702 a4 t704 _ _ t705 _ _ t708 true _ ?side5 ?side1 ?side2 ?side3 ?side4 A35.out).mono ?_); (case side1 => repeat (first | exact (Kd.R_reads' HO_713001.out).2.2 | (with_reducible refine Kd.C_alloc ?_ _) | (with_reducible refine Kd.C_drewN ?_ _) | (with_reducible refine Kd.C_drew ?_))); (case side2 => exact (Kd.R_reads' HO_713001.out).2.1); (case side3 => repeat (first | exact (Kd.R_reads' HO_713002.out).2.2 | (with_reducible refine Kd.C_alloc ?_ _) | (with_reducible refine Kd.C_drewN ?_ _) | (with_reducible refine Kd.C_drew ?_))); (case side4 => exact (Kd.R_reads' HO_713002.out).2.1); (case side5 => exact GL.below HG.out (by repeat (first | (with_reducible first | exact HB.out | apply below_alloc | apply pw_below_drewN | apply below_drew1 | refine below_set ?_ GE712.out) | exact HB.out))); rintro e w43 ⟨rfl, hb⟩; refine ⟨_, rfl, ?_⟩; have n0_ := Aside0.mk (Kd.R_below (by (with_reducible repeat (first | apply Kd.R_alloc | apply Kd.R_drewN | apply Kd.R_drew)); exact HO_713001.out) hb); have n1_ := Aside0.mk (Kd.R_below (by (with_reducible repeat (first | apply Kd.R_alloc | apply Kd.R_drewN | apply Kd.R_drew)); exact HO_713002.out) hb); have n2_ := Aside0.mk (blk_below (g := gb712) (o := .cells #[.int .i64 t704, .slice Ao31 t705.length co31, .slice Ao32 t708.length co32] 33 (0, 0)) (by (with_reducible repeat (first | refine blk_drewN ?_ _ | refine blk_drew ?_ | refine blk_alloc ?_ _)); exact BK712.out) hb); have n3_ := Aside0.mk (below_step (by repeat (first | (with_reducible first | exact HB.out | apply below_alloc | apply pw_below_drewN | apply below_drew1 | refine below_set ?_ GE712.out) | exact HB.out)) hb); clear HO_713001; clear HO_713002; clear BK712; clear HB; have HO_713001 := n0_; have HO_713002 := n1_; have BK712 := n2_; have HB := n3_; clear n0_ n1_ n2_ n3_; (try clear hb); (try clear hb2); (try clear hk); (try clear hi)))
                        have n0_ := Aside0.mk (Kd.R_drew HO_713001.out)
                        have n1_ := Aside0.mk (Kd.R_drew HO_713002.out)
                        have n2_ := Aside0.mk (blk_drew BK712.out)
                        have n3_ := Aside0.mk (below_drew1 HB.out)
                        clear HO_713001
                        clear HO_713002
                        clear BK712
                        clear HB
                        have HO_713001 := n0_
                        have HO_713002 := n1_
                        have BK712 := n2_
                        have HB := n3_
                        clear n0_ n1_ n2_ n3_
                        refine start_ (n := 12) (S := fun w' => w'.cell? ⟨gb712, 0, none⟩ = some (.int .i64 t704) ∧ w'.cell? ⟨gb712, 1, none⟩ = some (.slice Ao31 t705.length co31) ∧ w'.cell? ⟨gb712, 2, none⟩ = some (.slice Ao32 t708.length co32)) (ds := []) #[false, false, false, false, false, false, false, false, false, false, false, false] (by kernel_rfl) rfl rfl ⟨(blk_cell BK712.out 0).trans rfl, (blk_cell BK712.out 1).trans rfl, (blk_cell BK712.out 2).trans rfl⟩ (fun hHeld => ?_); refine with_tabW customhouselaw03_SealBinds.tab12 customhouselaw03_SealBinds.bits12 (fun HT_ HW_ => ?_)
                        generalize w43.drew = w44 at HO_713001 HO_713002 BK712 HB hHeld ⊢
                        refine pure_ (i := 0) (N := some 67) (v := ?_) (a' := ?_) #[true, false, false, false, false, false, false, false, false, false, false, false] rfl rfl (any_of HT_.out (by kernel_rfl)) (fun _ _ _ h => h) (Or.inl ⟨by rfl, ?_⟩) ?_ ?_
                        rotate_left
                        · intro w'
                          go_simp
                          first | with_reducible rfl | (rw [if_neg (by (try simp only [ByteArray.size_append, ByteArray.size_extract, eq_iff_iff, iff_true, iff_false, decide_eq_true_eq] at *); omega)] <;> with_reducible rfl)
                        rotate_left
                        · simp only [Act.put, List.setIfInBounds_toArray, List.set_cons_zero, List.set_cons_succ, i64_w, i32_w]
                          rfl
                        refine pure_ (i := 1) (N := some 68) (v := ?_) (a' := ?_) #[true, true, false, false, false, false, false, false, false, false, false, false] rfl rfl (any_of HT_.out (by kernel_rfl)) (fun _ _ _ h => h) (Or.inl ⟨by rfl, ?_⟩) ?_ ?_
                        rotate_left
                        · intro w'
                          go_simp
                          first | with_reducible rfl | (rw [if_neg (by (try simp only [ByteArray.size_append, ByteArray.size_extract, eq_iff_iff, iff_true, iff_false, decide_eq_true_eq] at *); omega)] <;> with_reducible rfl)
                        rotate_left
                        · simp only [Act.put, List.setIfInBounds_toArray, List.set_cons_zero, List.set_cons_succ, i64_w, i32_w]
                          rfl
                        refine pure_ (i := 2) (N := some 69) (v := ?_) (a' := ?_) #[true, true, true, false, false, false, false, false, false, false, false, false] rfl rfl (any_of HT_.out (by kernel_rfl)) (fun _ _ _ h => h) (Or.inl ⟨by rfl, ?_⟩) ?_ ?_
                        rotate_left
                        · intro w'
                          go_simp
                          first | with_reducible rfl | (rw [if_neg (by (try simp only [ByteArray.size_append, ByteArray.size_extract, eq_iff_iff, iff_true, iff_false, decide_eq_true_eq] at *); omega)] <;> with_reducible rfl)
                        rotate_left
                        · simp only [Act.put, List.setIfInBounds_toArray, List.set_cons_zero, List.set_cons_succ, i64_w, i32_w]
                          rfl
                        refine pure_ (i := 3) (N := some 70) (v := ?_) (a' := ?_) #[true, true, true, true, false, false, false, false, false, false, false, false] rfl rfl (any_of HT_.out (by kernel_rfl)) (fun _ _ _ h => h) (Or.inl ⟨by rfl, ?_⟩) ?_ ?_
                        rotate_left
                        · intro w'
                          go_simp
                          first | with_reducible rfl | (rw [if_neg (by (try simp only [ByteArray.size_append, ByteArray.size_extract, eq_iff_iff, iff_true, iff_false, decide_eq_true_eq] at *); omega)] <;> with_reducible rfl)
                        rotate_left
                        · simp only [Act.put, List.setIfInBounds_toArray, List.set_cons_zero, List.set_cons_succ, i64_w, i32_w]
                          rfl
                        refine pure_ (i := 5) (N := some 72) (v := ?_) (a' := ?_) #[true, true, true, true, false, true, false, false, false, false, false, false] rfl rfl (any_of HT_.out (by kernel_rfl)) (fun _ _ _ h => h) (Or.inl ⟨by rfl, ?_⟩) ?_ ?_
                        rotate_left
                        · intro w'
                          go_simp
                          first | with_reducible rfl | (rw [if_neg (by (try simp only [ByteArray.size_append, ByteArray.size_extract, eq_iff_iff, iff_true, iff_false, decide_eq_true_eq] at *); omega)] <;> with_reducible rfl)
                        rotate_left
                        · simp only [Act.put, List.setIfInBounds_toArray, List.set_cons_zero, List.set_cons_succ, i64_w, i32_w]
                          rfl
                        refine take_ (i := 6) (N := some 73) (v := ?_) (a' := ?_) #[true, true, true, true, false, true, true, false, false, false, false, false] rfl rfl (take_ofW HT_.out HW_.out (by kernel_rfl)) (fun _ _ _ h => h) (Or.inl ⟨by rfl, ?_⟩) hHeld ?_ ?_
                        rotate_left
                        · rintro w' ⟨s0, s1, s2⟩
                          go_simp
                          first | with_reducible rfl | (rw [if_neg (by (try simp only [ByteArray.size_append, ByteArray.size_extract, eq_iff_iff, iff_true, iff_false, decide_eq_true_eq] at *); omega)] <;> with_reducible rfl)
                        rotate_left
                        · simp only [Act.put, List.setIfInBounds_toArray, List.set_cons_zero, List.set_cons_succ, i64_w, i32_w]
                          rfl
                        refine one_ (i := 4) (N := some 71) #[true, true, true, true, true, true, true, false, false, false, false, false] rfl rfl (one_of HT_.out (by kernel_rfl)) (by decide) (fun K hK => ?_)
                        refine goes_ Tryz.func47 (by kernel_rfl) rfl #[.string a0, .int .i64 ji7, .int .i64 30] (by rfl) rfl rfl (by (try simp only [List.map_toArray, List.map_cons, List.map_nil]); first | done | (simp only [hji7]; rfl) | rfl | (simp only [List.length_drop, List.length_take]; rfl)) ?_
                        with_reducible refine (customhouseref03_Made.calls kj25 a0 ji7 30 t714 _ A38.out).mono ?_
                        rintro e w45 ⟨v715, rfl, ho0, hb⟩
                        refine ⟨_, rfl, ?_⟩
                        have n0_ := Aside0.mk (Kd.R_elder' (by (with_reducible repeat (first | apply Kd.R_alloc | apply Kd.R_drewN | apply Kd.R_drew)); exact HO_713001.out) (Kd.R_base ho0) hb)
                        have n1_ := Aside0.mk (Kd.R_elder' (by (with_reducible repeat (first | apply Kd.R_alloc | apply Kd.R_drewN | apply Kd.R_drew)); exact HO_713002.out) (Kd.R_base ho0) hb)
                        have n2_ := Aside0.mk (Kd.R_lower (Kd.R_new' (Kd.R_new' ho0 (Kd.R_lt (by (with_reducible repeat (first | apply Kd.R_alloc | apply Kd.R_drewN | apply Kd.R_drew)); exact HO_713001.out))) (Kd.R_lt (by (with_reducible repeat (first | apply Kd.R_alloc | apply Kd.R_drewN | apply Kd.R_drew)); exact HO_713002.out))) (below_size (by repeat (first | (with_reducible first | exact HB.out | apply below_alloc | apply pw_below_drewN | apply below_drew1 | refine below_set ?_ GE712.out) | exact HB.out))))
                        have n3_ := Aside0.mk (blk_below (g := gb712) (o := .cells #[.int .i64 t704, .slice Ao31 t705.length co31, .slice Ao32 t708.length co32] 33 (0, 0)) (by (with_reducible repeat (first | refine blk_drewN ?_ _ | refine blk_drew ?_ | refine blk_alloc ?_ _)); exact BK712.out) hb)
                        have n4_ := Aside0.mk (below_step (by repeat (first | (with_reducible first | exact HB.out | apply below_alloc | apply pw_below_drewN | apply below_drew1 | refine below_set ?_ GE712.out) | exact HB.out)) hb)
                        clear HO_713001
                        clear HO_713002
                        clear BK712
                        clear HB
                        have HO_713001 := n0_
                        have HO_713002 := n1_
                        have HO716 := n2_
                        have BK712 := n3_
                        have HB := n4_
                        clear n0_ n1_ n2_ n3_ n4_
                        (try clear hb)
                        (try clear hb2)
                        (try clear hk)
                        (try clear hi)
                        (try clear ho0)
                        refine hK.out _ _ ⟨(blk_cell BK712.out 0).trans rfl, (blk_cell BK712.out 1).trans rfl, (blk_cell BK712.out 2).trans rfl⟩ (fun hHeld => ?_)
                        clear hK K
                        refine norm_ (a' := ?_) ?_ ?_
                        rotate_left
                        · show Act.put _ (some 71) _ = _
                          simp only [Act.put, List.setIfInBounds_toArray, List.set_cons_zero, List.set_cons_succ, i64_w, i32_w]
                          rfl
                        refine one_ (i := 7) (N := some 74) #[true, true, true, true, true, true, true, true, false, false, false, false] rfl rfl (one_of HT_.out (by kernel_rfl)) (by decide) (fun K hK => ?_)
                        refine goes_ Tryz.func48 (by kernel_rfl) rfl #[.string a4, .agg #[.int .i64 t704, .slice Ao31 t705.length co31, .slice Ao32 t708.length co32]] (by rfl) rfl rfl (by (try simp only [List.map_toArray, List.map_cons, List.map_nil]); first | done | rfl | (simp only [List.length_drop, List.length_take]; rfl)) ?_
                        with_reducible refine (customhouseref03_Checked.calls kj25 a4 t704 _ _ t705 _ _ t708 t717 _ ?side1 ?side2 ?side3 ?side4 A39.out).mono ?_
                        (case side1 => repeat (first | exact (Kd.R_reads' HO_713001.out).2.2 | (with_reducible refine Kd.C_alloc ?_ _) | (with_reducible refine Kd.C_drewN ?_ _) | (with_reducible refine Kd.C_drew ?_)))
                        (case side2 => exact (Kd.R_reads' HO_713001.out).2.1)
                        (case side3 => repeat (first | exact (Kd.R_reads' HO_713002.out).2.2 | (with_reducible refine Kd.C_alloc ?_ _) | (with_reducible refine Kd.C_drewN ?_ _) | (with_reducible refine Kd.C_drew ?_)))
                        (case side4 => exact (Kd.R_reads' HO_713002.out).2.1)
                        rintro e w46 ⟨v718, rfl, ho0, hb⟩
                        refine ⟨_, rfl, ?_⟩
                        have n0_ := Aside0.mk (Kd.R_elder' (by (with_reducible repeat (first | apply Kd.R_alloc | apply Kd.R_drewN | apply Kd.R_drew)); exact HO_713001.out) (Kd.R_base ho0) hb)
                        have n1_ := Aside0.mk (Kd.R_elder' (by (with_reducible repeat (first | apply Kd.R_alloc | apply Kd.R_drewN | apply Kd.R_drew)); exact HO_713002.out) (Kd.R_base ho0) hb)
                        have n2_ := Aside0.mk (Kd.R_elder' (by (with_reducible repeat (first | apply Kd.R_alloc | apply Kd.R_drewN | apply Kd.R_drew)); exact HO716.out) (Kd.R_base ho0) hb)
                        have n3_ := Aside0.mk (Kd.R_lower (Kd.R_new' (Kd.R_new' (Kd.R_new' ho0 (Kd.R_lt (by (with_reducible repeat (first | apply Kd.R_alloc | apply Kd.R_drewN | apply Kd.R_drew)); exact HO_713001.out))) (Kd.R_lt (by (with_reducible repeat (first | apply Kd.R_alloc | apply Kd.R_drewN | apply Kd.R_drew)); exact HO_713002.out))) (Kd.R_lt (by (with_reducible repeat (first | apply Kd.R_alloc | apply Kd.R_drewN | apply Kd.R_drew)); exact HO716.out))) (below_size (by repeat (first | (with_reducible first | exact HB.out | apply below_alloc | apply pw_below_drewN | apply below_drew1 | refine below_set ?_ GE712.out) | exact HB.out))))
                        have n4_ := Aside0.mk (blk_below (g := gb712) (o := .cells #[.int .i64 t704, .slice Ao31 t705.length co31, .slice Ao32 t708.length co32] 33 (0, 0)) (by (with_reducible repeat (first | refine blk_drewN ?_ _ | refine blk_drew ?_ | refine blk_alloc ?_ _)); exact BK712.out) hb)
                        have n5_ := Aside0.mk (below_step (by repeat (first | (with_reducible first | exact HB.out | apply below_alloc | apply pw_below_drewN | apply below_drew1 | refine below_set ?_ GE712.out) | exact HB.out)) hb)
                        clear HO_713001
                        clear HO_713002
                        clear HO716
                        clear BK712
                        clear HB
                        have HO_713001 := n0_
                        have HO_713002 := n1_
                        have HO716 := n2_
                        have HO719 := n3_
                        have BK712 := n4_
                        have HB := n5_
                        clear n0_ n1_ n2_ n3_ n4_ n5_
                        (try clear hb)
                        (try clear hb2)
                        (try clear hk)
                        (try clear hi)
                        (try clear ho0)
                        obtain ⟨Ao48, co48, eo48⟩ := Kd.R_slice HO719.out
                        (first | subst eo48 | (injection eo48 with f1_ f2_ f3_; have f4_ := f1_.symm; have f5_ := f3_.symm; clear f1_ f2_ f3_; subst f4_; subst f5_))
                        refine hK.out _ _ ⟨(blk_cell BK712.out 0).trans rfl, (blk_cell BK712.out 1).trans rfl, (blk_cell BK712.out 2).trans rfl⟩ (fun hHeld => ?_)
                        clear hK K
                        refine norm_ (a' := ?_) ?_ ?_
                        rotate_left
                        · show Act.put _ (some 74) _ = _
                          simp only [Act.put, List.setIfInBounds_toArray, List.set_cons_zero, List.set_cons_succ, i64_w, i32_w]
                          rfl
                        refine one_ (i := 8) (N := some 75) #[true, true, true, true, true, true, true, true, true, false, false, false] rfl rfl (one_of HT_.out (by kernel_rfl)) (by decide) (fun K hK => ?_)
                        refine Kd.R_append_rows_step Kd.string (w0 := w) w.heap.size (by rfl) (.tmp 71) (.tmp 74) 30 9 (.string ⟨#[]⟩) 16 rfl Tryz.underlying30 info9 rfl (by decide) (by omega) v715 t714 t717 _ _ _ (fun k_ => some k_ ≠ (.slice Ao31 t705.length co31 : Value).ownBlock ∧ some k_ ≠ (.slice Ao32 t708.length co32 : Value).ownBlock ∧ some k_ ≠ (.slice Ao48 t717.length co48 : Value).ownBlock) (fun _ => False) rfl rfl ?aO ?aR (fun _ _ h => h) (fun _ h => h.elim) ?aF ?aB ?aS ?aL ?_
                        (case aR => repeat (first | exact (Kd.R_reads' HO719.out).2.2 | (with_reducible refine Kd.C_alloc ?_ _) | (with_reducible refine Kd.C_drewN ?_ _) | (with_reducible refine Kd.C_drew ?_)))
                        (case aB => exact (by repeat (first | (with_reducible first | exact HB.out | apply below_alloc | apply pw_below_drewN | apply below_drew1 | refine below_set ?_ GE712.out) | exact HB.out)))
                        (case aF => exact (fun k_ hk => ⟨Kd.fresh' (Kd.R_lt (by (with_reducible repeat (first | apply Kd.R_alloc | apply Kd.R_drewN | apply Kd.R_drew)); exact HO_713001.out)) k_ hk, Kd.fresh' (Kd.R_lt (by (with_reducible repeat (first | apply Kd.R_alloc | apply Kd.R_drewN | apply Kd.R_drew)); exact HO_713002.out)) k_ hk, Kd.fresh' (Kd.R_lt (by (with_reducible repeat (first | apply Kd.R_alloc | apply Kd.R_drewN | apply Kd.R_drew)); exact HO719.out)) k_ hk⟩))
                        (case aO => exact (by (with_reducible repeat (first | apply Kd.R_alloc | apply Kd.R_drewN | apply Kd.R_drew)); exact Kd.R_mono HO716.out (fun _ hk => ⟨hk.1.1.2, ⟨hk.1.2, hk.2⟩⟩)))
                        (case aS => exact (below_size (by repeat (first | (with_reducible first | exact HB.out | apply below_alloc | apply pw_below_drewN | apply below_drew1 | refine below_set ?_ GE712.out) | exact HB.out))))
                        (case aL => have := LMc40.out; omega)
                        intro v721 w47 ho hb hg hat
                        rw [← Ny720.out] at ho
                        have n0_ := Aside0.mk (Kd.R_after (ok := (fun k_ => some k_ ≠ (.slice Ao32 t708.length co32 : Value).ownBlock ∧ some k_ ≠ (.slice Ao48 t717.length co48 : Value).ownBlock)) (by (with_reducible repeat (first | apply Kd.R_alloc | apply Kd.R_drewN | apply Kd.R_drew)); exact Kd.R_mono HO_713001.out (fun _ hk => ⟨⟨hk.1.1, hk.2⟩, hk.1.2⟩)) hg hat)
                        have n1_ := Aside0.mk (Kd.R_after (ok := (fun k_ => some k_ ≠ (.slice Ao31 t705.length co31 : Value).ownBlock ∧ some k_ ≠ (.slice Ao48 t717.length co48 : Value).ownBlock)) (by (with_reducible repeat (first | apply Kd.R_alloc | apply Kd.R_drewN | apply Kd.R_drew)); exact Kd.R_mono HO_713002.out (fun _ hk => ⟨⟨hk.1.1, hk.2⟩, hk.1.2⟩)) hg hat)
                        have n2_ := Aside0.mk (blk_grown (g := gb712) (o := .cells #[.int .i64 t704, .slice Ao31 t705.length co31, .slice Ao32 t708.length co32] 33 (0, 0)) (by (with_reducible repeat (first | refine blk_drewN ?_ _ | refine blk_drew ?_ | refine blk_alloc ?_ _)); exact BK712.out) hg (Kd.R_ne HO716.out BK712.out (by decide)))
                        have n3_ := Aside0.mk (Kd.R_after (ok := (fun k_ => some k_ ≠ (.slice Ao31 t705.length co31 : Value).ownBlock ∧ some k_ ≠ (.slice Ao32 t708.length co32 : Value).ownBlock)) (by (with_reducible repeat (first | apply Kd.R_alloc | apply Kd.R_drewN | apply Kd.R_drew)); exact Kd.R_mono HO719.out (fun _ hk => ⟨⟨hk.1.1.2, hk.1.2⟩, hk.2⟩)) hg hat)
                        have n4_ := Aside0.mk (hb)
                        have n5_ := Aside0.mk (ho)
                        clear HO_713001
                        clear HO_713002
                        clear BK712
                        clear HO719
                        clear HB
                        clear HO716
                        have HO_713001 := n0_
                        have HO_713002 := n1_
                        have BK712 := n2_
                        have HO719 := n3_
                        have HB := n4_
                        have HO722 := n5_
                        clear n0_ n1_ n2_ n3_ n4_ n5_
                        clear ho hb hg hat
                        obtain ⟨Ao49, co49, eo49⟩ := Kd.R_slice HO722.out
                        (first | subst eo49 | (injection eo49 with f1_ f2_ f3_; have f4_ := f1_.symm; have f5_ := f3_.symm; clear f1_ f2_ f3_; subst f4_; subst f5_))
                        refine hK.out _ _ ⟨(blk_cell BK712.out 0).trans rfl, (blk_cell BK712.out 1).trans rfl, (blk_cell BK712.out 2).trans rfl⟩ (fun hHeld => ?_)
                        clear hK K
                        refine norm_ (a' := ?_) ?_ ?_
                        rotate_left
                        · show Act.put _ (some 75) _ = _
                          simp only [Act.put, List.setIfInBounds_toArray, List.set_cons_zero, List.set_cons_succ, i64_w, i32_w]
                          rfl
                        refine one_ (i := 9) (N := some 76) #[true, true, true, true, true, true, true, true, true, true, false, false] rfl rfl (one_of HT_.out (by kernel_rfl)) (by decide) (fun K hK => ?_)
                        refine goes_ Tryz.func46 (by kernel_rfl) rfl #[.slice Ao49 y720.length co49] (by rfl) rfl rfl (by (try simp only [List.map_toArray, List.map_cons, List.map_nil]); first | done | rfl | (simp only [List.length_drop, List.length_take]; rfl)) ?_
                        with_reducible refine (customhouseref02_Shown.calls kj25 _ _ y720 t723 _ ?side1 ?side2 A41.out).mono ?_
                        (case side1 => repeat (first | exact (Kd.R_reads' HO722.out).2.2 | (with_reducible refine Kd.C_alloc ?_ _) | (with_reducible refine Kd.C_drewN ?_ _) | (with_reducible refine Kd.C_drew ?_)))
                        (case side2 => exact (Kd.R_reads' HO722.out).2.1)
                        rintro e w50 ⟨rfl, hb⟩
                        refine ⟨_, rfl, ?_⟩
                        have n0_ := Aside0.mk (Kd.R_below (by (with_reducible repeat (first | apply Kd.R_alloc | apply Kd.R_drewN | apply Kd.R_drew)); exact HO_713001.out) hb)
                        have n1_ := Aside0.mk (Kd.R_below (by (with_reducible repeat (first | apply Kd.R_alloc | apply Kd.R_drewN | apply Kd.R_drew)); exact HO_713002.out) hb)
                        have n2_ := Aside0.mk (Kd.R_below (by (with_reducible repeat (first | apply Kd.R_alloc | apply Kd.R_drewN | apply Kd.R_drew)); exact HO719.out) hb)
                        have n3_ := Aside0.mk (Kd.R_below (by (with_reducible repeat (first | apply Kd.R_alloc | apply Kd.R_drewN | apply Kd.R_drew)); exact HO722.out) hb)
                        have n4_ := Aside0.mk (blk_below (g := gb712) (o := .cells #[.int .i64 t704, .slice Ao31 t705.length co31, .slice Ao32 t708.length co32] 33 (0, 0)) (by (with_reducible repeat (first | refine blk_drewN ?_ _ | refine blk_drew ?_ | refine blk_alloc ?_ _)); exact BK712.out) hb)
                        have n5_ := Aside0.mk (below_step (by repeat (first | (with_reducible first | exact HB.out | apply below_alloc | apply pw_below_drewN | apply below_drew1 | refine below_set ?_ GE712.out) | exact HB.out)) hb)
                        clear HO_713001
                        clear HO_713002
                        clear HO719
                        clear HO722
                        clear BK712
                        clear HB
                        have HO_713001 := n0_
                        have HO_713002 := n1_
                        have HO719 := n2_
                        have HO722 := n3_
                        have BK712 := n4_
                        have HB := n5_
                        clear n0_ n1_ n2_ n3_ n4_ n5_
                        (try clear hb)
                        (try clear hb2)
                        (try clear hk)
                        (try clear hi)
                        refine hK.out _ _ ⟨(blk_cell BK712.out 0).trans rfl, (blk_cell BK712.out 1).trans rfl, (blk_cell BK712.out 2).trans rfl⟩ (fun hHeld => ?_)
                        clear hK K
                        refine norm_ (a' := ?_) ?_ ?_
                        rotate_left
                        · show Act.put _ (some 76) _ = _
                          simp only [Act.put, List.setIfInBounds_toArray, List.set_cons_zero, List.set_cons_succ, i64_w, i32_w]
                          rfl
                        refine pure_ (i := 10) (N := some 77) (v := ?_) (a' := ?_) #[true, true, true, true, true, true, true, true, true, true, true, false] rfl rfl (any_of HT_.out (by kernel_rfl)) (fun _ _ _ h => h) (Or.inl ⟨by rfl, ?_⟩) ?_ ?_
                        rotate_left
                        · intro w'
                          go_simp
                          first | with_reducible rfl | (rw [if_neg (by (try simp only [ByteArray.size_append, ByteArray.size_extract, eq_iff_iff, iff_true, iff_false, decide_eq_true_eq] at *); omega)] <;> with_reducible rfl)
                        rotate_left
                        · simp only [Act.put, List.setIfInBounds_toArray, List.set_cons_zero, List.set_cons_succ, i64_w, i32_w]
                          rfl
                        refine pure_ (i := 11) (N := some 10) (v := ?_) (a' := ?_) #[true, true, true, true, true, true, true, true, true, true, true, true] rfl rfl (any_of HT_.out (by kernel_rfl)) (fun _ _ _ h => h) (Or.inl ⟨by rfl, ?_⟩) ?_ ?_
                        rotate_left
                        · intro w'
                          go_simp
                          first | with_reducible rfl | (rw [if_neg (by (try simp only [ByteArray.size_append, ByteArray.size_extract, eq_iff_iff, iff_true, iff_false, decide_eq_true_eq] at *); omega)] <;> with_reducible rfl)
                        rotate_left
                        · simp only [Act.put, List.setIfInBounds_toArray, List.set_cons_zero, List.set_cons_succ, i64_w, i32_w]
                          rfl
                        refine done_ (done_of HT_.out (by kernel_rfl)) ?_
                        try go_wp2
                        go_ret
                        exact ⟨by first | rfl | (simp [errW_none, errW_some] <;> rfl) | (simp only [← hji7, ← hji9]; first | rfl | (simp [errW_none, errW_some] <;> rfl)) | (simp [*, errW_none, errW_some] <;> rfl), by repeat (first | (with_reducible first | exact HB.out | apply below_alloc | apply pw_below_drewN | apply below_drew1 | refine below_set ?_ GE712.out) | exact HB.out)⟩
                      · rw [if_neg c40] at H
                        exact absurd H (by simp)
                    · replace c37 := Bool.eq_false_iff.mpr c37
                      subst c37
                      have H1 : (some false) = some r := by rw [if_neg (show ¬ (false = true) by decide)] at H; exact H
                      clear H
                      have H := H1
                      clear H1
                      obtain rfl := Option.some.inj H
                      have hcz51_0 : wc.cell? ⟨gb712, 0, none⟩ = some (.int .i64 t704) := (blk_cell BK712.out 0).trans rfl
                      have hcz51_1 : wc.cell? ⟨gb712, 1, none⟩ = some (.slice Ao31 t705.length co31) := (blk_cell BK712.out 1).trans rfl
                      have hcz51_2 : wc.cell? ⟨gb712, 2, none⟩ = some (.slice Ao32 t708.length co32) := (blk_cell BK712.out 2).trans rfl
                      have hfz51_0 := blk_frozen BK712.out 0
                      have hfz51_1 := blk_frozen BK712.out 1
                      have hfz51_2 := blk_frozen BK712.out 2
                      try go_wp2_with (first | ((with_reducible refine gate_callee (f := 44) rfl ?_); refine goesL_ (some 64) rfl rfl Tryz.func44 (by kernel_rfl) rfl #[.string t702, .string a4, .agg #[.int .i64 t704, .slice Ao31 t705.length co31, .slice Ao32 t708.length co32]] rfl (by (try simp only [List.map_toArray, List.map_cons, List.map_nil]); first | done | rfl | (simp only [List.length_drop, List.length_take]; rfl)) ?_; (with_reducible refine (seal_Verify.calls t702 a4 t704 _ _ t705 _ _ t708 true _ ?side5 ?side1 ?side2 ?side3 ?side4 A35.out).mono ?_); (case side1 => repeat (first | exact (Kd.R_reads' HO_713001.out).2.2 | (with_reducible refine Kd.C_alloc ?_ _) | (with_reducible refine Kd.C_drewN ?_ _) | (with_reducible refine Kd.C_drew ?_))); (case side2 => exact (Kd.R_reads' HO_713001.out).2.1); (case side3 => repeat (first | exact (Kd.R_reads' HO_713002.out).2.2 | (with_reducible refine Kd.C_alloc ?_ _) | (with_reducible refine Kd.C_drewN ?_ _) | (with_reducible refine Kd.C_drew ?_))); (case side4 => exact (Kd.R_reads' HO_713002.out).2.1); (case side5 => exact GL.below HG.out (by repeat (first | (with_reducible first | exact HB.out | apply below_alloc | apply pw_below_drewN | apply below_drew1 | refine below_set ?_ GE712.out) | exact HB.out))); rintro e w52 ⟨rfl, hb⟩; refine ⟨_, rfl, ?_⟩; have n0_ := Aside0.mk (Kd.R_below (by (with_reducible repeat (first | apply Kd.R_alloc | apply Kd.R_drewN | apply Kd.R_drew)); exact HO_713001.out) hb); have n1_ := Aside0.mk (Kd.R_below (by (with_reducible repeat (first | apply Kd.R_alloc | apply Kd.R_drewN | apply Kd.R_drew)); exact HO_713002.out) hb); have n2_ := Aside0.mk (blk_below (g := gb712) (o := .cells #[.int .i64 t704, .slice Ao31 t705.length co31, .slice Ao32 t708.length co32] 33 (0, 0)) (by (with_reducible repeat (first | refine blk_drewN ?_ _ | refine blk_drew ?_ | refine blk_alloc ?_ _)); exact BK712.out) hb); have n3_ := Aside0.mk (below_step (by repeat (first | (with_reducible first | exact HB.out | apply below_alloc | apply pw_below_drewN | apply below_drew1 | refine below_set ?_ GE712.out) | exact HB.out)) hb); clear HO_713001; clear HO_713002; clear BK712; clear HB; have HO_713001 := n0_; have HO_713002 := n1_; have BK712 := n2_; have HB := n3_; clear n0_ n1_ n2_ n3_; (try clear hb); (try clear hb2); (try clear hk); (try clear hi)))
                      have n0_ := Aside0.mk (Kd.R_drew HO_713001.out)
                      have n1_ := Aside0.mk (Kd.R_drew HO_713002.out)
                      have n2_ := Aside0.mk (blk_drew BK712.out)
                      have n3_ := Aside0.mk (below_drew1 HB.out)
                      clear HO_713001
                      clear HO_713002
                      clear BK712
                      clear HB
                      have HO_713001 := n0_
                      have HO_713002 := n1_
                      have BK712 := n2_
                      have HB := n3_
                      clear n0_ n1_ n2_ n3_
                      refine start_ (n := 12) (S := fun w' => True) (ds := []) #[false, false, false, false, false, false, false, false, false, false, false, false] (by kernel_rfl) rfl rfl trivial (fun hHeld => ?_); refine with_tabW customhouselaw03_SealBinds.tab12 customhouselaw03_SealBinds.bits12 (fun HT_ HW_ => ?_)
                      generalize w52.drew = w53 at HO_713001 HO_713002 BK712 HB hHeld ⊢
                      refine pure_ (i := 0) (N := some 67) (v := ?_) (a' := ?_) #[true, false, false, false, false, false, false, false, false, false, false, false] rfl rfl (any_of HT_.out (by kernel_rfl)) (fun _ _ _ h => h) (Or.inl ⟨by rfl, ?_⟩) ?_ ?_
                      rotate_left
                      · intro w'
                        go_simp
                        first | with_reducible rfl | (rw [if_neg (by (try simp only [ByteArray.size_append, ByteArray.size_extract, eq_iff_iff, iff_true, iff_false, decide_eq_true_eq] at *); omega)] <;> with_reducible rfl)
                      rotate_left
                      · simp only [Act.put, List.setIfInBounds_toArray, List.set_cons_zero, List.set_cons_succ, i64_w, i32_w]
                        rfl
                      refine pure_ (i := 1) (N := some 68) (v := ?_) (a' := ?_) #[true, true, false, false, false, false, false, false, false, false, false, false] rfl rfl (any_of HT_.out (by kernel_rfl)) (fun _ _ _ h => h) (Or.inl ⟨by rfl, ?_⟩) ?_ ?_
                      rotate_left
                      · intro w'
                        go_simp
                        first | with_reducible rfl | (rw [if_neg (by (try simp only [ByteArray.size_append, ByteArray.size_extract, eq_iff_iff, iff_true, iff_false, decide_eq_true_eq] at *); omega)] <;> with_reducible rfl)
                      rotate_left
                      · simp only [Act.put, List.setIfInBounds_toArray, List.set_cons_zero, List.set_cons_succ, i64_w, i32_w]
                        rfl
                      refine pure_ (i := 2) (N := some 69) (v := undef) (a' := ?_) #[true, true, true, false, false, false, false, false, false, false, false, false] rfl rfl (any_of HT_.out (by kernel_rfl)) (fun _ _ _ h => h) (Or.inr ⟨by rfl, rfl⟩) ?_ ?_
                      rotate_left
                      · simp only [Act.put, List.setIfInBounds_toArray, List.set_cons_zero, List.set_cons_succ, i64_w, i32_w]
                        rfl
                      refine pure_ (i := 3) (N := some 70) (v := undef) (a' := ?_) #[true, true, true, true, false, false, false, false, false, false, false, false] rfl rfl (any_of HT_.out (by kernel_rfl)) (fun _ _ _ h => h) (Or.inr ⟨by rfl, rfl⟩) ?_ ?_
                      rotate_left
                      · simp only [Act.put, List.setIfInBounds_toArray, List.set_cons_zero, List.set_cons_succ, i64_w, i32_w]
                        rfl
                      refine pure_ (i := 4) (N := some 71) (v := undef) (a' := ?_) #[true, true, true, true, true, false, false, false, false, false, false, false] rfl rfl (any_of HT_.out (by kernel_rfl)) (fun _ _ _ h => h) (Or.inr ⟨by rfl, rfl⟩) ?_ ?_
                      rotate_left
                      · simp only [Act.put, List.setIfInBounds_toArray, List.set_cons_zero, List.set_cons_succ, i64_w, i32_w]
                        rfl
                      refine pure_ (i := 5) (N := some 72) (v := undef) (a' := ?_) #[true, true, true, true, true, true, false, false, false, false, false, false] rfl rfl (any_of HT_.out (by kernel_rfl)) (fun _ _ _ h => h) (Or.inr ⟨by rfl, rfl⟩) ?_ ?_
                      rotate_left
                      · simp only [Act.put, List.setIfInBounds_toArray, List.set_cons_zero, List.set_cons_succ, i64_w, i32_w]
                        rfl
                      refine pure_ (i := 6) (N := some 73) (v := undef) (a' := ?_) #[true, true, true, true, true, true, true, false, false, false, false, false] rfl rfl (any_of HT_.out (by kernel_rfl)) (fun _ _ _ h => h) (Or.inr ⟨by rfl, rfl⟩) ?_ ?_
                      rotate_left
                      · simp only [Act.put, List.setIfInBounds_toArray, List.set_cons_zero, List.set_cons_succ, i64_w, i32_w]
                        rfl
                      refine pure_ (i := 7) (N := some 74) (v := undef) (a' := ?_) #[true, true, true, true, true, true, true, true, false, false, false, false] rfl rfl (any_of HT_.out (by kernel_rfl)) (fun _ _ _ h => h) (Or.inr ⟨by rfl, rfl⟩) ?_ ?_
                      rotate_left
                      · simp only [Act.put, List.setIfInBounds_toArray, List.set_cons_zero, List.set_cons_succ, i64_w, i32_w]
                        rfl
                      refine pure_ (i := 8) (N := some 75) (v := undef) (a' := ?_) #[true, true, true, true, true, true, true, true, true, false, false, false] rfl rfl (any_of HT_.out (by kernel_rfl)) (fun _ _ _ h => h) (Or.inr ⟨by rfl, rfl⟩) ?_ ?_
                      rotate_left
                      · simp only [Act.put, List.setIfInBounds_toArray, List.set_cons_zero, List.set_cons_succ, i64_w, i32_w]
                        rfl
                      refine pure_ (i := 9) (N := some 76) (v := undef) (a' := ?_) #[true, true, true, true, true, true, true, true, true, true, false, false] rfl rfl (any_of HT_.out (by kernel_rfl)) (fun _ _ _ h => h) (Or.inr ⟨by rfl, rfl⟩) ?_ ?_
                      rotate_left
                      · simp only [Act.put, List.setIfInBounds_toArray, List.set_cons_zero, List.set_cons_succ, i64_w, i32_w]
                        rfl
                      refine pure_ (i := 10) (N := some 77) (v := ?_) (a' := ?_) #[true, true, true, true, true, true, true, true, true, true, true, false] rfl rfl (any_of HT_.out (by kernel_rfl)) (fun _ _ _ h => h) (Or.inl ⟨by rfl, ?_⟩) ?_ ?_
                      rotate_left
                      · intro w'
                        go_simp
                        first | with_reducible rfl | (rw [if_neg (by (try simp only [ByteArray.size_append, ByteArray.size_extract, eq_iff_iff, iff_true, iff_false, decide_eq_true_eq] at *); omega)] <;> with_reducible rfl)
                      rotate_left
                      · simp only [Act.put, List.setIfInBounds_toArray, List.set_cons_zero, List.set_cons_succ, i64_w, i32_w]
                        rfl
                      refine pure_ (i := 11) (N := some 10) (v := ?_) (a' := ?_) #[true, true, true, true, true, true, true, true, true, true, true, true] rfl rfl (any_of HT_.out (by kernel_rfl)) (fun _ _ _ h => h) (Or.inl ⟨by rfl, ?_⟩) ?_ ?_
                      rotate_left
                      · intro w'
                        go_simp
                        first | with_reducible rfl | (rw [if_neg (by (try simp only [ByteArray.size_append, ByteArray.size_extract, eq_iff_iff, iff_true, iff_false, decide_eq_true_eq] at *); omega)] <;> with_reducible rfl)
                      rotate_left
                      · simp only [Act.put, List.setIfInBounds_toArray, List.set_cons_zero, List.set_cons_succ, i64_w, i32_w]
                        rfl
                      refine done_ (done_of HT_.out (by kernel_rfl)) ?_
                      try go_wp2
                      go_ret
                      exact ⟨by first | rfl | (simp [errW_none, errW_some] <;> rfl) | (simp only [← hji7, ← hji9]; first | rfl | (simp [errW_none, errW_some] <;> rfl)) | (simp [*, errW_none, errW_some] <;> rfl), by repeat (first | (with_reducible first | exact HB.out | apply below_alloc | apply pw_below_drewN | apply below_drew1 | refine below_set ?_ GE712.out) | exact HB.out)⟩
                  · replace c36 := Bool.eq_false_iff.mpr c36
                    subst c36
                    have H1 : (some t695) = some r := by rw [if_neg (show ¬ (false = true) by decide)] at H; exact H
                    clear H
                    have H := H1
                    clear H1
                    obtain rfl := Option.some.inj H
                    have hcz54_0 : wc.cell? ⟨gb712, 0, none⟩ = some (.int .i64 t704) := (blk_cell BK712.out 0).trans rfl
                    have hcz54_1 : wc.cell? ⟨gb712, 1, none⟩ = some (.slice Ao31 t705.length co31) := (blk_cell BK712.out 1).trans rfl
                    have hcz54_2 : wc.cell? ⟨gb712, 2, none⟩ = some (.slice Ao32 t708.length co32) := (blk_cell BK712.out 2).trans rfl
                    have hfz54_0 := blk_frozen BK712.out 0
                    have hfz54_1 := blk_frozen BK712.out 1
                    have hfz54_2 := blk_frozen BK712.out 2
                    go_wp2_with (first | ((with_reducible refine gate_callee (f := 44) rfl ?_); refine goesL_ (some 64) rfl rfl Tryz.func44 (by kernel_rfl) rfl #[.string t702, .string a4, .agg #[.int .i64 t704, .slice Ao31 t705.length co31, .slice Ao32 t708.length co32]] rfl (by (try simp only [List.map_toArray, List.map_cons, List.map_nil]); first | done | rfl | (simp only [List.length_drop, List.length_take]; rfl)) ?_; (with_reducible refine (seal_Verify.calls t702 a4 t704 _ _ t705 _ _ t708 false _ ?side5 ?side1 ?side2 ?side3 ?side4 A35.out).mono ?_); (case side1 => repeat (first | exact (Kd.R_reads' HO_713001.out).2.2 | (with_reducible refine Kd.C_alloc ?_ _) | (with_reducible refine Kd.C_drewN ?_ _) | (with_reducible refine Kd.C_drew ?_))); (case side2 => exact (Kd.R_reads' HO_713001.out).2.1); (case side3 => repeat (first | exact (Kd.R_reads' HO_713002.out).2.2 | (with_reducible refine Kd.C_alloc ?_ _) | (with_reducible refine Kd.C_drewN ?_ _) | (with_reducible refine Kd.C_drew ?_))); (case side4 => exact (Kd.R_reads' HO_713002.out).2.1); (case side5 => exact GL.below HG.out (by repeat (first | (with_reducible first | exact HB.out | apply below_alloc | apply pw_below_drewN | apply below_drew1 | refine below_set ?_ GE712.out) | exact HB.out))); rintro e w55 ⟨rfl, hb⟩; refine ⟨_, rfl, ?_⟩; have n0_ := Aside0.mk (Kd.R_below (by (with_reducible repeat (first | apply Kd.R_alloc | apply Kd.R_drewN | apply Kd.R_drew)); exact HO_713001.out) hb); have n1_ := Aside0.mk (Kd.R_below (by (with_reducible repeat (first | apply Kd.R_alloc | apply Kd.R_drewN | apply Kd.R_drew)); exact HO_713002.out) hb); have n2_ := Aside0.mk (blk_below (g := gb712) (o := .cells #[.int .i64 t704, .slice Ao31 t705.length co31, .slice Ao32 t708.length co32] 33 (0, 0)) (by (with_reducible repeat (first | refine blk_drewN ?_ _ | refine blk_drew ?_ | refine blk_alloc ?_ _)); exact BK712.out) hb); have n3_ := Aside0.mk (below_step (by repeat (first | (with_reducible first | exact HB.out | apply below_alloc | apply pw_below_drewN | apply below_drew1 | refine below_set ?_ GE712.out) | exact HB.out)) hb); clear HO_713001; clear HO_713002; clear BK712; clear HB; have HO_713001 := n0_; have HO_713002 := n1_; have BK712 := n2_; have HB := n3_; clear n0_ n1_ n2_ n3_; (try clear hb); (try clear hb2); (try clear hk); (try clear hi)))
                    go_ret
                    exact ⟨by first | rfl | (simp [errW_none, errW_some] <;> rfl) | (simp only [← hji7, ← hji9]; first | rfl | (simp [errW_none, errW_some] <;> rfl)) | (simp [*, errW_none, errW_some] <;> rfl), by repeat (first | (with_reducible first | exact HB.out | apply below_alloc | apply pw_below_drewN | apply below_drew1 | refine below_set ?_ GE712.out) | exact HB.out)⟩
  · rw [if_neg c8] at H
    exact absurd H (by simp)

end Go.Proofs.YtdlipbfcadmhjaaGreatDoor.PG3
