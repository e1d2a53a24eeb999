/- Written by a program of this session's over the kit's print: the functions that a law comes to as plain Lean functions, and that Go's code computes them. Nothing is assumed. -/
import Derived.Test.YtdlipbfcadmhjaaDoorPG3x0
import Derived.Test.YtdlipbfcadmhjaaDoorPG3x1
import Derived.Test.YtdlipbfcadmhjaaDoorPG3x4
import Derived.Test.YtdlipbfcadmhjaaDoorPG3x8
import Derived.Test.YtdlipbfcadmhjaaDoorPG3x10
import Derived.Test.YtdlipbfcadmhjaaDoorS4
import Derived.Test.YtdlipbfcadmhjaaDoorS6
namespace Go.Proofs.YtdlipbfcadmhjaaDoor.PG3
open Go.RowKit Go.Proofs.YtdlipbfcadmhjaaDoorW.PrintWords Go.Proofs.YtdlipbfcadmhjaaDoorW.PrintLast Go.Proofs.YtdlipbfcadmhjaaDoorW.PrintMore
attribute [local go_sem] max2_int min2_int max_two min_two max_three min_three max_four min_four   -- for this text's walks alone
set_option linter.unusedVariables false
set_option linter.unusedSimpArgs false

/-! ### customhouselaw03_SealSecrets: function 16 -/
mutual
def customhouselaw03_SealSecrets.j0 : Nat → ByteArray → ByteArray → ByteArray → Bool → Int → Int → Bool → Option (Bool)
  | 0, _, _, _, _, _, _, _ => none
  | k + 1, x0, x1, x4, x11, x12, x13, x37 => if x37 = true then (some x11) else ((seal_Public.f k x1 x12).bind fun bt268 => ((seal_Sign.f x0 x12 x13 x4).bind fun bt270 => (if bt268.2 = 0 then (customhouselaw03_SealSecrets.j1 k x0 x1 x4 x11 x12 bt268.1 (bt270.2.2.2 != 0) bt270.1 bt270.2.1 bt270.2.2.1) else (customhouselaw03_SealSecrets.j1 k x0 x1 x4 x11 x12 bt268.1 true bt270.1 bt270.2.1 bt270.2.2.1))))
def customhouselaw03_SealSecrets.j1 : Nat → ByteArray → ByteArray → ByteArray → Bool → Int → ByteArray → Bool → Int → List ByteArray → List ByteArray → Option (Bool)
  | 0, _, _, _, _, _, _, _, _, _, _ => none
  | k + 1, x0, x1, x4, x11, x12, x14, x58, x279000, x279001, x279002 => if x58 = true then (some false) else ((seal_Verify.f x14 x4 x279000 x279001 x279002).bind fun t279 => (if t279 = true then (if x11 = true then ((customhouseref03_Made.f k x0 x12 15).bind fun t280 => ((customhouseref03_Made.f k x1 x12 15).bind fun t283 => (if t280.length + t283.length < 8796093022208 then ((customhouseref02_Shown.f k (t280 ++ t283)).bind fun t289 => (some t289)) else (none)))) else (some false)) else (some x11)))
end
def customhouselaw03_SealSecrets.f (k : Nat) (a0 : ByteArray) (a1 : ByteArray) (a2 : Int) (a3 : Int) (a4 : ByteArray) : Option (Bool) := (customhouselaw03_head.f).bind fun t263 => (if 0 ≤ (Int.tmod (wrap64 (a2)) 3) then (if (shl .i64 1 (Int.tmod (wrap64 (a2)) 3)) = 0 then (none) else ((customhouselaw03_short.f k (([a0, a1, a4] : List ByteArray))).bind fun t267 => (if t267 = true then (customhouselaw03_SealSecrets.j0 k a0 a1 a4 t263 (Int.tmod (wrap64 (a2)) 3) (Int.tmod (wrap64 (a3)) (shl .i64 1 (Int.tmod (wrap64 (a2)) 3))) (a0.toList == a1.toList)) else (customhouselaw03_SealSecrets.j0 k a0 a1 a4 t263 (Int.tmod (wrap64 (a2)) 3) (Int.tmod (wrap64 (a3)) (shl .i64 1 (Int.tmod (wrap64 (a2)) 3))) true)))) else (none))
theorem customhouselaw03_SealSecrets.mono_l : ∀ k, (∀ y0 y1 y2 y3 y4 y5 y6, LeO (customhouselaw03_SealSecrets.j0 k y0 y1 y2 y3 y4 y5 y6) (customhouselaw03_SealSecrets.j0 (k + 1) y0 y1 y2 y3 y4 y5 y6)) ∧ (∀ y0 y1 y2 y3 y4 y5 y6 y7 y8 y9, LeO (customhouselaw03_SealSecrets.j1 k y0 y1 y2 y3 y4 y5 y6 y7 y8 y9) (customhouselaw03_SealSecrets.j1 (k + 1) y0 y1 y2 y3 y4 y5 y6 y7 y8 y9))
  | 0 => ⟨fun _ _ _ _ _ _ _ r h => by simp [customhouselaw03_SealSecrets.j0] at h, fun _ _ _ _ _ _ _ _ _ _ r h => by simp [customhouselaw03_SealSecrets.j1] at h⟩
  | k + 1 => by
    obtain ⟨ih0, ih1⟩ := customhouselaw03_SealSecrets.mono_l k
    refine ⟨?_, ?_⟩
    · intro y0 y1 y2 y3 y4 y5 y6
      unfold customhouselaw03_SealSecrets.j0
      repeat' first
      | (with_reducible exact ih0 _ _ _ _ _ _ _)
      | (with_reducible exact ih1 _ _ _ _ _ _ _ _ _ _)
      | (with_reducible exact customhouselaw03_short.mono _ _)
      | (with_reducible exact customhouseref02_Shown.mono _ _)
      | (with_reducible exact customhouseref03_Made.mono _ _ _ _)
      | (with_reducible exact seal_Public.mono _ _ _)
      | (with_reducible exact LeO.refl _)
      | (with_reducible exact LeO.none _)
      | (with_reducible refine LeO.ite ?_ ?_)
      | (with_reducible refine LeO.bind ?_ (fun _ => ?_))
      | exact ih0 _ _ _ _ _ _ _
      | exact ih1 _ _ _ _ _ _ _ _ _ _
      | exact customhouselaw03_short.mono _ _
      | exact customhouseref02_Shown.mono _ _
      | exact customhouseref03_Made.mono _ _ _ _
      | exact seal_Public.mono _ _ _
      | exact LeO.none _
      | refine LeO.ite ?_ ?_
      | refine LeO.bind ?_ (fun _ => ?_)
    · intro y0 y1 y2 y3 y4 y5 y6 y7 y8 y9
      unfold customhouselaw03_SealSecrets.j1
      repeat' first
      | (with_reducible exact ih0 _ _ _ _ _ _ _)
      | (with_reducible exact ih1 _ _ _ _ _ _ _ _ _ _)
      | (with_reducible exact customhouselaw03_short.mono _ _)
      | (with_reducible exact customhouseref02_Shown.mono _ _)
      | (with_reducible exact customhouseref03_Made.mono _ _ _ _)
      | (with_reducible exact seal_Public.mono _ _ _)
      | (with_reducible exact LeO.refl _)
      | (with_reducible exact LeO.none _)
      | (with_reducible refine LeO.ite ?_ ?_)
      | (with_reducible refine LeO.bind ?_ (fun _ => ?_))
      | exact ih0 _ _ _ _ _ _ _
      | exact ih1 _ _ _ _ _ _ _ _ _ _
      | exact customhouselaw03_short.mono _ _
      | exact customhouseref02_Shown.mono _ _
      | exact customhouseref03_Made.mono _ _ _ _
      | exact seal_Public.mono _ _ _
      | exact LeO.none _
      | refine LeO.ite ?_ ?_
      | refine LeO.bind ?_ (fun _ => ?_)
theorem customhouselaw03_SealSecrets.mono : ∀ a0 a1 a2 a3 a4 k, LeO (customhouselaw03_SealSecrets.f k a0 a1 a2 a3 a4) (customhouselaw03_SealSecrets.f (k + 1) a0 a1 a2 a3 a4) := by
  intro a0 a1 a2 a3 a4 k
  obtain ⟨ih0, ih1⟩ := customhouselaw03_SealSecrets.mono_l k
  unfold customhouselaw03_SealSecrets.f
  repeat' first
      | (with_reducible exact ih0 _ _ _ _ _ _ _)
      | (with_reducible exact ih1 _ _ _ _ _ _ _ _ _ _)
      | (with_reducible exact customhouselaw03_short.mono _ _)
      | (with_reducible exact customhouseref02_Shown.mono _ _)
      | (with_reducible exact customhouseref03_Made.mono _ _ _ _)
      | (with_reducible exact seal_Public.mono _ _ _)
      | (with_reducible exact LeO.refl _)
      | (with_reducible exact LeO.none _)
      | (with_reducible refine LeO.ite ?_ ?_)
      | (with_reducible refine LeO.bind ?_ (fun _ => ?_))
      | exact ih0 _ _ _ _ _ _ _
      | exact ih1 _ _ _ _ _ _ _ _ _ _
      | exact customhouselaw03_short.mono _ _
      | exact customhouseref02_Shown.mono _ _
      | exact customhouseref03_Made.mono _ _ _ _
      | exact seal_Public.mono _ _ _
      | exact LeO.none _
      | refine LeO.ite ?_ ?_
      | refine LeO.bind ?_ (fun _ => ?_)
set_option maxHeartbeats 8000000 in
set_option maxRecDepth 100000 in
theorem customhouselaw03_SealSecrets.calls (k : Nat) (a0 : ByteArray) (a1 : ByteArray) (a2 : Int) (a3 : Int) (a4 : ByteArray) (r : Bool) (w : World) (hG : GL w) (h : customhouselaw03_SealSecrets.f k a0 a1 a2 a3 a4 = some r) :
    Calls Tryd.prog 16 #[.string a0, .string a1, .int .u8 a2, .int .u8 a3, .string a4] w fun e w' => e = .returned (.bool r) ∧ Below w.heap.size w w' := by
  have hu53 := Tryd.underlying53
  have HB := Aside0.mk (Below.refl w.heap.size w)
  have HG := Aside0.mk hG
  clear hG
  have H : ((customhouselaw03_head.f).bind fun t263 => (if 0 ≤ (Int.tmod (wrap64 (a2)) 3) then (if (shl .i64 1 (Int.tmod (wrap64 (a2)) 3)) = 0 then (none) else ((customhouselaw03_short.f k (([a0, a1, a4] : List ByteArray))).bind fun t267 => (if t267 = true then (customhouselaw03_SealSecrets.j0 k a0 a1 a4 t263 (Int.tmod (wrap64 (a2)) 3) (Int.tmod (wrap64 (a3)) (shl .i64 1 (Int.tmod (wrap64 (a2)) 3))) (a0.toList == a1.toList)) else (customhouselaw03_SealSecrets.j0 k a0 a1 a4 t263 (Int.tmod (wrap64 (a2)) 3) (Int.tmod (wrap64 (a3)) (shl .i64 1 (Int.tmod (wrap64 (a2)) 3))) true)))) else (none))) = some r := h
  clear h
  replace H := Option.bind_eq_some_iff.mp H
  obtain ⟨t263, A60, H⟩ := H
  replace H : (if 0 ≤ (Int.tmod (wrap64 (a2)) 3) then (if (shl .i64 1 (Int.tmod (wrap64 (a2)) 3)) = 0 then (none) else ((customhouselaw03_short.f k (([a0, a1, a4] : List ByteArray))).bind fun t267 => (if t267 = true then (customhouselaw03_SealSecrets.j0 k a0 a1 a4 t263 (Int.tmod (wrap64 (a2)) 3) (Int.tmod (wrap64 (a3)) (shl .i64 1 (Int.tmod (wrap64 (a2)) 3))) (a0.toList == a1.toList)) else (customhouselaw03_SealSecrets.j0 k a0 a1 a4 t263 (Int.tmod (wrap64 (a2)) 3) (Int.tmod (wrap64 (a3)) (shl .i64 1 (Int.tmod (wrap64 (a2)) 3))) true)))) else (none)) = some r := H
  have A6 := Aside0.mk A60
  clear A60
  obtain ⟨ji7, hji7⟩ : ∃ j_ : Int, (Int.tmod (wrap64 (a2)) 3) = j_ := ⟨_, rfl⟩
  replace H : (if 0 ≤ (ji7) then (if (shl .i64 1 (ji7)) = 0 then (none) else ((customhouselaw03_short.f k (([a0, a1, a4] : List ByteArray))).bind fun t267 => (if t267 = true then (customhouselaw03_SealSecrets.j0 k a0 a1 a4 t263 ji7 (Int.tmod (wrap64 (a3)) (shl .i64 1 (ji7))) (a0.toList == a1.toList)) else (customhouselaw03_SealSecrets.j0 k a0 a1 a4 t263 ji7 (Int.tmod (wrap64 (a3)) (shl .i64 1 (ji7))) true)))) else (none)) = some r := by first | (rw [hji7] at H; exact H) | (simp only [hji7] at H ⊢; exact H)
  (try rw [hji7] at A6)
  by_cases c8 : 0 ≤ (ji7)
  · rw [if_pos c8] at H
    have c8b0 := eq_true c8
    have c8b1 : decide (0 ≤ (ji7)) = true := decide_eq_true c8
    clear c8
    obtain ⟨ji9, hji9⟩ : ∃ j_ : Int, (shl .i64 1 (ji7)) = j_ := ⟨_, rfl⟩
    replace H : (if (ji9) = 0 then (none) else ((customhouselaw03_short.f k (([a0, a1, a4] : List ByteArray))).bind fun t267 => (if t267 = true then (customhouselaw03_SealSecrets.j0 k a0 a1 a4 t263 ji7 (Int.tmod (wrap64 (a3)) (ji9)) (a0.toList == a1.toList)) else (customhouselaw03_SealSecrets.j0 k a0 a1 a4 t263 ji7 (Int.tmod (wrap64 (a3)) (ji9)) true)))) = some r := by first | (rw [hji9] at H; exact H) | (simp only [hji9] at H ⊢; exact H)
    (try rw [hji9] at A6)
    have hji9_ : (IntKind.i64.wrap (1 * 2 ^ min (ji7).toNat 64)) = ji9 := hji9
    have hji9z : (ji7) ≤ 64 → (IntKind.i64.wrap (1 * 2 ^ (ji7).toNat)) = ji9 := shl_small hji9
    have hji9u : (IntKind.i64.wrap (2 ^ min (ji7).toNat 64)) = ji9 := by have h_ := hji9_; rw [Int.one_mul] at h_; exact h_
    have hji9v : (ji7) ≤ 64 → (IntKind.i64.wrap (2 ^ (ji7).toNat)) = ji9 := fun hle_ => by have h_ := hji9z hle_; rw [Int.one_mul] at h_; exact h_
    have hji9y : (wrap64 (1 * 2 ^ min (ji7).toNat 64)) = ji9 := (i64_w _).symm.trans hji9_
    have hji9x : (ji7) ≤ 64 → (wrap64 (1 * 2 ^ (ji7).toNat)) = ji9 := fun h_ => (i64_w _).symm.trans (hji9z h_)
    by_cases c10 : (ji9) = 0
    · rw [if_pos c10] at H
      exact absurd H (by simp)
    · rw [if_neg c10] at H
      have c10b0 : ((ji9) == 0) = false := beq_eq_false_iff_ne.mpr c10
      have c10b1 : ((ji9) != 0) = true := bne_iff_ne.mpr c10
      have HC11 := Aside0.mk H
      clear H
      go_enter Tryd.func16, Tryd.ntmps16
      go_upto_region 4 with (first | ((with_reducible refine gate_callee (f := 41) rfl ?_); refine goesL_ (some 18) rfl rfl Tryd.func41 (by kernel_rfl) rfl #[] rfl (by (try simp only [List.map_toArray, List.map_cons, List.map_nil]); first | done | rfl | (simp only [List.length_drop, List.length_take]; rfl)) ?_; (with_reducible refine (customhouselaw03_head.calls  t263 _ ?side1 A6.out).mono ?_); (case side1 => exact GL.below HG.out (by repeat (first | (with_reducible first | exact HB.out | apply below_alloc | apply pw_below_drewN | apply below_drew1) | exact HB.out))); rintro e w12 ⟨rfl, hb⟩; refine ⟨_, rfl, ?_⟩; have n0_ := Aside0.mk (below_step (by repeat (first | (with_reducible first | exact HB.out | apply below_alloc | apply pw_below_drewN | apply below_drew1) | exact HB.out)) hb); clear HB; have HB := n0_; clear n0_; (try clear hb); (try clear hb2); (try clear hk); (try clear hi)))
      (try simp only [Act.put, List.setIfInBounds_toArray, List.set_cons_zero, List.set_cons_succ])
      go_cut [37] (fun v37 wc => ∃ (kq : Nat) (x37_10 : Bool), v37 = .bool x37_10 ∧ Aside0 (customhouselaw03_SealSecrets.j0 kq a0 a1 a4 t263 ji7 (Int.tmod (wrap64 (a3)) (ji9)) x37_10 = some r) ∧ Aside0 (kq ≤ k) ∧ Aside0 (Below w.heap.size w wc))
      case first =>
        have H := HC11.out
        clear HC11
        obtain ⟨y264, hy264⟩ : ∃ y_ : List ByteArray, y_ = (([a0, a1, a4] : List ByteArray)) := ⟨_, rfl⟩
        replace H : ((customhouselaw03_short.f k y264).bind fun t267 => (if t267 = true then (customhouselaw03_SealSecrets.j0 k a0 a1 a4 t263 ji7 (Int.tmod (wrap64 (a3)) (ji9)) (a0.toList == a1.toList)) else (customhouselaw03_SealSecrets.j0 k a0 a1 a4 t263 ji7 (Int.tmod (wrap64 (a3)) (ji9)) true))) = some r := by first | (rw [hy264]; with_reducible exact H) | (have H2_ := (Option.bind_some _ _).symm.trans H; rw [hy264]; with_reducible exact H2_) | (have H2_ := (Option.bind_some _ _).symm.trans H; with_reducible exact H2_) | with_reducible exact H | (rw [hy264]; exact H) | exact H
        have Ny264 := Aside0.mk hy264
        clear hy264
        replace H := Option.bind_eq_some_iff.mp H
        obtain ⟨t267, A130, H⟩ := H
        replace H : (if t267 = true then (customhouselaw03_SealSecrets.j0 k a0 a1 a4 t263 ji7 (Int.tmod (wrap64 (a3)) (ji9)) (a0.toList == a1.toList)) else (customhouselaw03_SealSecrets.j0 k a0 a1 a4 t263 ji7 (Int.tmod (wrap64 (a3)) (ji9)) true)) = some r := H
        have A13 := Aside0.mk A130
        clear A130
        by_cases c14 : t267 = true
        · subst c14
          have H1 : (customhouselaw03_SealSecrets.j0 k a0 a1 a4 t263 ji7 (Int.tmod (wrap64 (a3)) (ji9)) (a0.toList == a1.toList)) = some r := by rw [if_pos rfl] at H; exact H
          clear H
          have H := H1
          clear H1
          have H' := Aside0.mk H
          clear H
          go_wp2_with (first | ((with_reducible refine gate_dst (N := 30) rfl ?_); (try (refine gate_guard (by rfl) ?_; dsimp only)); refine Kd.R_lit Kd.string _ 9 ?hg (N := 30) ?hd (xs := ([a0, a1, a4] : List ByteArray)) (inner := [.string a0, .string a1, .string a4]) (ok := fun _ => True) (okp := fun _ => True) ?hr ?hp (fun _ hk => hk) trivial (Below.refl _ _) (Nat.le_refl _) (by simp) ?_; (case hd => rfl); (case hg => rfl); (case hr => first | (go_simp; done) | (go_simp; rfl)); (case hp => exact (Reps.one (show Kd.M Kd.string _ _ _ a0 [.string a0] from rfl) (Reps.one (show Kd.M Kd.string _ _ _ a1 [.string a1] from rfl) (Reps.one (show Kd.M Kd.string _ _ _ a4 [.string a4] from rfl) (Reps.none _ _))))); intro v265 w15 ho16 hb hg_ hnew_; clear hg_ hnew_; (first | rw [← Ny264.out] at ho16 | (simp only [Int.reduceToNat] at ho16; rw [← Ny264.out] at ho16)); have n0_ := Aside0.mk (Kd.R_lower ho16 (below_size (by repeat (first | (with_reducible first | exact HB.out | apply below_alloc | apply pw_below_drewN | apply below_drew1) | exact HB.out)))); have n1_ := Aside0.mk (below_step (by repeat (first | (with_reducible first | exact HB.out | apply below_alloc | apply pw_below_drewN | apply below_drew1) | exact HB.out)) hb); clear HB; have HO266 := n0_; have HB := n1_; clear n0_ n1_; clear hb ho16; obtain ⟨Ao17, co17, eo17⟩ := Kd.R_slice HO266.out; subst eo17) | ((with_reducible refine gate_callee (f := 42) rfl ?_); refine goesL_ (some 31) rfl rfl Tryd.func42 (by kernel_rfl) rfl #[.slice Ao17 y264.length co17] rfl (by (try simp only [List.map_toArray, List.map_cons, List.map_nil]); first | done | rfl | (simp only [List.length_drop, List.length_take]; rfl)) ?_; (with_reducible refine (customhouselaw03_short.calls k _ _ y264 true _ ?side1 ?side2 A13.out).mono ?_); (case side1 => repeat (first | exact (Kd.R_reads' HO266.out).2.2 | (with_reducible refine Kd.C_alloc ?_ _) | (with_reducible refine Kd.C_drewN ?_ _) | (with_reducible refine Kd.C_drew ?_))); (case side2 => exact (Kd.R_reads' HO266.out).2.1); rintro e w' ⟨rfl, ⟨nd, rfl⟩⟩; refine ⟨_, rfl, ?_⟩))
          first | ((try rw [← hji9]); (try rw [← hji7]); go_meet) | ((try rw [hji7]); (try rw [hji9]); go_meet) | go_meet
          case rel => exact ⟨_, ((a0.toList == a1.toList)), (by first | rfl | (simp; done) | (simp [*]; done)), (by first | exact H' | (rw [hji7]; exact H') | (rw [hji9]; exact H') | (rw [hji7, hji9]; exact H') | (rw [hji9, hji7]; exact H')), ⟨by first | omega | exact Nat.le_refl _⟩, ⟨by repeat (first | (with_reducible first | exact HB.out | apply below_alloc | apply pw_below_drewN | apply below_drew1) | exact HB.out)⟩⟩
        · replace c14 := Bool.eq_false_iff.mpr c14
          subst c14
          have H1 : (customhouselaw03_SealSecrets.j0 k a0 a1 a4 t263 ji7 (Int.tmod (wrap64 (a3)) (ji9)) true) = some r := by rw [if_neg (show ¬ (false = true) by decide)] at H; exact H
          clear H
          have H := H1
          clear H1
          have H' := Aside0.mk H
          clear H
          go_wp2_with (first | ((with_reducible refine gate_dst (N := 30) rfl ?_); (try (refine gate_guard (by rfl) ?_; dsimp only)); refine Kd.R_lit Kd.string _ 9 ?hg (N := 30) ?hd (xs := ([a0, a1, a4] : List ByteArray)) (inner := [.string a0, .string a1, .string a4]) (ok := fun _ => True) (okp := fun _ => True) ?hr ?hp (fun _ hk => hk) trivial (Below.refl _ _) (Nat.le_refl _) (by simp) ?_; (case hd => rfl); (case hg => rfl); (case hr => first | (go_simp; done) | (go_simp; rfl)); (case hp => exact (Reps.one (show Kd.M Kd.string _ _ _ a0 [.string a0] from rfl) (Reps.one (show Kd.M Kd.string _ _ _ a1 [.string a1] from rfl) (Reps.one (show Kd.M Kd.string _ _ _ a4 [.string a4] from rfl) (Reps.none _ _))))); intro v265 w18 ho19 hb hg_ hnew_; clear hg_ hnew_; (first | rw [← Ny264.out] at ho19 | (simp only [Int.reduceToNat] at ho19; rw [← Ny264.out] at ho19)); have n0_ := Aside0.mk (Kd.R_lower ho19 (below_size (by repeat (first | (with_reducible first | exact HB.out | apply below_alloc | apply pw_below_drewN | apply below_drew1) | exact HB.out)))); have n1_ := Aside0.mk (below_step (by repeat (first | (with_reducible first | exact HB.out | apply below_alloc | apply pw_below_drewN | apply below_drew1) | exact HB.out)) hb); clear HB; have HO266 := n0_; have HB := n1_; clear n0_ n1_; clear hb ho19; obtain ⟨Ao20, co20, eo20⟩ := Kd.R_slice HO266.out; subst eo20) | ((with_reducible refine gate_callee (f := 42) rfl ?_); refine goesL_ (some 31) rfl rfl Tryd.func42 (by kernel_rfl) rfl #[.slice Ao20 y264.length co20] rfl (by (try simp only [List.map_toArray, List.map_cons, List.map_nil]); first | done | rfl | (simp only [List.length_drop, List.length_take]; rfl)) ?_; (with_reducible refine (customhouselaw03_short.calls k _ _ y264 false _ ?side1 ?side2 A13.out).mono ?_); (case side1 => repeat (first | exact (Kd.R_reads' HO266.out).2.2 | (with_reducible refine Kd.C_alloc ?_ _) | (with_reducible refine Kd.C_drewN ?_ _) | (with_reducible refine Kd.C_drew ?_))); (case side2 => exact (Kd.R_reads' HO266.out).2.1); rintro e w' ⟨rfl, ⟨nd, rfl⟩⟩; refine ⟨_, rfl, ?_⟩))
          first | ((try rw [← hji9]); (try rw [← hji7]); go_meet) | ((try rw [hji7]); (try rw [hji9]); go_meet) | go_meet
          case rel => exact ⟨_, (true), (by first | rfl | (simp; done) | (simp [*]; done)), (by first | exact H' | (rw [hji7]; exact H') | (rw [hji9]; exact H') | (rw [hji7, hji9]; exact H') | (rw [hji9, hji7]; exact H')), ⟨by first | omega | exact Nat.le_refl _⟩, ⟨by repeat (first | (with_reducible first | exact HB.out | apply below_alloc | apply pw_below_drewN | apply below_drew1) | exact HB.out)⟩⟩
      case rest =>
        clear HC11
        try clear c1
        try clear p2
        try clear c4
        try clear p6
        try clear c8
        try clear c8b0
        try clear c8b1
        try clear c10
        try clear c10b0
        try clear c10b1
        try clear c14
        try clear c16
        obtain ⟨kq, x37_10, rfl, HA, HJ10, HB⟩ := hcut
        cases kq with
        | zero => exact absurd HA.out (by simp [customhouselaw03_SealSecrets.j0])
        | succ kj10 =>
          have H := HA.out
          clear HA
          simp only [customhouselaw03_SealSecrets.j0] at H
          by_cases c21 : x37_10 = true
          · subst c21
            have H1 : (some t263) = some r := by rw [if_pos rfl] at H; exact H
            clear H
            have H := H1
            clear H1
            obtain rfl := Option.some.inj H
            go_wp2
            go_ret
            exact ⟨by first | rfl | (simp [errW_none, errW_some] <;> rfl) | (simp only [← hji7, ← hji9]; first | rfl | (simp [errW_none, errW_some] <;> rfl)) | (simp [*, errW_none, errW_some] <;> rfl), by repeat (first | (with_reducible first | exact HB.out | apply below_alloc | apply pw_below_drewN | apply below_drew1) | exact HB.out)⟩
          · replace c21 := Bool.eq_false_iff.mpr c21
            subst c21
            have H1 : ((seal_Public.f kj10 a1 ji7).bind fun bt268 => ((seal_Sign.f a0 ji7 (Int.tmod (wrap64 (a3)) (ji9)) a4).bind fun bt270 => (if bt268.2 = 0 then (customhouselaw03_SealSecrets.j1 kj10 a0 a1 a4 t263 ji7 bt268.1 (bt270.2.2.2 != 0) bt270.1 bt270.2.1 bt270.2.2.1) else (customhouselaw03_SealSecrets.j1 kj10 a0 a1 a4 t263 ji7 bt268.1 true bt270.1 bt270.2.1 bt270.2.2.1)))) = some r := by rw [if_neg (show ¬ (false = true) by decide)] at H; exact H
            clear H
            have H := H1
            clear H1
            replace H := Option.bind_eq_some_iff.mp H
            obtain ⟨⟨t268, t269⟩, A220, H⟩ := H
            replace H : ((seal_Sign.f a0 ji7 (Int.tmod (wrap64 (a3)) (ji9)) a4).bind fun bt270 => (if t269 = 0 then (customhouselaw03_SealSecrets.j1 kj10 a0 a1 a4 t263 ji7 t268 (bt270.2.2.2 != 0) bt270.1 bt270.2.1 bt270.2.2.1) else (customhouselaw03_SealSecrets.j1 kj10 a0 a1 a4 t263 ji7 t268 true bt270.1 bt270.2.1 bt270.2.2.1))) = some r := H
            have A22 := Aside0.mk A220
            clear A220
            replace H := Option.bind_eq_some_iff.mp H
            obtain ⟨⟨t270, t271, t274, t277⟩, A230, H⟩ := H
            replace H : (if t269 = 0 then (customhouselaw03_SealSecrets.j1 kj10 a0 a1 a4 t263 ji7 t268 (t277 != 0) t270 t271 t274) else (customhouselaw03_SealSecrets.j1 kj10 a0 a1 a4 t263 ji7 t268 true t270 t271 t274)) = some r := H
            have A23 := Aside0.mk A230
            clear A230
            have HC24 := Aside0.mk H
            clear H
            go_upto_region 8 with (first | ((with_reducible refine gate_callee (f := 43) rfl ?_); refine goesL_ (some 42) rfl rfl Tryd.func43 (by kernel_rfl) rfl #[.string a1, .int .i64 ji7] rfl (by (try simp only [List.map_toArray, List.map_cons, List.map_nil]); first | done | (simp only [hji7]; rfl) | rfl | (simp only [List.length_drop, List.length_take]; rfl)) ?_; (with_reducible refine (seal_Public.calls kj10 a1 ji7 t268 t269 _ ?side1 A22.out).mono ?_); (case side1 => exact GL.below HG.out (by repeat (first | (with_reducible first | exact HB.out | apply below_alloc | apply pw_below_drewN | apply below_drew1) | exact HB.out))); rintro e w25 ⟨rfl, hb⟩; refine ⟨_, rfl, ?_⟩; have n0_ := Aside0.mk (below_step (by repeat (first | (with_reducible first | exact HB.out | apply below_alloc | apply pw_below_drewN | apply below_drew1) | exact HB.out)) hb); clear HB; have HB := n0_; clear n0_; (try clear hb); (try clear hb2); (try clear hk); (try clear hi)) | ((with_reducible refine gate_callee (f := 44) rfl ?_); refine goesL_ (some 50) rfl rfl Tryd.func44 (by kernel_rfl) rfl #[.string a0, .int .i64 ji7, .int .i64 (Int.tmod (wrap64 (a3)) (ji9)), .string a4] rfl (by (try simp only [List.map_toArray, List.map_cons, List.map_nil]); first | done | (simp only [hji7, hji9]; rfl) | rfl | (simp only [List.length_drop, List.length_take]; rfl)) ?_; (with_reducible refine (seal_Sign.calls a0 ji7 (Int.tmod (wrap64 (a3)) (ji9)) a4 t270 t271 t274 t277 _ ?side1 A23.out).mono ?_); (case side1 => exact GL.below HG.out (by repeat (first | (with_reducible first | exact HB.out | apply below_alloc | apply pw_below_drewN | apply below_drew1) | exact HB.out))); rintro e w26 ⟨v272, v275, rfl, ho0, ho1, hb⟩; refine ⟨_, rfl, ?_⟩; have n0_ := Aside0.mk (Kd.R_lower ho0 (below_size (by repeat (first | (with_reducible first | exact HB.out | apply below_alloc | apply pw_below_drewN | apply below_drew1) | exact HB.out)))); have n1_ := Aside0.mk (Kd.R_lower ho1 (below_size (by repeat (first | (with_reducible first | exact HB.out | apply below_alloc | apply pw_below_drewN | apply below_drew1) | exact HB.out)))); have n2_ := Aside0.mk (below_step (by repeat (first | (with_reducible first | exact HB.out | apply below_alloc | apply pw_below_drewN | apply below_drew1) | exact HB.out)) hb); clear HB; have HO273 := n0_; have HO276 := n1_; have HB := n2_; clear n0_ n1_ n2_; (try clear hb); (try clear hb2); (try clear hk); (try clear hi); (try clear ho0); (try clear ho1)) | ((with_reducible refine gate_dst (N := 16) rfl ?_); (try (refine gate_guard (by rfl) ?_; dsimp only)); refine box_event ?hg (N := 16) ?hd (cs := #[.int .i64 0, .slice none 0 0, .slice none 0 0]) (t := 53) ?hr ?_; (case hd => rfl); (case hg => rfl); (case hr => first | (go_simp; done) | (go_simp; rfl)); intro gb278 hg w27 hbox hb; have n0_ := Aside0.mk (Kd.R_below (by (with_reducible repeat (first | apply Kd.R_alloc | apply Kd.R_drewN | apply Kd.R_drew)); exact HO273.out) hb); have n1_ := Aside0.mk (Kd.R_below (by (with_reducible repeat (first | apply Kd.R_alloc | apply Kd.R_drewN | apply Kd.R_drew)); exact HO276.out) hb); have n2_ := Aside0.mk (below_step (by repeat (first | (with_reducible first | exact HB.out | apply below_alloc | apply pw_below_drewN | apply below_drew1) | exact HB.out)) hb); have n3_ := Aside0.mk (hbox); have n4_ := Aside0.mk ((by rw [hg]; exact (below_size (by repeat (first | (with_reducible first | exact HB.out | apply below_alloc | apply pw_below_drewN | apply below_drew1) | exact HB.out))) : w.heap.size ≤ gb278)); have n5_ := Aside0.mk ((by rw [hg]; exact (below_size (by repeat (first | (with_reducible first | exact HB.out | apply below_alloc | apply pw_below_drewN | apply below_drew1) | exact HB.out))) : w.heap.size ≤ gb278)); clear HO273; clear HO276; clear HB; have HO273 := n0_; have HO276 := n1_; have HB := n2_; have BK278 := n3_; have GW278 := n4_; have GE278 := n5_; clear n0_ n1_ n2_ n3_ n4_ n5_; clear hb hbox hg; have hcz28_0 : w27.cell? ⟨gb278, 0, none⟩ = some (.int .i64 0) := (blk_cell BK278.out 0).trans rfl; have hcz28_1 : w27.cell? ⟨gb278, 1, none⟩ = some (.slice none 0 0) := (blk_cell BK278.out 1).trans rfl; have hcz28_2 : w27.cell? ⟨gb278, 2, none⟩ = some (.slice none 0 0) := (blk_cell BK278.out 2).trans rfl; have hfz28_0 := blk_frozen BK278.out 0; have hfz28_1 := blk_frozen BK278.out 1; have hfz28_2 := blk_frozen BK278.out 2; obtain ⟨Ao29, co29, eo29⟩ := Kd.R_slice HO273.out; subst eo29; obtain ⟨Ao30, co30, eo30⟩ := Kd.R_slice HO276.out; subst eo30))
            (try simp only [Act.put, List.setIfInBounds_toArray, List.set_cons_zero, List.set_cons_succ])
            go_cut [58] (fun v58 wc => ∃ (kq : Nat) (x58_23 : Bool), v58 = .bool x58_23 ∧ Aside0 (customhouselaw03_SealSecrets.j1 kq a0 a1 a4 t263 ji7 t268 x58_23 t270 t271 t274 = some r) ∧ Aside0 (kq ≤ kj10) ∧ Aside0 (Kd.R Kd.string 9 wc w.heap.size (fun k_ => some k_ ≠ ((.slice Ao30 t274.length co30) : Value).ownBlock) (.slice Ao29 t271.length co29) t271) ∧ Aside0 (Kd.R Kd.string 9 wc w.heap.size (fun k_ => some k_ ≠ ((.slice Ao29 t271.length co29) : Value).ownBlock) (.slice Ao30 t274.length co30) t274) ∧ Aside0 (wc.heap[gb278]? = some (.cells #[.int .i64 t270, (.slice Ao29 t271.length co29), (.slice Ao30 t274.length co30)] 53 (0, 0))) ∧ Aside0 (Below w.heap.size w wc))
            case first =>
              have H := HC24.out
              clear HC24
              by_cases c31 : t269 = 0
              · rw [if_pos c31] at H
                have c31b0 : (t269 == 0) = true := beq_iff_eq.mpr c31
                have c31b1 : (t269 != 0) = false := bne_eq_false_iff_eq.mpr c31
                clear c31
                (first | rw [c31b0] | (simp only [i64_w, i32_w]; rw [c31b0]) | skip)
                have H' := Aside0.mk H
                clear H
                go_wp2
                first | ((try rw [← hji9]); (try rw [← hji7]); go_meet) | ((try rw [hji7]); (try rw [hji9]); go_meet) | go_meet
                case rel => exact ⟨_, ((t277 != 0)), (by first | rfl | (simp; done) | (simp [*]; done)), (by first | exact H' | (rw [hji7]; exact H') | (rw [hji9]; exact H') | (rw [hji7, hji9]; exact H') | (rw [hji9, hji7]; exact H')), ⟨by have := HJ10.out; first | omega | exact Nat.le_refl _⟩, ⟨by (with_reducible repeat (first | apply Kd.R_alloc | apply Kd.R_drewN | apply Kd.R_drew)); exact Kd.R_mono (Kd.R_far (p := ⟨gb278, 2, none⟩) (Kd.R_far (p := ⟨gb278, 1, none⟩) (Kd.R_far (p := ⟨gb278, 0, none⟩) (Kd.R_types HO273.out BK278.out (by decide)) (fun _ hk => hk.2) (.int .i64 t270)) (fun _ hk => hk.2) (.slice Ao29 t271.length co29)) (fun _ hk => hk.2) (.slice Ao30 t274.length co30)) (fun _ hk => hk.1)⟩, ⟨by (with_reducible repeat (first | apply Kd.R_alloc | apply Kd.R_drewN | apply Kd.R_drew)); exact Kd.R_mono (Kd.R_far (p := ⟨gb278, 2, none⟩) (Kd.R_far (p := ⟨gb278, 1, none⟩) (Kd.R_far (p := ⟨gb278, 0, none⟩) (Kd.R_types HO276.out BK278.out (by decide)) (fun _ hk => hk.2) (.int .i64 t270)) (fun _ hk => hk.2) (.slice Ao29 t271.length co29)) (fun _ hk => hk.2) (.slice Ao30 t274.length co30)) (fun _ hk => hk.1)⟩, ⟨by (with_reducible repeat (first | refine blk_drewN ?_ _ | refine blk_drew ?_ | refine blk_alloc ?_ _)); refine blk_put (cs := #[.int .i64 t270, .slice Ao29 t271.length co29, .slice none 0 0]) ?_ 2 _ rfl; (with_reducible repeat (first | refine blk_drewN ?_ _ | refine blk_drew ?_ | refine blk_alloc ?_ _)); refine blk_put (cs := #[.int .i64 t270, .slice none 0 0, .slice none 0 0]) ?_ 1 _ rfl; (with_reducible repeat (first | refine blk_drewN ?_ _ | refine blk_drew ?_ | refine blk_alloc ?_ _)); refine blk_put (cs := #[.int .i64 0, .slice none 0 0, .slice none 0 0]) ?_ 0 _ rfl; (with_reducible repeat (first | refine blk_drewN ?_ _ | refine blk_drew ?_ | refine blk_alloc ?_ _)); exact BK278.out⟩, ⟨by repeat (first | (with_reducible first | exact HB.out | apply below_alloc | apply pw_below_drewN | apply below_drew1 | refine below_set ?_ GE278.out) | exact HB.out)⟩⟩
              · rw [if_neg c31] at H
                have c31b0 : (t269 == 0) = false := beq_eq_false_iff_ne.mpr c31
                have c31b1 : (t269 != 0) = true := bne_iff_ne.mpr c31
                (first | rw [c31b0] | (simp only [i64_w, i32_w]; rw [c31b0]) | skip)
                have H' := Aside0.mk H
                clear H
                go_wp2
                first | ((try rw [← hji9]); (try rw [← hji7]); go_meet) | ((try rw [hji7]); (try rw [hji9]); go_meet) | go_meet
                case rel => exact ⟨_, (true), (by first | rfl | (simp; done) | (simp [*]; done)), (by first | exact H' | (rw [hji7]; exact H') | (rw [hji9]; exact H') | (rw [hji7, hji9]; exact H') | (rw [hji9, hji7]; exact H')), ⟨by have := HJ10.out; first | omega | exact Nat.le_refl _⟩, ⟨by (with_reducible repeat (first | apply Kd.R_alloc | apply Kd.R_drewN | apply Kd.R_drew)); exact Kd.R_mono (Kd.R_far (p := ⟨gb278, 2, none⟩) (Kd.R_far (p := ⟨gb278, 1, none⟩) (Kd.R_far (p := ⟨gb278, 0, none⟩) (Kd.R_types HO273.out BK278.out (by decide)) (fun _ hk => hk.2) (.int .i64 t270)) (fun _ hk => hk.2) (.slice Ao29 t271.length co29)) (fun _ hk => hk.2) (.slice Ao30 t274.length co30)) (fun _ hk => hk.1)⟩, ⟨by (with_reducible repeat (first | apply Kd.R_alloc | apply Kd.R_drewN | apply Kd.R_drew)); exact Kd.R_mono (Kd.R_far (p := ⟨gb278, 2, none⟩) (Kd.R_far (p := ⟨gb278, 1, none⟩) (Kd.R_far (p := ⟨gb278, 0, none⟩) (Kd.R_types HO276.out BK278.out (by decide)) (fun _ hk => hk.2) (.int .i64 t270)) (fun _ hk => hk.2) (.slice Ao29 t271.length co29)) (fun _ hk => hk.2) (.slice Ao30 t274.length co30)) (fun _ hk => hk.1)⟩, ⟨by (with_reducible repeat (first | refine blk_drewN ?_ _ | refine blk_drew ?_ | refine blk_alloc ?_ _)); refine blk_put (cs := #[.int .i64 t270, .slice Ao29 t271.length co29, .slice none 0 0]) ?_ 2 _ rfl; (with_reducible repeat (first | refine blk_drewN ?_ _ | refine blk_drew ?_ | refine blk_alloc ?_ _)); refine blk_put (cs := #[.int .i64 t270, .slice none 0 0, .slice none 0 0]) ?_ 1 _ rfl; (with_reducible repeat (first | refine blk_drewN ?_ _ | refine blk_drew ?_ | refine blk_alloc ?_ _)); refine blk_put (cs := #[.int .i64 0, .slice none 0 0, .slice none 0 0]) ?_ 0 _ rfl; (with_reducible repeat (first | refine blk_drewN ?_ _ | refine blk_drew ?_ | refine blk_alloc ?_ _)); exact BK278.out⟩, ⟨by repeat (first | (with_reducible first | exact HB.out | apply below_alloc | apply pw_below_drewN | apply below_drew1 | refine below_set ?_ GE278.out) | exact HB.out)⟩⟩
            case rest =>
              clear HC24
              try clear c1
              try clear c2
              try clear p2
              try clear c3
              try clear c4
              try clear p6
              try clear c8
              try clear c8b0
              try clear c8b1
              try clear c10
              try clear c10b0
              try clear c10b1
              try clear c14
              try clear c16
              try clear c21
              try clear c31
              try clear c31b0
              try clear c31b1
              try clear hcz28_0
              try clear hcz28_1
              try clear hcz28_2
              try clear hfz28_0
              try clear hfz28_1
              try clear hfz28_2
              try clear p2
              try clear p6
              obtain ⟨kq, x58_23, rfl, HA, HJ23, HO_279001, HO_279002, BK278, HB⟩ := hcut
              cases kq with
              | zero => exact absurd HA.out (by simp [customhouselaw03_SealSecrets.j1])
              | succ kj23 =>
                have H := HA.out
                clear HA
                simp only [customhouselaw03_SealSecrets.j1] at H
                by_cases c32 : x58_23 = true
                · subst c32
                  have H1 : (some false) = some r := by rw [if_pos rfl] at H; exact H
                  clear H
                  have H := H1
                  clear H1
                  obtain rfl := Option.some.inj H
                  go_wp2
                  go_ret
                  exact ⟨by first | rfl | (simp [errW_none, errW_some] <;> rfl) | (simp only [← hji7, ← hji9]; first | rfl | (simp [errW_none, errW_some] <;> rfl)) | (simp [*, errW_none, errW_some] <;> rfl), by repeat (first | (with_reducible first | exact HB.out | apply below_alloc | apply pw_below_drewN | apply below_drew1 | refine below_set ?_ GE278.out) | exact HB.out)⟩
                · replace c32 := Bool.eq_false_iff.mpr c32
                  subst c32
                  have H1 : ((seal_Verify.f t268 a4 t270 t271 t274).bind fun t279 => (if t279 = true then (if t263 = true then ((customhouseref03_Made.f kj23 a0 ji7 15).bind fun t280 => ((customhouseref03_Made.f kj23 a1 ji7 15).bind fun t283 => (if t280.length + t283.length < 8796093022208 then ((customhouseref02_Shown.f kj23 (t280 ++ t283)).bind fun t289 => (some t289)) else (none)))) else (some false)) else (some t263))) = some r := by rw [if_neg (show ¬ (false = true) by decide)] at H; exact H
                  clear H
                  have H := H1
                  clear H1
                  replace H := Option.bind_eq_some_iff.mp H
                  obtain ⟨t279, A330, H⟩ := H
                  replace H : (if t279 = true then (if t263 = true then ((customhouseref03_Made.f kj23 a0 ji7 15).bind fun t280 => ((customhouseref03_Made.f kj23 a1 ji7 15).bind fun t283 => (if t280.length + t283.length < 8796093022208 then ((customhouseref02_Shown.f kj23 (t280 ++ t283)).bind fun t289 => (some t289)) else (none)))) else (some false)) else (some t263)) = some r := H
                  have A33 := Aside0.mk A330
                  clear A330
                  by_cases c34 : t279 = true
                  · subst c34
                    have H1 : (if t263 = true then ((customhouseref03_Made.f kj23 a0 ji7 15).bind fun t280 => ((customhouseref03_Made.f kj23 a1 ji7 15).bind fun t283 => (if t280.length + t283.length < 8796093022208 then ((customhouseref02_Shown.f kj23 (t280 ++ t283)).bind fun t289 => (some t289)) else (none)))) else (some false)) = some r := by rw [if_pos rfl] at H; exact H
                    clear H
                    have H := H1
                    clear H1
                    by_cases c35 : t263 = true
                    · subst c35
                      have H1 : ((customhouseref03_Made.f kj23 a0 ji7 15).bind fun t280 => ((customhouseref03_Made.f kj23 a1 ji7 15).bind fun t283 => (if t280.length + t283.length < 8796093022208 then ((customhouseref02_Shown.f kj23 (t280 ++ t283)).bind fun t289 => (some t289)) else (none)))) = some r := by rw [if_pos rfl] at H; exact H
                      clear H
                      have H := H1
                      clear H1
                      replace H := Option.bind_eq_some_iff.mp H
                      obtain ⟨t280, A360, H⟩ := H
                      replace H : ((customhouseref03_Made.f kj23 a1 ji7 15).bind fun t283 => (if t280.length + t283.length < 8796093022208 then ((customhouseref02_Shown.f kj23 (t280 ++ t283)).bind fun t289 => (some t289)) else (none))) = some r := H
                      have A36 := Aside0.mk A360
                      clear A360
                      replace H := Option.bind_eq_some_iff.mp H
                      obtain ⟨t283, A370, H⟩ := H
                      replace H : (if t280.length + t283.length < 8796093022208 then ((customhouseref02_Shown.f kj23 (t280 ++ t283)).bind fun t289 => (some t289)) else (none)) = some r := H
                      have A37 := Aside0.mk A370
                      clear A370
                      by_cases c38 : t280.length + t283.length < 8796093022208
                      · rw [if_pos c38] at H
                        have LMc38 := Aside0.mk c38
                        clear c38
                        obtain ⟨y286, hy286⟩ : ∃ y_ : List ByteArray, y_ = (t280 ++ t283) := ⟨_, rfl⟩
                        replace H : ((customhouseref02_Shown.f kj23 y286).bind fun t289 => (some t289)) = some r := by first | (rw [hy286]; with_reducible exact H) | (have H2_ := (Option.bind_some _ _).symm.trans H; rw [hy286]; with_reducible exact H2_) | (have H2_ := (Option.bind_some _ _).symm.trans H; with_reducible exact H2_) | with_reducible exact H | (rw [hy286]; exact H) | exact H
                        have Ny286 := Aside0.mk hy286
                        clear hy286
                        replace H := Option.bind_eq_some_iff.mp H
                        obtain ⟨t289, A390, H⟩ := H
                        replace H : (some t289) = some r := H
                        have A39 := Aside0.mk A390
                        clear A390
                        obtain rfl := Option.some.inj H
                        have hcz40_0 : wc.cell? ⟨gb278, 0, none⟩ = some (.int .i64 t270) := (blk_cell BK278.out 0).trans rfl
                        have hcz40_1 : wc.cell? ⟨gb278, 1, none⟩ = some (.slice Ao29 t271.length co29) := (blk_cell BK278.out 1).trans rfl
                        have hcz40_2 : wc.cell? ⟨gb278, 2, none⟩ = some (.slice Ao30 t274.length co30) := (blk_cell BK278.out 2).trans rfl
                        have hfz40_0 := blk_frozen BK278.out 0
                        have hfz40_1 := blk_frozen BK278.out 1
                        have hfz40_2 := blk_frozen BK278.out 2
                        go_wp2_with (first | ((with_reducible refine gate_callee (f := 46) rfl ?_); refine goesL_ (some 62) rfl rfl Tryd.func46 (by kernel_rfl) rfl #[.string t268, .string a4, .agg #[.int .i64 t270, .slice Ao29 t271.length co29, .slice Ao30 t274.length co30]] rfl (by (try simp only [List.map_toArray, List.map_cons, List.map_nil]); first | done | rfl | (simp only [List.length_drop, List.length_take]; rfl)) ?_; (with_reducible refine (seal_Verify.calls t268 a4 t270 _ _ t271 _ _ t274 true _ ?side5 ?side1 ?side2 ?side3 ?side4 A33.out).mono ?_); (case side1 => repeat (first | exact (Kd.R_reads' HO_279001.out).2.2 | (with_reducible refine Kd.C_alloc ?_ _) | (with_reducible refine Kd.C_drewN ?_ _) | (with_reducible refine Kd.C_drew ?_))); (case side2 => exact (Kd.R_reads' HO_279001.out).2.1); (case side3 => repeat (first | exact (Kd.R_reads' HO_279002.out).2.2 | (with_reducible refine Kd.C_alloc ?_ _) | (with_reducible refine Kd.C_drewN ?_ _) | (with_reducible refine Kd.C_drew ?_))); (case side4 => exact (Kd.R_reads' HO_279002.out).2.1); (case side5 => exact GL.below HG.out (by repeat (first | (with_reducible first | exact HB.out | apply below_alloc | apply pw_below_drewN | apply below_drew1 | refine below_set ?_ GE278.out) | exact HB.out))); rintro e w41 ⟨rfl, hb⟩; refine ⟨_, rfl, ?_⟩; have n0_ := Aside0.mk (Kd.R_below (by (with_reducible repeat (first | apply Kd.R_alloc | apply Kd.R_drewN | apply Kd.R_drew)); exact HO_279001.out) hb); have n1_ := Aside0.mk (Kd.R_below (by (with_reducible repeat (first | apply Kd.R_alloc | apply Kd.R_drewN | apply Kd.R_drew)); exact HO_279002.out) hb); have n2_ := Aside0.mk (blk_below (g := gb278) (o := .cells #[.int .i64 t270, .slice Ao29 t271.length co29, .slice Ao30 t274.length co30] 53 (0, 0)) (by (with_reducible repeat (first | refine blk_drewN ?_ _ | refine blk_drew ?_ | refine blk_alloc ?_ _)); exact BK278.out) hb); have n3_ := Aside0.mk (below_step (by repeat (first | (with_reducible first | exact HB.out | apply below_alloc | apply pw_below_drewN | apply below_drew1 | refine below_set ?_ GE278.out) | exact HB.out)) hb); clear HO_279001; clear HO_279002; clear BK278; clear HB; have HO_279001 := n0_; have HO_279002 := n1_; have BK278 := n2_; have HB := n3_; clear n0_ n1_ n2_ n3_; (try clear hb); (try clear hb2); (try clear hk); (try clear hi)) | (go_at_call 47; (with_reducible refine (customhouseref03_Made.calls kj23 a0 ji7 15 t280 _ A36.out).mono ?_); rintro e w42 ⟨v281, rfl, ho0, hb⟩; have n0_ := Aside0.mk (Kd.R_elder' (by (with_reducible repeat (first | apply Kd.R_alloc | apply Kd.R_drewN | apply Kd.R_drew)); exact HO_279001.out) (Kd.R_base ho0) hb); have n1_ := Aside0.mk (Kd.R_elder' (by (with_reducible repeat (first | apply Kd.R_alloc | apply Kd.R_drewN | apply Kd.R_drew)); exact HO_279002.out) (Kd.R_base ho0) hb); have n2_ := Aside0.mk (Kd.R_lower (Kd.R_new' (Kd.R_new' ho0 (Kd.R_lt (by (with_reducible repeat (first | apply Kd.R_alloc | apply Kd.R_drewN | apply Kd.R_drew)); exact HO_279001.out))) (Kd.R_lt (by (with_reducible repeat (first | apply Kd.R_alloc | apply Kd.R_drewN | apply Kd.R_drew)); exact HO_279002.out))) (below_size (by repeat (first | (with_reducible first | exact HB.out | apply below_alloc | apply pw_below_drewN | apply below_drew1 | refine below_set ?_ GE278.out) | exact HB.out)))); have n3_ := Aside0.mk (blk_below (g := gb278) (o := .cells #[.int .i64 t270, .slice Ao29 t271.length co29, .slice Ao30 t274.length co30] 53 (0, 0)) (by (with_reducible repeat (first | refine blk_drewN ?_ _ | refine blk_drew ?_ | refine blk_alloc ?_ _)); exact BK278.out) hb); have n4_ := Aside0.mk (below_step (by repeat (first | (with_reducible first | exact HB.out | apply below_alloc | apply pw_below_drewN | apply below_drew1 | refine below_set ?_ GE278.out) | exact HB.out)) hb); clear HO_279001; clear HO_279002; clear BK278; clear HB; have HO_279001 := n0_; have HO_279002 := n1_; have HO282 := n2_; have BK278 := n3_; have HB := n4_; clear n0_ n1_ n2_ n3_ n4_; (try clear hb); (try clear hb2); (try clear hk); (try clear hi); (try clear ho0)) | (go_at_call 47; (with_reducible refine (customhouseref03_Made.calls kj23 a1 ji7 15 t283 _ A37.out).mono ?_); rintro e w43 ⟨v284, rfl, ho0, hb⟩; have n0_ := Aside0.mk (Kd.R_elder' (by (with_reducible repeat (first | apply Kd.R_alloc | apply Kd.R_drewN | apply Kd.R_drew)); exact HO_279001.out) (Kd.R_base ho0) hb); have n1_ := Aside0.mk (Kd.R_elder' (by (with_reducible repeat (first | apply Kd.R_alloc | apply Kd.R_drewN | apply Kd.R_drew)); exact HO_279002.out) (Kd.R_base ho0) hb); have n2_ := Aside0.mk (Kd.R_elder' (by (with_reducible repeat (first | apply Kd.R_alloc | apply Kd.R_drewN | apply Kd.R_drew)); exact HO282.out) (Kd.R_base ho0) hb); have n3_ := Aside0.mk (Kd.R_lower (Kd.R_new' (Kd.R_new' (Kd.R_new' ho0 (Kd.R_lt (by (with_reducible repeat (first | apply Kd.R_alloc | apply Kd.R_drewN | apply Kd.R_drew)); exact HO_279001.out))) (Kd.R_lt (by (with_reducible repeat (first | apply Kd.R_alloc | apply Kd.R_drewN | apply Kd.R_drew)); exact HO_279002.out))) (Kd.R_lt (by (with_reducible repeat (first | apply Kd.R_alloc | apply Kd.R_drewN | apply Kd.R_drew)); exact HO282.out))) (below_size (by repeat (first | (with_reducible first | exact HB.out | apply below_alloc | apply pw_below_drewN | apply below_drew1 | refine below_set ?_ GE278.out) | exact HB.out)))); have n4_ := Aside0.mk (blk_below (g := gb278) (o := .cells #[.int .i64 t270, .slice Ao29 t271.length co29, .slice Ao30 t274.length co30] 53 (0, 0)) (by (with_reducible repeat (first | refine blk_drewN ?_ _ | refine blk_drew ?_ | refine blk_alloc ?_ _)); exact BK278.out) hb); have n5_ := Aside0.mk (below_step (by repeat (first | (with_reducible first | exact HB.out | apply below_alloc | apply pw_below_drewN | apply below_drew1 | refine below_set ?_ GE278.out) | exact HB.out)) hb); clear HO_279001; clear HO_279002; clear HO282; clear BK278; clear HB; have HO_279001 := n0_; have HO_279002 := n1_; have HO282 := n2_; have HO285 := n3_; have BK278 := n4_; have HB := n5_; clear n0_ n1_ n2_ n3_ n4_ n5_; (try clear hb); (try clear hb2); (try clear hk); (try clear hi); (try clear ho0); obtain ⟨Ao45, co45, eo45⟩ := Kd.R_slice HO285.out; subst eo45) | ((with_reducible refine gate_builtin (b := .append) (xs := #[.tmp 69, .tmp 72]) rfl ?_); (try (refine gate_guard (by rfl) ?_; dsimp only)); at_builtin; refine Kd.R_append_rows Kd.string (w0 := w) w.heap.size rfl (.tmp 69) (.tmp 72) 22 9 (.string ⟨#[]⟩) 16 rfl Tryd.underlying22 info9 rfl (by decide) (by omega) v281 t280 t283 _ _ _ (fun k_ => some k_ ≠ (.slice Ao29 t271.length co29 : Value).ownBlock ∧ some k_ ≠ (.slice Ao30 t274.length co30 : Value).ownBlock ∧ some k_ ≠ (.slice Ao45 t283.length co45 : Value).ownBlock) (fun _ => False) rfl rfl ?aO ?aR (fun _ _ h => h) (fun _ h => h.elim) ?aF ?aB ?aS ?aL ?_; (case aR => repeat (first | exact (Kd.R_reads' HO285.out).2.2 | (with_reducible refine Kd.C_alloc ?_ _) | (with_reducible refine Kd.C_drewN ?_ _) | (with_reducible refine Kd.C_drew ?_))); (case aB => exact (by repeat (first | (with_reducible first | exact HB.out | apply below_alloc | apply pw_below_drewN | apply below_drew1 | refine below_set ?_ GE278.out) | exact HB.out))); (case aF => exact (fun k_ hk => ⟨Kd.fresh' (Kd.R_lt (by (with_reducible repeat (first | apply Kd.R_alloc | apply Kd.R_drewN | apply Kd.R_drew)); exact HO_279001.out)) k_ hk, Kd.fresh' (Kd.R_lt (by (with_reducible repeat (first | apply Kd.R_alloc | apply Kd.R_drewN | apply Kd.R_drew)); exact HO_279002.out)) k_ hk, Kd.fresh' (Kd.R_lt (by (with_reducible repeat (first | apply Kd.R_alloc | apply Kd.R_drewN | apply Kd.R_drew)); exact HO285.out)) k_ hk⟩)); (case aO => exact (by (with_reducible repeat (first | apply Kd.R_alloc | apply Kd.R_drewN | apply Kd.R_drew)); exact Kd.R_mono HO282.out (fun _ hk => ⟨hk.1.1.2, ⟨hk.1.2, hk.2⟩⟩))); (case aS => exact (below_size (by repeat (first | (with_reducible first | exact HB.out | apply below_alloc | apply pw_below_drewN | apply below_drew1 | refine below_set ?_ GE278.out) | exact HB.out)))); (case aL => have := LMc38.out; omega); intro v287 w44 ho hb hg hat; rw [← Ny286.out] at ho; have n0_ := Aside0.mk (Kd.R_after (ok := (fun k_ => some k_ ≠ (.slice Ao30 t274.length co30 : Value).ownBlock ∧ some k_ ≠ (.slice Ao45 t283.length co45 : Value).ownBlock)) (by (with_reducible repeat (first | apply Kd.R_alloc | apply Kd.R_drewN | apply Kd.R_drew)); exact Kd.R_mono HO_279001.out (fun _ hk => ⟨⟨hk.1.1, hk.2⟩, hk.1.2⟩)) hg hat); have n1_ := Aside0.mk (Kd.R_after (ok := (fun k_ => some k_ ≠ (.slice Ao29 t271.length co29 : Value).ownBlock ∧ some k_ ≠ (.slice Ao45 t283.length co45 : Value).ownBlock)) (by (with_reducible repeat (first | apply Kd.R_alloc | apply Kd.R_drewN | apply Kd.R_drew)); exact Kd.R_mono HO_279002.out (fun _ hk => ⟨⟨hk.1.1, hk.2⟩, hk.1.2⟩)) hg hat); have n2_ := Aside0.mk (blk_grown (g := gb278) (o := .cells #[.int .i64 t270, .slice Ao29 t271.length co29, .slice Ao30 t274.length co30] 53 (0, 0)) (by (with_reducible repeat (first | refine blk_drewN ?_ _ | refine blk_drew ?_ | refine blk_alloc ?_ _)); exact BK278.out) hg (Kd.R_ne HO282.out BK278.out (by decide))); have n3_ := Aside0.mk (Kd.R_after (ok := (fun k_ => some k_ ≠ (.slice Ao29 t271.length co29 : Value).ownBlock ∧ some k_ ≠ (.slice Ao30 t274.length co30 : Value).ownBlock)) (by (with_reducible repeat (first | apply Kd.R_alloc | apply Kd.R_drewN | apply Kd.R_drew)); exact Kd.R_mono HO285.out (fun _ hk => ⟨⟨hk.1.1.2, hk.1.2⟩, hk.2⟩)) hg hat); have n4_ := Aside0.mk (hb); have n5_ := Aside0.mk (ho); clear HO_279001; clear HO_279002; clear BK278; clear HO285; clear HB; clear HO282; have HO_279001 := n0_; have HO_279002 := n1_; have BK278 := n2_; have HO285 := n3_; have HB := n4_; have HO288 := n5_; clear n0_ n1_ n2_ n3_ n4_ n5_; clear ho hb hg hat; obtain ⟨Ao46, co46, eo46⟩ := Kd.R_slice HO288.out; subst eo46) | (go_at_call 35; (with_reducible refine (customhouseref02_Shown.calls kj23 _ _ y286 t289 _ ?side1 ?side2 A39.out).mono ?_); (case side1 => repeat (first | exact (Kd.R_reads' HO288.out).2.2 | (with_reducible refine Kd.C_alloc ?_ _) | (with_reducible refine Kd.C_drewN ?_ _) | (with_reducible refine Kd.C_drew ?_))); (case side2 => exact (Kd.R_reads' HO288.out).2.1); rintro e w47 ⟨rfl, hb⟩; have n0_ := Aside0.mk (Kd.R_below (by (with_reducible repeat (first | apply Kd.R_alloc | apply Kd.R_drewN | apply Kd.R_drew)); exact HO_279001.out) hb); have n1_ := Aside0.mk (Kd.R_below (by (with_reducible repeat (first | apply Kd.R_alloc | apply Kd.R_drewN | apply Kd.R_drew)); exact HO_279002.out) hb); have n2_ := Aside0.mk (Kd.R_below (by (with_reducible repeat (first | apply Kd.R_alloc | apply Kd.R_drewN | apply Kd.R_drew)); exact HO285.out) hb); have n3_ := Aside0.mk (Kd.R_below (by (with_reducible repeat (first | apply Kd.R_alloc | apply Kd.R_drewN | apply Kd.R_drew)); exact HO288.out) hb); have n4_ := Aside0.mk (blk_below (g := gb278) (o := .cells #[.int .i64 t270, .slice Ao29 t271.length co29, .slice Ao30 t274.length co30] 53 (0, 0)) (by (with_reducible repeat (first | refine blk_drewN ?_ _ | refine blk_drew ?_ | refine blk_alloc ?_ _)); exact BK278.out) hb); have n5_ := Aside0.mk (below_step (by repeat (first | (with_reducible first | exact HB.out | apply below_alloc | apply pw_below_drewN | apply below_drew1 | refine below_set ?_ GE278.out) | exact HB.out)) hb); clear HO_279001; clear HO_279002; clear HO285; clear HO288; clear BK278; clear HB; have HO_279001 := n0_; have HO_279002 := n1_; have HO285 := n2_; have HO288 := n3_; have BK278 := n4_; have HB := n5_; clear n0_ n1_ n2_ n3_ n4_ n5_; (try clear hb); (try clear hb2); (try clear hk); (try clear hi)))
                        go_ret
                        exact ⟨by first | rfl | (simp [errW_none, errW_some] <;> rfl) | (simp only [← hji7, ← hji9]; first | rfl | (simp [errW_none, errW_some] <;> rfl)) | (simp [*, errW_none, errW_some] <;> rfl), by repeat (first | (with_reducible first | exact HB.out | apply below_alloc | apply pw_below_drewN | apply below_drew1 | refine below_set ?_ GE278.out) | exact HB.out)⟩
                      · rw [if_neg c38] at H
                        exact absurd H (by simp)
                    · replace c35 := Bool.eq_false_iff.mpr c35
                      subst c35
                      have H1 : (some false) = some r := by rw [if_neg (show ¬ (false = true) by decide)] at H; exact H
                      clear H
                      have H := H1
                      clear H1
                      obtain rfl := Option.some.inj H
                      have hcz48_0 : wc.cell? ⟨gb278, 0, none⟩ = some (.int .i64 t270) := (blk_cell BK278.out 0).trans rfl
                      have hcz48_1 : wc.cell? ⟨gb278, 1, none⟩ = some (.slice Ao29 t271.length co29) := (blk_cell BK278.out 1).trans rfl
                      have hcz48_2 : wc.cell? ⟨gb278, 2, none⟩ = some (.slice Ao30 t274.length co30) := (blk_cell BK278.out 2).trans rfl
                      have hfz48_0 := blk_frozen BK278.out 0
                      have hfz48_1 := blk_frozen BK278.out 1
                      have hfz48_2 := blk_frozen BK278.out 2
                      go_wp2_with (first | ((with_reducible refine gate_callee (f := 46) rfl ?_); refine goesL_ (some 62) rfl rfl Tryd.func46 (by kernel_rfl) rfl #[.string t268, .string a4, .agg #[.int .i64 t270, .slice Ao29 t271.length co29, .slice Ao30 t274.length co30]] rfl (by (try simp only [List.map_toArray, List.map_cons, List.map_nil]); first | done | rfl | (simp only [List.length_drop, List.length_take]; rfl)) ?_; (with_reducible refine (seal_Verify.calls t268 a4 t270 _ _ t271 _ _ t274 true _ ?side5 ?side1 ?side2 ?side3 ?side4 A33.out).mono ?_); (case side1 => repeat (first | exact (Kd.R_reads' HO_279001.out).2.2 | (with_reducible refine Kd.C_alloc ?_ _) | (with_reducible refine Kd.C_drewN ?_ _) | (with_reducible refine Kd.C_drew ?_))); (case side2 => exact (Kd.R_reads' HO_279001.out).2.1); (case side3 => repeat (first | exact (Kd.R_reads' HO_279002.out).2.2 | (with_reducible refine Kd.C_alloc ?_ _) | (with_reducible refine Kd.C_drewN ?_ _) | (with_reducible refine Kd.C_drew ?_))); (case side4 => exact (Kd.R_reads' HO_279002.out).2.1); (case side5 => exact GL.below HG.out (by repeat (first | (with_reducible first | exact HB.out | apply below_alloc | apply pw_below_drewN | apply below_drew1 | refine below_set ?_ GE278.out) | exact HB.out))); rintro e w49 ⟨rfl, hb⟩; refine ⟨_, rfl, ?_⟩; have n0_ := Aside0.mk (Kd.R_below (by (with_reducible repeat (first | apply Kd.R_alloc | apply Kd.R_drewN | apply Kd.R_drew)); exact HO_279001.out) hb); have n1_ := Aside0.mk (Kd.R_below (by (with_reducible repeat (first | apply Kd.R_alloc | apply Kd.R_drewN | apply Kd.R_drew)); exact HO_279002.out) hb); have n2_ := Aside0.mk (blk_below (g := gb278) (o := .cells #[.int .i64 t270, .slice Ao29 t271.length co29, .slice Ao30 t274.length co30] 53 (0, 0)) (by (with_reducible repeat (first | refine blk_drewN ?_ _ | refine blk_drew ?_ | refine blk_alloc ?_ _)); exact BK278.out) hb); have n3_ := Aside0.mk (below_step (by repeat (first | (with_reducible first | exact HB.out | apply below_alloc | apply pw_below_drewN | apply below_drew1 | refine below_set ?_ GE278.out) | exact HB.out)) hb); clear HO_279001; clear HO_279002; clear BK278; clear HB; have HO_279001 := n0_; have HO_279002 := n1_; have BK278 := n2_; have HB := n3_; clear n0_ n1_ n2_ n3_; (try clear hb); (try clear hb2); (try clear hk); (try clear hi)))
                      go_ret
                      exact ⟨by first | rfl | (simp [errW_none, errW_some] <;> rfl) | (simp only [← hji7, ← hji9]; first | rfl | (simp [errW_none, errW_some] <;> rfl)) | (simp [*, errW_none, errW_some] <;> rfl), by repeat (first | (with_reducible first | exact HB.out | apply below_alloc | apply pw_below_drewN | apply below_drew1 | refine below_set ?_ GE278.out) | exact HB.out)⟩
                  · replace c34 := Bool.eq_false_iff.mpr c34
                    subst c34
                    have H1 : (some t263) = some r := by rw [if_neg (show ¬ (false = true) by decide)] at H; exact H
                    clear H
                    have H := H1
                    clear H1
                    obtain rfl := Option.some.inj H
                    have hcz50_0 : wc.cell? ⟨gb278, 0, none⟩ = some (.int .i64 t270) := (blk_cell BK278.out 0).trans rfl
                    have hcz50_1 : wc.cell? ⟨gb278, 1, none⟩ = some (.slice Ao29 t271.length co29) := (blk_cell BK278.out 1).trans rfl
                    have hcz50_2 : wc.cell? ⟨gb278, 2, none⟩ = some (.slice Ao30 t274.length co30) := (blk_cell BK278.out 2).trans rfl
                    have hfz50_0 := blk_frozen BK278.out 0
                    have hfz50_1 := blk_frozen BK278.out 1
                    have hfz50_2 := blk_frozen BK278.out 2
                    go_wp2_with (first | ((with_reducible refine gate_callee (f := 46) rfl ?_); refine goesL_ (some 62) rfl rfl Tryd.func46 (by kernel_rfl) rfl #[.string t268, .string a4, .agg #[.int .i64 t270, .slice Ao29 t271.length co29, .slice Ao30 t274.length co30]] rfl (by (try simp only [List.map_toArray, List.map_cons, List.map_nil]); first | done | rfl | (simp only [List.length_drop, List.length_take]; rfl)) ?_; (with_reducible refine (seal_Verify.calls t268 a4 t270 _ _ t271 _ _ t274 false _ ?side5 ?side1 ?side2 ?side3 ?side4 A33.out).mono ?_); (case side1 => repeat (first | exact (Kd.R_reads' HO_279001.out).2.2 | (with_reducible refine Kd.C_alloc ?_ _) | (with_reducible refine Kd.C_drewN ?_ _) | (with_reducible refine Kd.C_drew ?_))); (case side2 => exact (Kd.R_reads' HO_279001.out).2.1); (case side3 => repeat (first | exact (Kd.R_reads' HO_279002.out).2.2 | (with_reducible refine Kd.C_alloc ?_ _) | (with_reducible refine Kd.C_drewN ?_ _) | (with_reducible refine Kd.C_drew ?_))); (case side4 => exact (Kd.R_reads' HO_279002.out).2.1); (case side5 => exact GL.below HG.out (by repeat (first | (with_reducible first | exact HB.out | apply below_alloc | apply pw_below_drewN | apply below_drew1 | refine below_set ?_ GE278.out) | exact HB.out))); rintro e w51 ⟨rfl, hb⟩; refine ⟨_, rfl, ?_⟩; have n0_ := Aside0.mk (Kd.R_below (by (with_reducible repeat (first | apply Kd.R_alloc | apply Kd.R_drewN | apply Kd.R_drew)); exact HO_279001.out) hb); have n1_ := Aside0.mk (Kd.R_below (by (with_reducible repeat (first | apply Kd.R_alloc | apply Kd.R_drewN | apply Kd.R_drew)); exact HO_279002.out) hb); have n2_ := Aside0.mk (blk_below (g := gb278) (o := .cells #[.int .i64 t270, .slice Ao29 t271.length co29, .slice Ao30 t274.length co30] 53 (0, 0)) (by (with_reducible repeat (first | refine blk_drewN ?_ _ | refine blk_drew ?_ | refine blk_alloc ?_ _)); exact BK278.out) hb); have n3_ := Aside0.mk (below_step (by repeat (first | (with_reducible first | exact HB.out | apply below_alloc | apply pw_below_drewN | apply below_drew1 | refine below_set ?_ GE278.out) | exact HB.out)) hb); clear HO_279001; clear HO_279002; clear BK278; clear HB; have HO_279001 := n0_; have HO_279002 := n1_; have BK278 := n2_; have HB := n3_; clear n0_ n1_ n2_ n3_; (try clear hb); (try clear hb2); (try clear hk); (try clear hi)))
                    go_ret
                    exact ⟨by first | rfl | (simp [errW_none, errW_some] <;> rfl) | (simp only [← hji7, ← hji9]; first | rfl | (simp [errW_none, errW_some] <;> rfl)) | (simp [*, errW_none, errW_some] <;> rfl), by repeat (first | (with_reducible first | exact HB.out | apply below_alloc | apply pw_below_drewN | apply below_drew1 | refine below_set ?_ GE278.out) | exact HB.out)⟩
  · rw [if_neg c8] at H
    exact absurd H (by simp)

end Go.Proofs.YtdlipbfcadmhjaaDoor.PG3
