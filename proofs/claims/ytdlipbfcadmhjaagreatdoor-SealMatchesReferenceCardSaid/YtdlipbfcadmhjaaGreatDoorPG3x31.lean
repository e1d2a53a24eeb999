/- Written by a program of this session's over the kit's print: the functions that a law comes to as plain Lean functions, and that Go's code computes them. Nothing is assumed. -/
import Derived.Test.YtdlipbfcadmhjaaGreatDoorPG3x0
import Derived.Test.YtdlipbfcadmhjaaGreatDoorPG3x21
import Derived.Test.YtdlipbfcadmhjaaGreatDoorPG3x22
import Derived.Test.YtdlipbfcadmhjaaGreatDoorPG3x24
import Derived.Test.YtdlipbfcadmhjaaGreatDoorPG3x26
import Derived.Test.YtdlipbfcadmhjaaGreatDoorPG3x28
import Derived.Test.YtdlipbfcadmhjaaGreatDoorPG3x29
import Derived.Test.YtdlipbfcadmhjaaGreatDoorPG3x30
import Derived.Test.YtdlipbfcadmhjaaGreatDoorY28
namespace Go.Proofs.YtdlipbfcadmhjaaGreatDoor.PG3
open Go.RowKit Go.Proofs.YtdlipbfcadmhjaaGreatDoorW.PrintWords Go.Proofs.YtdlipbfcadmhjaaGreatDoorW.PrintLast Go.Proofs.YtdlipbfcadmhjaaGreatDoorW.PrintMore
attribute [local go_sem] max2_int min2_int max_two min_two max_three min_three max_four min_four
set_option linter.unusedVariables false
set_option linter.unusedSimpArgs false
mutual
def customhouselaw03_SealMatchesReference.j0 : Nat → ByteArray → Int → Int → ByteArray → ByteArray → Bool → Bool → Int → List ByteArray → List ByteArray → Option (Bool)
  | 0, _, _, _, _, _, _, _, _, _, _ => none
  | k + 1, x0, x1, x2, x3, x4, x13, x42, x520000, x520001, x520002 => if x42 = true then (some x13) else ((seal_Public.f k x0 x1).bind fun bt526 => ((customhouseref03_Public.f k x0 x1).bind fun bt528 => ((seal_Sign.f x0 x1 x2 x3).bind fun bt530 => ((customhouseref03_Sign.f k x0 x1 x2 x3).bind fun bt539 => (if bt526.1.toList = bt528.1.toList then (if bt526.2 = bt528.2 then (if bt530.2.2.2 = bt539.2.2.2 then ((customhouseref03_Same.f k bt530.1 bt530.2.1 bt530.2.2.1 bt539.1 bt539.2.1 bt539.2.2.1).bind fun t548 => (customhouselaw03_SealMatchesReference.j1 k x3 x4 x13 bt526.1 bt528.1 t548 x520000 x520001 x520002)) else (customhouselaw03_SealMatchesReference.j1 k x3 x4 x13 bt526.1 bt528.1 false x520000 x520001 x520002)) else (customhouselaw03_SealMatchesReference.j1 k x3 x4 x13 bt526.1 bt528.1 false x520000 x520001 x520002)) else (customhouselaw03_SealMatchesReference.j1 k x3 x4 x13 bt526.1 bt528.1 false x520000 x520001 x520002))))))
def customhouselaw03_SealMatchesReference.j1 : Nat → ByteArray → ByteArray → Bool → ByteArray → ByteArray → Bool → Int → List ByteArray → List ByteArray → Option (Bool)
  | 0, _, _, _, _, _, _, _, _, _ => none
  | k + 1, x3, x4, x13, x14, x16, x22, x520000, x520001, x520002 => if x13 = true then (if x22 = true then ((seal_Verify.f x4 x3 x520000 x520001 x520002).bind fun t549 => ((customhouseref03_Verify.f k x4 x3 x520000 x520001 x520002).bind fun t550 => (if (t549 == t550) = true then ((seal_Verify.f x14 x3 x520000 x520001 x520002).bind fun t551 => ((customhouseref03_Verify.f k x16 x3 x520000 x520001 x520002).bind fun t552 => (some (t551 == t552)))) else (some false)))) else (some false)) else (some false)
end
def customhouselaw03_SealMatchesReference.f (k : Nat) (a0 : ByteArray) (a1 : Int) (a2 : Int) (a3 : ByteArray) (a4 : ByteArray) (a5_0 : Int) (l5_1 : List ByteArray) (l5_2 : List ByteArray) : Option (Bool) := (customhouselaw03_head.f).bind fun t520 => ((customhouselaw03_short.f k (([a0, a3, a4] : List ByteArray))).bind fun t524 => (if t524 = true then ((customhouseref03_Few.f k a5_0 l5_1 l5_2).bind fun t525 => (if t525 = true then (if a1 > 3 then (customhouselaw03_SealMatchesReference.j0 k a0 a1 a2 a3 a4 t520 (decide (a1 ≤ 8)) a5_0 l5_1 l5_2) else (customhouselaw03_SealMatchesReference.j0 k a0 a1 a2 a3 a4 t520 false a5_0 l5_1 l5_2)) else (customhouselaw03_SealMatchesReference.j0 k a0 a1 a2 a3 a4 t520 true a5_0 l5_1 l5_2))) else (customhouselaw03_SealMatchesReference.j0 k a0 a1 a2 a3 a4 t520 true a5_0 l5_1 l5_2)))
def customhouselaw03_SealMatchesReference.T9 : Bool × List (List Nat × List Nat) := (true, [([], []), ([0], [0]), ([1], [1]), ([1, 2], [1, 2]), ([3, 1], [3]), ([4], [4]), ([4], [4]), ([4], [4]), ([5, 6, 7, 4, 4], [4, 5, 6, 7]), ([4], [4]), ([4], [4]), ([4], [4]), ([9, 10, 11, 8, 4], [4, 9, 10, 11]), ([8, 12, 4], [4, 8, 12]), ([4, 13], [4, 13]), ([14, 12], [14]), ([15], [15]), ([15], [15]), ([15], [15]), ([16, 17, 18, 15, 15], [15, 16, 17, 18]), ([15], [15]), ([15], [15]), ([15], [15]), ([20, 21, 22, 19, 15], [15, 20, 21, 22]), ([19, 23, 15], [15, 19, 23]), ([15, 24], [15, 24]), ([25, 23, 0, 1, 2, 3, 4, 5, 6, 7, 8, 9, 10, 11, 12, 13, 14, 15, 16, 17, 18, 19, 20, 21, 22, 23, 24, 25], [25])])
def customhouselaw03_SealMatchesReference.B9 : List Nat := [0, 1, 3, 7, 15, 31, 31, 31, 255, 31, 31, 31, 4095, 8191, 16383, 32767, 65535, 65535, 65535, 524287, 65535, 65535, 65535, 8388607, 16777215, 33554431, 67108863]
theorem customhouselaw03_SealMatchesReference.tab9 : rtab .any (opsOf Tryz.f5 9) = customhouselaw03_SealMatchesReference.T9 := by kernel_rfl
theorem customhouselaw03_SealMatchesReference.bits9 : waitsOk customhouselaw03_SealMatchesReference.T9.2 customhouselaw03_SealMatchesReference.B9 = true := by kernel_rfl
set_option maxHeartbeats 8000000 in
set_option maxRecDepth 100000 in
theorem customhouselaw03_SealMatchesReference.calls (k : Nat) (a0 : ByteArray) (a1 : Int) (a2 : Int) (a3 : ByteArray) (a4 : ByteArray) (a5_0 : Int) (A5_1 : Option Addr) (c5_1 : Nat) (l5_1 : List ByteArray) (A5_2 : Option Addr) (c5_2 : Nat) (l5_2 : List ByteArray) (r : Bool) (w : World) (hG : GL w) (hr5_1 : Kd.C Kd.string w A5_1 l5_1.length l5_1) (hc5_1 : l5_1.length ≤ c5_1) (hr5_2 : Kd.C Kd.string w A5_2 l5_2.length l5_2) (hc5_2 : l5_2.length ≤ c5_2) (h : customhouselaw03_SealMatchesReference.f k a0 a1 a2 a3 a4 a5_0 l5_1 l5_2 = some r) :
    Calls Tryz.prog 5 #[.string a0, .int .i64 a1, .int .i64 a2, .string a3, .string a4, .agg #[.int .i64 a5_0, .slice A5_1 l5_1.length c5_1, .slice A5_2 l5_2.length c5_2]] w fun e w' => e = .returned (.bool r) ∧ Below w.heap.size w w' := by
 have hu33 := Tryz.underlying33
 have HR5_1 := Aside0.mk hr5_1
 have HC5_1 := Aside0.mk hc5_1
 clear hr5_1 hc5_1
 have HR5_2 := Aside0.mk hr5_2
 have HC5_2 := Aside0.mk hc5_2
 clear hr5_2 hc5_2
 have HB := Aside0.mk (Below.refl w.heap.size w)
 have HG := Aside0.mk hG
 clear hG
 have H : ((customhouselaw03_head.f).bind fun t520 => ((customhouselaw03_short.f k (([a0, a3, a4] : List ByteArray))).bind fun t524 => (if t524 = true then ((customhouseref03_Few.f k a5_0 l5_1 l5_2).bind fun t525 => (if t525 = true then (if a1 > 3 then (customhouselaw03_SealMatchesReference.j0 k a0 a1 a2 a3 a4 t520 (decide (a1 ≤ 8)) a5_0 l5_1 l5_2) else (customhouselaw03_SealMatchesReference.j0 k a0 a1 a2 a3 a4 t520 false a5_0 l5_1 l5_2)) else (customhouselaw03_SealMatchesReference.j0 k a0 a1 a2 a3 a4 t520 true a5_0 l5_1 l5_2))) else (customhouselaw03_SealMatchesReference.j0 k a0 a1 a2 a3 a4 t520 true a5_0 l5_1 l5_2)))) = some r := h
 clear h
 replace H := Option.bind_eq_some_iff.mp H
 obtain ⟨t520, A70, H⟩ := H
 replace H : ((customhouselaw03_short.f k (([a0, a3, a4] : List ByteArray))).bind fun t524 => (if t524 = true then ((customhouseref03_Few.f k a5_0 l5_1 l5_2).bind fun t525 => (if t525 = true then (if a1 > 3 then (customhouselaw03_SealMatchesReference.j0 k a0 a1 a2 a3 a4 t520 (decide (a1 ≤ 8)) a5_0 l5_1 l5_2) else (customhouselaw03_SealMatchesReference.j0 k a0 a1 a2 a3 a4 t520 false a5_0 l5_1 l5_2)) else (customhouselaw03_SealMatchesReference.j0 k a0 a1 a2 a3 a4 t520 true a5_0 l5_1 l5_2))) else (customhouselaw03_SealMatchesReference.j0 k a0 a1 a2 a3 a4 t520 true a5_0 l5_1 l5_2))) = some r := H
 have A7 := Aside0.mk A70
 clear A70
 have HC8 := Aside0.mk H
 clear H
 go_enter Tryz.func5, Tryz.ntmps5
 go_upto_region 2 with (first | ((with_reducible refine gate_dst (N := 11) rfl ?_); refine box_event ?hg (N := 11) ?hd (cs := #[.int .i64 a5_0, .slice A5_1 l5_1.length c5_1, .slice A5_2 l5_2.length c5_2]) (t := 33) ?hr ?_; (case hd => rfl); (case hg => rfl); (case hr => first | (go_simp; done) | (go_simp; rfl)); intro gb519 hg w9 hbox hb; have n0_ := Aside0.mk (below_step (by repeat (first | (with_reducible first | exact HB.out | apply below_alloc | apply pw_below_drewN | apply below_drew1) | exact HB.out)) hb); have n1_ := Aside0.mk (hbox); have n2_ := Aside0.mk ((by rw [hg]; exact (below_size (by repeat (first | (with_reducible first | exact HB.out | apply below_alloc | apply pw_below_drewN | apply below_drew1) | exact HB.out))) : w.heap.size ≤ gb519)); have n3_ := Aside0.mk ((by rw [hg]; exact (below_size (by repeat (first | (with_reducible first | exact HB.out | apply below_alloc | apply pw_below_drewN | apply below_drew1) | exact HB.out))) : w.heap.size ≤ gb519)); clear HB; have HB := n0_; have BK519 := n1_; have GW519 := n2_; have GE519 := n3_; clear n0_ n1_ n2_ n3_; clear hb hbox hg) | ((with_reducible refine gate_callee (f := 36) rfl ?_); refine goesL_ (some 23) rfl rfl Tryz.func36 (by kernel_rfl) rfl #[] rfl (by (try simp only [List.map_toArray, List.map_cons, List.map_nil]); first | done | rfl | (simp only [List.length_drop, List.length_take]; rfl)) ?_; (with_reducible refine (customhouselaw03_head.calls  t520 _ ?side1 A7.out).mono ?_); (case side1 => exact GL.below HG.out (by repeat (first | (with_reducible first | exact HB.out | apply below_alloc | apply pw_below_drewN | apply below_drew1 | refine below_set ?_ GE519.out) | exact HB.out))); rintro e w10 ⟨rfl, hb⟩; refine ⟨_, rfl, ?_⟩; have n0_ := Aside0.mk (blk_below (g := gb519) (o := .cells #[.int .i64 a5_0, .slice A5_1 l5_1.length c5_1, .slice A5_2 l5_2.length c5_2] 33 (0, 0)) (by (with_reducible repeat (first | refine blk_drewN ?_ _ | refine blk_drew ?_ | refine blk_alloc ?_ _)); exact BK519.out) hb); have n1_ := Aside0.mk (below_step (by repeat (first | (with_reducible first | exact HB.out | apply below_alloc | apply pw_below_drewN | apply below_drew1 | refine below_set ?_ GE519.out) | exact HB.out)) hb); clear BK519; clear HB; have BK519 := n0_; have HB := n1_; clear n0_ n1_; (try clear hb); (try clear hb2); (try clear hk); (try clear hi)))
 (try simp only [Act.put, List.setIfInBounds_toArray, List.set_cons_zero, List.set_cons_succ])
 go_cut [42] (fun v42 wc => ∃ (kq : Nat) (x42_7 : Bool), v42 = .bool x42_7 ∧ Aside0 (customhouselaw03_SealMatchesReference.j0 kq a0 a1 a2 a3 a4 t520 x42_7 a5_0 l5_1 l5_2 = some r) ∧ Aside0 (kq ≤ k) ∧ Aside0 (wc.heap[gb519]? = some (.cells #[.int .i64 a5_0, (.slice A5_1 l5_1.length c5_1), (.slice A5_2 l5_2.length c5_2)] 33 (0, 0))) ∧ Aside0 (Below w.heap.size w wc))
 case first =>
  have H := HC8.out; clear HC8
  obtain ⟨y521, hy521⟩ : ∃ y_ : List ByteArray, y_ = (([a0, a3, a4] : List ByteArray)) := ⟨_, rfl⟩
  replace H : ((customhouselaw03_short.f k y521).bind fun t524 => (if t524 = true then ((customhouseref03_Few.f k a5_0 l5_1 l5_2).bind fun t525 => (if t525 = true then (if a1 > 3 then (customhouselaw03_SealMatchesReference.j0 k a0 a1 a2 a3 a4 t520 (decide (a1 ≤ 8)) a5_0 l5_1 l5_2) else (customhouselaw03_SealMatchesReference.j0 k a0 a1 a2 a3 a4 t520 false a5_0 l5_1 l5_2)) else (customhouselaw03_SealMatchesReference.j0 k a0 a1 a2 a3 a4 t520 true a5_0 l5_1 l5_2))) else (customhouselaw03_SealMatchesReference.j0 k a0 a1 a2 a3 a4 t520 true a5_0 l5_1 l5_2))) = some r := by first | (rw [hy521]; with_reducible exact H) | (have H2_ := (Option.bind_some _ _).symm.trans H; rw [hy521]; with_reducible exact H2_) | (have H2_ := (Option.bind_some _ _).symm.trans H; with_reducible exact H2_) | with_reducible exact H | (rw [hy521]; exact H) | exact H
  have Ny521 := Aside0.mk hy521
  clear hy521
  replace H := Option.bind_eq_some_iff.mp H
  obtain ⟨t524, A110, H⟩ := H
  replace H : (if t524 = true then ((customhouseref03_Few.f k a5_0 l5_1 l5_2).bind fun t525 => (if t525 = true then (if a1 > 3 then (customhouselaw03_SealMatchesReference.j0 k a0 a1 a2 a3 a4 t520 (decide (a1 ≤ 8)) a5_0 l5_1 l5_2) else (customhouselaw03_SealMatchesReference.j0 k a0 a1 a2 a3 a4 t520 false a5_0 l5_1 l5_2)) else (customhouselaw03_SealMatchesReference.j0 k a0 a1 a2 a3 a4 t520 true a5_0 l5_1 l5_2))) else (customhouselaw03_SealMatchesReference.j0 k a0 a1 a2 a3 a4 t520 true a5_0 l5_1 l5_2)) = some r := H
  have A11 := Aside0.mk A110
  clear A110
  by_cases c12 : t524 = true
  ·subst c12
   have H1 : ((customhouseref03_Few.f k a5_0 l5_1 l5_2).bind fun t525 => (if t525 = true then (if a1 > 3 then (customhouselaw03_SealMatchesReference.j0 k a0 a1 a2 a3 a4 t520 (decide (a1 ≤ 8)) a5_0 l5_1 l5_2) else (customhouselaw03_SealMatchesReference.j0 k a0 a1 a2 a3 a4 t520 false a5_0 l5_1 l5_2)) else (customhouselaw03_SealMatchesReference.j0 k a0 a1 a2 a3 a4 t520 true a5_0 l5_1 l5_2))) = some r := by rw [if_pos rfl] at H; exact H
   clear H; have H := H1; clear H1
   replace H := Option.bind_eq_some_iff.mp H
   obtain ⟨t525, A130, H⟩ := H
   replace H : (if t525 = true then (if a1 > 3 then (customhouselaw03_SealMatchesReference.j0 k a0 a1 a2 a3 a4 t520 (decide (a1 ≤ 8)) a5_0 l5_1 l5_2) else (customhouselaw03_SealMatchesReference.j0 k a0 a1 a2 a3 a4 t520 false a5_0 l5_1 l5_2)) else (customhouselaw03_SealMatchesReference.j0 k a0 a1 a2 a3 a4 t520 true a5_0 l5_1 l5_2)) = some r := H
   have A13 := Aside0.mk A130
   clear A130
   by_cases c14 : t525 = true
   ·subst c14
    have H1 : (if a1 > 3 then (customhouselaw03_SealMatchesReference.j0 k a0 a1 a2 a3 a4 t520 (decide (a1 ≤ 8)) a5_0 l5_1 l5_2) else (customhouselaw03_SealMatchesReference.j0 k a0 a1 a2 a3 a4 t520 false a5_0 l5_1 l5_2)) = some r := by rw [if_pos rfl] at H; exact H
    clear H; have H := H1; clear H1
    by_cases c15 : a1 > 3
    ·rw [if_pos c15] at H
     have c15b0 : decide (3 < a1) = true := decide_eq_true c15
     clear c15
     (first | rw [c15b0] | (simp only [i64_w, i32_w]; rw [c15b0]) | skip)
     have H' := Aside0.mk H
     clear H
     go_wp2_with (first | ((with_reducible refine gate_dst (N := 27) rfl ?_); refine Kd.R_lit Kd.string _ 9 ?hg (N := 27) ?hd (xs := ([a0, a3, a4] : List ByteArray)) (inner := [.string a0, .string a3, .string a4]) (ok := fun _ => True) (okp := fun _ => True) ?hr ?hp (fun _ hk => hk) trivial (Below.refl _ _) (Nat.le_refl _) (by simp) ?_; (case hd => rfl); (case hg => rfl); (case hr => first | (go_simp; done) | (go_simp; rfl)); (case hp => exact (Reps.one (show Kd.M Kd.string _ _ _ a0 [.string a0] from rfl) (Reps.one (show Kd.M Kd.string _ _ _ a3 [.string a3] from rfl) (Reps.one (show Kd.M Kd.string _ _ _ a4 [.string a4] from rfl) (Reps.none _ _))))); intro v522 w16 ho17 hb hg_ hnew_; clear hg_ hnew_; (first | rw [← Ny521.out] at ho17 | (simp only [Int.reduceToNat] at ho17; rw [← Ny521.out] at ho17)); have n0_ := Aside0.mk (Kd.R_lower ho17 (below_size (by repeat (first | (with_reducible first | exact HB.out | apply below_alloc | apply pw_below_drewN | apply below_drew1 | refine below_set ?_ GE519.out) | exact HB.out)))); have n1_ := Aside0.mk (blk_below (g := gb519) (o := .cells #[.int .i64 a5_0, .slice A5_1 l5_1.length c5_1, .slice A5_2 l5_2.length c5_2] 33 (0, 0)) (by (with_reducible repeat (first | refine blk_drewN ?_ _ | refine blk_drew ?_ | refine blk_alloc ?_ _)); exact BK519.out) hb); have n2_ := Aside0.mk (below_step (by repeat (first | (with_reducible first | exact HB.out | apply below_alloc | apply pw_below_drewN | apply below_drew1 | refine below_set ?_ GE519.out) | exact HB.out)) hb); clear BK519; clear HB; have HO523 := n0_; have BK519 := n1_; have HB := n2_; clear n0_ n1_ n2_; clear hb ho17; obtain ⟨Ao18, co18, eo18⟩ := Kd.R_slice HO523.out; subst eo18) | ((with_reducible refine gate_callee (f := 37) rfl ?_); refine goesL_ (some 28) rfl rfl Tryz.func37 (by kernel_rfl) rfl #[.slice Ao18 y521.length co18] rfl (by (try simp only [List.map_toArray, List.map_cons, List.map_nil]); first | done | rfl | (simp only [List.length_drop, List.length_take]; rfl)) ?_; (with_reducible refine (customhouselaw03_short.calls k _ _ y521 true _ ?side1 ?side2 A11.out).mono ?_); (case side1 => repeat (first | exact (Kd.R_reads' HO523.out).2.2 | (with_reducible refine Kd.C_alloc ?_ _) | (with_reducible refine Kd.C_drewN ?_ _) | (with_reducible refine Kd.C_drew ?_))); (case side2 => exact (Kd.R_reads' HO523.out).2.1); rintro e w' ⟨rfl, ⟨nd, rfl⟩⟩; refine ⟨_, rfl, ?_⟩; have hcz19_0 : w16.cell? ⟨gb519, 0, none⟩ = some (.int .i64 a5_0) := (blk_cell BK519.out 0).trans rfl; have hcz19_1 : w16.cell? ⟨gb519, 1, none⟩ = some (.slice A5_1 l5_1.length c5_1) := (blk_cell BK519.out 1).trans rfl; have hcz19_2 : w16.cell? ⟨gb519, 2, none⟩ = some (.slice A5_2 l5_2.length c5_2) := (blk_cell BK519.out 2).trans rfl; have hfz19_0 := blk_frozen BK519.out 0; have hfz19_1 := blk_frozen BK519.out 1; have hfz19_2 := blk_frozen BK519.out 2) | (go_at_call 38; (with_reducible refine (customhouseref03_Few.calls k a5_0 _ _ l5_1 _ _ l5_2 true _ ?side1 ?side2 ?side3 ?side4 A13.out).mono ?_); (case side1 => repeat (first | exact (Kd.C_below HR5_1.out (by repeat (first | (with_reducible first | exact HB.out | apply below_alloc | apply pw_below_drewN | apply below_drew1 | refine below_set ?_ GE519.out) | exact HB.out))) | (with_reducible refine Kd.C_alloc ?_ _) | (with_reducible refine Kd.C_drewN ?_ _) | (with_reducible refine Kd.C_drew ?_))); (case side2 => exact HC5_1.out); (case side3 => repeat (first | exact (Kd.C_below HR5_2.out (by repeat (first | (with_reducible first | exact HB.out | apply below_alloc | apply pw_below_drewN | apply below_drew1 | refine below_set ?_ GE519.out) | exact HB.out))) | (with_reducible refine Kd.C_alloc ?_ _) | (with_reducible refine Kd.C_drewN ?_ _) | (with_reducible refine Kd.C_drew ?_))); (case side4 => exact HC5_2.out); rintro e w20 ⟨rfl, hb⟩; have n0_ := Aside0.mk (Kd.R_below (by (with_reducible repeat (first | apply Kd.R_alloc | apply Kd.R_drewN | apply Kd.R_drew)); exact HO523.out) hb); have n1_ := Aside0.mk (blk_below (g := gb519) (o := .cells #[.int .i64 a5_0, .slice A5_1 l5_1.length c5_1, .slice A5_2 l5_2.length c5_2] 33 (0, 0)) (by (with_reducible repeat (first | refine blk_drewN ?_ _ | refine blk_drew ?_ | refine blk_alloc ?_ _)); exact BK519.out) hb); have n2_ := Aside0.mk (below_step (by repeat (first | (with_reducible first | exact HB.out | apply below_alloc | apply pw_below_drewN | apply below_drew1 | refine below_set ?_ GE519.out) | exact HB.out)) hb); clear HO523; clear BK519; clear HB; have HO523 := n0_; have BK519 := n1_; have HB := n2_; clear n0_ n1_ n2_; (try clear hb); (try clear hb2); (try clear hk); (try clear hi)))
     go_meet
     case rel => exact ⟨_, (decide (a1 ≤ 8)), (by first | rfl | (simp; done) | (simp [*]; done)), H', ⟨by first | omega | exact Nat.le_refl _⟩, ⟨by (with_reducible repeat (first | refine blk_drewN ?_ _ | refine blk_drew ?_ | refine blk_alloc ?_ _)); exact BK519.out⟩, ⟨by repeat (first | (with_reducible first | exact HB.out | apply below_alloc | apply pw_below_drewN | apply below_drew1 | refine below_set ?_ GE519.out) | exact HB.out)⟩⟩
    ·rw [if_neg c15] at H
     have c15b0 : decide (3 < a1) = false := decide_eq_false c15
     clear c15
     (first | rw [c15b0] | (simp only [i64_w, i32_w]; rw [c15b0]) | skip)
     have H' := Aside0.mk H
     clear H
     go_wp2_with (first | ((with_reducible refine gate_dst (N := 27) rfl ?_); refine Kd.R_lit Kd.string _ 9 ?hg (N := 27) ?hd (xs := ([a0, a3, a4] : List ByteArray)) (inner := [.string a0, .string a3, .string a4]) (ok := fun _ => True) (okp := fun _ => True) ?hr ?hp (fun _ hk => hk) trivial (Below.refl _ _) (Nat.le_refl _) (by simp) ?_; (case hd => rfl); (case hg => rfl); (case hr => first | (go_simp; done) | (go_simp; rfl)); (case hp => exact (Reps.one (show Kd.M Kd.string _ _ _ a0 [.string a0] from rfl) (Reps.one (show Kd.M Kd.string _ _ _ a3 [.string a3] from rfl) (Reps.one (show Kd.M Kd.string _ _ _ a4 [.string a4] from rfl) (Reps.none _ _))))); intro v522 w21 ho22 hb hg_ hnew_; clear hg_ hnew_; (first | rw [← Ny521.out] at ho22 | (simp only [Int.reduceToNat] at ho22; rw [← Ny521.out] at ho22)); have n0_ := Aside0.mk (Kd.R_lower ho22 (below_size (by repeat (first | (with_reducible first | exact HB.out | apply below_alloc | apply pw_below_drewN | apply below_drew1 | refine below_set ?_ GE519.out) | exact HB.out)))); have n1_ := Aside0.mk (blk_below (g := gb519) (o := .cells #[.int .i64 a5_0, .slice A5_1 l5_1.length c5_1, .slice A5_2 l5_2.length c5_2] 33 (0, 0)) (by (with_reducible repeat (first | refine blk_drewN ?_ _ | refine blk_drew ?_ | refine blk_alloc ?_ _)); exact BK519.out) hb); have n2_ := Aside0.mk (below_step (by repeat (first | (with_reducible first | exact HB.out | apply below_alloc | apply pw_below_drewN | apply below_drew1 | refine below_set ?_ GE519.out) | exact HB.out)) hb); clear BK519; clear HB; have HO523 := n0_; have BK519 := n1_; have HB := n2_; clear n0_ n1_ n2_; clear hb ho22; obtain ⟨Ao23, co23, eo23⟩ := Kd.R_slice HO523.out; subst eo23) | ((with_reducible refine gate_callee (f := 37) rfl ?_); refine goesL_ (some 28) rfl rfl Tryz.func37 (by kernel_rfl) rfl #[.slice Ao23 y521.length co23] rfl (by (try simp only [List.map_toArray, List.map_cons, List.map_nil]); first | done | rfl | (simp only [List.length_drop, List.length_take]; rfl)) ?_; (with_reducible refine (customhouselaw03_short.calls k _ _ y521 true _ ?side1 ?side2 A11.out).mono ?_); (case side1 => repeat (first | exact (Kd.R_reads' HO523.out).2.2 | (with_reducible refine Kd.C_alloc ?_ _) | (with_reducible refine Kd.C_drewN ?_ _) | (with_reducible refine Kd.C_drew ?_))); (case side2 => exact (Kd.R_reads' HO523.out).2.1); rintro e w' ⟨rfl, ⟨nd, rfl⟩⟩; refine ⟨_, rfl, ?_⟩; have hcz24_0 : w21.cell? ⟨gb519, 0, none⟩ = some (.int .i64 a5_0) := (blk_cell BK519.out 0).trans rfl; have hcz24_1 : w21.cell? ⟨gb519, 1, none⟩ = some (.slice A5_1 l5_1.length c5_1) := (blk_cell BK519.out 1).trans rfl; have hcz24_2 : w21.cell? ⟨gb519, 2, none⟩ = some (.slice A5_2 l5_2.length c5_2) := (blk_cell BK519.out 2).trans rfl; have hfz24_0 := blk_frozen BK519.out 0; have hfz24_1 := blk_frozen BK519.out 1; have hfz24_2 := blk_frozen BK519.out 2) | (go_at_call 38; (with_reducible refine (customhouseref03_Few.calls k a5_0 _ _ l5_1 _ _ l5_2 true _ ?side1 ?side2 ?side3 ?side4 A13.out).mono ?_); (case side1 => repeat (first | exact (Kd.C_below HR5_1.out (by repeat (first | (with_reducible first | exact HB.out | apply below_alloc | apply pw_below_drewN | apply below_drew1 | refine below_set ?_ GE519.out) | exact HB.out))) | (with_reducible refine Kd.C_alloc ?_ _) | (with_reducible refine Kd.C_drewN ?_ _) | (with_reducible refine Kd.C_drew ?_))); (case side2 => exact HC5_1.out); (case side3 => repeat (first | exact (Kd.C_below HR5_2.out (by repeat (first | (with_reducible first | exact HB.out | apply below_alloc | apply pw_below_drewN | apply below_drew1 | refine below_set ?_ GE519.out) | exact HB.out))) | (with_reducible refine Kd.C_alloc ?_ _) | (with_reducible refine Kd.C_drewN ?_ _) | (with_reducible refine Kd.C_drew ?_))); (case side4 => exact HC5_2.out); rintro e w25 ⟨rfl, hb⟩; have n0_ := Aside0.mk (Kd.R_below (by (with_reducible repeat (first | apply Kd.R_alloc | apply Kd.R_drewN | apply Kd.R_drew)); exact HO523.out) hb); have n1_ := Aside0.mk (blk_below (g := gb519) (o := .cells #[.int .i64 a5_0, .slice A5_1 l5_1.length c5_1, .slice A5_2 l5_2.length c5_2] 33 (0, 0)) (by (with_reducible repeat (first | refine blk_drewN ?_ _ | refine blk_drew ?_ | refine blk_alloc ?_ _)); exact BK519.out) hb); have n2_ := Aside0.mk (below_step (by repeat (first | (with_reducible first | exact HB.out | apply below_alloc | apply pw_below_drewN | apply below_drew1 | refine below_set ?_ GE519.out) | exact HB.out)) hb); clear HO523; clear BK519; clear HB; have HO523 := n0_; have BK519 := n1_; have HB := n2_; clear n0_ n1_ n2_; (try clear hb); (try clear hb2); (try clear hk); (try clear hi)))
     go_meet
     case rel => exact ⟨_, (false), (by first | rfl | (simp; done) | (simp [*]; done)), H', ⟨by first | omega | exact Nat.le_refl _⟩, ⟨by (with_reducible repeat (first | refine blk_drewN ?_ _ | refine blk_drew ?_ | refine blk_alloc ?_ _)); exact BK519.out⟩, ⟨by repeat (first | (with_reducible first | exact HB.out | apply below_alloc | apply pw_below_drewN | apply below_drew1 | refine below_set ?_ GE519.out) | exact HB.out)⟩⟩
   ·replace c14 := Bool.eq_false_iff.mpr c14
    subst c14
    have H1 : (customhouselaw03_SealMatchesReference.j0 k a0 a1 a2 a3 a4 t520 true a5_0 l5_1 l5_2) = some r := by rw [if_neg (show ¬ (false = true) by decide)] at H; exact H
    clear H; have H := H1; clear H1
    have H' := Aside0.mk H
    clear H
    go_wp2_with (first | ((with_reducible refine gate_dst (N := 27) rfl ?_); refine Kd.R_lit Kd.string _ 9 ?hg (N := 27) ?hd (xs := ([a0, a3, a4] : List ByteArray)) (inner := [.string a0, .string a3, .string a4]) (ok := fun _ => True) (okp := fun _ => True) ?hr ?hp (fun _ hk => hk) trivial (Below.refl _ _) (Nat.le_refl _) (by simp) ?_; (case hd => rfl); (case hg => rfl); (case hr => first | (go_simp; done) | (go_simp; rfl)); (case hp => exact (Reps.one (show Kd.M Kd.string _ _ _ a0 [.string a0] from rfl) (Reps.one (show Kd.M Kd.string _ _ _ a3 [.string a3] from rfl) (Reps.one (show Kd.M Kd.string _ _ _ a4 [.string a4] from rfl) (Reps.none _ _))))); intro v522 w26 ho27 hb hg_ hnew_; clear hg_ hnew_; (first | rw [← Ny521.out] at ho27 | (simp only [Int.reduceToNat] at ho27; rw [← Ny521.out] at ho27)); have n0_ := Aside0.mk (Kd.R_lower ho27 (below_size (by repeat (first | (with_reducible first | exact HB.out | apply below_alloc | apply pw_below_drewN | apply below_drew1 | refine below_set ?_ GE519.out) | exact HB.out)))); have n1_ := Aside0.mk (blk_below (g := gb519) (o := .cells #[.int .i64 a5_0, .slice A5_1 l5_1.length c5_1, .slice A5_2 l5_2.length c5_2] 33 (0, 0)) (by (with_reducible repeat (first | refine blk_drewN ?_ _ | refine blk_drew ?_ | refine blk_alloc ?_ _)); exact BK519.out) hb); have n2_ := Aside0.mk (below_step (by repeat (first | (with_reducible first | exact HB.out | apply below_alloc | apply pw_below_drewN | apply below_drew1 | refine below_set ?_ GE519.out) | exact HB.out)) hb); clear BK519; clear HB; have HO523 := n0_; have BK519 := n1_; have HB := n2_; clear n0_ n1_ n2_; clear hb ho27; obtain ⟨Ao28, co28, eo28⟩ := Kd.R_slice HO523.out; subst eo28) | ((with_reducible refine gate_callee (f := 37) rfl ?_); refine goesL_ (some 28) rfl rfl Tryz.func37 (by kernel_rfl) rfl #[.slice Ao28 y521.length co28] rfl (by (try simp only [List.map_toArray, List.map_cons, List.map_nil]); first | done | rfl | (simp only [List.length_drop, List.length_take]; rfl)) ?_; (with_reducible refine (customhouselaw03_short.calls k _ _ y521 true _ ?side1 ?side2 A11.out).mono ?_); (case side1 => repeat (first | exact (Kd.R_reads' HO523.out).2.2 | (with_reducible refine Kd.C_alloc ?_ _) | (with_reducible refine Kd.C_drewN ?_ _) | (with_reducible refine Kd.C_drew ?_))); (case side2 => exact (Kd.R_reads' HO523.out).2.1); rintro e w' ⟨rfl, ⟨nd, rfl⟩⟩; refine ⟨_, rfl, ?_⟩; have hcz29_0 : w26.cell? ⟨gb519, 0, none⟩ = some (.int .i64 a5_0) := (blk_cell BK519.out 0).trans rfl; have hcz29_1 : w26.cell? ⟨gb519, 1, none⟩ = some (.slice A5_1 l5_1.length c5_1) := (blk_cell BK519.out 1).trans rfl; have hcz29_2 : w26.cell? ⟨gb519, 2, none⟩ = some (.slice A5_2 l5_2.length c5_2) := (blk_cell BK519.out 2).trans rfl; have hfz29_0 := blk_frozen BK519.out 0; have hfz29_1 := blk_frozen BK519.out 1; have hfz29_2 := blk_frozen BK519.out 2) | (go_at_call 38; (with_reducible refine (customhouseref03_Few.calls k a5_0 _ _ l5_1 _ _ l5_2 false _ ?side1 ?side2 ?side3 ?side4 A13.out).mono ?_); (case side1 => repeat (first | exact (Kd.C_below HR5_1.out (by repeat (first | (with_reducible first | exact HB.out | apply below_alloc | apply pw_below_drewN | apply below_drew1 | refine below_set ?_ GE519.out) | exact HB.out))) | (with_reducible refine Kd.C_alloc ?_ _) | (with_reducible refine Kd.C_drewN ?_ _) | (with_reducible refine Kd.C_drew ?_))); (case side2 => exact HC5_1.out); (case side3 => repeat (first | exact (Kd.C_below HR5_2.out (by repeat (first | (with_reducible first | exact HB.out | apply below_alloc | apply pw_below_drewN | apply below_drew1 | refine below_set ?_ GE519.out) | exact HB.out))) | (with_reducible refine Kd.C_alloc ?_ _) | (with_reducible refine Kd.C_drewN ?_ _) | (with_reducible refine Kd.C_drew ?_))); (case side4 => exact HC5_2.out); rintro e w30 ⟨rfl, hb⟩; have n0_ := Aside0.mk (Kd.R_below (by (with_reducible repeat (first | apply Kd.R_alloc | apply Kd.R_drewN | apply Kd.R_drew)); exact HO523.out) hb); have n1_ := Aside0.mk (blk_below (g := gb519) (o := .cells #[.int .i64 a5_0, .slice A5_1 l5_1.length c5_1, .slice A5_2 l5_2.length c5_2] 33 (0, 0)) (by (with_reducible repeat (first | refine blk_drewN ?_ _ | refine blk_drew ?_ | refine blk_alloc ?_ _)); exact BK519.out) hb); have n2_ := Aside0.mk (below_step (by repeat (first | (with_reducible first | exact HB.out | apply below_alloc | apply pw_below_drewN | apply below_drew1 | refine below_set ?_ GE519.out) | exact HB.out)) hb); clear HO523; clear BK519; clear HB; have HO523 := n0_; have BK519 := n1_; have HB := n2_; clear n0_ n1_ n2_; (try clear hb); (try clear hb2); (try clear hk); (try clear hi)))
    go_meet
    case rel => exact ⟨_, (true), (by first | rfl | (simp; done) | (simp [*]; done)), H', ⟨by first | omega | exact Nat.le_refl _⟩, ⟨by (with_reducible repeat (first | refine blk_drewN ?_ _ | refine blk_drew ?_ | refine blk_alloc ?_ _)); exact BK519.out⟩, ⟨by repeat (first | (with_reducible first | exact HB.out | apply below_alloc | apply pw_below_drewN | apply below_drew1 | refine below_set ?_ GE519.out) | exact HB.out)⟩⟩
  ·replace c12 := Bool.eq_false_iff.mpr c12
   subst c12
   have H1 : (customhouselaw03_SealMatchesReference.j0 k a0 a1 a2 a3 a4 t520 true a5_0 l5_1 l5_2) = some r := by rw [if_neg (show ¬ (false = true) by decide)] at H; exact H
   clear H; have H := H1; clear H1
   have H' := Aside0.mk H
   clear H
   go_wp2_with (first | ((with_reducible refine gate_dst (N := 27) rfl ?_); refine Kd.R_lit Kd.string _ 9 ?hg (N := 27) ?hd (xs := ([a0, a3, a4] : List ByteArray)) (inner := [.string a0, .string a3, .string a4]) (ok := fun _ => True) (okp := fun _ => True) ?hr ?hp (fun _ hk => hk) trivial (Below.refl _ _) (Nat.le_refl _) (by simp) ?_; (case hd => rfl); (case hg => rfl); (case hr => first | (go_simp; done) | (go_simp; rfl)); (case hp => exact (Reps.one (show Kd.M Kd.string _ _ _ a0 [.string a0] from rfl) (Reps.one (show Kd.M Kd.string _ _ _ a3 [.string a3] from rfl) (Reps.one (show Kd.M Kd.string _ _ _ a4 [.string a4] from rfl) (Reps.none _ _))))); intro v522 w31 ho32 hb hg_ hnew_; clear hg_ hnew_; (first | rw [← Ny521.out] at ho32 | (simp only [Int.reduceToNat] at ho32; rw [← Ny521.out] at ho32)); have n0_ := Aside0.mk (Kd.R_lower ho32 (below_size (by repeat (first | (with_reducible first | exact HB.out | apply below_alloc | apply pw_below_drewN | apply below_drew1 | refine below_set ?_ GE519.out) | exact HB.out)))); have n1_ := Aside0.mk (blk_below (g := gb519) (o := .cells #[.int .i64 a5_0, .slice A5_1 l5_1.length c5_1, .slice A5_2 l5_2.length c5_2] 33 (0, 0)) (by (with_reducible repeat (first | refine blk_drewN ?_ _ | refine blk_drew ?_ | refine blk_alloc ?_ _)); exact BK519.out) hb); have n2_ := Aside0.mk (below_step (by repeat (first | (with_reducible first | exact HB.out | apply below_alloc | apply pw_below_drewN | apply below_drew1 | refine below_set ?_ GE519.out) | exact HB.out)) hb); clear BK519; clear HB; have HO523 := n0_; have BK519 := n1_; have HB := n2_; clear n0_ n1_ n2_; clear hb ho32; obtain ⟨Ao33, co33, eo33⟩ := Kd.R_slice HO523.out; subst eo33) | ((with_reducible refine gate_callee (f := 37) rfl ?_); refine goesL_ (some 28) rfl rfl Tryz.func37 (by kernel_rfl) rfl #[.slice Ao33 y521.length co33] rfl (by (try simp only [List.map_toArray, List.map_cons, List.map_nil]); first | done | rfl | (simp only [List.length_drop, List.length_take]; rfl)) ?_; (with_reducible refine (customhouselaw03_short.calls k _ _ y521 false _ ?side1 ?side2 A11.out).mono ?_); (case side1 => repeat (first | exact (Kd.R_reads' HO523.out).2.2 | (with_reducible refine Kd.C_alloc ?_ _) | (with_reducible refine Kd.C_drewN ?_ _) | (with_reducible refine Kd.C_drew ?_))); (case side2 => exact (Kd.R_reads' HO523.out).2.1); rintro e w' ⟨rfl, ⟨nd, rfl⟩⟩; refine ⟨_, rfl, ?_⟩))
   go_meet
   case rel => exact ⟨_, (true), (by first | rfl | (simp; done) | (simp [*]; done)), H', ⟨by first | omega | exact Nat.le_refl _⟩, ⟨by (with_reducible repeat (first | refine blk_drewN ?_ _ | refine blk_drew ?_ | refine blk_alloc ?_ _)); exact BK519.out⟩, ⟨by repeat (first | (with_reducible first | exact HB.out | apply below_alloc | apply pw_below_drewN | apply below_drew1 | refine below_set ?_ GE519.out) | exact HB.out)⟩⟩
 case rest =>
  clear HC8
  try clear c1
  try clear p2
  try clear c3
  try clear c5
  try clear c12
  try clear c14
  try clear c15
  try clear c15b0
  try clear hcz19_0
  try clear hcz19_1
  try clear hcz19_2
  try clear hcz24_0
  try clear hcz24_1
  try clear hcz24_2
  try clear hcz29_0
  try clear hcz29_1
  try clear hcz29_2
  try clear hfz19_0
  try clear hfz19_1
  try clear hfz19_2
  try clear hfz24_0
  try clear hfz24_1
  try clear hfz24_2
  try clear hfz29_0
  try clear hfz29_1
  try clear hfz29_2
  obtain ⟨kq, x42_7, rfl, HA, HJ7, BK519, HB⟩ := hcut
  cases kq with
  | zero => exact absurd HA.out (by simp [customhouselaw03_SealMatchesReference.j0])
  | succ kj7 =>
   have H := HA.out; clear HA
   simp only [customhouselaw03_SealMatchesReference.j0] at H
   by_cases c34 : x42_7 = true
   ·subst c34
    have H1 : (some t520) = some r := by rw [if_pos rfl] at H; exact H
    clear H; have H := H1; clear H1
    obtain rfl := Option.some.inj H
    go_wp2; go_ret
    exact ⟨by first | rfl | (simp [errW_none, errW_some] <;> rfl) | (simp [*, errW_none, errW_some] <;> rfl), by repeat (first | (with_reducible first | exact HB.out | apply below_alloc | apply pw_below_drewN | apply below_drew1 | refine below_set ?_ GE519.out) | exact HB.out)⟩
   ·replace c34 := Bool.eq_false_iff.mpr c34
    subst c34
    have H1 : ((seal_Public.f kj7 a0 a1).bind fun bt526 => ((customhouseref03_Public.f kj7 a0 a1).bind fun bt528 => ((seal_Sign.f a0 a1 a2 a3).bind fun bt530 => ((customhouseref03_Sign.f kj7 a0 a1 a2 a3).bind fun bt539 => (if bt526.1.toList = bt528.1.toList then (if bt526.2 = bt528.2 then (if bt530.2.2.2 = bt539.2.2.2 then ((customhouseref03_Same.f kj7 bt530.1 bt530.2.1 bt530.2.2.1 bt539.1 bt539.2.1 bt539.2.2.1).bind fun t548 => (customhouselaw03_SealMatchesReference.j1 kj7 a3 a4 t520 bt526.1 bt528.1 t548 a5_0 l5_1 l5_2)) else (customhouselaw03_SealMatchesReference.j1 kj7 a3 a4 t520 bt526.1 bt528.1 false a5_0 l5_1 l5_2)) else (customhouselaw03_SealMatchesReference.j1 kj7 a3 a4 t520 bt526.1 bt528.1 false a5_0 l5_1 l5_2)) else (customhouselaw03_SealMatchesReference.j1 kj7 a3 a4 t520 bt526.1 bt528.1 false a5_0 l5_1 l5_2)))))) = some r := by rw [if_neg (show ¬ (false = true) by decide)] at H; exact H
    clear H; have H := H1; clear H1
    replace H := Option.bind_eq_some_iff.mp H
    obtain ⟨⟨t526, t527⟩, A350, H⟩ := H
    replace H : ((customhouseref03_Public.f kj7 a0 a1).bind fun bt528 => ((seal_Sign.f a0 a1 a2 a3).bind fun bt530 => ((customhouseref03_Sign.f kj7 a0 a1 a2 a3).bind fun bt539 => (if t526.toList = bt528.1.toList then (if t527 = bt528.2 then (if bt530.2.2.2 = bt539.2.2.2 then ((customhouseref03_Same.f kj7 bt530.1 bt530.2.1 bt530.2.2.1 bt539.1 bt539.2.1 bt539.2.2.1).bind fun t548 => (customhouselaw03_SealMatchesReference.j1 kj7 a3 a4 t520 t526 bt528.1 t548 a5_0 l5_1 l5_2)) else (customhouselaw03_SealMatchesReference.j1 kj7 a3 a4 t520 t526 bt528.1 false a5_0 l5_1 l5_2)) else (customhouselaw03_SealMatchesReference.j1 kj7 a3 a4 t520 t526 bt528.1 false a5_0 l5_1 l5_2)) else (customhouselaw03_SealMatchesReference.j1 kj7 a3 a4 t520 t526 bt528.1 false a5_0 l5_1 l5_2))))) = some r := H
    have A35 := Aside0.mk A350
    clear A350
    replace H := Option.bind_eq_some_iff.mp H
    obtain ⟨⟨t528, t529⟩, A360, H⟩ := H
    replace H : ((seal_Sign.f a0 a1 a2 a3).bind fun bt530 => ((customhouseref03_Sign.f kj7 a0 a1 a2 a3).bind fun bt539 => (if t526.toList = t528.toList then (if t527 = t529 then (if bt530.2.2.2 = bt539.2.2.2 then ((customhouseref03_Same.f kj7 bt530.1 bt530.2.1 bt530.2.2.1 bt539.1 bt539.2.1 bt539.2.2.1).bind fun t548 => (customhouselaw03_SealMatchesReference.j1 kj7 a3 a4 t520 t526 t528 t548 a5_0 l5_1 l5_2)) else (customhouselaw03_SealMatchesReference.j1 kj7 a3 a4 t520 t526 t528 false a5_0 l5_1 l5_2)) else (customhouselaw03_SealMatchesReference.j1 kj7 a3 a4 t520 t526 t528 false a5_0 l5_1 l5_2)) else (customhouselaw03_SealMatchesReference.j1 kj7 a3 a4 t520 t526 t528 false a5_0 l5_1 l5_2)))) = some r := H
    have A36 := Aside0.mk A360
    clear A360
    replace H := Option.bind_eq_some_iff.mp H
    obtain ⟨⟨t530, t531, t534, t537⟩, A370, H⟩ := H
    replace H : ((customhouseref03_Sign.f kj7 a0 a1 a2 a3).bind fun bt539 => (if t526.toList = t528.toList then (if t527 = t529 then (if t537 = bt539.2.2.2 then ((customhouseref03_Same.f kj7 t530 t531 t534 bt539.1 bt539.2.1 bt539.2.2.1).bind fun t548 => (customhouselaw03_SealMatchesReference.j1 kj7 a3 a4 t520 t526 t528 t548 a5_0 l5_1 l5_2)) else (customhouselaw03_SealMatchesReference.j1 kj7 a3 a4 t520 t526 t528 false a5_0 l5_1 l5_2)) else (customhouselaw03_SealMatchesReference.j1 kj7 a3 a4 t520 t526 t528 false a5_0 l5_1 l5_2)) else (customhouselaw03_SealMatchesReference.j1 kj7 a3 a4 t520 t526 t528 false a5_0 l5_1 l5_2))) = some r := H
    have A37 := Aside0.mk A370
    clear A370
    replace H := Option.bind_eq_some_iff.mp H
    obtain ⟨⟨t539, t540, t543, t546⟩, A380, H⟩ := H
    replace H : (if t526.toList = t528.toList then (if t527 = t529 then (if t537 = t546 then ((customhouseref03_Same.f kj7 t530 t531 t534 t539 t540 t543).bind fun t548 => (customhouselaw03_SealMatchesReference.j1 kj7 a3 a4 t520 t526 t528 t548 a5_0 l5_1 l5_2)) else (customhouselaw03_SealMatchesReference.j1 kj7 a3 a4 t520 t526 t528 false a5_0 l5_1 l5_2)) else (customhouselaw03_SealMatchesReference.j1 kj7 a3 a4 t520 t526 t528 false a5_0 l5_1 l5_2)) else (customhouselaw03_SealMatchesReference.j1 kj7 a3 a4 t520 t526 t528 false a5_0 l5_1 l5_2)) = some r := H
    have A38 := Aside0.mk A380
    clear A380
    have HC39 := Aside0.mk H
    clear H
    go_upto_region 8 with (first | ((with_reducible refine gate_callee (f := 39) rfl ?_); refine goesL_ (some 47) rfl rfl Tryz.func39 (by kernel_rfl) rfl #[.string a0, .int .i64 a1] rfl (by (try simp only [List.map_toArray, List.map_cons, List.map_nil]); first | done | rfl | (simp only [List.length_drop, List.length_take]; rfl)) ?_; (with_reducible refine (seal_Public.calls kj7 a0 a1 t526 t527 _ ?side1 A35.out).mono ?_); (case side1 => exact GL.below HG.out (by repeat (first | (with_reducible first | exact HB.out | apply below_alloc | apply pw_below_drewN | apply below_drew1 | refine below_set ?_ GE519.out) | exact HB.out))); rintro e w40 ⟨rfl, hb⟩; refine ⟨_, rfl, ?_⟩; have n0_ := Aside0.mk (blk_below (g := gb519) (o := .cells #[.int .i64 a5_0, .slice A5_1 l5_1.length c5_1, .slice A5_2 l5_2.length c5_2] 33 (0, 0)) (by (with_reducible repeat (first | refine blk_drewN ?_ _ | refine blk_drew ?_ | refine blk_alloc ?_ _)); exact BK519.out) hb); have n1_ := Aside0.mk (below_step (by repeat (first | (with_reducible first | exact HB.out | apply below_alloc | apply pw_below_drewN | apply below_drew1 | refine below_set ?_ GE519.out) | exact HB.out)) hb); clear BK519; clear HB; have BK519 := n0_; have HB := n1_; clear n0_ n1_; (try clear hb); (try clear hb2); (try clear hk); (try clear hi)) | ((with_reducible refine gate_callee (f := 40) rfl ?_); refine goesL_ (some 53) rfl rfl Tryz.func40 (by kernel_rfl) rfl #[.string a0, .int .i64 a1] rfl (by (try simp only [List.map_toArray, List.map_cons, List.map_nil]); first | done | rfl | (simp only [List.length_drop, List.length_take]; rfl)) ?_; (with_reducible refine (customhouseref03_Public.calls kj7 a0 a1 t528 t529 _ A36.out).mono ?_); rintro e w41 ⟨rfl, hb⟩; refine ⟨_, rfl, ?_⟩; have n0_ := Aside0.mk (blk_below (g := gb519) (o := .cells #[.int .i64 a5_0, .slice A5_1 l5_1.length c5_1, .slice A5_2 l5_2.length c5_2] 33 (0, 0)) (by (with_reducible repeat (first | refine blk_drewN ?_ _ | refine blk_drew ?_ | refine blk_alloc ?_ _)); exact BK519.out) hb); have n1_ := Aside0.mk (below_step (by repeat (first | (with_reducible first | exact HB.out | apply below_alloc | apply pw_below_drewN | apply below_drew1 | refine below_set ?_ GE519.out) | exact HB.out)) hb); clear BK519; clear HB; have BK519 := n0_; have HB := n1_; clear n0_ n1_; (try clear hb); (try clear hb2); (try clear hk); (try clear hi)) | ((with_reducible refine gate_callee (f := 41) rfl ?_); refine goesL_ (some 61) rfl rfl Tryz.func41 (by kernel_rfl) rfl #[.string a0, .int .i64 a1, .int .i64 a2, .string a3] rfl (by (try simp only [List.map_toArray, List.map_cons, List.map_nil]); first | done | rfl | (simp only [List.length_drop, List.length_take]; rfl)) ?_; (with_reducible refine (seal_Sign.calls a0 a1 a2 a3 t530 t531 t534 t537 _ ?side1 A37.out).mono ?_); (case side1 => exact GL.below HG.out (by repeat (first | (with_reducible first | exact HB.out | apply below_alloc | apply pw_below_drewN | apply below_drew1 | refine below_set ?_ GE519.out) | exact HB.out))); rintro e w42 ⟨v532, v535, rfl, ho0, ho1, hb⟩; refine ⟨_, rfl, ?_⟩; have n0_ := Aside0.mk (Kd.R_lower ho0 (below_size (by repeat (first | (with_reducible first | exact HB.out | apply below_alloc | apply pw_below_drewN | apply below_drew1 | refine below_set ?_ GE519.out) | exact HB.out)))); have n1_ := Aside0.mk (Kd.R_lower ho1 (below_size (by repeat (first | (with_reducible first | exact HB.out | apply below_alloc | apply pw_below_drewN | apply below_drew1 | refine below_set ?_ GE519.out) | exact HB.out)))); have n2_ := Aside0.mk (blk_below (g := gb519) (o := .cells #[.int .i64 a5_0, .slice A5_1 l5_1.length c5_1, .slice A5_2 l5_2.length c5_2] 33 (0, 0)) (by (with_reducible repeat (first | refine blk_drewN ?_ _ | refine blk_drew ?_ | refine blk_alloc ?_ _)); exact BK519.out) hb); have n3_ := Aside0.mk (below_step (by repeat (first | (with_reducible first | exact HB.out | apply below_alloc | apply pw_below_drewN | apply below_drew1 | refine below_set ?_ GE519.out) | exact HB.out)) hb); clear BK519; clear HB; have HO533 := n0_; have HO536 := n1_; have BK519 := n2_; have HB := n3_; clear n0_ n1_ n2_ n3_; (try clear hb); (try clear hb2); (try clear hk); (try clear hi); (try clear ho0); (try clear ho1)) | ((with_reducible refine gate_dst (N := 18) rfl ?_); refine box_event ?hg (N := 18) ?hd (cs := #[.int .i64 0, .slice none 0 0, .slice none 0 0]) (t := 33) ?hr ?_; (case hd => rfl); (case hg => rfl); (case hr => first | (go_simp; done) | (go_simp; rfl)); intro gb538 hg w43 hbox hb; have n0_ := Aside0.mk (Kd.R_below (by (with_reducible repeat (first | apply Kd.R_alloc | apply Kd.R_drewN | apply Kd.R_drew)); exact HO533.out) hb); have n1_ := Aside0.mk (Kd.R_below (by (with_reducible repeat (first | apply Kd.R_alloc | apply Kd.R_drewN | apply Kd.R_drew)); exact HO536.out) hb); have n2_ := Aside0.mk (blk_below (g := gb519) (o := .cells #[.int .i64 a5_0, .slice A5_1 l5_1.length c5_1, .slice A5_2 l5_2.length c5_2] 33 (0, 0)) (by (with_reducible repeat (first | refine blk_drewN ?_ _ | refine blk_drew ?_ | refine blk_alloc ?_ _)); exact BK519.out) hb); have n3_ := Aside0.mk (below_step (by repeat (first | (with_reducible first | exact HB.out | apply below_alloc | apply pw_below_drewN | apply below_drew1 | refine below_set ?_ GE519.out) | exact HB.out)) hb); have n4_ := Aside0.mk (hbox); have n5_ := Aside0.mk ((by rw [hg]; exact (below_size (by repeat (first | (with_reducible first | exact HB.out | apply below_alloc | apply pw_below_drewN | apply below_drew1 | refine below_set ?_ GE519.out) | exact HB.out))) : w.heap.size ≤ gb538)); have n6_ := Aside0.mk ((by rw [hg]; exact (below_size (by repeat (first | (with_reducible first | exact HB.out | apply below_alloc | apply pw_below_drewN | apply below_drew1 | refine below_set ?_ GE519.out) | exact HB.out))) : w.heap.size ≤ gb538)); have n7_ := Aside0.mk ((by rw [hg]; exact Nat.ne_of_lt (blk_lt (g := gb519) (o := .cells #[.int .i64 a5_0, .slice A5_1 l5_1.length c5_1, .slice A5_2 l5_2.length c5_2] 33 (0, 0)) (by (with_reducible repeat (first | refine blk_drewN ?_ _ | refine blk_drew ?_ | refine blk_alloc ?_ _)); exact BK519.out)) : gb519 ≠ gb538)); have n8_ := Aside0.mk ((by rw [hg]; exact Nat.ne_of_gt (blk_lt (g := gb519) (o := .cells #[.int .i64 a5_0, .slice A5_1 l5_1.length c5_1, .slice A5_2 l5_2.length c5_2] 33 (0, 0)) (by (with_reducible repeat (first | refine blk_drewN ?_ _ | refine blk_drew ?_ | refine blk_alloc ?_ _)); exact BK519.out)) : gb538 ≠ gb519)); clear HO533; clear HO536; clear BK519; clear HB; have HO533 := n0_; have HO536 := n1_; have BK519 := n2_; have HB := n3_; have BK538 := n4_; have GW538 := n5_; have GE538 := n6_; have NB519_538 := n7_; have NB538_519 := n8_; clear n0_ n1_ n2_ n3_ n4_ n5_ n6_ n7_ n8_; clear hb hbox hg; have hnb44 := NB538_519.out; have hnc44 := NB519_538.out; have hcz45_0 : w43.cell? ⟨gb538, 0, none⟩ = some (.int .i64 0) := (blk_cell BK538.out 0).trans rfl; have hcz45_1 : w43.cell? ⟨gb538, 1, none⟩ = some (.slice none 0 0) := (blk_cell BK538.out 1).trans rfl; have hcz45_2 : w43.cell? ⟨gb538, 2, none⟩ = some (.slice none 0 0) := (blk_cell BK538.out 2).trans rfl; have hfz45_0 := blk_frozen BK538.out 0; have hfz45_1 := blk_frozen BK538.out 1; have hfz45_2 := blk_frozen BK538.out 2; obtain ⟨Ao46, co46, eo46⟩ := Kd.R_slice HO533.out; subst eo46; obtain ⟨Ao47, co47, eo47⟩ := Kd.R_slice HO536.out; subst eo47) | ((with_reducible refine gate_callee (f := 42) rfl ?_); refine goesL_ (some 69) rfl rfl Tryz.func42 (by kernel_rfl) rfl #[.string a0, .int .i64 a1, .int .i64 a2, .string a3] rfl (by (try simp only [List.map_toArray, List.map_cons, List.map_nil]); first | done | rfl | (simp only [List.length_drop, List.length_take]; rfl)) ?_; (with_reducible refine (customhouseref03_Sign.calls kj7 a0 a1 a2 a3 t539 t540 t543 t546 _ A38.out).mono ?_); rintro e w48 ⟨v541, v544, rfl, ho0, ho1, hb⟩; refine ⟨_, rfl, ?_⟩; have n0_ := Aside0.mk (Kd.R_mono (Kd.R_told (Kd.R_told (Kd.R_old (by (with_reducible repeat (first | apply Kd.R_alloc | apply Kd.R_drewN | apply Kd.R_drew)); exact (Kd.R_mono (Kd.R_far (p := ⟨gb538, 2, none⟩) (Kd.R_far (p := ⟨gb538, 1, none⟩) (Kd.R_far (p := ⟨gb538, 0, none⟩) (Kd.R_types HO533.out BK538.out (by decide)) (fun _ hk => hk.2) (.int .i64 t530)) (fun _ hk => hk.2) (.slice Ao46 t531.length co46)) (fun _ hk => hk.2) (.slice Ao47 t534.length co47)) (fun _ h_ => h_.1))) hb) (Kd.R_base ho0)) (Kd.R_base ho1)) (fun _ h_ => h_.1)); have n1_ := Aside0.mk (Kd.R_mono (Kd.R_told (Kd.R_told (Kd.R_old (by (with_reducible repeat (first | apply Kd.R_alloc | apply Kd.R_drewN | apply Kd.R_drew)); exact (Kd.R_mono (Kd.R_far (p := ⟨gb538, 2, none⟩) (Kd.R_far (p := ⟨gb538, 1, none⟩) (Kd.R_far (p := ⟨gb538, 0, none⟩) (Kd.R_types HO536.out BK538.out (by decide)) (fun _ hk => hk.2) (.int .i64 t530)) (fun _ hk => hk.2) (.slice Ao46 t531.length co46)) (fun _ hk => hk.2) (.slice Ao47 t534.length co47)) (fun _ h_ => h_.1))) hb) (Kd.R_base ho0)) (Kd.R_base ho1)) (fun _ h_ => h_.1)); have n2_ := Aside0.mk (Kd.R_lower (Kd.R_new' (Kd.R_new' ho0 (Kd.R_lt (by (with_reducible repeat (first | apply Kd.R_alloc | apply Kd.R_drewN | apply Kd.R_drew)); exact (Kd.R_mono (Kd.R_far (p := ⟨gb538, 2, none⟩) (Kd.R_far (p := ⟨gb538, 1, none⟩) (Kd.R_far (p := ⟨gb538, 0, none⟩) (Kd.R_types HO533.out BK538.out (by decide)) (fun _ hk => hk.2) (.int .i64 t530)) (fun _ hk => hk.2) (.slice Ao46 t531.length co46)) (fun _ hk => hk.2) (.slice Ao47 t534.length co47)) (fun _ h_ => h_.1))))) (Kd.R_lt (by (with_reducible repeat (first | apply Kd.R_alloc | apply Kd.R_drewN | apply Kd.R_drew)); exact (Kd.R_mono (Kd.R_far (p := ⟨gb538, 2, none⟩) (Kd.R_far (p := ⟨gb538, 1, none⟩) (Kd.R_far (p := ⟨gb538, 0, none⟩) (Kd.R_types HO536.out BK538.out (by decide)) (fun _ hk => hk.2) (.int .i64 t530)) (fun _ hk => hk.2) (.slice Ao46 t531.length co46)) (fun _ hk => hk.2) (.slice Ao47 t534.length co47)) (fun _ h_ => h_.1))))) (below_size (by repeat (first | (with_reducible first | exact HB.out | apply below_alloc | apply pw_below_drewN | apply below_drew1 | refine below_set ?_ GE519.out | refine below_set ?_ GE538.out) | exact HB.out)))); have n3_ := Aside0.mk (Kd.R_lower (Kd.R_new' (Kd.R_new' ho1 (Kd.R_lt (by (with_reducible repeat (first | apply Kd.R_alloc | apply Kd.R_drewN | apply Kd.R_drew)); exact (Kd.R_mono (Kd.R_far (p := ⟨gb538, 2, none⟩) (Kd.R_far (p := ⟨gb538, 1, none⟩) (Kd.R_far (p := ⟨gb538, 0, none⟩) (Kd.R_types HO533.out BK538.out (by decide)) (fun _ hk => hk.2) (.int .i64 t530)) (fun _ hk => hk.2) (.slice Ao46 t531.length co46)) (fun _ hk => hk.2) (.slice Ao47 t534.length co47)) (fun _ h_ => h_.1))))) (Kd.R_lt (by (with_reducible repeat (first | apply Kd.R_alloc | apply Kd.R_drewN | apply Kd.R_drew)); exact (Kd.R_mono (Kd.R_far (p := ⟨gb538, 2, none⟩) (Kd.R_far (p := ⟨gb538, 1, none⟩) (Kd.R_far (p := ⟨gb538, 0, none⟩) (Kd.R_types HO536.out BK538.out (by decide)) (fun _ hk => hk.2) (.int .i64 t530)) (fun _ hk => hk.2) (.slice Ao46 t531.length co46)) (fun _ hk => hk.2) (.slice Ao47 t534.length co47)) (fun _ h_ => h_.1))))) (below_size (by repeat (first | (with_reducible first | exact HB.out | apply below_alloc | apply pw_below_drewN | apply below_drew1 | refine below_set ?_ GE519.out | refine below_set ?_ GE538.out) | exact HB.out)))); have n4_ := Aside0.mk (blk_below (g := gb519) (o := .cells #[.int .i64 a5_0, .slice A5_1 l5_1.length c5_1, .slice A5_2 l5_2.length c5_2] 33 (0, 0)) (by (with_reducible repeat (first | refine blk_drewN ?_ _ | refine blk_drew ?_ | refine blk_alloc ?_ _)); refine blk_far ?_ NB519_538.out _; (with_reducible repeat (first | refine blk_drewN ?_ _ | refine blk_drew ?_ | refine blk_alloc ?_ _)); refine blk_far ?_ NB519_538.out _; (with_reducible repeat (first | refine blk_drewN ?_ _ | refine blk_drew ?_ | refine blk_alloc ?_ _)); refine blk_far ?_ NB519_538.out _; (with_reducible repeat (first | refine blk_drewN ?_ _ | refine blk_drew ?_ | refine blk_alloc ?_ _)); exact BK519.out) hb); have n5_ := Aside0.mk (blk_below (g := gb538) (o := .cells #[.int .i64 t530, .slice Ao46 t531.length co46, .slice Ao47 t534.length co47] 33 (0, 0)) (by (with_reducible repeat (first | refine blk_drewN ?_ _ | refine blk_drew ?_ | refine blk_alloc ?_ _)); refine blk_put (cs := #[.int .i64 t530, .slice Ao46 t531.length co46, .slice none 0 0]) ?_ 2 _ rfl; (with_reducible repeat (first | refine blk_drewN ?_ _ | refine blk_drew ?_ | refine blk_alloc ?_ _)); refine blk_put (cs := #[.int .i64 t530, .slice none 0 0, .slice none 0 0]) ?_ 1 _ rfl; (with_reducible repeat (first | refine blk_drewN ?_ _ | refine blk_drew ?_ | refine blk_alloc ?_ _)); refine blk_put (cs := #[.int .i64 0, .slice none 0 0, .slice none 0 0]) ?_ 0 _ rfl; (with_reducible repeat (first | refine blk_drewN ?_ _ | refine blk_drew ?_ | refine blk_alloc ?_ _)); exact BK538.out) hb); have n6_ := Aside0.mk (below_step (by repeat (first | (with_reducible first | exact HB.out | apply below_alloc | apply pw_below_drewN | apply below_drew1 | refine below_set ?_ GE519.out | refine below_set ?_ GE538.out) | exact HB.out)) hb); clear HO533; clear HO536; clear BK519; clear BK538; clear HB; have HO533 := n0_; have HO536 := n1_; have HO542 := n2_; have HO545 := n3_; have BK519 := n4_; have BK538 := n5_; have HB := n6_; clear n0_ n1_ n2_ n3_ n4_ n5_ n6_; (try clear hb); (try clear hb2); (try clear hk); (try clear hi); (try clear ho0); (try clear ho1)) | ((with_reducible refine gate_dst (N := 20) rfl ?_); refine box_event ?hg (N := 20) ?hd (cs := #[.int .i64 0, .slice none 0 0, .slice none 0 0]) (t := 33) ?hr ?_; (case hd => rfl); (case hg => rfl); (case hr => first | (go_simp; done) | (go_simp; rfl)); intro gb547 hg w49 hbox hb; have n0_ := Aside0.mk (Kd.R_below (by (with_reducible repeat (first | apply Kd.R_alloc | apply Kd.R_drewN | apply Kd.R_drew)); exact HO533.out) hb); have n1_ := Aside0.mk (Kd.R_below (by (with_reducible repeat (first | apply Kd.R_alloc | apply Kd.R_drewN | apply Kd.R_drew)); exact HO536.out) hb); have n2_ := Aside0.mk (Kd.R_below (by (with_reducible repeat (first | apply Kd.R_alloc | apply Kd.R_drewN | apply Kd.R_drew)); exact HO542.out) hb); have n3_ := Aside0.mk (Kd.R_below (by (with_reducible repeat (first | apply Kd.R_alloc | apply Kd.R_drewN | apply Kd.R_drew)); exact HO545.out) hb); have n4_ := Aside0.mk (blk_below (g := gb519) (o := .cells #[.int .i64 a5_0, .slice A5_1 l5_1.length c5_1, .slice A5_2 l5_2.length c5_2] 33 (0, 0)) (by (with_reducible repeat (first | refine blk_drewN ?_ _ | refine blk_drew ?_ | refine blk_alloc ?_ _)); exact BK519.out) hb); have n5_ := Aside0.mk (blk_below (g := gb538) (o := .cells #[.int .i64 t530, .slice Ao46 t531.length co46, .slice Ao47 t534.length co47] 33 (0, 0)) (by (with_reducible repeat (first | refine blk_drewN ?_ _ | refine blk_drew ?_ | refine blk_alloc ?_ _)); exact BK538.out) hb); have n6_ := Aside0.mk (below_step (by repeat (first | (with_reducible first | exact HB.out | apply below_alloc | apply pw_below_drewN | apply below_drew1 | refine below_set ?_ GE519.out | refine below_set ?_ GE538.out) | exact HB.out)) hb); have n7_ := Aside0.mk (hbox); have n8_ := Aside0.mk ((by rw [hg]; exact (below_size (by repeat (first | (with_reducible first | exact HB.out | apply below_alloc | apply pw_below_drewN | apply below_drew1 | refine below_set ?_ GE519.out | refine below_set ?_ GE538.out) | exact HB.out))) : w.heap.size ≤ gb547)); have n9_ := Aside0.mk ((by rw [hg]; exact (below_size (by repeat (first | (with_reducible first | exact HB.out | apply below_alloc | apply pw_below_drewN | apply below_drew1 | refine below_set ?_ GE519.out | refine below_set ?_ GE538.out) | exact HB.out))) : w.heap.size ≤ gb547)); have n10_ := Aside0.mk ((by rw [hg]; exact Nat.ne_of_lt (blk_lt (g := gb519) (o := .cells #[.int .i64 a5_0, .slice A5_1 l5_1.length c5_1, .slice A5_2 l5_2.length c5_2] 33 (0, 0)) (by (with_reducible repeat (first | refine blk_drewN ?_ _ | refine blk_drew ?_ | refine blk_alloc ?_ _)); exact BK519.out)) : gb519 ≠ gb547)); have n11_ := Aside0.mk ((by rw [hg]; exact Nat.ne_of_gt (blk_lt (g := gb519) (o := .cells #[.int .i64 a5_0, .slice A5_1 l5_1.length c5_1, .slice A5_2 l5_2.length c5_2] 33 (0, 0)) (by (with_reducible repeat (first | refine blk_drewN ?_ _ | refine blk_drew ?_ | refine blk_alloc ?_ _)); exact BK519.out)) : gb547 ≠ gb519)); have n12_ := Aside0.mk ((by rw [hg]; exact Nat.ne_of_lt (blk_lt (g := gb538) (o := .cells #[.int .i64 t530, .slice Ao46 t531.length co46, .slice Ao47 t534.length co47] 33 (0, 0)) (by (with_reducible repeat (first | refine blk_drewN ?_ _ | refine blk_drew ?_ | refine blk_alloc ?_ _)); exact BK538.out)) : gb538 ≠ gb547)); have n13_ := Aside0.mk ((by rw [hg]; exact Nat.ne_of_gt (blk_lt (g := gb538) (o := .cells #[.int .i64 t530, .slice Ao46 t531.length co46, .slice Ao47 t534.length co47] 33 (0, 0)) (by (with_reducible repeat (first | refine blk_drewN ?_ _ | refine blk_drew ?_ | refine blk_alloc ?_ _)); exact BK538.out)) : gb547 ≠ gb538)); clear HO533; clear HO536; clear HO542; clear HO545; clear BK519; clear BK538; clear HB; have HO533 := n0_; have HO536 := n1_; have HO542 := n2_; have HO545 := n3_; have BK519 := n4_; have BK538 := n5_; have HB := n6_; have BK547 := n7_; have GW547 := n8_; have GE547 := n9_; have NB519_547 := n10_; have NB547_519 := n11_; have NB538_547 := n12_; have NB547_538 := n13_; clear n0_ n1_ n2_ n3_ n4_ n5_ n6_ n7_ n8_ n9_ n10_ n11_ n12_ n13_; clear hb hbox hg; have hnb50 := NB547_519.out; have hnc50 := NB519_547.out; have hnb51 := NB547_538.out; have hnc51 := NB538_547.out; have hcz52_0 : w49.cell? ⟨gb547, 0, none⟩ = some (.int .i64 0) := (blk_cell BK547.out 0).trans rfl; have hcz52_1 : w49.cell? ⟨gb547, 1, none⟩ = some (.slice none 0 0) := (blk_cell BK547.out 1).trans rfl; have hcz52_2 : w49.cell? ⟨gb547, 2, none⟩ = some (.slice none 0 0) := (blk_cell BK547.out 2).trans rfl; have hfz52_0 := blk_frozen BK547.out 0; have hfz52_1 := blk_frozen BK547.out 1; have hfz52_2 := blk_frozen BK547.out 2; obtain ⟨Ao53, co53, eo53⟩ := Kd.R_slice HO542.out; subst eo53; obtain ⟨Ao54, co54, eo54⟩ := Kd.R_slice HO545.out; subst eo54))
    (try simp only [Act.put, List.setIfInBounds_toArray, List.set_cons_zero, List.set_cons_succ])
    go_cut [22] (fun v22 wc => ∃ (kq : Nat) (x22_38 : Bool), v22 = .bool x22_38 ∧ Aside0 (customhouselaw03_SealMatchesReference.j1 kq a3 a4 t520 t526 t528 x22_38 a5_0 l5_1 l5_2 = some r) ∧ Aside0 (kq ≤ kj7) ∧ Aside0 (Kd.R Kd.string 9 wc w.heap.size (fun k_ => some k_ ≠ ((.slice Ao47 t534.length co47) : Value).ownBlock ∧ some k_ ≠ ((.slice Ao53 t540.length co53) : Value).ownBlock ∧ some k_ ≠ ((.slice Ao54 t543.length co54) : Value).ownBlock) (.slice Ao46 t531.length co46) t531) ∧ Aside0 (Kd.R Kd.string 9 wc w.heap.size (fun k_ => some k_ ≠ ((.slice Ao46 t531.length co46) : Value).ownBlock ∧ some k_ ≠ ((.slice Ao53 t540.length co53) : Value).ownBlock ∧ some k_ ≠ ((.slice Ao54 t543.length co54) : Value).ownBlock) (.slice Ao47 t534.length co47) t534) ∧ Aside0 (Kd.R Kd.string 9 wc w.heap.size (fun k_ => some k_ ≠ ((.slice Ao46 t531.length co46) : Value).ownBlock ∧ some k_ ≠ ((.slice Ao47 t534.length co47) : Value).ownBlock ∧ some k_ ≠ ((.slice Ao54 t543.length co54) : Value).ownBlock) (.slice Ao53 t540.length co53) t540) ∧ Aside0 (Kd.R Kd.string 9 wc w.heap.size (fun k_ => some k_ ≠ ((.slice Ao46 t531.length co46) : Value).ownBlock ∧ some k_ ≠ ((.slice Ao47 t534.length co47) : Value).ownBlock ∧ some k_ ≠ ((.slice Ao53 t540.length co53) : Value).ownBlock) (.slice Ao54 t543.length co54) t543) ∧ Aside0 (wc.heap[gb519]? = some (.cells #[.int .i64 a5_0, (.slice A5_1 l5_1.length c5_1), (.slice A5_2 l5_2.length c5_2)] 33 (0, 0))) ∧ Aside0 (wc.heap[gb538]? = some (.cells #[.int .i64 t530, (.slice Ao46 t531.length co46), (.slice Ao47 t534.length co47)] 33 (0, 0))) ∧ Aside0 (wc.heap[gb547]? = some (.cells #[.int .i64 t539, (.slice Ao53 t540.length co53), (.slice Ao54 t543.length co54)] 33 (0, 0))) ∧ Aside0 (Below w.heap.size w wc))
    case first =>
     have H := HC39.out; clear HC39
     by_cases c55 : t526.toList = t528.toList
     ·rw [if_pos c55] at H
      have c55b0 : (t526.toList == t528.toList) = true := beq_iff_eq.mpr c55
      have c55b1 : (t526.toList != t528.toList) = false := bne_eq_false_iff_eq.mpr c55
      clear c55
      (first | rw [c55b0] | (simp only [i64_w, i32_w]; rw [c55b0]) | skip)
      by_cases c56 : t527 = t529
      ·rw [if_pos c56] at H
       have c56b0 : (t527 == t529) = true := beq_iff_eq.mpr c56
       have c56b1 : (t527 != t529) = false := bne_eq_false_iff_eq.mpr c56
       clear c56
       by_cases c57 : t537 = t546
       ·rw [if_pos c57] at H
        have c57b0 : (t537 == t546) = true := beq_iff_eq.mpr c57
        have c57b1 : (t537 != t546) = false := bne_eq_false_iff_eq.mpr c57
        clear c57
        replace H := Option.bind_eq_some_iff.mp H
        obtain ⟨t548, A580, H⟩ := H
        replace H : (customhouselaw03_SealMatchesReference.j1 kj7 a3 a4 t520 t526 t528 t548 a5_0 l5_1 l5_2) = some r := H
        have A58 := Aside0.mk A580
        clear A580
        have H' := Aside0.mk H
        clear H; have hnb59 := NB538_519.out; have hnc59 := NB519_538.out; have hnb60 := NB538_547.out; have hnc60 := NB547_538.out
        have hcz61_0 : w49.cell? ⟨gb538, 0, none⟩ = some (.int .i64 t530) := (blk_cell BK538.out 0).trans rfl
        have hcz61_1 : w49.cell? ⟨gb538, 1, none⟩ = some (.slice Ao46 t531.length co46) := (blk_cell BK538.out 1).trans rfl
        have hcz61_2 : w49.cell? ⟨gb538, 2, none⟩ = some (.slice Ao47 t534.length co47) := (blk_cell BK538.out 2).trans rfl
        have hfz61_0 := blk_frozen BK538.out 0
        have hfz61_1 := blk_frozen BK538.out 1
        have hfz61_2 := blk_frozen BK538.out 2
        have hnb62 := NB547_519.out; have hnc62 := NB519_547.out
        have hcz63_0 : w49.cell? ⟨gb547, 0, none⟩ = some (.int .i64 0) := (blk_cell BK547.out 0).trans rfl
        have hcz63_1 : w49.cell? ⟨gb547, 1, none⟩ = some (.slice none 0 0) := (blk_cell BK547.out 1).trans rfl
        have hcz63_2 : w49.cell? ⟨gb547, 2, none⟩ = some (.slice none 0 0) := (blk_cell BK547.out 2).trans rfl
        have hfz63_0 := blk_frozen BK547.out 0
        have hfz63_1 := blk_frozen BK547.out 1
        have hfz63_2 := blk_frozen BK547.out 2
        go_wp2_with (first | (go_at_call 43; (with_reducible refine (customhouseref03_Same.calls kj7 t530 _ _ t531 _ _ t534 t539 _ _ t540 _ _ t543 t548 _ ?side1 ?side2 ?side3 ?side4 ?side5 ?side6 ?side7 ?side8 A58.out).mono ?_); (case side1 => refine (Kd.R_reads' (e := 9) (base := w.heap.size) (ok := fun k_ => ((some k_ ≠ (.slice Ao47 t534.length co47 : Value).ownBlock ∧ some k_ ≠ (.slice Ao53 t540.length co53 : Value).ownBlock) ∧ some k_ ≠ (.slice Ao54 t543.length co54 : Value).ownBlock)) (n := t531.length) (c := co46) ?_).2.2; exact (by (with_reducible repeat (first | apply Kd.R_alloc | apply Kd.R_drewN | apply Kd.R_drew)); exact (Kd.R_mono (Kd.R_far (p := ⟨gb547, 2, none⟩) (Kd.R_far (p := ⟨gb547, 1, none⟩) (Kd.R_far (p := ⟨gb547, 0, none⟩) (Kd.R_types HO533.out BK547.out (by decide)) (fun _ hk => hk.2) (.int .i64 t539)) (fun _ hk => hk.2) (.slice Ao53 t540.length co53)) (fun _ hk => hk.2) (.slice Ao54 t543.length co54)) (fun _ h_ => h_.1)))); (case side2 => exact (Kd.R_reads' HO533.out).2.1); (case side3 => refine (Kd.R_reads' (e := 9) (base := w.heap.size) (ok := fun k_ => ((some k_ ≠ (.slice Ao46 t531.length co46 : Value).ownBlock ∧ some k_ ≠ (.slice Ao53 t540.length co53 : Value).ownBlock) ∧ some k_ ≠ (.slice Ao54 t543.length co54 : Value).ownBlock)) (n := t534.length) (c := co47) ?_).2.2; exact (by (with_reducible repeat (first | apply Kd.R_alloc | apply Kd.R_drewN | apply Kd.R_drew)); exact (Kd.R_mono (Kd.R_far (p := ⟨gb547, 2, none⟩) (Kd.R_far (p := ⟨gb547, 1, none⟩) (Kd.R_far (p := ⟨gb547, 0, none⟩) (Kd.R_types HO536.out BK547.out (by decide)) (fun _ hk => hk.2) (.int .i64 t539)) (fun _ hk => hk.2) (.slice Ao53 t540.length co53)) (fun _ hk => hk.2) (.slice Ao54 t543.length co54)) (fun _ h_ => h_.1)))); (case side4 => exact (Kd.R_reads' HO536.out).2.1); (case side5 => refine (Kd.R_reads' (e := 9) (base := w.heap.size) (ok := fun k_ => ((some k_ ≠ (.slice Ao54 t543.length co54 : Value).ownBlock ∧ some k_ ≠ (.slice Ao46 t531.length co46 : Value).ownBlock) ∧ some k_ ≠ (.slice Ao47 t534.length co47 : Value).ownBlock)) (n := t540.length) (c := co53) ?_).2.2; exact (by (with_reducible repeat (first | apply Kd.R_alloc | apply Kd.R_drewN | apply Kd.R_drew)); exact (Kd.R_mono (Kd.R_far (p := ⟨gb547, 2, none⟩) (Kd.R_far (p := ⟨gb547, 1, none⟩) (Kd.R_far (p := ⟨gb547, 0, none⟩) (Kd.R_types HO542.out BK547.out (by decide)) (fun _ hk => hk.2) (.int .i64 t539)) (fun _ hk => hk.2) (.slice Ao53 t540.length co53)) (fun _ hk => hk.2) (.slice Ao54 t543.length co54)) (fun _ h_ => h_.1)))); (case side6 => exact (Kd.R_reads' HO542.out).2.1); (case side7 => refine (Kd.R_reads' (e := 9) (base := w.heap.size) (ok := fun k_ => ((some k_ ≠ (.slice Ao53 t540.length co53 : Value).ownBlock ∧ some k_ ≠ (.slice Ao46 t531.length co46 : Value).ownBlock) ∧ some k_ ≠ (.slice Ao47 t534.length co47 : Value).ownBlock)) (n := t543.length) (c := co54) ?_).2.2; exact (by (with_reducible repeat (first | apply Kd.R_alloc | apply Kd.R_drewN | apply Kd.R_drew)); exact (Kd.R_mono (Kd.R_far (p := ⟨gb547, 2, none⟩) (Kd.R_far (p := ⟨gb547, 1, none⟩) (Kd.R_far (p := ⟨gb547, 0, none⟩) (Kd.R_types HO545.out BK547.out (by decide)) (fun _ hk => hk.2) (.int .i64 t539)) (fun _ hk => hk.2) (.slice Ao53 t540.length co53)) (fun _ hk => hk.2) (.slice Ao54 t543.length co54)) (fun _ h_ => h_.1)))); (case side8 => exact (Kd.R_reads' HO545.out).2.1); rintro e w64 ⟨rfl, hb⟩; have n0_ := Aside0.mk (Kd.R_below (by (with_reducible repeat (first | apply Kd.R_alloc | apply Kd.R_drewN | apply Kd.R_drew)); exact (Kd.R_mono (Kd.R_far (p := ⟨gb547, 2, none⟩) (Kd.R_far (p := ⟨gb547, 1, none⟩) (Kd.R_far (p := ⟨gb547, 0, none⟩) (Kd.R_types HO533.out BK547.out (by decide)) (fun _ hk => hk.2) (.int .i64 t539)) (fun _ hk => hk.2) (.slice Ao53 t540.length co53)) (fun _ hk => hk.2) (.slice Ao54 t543.length co54)) (fun _ h_ => h_.1))) hb); have n1_ := Aside0.mk (Kd.R_below (by (with_reducible repeat (first | apply Kd.R_alloc | apply Kd.R_drewN | apply Kd.R_drew)); exact (Kd.R_mono (Kd.R_far (p := ⟨gb547, 2, none⟩) (Kd.R_far (p := ⟨gb547, 1, none⟩) (Kd.R_far (p := ⟨gb547, 0, none⟩) (Kd.R_types HO536.out BK547.out (by decide)) (fun _ hk => hk.2) (.int .i64 t539)) (fun _ hk => hk.2) (.slice Ao53 t540.length co53)) (fun _ hk => hk.2) (.slice Ao54 t543.length co54)) (fun _ h_ => h_.1))) hb); have n2_ := Aside0.mk (Kd.R_below (by (with_reducible repeat (first | apply Kd.R_alloc | apply Kd.R_drewN | apply Kd.R_drew)); exact (Kd.R_mono (Kd.R_far (p := ⟨gb547, 2, none⟩) (Kd.R_far (p := ⟨gb547, 1, none⟩) (Kd.R_far (p := ⟨gb547, 0, none⟩) (Kd.R_types HO542.out BK547.out (by decide)) (fun _ hk => hk.2) (.int .i64 t539)) (fun _ hk => hk.2) (.slice Ao53 t540.length co53)) (fun _ hk => hk.2) (.slice Ao54 t543.length co54)) (fun _ h_ => h_.1))) hb); have n3_ := Aside0.mk (Kd.R_below (by (with_reducible repeat (first | apply Kd.R_alloc | apply Kd.R_drewN | apply Kd.R_drew)); exact (Kd.R_mono (Kd.R_far (p := ⟨gb547, 2, none⟩) (Kd.R_far (p := ⟨gb547, 1, none⟩) (Kd.R_far (p := ⟨gb547, 0, none⟩) (Kd.R_types HO545.out BK547.out (by decide)) (fun _ hk => hk.2) (.int .i64 t539)) (fun _ hk => hk.2) (.slice Ao53 t540.length co53)) (fun _ hk => hk.2) (.slice Ao54 t543.length co54)) (fun _ h_ => h_.1))) hb); have n4_ := Aside0.mk (blk_below (g := gb519) (o := .cells #[.int .i64 a5_0, .slice A5_1 l5_1.length c5_1, .slice A5_2 l5_2.length c5_2] 33 (0, 0)) (by (with_reducible repeat (first | refine blk_drewN ?_ _ | refine blk_drew ?_ | refine blk_alloc ?_ _)); refine blk_far ?_ NB519_547.out _; (with_reducible repeat (first | refine blk_drewN ?_ _ | refine blk_drew ?_ | refine blk_alloc ?_ _)); refine blk_far ?_ NB519_547.out _; (with_reducible repeat (first | refine blk_drewN ?_ _ | refine blk_drew ?_ | refine blk_alloc ?_ _)); refine blk_far ?_ NB519_547.out _; (with_reducible repeat (first | refine blk_drewN ?_ _ | refine blk_drew ?_ | refine blk_alloc ?_ _)); exact BK519.out) hb); have n5_ := Aside0.mk (blk_below (g := gb538) (o := .cells #[.int .i64 t530, .slice Ao46 t531.length co46, .slice Ao47 t534.length co47] 33 (0, 0)) (by (with_reducible repeat (first | refine blk_drewN ?_ _ | refine blk_drew ?_ | refine blk_alloc ?_ _)); refine blk_far ?_ NB538_547.out _; (with_reducible repeat (first | refine blk_drewN ?_ _ | refine blk_drew ?_ | refine blk_alloc ?_ _)); refine blk_far ?_ NB538_547.out _; (with_reducible repeat (first | refine blk_drewN ?_ _ | refine blk_drew ?_ | refine blk_alloc ?_ _)); refine blk_far ?_ NB538_547.out _; (with_reducible repeat (first | refine blk_drewN ?_ _ | refine blk_drew ?_ | refine blk_alloc ?_ _)); exact BK538.out) hb); have n6_ := Aside0.mk (blk_below (g := gb547) (o := .cells #[.int .i64 t539, .slice Ao53 t540.length co53, .slice Ao54 t543.length co54] 33 (0, 0)) (by (with_reducible repeat (first | refine blk_drewN ?_ _ | refine blk_drew ?_ | refine blk_alloc ?_ _)); refine blk_put (cs := #[.int .i64 t539, .slice Ao53 t540.length co53, .slice none 0 0]) ?_ 2 _ rfl; (with_reducible repeat (first | refine blk_drewN ?_ _ | refine blk_drew ?_ | refine blk_alloc ?_ _)); refine blk_put (cs := #[.int .i64 t539, .slice none 0 0, .slice none 0 0]) ?_ 1 _ rfl; (with_reducible repeat (first | refine blk_drewN ?_ _ | refine blk_drew ?_ | refine blk_alloc ?_ _)); refine blk_put (cs := #[.int .i64 0, .slice none 0 0, .slice none 0 0]) ?_ 0 _ rfl; (with_reducible repeat (first | refine blk_drewN ?_ _ | refine blk_drew ?_ | refine blk_alloc ?_ _)); exact BK547.out) hb); have n7_ := Aside0.mk (below_step (by repeat (first | (with_reducible first | exact HB.out | apply below_alloc | apply pw_below_drewN | apply below_drew1 | refine below_set ?_ GE519.out | refine below_set ?_ GE538.out | refine below_set ?_ GE547.out) | exact HB.out)) hb); clear HO533; clear HO536; clear HO542; clear HO545; clear BK519; clear BK538; clear BK547; clear HB; have HO533 := n0_; have HO536 := n1_; have HO542 := n2_; have HO545 := n3_; have BK519 := n4_; have BK538 := n5_; have BK547 := n6_; have HB := n7_; clear n0_ n1_ n2_ n3_ n4_ n5_ n6_ n7_; (try clear hb); (try clear hb2); (try clear hk); (try clear hi)))
        go_meet
        case rel => exact ⟨_, (t548), (by first | rfl | (simp; done) | (simp [*]; done)), H', ⟨by have := HJ7.out; first | omega | exact Nat.le_refl _⟩, ⟨by (with_reducible repeat (first | apply Kd.R_alloc | apply Kd.R_drewN | apply Kd.R_drew)); exact Kd.R_mono HO533.out (fun _ hk => ⟨hk.1.1, ⟨hk.1.2, hk.2⟩⟩)⟩, ⟨by (with_reducible repeat (first | apply Kd.R_alloc | apply Kd.R_drewN | apply Kd.R_drew)); exact Kd.R_mono HO536.out (fun _ hk => ⟨hk.1.1, ⟨hk.1.2, hk.2⟩⟩)⟩, ⟨by (with_reducible repeat (first | apply Kd.R_alloc | apply Kd.R_drewN | apply Kd.R_drew)); exact Kd.R_mono HO542.out (fun _ hk => ⟨hk.1.2, ⟨hk.2, hk.1.1⟩⟩)⟩, ⟨by (with_reducible repeat (first | apply Kd.R_alloc | apply Kd.R_drewN | apply Kd.R_drew)); exact Kd.R_mono HO545.out (fun _ hk => ⟨hk.1.2, ⟨hk.2, hk.1.1⟩⟩)⟩, ⟨by (with_reducible repeat (first | refine blk_drewN ?_ _ | refine blk_drew ?_ | refine blk_alloc ?_ _)); exact BK519.out⟩, ⟨by (with_reducible repeat (first | refine blk_drewN ?_ _ | refine blk_drew ?_ | refine blk_alloc ?_ _)); exact BK538.out⟩, ⟨by (with_reducible repeat (first | refine blk_drewN ?_ _ | refine blk_drew ?_ | refine blk_alloc ?_ _)); exact BK547.out⟩, ⟨by repeat (first | (with_reducible first | exact HB.out | apply below_alloc | apply pw_below_drewN | apply below_drew1 | refine below_set ?_ GE519.out | refine below_set ?_ GE538.out | refine below_set ?_ GE547.out) | exact HB.out)⟩⟩
       ·rw [if_neg c57] at H
        have c57b0 : (t537 == t546) = false := beq_eq_false_iff_ne.mpr c57
        have c57b1 : (t537 != t546) = true := bne_iff_ne.mpr c57
        have H' := Aside0.mk H
        clear H; go_wp2
        go_meet
        case rel => exact ⟨_, (false), (by first | rfl | (simp; done) | (simp [*]; done)), H', ⟨by have := HJ7.out; first | omega | exact Nat.le_refl _⟩, ⟨by (with_reducible repeat (first | apply Kd.R_alloc | apply Kd.R_drewN | apply Kd.R_drew)); exact Kd.R_mono (Kd.R_far (p := ⟨gb547, 2, none⟩) (Kd.R_far (p := ⟨gb547, 1, none⟩) (Kd.R_far (p := ⟨gb547, 0, none⟩) (Kd.R_types HO533.out BK547.out (by decide)) (fun _ hk => hk.2) (.int .i64 t539)) (fun _ hk => hk.2) (.slice Ao53 t540.length co53)) (fun _ hk => hk.2) (.slice Ao54 t543.length co54)) (fun _ hk => ⟨hk.1.1.1, ⟨hk.1.1.2, hk.1.2⟩⟩)⟩, ⟨by (with_reducible repeat (first | apply Kd.R_alloc | apply Kd.R_drewN | apply Kd.R_drew)); exact Kd.R_mono (Kd.R_far (p := ⟨gb547, 2, none⟩) (Kd.R_far (p := ⟨gb547, 1, none⟩) (Kd.R_far (p := ⟨gb547, 0, none⟩) (Kd.R_types HO536.out BK547.out (by decide)) (fun _ hk => hk.2) (.int .i64 t539)) (fun _ hk => hk.2) (.slice Ao53 t540.length co53)) (fun _ hk => hk.2) (.slice Ao54 t543.length co54)) (fun _ hk => ⟨hk.1.1.1, ⟨hk.1.1.2, hk.1.2⟩⟩)⟩, ⟨by (with_reducible repeat (first | apply Kd.R_alloc | apply Kd.R_drewN | apply Kd.R_drew)); exact Kd.R_mono (Kd.R_far (p := ⟨gb547, 2, none⟩) (Kd.R_far (p := ⟨gb547, 1, none⟩) (Kd.R_far (p := ⟨gb547, 0, none⟩) (Kd.R_types HO542.out BK547.out (by decide)) (fun _ hk => hk.2) (.int .i64 t539)) (fun _ hk => hk.2) (.slice Ao53 t540.length co53)) (fun _ hk => hk.2) (.slice Ao54 t543.length co54)) (fun _ hk => ⟨hk.1.1.2, ⟨hk.1.2, hk.1.1.1⟩⟩)⟩, ⟨by (with_reducible repeat (first | apply Kd.R_alloc | apply Kd.R_drewN | apply Kd.R_drew)); exact Kd.R_mono (Kd.R_far (p := ⟨gb547, 2, none⟩) (Kd.R_far (p := ⟨gb547, 1, none⟩) (Kd.R_far (p := ⟨gb547, 0, none⟩) (Kd.R_types HO545.out BK547.out (by decide)) (fun _ hk => hk.2) (.int .i64 t539)) (fun _ hk => hk.2) (.slice Ao53 t540.length co53)) (fun _ hk => hk.2) (.slice Ao54 t543.length co54)) (fun _ hk => ⟨hk.1.1.2, ⟨hk.1.2, hk.1.1.1⟩⟩)⟩, ⟨by (with_reducible repeat (first | refine blk_drewN ?_ _ | refine blk_drew ?_ | refine blk_alloc ?_ _)); refine blk_far ?_ NB519_547.out _; (with_reducible repeat (first | refine blk_drewN ?_ _ | refine blk_drew ?_ | refine blk_alloc ?_ _)); refine blk_far ?_ NB519_547.out _; (with_reducible repeat (first | refine blk_drewN ?_ _ | refine blk_drew ?_ | refine blk_alloc ?_ _)); refine blk_far ?_ NB519_547.out _; (with_reducible repeat (first | refine blk_drewN ?_ _ | refine blk_drew ?_ | refine blk_alloc ?_ _)); exact BK519.out⟩, ⟨by (with_reducible repeat (first | refine blk_drewN ?_ _ | refine blk_drew ?_ | refine blk_alloc ?_ _)); refine blk_far ?_ NB538_547.out _; (with_reducible repeat (first | refine blk_drewN ?_ _ | refine blk_drew ?_ | refine blk_alloc ?_ _)); refine blk_far ?_ NB538_547.out _; (with_reducible repeat (first | refine blk_drewN ?_ _ | refine blk_drew ?_ | refine blk_alloc ?_ _)); refine blk_far ?_ NB538_547.out _; (with_reducible repeat (first | refine blk_drewN ?_ _ | refine blk_drew ?_ | refine blk_alloc ?_ _)); exact BK538.out⟩, ⟨by (with_reducible repeat (first | refine blk_drewN ?_ _ | refine blk_drew ?_ | refine blk_alloc ?_ _)); refine blk_put (cs := #[.int .i64 t539, .slice Ao53 t540.length co53, .slice none 0 0]) ?_ 2 _ rfl; (with_reducible repeat (first | refine blk_drewN ?_ _ | refine blk_drew ?_ | refine blk_alloc ?_ _)); refine blk_put (cs := #[.int .i64 t539, .slice none 0 0, .slice none 0 0]) ?_ 1 _ rfl; (with_reducible repeat (first | refine blk_drewN ?_ _ | refine blk_drew ?_ | refine blk_alloc ?_ _)); refine blk_put (cs := #[.int .i64 0, .slice none 0 0, .slice none 0 0]) ?_ 0 _ rfl; (with_reducible repeat (first | refine blk_drewN ?_ _ | refine blk_drew ?_ | refine blk_alloc ?_ _)); exact BK547.out⟩, ⟨by repeat (first | (with_reducible first | exact HB.out | apply below_alloc | apply pw_below_drewN | apply below_drew1 | refine below_set ?_ GE519.out | refine below_set ?_ GE538.out | refine below_set ?_ GE547.out) | exact HB.out)⟩⟩
      ·rw [if_neg c56] at H
       have c56b0 : (t527 == t529) = false := beq_eq_false_iff_ne.mpr c56
       have c56b1 : (t527 != t529) = true := bne_iff_ne.mpr c56
       have H' := Aside0.mk H
       clear H; go_wp2
       go_meet
       case rel => exact ⟨_, (false), (by first | rfl | (simp; done) | (simp [*]; done)), H', ⟨by have := HJ7.out; first | omega | exact Nat.le_refl _⟩, ⟨by (with_reducible repeat (first | apply Kd.R_alloc | apply Kd.R_drewN | apply Kd.R_drew)); exact Kd.R_mono (Kd.R_far (p := ⟨gb547, 2, none⟩) (Kd.R_far (p := ⟨gb547, 1, none⟩) (Kd.R_far (p := ⟨gb547, 0, none⟩) (Kd.R_types HO533.out BK547.out (by decide)) (fun _ hk => hk.2) (.int .i64 t539)) (fun _ hk => hk.2) (.slice Ao53 t540.length co53)) (fun _ hk => hk.2) (.slice Ao54 t543.length co54)) (fun _ hk => ⟨hk.1.1.1, ⟨hk.1.1.2, hk.1.2⟩⟩)⟩, ⟨by (with_reducible repeat (first | apply Kd.R_alloc | apply Kd.R_drewN | apply Kd.R_drew)); exact Kd.R_mono (Kd.R_far (p := ⟨gb547, 2, none⟩) (Kd.R_far (p := ⟨gb547, 1, none⟩) (Kd.R_far (p := ⟨gb547, 0, none⟩) (Kd.R_types HO536.out BK547.out (by decide)) (fun _ hk => hk.2) (.int .i64 t539)) (fun _ hk => hk.2) (.slice Ao53 t540.length co53)) (fun _ hk => hk.2) (.slice Ao54 t543.length co54)) (fun _ hk => ⟨hk.1.1.1, ⟨hk.1.1.2, hk.1.2⟩⟩)⟩, ⟨by (with_reducible repeat (first | apply Kd.R_alloc | apply Kd.R_drewN | apply Kd.R_drew)); exact Kd.R_mono (Kd.R_far (p := ⟨gb547, 2, none⟩) (Kd.R_far (p := ⟨gb547, 1, none⟩) (Kd.R_far (p := ⟨gb547, 0, none⟩) (Kd.R_types HO542.out BK547.out (by decide)) (fun _ hk => hk.2) (.int .i64 t539)) (fun _ hk => hk.2) (.slice Ao53 t540.length co53)) (fun _ hk => hk.2) (.slice Ao54 t543.length co54)) (fun _ hk => ⟨hk.1.1.2, ⟨hk.1.2, hk.1.1.1⟩⟩)⟩, ⟨by (with_reducible repeat (first | apply Kd.R_alloc | apply Kd.R_drewN | apply Kd.R_drew)); exact Kd.R_mono (Kd.R_far (p := ⟨gb547, 2, none⟩) (Kd.R_far (p := ⟨gb547, 1, none⟩) (Kd.R_far (p := ⟨gb547, 0, none⟩) (Kd.R_types HO545.out BK547.out (by decide)) (fun _ hk => hk.2) (.int .i64 t539)) (fun _ hk => hk.2) (.slice Ao53 t540.length co53)) (fun _ hk => hk.2) (.slice Ao54 t543.length co54)) (fun _ hk => ⟨hk.1.1.2, ⟨hk.1.2, hk.1.1.1⟩⟩)⟩, ⟨by (with_reducible repeat (first | refine blk_drewN ?_ _ | refine blk_drew ?_ | refine blk_alloc ?_ _)); refine blk_far ?_ NB519_547.out _; (with_reducible repeat (first | refine blk_drewN ?_ _ | refine blk_drew ?_ | refine blk_alloc ?_ _)); refine blk_far ?_ NB519_547.out _; (with_reducible repeat (first | refine blk_drewN ?_ _ | refine blk_drew ?_ | refine blk_alloc ?_ _)); refine blk_far ?_ NB519_547.out _; (with_reducible repeat (first | refine blk_drewN ?_ _ | refine blk_drew ?_ | refine blk_alloc ?_ _)); exact BK519.out⟩, ⟨by (with_reducible repeat (first | refine blk_drewN ?_ _ | refine blk_drew ?_ | refine blk_alloc ?_ _)); refine blk_far ?_ NB538_547.out _; (with_reducible repeat (first | refine blk_drewN ?_ _ | refine blk_drew ?_ | refine blk_alloc ?_ _)); refine blk_far ?_ NB538_547.out _; (with_reducible repeat (first | refine blk_drewN ?_ _ | refine blk_drew ?_ | refine blk_alloc ?_ _)); refine blk_far ?_ NB538_547.out _; (with_reducible repeat (first | refine blk_drewN ?_ _ | refine blk_drew ?_ | refine blk_alloc ?_ _)); exact BK538.out⟩, ⟨by (with_reducible repeat (first | refine blk_drewN ?_ _ | refine blk_drew ?_ | refine blk_alloc ?_ _)); refine blk_put (cs := #[.int .i64 t539, .slice Ao53 t540.length co53, .slice none 0 0]) ?_ 2 _ rfl; (with_reducible repeat (first | refine blk_drewN ?_ _ | refine blk_drew ?_ | refine blk_alloc ?_ _)); refine blk_put (cs := #[.int .i64 t539, .slice none 0 0, .slice none 0 0]) ?_ 1 _ rfl; (with_reducible repeat (first | refine blk_drewN ?_ _ | refine blk_drew ?_ | refine blk_alloc ?_ _)); refine blk_put (cs := #[.int .i64 0, .slice none 0 0, .slice none 0 0]) ?_ 0 _ rfl; (with_reducible repeat (first | refine blk_drewN ?_ _ | refine blk_drew ?_ | refine blk_alloc ?_ _)); exact BK547.out⟩, ⟨by repeat (first | (with_reducible first | exact HB.out | apply below_alloc | apply pw_below_drewN | apply below_drew1 | refine below_set ?_ GE519.out | refine below_set ?_ GE538.out | refine below_set ?_ GE547.out) | exact HB.out)⟩⟩
     ·rw [if_neg c55] at H
      have c55b0 : (t526.toList == t528.toList) = false := beq_eq_false_iff_ne.mpr c55
      have c55b1 : (t526.toList != t528.toList) = true := bne_iff_ne.mpr c55
      (first | rw [c55b0] | (simp only [i64_w, i32_w]; rw [c55b0]) | skip)
      have H' := Aside0.mk H
      clear H; go_wp2
      go_meet
      case rel => exact ⟨_, (false), (by first | rfl | (simp; done) | (simp [*]; done)), H', ⟨by have := HJ7.out; first | omega | exact Nat.le_refl _⟩, ⟨by (with_reducible repeat (first | apply Kd.R_alloc | apply Kd.R_drewN | apply Kd.R_drew)); exact Kd.R_mono (Kd.R_far (p := ⟨gb547, 2, none⟩) (Kd.R_far (p := ⟨gb547, 1, none⟩) (Kd.R_far (p := ⟨gb547, 0, none⟩) (Kd.R_types HO533.out BK547.out (by decide)) (fun _ hk => hk.2) (.int .i64 t539)) (fun _ hk => hk.2) (.slice Ao53 t540.length co53)) (fun _ hk => hk.2) (.slice Ao54 t543.length co54)) (fun _ hk => ⟨hk.1.1.1, ⟨hk.1.1.2, hk.1.2⟩⟩)⟩, ⟨by (with_reducible repeat (first | apply Kd.R_alloc | apply Kd.R_drewN | apply Kd.R_drew)); exact Kd.R_mono (Kd.R_far (p := ⟨gb547, 2, none⟩) (Kd.R_far (p := ⟨gb547, 1, none⟩) (Kd.R_far (p := ⟨gb547, 0, none⟩) (Kd.R_types HO536.out BK547.out (by decide)) (fun _ hk => hk.2) (.int .i64 t539)) (fun _ hk => hk.2) (.slice Ao53 t540.length co53)) (fun _ hk => hk.2) (.slice Ao54 t543.length co54)) (fun _ hk => ⟨hk.1.1.1, ⟨hk.1.1.2, hk.1.2⟩⟩)⟩, ⟨by (with_reducible repeat (first | apply Kd.R_alloc | apply Kd.R_drewN | apply Kd.R_drew)); exact Kd.R_mono (Kd.R_far (p := ⟨gb547, 2, none⟩) (Kd.R_far (p := ⟨gb547, 1, none⟩) (Kd.R_far (p := ⟨gb547, 0, none⟩) (Kd.R_types HO542.out BK547.out (by decide)) (fun _ hk => hk.2) (.int .i64 t539)) (fun _ hk => hk.2) (.slice Ao53 t540.length co53)) (fun _ hk => hk.2) (.slice Ao54 t543.length co54)) (fun _ hk => ⟨hk.1.1.2, ⟨hk.1.2, hk.1.1.1⟩⟩)⟩, ⟨by (with_reducible repeat (first | apply Kd.R_alloc | apply Kd.R_drewN | apply Kd.R_drew)); exact Kd.R_mono (Kd.R_far (p := ⟨gb547, 2, none⟩) (Kd.R_far (p := ⟨gb547, 1, none⟩) (Kd.R_far (p := ⟨gb547, 0, none⟩) (Kd.R_types HO545.out BK547.out (by decide)) (fun _ hk => hk.2) (.int .i64 t539)) (fun _ hk => hk.2) (.slice Ao53 t540.length co53)) (fun _ hk => hk.2) (.slice Ao54 t543.length co54)) (fun _ hk => ⟨hk.1.1.2, ⟨hk.1.2, hk.1.1.1⟩⟩)⟩, ⟨by (with_reducible repeat (first | refine blk_drewN ?_ _ | refine blk_drew ?_ | refine blk_alloc ?_ _)); refine blk_far ?_ NB519_547.out _; (with_reducible repeat (first | refine blk_drewN ?_ _ | refine blk_drew ?_ | refine blk_alloc ?_ _)); refine blk_far ?_ NB519_547.out _; (with_reducible repeat (first | refine blk_drewN ?_ _ | refine blk_drew ?_ | refine blk_alloc ?_ _)); refine blk_far ?_ NB519_547.out _; (with_reducible repeat (first | refine blk_drewN ?_ _ | refine blk_drew ?_ | refine blk_alloc ?_ _)); exact BK519.out⟩, ⟨by (with_reducible repeat (first | refine blk_drewN ?_ _ | refine blk_drew ?_ | refine blk_alloc ?_ _)); refine blk_far ?_ NB538_547.out _; (with_reducible repeat (first | refine blk_drewN ?_ _ | refine blk_drew ?_ | refine blk_alloc ?_ _)); refine blk_far ?_ NB538_547.out _; (with_reducible repeat (first | refine blk_drewN ?_ _ | refine blk_drew ?_ | refine blk_alloc ?_ _)); refine blk_far ?_ NB538_547.out _; (with_reducible repeat (first | refine blk_drewN ?_ _ | refine blk_drew ?_ | refine blk_alloc ?_ _)); exact BK538.out⟩, ⟨by (with_reducible repeat (first | refine blk_drewN ?_ _ | refine blk_drew ?_ | refine blk_alloc ?_ _)); refine blk_put (cs := #[.int .i64 t539, .slice Ao53 t540.length co53, .slice none 0 0]) ?_ 2 _ rfl; (with_reducible repeat (first | refine blk_drewN ?_ _ | refine blk_drew ?_ | refine blk_alloc ?_ _)); refine blk_put (cs := #[.int .i64 t539, .slice none 0 0, .slice none 0 0]) ?_ 1 _ rfl; (with_reducible repeat (first | refine blk_drewN ?_ _ | refine blk_drew ?_ | refine blk_alloc ?_ _)); refine blk_put (cs := #[.int .i64 0, .slice none 0 0, .slice none 0 0]) ?_ 0 _ rfl; (with_reducible repeat (first | refine blk_drewN ?_ _ | refine blk_drew ?_ | refine blk_alloc ?_ _)); exact BK547.out⟩, ⟨by repeat (first | (with_reducible first | exact HB.out | apply below_alloc | apply pw_below_drewN | apply below_drew1 | refine below_set ?_ GE519.out | refine below_set ?_ GE538.out | refine below_set ?_ GE547.out) | exact HB.out)⟩⟩
    case rest =>
     clear HC39
     try clear c1
     try clear p2
     try clear c3
     try clear c4
     try clear c5
     try clear c6
     try clear c12
     try clear c14
     try clear c15
     try clear c15b0
     try clear c34
     try clear c36
     try clear c37
     try clear c39
     try clear c40
     try clear c41
     try clear c42
     try clear c44
     try clear c50
     try clear c51
     try clear c55
     try clear c55b0
     try clear c55b1
     try clear c56
     try clear c56b0
     try clear c56b1
     try clear c57
     try clear c57b0
     try clear c57b1
     try clear c59
     try clear c60
     try clear c62
     try clear hcz19_0
     try clear hcz19_1
     try clear hcz19_2
     try clear hcz24_0
     try clear hcz24_1
     try clear hcz24_2
     try clear hcz29_0
     try clear hcz29_1
     try clear hcz29_2
     try clear hcz45_0
     try clear hcz45_1
     try clear hcz45_2
     try clear hcz52_0
     try clear hcz52_1
     try clear hcz52_2
     try clear hcz61_0
     try clear hcz61_1
     try clear hcz61_2
     try clear hcz63_0
     try clear hcz63_1
     try clear hcz63_2
     try clear hfz19_0
     try clear hfz19_1
     try clear hfz19_2
     try clear hfz24_0
     try clear hfz24_1
     try clear hfz24_2
     try clear hfz29_0
     try clear hfz29_1
     try clear hfz29_2
     try clear hfz45_0
     try clear hfz45_1
     try clear hfz45_2
     try clear hfz52_0
     try clear hfz52_1
     try clear hfz52_2
     try clear hfz61_0
     try clear hfz61_1
     try clear hfz61_2
     try clear hfz63_0
     try clear hfz63_1
     try clear hfz63_2
     try clear p2
     obtain ⟨kq, x22_38, rfl, HA, HJ38, HO_539001, HO_539002, HO_548001, HO_548002, BK519, BK538, BK547, HB⟩ := hcut
     cases kq with
     | zero => exact absurd HA.out (by simp [customhouselaw03_SealMatchesReference.j1])
     | succ kj38 =>
      have H := HA.out; clear HA
      simp only [customhouselaw03_SealMatchesReference.j1] at H
      by_cases c65 : t520 = true
      ·subst c65
       have H1 : (if x22_38 = true then ((seal_Verify.f a4 a3 a5_0 l5_1 l5_2).bind fun t549 => ((customhouseref03_Verify.f kj38 a4 a3 a5_0 l5_1 l5_2).bind fun t550 => (if (t549 == t550) = true then ((seal_Verify.f t526 a3 a5_0 l5_1 l5_2).bind fun t551 => ((customhouseref03_Verify.f kj38 t528 a3 a5_0 l5_1 l5_2).bind fun t552 => (some (t551 == t552)))) else (some false)))) else (some false)) = some r := by rw [if_pos rfl] at H; exact H
       clear H; have H := H1; clear H1
       by_cases c66 : x22_38 = true
       ·subst c66
        have H1 : ((seal_Verify.f a4 a3 a5_0 l5_1 l5_2).bind fun t549 => ((customhouseref03_Verify.f kj38 a4 a3 a5_0 l5_1 l5_2).bind fun t550 => (if (t549 == t550) = true then ((seal_Verify.f t526 a3 a5_0 l5_1 l5_2).bind fun t551 => ((customhouseref03_Verify.f kj38 t528 a3 a5_0 l5_1 l5_2).bind fun t552 => (some (t551 == t552)))) else (some false)))) = some r := by rw [if_pos rfl] at H; exact H
        clear H; have H := H1; clear H1
        replace H := Option.bind_eq_some_iff.mp H
        obtain ⟨t549, A670, H⟩ := H
        replace H : ((customhouseref03_Verify.f kj38 a4 a3 a5_0 l5_1 l5_2).bind fun t550 => (if (t549 == t550) = true then ((seal_Verify.f t526 a3 a5_0 l5_1 l5_2).bind fun t551 => ((customhouseref03_Verify.f kj38 t528 a3 a5_0 l5_1 l5_2).bind fun t552 => (some (t551 == t552)))) else (some false))) = some r := H
        have A67 := Aside0.mk A670
        clear A670
        replace H := Option.bind_eq_some_iff.mp H
        obtain ⟨t550, A680, H⟩ := H
        replace H : (if (t549 == t550) = true then ((seal_Verify.f t526 a3 a5_0 l5_1 l5_2).bind fun t551 => ((customhouseref03_Verify.f kj38 t528 a3 a5_0 l5_1 l5_2).bind fun t552 => (some (t551 == t552)))) else (some false)) = some r := H
        have A68 := Aside0.mk A680
        clear A680
        by_cases c69 : (t549 == t550) = true
        ·rw [if_pos c69] at H
         have c69b0 : (t549 == t550) = true := c69
         (try (have c69b1 : decide (t549 = t550) = true := by simpa using c69))
         (try (have c69b2 : (t549 == t550) = true := by simpa using c69))
         clear c69
         replace H := Option.bind_eq_some_iff.mp H
         obtain ⟨t551, A700, H⟩ := H
         replace H : ((customhouseref03_Verify.f kj38 t528 a3 a5_0 l5_1 l5_2).bind fun t552 => (some (t551 == t552))) = some r := H
         have A70 := Aside0.mk A700
         clear A700
         replace H := Option.bind_eq_some_iff.mp H
         obtain ⟨t552, A710, H⟩ := H
         replace H : (some (t551 == t552)) = some r := H
         have A71 := Aside0.mk A710
         clear A710
         obtain rfl := Option.some.inj H
         try go_wp2
         have n0_ := Aside0.mk (Kd.R_drew HO_539001.out)
         have n1_ := Aside0.mk (Kd.R_drew HO_539002.out)
         have n2_ := Aside0.mk (Kd.R_drew HO_548001.out)
         have n3_ := Aside0.mk (Kd.R_drew HO_548002.out)
         have n4_ := Aside0.mk (blk_drew BK519.out)
         have n5_ := Aside0.mk (blk_drew BK538.out)
         have n6_ := Aside0.mk (blk_drew BK547.out)
         have n7_ := Aside0.mk (below_drew1 HB.out)
         clear HO_539001; clear HO_539002; clear HO_548001; clear HO_548002; clear BK519; clear BK538; clear BK547; clear HB; have HO_539001 := n0_; have HO_539002 := n1_; have HO_548001 := n2_; have HO_548002 := n3_; have BK519 := n4_; have BK538 := n5_; have BK547 := n6_; have HB := n7_; clear n0_ n1_ n2_ n3_ n4_ n5_ n6_ n7_
         refine start_ (n := 27) (S := fun w' => w'.cell? ⟨gb519, 0, none⟩ = some (.int .i64 a5_0) ∧ w'.cell? ⟨gb519, 1, none⟩ = some (.slice A5_1 l5_1.length c5_1) ∧ w'.cell? ⟨gb519, 2, none⟩ = some (.slice A5_2 l5_2.length c5_2)) (ds := []) (fT 0 27) (by kernel_rfl) rfl rfl ⟨(blk_cell BK519.out 0).trans rfl, (blk_cell BK519.out 1).trans rfl, (blk_cell BK519.out 2).trans rfl⟩ (fun hHeld => ?_); refine with_tabW customhouselaw03_SealMatchesReference.tab9 customhouselaw03_SealMatchesReference.bits9 (fun HT_ HW_ => ?_)
         generalize wc.drew = w72 at HO_539001 HO_539002 HO_548001 HO_548002 BK519 BK538 BK547 HB hHeld ⊢
         refine pure_ (i := 0) (N := some 90) (v := ?_) (a' := ?_) (fT 1 27) rfl rfl (any_of HT_.out (by kernel_rfl)) (fun _ _ _ h => h) (Or.inl ⟨by rfl, ?_⟩) ?_ ?_
         rotate_left
         ·intro w'; go_simp; with_reducible rfl
         rotate_left
         ·simp only [Act.put, sq1, sq2, sq3, i64_w, i32_w]; rfl
         refine pure_ (i := 1) (N := some 91) (v := ?_) (a' := ?_) (fT 2 27) rfl rfl (any_of HT_.out (by kernel_rfl)) (fun _ _ _ h => h) (Or.inl ⟨by rfl, ?_⟩) ?_ ?_
         rotate_left
         ·intro w'; go_simp; with_reducible rfl
         rotate_left
         ·simp only [Act.put, sq1, sq2, sq3, i64_w, i32_w]; rfl
         refine pure_ (i := 2) (N := some 92) (v := ?_) (a' := ?_) (fT 3 27) rfl rfl (any_of HT_.out (by kernel_rfl)) (fun _ _ _ h => h) (Or.inl ⟨by rfl, ?_⟩) ?_ ?_
         rotate_left
         ·intro w'; go_simp; with_reducible rfl
         rotate_left
         ·simp only [Act.put, sq1, sq2, sq3, i64_w, i32_w]; rfl
         refine pure_ (i := 3) (N := some 93) (v := ?_) (a' := ?_) (fT 4 27) rfl rfl (any_of HT_.out (by kernel_rfl)) (fun _ _ _ h => h) (Or.inl ⟨by rfl, ?_⟩) ?_ ?_
         rotate_left
         ·intro w'; go_simp; with_reducible rfl
         rotate_left
         ·simp only [Act.put, sq1, sq2, sq3, i64_w, i32_w]; rfl
         refine pure_ (i := 4) (N := some 94) (v := ?_) (a' := ?_) (fT 5 27) rfl rfl (any_of HT_.out (by kernel_rfl)) (fun _ _ _ h => h) (Or.inl ⟨by rfl, ?_⟩) ?_ ?_
         rotate_left
         ·intro w'; go_simp; with_reducible rfl
         rotate_left
         ·simp only [Act.put, sq1, sq2, sq3, i64_w, i32_w]; rfl
         refine pure_ (i := 5) (N := some 95) (v := ?_) (a' := ?_) (fT 6 27) rfl rfl (any_of HT_.out (by kernel_rfl)) (fun _ _ _ h => h) (Or.inl ⟨by rfl, ?_⟩) ?_ ?_
         rotate_left
         ·intro w'; go_simp; with_reducible rfl
         rotate_left
         ·simp only [Act.put, sq1, sq2, sq3, i64_w, i32_w]; rfl
         refine pure_ (i := 6) (N := some 96) (v := ?_) (a' := ?_) (fT 7 27) rfl rfl (any_of HT_.out (by kernel_rfl)) (fun _ _ _ h => h) (Or.inl ⟨by rfl, ?_⟩) ?_ ?_
         rotate_left
         ·intro w'; go_simp; with_reducible rfl
         rotate_left
         ·simp only [Act.put, sq1, sq2, sq3, i64_w, i32_w]; rfl
         refine pure_ (i := 9) (N := some 99) (v := ?_) (a' := ?_) #[tt,tt,tt,tt,tt,tt,tt,ff,ff,tt,ff,ff,ff,ff,ff,ff,ff,ff,ff,ff,ff,ff,ff,ff,ff,ff,ff] rfl rfl (any_of HT_.out (by kernel_rfl)) (fun _ _ _ h => h) (Or.inl ⟨by rfl, ?_⟩) ?_ ?_
         rotate_left
         ·intro w'; go_simp; with_reducible rfl
         rotate_left
         ·simp only [Act.put, sq1, sq2, sq3, i64_w, i32_w]; rfl
         refine pure_ (i := 10) (N := some 100) (v := ?_) (a' := ?_) #[tt,tt,tt,tt,tt,tt,tt,ff,ff,tt,tt,ff,ff,ff,ff,ff,ff,ff,ff,ff,ff,ff,ff,ff,ff,ff,ff] rfl rfl (any_of HT_.out (by kernel_rfl)) (fun _ _ _ h => h) (Or.inl ⟨by rfl, ?_⟩) ?_ ?_
         rotate_left
         ·intro w'; go_simp; with_reducible rfl
         rotate_left
         ·simp only [Act.put, sq1, sq2, sq3, i64_w, i32_w]; rfl
         refine take_ (i := 7) (N := some 97) (v := ?_) (a' := ?_) #[tt,tt,tt,tt,tt,tt,tt,tt,ff,tt,tt,ff,ff,ff,ff,ff,ff,ff,ff,ff,ff,ff,ff,ff,ff,ff,ff] rfl rfl (take_ofW HT_.out HW_.out (by kernel_rfl)) (fun _ _ _ h => h) (Or.inl ⟨by rfl, ?_⟩) hHeld ?_ ?_
         rotate_left
         ·rintro w' ⟨s0, s1, s2⟩; go_simp; with_reducible rfl
         rotate_left
         ·simp only [Act.put, sq1, sq2, sq3, i64_w, i32_w]; rfl
         refine take_ (i := 11) (N := some 101) (v := ?_) (a' := ?_) #[tt,tt,tt,tt,tt,tt,tt,tt,ff,tt,tt,tt,ff,ff,ff,ff,ff,ff,ff,ff,ff,ff,ff,ff,ff,ff,ff] rfl rfl (take_ofW HT_.out HW_.out (by kernel_rfl)) (fun _ _ _ h => h) (Or.inl ⟨by rfl, ?_⟩) hHeld ?_ ?_
         rotate_left
         ·rintro w' ⟨s0, s1, s2⟩; go_simp; with_reducible rfl
         rotate_left
         ·simp only [Act.put, sq1, sq2, sq3, i64_w, i32_w]; rfl
         refine one_ (i := 8) (N := some 98) (fT 12 27) rfl rfl (one_of HT_.out (by kernel_rfl)) (by decide) (fun K hK => ?_)
         refine goes_ Tryz.func44 (by kernel_rfl) rfl #[.string a4, .string a3, .agg #[.int .i64 a5_0, .slice A5_1 l5_1.length c5_1, .slice A5_2 l5_2.length c5_2]] (by rfl) rfl rfl (by (try simp only [List.map_toArray, List.map_cons, List.map_nil]); first | done | rfl | (simp only [List.length_drop, List.length_take]; rfl)) ?_
         with_reducible refine (seal_Verify.calls a4 a3 a5_0 _ _ l5_1 _ _ l5_2 t549 _ ?side5 ?side1 ?side2 ?side3 ?side4 A67.out).mono ?_
         (case side1 => repeat (first | exact (Kd.C_below HR5_1.out HB.out) | (with_reducible refine Kd.C_alloc ?_ _) | (with_reducible refine Kd.C_drewN ?_ _) | (with_reducible refine Kd.C_drew ?_)))
         (case side2 => exact HC5_1.out)
         (case side3 => repeat (first | exact (Kd.C_below HR5_2.out HB.out) | (with_reducible refine Kd.C_alloc ?_ _) | (with_reducible refine Kd.C_drewN ?_ _) | (with_reducible refine Kd.C_drew ?_)))
         (case side4 => exact HC5_2.out)
         (case side5 => exact GL.below HG.out (by repeat (first | (with_reducible first | exact HB.out | apply below_alloc | apply pw_below_drewN | apply below_drew1 | refine below_set ?_ GE519.out | refine below_set ?_ GE538.out | refine below_set ?_ GE547.out) | exact HB.out)))
         rintro e w73 ⟨rfl, hb⟩
         refine ⟨_, rfl, ?_⟩
         have n0_ := Aside0.mk (Kd.R_below (by (with_reducible repeat (first | apply Kd.R_alloc | apply Kd.R_drewN | apply Kd.R_drew)); exact HO_539001.out) hb)
         have n1_ := Aside0.mk (Kd.R_below (by (with_reducible repeat (first | apply Kd.R_alloc | apply Kd.R_drewN | apply Kd.R_drew)); exact HO_539002.out) hb)
         have n2_ := Aside0.mk (Kd.R_below (by (with_reducible repeat (first | apply Kd.R_alloc | apply Kd.R_drewN | apply Kd.R_drew)); exact HO_548001.out) hb)
         have n3_ := Aside0.mk (Kd.R_below (by (with_reducible repeat (first | apply Kd.R_alloc | apply Kd.R_drewN | apply Kd.R_drew)); exact HO_548002.out) hb)
         have n4_ := Aside0.mk (blk_below (g := gb519) (o := .cells #[.int .i64 a5_0, .slice A5_1 l5_1.length c5_1, .slice A5_2 l5_2.length c5_2] 33 (0, 0)) (by (with_reducible repeat (first | refine blk_drewN ?_ _ | refine blk_drew ?_ | refine blk_alloc ?_ _)); exact BK519.out) hb)
         have n5_ := Aside0.mk (blk_below (g := gb538) (o := .cells #[.int .i64 t530, .slice Ao46 t531.length co46, .slice Ao47 t534.length co47] 33 (0, 0)) (by (with_reducible repeat (first | refine blk_drewN ?_ _ | refine blk_drew ?_ | refine blk_alloc ?_ _)); exact BK538.out) hb)
         have n6_ := Aside0.mk (blk_below (g := gb547) (o := .cells #[.int .i64 t539, .slice Ao53 t540.length co53, .slice Ao54 t543.length co54] 33 (0, 0)) (by (with_reducible repeat (first | refine blk_drewN ?_ _ | refine blk_drew ?_ | refine blk_alloc ?_ _)); exact BK547.out) hb)
         have n7_ := Aside0.mk (below_step (by repeat (first | (with_reducible first | exact HB.out | apply below_alloc | apply pw_below_drewN | apply below_drew1 | refine below_set ?_ GE519.out | refine below_set ?_ GE538.out | refine below_set ?_ GE547.out) | exact HB.out)) hb)
         clear HO_539001; clear HO_539002; clear HO_548001; clear HO_548002; clear BK519; clear BK538; clear BK547; clear HB; have HO_539001 := n0_; have HO_539002 := n1_; have HO_548001 := n2_; have HO_548002 := n3_; have BK519 := n4_; have BK538 := n5_; have BK547 := n6_; have HB := n7_; clear n0_ n1_ n2_ n3_ n4_ n5_ n6_ n7_
         (try clear hb)
         (try clear hb2)
         (try clear hk)
         (try clear hi)
         refine hK.out _ _ ⟨(blk_cell BK519.out 0).trans rfl, (blk_cell BK519.out 1).trans rfl, (blk_cell BK519.out 2).trans rfl⟩ (fun hHeld => ?_)
         clear hK K
         refine norm_ (a' := ?_) ?_ ?_
         rotate_left
         ·show Act.put _ (some 98) _ = _
          simp only [Act.put, sq1, sq2, sq3, i64_w, i32_w]; rfl
         refine one_ (i := 12) (N := some 102) (fT 13 27) rfl rfl (one_of HT_.out (by kernel_rfl)) (by decide) (fun K hK => ?_)
         refine goes_ Tryz.func45 (by kernel_rfl) rfl #[.string a4, .string a3, .agg #[.int .i64 a5_0, .slice A5_1 l5_1.length c5_1, .slice A5_2 l5_2.length c5_2]] (by rfl) rfl rfl (by (try simp only [List.map_toArray, List.map_cons, List.map_nil]); first | done | rfl | (simp only [List.length_drop, List.length_take]; rfl)) ?_
         with_reducible refine (customhouseref03_Verify.calls kj38 a4 a3 a5_0 _ _ l5_1 _ _ l5_2 t550 _ ?side1 ?side2 ?side3 ?side4 A68.out).mono ?_
         (case side1 => repeat (first | exact (Kd.C_below HR5_1.out HB.out) | (with_reducible refine Kd.C_alloc ?_ _) | (with_reducible refine Kd.C_drewN ?_ _) | (with_reducible refine Kd.C_drew ?_)))
         (case side2 => exact HC5_1.out)
         (case side3 => repeat (first | exact (Kd.C_below HR5_2.out HB.out) | (with_reducible refine Kd.C_alloc ?_ _) | (with_reducible refine Kd.C_drewN ?_ _) | (with_reducible refine Kd.C_drew ?_)))
         (case side4 => exact HC5_2.out)
         rintro e w74 ⟨rfl, hb⟩
         refine ⟨_, rfl, ?_⟩
         have n0_ := Aside0.mk (Kd.R_below (by (with_reducible repeat (first | apply Kd.R_alloc | apply Kd.R_drewN | apply Kd.R_drew)); exact HO_539001.out) hb)
         have n1_ := Aside0.mk (Kd.R_below (by (with_reducible repeat (first | apply Kd.R_alloc | apply Kd.R_drewN | apply Kd.R_drew)); exact HO_539002.out) hb)
         have n2_ := Aside0.mk (Kd.R_below (by (with_reducible repeat (first | apply Kd.R_alloc | apply Kd.R_drewN | apply Kd.R_drew)); exact HO_548001.out) hb)
         have n3_ := Aside0.mk (Kd.R_below (by (with_reducible repeat (first | apply Kd.R_alloc | apply Kd.R_drewN | apply Kd.R_drew)); exact HO_548002.out) hb)
         have n4_ := Aside0.mk (blk_below (g := gb519) (o := .cells #[.int .i64 a5_0, .slice A5_1 l5_1.length c5_1, .slice A5_2 l5_2.length c5_2] 33 (0, 0)) (by (with_reducible repeat (first | refine blk_drewN ?_ _ | refine blk_drew ?_ | refine blk_alloc ?_ _)); exact BK519.out) hb)
         have n5_ := Aside0.mk (blk_below (g := gb538) (o := .cells #[.int .i64 t530, .slice Ao46 t531.length co46, .slice Ao47 t534.length co47] 33 (0, 0)) (by (with_reducible repeat (first | refine blk_drewN ?_ _ | refine blk_drew ?_ | refine blk_alloc ?_ _)); exact BK538.out) hb)
         have n6_ := Aside0.mk (blk_below (g := gb547) (o := .cells #[.int .i64 t539, .slice Ao53 t540.length co53, .slice Ao54 t543.length co54] 33 (0, 0)) (by (with_reducible repeat (first | refine blk_drewN ?_ _ | refine blk_drew ?_ | refine blk_alloc ?_ _)); exact BK547.out) hb)
         have n7_ := Aside0.mk (below_step (by repeat (first | (with_reducible first | exact HB.out | apply below_alloc | apply pw_below_drewN | apply below_drew1 | refine below_set ?_ GE519.out | refine below_set ?_ GE538.out | refine below_set ?_ GE547.out) | exact HB.out)) hb)
         clear HO_539001; clear HO_539002; clear HO_548001; clear HO_548002; clear BK519; clear BK538; clear BK547; clear HB; have HO_539001 := n0_; have HO_539002 := n1_; have HO_548001 := n2_; have HO_548002 := n3_; have BK519 := n4_; have BK538 := n5_; have BK547 := n6_; have HB := n7_; clear n0_ n1_ n2_ n3_ n4_ n5_ n6_ n7_
         (try clear hb)
         (try clear hb2)
         (try clear hk)
         (try clear hi)
         refine hK.out _ _ ⟨(blk_cell BK519.out 0).trans rfl, (blk_cell BK519.out 1).trans rfl, (blk_cell BK519.out 2).trans rfl⟩ (fun hHeld => ?_)
         clear hK K
         refine norm_ (a' := ?_) ?_ ?_
         rotate_left
         ·show Act.put _ (some 102) _ = _
          simp only [Act.put, sq1, sq2, sq3, i64_w, i32_w]; rfl
         refine pure_ (i := 13) (N := some 103) (v := ?_) (a' := ?_) (fT 14 27) rfl rfl (any_of HT_.out (by kernel_rfl)) (fun _ _ _ h => h) (Or.inl ⟨by rfl, ?_⟩) ?_ ?_
         rotate_left
         ·intro w'; go_simp; with_reducible rfl
         rotate_left
         ·simp only [Act.put, sq1, sq2, sq3, i64_w, i32_w]; rfl
         refine pure_ (i := 14) (N := some 104) (v := ?_) (a' := ?_) (fT 15 27) rfl rfl (any_of HT_.out (by kernel_rfl)) (fun _ _ _ h => h) (Or.inl ⟨by rfl, ?_⟩) ?_ ?_
         rotate_left
         ·intro w'; go_simp; with_reducible rfl
         rotate_left
         ·simp only [Act.put, sq1, sq2, sq3, i64_w, i32_w]; rfl
         refine pure_ (i := 15) (N := some 105) (v := ?_) (a' := ?_) (fT 16 27) rfl rfl (any_of HT_.out (by kernel_rfl)) (fun _ _ _ h => h) (Or.inl ⟨by rfl, ?_⟩) ?_ ?_
         rotate_left
         ·intro w'; go_simp; with_reducible rfl
         rotate_left
         ·simp only [Act.put, sq1, sq2, sq3, i64_w, i32_w]; rfl
         refine pure_ (i := 16) (N := some 106) (v := ?_) (a' := ?_) (fT 17 27) rfl rfl (any_of HT_.out (by kernel_rfl)) (fun _ _ _ h => h) (Or.inl ⟨by rfl, ?_⟩) ?_ ?_
         rotate_left
         ·intro w'; go_simp; with_reducible rfl
         rotate_left
         ·simp only [Act.put, sq1, sq2, sq3, i64_w, i32_w]; rfl
         refine pure_ (i := 17) (N := some 107) (v := ?_) (a' := ?_) (fT 18 27) rfl rfl (any_of HT_.out (by kernel_rfl)) (fun _ _ _ h => h) (Or.inl ⟨by rfl, ?_⟩) ?_ ?_
         rotate_left
         ·intro w'; go_simp; with_reducible rfl
         rotate_left
         ·simp only [Act.put, sq1, sq2, sq3, i64_w, i32_w]; rfl
         refine pure_ (i := 20) (N := some 110) (v := ?_) (a' := ?_) #[tt,tt,tt,tt,tt,tt,tt,tt,tt,tt,tt,tt,tt,tt,tt,tt,tt,tt,ff,ff,tt,ff,ff,ff,ff,ff,ff] rfl rfl (any_of HT_.out (by kernel_rfl)) (fun _ _ _ h => h) (Or.inl ⟨by rfl, ?_⟩) ?_ ?_
         rotate_left
         ·intro w'; go_simp; with_reducible rfl
         rotate_left
         ·simp only [Act.put, sq1, sq2, sq3, i64_w, i32_w]; rfl
         refine pure_ (i := 21) (N := some 111) (v := ?_) (a' := ?_) #[tt,tt,tt,tt,tt,tt,tt,tt,tt,tt,tt,tt,tt,tt,tt,tt,tt,tt,ff,ff,tt,tt,ff,ff,ff,ff,ff] rfl rfl (any_of HT_.out (by kernel_rfl)) (fun _ _ _ h => h) (Or.inl ⟨by rfl, ?_⟩) ?_ ?_
         rotate_left
         ·intro w'; go_simp; with_reducible rfl
         rotate_left
         ·simp only [Act.put, sq1, sq2, sq3, i64_w, i32_w]; rfl
         refine take_ (i := 18) (N := some 108) (v := ?_) (a' := ?_) #[tt,tt,tt,tt,tt,tt,tt,tt,tt,tt,tt,tt,tt,tt,tt,tt,tt,tt,tt,ff,tt,tt,ff,ff,ff,ff,ff] rfl rfl (take_ofW HT_.out HW_.out (by kernel_rfl)) (fun _ _ _ h => h) (Or.inl ⟨by rfl, ?_⟩) hHeld ?_ ?_
         rotate_left
         ·rintro w' ⟨s0, s1, s2⟩; go_simp; with_reducible rfl
         rotate_left
         ·simp only [Act.put, sq1, sq2, sq3, i64_w, i32_w]; rfl
         refine take_ (i := 22) (N := some 112) (v := ?_) (a' := ?_) #[tt,tt,tt,tt,tt,tt,tt,tt,tt,tt,tt,tt,tt,tt,tt,tt,tt,tt,tt,ff,tt,tt,tt,ff,ff,ff,ff] rfl rfl (take_ofW HT_.out HW_.out (by kernel_rfl)) (fun _ _ _ h => h) (Or.inl ⟨by rfl, ?_⟩) hHeld ?_ ?_
         rotate_left
         ·rintro w' ⟨s0, s1, s2⟩; go_simp; with_reducible rfl
         rotate_left
         ·simp only [Act.put, sq1, sq2, sq3, i64_w, i32_w]; rfl
         refine one_ (i := 19) (N := some 109) (fT 23 27) rfl rfl (one_of HT_.out (by kernel_rfl)) (by decide) (fun K hK => ?_)
         refine goes_ Tryz.func44 (by kernel_rfl) rfl #[.string t526, .string a3, .agg #[.int .i64 a5_0, .slice A5_1 l5_1.length c5_1, .slice A5_2 l5_2.length c5_2]] (by rfl) rfl rfl (by (try simp only [List.map_toArray, List.map_cons, List.map_nil]); first | done | rfl | (simp only [List.length_drop, List.length_take]; rfl)) ?_
         with_reducible refine (seal_Verify.calls t526 a3 a5_0 _ _ l5_1 _ _ l5_2 t551 _ ?side5 ?side1 ?side2 ?side3 ?side4 A70.out).mono ?_
         (case side1 => repeat (first | exact (Kd.C_below HR5_1.out HB.out) | (with_reducible refine Kd.C_alloc ?_ _) | (with_reducible refine Kd.C_drewN ?_ _) | (with_reducible refine Kd.C_drew ?_)))
         (case side2 => exact HC5_1.out)
         (case side3 => repeat (first | exact (Kd.C_below HR5_2.out HB.out) | (with_reducible refine Kd.C_alloc ?_ _) | (with_reducible refine Kd.C_drewN ?_ _) | (with_reducible refine Kd.C_drew ?_)))
         (case side4 => exact HC5_2.out)
         (case side5 => exact GL.below HG.out (by repeat (first | (with_reducible first | exact HB.out | apply below_alloc | apply pw_below_drewN | apply below_drew1 | refine below_set ?_ GE519.out | refine below_set ?_ GE538.out | refine below_set ?_ GE547.out) | exact HB.out)))
         rintro e w75 ⟨rfl, hb⟩
         refine ⟨_, rfl, ?_⟩
         have n0_ := Aside0.mk (Kd.R_below (by (with_reducible repeat (first | apply Kd.R_alloc | apply Kd.R_drewN | apply Kd.R_drew)); exact HO_539001.out) hb)
         have n1_ := Aside0.mk (Kd.R_below (by (with_reducible repeat (first | apply Kd.R_alloc | apply Kd.R_drewN | apply Kd.R_drew)); exact HO_539002.out) hb)
         have n2_ := Aside0.mk (Kd.R_below (by (with_reducible repeat (first | apply Kd.R_alloc | apply Kd.R_drewN | apply Kd.R_drew)); exact HO_548001.out) hb)
         have n3_ := Aside0.mk (Kd.R_below (by (with_reducible repeat (first | apply Kd.R_alloc | apply Kd.R_drewN | apply Kd.R_drew)); exact HO_548002.out) hb)
         have n4_ := Aside0.mk (blk_below (g := gb519) (o := .cells #[.int .i64 a5_0, .slice A5_1 l5_1.length c5_1, .slice A5_2 l5_2.length c5_2] 33 (0, 0)) (by (with_reducible repeat (first | refine blk_drewN ?_ _ | refine blk_drew ?_ | refine blk_alloc ?_ _)); exact BK519.out) hb)
         have n5_ := Aside0.mk (blk_below (g := gb538) (o := .cells #[.int .i64 t530, .slice Ao46 t531.length co46, .slice Ao47 t534.length co47] 33 (0, 0)) (by (with_reducible repeat (first | refine blk_drewN ?_ _ | refine blk_drew ?_ | refine blk_alloc ?_ _)); exact BK538.out) hb)
         have n6_ := Aside0.mk (blk_below (g := gb547) (o := .cells #[.int .i64 t539, .slice Ao53 t540.length co53, .slice Ao54 t543.length co54] 33 (0, 0)) (by (with_reducible repeat (first | refine blk_drewN ?_ _ | refine blk_drew ?_ | refine blk_alloc ?_ _)); exact BK547.out) hb)
         have n7_ := Aside0.mk (below_step (by repeat (first | (with_reducible first | exact HB.out | apply below_alloc | apply pw_below_drewN | apply below_drew1 | refine below_set ?_ GE519.out | refine below_set ?_ GE538.out | refine below_set ?_ GE547.out) | exact HB.out)) hb)
         clear HO_539001; clear HO_539002; clear HO_548001; clear HO_548002; clear BK519; clear BK538; clear BK547; clear HB; have HO_539001 := n0_; have HO_539002 := n1_; have HO_548001 := n2_; have HO_548002 := n3_; have BK519 := n4_; have BK538 := n5_; have BK547 := n6_; have HB := n7_; clear n0_ n1_ n2_ n3_ n4_ n5_ n6_ n7_
         (try clear hb)
         (try clear hb2)
         (try clear hk)
         (try clear hi)
         refine hK.out _ _ ⟨(blk_cell BK519.out 0).trans rfl, (blk_cell BK519.out 1).trans rfl, (blk_cell BK519.out 2).trans rfl⟩ (fun hHeld => ?_)
         clear hK K
         refine norm_ (a' := ?_) ?_ ?_
         rotate_left
         ·show Act.put _ (some 109) _ = _
          simp only [Act.put, sq1, sq2, sq3, i64_w, i32_w]; rfl
         refine one_ (i := 23) (N := some 113) (fT 24 27) rfl rfl (one_of HT_.out (by kernel_rfl)) (by decide) (fun K hK => ?_)
         refine goes_ Tryz.func45 (by kernel_rfl) rfl #[.string t528, .string a3, .agg #[.int .i64 a5_0, .slice A5_1 l5_1.length c5_1, .slice A5_2 l5_2.length c5_2]] (by rfl) rfl rfl (by (try simp only [List.map_toArray, List.map_cons, List.map_nil]); first | done | rfl | (simp only [List.length_drop, List.length_take]; rfl)) ?_
         with_reducible refine (customhouseref03_Verify.calls kj38 t528 a3 a5_0 _ _ l5_1 _ _ l5_2 t552 _ ?side1 ?side2 ?side3 ?side4 A71.out).mono ?_
         (case side1 => repeat (first | exact (Kd.C_below HR5_1.out HB.out) | (with_reducible refine Kd.C_alloc ?_ _) | (with_reducible refine Kd.C_drewN ?_ _) | (with_reducible refine Kd.C_drew ?_)))
         (case side2 => exact HC5_1.out)
         (case side3 => repeat (first | exact (Kd.C_below HR5_2.out HB.out) | (with_reducible refine Kd.C_alloc ?_ _) | (with_reducible refine Kd.C_drewN ?_ _) | (with_reducible refine Kd.C_drew ?_)))
         (case side4 => exact HC5_2.out)
         rintro e w76 ⟨rfl, hb⟩
         refine ⟨_, rfl, ?_⟩
         have n0_ := Aside0.mk (Kd.R_below (by (with_reducible repeat (first | apply Kd.R_alloc | apply Kd.R_drewN | apply Kd.R_drew)); exact HO_539001.out) hb)
         have n1_ := Aside0.mk (Kd.R_below (by (with_reducible repeat (first | apply Kd.R_alloc | apply Kd.R_drewN | apply Kd.R_drew)); exact HO_539002.out) hb)
         have n2_ := Aside0.mk (Kd.R_below (by (with_reducible repeat (first | apply Kd.R_alloc | apply Kd.R_drewN | apply Kd.R_drew)); exact HO_548001.out) hb)
         have n3_ := Aside0.mk (Kd.R_below (by (with_reducible repeat (first | apply Kd.R_alloc | apply Kd.R_drewN | apply Kd.R_drew)); exact HO_548002.out) hb)
         have n4_ := Aside0.mk (blk_below (g := gb519) (o := .cells #[.int .i64 a5_0, .slice A5_1 l5_1.length c5_1, .slice A5_2 l5_2.length c5_2] 33 (0, 0)) (by (with_reducible repeat (first | refine blk_drewN ?_ _ | refine blk_drew ?_ | refine blk_alloc ?_ _)); exact BK519.out) hb)
         have n5_ := Aside0.mk (blk_below (g := gb538) (o := .cells #[.int .i64 t530, .slice Ao46 t531.length co46, .slice Ao47 t534.length co47] 33 (0, 0)) (by (with_reducible repeat (first | refine blk_drewN ?_ _ | refine blk_drew ?_ | refine blk_alloc ?_ _)); exact BK538.out) hb)
         have n6_ := Aside0.mk (blk_below (g := gb547) (o := .cells #[.int .i64 t539, .slice Ao53 t540.length co53, .slice Ao54 t543.length co54] 33 (0, 0)) (by (with_reducible repeat (first | refine blk_drewN ?_ _ | refine blk_drew ?_ | refine blk_alloc ?_ _)); exact BK547.out) hb)
         have n7_ := Aside0.mk (below_step (by repeat (first | (with_reducible first | exact HB.out | apply below_alloc | apply pw_below_drewN | apply below_drew1 | refine below_set ?_ GE519.out | refine below_set ?_ GE538.out | refine below_set ?_ GE547.out) | exact HB.out)) hb)
         clear HO_539001; clear HO_539002; clear HO_548001; clear HO_548002; clear BK519; clear BK538; clear BK547; clear HB; have HO_539001 := n0_; have HO_539002 := n1_; have HO_548001 := n2_; have HO_548002 := n3_; have BK519 := n4_; have BK538 := n5_; have BK547 := n6_; have HB := n7_; clear n0_ n1_ n2_ n3_ n4_ n5_ n6_ n7_
         (try clear hb)
         (try clear hb2)
         (try clear hk)
         (try clear hi)
         refine hK.out _ _ ⟨(blk_cell BK519.out 0).trans rfl, (blk_cell BK519.out 1).trans rfl, (blk_cell BK519.out 2).trans rfl⟩ (fun hHeld => ?_)
         clear hK K
         refine norm_ (a' := ?_) ?_ ?_
         rotate_left
         ·show Act.put _ (some 113) _ = _
          simp only [Act.put, sq1, sq2, sq3, i64_w, i32_w]; rfl
         refine pure_ (i := 24) (N := some 114) (v := ?_) (a' := ?_) (fT 25 27) rfl rfl (any_of HT_.out (by kernel_rfl)) (fun _ _ _ h => h) (Or.inl ⟨by rfl, ?_⟩) ?_ ?_
         rotate_left
         ·intro w'; go_simp; with_reducible rfl
         rotate_left
         ·simp only [Act.put, sq1, sq2, sq3, i64_w, i32_w]; rfl
         refine pure_ (i := 25) (N := some 115) (v := ?_) (a' := ?_) (fT 26 27) rfl rfl (any_of HT_.out (by kernel_rfl)) (fun _ _ _ h => h) (Or.inl ⟨by rfl, ?_⟩) ?_ ?_
         rotate_left
         ·intro w'; go_simp; with_reducible rfl
         rotate_left
         ·simp only [Act.put, sq1, sq2, sq3, i64_w, i32_w]; rfl
         refine pure_ (i := 26) (N := some 12) (v := ?_) (a' := ?_) (fT 27 27) rfl rfl (any_of HT_.out (by kernel_rfl)) (fun _ _ _ h => h) (Or.inl ⟨by rfl, ?_⟩) ?_ ?_
         rotate_left
         ·intro w'; go_simp; with_reducible rfl
         rotate_left
         ·simp only [Act.put, sq1, sq2, sq3, i64_w, i32_w]; rfl
         refine done_ (done_of HT_.out (by kernel_rfl)) ?_
         try go_wp2
         go_ret
         exact ⟨by first | rfl | (simp [errW_none, errW_some] <;> rfl) | (simp [*, errW_none, errW_some] <;> rfl), by repeat (first | (with_reducible first | exact HB.out | apply below_alloc | apply pw_below_drewN | apply below_drew1 | refine below_set ?_ GE519.out | refine below_set ?_ GE538.out | refine below_set ?_ GE547.out) | exact HB.out)⟩
        ·rw [if_neg c69] at H
         have c69b0 : (t549 == t550) = false := by simpa using c69
         (try (have c69b1 : decide (t549 = t550) = false := by simpa using c69))
         (try (have c69b2 : (t549 == t550) = false := by simpa using c69))
         (try (have c69b3 : ¬ (t549 = t550) := by simpa using c69))
         clear c69
         obtain rfl := Option.some.inj H
         try go_wp2
         have n0_ := Aside0.mk (Kd.R_drew HO_539001.out)
         have n1_ := Aside0.mk (Kd.R_drew HO_539002.out)
         have n2_ := Aside0.mk (Kd.R_drew HO_548001.out)
         have n3_ := Aside0.mk (Kd.R_drew HO_548002.out)
         have n4_ := Aside0.mk (blk_drew BK519.out)
         have n5_ := Aside0.mk (blk_drew BK538.out)
         have n6_ := Aside0.mk (blk_drew BK547.out)
         have n7_ := Aside0.mk (below_drew1 HB.out)
         clear HO_539001; clear HO_539002; clear HO_548001; clear HO_548002; clear BK519; clear BK538; clear BK547; clear HB; have HO_539001 := n0_; have HO_539002 := n1_; have HO_548001 := n2_; have HO_548002 := n3_; have BK519 := n4_; have BK538 := n5_; have BK547 := n6_; have HB := n7_; clear n0_ n1_ n2_ n3_ n4_ n5_ n6_ n7_
         refine start_ (n := 27) (S := fun w' => w'.cell? ⟨gb519, 0, none⟩ = some (.int .i64 a5_0) ∧ w'.cell? ⟨gb519, 1, none⟩ = some (.slice A5_1 l5_1.length c5_1) ∧ w'.cell? ⟨gb519, 2, none⟩ = some (.slice A5_2 l5_2.length c5_2)) (ds := []) (fT 0 27) (by kernel_rfl) rfl rfl ⟨(blk_cell BK519.out 0).trans rfl, (blk_cell BK519.out 1).trans rfl, (blk_cell BK519.out 2).trans rfl⟩ (fun hHeld => ?_); refine with_tabW customhouselaw03_SealMatchesReference.tab9 customhouselaw03_SealMatchesReference.bits9 (fun HT_ HW_ => ?_)
         generalize wc.drew = w77 at HO_539001 HO_539002 HO_548001 HO_548002 BK519 BK538 BK547 HB hHeld ⊢
         refine pure_ (i := 0) (N := some 90) (v := ?_) (a' := ?_) (fT 1 27) rfl rfl (any_of HT_.out (by kernel_rfl)) (fun _ _ _ h => h) (Or.inl ⟨by rfl, ?_⟩) ?_ ?_
         rotate_left
         ·intro w'; go_simp; with_reducible rfl
         rotate_left
         ·simp only [Act.put, sq1, sq2, sq3, i64_w, i32_w]; rfl
         refine pure_ (i := 1) (N := some 91) (v := ?_) (a' := ?_) (fT 2 27) rfl rfl (any_of HT_.out (by kernel_rfl)) (fun _ _ _ h => h) (Or.inl ⟨by rfl, ?_⟩) ?_ ?_
         rotate_left
         ·intro w'; go_simp; with_reducible rfl
         rotate_left
         ·simp only [Act.put, sq1, sq2, sq3, i64_w, i32_w]; rfl
         refine pure_ (i := 2) (N := some 92) (v := ?_) (a' := ?_) (fT 3 27) rfl rfl (any_of HT_.out (by kernel_rfl)) (fun _ _ _ h => h) (Or.inl ⟨by rfl, ?_⟩) ?_ ?_
         rotate_left
         ·intro w'; go_simp; with_reducible rfl
         rotate_left
         ·simp only [Act.put, sq1, sq2, sq3, i64_w, i32_w]; rfl
         refine pure_ (i := 3) (N := some 93) (v := ?_) (a' := ?_) (fT 4 27) rfl rfl (any_of HT_.out (by kernel_rfl)) (fun _ _ _ h => h) (Or.inl ⟨by rfl, ?_⟩) ?_ ?_
         rotate_left
         ·intro w'; go_simp; with_reducible rfl
         rotate_left
         ·simp only [Act.put, sq1, sq2, sq3, i64_w, i32_w]; rfl
         refine pure_ (i := 4) (N := some 94) (v := ?_) (a' := ?_) (fT 5 27) rfl rfl (any_of HT_.out (by kernel_rfl)) (fun _ _ _ h => h) (Or.inl ⟨by rfl, ?_⟩) ?_ ?_
         rotate_left
         ·intro w'; go_simp; with_reducible rfl
         rotate_left
         ·simp only [Act.put, sq1, sq2, sq3, i64_w, i32_w]; rfl
         refine pure_ (i := 5) (N := some 95) (v := ?_) (a' := ?_) (fT 6 27) rfl rfl (any_of HT_.out (by kernel_rfl)) (fun _ _ _ h => h) (Or.inl ⟨by rfl, ?_⟩) ?_ ?_
         rotate_left
         ·intro w'; go_simp; with_reducible rfl
         rotate_left
         ·simp only [Act.put, sq1, sq2, sq3, i64_w, i32_w]; rfl
         refine pure_ (i := 6) (N := some 96) (v := ?_) (a' := ?_) (fT 7 27) rfl rfl (any_of HT_.out (by kernel_rfl)) (fun _ _ _ h => h) (Or.inl ⟨by rfl, ?_⟩) ?_ ?_
         rotate_left
         ·intro w'; go_simp; with_reducible rfl
         rotate_left
         ·simp only [Act.put, sq1, sq2, sq3, i64_w, i32_w]; rfl
         refine pure_ (i := 9) (N := some 99) (v := ?_) (a' := ?_) #[tt,tt,tt,tt,tt,tt,tt,ff,ff,tt,ff,ff,ff,ff,ff,ff,ff,ff,ff,ff,ff,ff,ff,ff,ff,ff,ff] rfl rfl (any_of HT_.out (by kernel_rfl)) (fun _ _ _ h => h) (Or.inl ⟨by rfl, ?_⟩) ?_ ?_
         rotate_left
         ·intro w'; go_simp; with_reducible rfl
         rotate_left
         ·simp only [Act.put, sq1, sq2, sq3, i64_w, i32_w]; rfl
         refine pure_ (i := 10) (N := some 100) (v := ?_) (a' := ?_) #[tt,tt,tt,tt,tt,tt,tt,ff,ff,tt,tt,ff,ff,ff,ff,ff,ff,ff,ff,ff,ff,ff,ff,ff,ff,ff,ff] rfl rfl (any_of HT_.out (by kernel_rfl)) (fun _ _ _ h => h) (Or.inl ⟨by rfl, ?_⟩) ?_ ?_
         rotate_left
         ·intro w'; go_simp; with_reducible rfl
         rotate_left
         ·simp only [Act.put, sq1, sq2, sq3, i64_w, i32_w]; rfl
         refine take_ (i := 7) (N := some 97) (v := ?_) (a' := ?_) #[tt,tt,tt,tt,tt,tt,tt,tt,ff,tt,tt,ff,ff,ff,ff,ff,ff,ff,ff,ff,ff,ff,ff,ff,ff,ff,ff] rfl rfl (take_ofW HT_.out HW_.out (by kernel_rfl)) (fun _ _ _ h => h) (Or.inl ⟨by rfl, ?_⟩) hHeld ?_ ?_
         rotate_left
         ·rintro w' ⟨s0, s1, s2⟩; go_simp; with_reducible rfl
         rotate_left
         ·simp only [Act.put, sq1, sq2, sq3, i64_w, i32_w]; rfl
         refine take_ (i := 11) (N := some 101) (v := ?_) (a' := ?_) #[tt,tt,tt,tt,tt,tt,tt,tt,ff,tt,tt,tt,ff,ff,ff,ff,ff,ff,ff,ff,ff,ff,ff,ff,ff,ff,ff] rfl rfl (take_ofW HT_.out HW_.out (by kernel_rfl)) (fun _ _ _ h => h) (Or.inl ⟨by rfl, ?_⟩) hHeld ?_ ?_
         rotate_left
         ·rintro w' ⟨s0, s1, s2⟩; go_simp; with_reducible rfl
         rotate_left
         ·simp only [Act.put, sq1, sq2, sq3, i64_w, i32_w]; rfl
         refine one_ (i := 8) (N := some 98) (fT 12 27) rfl rfl (one_of HT_.out (by kernel_rfl)) (by decide) (fun K hK => ?_)
         refine goes_ Tryz.func44 (by kernel_rfl) rfl #[.string a4, .string a3, .agg #[.int .i64 a5_0, .slice A5_1 l5_1.length c5_1, .slice A5_2 l5_2.length c5_2]] (by rfl) rfl rfl (by (try simp only [List.map_toArray, List.map_cons, List.map_nil]); first | done | rfl | (simp only [List.length_drop, List.length_take]; rfl)) ?_
         with_reducible refine (seal_Verify.calls a4 a3 a5_0 _ _ l5_1 _ _ l5_2 t549 _ ?side5 ?side1 ?side2 ?side3 ?side4 A67.out).mono ?_
         (case side1 => repeat (first | exact (Kd.C_below HR5_1.out HB.out) | (with_reducible refine Kd.C_alloc ?_ _) | (with_reducible refine Kd.C_drewN ?_ _) | (with_reducible refine Kd.C_drew ?_)))
         (case side2 => exact HC5_1.out)
         (case side3 => repeat (first | exact (Kd.C_below HR5_2.out HB.out) | (with_reducible refine Kd.C_alloc ?_ _) | (with_reducible refine Kd.C_drewN ?_ _) | (with_reducible refine Kd.C_drew ?_)))
         (case side4 => exact HC5_2.out)
         (case side5 => exact GL.below HG.out (by repeat (first | (with_reducible first | exact HB.out | apply below_alloc | apply pw_below_drewN | apply below_drew1 | refine below_set ?_ GE519.out | refine below_set ?_ GE538.out | refine below_set ?_ GE547.out) | exact HB.out)))
         rintro e w78 ⟨rfl, hb⟩
         refine ⟨_, rfl, ?_⟩
         have n0_ := Aside0.mk (Kd.R_below (by (with_reducible repeat (first | apply Kd.R_alloc | apply Kd.R_drewN | apply Kd.R_drew)); exact HO_539001.out) hb)
         have n1_ := Aside0.mk (Kd.R_below (by (with_reducible repeat (first | apply Kd.R_alloc | apply Kd.R_drewN | apply Kd.R_drew)); exact HO_539002.out) hb)
         have n2_ := Aside0.mk (Kd.R_below (by (with_reducible repeat (first | apply Kd.R_alloc | apply Kd.R_drewN | apply Kd.R_drew)); exact HO_548001.out) hb)
         have n3_ := Aside0.mk (Kd.R_below (by (with_reducible repeat (first | apply Kd.R_alloc | apply Kd.R_drewN | apply Kd.R_drew)); exact HO_548002.out) hb)
         have n4_ := Aside0.mk (blk_below (g := gb519) (o := .cells #[.int .i64 a5_0, .slice A5_1 l5_1.length c5_1, .slice A5_2 l5_2.length c5_2] 33 (0, 0)) (by (with_reducible repeat (first | refine blk_drewN ?_ _ | refine blk_drew ?_ | refine blk_alloc ?_ _)); exact BK519.out) hb)
         have n5_ := Aside0.mk (blk_below (g := gb538) (o := .cells #[.int .i64 t530, .slice Ao46 t531.length co46, .slice Ao47 t534.length co47] 33 (0, 0)) (by (with_reducible repeat (first | refine blk_drewN ?_ _ | refine blk_drew ?_ | refine blk_alloc ?_ _)); exact BK538.out) hb)
         have n6_ := Aside0.mk (blk_below (g := gb547) (o := .cells #[.int .i64 t539, .slice Ao53 t540.length co53, .slice Ao54 t543.length co54] 33 (0, 0)) (by (with_reducible repeat (first | refine blk_drewN ?_ _ | refine blk_drew ?_ | refine blk_alloc ?_ _)); exact BK547.out) hb)
         have n7_ := Aside0.mk (below_step (by repeat (first | (with_reducible first | exact HB.out | apply below_alloc | apply pw_below_drewN | apply below_drew1 | refine below_set ?_ GE519.out | refine below_set ?_ GE538.out | refine below_set ?_ GE547.out) | exact HB.out)) hb)
         clear HO_539001; clear HO_539002; clear HO_548001; clear HO_548002; clear BK519; clear BK538; clear BK547; clear HB; have HO_539001 := n0_; have HO_539002 := n1_; have HO_548001 := n2_; have HO_548002 := n3_; have BK519 := n4_; have BK538 := n5_; have BK547 := n6_; have HB := n7_; clear n0_ n1_ n2_ n3_ n4_ n5_ n6_ n7_
         (try clear hb)
         (try clear hb2)
         (try clear hk)
         (try clear hi)
         refine hK.out _ _ ⟨(blk_cell BK519.out 0).trans rfl, (blk_cell BK519.out 1).trans rfl, (blk_cell BK519.out 2).trans rfl⟩ (fun hHeld => ?_)
         clear hK K
         refine norm_ (a' := ?_) ?_ ?_
         rotate_left
         ·show Act.put _ (some 98) _ = _
          simp only [Act.put, sq1, sq2, sq3, i64_w, i32_w]; rfl
         refine one_ (i := 12) (N := some 102) (fT 13 27) rfl rfl (one_of HT_.out (by kernel_rfl)) (by decide) (fun K hK => ?_)
         refine goes_ Tryz.func45 (by kernel_rfl) rfl #[.string a4, .string a3, .agg #[.int .i64 a5_0, .slice A5_1 l5_1.length c5_1, .slice A5_2 l5_2.length c5_2]] (by rfl) rfl rfl (by (try simp only [List.map_toArray, List.map_cons, List.map_nil]); first | done | rfl | (simp only [List.length_drop, List.length_take]; rfl)) ?_
         with_reducible refine (customhouseref03_Verify.calls kj38 a4 a3 a5_0 _ _ l5_1 _ _ l5_2 t550 _ ?side1 ?side2 ?side3 ?side4 A68.out).mono ?_
         (case side1 => repeat (first | exact (Kd.C_below HR5_1.out HB.out) | (with_reducible refine Kd.C_alloc ?_ _) | (with_reducible refine Kd.C_drewN ?_ _) | (with_reducible refine Kd.C_drew ?_)))
         (case side2 => exact HC5_1.out)
         (case side3 => repeat (first | exact (Kd.C_below HR5_2.out HB.out) | (with_reducible refine Kd.C_alloc ?_ _) | (with_reducible refine Kd.C_drewN ?_ _) | (with_reducible refine Kd.C_drew ?_)))
         (case side4 => exact HC5_2.out)
         rintro e w79 ⟨rfl, hb⟩
         refine ⟨_, rfl, ?_⟩
         have n0_ := Aside0.mk (Kd.R_below (by (with_reducible repeat (first | apply Kd.R_alloc | apply Kd.R_drewN | apply Kd.R_drew)); exact HO_539001.out) hb)
         have n1_ := Aside0.mk (Kd.R_below (by (with_reducible repeat (first | apply Kd.R_alloc | apply Kd.R_drewN | apply Kd.R_drew)); exact HO_539002.out) hb)
         have n2_ := Aside0.mk (Kd.R_below (by (with_reducible repeat (first | apply Kd.R_alloc | apply Kd.R_drewN | apply Kd.R_drew)); exact HO_548001.out) hb)
         have n3_ := Aside0.mk (Kd.R_below (by (with_reducible repeat (first | apply Kd.R_alloc | apply Kd.R_drewN | apply Kd.R_drew)); exact HO_548002.out) hb)
         have n4_ := Aside0.mk (blk_below (g := gb519) (o := .cells #[.int .i64 a5_0, .slice A5_1 l5_1.length c5_1, .slice A5_2 l5_2.length c5_2] 33 (0, 0)) (by (with_reducible repeat (first | refine blk_drewN ?_ _ | refine blk_drew ?_ | refine blk_alloc ?_ _)); exact BK519.out) hb)
         have n5_ := Aside0.mk (blk_below (g := gb538) (o := .cells #[.int .i64 t530, .slice Ao46 t531.length co46, .slice Ao47 t534.length co47] 33 (0, 0)) (by (with_reducible repeat (first | refine blk_drewN ?_ _ | refine blk_drew ?_ | refine blk_alloc ?_ _)); exact BK538.out) hb)
         have n6_ := Aside0.mk (blk_below (g := gb547) (o := .cells #[.int .i64 t539, .slice Ao53 t540.length co53, .slice Ao54 t543.length co54] 33 (0, 0)) (by (with_reducible repeat (first | refine blk_drewN ?_ _ | refine blk_drew ?_ | refine blk_alloc ?_ _)); exact BK547.out) hb)
         have n7_ := Aside0.mk (below_step (by repeat (first | (with_reducible first | exact HB.out | apply below_alloc | apply pw_below_drewN | apply below_drew1 | refine below_set ?_ GE519.out | refine below_set ?_ GE538.out | refine below_set ?_ GE547.out) | exact HB.out)) hb)
         clear HO_539001; clear HO_539002; clear HO_548001; clear HO_548002; clear BK519; clear BK538; clear BK547; clear HB; have HO_539001 := n0_; have HO_539002 := n1_; have HO_548001 := n2_; have HO_548002 := n3_; have BK519 := n4_; have BK538 := n5_; have BK547 := n6_; have HB := n7_; clear n0_ n1_ n2_ n3_ n4_ n5_ n6_ n7_
         (try clear hb)
         (try clear hb2)
         (try clear hk)
         (try clear hi)
         refine hK.out _ _ ⟨(blk_cell BK519.out 0).trans rfl, (blk_cell BK519.out 1).trans rfl, (blk_cell BK519.out 2).trans rfl⟩ (fun hHeld => ?_)
         clear hK K
         refine norm_ (a' := ?_) ?_ ?_
         rotate_left
         ·show Act.put _ (some 102) _ = _
          simp only [Act.put, sq1, sq2, sq3, i64_w, i32_w]; rfl
         refine pure_ (i := 13) (N := some 103) (v := ?_) (a' := ?_) (fT 14 27) rfl rfl (any_of HT_.out (by kernel_rfl)) (fun _ _ _ h => h) (Or.inl ⟨by rfl, ?_⟩) ?_ ?_
         rotate_left
         ·intro w'; go_simp; with_reducible rfl
         rotate_left
         ·simp only [Act.put, sq1, sq2, sq3, i64_w, i32_w]; rfl
         refine pure_ (i := 14) (N := some 104) (v := ?_) (a' := ?_) (fT 15 27) rfl rfl (any_of HT_.out (by kernel_rfl)) (fun _ _ _ h => h) (Or.inl ⟨by rfl, ?_⟩) ?_ ?_
         rotate_left
         ·intro w'; go_simp; with_reducible rfl
         rotate_left
         ·simp only [Act.put, sq1, sq2, sq3, i64_w, i32_w]; rfl
         refine pure_ (i := 15) (N := some 105) (v := ?_) (a' := ?_) (fT 16 27) rfl rfl (any_of HT_.out (by kernel_rfl)) (fun _ _ _ h => h) (Or.inl ⟨by rfl, ?_⟩) ?_ ?_
         rotate_left
         ·intro w'; go_simp; with_reducible rfl
         rotate_left
         ·simp only [Act.put, sq1, sq2, sq3, i64_w, i32_w]; rfl
         refine pure_ (i := 16) (N := some 106) (v := undef) (a' := ?_) (fT 17 27) rfl rfl (any_of HT_.out (by kernel_rfl)) (fun _ _ _ h => h) (Or.inr ⟨by rfl, rfl⟩) ?_ ?_
         rotate_left
         ·simp only [Act.put, sq1, sq2, sq3, i64_w, i32_w]; rfl
         refine pure_ (i := 17) (N := some 107) (v := undef) (a' := ?_) (fT 18 27) rfl rfl (any_of HT_.out (by kernel_rfl)) (fun _ _ _ h => h) (Or.inr ⟨by rfl, rfl⟩) ?_ ?_
         rotate_left
         ·simp only [Act.put, sq1, sq2, sq3, i64_w, i32_w]; rfl
         refine pure_ (i := 18) (N := some 108) (v := undef) (a' := ?_) (fT 19 27) rfl rfl (any_of HT_.out (by kernel_rfl)) (fun _ _ _ h => h) (Or.inr ⟨by rfl, rfl⟩) ?_ ?_
         rotate_left
         ·simp only [Act.put, sq1, sq2, sq3, i64_w, i32_w]; rfl
         refine pure_ (i := 19) (N := some 109) (v := undef) (a' := ?_) (fT 20 27) rfl rfl (any_of HT_.out (by kernel_rfl)) (fun _ _ _ h => h) (Or.inr ⟨by rfl, rfl⟩) ?_ ?_
         rotate_left
         ·simp only [Act.put, sq1, sq2, sq3, i64_w, i32_w]; rfl
         refine pure_ (i := 20) (N := some 110) (v := undef) (a' := ?_) (fT 21 27) rfl rfl (any_of HT_.out (by kernel_rfl)) (fun _ _ _ h => h) (Or.inr ⟨by rfl, rfl⟩) ?_ ?_
         rotate_left
         ·simp only [Act.put, sq1, sq2, sq3, i64_w, i32_w]; rfl
         refine pure_ (i := 21) (N := some 111) (v := undef) (a' := ?_) (fT 22 27) rfl rfl (any_of HT_.out (by kernel_rfl)) (fun _ _ _ h => h) (Or.inr ⟨by rfl, rfl⟩) ?_ ?_
         rotate_left
         ·simp only [Act.put, sq1, sq2, sq3, i64_w, i32_w]; rfl
         refine pure_ (i := 22) (N := some 112) (v := undef) (a' := ?_) (fT 23 27) rfl rfl (any_of HT_.out (by kernel_rfl)) (fun _ _ _ h => h) (Or.inr ⟨by rfl, rfl⟩) ?_ ?_
         rotate_left
         ·simp only [Act.put, sq1, sq2, sq3, i64_w, i32_w]; rfl
         refine pure_ (i := 23) (N := some 113) (v := undef) (a' := ?_) (fT 24 27) rfl rfl (any_of HT_.out (by kernel_rfl)) (fun _ _ _ h => h) (Or.inr ⟨by rfl, rfl⟩) ?_ ?_
         rotate_left
         ·simp only [Act.put, sq1, sq2, sq3, i64_w, i32_w]; rfl
         refine pure_ (i := 24) (N := some 114) (v := undef) (a' := ?_) (fT 25 27) rfl rfl (any_of HT_.out (by kernel_rfl)) (fun _ _ _ h => h) (Or.inr ⟨by rfl, rfl⟩) ?_ ?_
         rotate_left
         ·simp only [Act.put, sq1, sq2, sq3, i64_w, i32_w]; rfl
         refine pure_ (i := 25) (N := some 115) (v := ?_) (a' := ?_) (fT 26 27) rfl rfl (any_of HT_.out (by kernel_rfl)) (fun _ _ _ h => h) (Or.inl ⟨by rfl, ?_⟩) ?_ ?_
         rotate_left
         ·intro w'; go_simp; with_reducible rfl
         rotate_left
         ·simp only [Act.put, sq1, sq2, sq3, i64_w, i32_w]; rfl
         refine pure_ (i := 26) (N := some 12) (v := ?_) (a' := ?_) (fT 27 27) rfl rfl (any_of HT_.out (by kernel_rfl)) (fun _ _ _ h => h) (Or.inl ⟨by rfl, ?_⟩) ?_ ?_
         rotate_left
         ·intro w'; go_simp; with_reducible rfl
         rotate_left
         ·simp only [Act.put, sq1, sq2, sq3, i64_w, i32_w]; rfl
         refine done_ (done_of HT_.out (by kernel_rfl)) ?_
         try go_wp2
         go_ret
         exact ⟨by first | rfl | (simp [errW_none, errW_some] <;> rfl) | (simp [*, errW_none, errW_some] <;> rfl), by repeat (first | (with_reducible first | exact HB.out | apply below_alloc | apply pw_below_drewN | apply below_drew1 | refine below_set ?_ GE519.out | refine below_set ?_ GE538.out | refine below_set ?_ GE547.out) | exact HB.out)⟩
       ·replace c66 := Bool.eq_false_iff.mpr c66
        subst c66
        have H1 : (some false) = some r := by rw [if_neg (show ¬ (false = true) by decide)] at H; exact H
        clear H; have H := H1; clear H1
        obtain rfl := Option.some.inj H
        try go_wp2
        have n0_ := Aside0.mk (Kd.R_drew HO_539001.out)
        have n1_ := Aside0.mk (Kd.R_drew HO_539002.out)
        have n2_ := Aside0.mk (Kd.R_drew HO_548001.out)
        have n3_ := Aside0.mk (Kd.R_drew HO_548002.out)
        have n4_ := Aside0.mk (blk_drew BK519.out)
        have n5_ := Aside0.mk (blk_drew BK538.out)
        have n6_ := Aside0.mk (blk_drew BK547.out)
        have n7_ := Aside0.mk (below_drew1 HB.out)
        clear HO_539001; clear HO_539002; clear HO_548001; clear HO_548002; clear BK519; clear BK538; clear BK547; clear HB; have HO_539001 := n0_; have HO_539002 := n1_; have HO_548001 := n2_; have HO_548002 := n3_; have BK519 := n4_; have BK538 := n5_; have BK547 := n6_; have HB := n7_; clear n0_ n1_ n2_ n3_ n4_ n5_ n6_ n7_
        refine start_ (n := 27) (S := fun w' => True) (ds := []) (fT 0 27) (by kernel_rfl) rfl rfl trivial (fun hHeld => ?_); refine with_tabW customhouselaw03_SealMatchesReference.tab9 customhouselaw03_SealMatchesReference.bits9 (fun HT_ HW_ => ?_)
        generalize wc.drew = w80 at HO_539001 HO_539002 HO_548001 HO_548002 BK519 BK538 BK547 HB hHeld ⊢
        refine pure_ (i := 0) (N := some 90) (v := ?_) (a' := ?_) (fT 1 27) rfl rfl (any_of HT_.out (by kernel_rfl)) (fun _ _ _ h => h) (Or.inl ⟨by rfl, ?_⟩) ?_ ?_
        rotate_left
        ·intro w'; go_simp; with_reducible rfl
        rotate_left
        ·simp only [Act.put, sq1, sq2, sq3, i64_w, i32_w]; rfl
        refine pure_ (i := 1) (N := some 91) (v := ?_) (a' := ?_) (fT 2 27) rfl rfl (any_of HT_.out (by kernel_rfl)) (fun _ _ _ h => h) (Or.inl ⟨by rfl, ?_⟩) ?_ ?_
        rotate_left
        ·intro w'; go_simp; with_reducible rfl
        rotate_left
        ·simp only [Act.put, sq1, sq2, sq3, i64_w, i32_w]; rfl
        refine pure_ (i := 2) (N := some 92) (v := ?_) (a' := ?_) (fT 3 27) rfl rfl (any_of HT_.out (by kernel_rfl)) (fun _ _ _ h => h) (Or.inl ⟨by rfl, ?_⟩) ?_ ?_
        rotate_left
        ·intro w'; go_simp; with_reducible rfl
        rotate_left
        ·simp only [Act.put, sq1, sq2, sq3, i64_w, i32_w]; rfl
        refine pure_ (i := 3) (N := some 93) (v := ?_) (a' := ?_) (fT 4 27) rfl rfl (any_of HT_.out (by kernel_rfl)) (fun _ _ _ h => h) (Or.inl ⟨by rfl, ?_⟩) ?_ ?_
        rotate_left
        ·intro w'; go_simp; with_reducible rfl
        rotate_left
        ·simp only [Act.put, sq1, sq2, sq3, i64_w, i32_w]; rfl
        refine pure_ (i := 4) (N := some 94) (v := ?_) (a' := ?_) (fT 5 27) rfl rfl (any_of HT_.out (by kernel_rfl)) (fun _ _ _ h => h) (Or.inl ⟨by rfl, ?_⟩) ?_ ?_
        rotate_left
        ·intro w'; go_simp; with_reducible rfl
        rotate_left
        ·simp only [Act.put, sq1, sq2, sq3, i64_w, i32_w]; rfl
        refine pure_ (i := 5) (N := some 95) (v := undef) (a' := ?_) (fT 6 27) rfl rfl (any_of HT_.out (by kernel_rfl)) (fun _ _ _ h => h) (Or.inr ⟨by rfl, rfl⟩) ?_ ?_
        rotate_left
        ·simp only [Act.put, sq1, sq2, sq3, i64_w, i32_w]; rfl
        refine pure_ (i := 6) (N := some 96) (v := undef) (a' := ?_) (fT 7 27) rfl rfl (any_of HT_.out (by kernel_rfl)) (fun _ _ _ h => h) (Or.inr ⟨by rfl, rfl⟩) ?_ ?_
        rotate_left
        ·simp only [Act.put, sq1, sq2, sq3, i64_w, i32_w]; rfl
        refine pure_ (i := 7) (N := some 97) (v := undef) (a' := ?_) (fT 8 27) rfl rfl (any_of HT_.out (by kernel_rfl)) (fun _ _ _ h => h) (Or.inr ⟨by rfl, rfl⟩) ?_ ?_
        rotate_left
        ·simp only [Act.put, sq1, sq2, sq3, i64_w, i32_w]; rfl
        refine pure_ (i := 8) (N := some 98) (v := undef) (a' := ?_) (fT 9 27) rfl rfl (any_of HT_.out (by kernel_rfl)) (fun _ _ _ h => h) (Or.inr ⟨by rfl, rfl⟩) ?_ ?_
        rotate_left
        ·simp only [Act.put, sq1, sq2, sq3, i64_w, i32_w]; rfl
        refine pure_ (i := 9) (N := some 99) (v := undef) (a' := ?_) (fT 10 27) rfl rfl (any_of HT_.out (by kernel_rfl)) (fun _ _ _ h => h) (Or.inr ⟨by rfl, rfl⟩) ?_ ?_
        rotate_left
        ·simp only [Act.put, sq1, sq2, sq3, i64_w, i32_w]; rfl
        refine pure_ (i := 10) (N := some 100) (v := undef) (a' := ?_) (fT 11 27) rfl rfl (any_of HT_.out (by kernel_rfl)) (fun _ _ _ h => h) (Or.inr ⟨by rfl, rfl⟩) ?_ ?_
        rotate_left
        ·simp only [Act.put, sq1, sq2, sq3, i64_w, i32_w]; rfl
        refine pure_ (i := 11) (N := some 101) (v := undef) (a' := ?_) (fT 12 27) rfl rfl (any_of HT_.out (by kernel_rfl)) (fun _ _ _ h => h) (Or.inr ⟨by rfl, rfl⟩) ?_ ?_
        rotate_left
        ·simp only [Act.put, sq1, sq2, sq3, i64_w, i32_w]; rfl
        refine pure_ (i := 12) (N := some 102) (v := undef) (a' := ?_) (fT 13 27) rfl rfl (any_of HT_.out (by kernel_rfl)) (fun _ _ _ h => h) (Or.inr ⟨by rfl, rfl⟩) ?_ ?_
        rotate_left
        ·simp only [Act.put, sq1, sq2, sq3, i64_w, i32_w]; rfl
        refine pure_ (i := 13) (N := some 103) (v := undef) (a' := ?_) (fT 14 27) rfl rfl (any_of HT_.out (by kernel_rfl)) (fun _ _ _ h => h) (Or.inr ⟨by rfl, rfl⟩) ?_ ?_
        rotate_left
        ·simp only [Act.put, sq1, sq2, sq3, i64_w, i32_w]; rfl
        refine pure_ (i := 14) (N := some 104) (v := ?_) (a' := ?_) (fT 15 27) rfl rfl (any_of HT_.out (by kernel_rfl)) (fun _ _ _ h => h) (Or.inl ⟨by rfl, ?_⟩) ?_ ?_
        rotate_left
        ·intro w'; go_simp; with_reducible rfl
        rotate_left
        ·simp only [Act.put, sq1, sq2, sq3, i64_w, i32_w]; rfl
        refine pure_ (i := 15) (N := some 105) (v := ?_) (a' := ?_) (fT 16 27) rfl rfl (any_of HT_.out (by kernel_rfl)) (fun _ _ _ h => h) (Or.inl ⟨by rfl, ?_⟩) ?_ ?_
        rotate_left
        ·intro w'; go_simp; with_reducible rfl
        rotate_left
        ·simp only [Act.put, sq1, sq2, sq3, i64_w, i32_w]; rfl
        refine pure_ (i := 16) (N := some 106) (v := undef) (a' := ?_) (fT 17 27) rfl rfl (any_of HT_.out (by kernel_rfl)) (fun _ _ _ h => h) (Or.inr ⟨by rfl, rfl⟩) ?_ ?_
        rotate_left
        ·simp only [Act.put, sq1, sq2, sq3, i64_w, i32_w]; rfl
        refine pure_ (i := 17) (N := some 107) (v := undef) (a' := ?_) (fT 18 27) rfl rfl (any_of HT_.out (by kernel_rfl)) (fun _ _ _ h => h) (Or.inr ⟨by rfl, rfl⟩) ?_ ?_
        rotate_left
        ·simp only [Act.put, sq1, sq2, sq3, i64_w, i32_w]; rfl
        refine pure_ (i := 18) (N := some 108) (v := undef) (a' := ?_) (fT 19 27) rfl rfl (any_of HT_.out (by kernel_rfl)) (fun _ _ _ h => h) (Or.inr ⟨by rfl, rfl⟩) ?_ ?_
        rotate_left
        ·simp only [Act.put, sq1, sq2, sq3, i64_w, i32_w]; rfl
        refine pure_ (i := 19) (N := some 109) (v := undef) (a' := ?_) (fT 20 27) rfl rfl (any_of HT_.out (by kernel_rfl)) (fun _ _ _ h => h) (Or.inr ⟨by rfl, rfl⟩) ?_ ?_
        rotate_left
        ·simp only [Act.put, sq1, sq2, sq3, i64_w, i32_w]; rfl
        refine pure_ (i := 20) (N := some 110) (v := undef) (a' := ?_) (fT 21 27) rfl rfl (any_of HT_.out (by kernel_rfl)) (fun _ _ _ h => h) (Or.inr ⟨by rfl, rfl⟩) ?_ ?_
        rotate_left
        ·simp only [Act.put, sq1, sq2, sq3, i64_w, i32_w]; rfl
        refine pure_ (i := 21) (N := some 111) (v := undef) (a' := ?_) (fT 22 27) rfl rfl (any_of HT_.out (by kernel_rfl)) (fun _ _ _ h => h) (Or.inr ⟨by rfl, rfl⟩) ?_ ?_
        rotate_left
        ·simp only [Act.put, sq1, sq2, sq3, i64_w, i32_w]; rfl
        refine pure_ (i := 22) (N := some 112) (v := undef) (a' := ?_) (fT 23 27) rfl rfl (any_of HT_.out (by kernel_rfl)) (fun _ _ _ h => h) (Or.inr ⟨by rfl, rfl⟩) ?_ ?_
        rotate_left
        ·simp only [Act.put, sq1, sq2, sq3, i64_w, i32_w]; rfl
        refine pure_ (i := 23) (N := some 113) (v := undef) (a' := ?_) (fT 24 27) rfl rfl (any_of HT_.out (by kernel_rfl)) (fun _ _ _ h => h) (Or.inr ⟨by rfl, rfl⟩) ?_ ?_
        rotate_left
        ·simp only [Act.put, sq1, sq2, sq3, i64_w, i32_w]; rfl
        refine pure_ (i := 24) (N := some 114) (v := undef) (a' := ?_) (fT 25 27) rfl rfl (any_of HT_.out (by kernel_rfl)) (fun _ _ _ h => h) (Or.inr ⟨by rfl, rfl⟩) ?_ ?_
        rotate_left
        ·simp only [Act.put, sq1, sq2, sq3, i64_w, i32_w]; rfl
        refine pure_ (i := 25) (N := some 115) (v := ?_) (a' := ?_) (fT 26 27) rfl rfl (any_of HT_.out (by kernel_rfl)) (fun _ _ _ h => h) (Or.inl ⟨by rfl, ?_⟩) ?_ ?_
        rotate_left
        ·intro w'; go_simp; with_reducible rfl
        rotate_left
        ·simp only [Act.put, sq1, sq2, sq3, i64_w, i32_w]; rfl
        refine pure_ (i := 26) (N := some 12) (v := ?_) (a' := ?_) (fT 27 27) rfl rfl (any_of HT_.out (by kernel_rfl)) (fun _ _ _ h => h) (Or.inl ⟨by rfl, ?_⟩) ?_ ?_
        rotate_left
        ·intro w'; go_simp; with_reducible rfl
        rotate_left
        ·simp only [Act.put, sq1, sq2, sq3, i64_w, i32_w]; rfl
        refine done_ (done_of HT_.out (by kernel_rfl)) ?_
        try go_wp2
        go_ret
        exact ⟨by first | rfl | (simp [errW_none, errW_some] <;> rfl) | (simp [*, errW_none, errW_some] <;> rfl), by repeat (first | (with_reducible first | exact HB.out | apply below_alloc | apply pw_below_drewN | apply below_drew1 | refine below_set ?_ GE519.out | refine below_set ?_ GE538.out | refine below_set ?_ GE547.out) | exact HB.out)⟩
      ·replace c65 := Bool.eq_false_iff.mpr c65
       subst c65
       have H1 : (some false) = some r := by rw [if_neg (show ¬ (false = true) by decide)] at H; exact H
       clear H; have H := H1; clear H1
       obtain rfl := Option.some.inj H
       try go_wp2
       have n0_ := Aside0.mk (Kd.R_drew HO_539001.out)
       have n1_ := Aside0.mk (Kd.R_drew HO_539002.out)
       have n2_ := Aside0.mk (Kd.R_drew HO_548001.out)
       have n3_ := Aside0.mk (Kd.R_drew HO_548002.out)
       have n4_ := Aside0.mk (blk_drew BK519.out)
       have n5_ := Aside0.mk (blk_drew BK538.out)
       have n6_ := Aside0.mk (blk_drew BK547.out)
       have n7_ := Aside0.mk (below_drew1 HB.out)
       clear HO_539001; clear HO_539002; clear HO_548001; clear HO_548002; clear BK519; clear BK538; clear BK547; clear HB; have HO_539001 := n0_; have HO_539002 := n1_; have HO_548001 := n2_; have HO_548002 := n3_; have BK519 := n4_; have BK538 := n5_; have BK547 := n6_; have HB := n7_; clear n0_ n1_ n2_ n3_ n4_ n5_ n6_ n7_
       refine start_ (n := 27) (S := fun w' => True) (ds := []) (fT 0 27) (by kernel_rfl) rfl rfl trivial (fun hHeld => ?_); refine with_tabW customhouselaw03_SealMatchesReference.tab9 customhouselaw03_SealMatchesReference.bits9 (fun HT_ HW_ => ?_)
       generalize wc.drew = w81 at HO_539001 HO_539002 HO_548001 HO_548002 BK519 BK538 BK547 HB hHeld ⊢
       refine pure_ (i := 0) (N := some 90) (v := ?_) (a' := ?_) (fT 1 27) rfl rfl (any_of HT_.out (by kernel_rfl)) (fun _ _ _ h => h) (Or.inl ⟨by rfl, ?_⟩) ?_ ?_
       rotate_left
       ·intro w'; go_simp; with_reducible rfl
       rotate_left
       ·simp only [Act.put, sq1, sq2, sq3, i64_w, i32_w]; rfl
       refine pure_ (i := 1) (N := some 91) (v := ?_) (a' := ?_) (fT 2 27) rfl rfl (any_of HT_.out (by kernel_rfl)) (fun _ _ _ h => h) (Or.inl ⟨by rfl, ?_⟩) ?_ ?_
       rotate_left
       ·intro w'; go_simp; with_reducible rfl
       rotate_left
       ·simp only [Act.put, sq1, sq2, sq3, i64_w, i32_w]; rfl
       refine pure_ (i := 2) (N := some 92) (v := undef) (a' := ?_) (fT 3 27) rfl rfl (any_of HT_.out (by kernel_rfl)) (fun _ _ _ h => h) (Or.inr ⟨by rfl, rfl⟩) ?_ ?_
       rotate_left
       ·simp only [Act.put, sq1, sq2, sq3, i64_w, i32_w]; rfl
       refine pure_ (i := 3) (N := some 93) (v := ?_) (a' := ?_) (fT 4 27) rfl rfl (any_of HT_.out (by kernel_rfl)) (fun _ _ _ h => h) (Or.inl ⟨by rfl, ?_⟩) ?_ ?_
       rotate_left
       ·intro w'; go_simp; with_reducible rfl
       rotate_left
       ·simp only [Act.put, sq1, sq2, sq3, i64_w, i32_w]; rfl
       refine pure_ (i := 4) (N := some 94) (v := ?_) (a' := ?_) (fT 5 27) rfl rfl (any_of HT_.out (by kernel_rfl)) (fun _ _ _ h => h) (Or.inl ⟨by rfl, ?_⟩) ?_ ?_
       rotate_left
       ·intro w'; go_simp; with_reducible rfl
       rotate_left
       ·simp only [Act.put, sq1, sq2, sq3, i64_w, i32_w]; rfl
       refine pure_ (i := 5) (N := some 95) (v := undef) (a' := ?_) (fT 6 27) rfl rfl (any_of HT_.out (by kernel_rfl)) (fun _ _ _ h => h) (Or.inr ⟨by rfl, rfl⟩) ?_ ?_
       rotate_left
       ·simp only [Act.put, sq1, sq2, sq3, i64_w, i32_w]; rfl
       refine pure_ (i := 6) (N := some 96) (v := undef) (a' := ?_) (fT 7 27) rfl rfl (any_of HT_.out (by kernel_rfl)) (fun _ _ _ h => h) (Or.inr ⟨by rfl, rfl⟩) ?_ ?_
       rotate_left
       ·simp only [Act.put, sq1, sq2, sq3, i64_w, i32_w]; rfl
       refine pure_ (i := 7) (N := some 97) (v := undef) (a' := ?_) (fT 8 27) rfl rfl (any_of HT_.out (by kernel_rfl)) (fun _ _ _ h => h) (Or.inr ⟨by rfl, rfl⟩) ?_ ?_
       rotate_left
       ·simp only [Act.put, sq1, sq2, sq3, i64_w, i32_w]; rfl
       refine pure_ (i := 8) (N := some 98) (v := undef) (a' := ?_) (fT 9 27) rfl rfl (any_of HT_.out (by kernel_rfl)) (fun _ _ _ h => h) (Or.inr ⟨by rfl, rfl⟩) ?_ ?_
       rotate_left
       ·simp only [Act.put, sq1, sq2, sq3, i64_w, i32_w]; rfl
       refine pure_ (i := 9) (N := some 99) (v := undef) (a' := ?_) (fT 10 27) rfl rfl (any_of HT_.out (by kernel_rfl)) (fun _ _ _ h => h) (Or.inr ⟨by rfl, rfl⟩) ?_ ?_
       rotate_left
       ·simp only [Act.put, sq1, sq2, sq3, i64_w, i32_w]; rfl
       refine pure_ (i := 10) (N := some 100) (v := undef) (a' := ?_) (fT 11 27) rfl rfl (any_of HT_.out (by kernel_rfl)) (fun _ _ _ h => h) (Or.inr ⟨by rfl, rfl⟩) ?_ ?_
       rotate_left
       ·simp only [Act.put, sq1, sq2, sq3, i64_w, i32_w]; rfl
       refine pure_ (i := 11) (N := some 101) (v := undef) (a' := ?_) (fT 12 27) rfl rfl (any_of HT_.out (by kernel_rfl)) (fun _ _ _ h => h) (Or.inr ⟨by rfl, rfl⟩) ?_ ?_
       rotate_left
       ·simp only [Act.put, sq1, sq2, sq3, i64_w, i32_w]; rfl
       refine pure_ (i := 12) (N := some 102) (v := undef) (a' := ?_) (fT 13 27) rfl rfl (any_of HT_.out (by kernel_rfl)) (fun _ _ _ h => h) (Or.inr ⟨by rfl, rfl⟩) ?_ ?_
       rotate_left
       ·simp only [Act.put, sq1, sq2, sq3, i64_w, i32_w]; rfl
       refine pure_ (i := 13) (N := some 103) (v := undef) (a' := ?_) (fT 14 27) rfl rfl (any_of HT_.out (by kernel_rfl)) (fun _ _ _ h => h) (Or.inr ⟨by rfl, rfl⟩) ?_ ?_
       rotate_left
       ·simp only [Act.put, sq1, sq2, sq3, i64_w, i32_w]; rfl
       refine pure_ (i := 14) (N := some 104) (v := ?_) (a' := ?_) (fT 15 27) rfl rfl (any_of HT_.out (by kernel_rfl)) (fun _ _ _ h => h) (Or.inl ⟨by rfl, ?_⟩) ?_ ?_
       rotate_left
       ·intro w'; go_simp; with_reducible rfl
       rotate_left
       ·simp only [Act.put, sq1, sq2, sq3, i64_w, i32_w]; rfl
       refine pure_ (i := 15) (N := some 105) (v := ?_) (a' := ?_) (fT 16 27) rfl rfl (any_of HT_.out (by kernel_rfl)) (fun _ _ _ h => h) (Or.inl ⟨by rfl, ?_⟩) ?_ ?_
       rotate_left
       ·intro w'; go_simp; with_reducible rfl
       rotate_left
       ·simp only [Act.put, sq1, sq2, sq3, i64_w, i32_w]; rfl
       refine pure_ (i := 16) (N := some 106) (v := undef) (a' := ?_) (fT 17 27) rfl rfl (any_of HT_.out (by kernel_rfl)) (fun _ _ _ h => h) (Or.inr ⟨by rfl, rfl⟩) ?_ ?_
       rotate_left
       ·simp only [Act.put, sq1, sq2, sq3, i64_w, i32_w]; rfl
       refine pure_ (i := 17) (N := some 107) (v := undef) (a' := ?_) (fT 18 27) rfl rfl (any_of HT_.out (by kernel_rfl)) (fun _ _ _ h => h) (Or.inr ⟨by rfl, rfl⟩) ?_ ?_
       rotate_left
       ·simp only [Act.put, sq1, sq2, sq3, i64_w, i32_w]; rfl
       refine pure_ (i := 18) (N := some 108) (v := undef) (a' := ?_) (fT 19 27) rfl rfl (any_of HT_.out (by kernel_rfl)) (fun _ _ _ h => h) (Or.inr ⟨by rfl, rfl⟩) ?_ ?_
       rotate_left
       ·simp only [Act.put, sq1, sq2, sq3, i64_w, i32_w]; rfl
       refine pure_ (i := 19) (N := some 109) (v := undef) (a' := ?_) (fT 20 27) rfl rfl (any_of HT_.out (by kernel_rfl)) (fun _ _ _ h => h) (Or.inr ⟨by rfl, rfl⟩) ?_ ?_
       rotate_left
       ·simp only [Act.put, sq1, sq2, sq3, i64_w, i32_w]; rfl
       refine pure_ (i := 20) (N := some 110) (v := undef) (a' := ?_) (fT 21 27) rfl rfl (any_of HT_.out (by kernel_rfl)) (fun _ _ _ h => h) (Or.inr ⟨by rfl, rfl⟩) ?_ ?_
       rotate_left
       ·simp only [Act.put, sq1, sq2, sq3, i64_w, i32_w]; rfl
       refine pure_ (i := 21) (N := some 111) (v := undef) (a' := ?_) (fT 22 27) rfl rfl (any_of HT_.out (by kernel_rfl)) (fun _ _ _ h => h) (Or.inr ⟨by rfl, rfl⟩) ?_ ?_
       rotate_left
       ·simp only [Act.put, sq1, sq2, sq3, i64_w, i32_w]; rfl
       refine pure_ (i := 22) (N := some 112) (v := undef) (a' := ?_) (fT 23 27) rfl rfl (any_of HT_.out (by kernel_rfl)) (fun _ _ _ h => h) (Or.inr ⟨by rfl, rfl⟩) ?_ ?_
       rotate_left
       ·simp only [Act.put, sq1, sq2, sq3, i64_w, i32_w]; rfl
       refine pure_ (i := 23) (N := some 113) (v := undef) (a' := ?_) (fT 24 27) rfl rfl (any_of HT_.out (by kernel_rfl)) (fun _ _ _ h => h) (Or.inr ⟨by rfl, rfl⟩) ?_ ?_
       rotate_left
       ·simp only [Act.put, sq1, sq2, sq3, i64_w, i32_w]; rfl
       refine pure_ (i := 24) (N := some 114) (v := undef) (a' := ?_) (fT 25 27) rfl rfl (any_of HT_.out (by kernel_rfl)) (fun _ _ _ h => h) (Or.inr ⟨by rfl, rfl⟩) ?_ ?_
       rotate_left
       ·simp only [Act.put, sq1, sq2, sq3, i64_w, i32_w]; rfl
       refine pure_ (i := 25) (N := some 115) (v := ?_) (a' := ?_) (fT 26 27) rfl rfl (any_of HT_.out (by kernel_rfl)) (fun _ _ _ h => h) (Or.inl ⟨by rfl, ?_⟩) ?_ ?_
       rotate_left
       ·intro w'; go_simp; with_reducible rfl
       rotate_left
       ·simp only [Act.put, sq1, sq2, sq3, i64_w, i32_w]; rfl
       refine pure_ (i := 26) (N := some 12) (v := ?_) (a' := ?_) (fT 27 27) rfl rfl (any_of HT_.out (by kernel_rfl)) (fun _ _ _ h => h) (Or.inl ⟨by rfl, ?_⟩) ?_ ?_
       rotate_left
       ·intro w'; go_simp; with_reducible rfl
       rotate_left
       ·simp only [Act.put, sq1, sq2, sq3, i64_w, i32_w]; rfl
       refine done_ (done_of HT_.out (by kernel_rfl)) ?_
       try go_wp2
       go_ret
       exact ⟨by first | rfl | (simp [errW_none, errW_some] <;> rfl) | (simp [*, errW_none, errW_some] <;> rfl), by repeat (first | (with_reducible first | exact HB.out | apply below_alloc | apply pw_below_drewN | apply below_drew1 | refine below_set ?_ GE519.out | refine below_set ?_ GE538.out | refine below_set ?_ GE547.out) | exact HB.out)⟩
end Go.Proofs.YtdlipbfcadmhjaaGreatDoor.PG3
