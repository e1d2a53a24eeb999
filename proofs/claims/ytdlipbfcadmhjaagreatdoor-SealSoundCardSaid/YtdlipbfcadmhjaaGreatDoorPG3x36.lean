/- Written by a program of this session's over the kit's print: the functions that a law comes to as plain Lean functions, and that Go's code computes them. Nothing is assumed. -/
import Derived.Test.YtdlipbfcadmhjaaGreatDoorPG3x0
import Derived.Test.YtdlipbfcadmhjaaGreatDoorPG3x21
import Derived.Test.YtdlipbfcadmhjaaGreatDoorPG3x22
import Derived.Test.YtdlipbfcadmhjaaGreatDoorPG3x24
import Derived.Test.YtdlipbfcadmhjaaGreatDoorPG3x29
import Derived.Test.YtdlipbfcadmhjaaGreatDoorPG3x32
import Derived.Test.YtdlipbfcadmhjaaGreatDoorPG3x34
import Derived.Test.YtdlipbfcadmhjaaGreatDoorPG3x35
import Derived.Test.YtdlipbfcadmhjaaGreatDoorS4
import Derived.Test.YtdlipbfcadmhjaaGreatDoorY6
namespace Go.Proofs.YtdlipbfcadmhjaaGreatDoor.PG3
open Go.RowKit Go.Proofs.YtdlipbfcadmhjaaGreatDoorW.PrintWords Go.Proofs.YtdlipbfcadmhjaaGreatDoorW.PrintLast Go.Proofs.YtdlipbfcadmhjaaGreatDoorW.PrintMore
attribute [local go_sem] max2_int min2_int max_two min_two max_three min_three max_four min_four   -- for this text's walks alone
set_option linter.unusedVariables false
set_option linter.unusedSimpArgs false

/-! ### customhouselaw03_SealSound: function 6 -/
mutual
def customhouselaw03_SealSound.j0 : Nat → ByteArray → ByteArray → Bool → Int → Bool → Int → List ByteArray → List ByteArray → Option (Bool)
  | 0, _, _, _, _, _, _, _, _ => none
  | k + 1, x0, x2, x9, x10, x28, x666000, x666001, x666002 => if x28 = true then (some x9) else ((seal_Public.f k x0 x10).bind fun bt672 => (if bt672.2 = 0 then ((seal_Verify.f bt672.1 x2 x666000 x666001 x666002).bind fun t674 => (if t674 = true then ((seal_Sign.f x0 x10 x666000 x2).bind fun bt675 => (if bt675.2.2.2 = 0 then ((customhouseref03_Same.f k bt675.1 bt675.2.1 bt675.2.2.1 x666000 x666001 x666002).bind fun t684 => (customhouselaw03_SealSound.j1 k x0 x2 x9 x10 t684 x666000 x666001 x666002)) else (customhouselaw03_SealSound.j1 k x0 x2 x9 x10 false x666000 x666001 x666002))) else (some x9))) else (some false)))
def customhouselaw03_SealSound.j1 : Nat → ByteArray → ByteArray → Bool → Int → Bool → Int → List ByteArray → List ByteArray → Option (Bool)
  | 0, _, _, _, _, _, _, _, _ => none
  | k + 1, x0, x2, x9, x10, x59, x666000, x666001, x666002 => if x59 = true then (some x9) else (if x9 = true then ((customhouseref03_Made.f k x0 x10 15).bind fun t685 => ((customhouseref03_Checked.f k x2 x666000 x666001 x666002).bind fun t688 => (if t685.length + t688.length < 8796093022208 then ((customhouseref02_Shown.f k (t685 ++ t688)).bind fun t694 => (some t694)) else (none)))) else (some false))
end
def customhouselaw03_SealSound.f (k : Nat) (a0 : ByteArray) (a1 : Int) (a2 : ByteArray) (a3_0 : Int) (l3_1 : List ByteArray) (l3_2 : List ByteArray) : Option (Bool) := (customhouselaw03_head.f).bind fun t666 => ((customhouselaw03_short.f k (([a0, a2] : List ByteArray))).bind fun t670 => (if t670 = true then ((customhouseref03_Few.f k a3_0 l3_1 l3_2).bind fun t671 => (customhouselaw03_SealSound.j0 k a0 a2 t666 (Int.tmod (wrap64 (a1)) 3) (!t671) a3_0 l3_1 l3_2)) else (customhouselaw03_SealSound.j0 k a0 a2 t666 (Int.tmod (wrap64 (a1)) 3) true a3_0 l3_1 l3_2)))
def customhouselaw03_SealSound.T13 : Bool × List (List Nat × List Nat) := (true, [([], []), ([0], [0]), ([1], [1]), ([1], [1]), ([2, 3, 1, 1], [1, 2, 3]), ([1], [1]), ([1], [1]), ([5, 6, 4, 1], [1, 5, 6]), ([4, 7, 7, 1], [1, 4, 7]), ([8, 8, 1], [1, 8]), ([1, 9], [1, 9]), ([10, 9, 0, 1, 2, 3, 4, 5, 6, 7, 8, 9, 10], [10])])
def customhouselaw03_SealSound.B13 : List Nat := [0, 1, 3, 3, 15, 3, 3, 127, 255, 511, 1023, 2047]
theorem customhouselaw03_SealSound.tab13 : rtab .any (opsOf Tryz.f6 13) = customhouselaw03_SealSound.T13 := by kernel_rfl
theorem customhouselaw03_SealSound.bits13 : waitsOk customhouselaw03_SealSound.T13.2 customhouselaw03_SealSound.B13 = true := by kernel_rfl
set_option maxHeartbeats 8000000 in
set_option maxRecDepth 100000 in
theorem customhouselaw03_SealSound.calls (k : Nat) (a0 : ByteArray) (a1 : Int) (a2 : ByteArray) (a3_0 : Int) (A3_1 : Option Addr) (c3_1 : Nat) (l3_1 : List ByteArray) (A3_2 : Option Addr) (c3_2 : Nat) (l3_2 : List ByteArray) (r : Bool) (w : World) (hG : GL w) (hr3_1 : Kd.C Kd.string w A3_1 l3_1.length l3_1) (hc3_1 : l3_1.length ≤ c3_1) (hr3_2 : Kd.C Kd.string w A3_2 l3_2.length l3_2) (hc3_2 : l3_2.length ≤ c3_2) (h : customhouselaw03_SealSound.f k a0 a1 a2 a3_0 l3_1 l3_2 = some r) :
    Calls Tryz.prog 6 #[.string a0, .int .u8 a1, .string a2, .agg #[.int .i64 a3_0, .slice A3_1 l3_1.length c3_1, .slice A3_2 l3_2.length c3_2]] w fun e w' => e = .returned (.bool r) ∧ Below w.heap.size w w' := by
  have hu33 := Tryz.underlying33
  have HR3_1 := Aside0.mk hr3_1
  have HC3_1 := Aside0.mk hc3_1
  clear hr3_1 hc3_1
  have HR3_2 := Aside0.mk hr3_2
  have HC3_2 := Aside0.mk hc3_2
  clear hr3_2 hc3_2
  have HB := Aside0.mk (Below.refl w.heap.size w)
  have HG := Aside0.mk hG
  clear hG
  have H : ((customhouselaw03_head.f).bind fun t666 => ((customhouselaw03_short.f k (([a0, a2] : List ByteArray))).bind fun t670 => (if t670 = true then ((customhouseref03_Few.f k a3_0 l3_1 l3_2).bind fun t671 => (customhouselaw03_SealSound.j0 k a0 a2 t666 (Int.tmod (wrap64 (a1)) 3) (!t671) a3_0 l3_1 l3_2)) else (customhouselaw03_SealSound.j0 k a0 a2 t666 (Int.tmod (wrap64 (a1)) 3) true a3_0 l3_1 l3_2)))) = some r := h
  clear h
  replace H := Option.bind_eq_some_iff.mp H
  obtain ⟨t666, A50, H⟩ := H
  replace H : ((customhouselaw03_short.f k (([a0, a2] : List ByteArray))).bind fun t670 => (if t670 = true then ((customhouseref03_Few.f k a3_0 l3_1 l3_2).bind fun t671 => (customhouselaw03_SealSound.j0 k a0 a2 t666 (Int.tmod (wrap64 (a1)) 3) (!t671) a3_0 l3_1 l3_2)) else (customhouselaw03_SealSound.j0 k a0 a2 t666 (Int.tmod (wrap64 (a1)) 3) true a3_0 l3_1 l3_2))) = some r := H
  have A5 := Aside0.mk A50
  clear A50
  have HC6 := Aside0.mk H
  clear H
  go_enter Tryz.func6, Tryz.ntmps6
  go_upto_region 3 with (first | ((with_reducible refine gate_dst (N := 7) rfl ?_); (try (refine gate_guard (by rfl) ?_; dsimp only)); refine box_event ?hg (N := 7) ?hd (cs := #[.int .i64 a3_0, .slice A3_1 l3_1.length c3_1, .slice A3_2 l3_2.length c3_2]) (t := 33) ?hr ?_; (case hd => rfl); (case hg => rfl); (case hr => first | (go_simp; done) | (go_simp; rfl)); intro gb665 hg w7 hbox hb; have n0_ := Aside0.mk (below_step (by repeat (first | (with_reducible first | exact HB.out | apply below_alloc | apply pw_below_drewN | apply below_drew1) | exact HB.out)) hb); have n1_ := Aside0.mk (hbox); have n2_ := Aside0.mk ((by rw [hg]; exact (below_size (by repeat (first | (with_reducible first | exact HB.out | apply below_alloc | apply pw_below_drewN | apply below_drew1) | exact HB.out))) : w.heap.size ≤ gb665)); have n3_ := Aside0.mk ((by rw [hg]; exact (below_size (by repeat (first | (with_reducible first | exact HB.out | apply below_alloc | apply pw_below_drewN | apply below_drew1) | exact HB.out))) : w.heap.size ≤ gb665)); clear HB; have HB := n0_; have BK665 := n1_; have GW665 := n2_; have GE665 := n3_; clear n0_ n1_ n2_ n3_; clear hb hbox hg) | ((with_reducible refine gate_callee (f := 36) rfl ?_); refine goesL_ (some 15) rfl rfl Tryz.func36 (by kernel_rfl) rfl #[] rfl (by (try simp only [List.map_toArray, List.map_cons, List.map_nil]); first | done | rfl | (simp only [List.length_drop, List.length_take]; rfl)) ?_; (with_reducible refine (customhouselaw03_head.calls  t666 _ ?side1 A5.out).mono ?_); (case side1 => exact GL.below HG.out (by repeat (first | (with_reducible first | exact HB.out | apply below_alloc | apply pw_below_drewN | apply below_drew1 | refine below_set ?_ GE665.out) | exact HB.out))); rintro e w8 ⟨rfl, hb⟩; refine ⟨_, rfl, ?_⟩; have n0_ := Aside0.mk (blk_below (g := gb665) (o := .cells #[.int .i64 a3_0, .slice A3_1 l3_1.length c3_1, .slice A3_2 l3_2.length c3_2] 33 (0, 0)) (by (with_reducible repeat (first | refine blk_drewN ?_ _ | refine blk_drew ?_ | refine blk_alloc ?_ _)); exact BK665.out) hb); have n1_ := Aside0.mk (below_step (by repeat (first | (with_reducible first | exact HB.out | apply below_alloc | apply pw_below_drewN | apply below_drew1 | refine below_set ?_ GE665.out) | exact HB.out)) hb); clear BK665; clear HB; have BK665 := n0_; have HB := n1_; clear n0_ n1_; (try clear hb); (try clear hb2); (try clear hk); (try clear hi)))
  (try simp only [Act.put, List.setIfInBounds_toArray, List.set_cons_zero, List.set_cons_succ])
  go_cut [28] (fun v28 wc => ∃ (kq : Nat) (x28_5 : Bool), v28 = .bool x28_5 ∧ Aside0 (customhouselaw03_SealSound.j0 kq a0 a2 t666 (Int.tmod (wrap64 (a1)) 3) x28_5 a3_0 l3_1 l3_2 = some r) ∧ Aside0 (kq ≤ k) ∧ Aside0 (wc.heap[gb665]? = some (.cells #[.int .i64 a3_0, (.slice A3_1 l3_1.length c3_1), (.slice A3_2 l3_2.length c3_2)] 33 (0, 0))) ∧ Aside0 (Below w.heap.size w wc))
  case first =>
    have H := HC6.out
    clear HC6
    obtain ⟨y667, hy667⟩ : ∃ y_ : List ByteArray, y_ = (([a0, a2] : List ByteArray)) := ⟨_, rfl⟩
    replace H : ((customhouselaw03_short.f k y667).bind fun t670 => (if t670 = true then ((customhouseref03_Few.f k a3_0 l3_1 l3_2).bind fun t671 => (customhouselaw03_SealSound.j0 k a0 a2 t666 (Int.tmod (wrap64 (a1)) 3) (!t671) a3_0 l3_1 l3_2)) else (customhouselaw03_SealSound.j0 k a0 a2 t666 (Int.tmod (wrap64 (a1)) 3) true a3_0 l3_1 l3_2))) = some r := by first | (rw [hy667]; with_reducible exact H) | (have H2_ := (Option.bind_some _ _).symm.trans H; rw [hy667]; with_reducible exact H2_) | (have H2_ := (Option.bind_some _ _).symm.trans H; with_reducible exact H2_) | with_reducible exact H | (rw [hy667]; exact H) | exact H
    have Ny667 := Aside0.mk hy667
    clear hy667
    replace H := Option.bind_eq_some_iff.mp H
    obtain ⟨t670, A90, H⟩ := H
    replace H : (if t670 = true then ((customhouseref03_Few.f k a3_0 l3_1 l3_2).bind fun t671 => (customhouselaw03_SealSound.j0 k a0 a2 t666 (Int.tmod (wrap64 (a1)) 3) (!t671) a3_0 l3_1 l3_2)) else (customhouselaw03_SealSound.j0 k a0 a2 t666 (Int.tmod (wrap64 (a1)) 3) true a3_0 l3_1 l3_2)) = some r := H
    have A9 := Aside0.mk A90
    clear A90
    by_cases c10 : t670 = true
    · subst c10
      have H1 : ((customhouseref03_Few.f k a3_0 l3_1 l3_2).bind fun t671 => (customhouselaw03_SealSound.j0 k a0 a2 t666 (Int.tmod (wrap64 (a1)) 3) (!t671) a3_0 l3_1 l3_2)) = some r := by rw [if_pos rfl] at H; exact H
      clear H
      have H := H1
      clear H1
      replace H := Option.bind_eq_some_iff.mp H
      obtain ⟨t671, A110, H⟩ := H
      replace H : (customhouselaw03_SealSound.j0 k a0 a2 t666 (Int.tmod (wrap64 (a1)) 3) (!t671) a3_0 l3_1 l3_2) = some r := H
      have A11 := Aside0.mk A110
      clear A110
      have H' := Aside0.mk H
      clear H
      go_wp2_with (first | ((with_reducible refine gate_dst (N := 21) rfl ?_); (try (refine gate_guard (by rfl) ?_; dsimp only)); refine Kd.R_lit Kd.string _ 9 ?hg (N := 21) ?hd (xs := ([a0, a2] : List ByteArray)) (inner := [.string a0, .string a2]) (ok := fun _ => True) (okp := fun _ => True) ?hr ?hp (fun _ hk => hk) trivial (Below.refl _ _) (Nat.le_refl _) (by simp) ?_; (case hd => rfl); (case hg => rfl); (case hr => first | (go_simp; done) | (go_simp; rfl)); (case hp => exact (Reps.one (show Kd.M Kd.string _ _ _ a0 [.string a0] from rfl) (Reps.one (show Kd.M Kd.string _ _ _ a2 [.string a2] from rfl) (Reps.none _ _)))); intro v668 w12 ho13 hb hg_ hnew_; clear hg_ hnew_; (first | rw [← Ny667.out] at ho13 | (simp only [Int.reduceToNat] at ho13; rw [← Ny667.out] at ho13)); have n0_ := Aside0.mk (Kd.R_lower ho13 (below_size (by repeat (first | (with_reducible first | exact HB.out | apply below_alloc | apply pw_below_drewN | apply below_drew1 | refine below_set ?_ GE665.out) | exact HB.out)))); have n1_ := Aside0.mk (blk_below (g := gb665) (o := .cells #[.int .i64 a3_0, .slice A3_1 l3_1.length c3_1, .slice A3_2 l3_2.length c3_2] 33 (0, 0)) (by (with_reducible repeat (first | refine blk_drewN ?_ _ | refine blk_drew ?_ | refine blk_alloc ?_ _)); exact BK665.out) hb); have n2_ := Aside0.mk (below_step (by repeat (first | (with_reducible first | exact HB.out | apply below_alloc | apply pw_below_drewN | apply below_drew1 | refine below_set ?_ GE665.out) | exact HB.out)) hb); clear BK665; clear HB; have HO669 := n0_; have BK665 := n1_; have HB := n2_; clear n0_ n1_ n2_; clear hb ho13; obtain ⟨Ao14, co14, eo14⟩ := Kd.R_slice HO669.out; subst eo14) | ((with_reducible refine gate_callee (f := 37) rfl ?_); refine goesL_ (some 22) rfl rfl Tryz.func37 (by kernel_rfl) rfl #[.slice Ao14 y667.length co14] rfl (by (try simp only [List.map_toArray, List.map_cons, List.map_nil]); first | done | rfl | (simp only [List.length_drop, List.length_take]; rfl)) ?_; (with_reducible refine (customhouselaw03_short.calls k _ _ y667 true _ ?side1 ?side2 A9.out).mono ?_); (case side1 => repeat (first | exact (Kd.R_reads' HO669.out).2.2 | (with_reducible refine Kd.C_alloc ?_ _) | (with_reducible refine Kd.C_drewN ?_ _) | (with_reducible refine Kd.C_drew ?_))); (case side2 => exact (Kd.R_reads' HO669.out).2.1); rintro e w' ⟨rfl, ⟨nd, rfl⟩⟩; refine ⟨_, rfl, ?_⟩; have hcz15_0 : w12.cell? ⟨gb665, 0, none⟩ = some (.int .i64 a3_0) := (blk_cell BK665.out 0).trans rfl; have hcz15_1 : w12.cell? ⟨gb665, 1, none⟩ = some (.slice A3_1 l3_1.length c3_1) := (blk_cell BK665.out 1).trans rfl; have hcz15_2 : w12.cell? ⟨gb665, 2, none⟩ = some (.slice A3_2 l3_2.length c3_2) := (blk_cell BK665.out 2).trans rfl; have hfz15_0 := blk_frozen BK665.out 0; have hfz15_1 := blk_frozen BK665.out 1; have hfz15_2 := blk_frozen BK665.out 2) | (go_at_call 38; (with_reducible refine (customhouseref03_Few.calls k a3_0 _ _ l3_1 _ _ l3_2 t671 _ ?side1 ?side2 ?side3 ?side4 A11.out).mono ?_); (case side1 => repeat (first | exact (Kd.C_below HR3_1.out (by repeat (first | (with_reducible first | exact HB.out | apply below_alloc | apply pw_below_drewN | apply below_drew1 | refine below_set ?_ GE665.out) | exact HB.out))) | (with_reducible refine Kd.C_alloc ?_ _) | (with_reducible refine Kd.C_drewN ?_ _) | (with_reducible refine Kd.C_drew ?_))); (case side2 => exact HC3_1.out); (case side3 => repeat (first | exact (Kd.C_below HR3_2.out (by repeat (first | (with_reducible first | exact HB.out | apply below_alloc | apply pw_below_drewN | apply below_drew1 | refine below_set ?_ GE665.out) | exact HB.out))) | (with_reducible refine Kd.C_alloc ?_ _) | (with_reducible refine Kd.C_drewN ?_ _) | (with_reducible refine Kd.C_drew ?_))); (case side4 => exact HC3_2.out); rintro e w16 ⟨rfl, hb⟩; have n0_ := Aside0.mk (Kd.R_below (by (with_reducible repeat (first | apply Kd.R_alloc | apply Kd.R_drewN | apply Kd.R_drew)); exact HO669.out) hb); have n1_ := Aside0.mk (blk_below (g := gb665) (o := .cells #[.int .i64 a3_0, .slice A3_1 l3_1.length c3_1, .slice A3_2 l3_2.length c3_2] 33 (0, 0)) (by (with_reducible repeat (first | refine blk_drewN ?_ _ | refine blk_drew ?_ | refine blk_alloc ?_ _)); exact BK665.out) hb); have n2_ := Aside0.mk (below_step (by repeat (first | (with_reducible first | exact HB.out | apply below_alloc | apply pw_below_drewN | apply below_drew1 | refine below_set ?_ GE665.out) | exact HB.out)) hb); clear HO669; clear BK665; clear HB; have HO669 := n0_; have BK665 := n1_; have HB := n2_; clear n0_ n1_ n2_; (try clear hb); (try clear hb2); (try clear hk); (try clear hi)))
      go_meet
      case rel => exact ⟨_, (!t671), (by first | rfl | (simp; done) | (simp [*]; done)), H', ⟨by first | omega | exact Nat.le_refl _⟩, ⟨by (with_reducible repeat (first | refine blk_drewN ?_ _ | refine blk_drew ?_ | refine blk_alloc ?_ _)); exact BK665.out⟩, ⟨by repeat (first | (with_reducible first | exact HB.out | apply below_alloc | apply pw_below_drewN | apply below_drew1 | refine below_set ?_ GE665.out) | exact HB.out)⟩⟩
    · replace c10 := Bool.eq_false_iff.mpr c10
      subst c10
      have H1 : (customhouselaw03_SealSound.j0 k a0 a2 t666 (Int.tmod (wrap64 (a1)) 3) true a3_0 l3_1 l3_2) = some r := by rw [if_neg (show ¬ (false = true) by decide)] at H; exact H
      clear H
      have H := H1
      clear H1
      have H' := Aside0.mk H
      clear H
      go_wp2_with (first | ((with_reducible refine gate_dst (N := 21) rfl ?_); (try (refine gate_guard (by rfl) ?_; dsimp only)); refine Kd.R_lit Kd.string _ 9 ?hg (N := 21) ?hd (xs := ([a0, a2] : List ByteArray)) (inner := [.string a0, .string a2]) (ok := fun _ => True) (okp := fun _ => True) ?hr ?hp (fun _ hk => hk) trivial (Below.refl _ _) (Nat.le_refl _) (by simp) ?_; (case hd => rfl); (case hg => rfl); (case hr => first | (go_simp; done) | (go_simp; rfl)); (case hp => exact (Reps.one (show Kd.M Kd.string _ _ _ a0 [.string a0] from rfl) (Reps.one (show Kd.M Kd.string _ _ _ a2 [.string a2] from rfl) (Reps.none _ _)))); intro v668 w17 ho18 hb hg_ hnew_; clear hg_ hnew_; (first | rw [← Ny667.out] at ho18 | (simp only [Int.reduceToNat] at ho18; rw [← Ny667.out] at ho18)); have n0_ := Aside0.mk (Kd.R_lower ho18 (below_size (by repeat (first | (with_reducible first | exact HB.out | apply below_alloc | apply pw_below_drewN | apply below_drew1 | refine below_set ?_ GE665.out) | exact HB.out)))); have n1_ := Aside0.mk (blk_below (g := gb665) (o := .cells #[.int .i64 a3_0, .slice A3_1 l3_1.length c3_1, .slice A3_2 l3_2.length c3_2] 33 (0, 0)) (by (with_reducible repeat (first | refine blk_drewN ?_ _ | refine blk_drew ?_ | refine blk_alloc ?_ _)); exact BK665.out) hb); have n2_ := Aside0.mk (below_step (by repeat (first | (with_reducible first | exact HB.out | apply below_alloc | apply pw_below_drewN | apply below_drew1 | refine below_set ?_ GE665.out) | exact HB.out)) hb); clear BK665; clear HB; have HO669 := n0_; have BK665 := n1_; have HB := n2_; clear n0_ n1_ n2_; clear hb ho18; obtain ⟨Ao19, co19, eo19⟩ := Kd.R_slice HO669.out; subst eo19) | ((with_reducible refine gate_callee (f := 37) rfl ?_); refine goesL_ (some 22) rfl rfl Tryz.func37 (by kernel_rfl) rfl #[.slice Ao19 y667.length co19] rfl (by (try simp only [List.map_toArray, List.map_cons, List.map_nil]); first | done | rfl | (simp only [List.length_drop, List.length_take]; rfl)) ?_; (with_reducible refine (customhouselaw03_short.calls k _ _ y667 false _ ?side1 ?side2 A9.out).mono ?_); (case side1 => repeat (first | exact (Kd.R_reads' HO669.out).2.2 | (with_reducible refine Kd.C_alloc ?_ _) | (with_reducible refine Kd.C_drewN ?_ _) | (with_reducible refine Kd.C_drew ?_))); (case side2 => exact (Kd.R_reads' HO669.out).2.1); rintro e w' ⟨rfl, ⟨nd, rfl⟩⟩; refine ⟨_, rfl, ?_⟩))
      go_meet
      case rel => exact ⟨_, (true), (by first | rfl | (simp; done) | (simp [*]; done)), H', ⟨by first | omega | exact Nat.le_refl _⟩, ⟨by (with_reducible repeat (first | refine blk_drewN ?_ _ | refine blk_drew ?_ | refine blk_alloc ?_ _)); exact BK665.out⟩, ⟨by repeat (first | (with_reducible first | exact HB.out | apply below_alloc | apply pw_below_drewN | apply below_drew1 | refine below_set ?_ GE665.out) | exact HB.out)⟩⟩
  case rest =>
    clear HC6
    try clear c1
    try clear p2
    try clear c3
    try clear c6
    try clear p6
    try clear c10
    try clear hcz15_0
    try clear hcz15_1
    try clear hcz15_2
    try clear hfz15_0
    try clear hfz15_1
    try clear hfz15_2
    obtain ⟨kq, x28_5, rfl, HA, HJ5, BK665, HB⟩ := hcut
    cases kq with
    | zero => exact absurd HA.out (by simp [customhouselaw03_SealSound.j0])
    | succ kj5 =>
      have H := HA.out
      clear HA
      simp only [customhouselaw03_SealSound.j0] at H
      by_cases c20 : x28_5 = true
      · subst c20
        have H1 : (some t666) = some r := by rw [if_pos rfl] at H; exact H
        clear H
        have H := H1
        clear H1
        obtain rfl := Option.some.inj H
        go_wp2
        go_ret
        exact ⟨by first | rfl | (simp [errW_none, errW_some] <;> rfl) | (simp [*, errW_none, errW_some] <;> rfl), by repeat (first | (with_reducible first | exact HB.out | apply below_alloc | apply pw_below_drewN | apply below_drew1 | refine below_set ?_ GE665.out) | exact HB.out)⟩
      · replace c20 := Bool.eq_false_iff.mpr c20
        subst c20
        have H1 : ((seal_Public.f kj5 a0 (Int.tmod (wrap64 (a1)) 3)).bind fun bt672 => (if bt672.2 = 0 then ((seal_Verify.f bt672.1 a2 a3_0 l3_1 l3_2).bind fun t674 => (if t674 = true then ((seal_Sign.f a0 (Int.tmod (wrap64 (a1)) 3) a3_0 a2).bind fun bt675 => (if bt675.2.2.2 = 0 then ((customhouseref03_Same.f kj5 bt675.1 bt675.2.1 bt675.2.2.1 a3_0 l3_1 l3_2).bind fun t684 => (customhouselaw03_SealSound.j1 kj5 a0 a2 t666 (Int.tmod (wrap64 (a1)) 3) t684 a3_0 l3_1 l3_2)) else (customhouselaw03_SealSound.j1 kj5 a0 a2 t666 (Int.tmod (wrap64 (a1)) 3) false a3_0 l3_1 l3_2))) else (some t666))) else (some false))) = some r := by rw [if_neg (show ¬ (false = true) by decide)] at H; exact H
        clear H
        have H := H1
        clear H1
        replace H := Option.bind_eq_some_iff.mp H
        obtain ⟨⟨t672, t673⟩, A210, H⟩ := H
        replace H : (if t673 = 0 then ((seal_Verify.f t672 a2 a3_0 l3_1 l3_2).bind fun t674 => (if t674 = true then ((seal_Sign.f a0 (Int.tmod (wrap64 (a1)) 3) a3_0 a2).bind fun bt675 => (if bt675.2.2.2 = 0 then ((customhouseref03_Same.f kj5 bt675.1 bt675.2.1 bt675.2.2.1 a3_0 l3_1 l3_2).bind fun t684 => (customhouselaw03_SealSound.j1 kj5 a0 a2 t666 (Int.tmod (wrap64 (a1)) 3) t684 a3_0 l3_1 l3_2)) else (customhouselaw03_SealSound.j1 kj5 a0 a2 t666 (Int.tmod (wrap64 (a1)) 3) false a3_0 l3_1 l3_2))) else (some t666))) else (some false)) = some r := H
        have A21 := Aside0.mk A210
        clear A210
        by_cases c22 : t673 = 0
        · rw [if_pos c22] at H
          have c22b0 : (t673 == 0) = true := beq_iff_eq.mpr c22
          have c22b1 : (t673 != 0) = false := bne_eq_false_iff_eq.mpr c22
          clear c22
          replace H := Option.bind_eq_some_iff.mp H
          obtain ⟨t674, A230, H⟩ := H
          replace H : (if t674 = true then ((seal_Sign.f a0 (Int.tmod (wrap64 (a1)) 3) a3_0 a2).bind fun bt675 => (if bt675.2.2.2 = 0 then ((customhouseref03_Same.f kj5 bt675.1 bt675.2.1 bt675.2.2.1 a3_0 l3_1 l3_2).bind fun t684 => (customhouselaw03_SealSound.j1 kj5 a0 a2 t666 (Int.tmod (wrap64 (a1)) 3) t684 a3_0 l3_1 l3_2)) else (customhouselaw03_SealSound.j1 kj5 a0 a2 t666 (Int.tmod (wrap64 (a1)) 3) false a3_0 l3_1 l3_2))) else (some t666)) = some r := H
          have A23 := Aside0.mk A230
          clear A230
          by_cases c24 : t674 = true
          · subst c24
            have H1 : ((seal_Sign.f a0 (Int.tmod (wrap64 (a1)) 3) a3_0 a2).bind fun bt675 => (if bt675.2.2.2 = 0 then ((customhouseref03_Same.f kj5 bt675.1 bt675.2.1 bt675.2.2.1 a3_0 l3_1 l3_2).bind fun t684 => (customhouselaw03_SealSound.j1 kj5 a0 a2 t666 (Int.tmod (wrap64 (a1)) 3) t684 a3_0 l3_1 l3_2)) else (customhouselaw03_SealSound.j1 kj5 a0 a2 t666 (Int.tmod (wrap64 (a1)) 3) false a3_0 l3_1 l3_2))) = some r := by rw [if_pos rfl] at H; exact H
            clear H
            have H := H1
            clear H1
            replace H := Option.bind_eq_some_iff.mp H
            obtain ⟨⟨t675, t676, t679, t682⟩, A250, H⟩ := H
            replace H : (if t682 = 0 then ((customhouseref03_Same.f kj5 t675 t676 t679 a3_0 l3_1 l3_2).bind fun t684 => (customhouselaw03_SealSound.j1 kj5 a0 a2 t666 (Int.tmod (wrap64 (a1)) 3) t684 a3_0 l3_1 l3_2)) else (customhouselaw03_SealSound.j1 kj5 a0 a2 t666 (Int.tmod (wrap64 (a1)) 3) false a3_0 l3_1 l3_2)) = some r := H
            have A25 := Aside0.mk A250
            clear A250
            have HC26 := Aside0.mk H
            clear H
            go_upto_region 11 with (first | ((with_reducible refine gate_callee (f := 39) rfl ?_); refine goesL_ (some 33) rfl rfl Tryz.func39 (by kernel_rfl) rfl #[.string a0, .int .i64 (Int.tmod (wrap64 (a1)) 3)] rfl (by (try simp only [List.map_toArray, List.map_cons, List.map_nil]); first | done | rfl | (simp only [List.length_drop, List.length_take]; rfl)) ?_; (with_reducible refine (seal_Public.calls kj5 a0 (Int.tmod (wrap64 (a1)) 3) t672 t673 _ ?side1 A21.out).mono ?_); (case side1 => exact GL.below HG.out (by repeat (first | (with_reducible first | exact HB.out | apply below_alloc | apply pw_below_drewN | apply below_drew1 | refine below_set ?_ GE665.out) | exact HB.out))); rintro e w27 ⟨rfl, hb⟩; refine ⟨_, rfl, ?_⟩; have n0_ := Aside0.mk (blk_below (g := gb665) (o := .cells #[.int .i64 a3_0, .slice A3_1 l3_1.length c3_1, .slice A3_2 l3_2.length c3_2] 33 (0, 0)) (by (with_reducible repeat (first | refine blk_drewN ?_ _ | refine blk_drew ?_ | refine blk_alloc ?_ _)); exact BK665.out) hb); have n1_ := Aside0.mk (below_step (by repeat (first | (with_reducible first | exact HB.out | apply below_alloc | apply pw_below_drewN | apply below_drew1 | refine below_set ?_ GE665.out) | exact HB.out)) hb); clear BK665; clear HB; have BK665 := n0_; have HB := n1_; clear n0_ n1_; (try clear hb); (try clear hb2); (try clear hk); (try clear hi); have hcz28_0 : w27.cell? ⟨gb665, 0, none⟩ = some (.int .i64 a3_0) := (blk_cell BK665.out 0).trans rfl; have hcz28_1 : w27.cell? ⟨gb665, 1, none⟩ = some (.slice A3_1 l3_1.length c3_1) := (blk_cell BK665.out 1).trans rfl; have hcz28_2 : w27.cell? ⟨gb665, 2, none⟩ = some (.slice A3_2 l3_2.length c3_2) := (blk_cell BK665.out 2).trans rfl; have hfz28_0 := blk_frozen BK665.out 0; have hfz28_1 := blk_frozen BK665.out 1; have hfz28_2 := blk_frozen BK665.out 2) | ((with_reducible refine gate_callee (f := 44) rfl ?_); refine goesL_ (some 41) rfl rfl Tryz.func44 (by kernel_rfl) rfl #[.string t672, .string a2, .agg #[.int .i64 a3_0, .slice A3_1 l3_1.length c3_1, .slice A3_2 l3_2.length c3_2]] rfl (by (try simp only [List.map_toArray, List.map_cons, List.map_nil]); first | done | rfl | (simp only [List.length_drop, List.length_take]; rfl)) ?_; (with_reducible refine (seal_Verify.calls t672 a2 a3_0 _ _ l3_1 _ _ l3_2 true _ ?side5 ?side1 ?side2 ?side3 ?side4 A23.out).mono ?_); (case side1 => repeat (first | exact (Kd.C_below HR3_1.out HB.out) | (with_reducible refine Kd.C_alloc ?_ _) | (with_reducible refine Kd.C_drewN ?_ _) | (with_reducible refine Kd.C_drew ?_))); (case side2 => exact HC3_1.out); (case side3 => repeat (first | exact (Kd.C_below HR3_2.out HB.out) | (with_reducible refine Kd.C_alloc ?_ _) | (with_reducible refine Kd.C_drewN ?_ _) | (with_reducible refine Kd.C_drew ?_))); (case side4 => exact HC3_2.out); (case side5 => exact GL.below HG.out (by repeat (first | (with_reducible first | exact HB.out | apply below_alloc | apply pw_below_drewN | apply below_drew1 | refine below_set ?_ GE665.out) | exact HB.out))); rintro e w29 ⟨rfl, hb⟩; refine ⟨_, rfl, ?_⟩; have n0_ := Aside0.mk (blk_below (g := gb665) (o := .cells #[.int .i64 a3_0, .slice A3_1 l3_1.length c3_1, .slice A3_2 l3_2.length c3_2] 33 (0, 0)) (by (with_reducible repeat (first | refine blk_drewN ?_ _ | refine blk_drew ?_ | refine blk_alloc ?_ _)); exact BK665.out) hb); have n1_ := Aside0.mk (below_step (by repeat (first | (with_reducible first | exact HB.out | apply below_alloc | apply pw_below_drewN | apply below_drew1 | refine below_set ?_ GE665.out) | exact HB.out)) hb); clear BK665; clear HB; have BK665 := n0_; have HB := n1_; clear n0_ n1_; (try clear hb); (try clear hb2); (try clear hk); (try clear hi); have hcz30_0 : w29.cell? ⟨gb665, 0, none⟩ = some (.int .i64 a3_0) := (blk_cell BK665.out 0).trans rfl; have hcz30_1 : w29.cell? ⟨gb665, 1, none⟩ = some (.slice A3_1 l3_1.length c3_1) := (blk_cell BK665.out 1).trans rfl; have hcz30_2 : w29.cell? ⟨gb665, 2, none⟩ = some (.slice A3_2 l3_2.length c3_2) := (blk_cell BK665.out 2).trans rfl; have hfz30_0 := blk_frozen BK665.out 0; have hfz30_1 := blk_frozen BK665.out 1; have hfz30_2 := blk_frozen BK665.out 2) | ((with_reducible refine gate_callee (f := 41) rfl ?_); refine goesL_ (some 50) rfl rfl Tryz.func41 (by kernel_rfl) rfl #[.string a0, .int .i64 (Int.tmod (wrap64 (a1)) 3), .int .i64 a3_0, .string a2] rfl (by (try simp only [List.map_toArray, List.map_cons, List.map_nil]); first | done | rfl | (simp only [List.length_drop, List.length_take]; rfl)) ?_; (with_reducible refine (seal_Sign.calls a0 (Int.tmod (wrap64 (a1)) 3) a3_0 a2 t675 t676 t679 t682 _ ?side1 A25.out).mono ?_); (case side1 => exact GL.below HG.out (by repeat (first | (with_reducible first | exact HB.out | apply below_alloc | apply pw_below_drewN | apply below_drew1 | refine below_set ?_ GE665.out) | exact HB.out))); rintro e w31 ⟨v677, v680, rfl, ho0, ho1, hb⟩; refine ⟨_, rfl, ?_⟩; have n0_ := Aside0.mk (Kd.R_lower ho0 (below_size (by repeat (first | (with_reducible first | exact HB.out | apply below_alloc | apply pw_below_drewN | apply below_drew1 | refine below_set ?_ GE665.out) | exact HB.out)))); have n1_ := Aside0.mk (Kd.R_lower ho1 (below_size (by repeat (first | (with_reducible first | exact HB.out | apply below_alloc | apply pw_below_drewN | apply below_drew1 | refine below_set ?_ GE665.out) | exact HB.out)))); have n2_ := Aside0.mk (blk_below (g := gb665) (o := .cells #[.int .i64 a3_0, .slice A3_1 l3_1.length c3_1, .slice A3_2 l3_2.length c3_2] 33 (0, 0)) (by (with_reducible repeat (first | refine blk_drewN ?_ _ | refine blk_drew ?_ | refine blk_alloc ?_ _)); exact BK665.out) hb); have n3_ := Aside0.mk (below_step (by repeat (first | (with_reducible first | exact HB.out | apply below_alloc | apply pw_below_drewN | apply below_drew1 | refine below_set ?_ GE665.out) | exact HB.out)) hb); clear BK665; clear HB; have HO678 := n0_; have HO681 := n1_; have BK665 := n2_; have HB := n3_; clear n0_ n1_ n2_ n3_; (try clear hb); (try clear hb2); (try clear hk); (try clear hi); (try clear ho0); (try clear ho1)) | ((with_reducible refine gate_dst (N := 13) rfl ?_); (try (refine gate_guard (by rfl) ?_; dsimp only)); refine box_event ?hg (N := 13) ?hd (cs := #[.int .i64 0, .slice none 0 0, .slice none 0 0]) (t := 33) ?hr ?_; (case hd => rfl); (case hg => rfl); (case hr => first | (go_simp; done) | (go_simp; rfl)); intro gb683 hg w32 hbox hb; have n0_ := Aside0.mk (Kd.R_below (by (with_reducible repeat (first | apply Kd.R_alloc | apply Kd.R_drewN | apply Kd.R_drew)); exact HO678.out) hb); have n1_ := Aside0.mk (Kd.R_below (by (with_reducible repeat (first | apply Kd.R_alloc | apply Kd.R_drewN | apply Kd.R_drew)); exact HO681.out) hb); have n2_ := Aside0.mk (blk_below (g := gb665) (o := .cells #[.int .i64 a3_0, .slice A3_1 l3_1.length c3_1, .slice A3_2 l3_2.length c3_2] 33 (0, 0)) (by (with_reducible repeat (first | refine blk_drewN ?_ _ | refine blk_drew ?_ | refine blk_alloc ?_ _)); exact BK665.out) hb); have n3_ := Aside0.mk (below_step (by repeat (first | (with_reducible first | exact HB.out | apply below_alloc | apply pw_below_drewN | apply below_drew1 | refine below_set ?_ GE665.out) | exact HB.out)) hb); have n4_ := Aside0.mk (hbox); have n5_ := Aside0.mk ((by rw [hg]; exact (below_size (by repeat (first | (with_reducible first | exact HB.out | apply below_alloc | apply pw_below_drewN | apply below_drew1 | refine below_set ?_ GE665.out) | exact HB.out))) : w.heap.size ≤ gb683)); have n6_ := Aside0.mk ((by rw [hg]; exact (below_size (by repeat (first | (with_reducible first | exact HB.out | apply below_alloc | apply pw_below_drewN | apply below_drew1 | refine below_set ?_ GE665.out) | exact HB.out))) : w.heap.size ≤ gb683)); have n7_ := Aside0.mk ((by rw [hg]; exact Nat.ne_of_lt (blk_lt (g := gb665) (o := .cells #[.int .i64 a3_0, .slice A3_1 l3_1.length c3_1, .slice A3_2 l3_2.length c3_2] 33 (0, 0)) (by (with_reducible repeat (first | refine blk_drewN ?_ _ | refine blk_drew ?_ | refine blk_alloc ?_ _)); exact BK665.out)) : gb665 ≠ gb683)); have n8_ := Aside0.mk ((by rw [hg]; exact Nat.ne_of_gt (blk_lt (g := gb665) (o := .cells #[.int .i64 a3_0, .slice A3_1 l3_1.length c3_1, .slice A3_2 l3_2.length c3_2] 33 (0, 0)) (by (with_reducible repeat (first | refine blk_drewN ?_ _ | refine blk_drew ?_ | refine blk_alloc ?_ _)); exact BK665.out)) : gb683 ≠ gb665)); clear HO678; clear HO681; clear BK665; clear HB; have HO678 := n0_; have HO681 := n1_; have BK665 := n2_; have HB := n3_; have BK683 := n4_; have GW683 := n5_; have GE683 := n6_; have NB665_683 := n7_; have NB683_665 := n8_; clear n0_ n1_ n2_ n3_ n4_ n5_ n6_ n7_ n8_; clear hb hbox hg; have hnb33 := NB683_665.out; have hnc33 := NB665_683.out; have hcz34_0 : w32.cell? ⟨gb683, 0, none⟩ = some (.int .i64 0) := (blk_cell BK683.out 0).trans rfl; have hcz34_1 : w32.cell? ⟨gb683, 1, none⟩ = some (.slice none 0 0) := (blk_cell BK683.out 1).trans rfl; have hcz34_2 : w32.cell? ⟨gb683, 2, none⟩ = some (.slice none 0 0) := (blk_cell BK683.out 2).trans rfl; have hfz34_0 := blk_frozen BK683.out 0; have hfz34_1 := blk_frozen BK683.out 1; have hfz34_2 := blk_frozen BK683.out 2; obtain ⟨Ao35, co35, eo35⟩ := Kd.R_slice HO678.out; subst eo35; obtain ⟨Ao36, co36, eo36⟩ := Kd.R_slice HO681.out; subst eo36))
            (try simp only [Act.put, List.setIfInBounds_toArray, List.set_cons_zero, List.set_cons_succ])
            go_cut [59] (fun v59 wc => ∃ (kq : Nat) (x59_25 : Bool), v59 = .bool x59_25 ∧ Aside0 (customhouselaw03_SealSound.j1 kq a0 a2 t666 (Int.tmod (wrap64 (a1)) 3) x59_25 a3_0 l3_1 l3_2 = some r) ∧ Aside0 (kq ≤ kj5) ∧ Aside0 (Kd.R Kd.string 9 wc w.heap.size (fun k_ => some k_ ≠ ((.slice Ao36 t679.length co36) : Value).ownBlock) (.slice Ao35 t676.length co35) t676) ∧ Aside0 (Kd.R Kd.string 9 wc w.heap.size (fun k_ => some k_ ≠ ((.slice Ao35 t676.length co35) : Value).ownBlock) (.slice Ao36 t679.length co36) t679) ∧ Aside0 (wc.heap[gb665]? = some (.cells #[.int .i64 a3_0, (.slice A3_1 l3_1.length c3_1), (.slice A3_2 l3_2.length c3_2)] 33 (0, 0))) ∧ Aside0 (wc.heap[gb683]? = some (.cells #[.int .i64 t675, (.slice Ao35 t676.length co35), (.slice Ao36 t679.length co36)] 33 (0, 0))) ∧ Aside0 (Below w.heap.size w wc))
            case first =>
              have H := HC26.out
              clear HC26
              by_cases c37 : t682 = 0
              · rw [if_pos c37] at H
                have c37b0 : (t682 == 0) = true := beq_iff_eq.mpr c37
                have c37b1 : (t682 != 0) = false := bne_eq_false_iff_eq.mpr c37
                clear c37
                (first | rw [c37b0] | (simp only [i64_w, i32_w]; rw [c37b0]) | skip)
                replace H := Option.bind_eq_some_iff.mp H
                obtain ⟨t684, A380, H⟩ := H
                replace H : (customhouselaw03_SealSound.j1 kj5 a0 a2 t666 (Int.tmod (wrap64 (a1)) 3) t684 a3_0 l3_1 l3_2) = some r := H
                have A38 := Aside0.mk A380
                clear A380
                have H' := Aside0.mk H
                clear H
                have hnb39 := NB683_665.out
                have hnc39 := NB665_683.out
                have hcz40_0 : w32.cell? ⟨gb683, 0, none⟩ = some (.int .i64 0) := (blk_cell BK683.out 0).trans rfl
                have hcz40_1 : w32.cell? ⟨gb683, 1, none⟩ = some (.slice none 0 0) := (blk_cell BK683.out 1).trans rfl
                have hcz40_2 : w32.cell? ⟨gb683, 2, none⟩ = some (.slice none 0 0) := (blk_cell BK683.out 2).trans rfl
                have hfz40_0 := blk_frozen BK683.out 0
                have hfz40_1 := blk_frozen BK683.out 1
                have hfz40_2 := blk_frozen BK683.out 2
                have hcz41_0 : w32.cell? ⟨gb665, 0, none⟩ = some (.int .i64 a3_0) := (blk_cell BK665.out 0).trans rfl
                have hcz41_1 : w32.cell? ⟨gb665, 1, none⟩ = some (.slice A3_1 l3_1.length c3_1) := (blk_cell BK665.out 1).trans rfl
                have hcz41_2 : w32.cell? ⟨gb665, 2, none⟩ = some (.slice A3_2 l3_2.length c3_2) := (blk_cell BK665.out 2).trans rfl
                have hfz41_0 := blk_frozen BK665.out 0
                have hfz41_1 := blk_frozen BK665.out 1
                have hfz41_2 := blk_frozen BK665.out 2
                go_wp2_with (first | (go_at_call 43; (with_reducible refine (customhouseref03_Same.calls kj5 t675 _ _ t676 _ _ t679 a3_0 _ _ l3_1 _ _ l3_2 t684 _ ?side1 ?side2 ?side3 ?side4 ?side5 ?side6 ?side7 ?side8 A38.out).mono ?_); (case side1 => refine (Kd.R_reads' (e := 9) (base := w.heap.size) (ok := fun k_ => some k_ ≠ (.slice Ao36 t679.length co36 : Value).ownBlock) (n := t676.length) (c := co35) ?_).2.2; exact (by (with_reducible repeat (first | apply Kd.R_alloc | apply Kd.R_drewN | apply Kd.R_drew)); exact (Kd.R_mono (Kd.R_far (p := ⟨gb683, 2, none⟩) (Kd.R_far (p := ⟨gb683, 1, none⟩) (Kd.R_far (p := ⟨gb683, 0, none⟩) (Kd.R_types HO678.out BK683.out (by decide)) (fun _ hk => hk.2) (.int .i64 t675)) (fun _ hk => hk.2) (.slice Ao35 t676.length co35)) (fun _ hk => hk.2) (.slice Ao36 t679.length co36)) (fun _ h_ => h_.1)))); (case side2 => exact (Kd.R_reads' HO678.out).2.1); (case side3 => refine (Kd.R_reads' (e := 9) (base := w.heap.size) (ok := fun k_ => some k_ ≠ (.slice Ao35 t676.length co35 : Value).ownBlock) (n := t679.length) (c := co36) ?_).2.2; exact (by (with_reducible repeat (first | apply Kd.R_alloc | apply Kd.R_drewN | apply Kd.R_drew)); exact (Kd.R_mono (Kd.R_far (p := ⟨gb683, 2, none⟩) (Kd.R_far (p := ⟨gb683, 1, none⟩) (Kd.R_far (p := ⟨gb683, 0, none⟩) (Kd.R_types HO681.out BK683.out (by decide)) (fun _ hk => hk.2) (.int .i64 t675)) (fun _ hk => hk.2) (.slice Ao35 t676.length co35)) (fun _ hk => hk.2) (.slice Ao36 t679.length co36)) (fun _ h_ => h_.1)))); (case side4 => exact (Kd.R_reads' HO681.out).2.1); (case side5 => exact Kd.C_below HR3_1.out (by repeat (first | (with_reducible first | exact HB.out | apply below_alloc | apply pw_below_drewN | apply below_drew1 | refine below_set ?_ GE665.out | refine below_set ?_ GE683.out) | exact HB.out))); (case side6 => exact HC3_1.out); (case side7 => exact Kd.C_below HR3_2.out (by repeat (first | (with_reducible first | exact HB.out | apply below_alloc | apply pw_below_drewN | apply below_drew1 | refine below_set ?_ GE665.out | refine below_set ?_ GE683.out) | exact HB.out))); (case side8 => exact HC3_2.out); rintro e w42 ⟨rfl, hb⟩; have n0_ := Aside0.mk (Kd.R_below (by (with_reducible repeat (first | apply Kd.R_alloc | apply Kd.R_drewN | apply Kd.R_drew)); exact (Kd.R_mono (Kd.R_far (p := ⟨gb683, 2, none⟩) (Kd.R_far (p := ⟨gb683, 1, none⟩) (Kd.R_far (p := ⟨gb683, 0, none⟩) (Kd.R_types HO678.out BK683.out (by decide)) (fun _ hk => hk.2) (.int .i64 t675)) (fun _ hk => hk.2) (.slice Ao35 t676.length co35)) (fun _ hk => hk.2) (.slice Ao36 t679.length co36)) (fun _ h_ => h_.1))) hb); have n1_ := Aside0.mk (Kd.R_below (by (with_reducible repeat (first | apply Kd.R_alloc | apply Kd.R_drewN | apply Kd.R_drew)); exact (Kd.R_mono (Kd.R_far (p := ⟨gb683, 2, none⟩) (Kd.R_far (p := ⟨gb683, 1, none⟩) (Kd.R_far (p := ⟨gb683, 0, none⟩) (Kd.R_types HO681.out BK683.out (by decide)) (fun _ hk => hk.2) (.int .i64 t675)) (fun _ hk => hk.2) (.slice Ao35 t676.length co35)) (fun _ hk => hk.2) (.slice Ao36 t679.length co36)) (fun _ h_ => h_.1))) hb); have n2_ := Aside0.mk (blk_below (g := gb665) (o := .cells #[.int .i64 a3_0, .slice A3_1 l3_1.length c3_1, .slice A3_2 l3_2.length c3_2] 33 (0, 0)) (by (with_reducible repeat (first | refine blk_drewN ?_ _ | refine blk_drew ?_ | refine blk_alloc ?_ _)); refine blk_far ?_ NB665_683.out _; (with_reducible repeat (first | refine blk_drewN ?_ _ | refine blk_drew ?_ | refine blk_alloc ?_ _)); refine blk_far ?_ NB665_683.out _; (with_reducible repeat (first | refine blk_drewN ?_ _ | refine blk_drew ?_ | refine blk_alloc ?_ _)); refine blk_far ?_ NB665_683.out _; (with_reducible repeat (first | refine blk_drewN ?_ _ | refine blk_drew ?_ | refine blk_alloc ?_ _)); exact BK665.out) hb); have n3_ := Aside0.mk (blk_below (g := gb683) (o := .cells #[.int .i64 t675, .slice Ao35 t676.length co35, .slice Ao36 t679.length co36] 33 (0, 0)) (by (with_reducible repeat (first | refine blk_drewN ?_ _ | refine blk_drew ?_ | refine blk_alloc ?_ _)); refine blk_put (cs := #[.int .i64 t675, .slice Ao35 t676.length co35, .slice none 0 0]) ?_ 2 _ rfl; (with_reducible repeat (first | refine blk_drewN ?_ _ | refine blk_drew ?_ | refine blk_alloc ?_ _)); refine blk_put (cs := #[.int .i64 t675, .slice none 0 0, .slice none 0 0]) ?_ 1 _ rfl; (with_reducible repeat (first | refine blk_drewN ?_ _ | refine blk_drew ?_ | refine blk_alloc ?_ _)); refine blk_put (cs := #[.int .i64 0, .slice none 0 0, .slice none 0 0]) ?_ 0 _ rfl; (with_reducible repeat (first | refine blk_drewN ?_ _ | refine blk_drew ?_ | refine blk_alloc ?_ _)); exact BK683.out) hb); have n4_ := Aside0.mk (below_step (by repeat (first | (with_reducible first | exact HB.out | apply below_alloc | apply pw_below_drewN | apply below_drew1 | refine below_set ?_ GE665.out | refine below_set ?_ GE683.out) | exact HB.out)) hb); clear HO678; clear HO681; clear BK665; clear BK683; clear HB; have HO678 := n0_; have HO681 := n1_; have BK665 := n2_; have BK683 := n3_; have HB := n4_; clear n0_ n1_ n2_ n3_ n4_; (try clear hb); (try clear hb2); (try clear hk); (try clear hi)))
                go_meet
                case rel => exact ⟨_, (t684), (by first | rfl | (simp; done) | (simp [*]; done)), H', ⟨by have := HJ5.out; first | omega | exact Nat.le_refl _⟩, ⟨by (with_reducible repeat (first | apply Kd.R_alloc | apply Kd.R_drewN | apply Kd.R_drew)); exact HO678.out⟩, ⟨by (with_reducible repeat (first | apply Kd.R_alloc | apply Kd.R_drewN | apply Kd.R_drew)); exact HO681.out⟩, ⟨by (with_reducible repeat (first | refine blk_drewN ?_ _ | refine blk_drew ?_ | refine blk_alloc ?_ _)); exact BK665.out⟩, ⟨by (with_reducible repeat (first | refine blk_drewN ?_ _ | refine blk_drew ?_ | refine blk_alloc ?_ _)); exact BK683.out⟩, ⟨by repeat (first | (with_reducible first | exact HB.out | apply below_alloc | apply pw_below_drewN | apply below_drew1 | refine below_set ?_ GE665.out | refine below_set ?_ GE683.out) | exact HB.out)⟩⟩
              · rw [if_neg c37] at H
                have c37b0 : (t682 == 0) = false := beq_eq_false_iff_ne.mpr c37
                have c37b1 : (t682 != 0) = true := bne_iff_ne.mpr c37
                (first | rw [c37b0] | (simp only [i64_w, i32_w]; rw [c37b0]) | skip)
                have H' := Aside0.mk H
                clear H
                go_wp2
                go_meet
                case rel => exact ⟨_, (false), (by first | rfl | (simp; done) | (simp [*]; done)), H', ⟨by have := HJ5.out; first | omega | exact Nat.le_refl _⟩, ⟨by (with_reducible repeat (first | apply Kd.R_alloc | apply Kd.R_drewN | apply Kd.R_drew)); exact Kd.R_mono (Kd.R_far (p := ⟨gb683, 2, none⟩) (Kd.R_far (p := ⟨gb683, 1, none⟩) (Kd.R_far (p := ⟨gb683, 0, none⟩) (Kd.R_types HO678.out BK683.out (by decide)) (fun _ hk => hk.2) (.int .i64 t675)) (fun _ hk => hk.2) (.slice Ao35 t676.length co35)) (fun _ hk => hk.2) (.slice Ao36 t679.length co36)) (fun _ hk => hk.1)⟩, ⟨by (with_reducible repeat (first | apply Kd.R_alloc | apply Kd.R_drewN | apply Kd.R_drew)); exact Kd.R_mono (Kd.R_far (p := ⟨gb683, 2, none⟩) (Kd.R_far (p := ⟨gb683, 1, none⟩) (Kd.R_far (p := ⟨gb683, 0, none⟩) (Kd.R_types HO681.out BK683.out (by decide)) (fun _ hk => hk.2) (.int .i64 t675)) (fun _ hk => hk.2) (.slice Ao35 t676.length co35)) (fun _ hk => hk.2) (.slice Ao36 t679.length co36)) (fun _ hk => hk.1)⟩, ⟨by (with_reducible repeat (first | refine blk_drewN ?_ _ | refine blk_drew ?_ | refine blk_alloc ?_ _)); refine blk_far ?_ NB665_683.out _; (with_reducible repeat (first | refine blk_drewN ?_ _ | refine blk_drew ?_ | refine blk_alloc ?_ _)); refine blk_far ?_ NB665_683.out _; (with_reducible repeat (first | refine blk_drewN ?_ _ | refine blk_drew ?_ | refine blk_alloc ?_ _)); refine blk_far ?_ NB665_683.out _; (with_reducible repeat (first | refine blk_drewN ?_ _ | refine blk_drew ?_ | refine blk_alloc ?_ _)); exact BK665.out⟩, ⟨by (with_reducible repeat (first | refine blk_drewN ?_ _ | refine blk_drew ?_ | refine blk_alloc ?_ _)); refine blk_put (cs := #[.int .i64 t675, .slice Ao35 t676.length co35, .slice none 0 0]) ?_ 2 _ rfl; (with_reducible repeat (first | refine blk_drewN ?_ _ | refine blk_drew ?_ | refine blk_alloc ?_ _)); refine blk_put (cs := #[.int .i64 t675, .slice none 0 0, .slice none 0 0]) ?_ 1 _ rfl; (with_reducible repeat (first | refine blk_drewN ?_ _ | refine blk_drew ?_ | refine blk_alloc ?_ _)); refine blk_put (cs := #[.int .i64 0, .slice none 0 0, .slice none 0 0]) ?_ 0 _ rfl; (with_reducible repeat (first | refine blk_drewN ?_ _ | refine blk_drew ?_ | refine blk_alloc ?_ _)); exact BK683.out⟩, ⟨by repeat (first | (with_reducible first | exact HB.out | apply below_alloc | apply pw_below_drewN | apply below_drew1 | refine below_set ?_ GE665.out | refine below_set ?_ GE683.out) | exact HB.out)⟩⟩
            case rest =>
              clear HC26
              try clear c1
              try clear c2
              try clear p2
              try clear c3
              try clear c4
              try clear c6
              try clear p6
              try clear c10
              try clear c20
              try clear c22
              try clear c22b0
              try clear c22b1
              try clear c24
              try clear c33
              try clear c36
              try clear c37
              try clear c37b0
              try clear c37b1
              try clear c39
              try clear c41
              try clear hcz15_0
              try clear hcz15_1
              try clear hcz15_2
              try clear hcz28_0
              try clear hcz28_1
              try clear hcz28_2
              try clear hcz30_0
              try clear hcz30_1
              try clear hcz30_2
              try clear hcz34_0
              try clear hcz34_1
              try clear hcz34_2
              try clear hcz40_0
              try clear hcz40_1
              try clear hcz40_2
              try clear hcz41_0
              try clear hcz41_1
              try clear hcz41_2
              try clear hfz15_0
              try clear hfz15_1
              try clear hfz15_2
              try clear hfz28_0
              try clear hfz28_1
              try clear hfz28_2
              try clear hfz30_0
              try clear hfz30_1
              try clear hfz30_2
              try clear hfz34_0
              try clear hfz34_1
              try clear hfz34_2
              try clear hfz40_0
              try clear hfz40_1
              try clear hfz40_2
              try clear hfz41_0
              try clear hfz41_1
              try clear hfz41_2
              try clear p2
              try clear p6
              obtain ⟨kq, x59_25, rfl, HA, HJ25, HO_684001, HO_684002, BK665, BK683, HB⟩ := hcut
              cases kq with
              | zero => exact absurd HA.out (by simp [customhouselaw03_SealSound.j1])
              | succ kj25 =>
                have H := HA.out
                clear HA
                simp only [customhouselaw03_SealSound.j1] at H
                by_cases c43 : x59_25 = true
                · subst c43
                  have H1 : (some t666) = some r := by rw [if_pos rfl] at H; exact H
                  clear H
                  have H := H1
                  clear H1
                  obtain rfl := Option.some.inj H
                  go_wp2
                  go_ret
                  exact ⟨by first | rfl | (simp [errW_none, errW_some] <;> rfl) | (simp [*, errW_none, errW_some] <;> rfl), by repeat (first | (with_reducible first | exact HB.out | apply below_alloc | apply pw_below_drewN | apply below_drew1 | refine below_set ?_ GE665.out | refine below_set ?_ GE683.out) | exact HB.out)⟩
                · replace c43 := Bool.eq_false_iff.mpr c43
                  subst c43
                  have H1 : (if t666 = true then ((customhouseref03_Made.f kj25 a0 (Int.tmod (wrap64 (a1)) 3) 15).bind fun t685 => ((customhouseref03_Checked.f kj25 a2 a3_0 l3_1 l3_2).bind fun t688 => (if t685.length + t688.length < 8796093022208 then ((customhouseref02_Shown.f kj25 (t685 ++ t688)).bind fun t694 => (some t694)) else (none)))) else (some false)) = some r := by rw [if_neg (show ¬ (false = true) by decide)] at H; exact H
                  clear H
                  have H := H1
                  clear H1
                  by_cases c44 : t666 = true
                  · subst c44
                    have H1 : ((customhouseref03_Made.f kj25 a0 (Int.tmod (wrap64 (a1)) 3) 15).bind fun t685 => ((customhouseref03_Checked.f kj25 a2 a3_0 l3_1 l3_2).bind fun t688 => (if t685.length + t688.length < 8796093022208 then ((customhouseref02_Shown.f kj25 (t685 ++ t688)).bind fun t694 => (some t694)) else (none)))) = some r := by rw [if_pos rfl] at H; exact H
                    clear H
                    have H := H1
                    clear H1
                    replace H := Option.bind_eq_some_iff.mp H
                    obtain ⟨t685, A450, H⟩ := H
                    replace H : ((customhouseref03_Checked.f kj25 a2 a3_0 l3_1 l3_2).bind fun t688 => (if t685.length + t688.length < 8796093022208 then ((customhouseref02_Shown.f kj25 (t685 ++ t688)).bind fun t694 => (some t694)) else (none))) = some r := H
                    have A45 := Aside0.mk A450
                    clear A450
                    replace H := Option.bind_eq_some_iff.mp H
                    obtain ⟨t688, A460, H⟩ := H
                    replace H : (if t685.length + t688.length < 8796093022208 then ((customhouseref02_Shown.f kj25 (t685 ++ t688)).bind fun t694 => (some t694)) else (none)) = some r := H
                    have A46 := Aside0.mk A460
                    clear A460
                    by_cases c47 : t685.length + t688.length < 8796093022208
                    · rw [if_pos c47] at H
                      have LMc47 := Aside0.mk c47
                      clear c47
                      obtain ⟨y691, hy691⟩ : ∃ y_ : List ByteArray, y_ = (t685 ++ t688) := ⟨_, rfl⟩
                      replace H : ((customhouseref02_Shown.f kj25 y691).bind fun t694 => (some t694)) = some r := by first | (rw [hy691]; with_reducible exact H) | (have H2_ := (Option.bind_some _ _).symm.trans H; rw [hy691]; with_reducible exact H2_) | (have H2_ := (Option.bind_some _ _).symm.trans H; with_reducible exact H2_) | with_reducible exact H | (rw [hy691]; exact H) | exact H
                      have Ny691 := Aside0.mk hy691
                      clear hy691
                      replace H := Option.bind_eq_some_iff.mp H
                      obtain ⟨t694, A480, H⟩ := H
                      replace H : (some t694) = some r := H
                      have A48 := Aside0.mk A480
                      clear A480
                      obtain rfl := Option.some.inj H
                      try go_wp2
                      have n0_ := Aside0.mk (Kd.R_drew HO_684001.out)
                      have n1_ := Aside0.mk (Kd.R_drew HO_684002.out)
                      have n2_ := Aside0.mk (blk_drew BK665.out)
                      have n3_ := Aside0.mk (blk_drew BK683.out)
                      have n4_ := Aside0.mk (below_drew1 HB.out)
                      clear HO_684001
                      clear HO_684002
                      clear BK665
                      clear BK683
                      clear HB
                      have HO_684001 := n0_
                      have HO_684002 := n1_
                      have BK665 := n2_
                      have BK683 := n3_
                      have HB := n4_
                      clear n0_ n1_ n2_ n3_ n4_
                      refine start_ (n := 12) (S := fun w' => w'.cell? ⟨gb665, 0, none⟩ = some (.int .i64 a3_0) ∧ w'.cell? ⟨gb665, 1, none⟩ = some (.slice A3_1 l3_1.length c3_1) ∧ w'.cell? ⟨gb665, 2, none⟩ = some (.slice A3_2 l3_2.length c3_2)) (ds := []) #[false, false, false, false, false, false, false, false, false, false, false, false] (by kernel_rfl) rfl rfl ⟨(blk_cell BK665.out 0).trans rfl, (blk_cell BK665.out 1).trans rfl, (blk_cell BK665.out 2).trans rfl⟩ (fun hHeld => ?_); refine with_tabW customhouselaw03_SealSound.tab13 customhouselaw03_SealSound.bits13 (fun HT_ HW_ => ?_)
                      generalize wc.drew = w49 at HO_684001 HO_684002 BK665 BK683 HB hHeld ⊢
                      refine pure_ (i := 0) (N := some 61) (v := ?_) (a' := ?_) #[true, false, false, false, false, false, false, false, false, false, false, false] rfl rfl (any_of HT_.out (by kernel_rfl)) (fun _ _ _ h => h) (Or.inl ⟨by rfl, ?_⟩) ?_ ?_
                      rotate_left
                      · intro w'
                        go_simp
                        first | with_reducible rfl | (rw [if_neg (by (try simp only [ByteArray.size_append, ByteArray.size_extract, eq_iff_iff, iff_true, iff_false, decide_eq_true_eq] at *); omega)] <;> with_reducible rfl)
                      rotate_left
                      · simp only [Act.put, List.setIfInBounds_toArray, List.set_cons_zero, List.set_cons_succ, i64_w, i32_w]
                        rfl
                      refine pure_ (i := 1) (N := some 62) (v := ?_) (a' := ?_) #[true, true, false, false, false, false, false, false, false, false, false, false] rfl rfl (any_of HT_.out (by kernel_rfl)) (fun _ _ _ h => h) (Or.inl ⟨by rfl, ?_⟩) ?_ ?_
                      rotate_left
                      · intro w'
                        go_simp
                        first | with_reducible rfl | (rw [if_neg (by (try simp only [ByteArray.size_append, ByteArray.size_extract, eq_iff_iff, iff_true, iff_false, decide_eq_true_eq] at *); omega)] <;> with_reducible rfl)
                      rotate_left
                      · simp only [Act.put, List.setIfInBounds_toArray, List.set_cons_zero, List.set_cons_succ, i64_w, i32_w]
                        rfl
                      refine pure_ (i := 2) (N := some 63) (v := ?_) (a' := ?_) #[true, true, true, false, false, false, false, false, false, false, false, false] rfl rfl (any_of HT_.out (by kernel_rfl)) (fun _ _ _ h => h) (Or.inl ⟨by rfl, ?_⟩) ?_ ?_
                      rotate_left
                      · intro w'
                        go_simp
                        first | with_reducible rfl | (rw [if_neg (by (try simp only [ByteArray.size_append, ByteArray.size_extract, eq_iff_iff, iff_true, iff_false, decide_eq_true_eq] at *); omega)] <;> with_reducible rfl)
                      rotate_left
                      · simp only [Act.put, List.setIfInBounds_toArray, List.set_cons_zero, List.set_cons_succ, i64_w, i32_w]
                        rfl
                      refine pure_ (i := 3) (N := some 64) (v := ?_) (a' := ?_) #[true, true, true, true, false, false, false, false, false, false, false, false] rfl rfl (any_of HT_.out (by kernel_rfl)) (fun _ _ _ h => h) (Or.inl ⟨by rfl, ?_⟩) ?_ ?_
                      rotate_left
                      · intro w'
                        go_simp
                        first | with_reducible rfl | (rw [if_neg (by (try simp only [ByteArray.size_append, ByteArray.size_extract, eq_iff_iff, iff_true, iff_false, decide_eq_true_eq] at *); omega)] <;> with_reducible rfl)
                      rotate_left
                      · simp only [Act.put, List.setIfInBounds_toArray, List.set_cons_zero, List.set_cons_succ, i64_w, i32_w]
                        rfl
                      refine pure_ (i := 5) (N := some 66) (v := ?_) (a' := ?_) #[true, true, true, true, false, true, false, false, false, false, false, false] rfl rfl (any_of HT_.out (by kernel_rfl)) (fun _ _ _ h => h) (Or.inl ⟨by rfl, ?_⟩) ?_ ?_
                      rotate_left
                      · intro w'
                        go_simp
                        first | with_reducible rfl | (rw [if_neg (by (try simp only [ByteArray.size_append, ByteArray.size_extract, eq_iff_iff, iff_true, iff_false, decide_eq_true_eq] at *); omega)] <;> with_reducible rfl)
                      rotate_left
                      · simp only [Act.put, List.setIfInBounds_toArray, List.set_cons_zero, List.set_cons_succ, i64_w, i32_w]
                        rfl
                      refine take_ (i := 6) (N := some 67) (v := ?_) (a' := ?_) #[true, true, true, true, false, true, true, false, false, false, false, false] rfl rfl (take_ofW HT_.out HW_.out (by kernel_rfl)) (fun _ _ _ h => h) (Or.inl ⟨by rfl, ?_⟩) hHeld ?_ ?_
                      rotate_left
                      · rintro w' ⟨s0, s1, s2⟩
                        go_simp
                        first | with_reducible rfl | (rw [if_neg (by (try simp only [ByteArray.size_append, ByteArray.size_extract, eq_iff_iff, iff_true, iff_false, decide_eq_true_eq] at *); omega)] <;> with_reducible rfl)
                      rotate_left
                      · simp only [Act.put, List.setIfInBounds_toArray, List.set_cons_zero, List.set_cons_succ, i64_w, i32_w]
                        rfl
                      refine one_ (i := 4) (N := some 65) #[true, true, true, true, true, true, true, false, false, false, false, false] rfl rfl (one_of HT_.out (by kernel_rfl)) (by decide) (fun K hK => ?_)
                      refine goes_ Tryz.func47 (by kernel_rfl) rfl #[.string a0, .int .i64 (Int.tmod (wrap64 (a1)) 3), .int .i64 15] (by rfl) rfl rfl (by (try simp only [List.map_toArray, List.map_cons, List.map_nil]); first | done | rfl | (simp only [List.length_drop, List.length_take]; rfl)) ?_
                      with_reducible refine (customhouseref03_Made.calls kj25 a0 (Int.tmod (wrap64 (a1)) 3) 15 t685 _ A45.out).mono ?_
                      rintro e w50 ⟨v686, rfl, ho0, hb⟩
                      refine ⟨_, rfl, ?_⟩
                      have n0_ := Aside0.mk (Kd.R_elder' (by (with_reducible repeat (first | apply Kd.R_alloc | apply Kd.R_drewN | apply Kd.R_drew)); exact HO_684001.out) (Kd.R_base ho0) hb)
                      have n1_ := Aside0.mk (Kd.R_elder' (by (with_reducible repeat (first | apply Kd.R_alloc | apply Kd.R_drewN | apply Kd.R_drew)); exact HO_684002.out) (Kd.R_base ho0) hb)
                      have n2_ := Aside0.mk (Kd.R_lower (Kd.R_new' (Kd.R_new' ho0 (Kd.R_lt (by (with_reducible repeat (first | apply Kd.R_alloc | apply Kd.R_drewN | apply Kd.R_drew)); exact HO_684001.out))) (Kd.R_lt (by (with_reducible repeat (first | apply Kd.R_alloc | apply Kd.R_drewN | apply Kd.R_drew)); exact HO_684002.out))) (below_size (by repeat (first | (with_reducible first | exact HB.out | apply below_alloc | apply pw_below_drewN | apply below_drew1 | refine below_set ?_ GE665.out | refine below_set ?_ GE683.out) | exact HB.out))))
                      have n3_ := Aside0.mk (blk_below (g := gb665) (o := .cells #[.int .i64 a3_0, .slice A3_1 l3_1.length c3_1, .slice A3_2 l3_2.length c3_2] 33 (0, 0)) (by (with_reducible repeat (first | refine blk_drewN ?_ _ | refine blk_drew ?_ | refine blk_alloc ?_ _)); exact BK665.out) hb)
                      have n4_ := Aside0.mk (blk_below (g := gb683) (o := .cells #[.int .i64 t675, .slice Ao35 t676.length co35, .slice Ao36 t679.length co36] 33 (0, 0)) (by (with_reducible repeat (first | refine blk_drewN ?_ _ | refine blk_drew ?_ | refine blk_alloc ?_ _)); exact BK683.out) hb)
                      have n5_ := Aside0.mk (below_step (by repeat (first | (with_reducible first | exact HB.out | apply below_alloc | apply pw_below_drewN | apply below_drew1 | refine below_set ?_ GE665.out | refine below_set ?_ GE683.out) | exact HB.out)) hb)
                      clear HO_684001
                      clear HO_684002
                      clear BK665
                      clear BK683
                      clear HB
                      have HO_684001 := n0_
                      have HO_684002 := n1_
                      have HO687 := n2_
                      have BK665 := n3_
                      have BK683 := n4_
                      have HB := n5_
                      clear n0_ n1_ n2_ n3_ n4_ n5_
                      (try clear hb)
                      (try clear hb2)
                      (try clear hk)
                      (try clear hi)
                      (try clear ho0)
                      refine hK.out _ _ ⟨(blk_cell BK665.out 0).trans rfl, (blk_cell BK665.out 1).trans rfl, (blk_cell BK665.out 2).trans rfl⟩ (fun hHeld => ?_)
                      clear hK K
                      refine norm_ (a' := ?_) ?_ ?_
                      rotate_left
                      · show Act.put _ (some 65) _ = _
                        simp only [Act.put, List.setIfInBounds_toArray, List.set_cons_zero, List.set_cons_succ, i64_w, i32_w]
                        rfl
                      refine one_ (i := 7) (N := some 68) #[true, true, true, true, true, true, true, true, false, false, false, false] rfl rfl (one_of HT_.out (by kernel_rfl)) (by decide) (fun K hK => ?_)
                      refine goes_ Tryz.func48 (by kernel_rfl) rfl #[.string a2, .agg #[.int .i64 a3_0, .slice A3_1 l3_1.length c3_1, .slice A3_2 l3_2.length c3_2]] (by rfl) rfl rfl (by (try simp only [List.map_toArray, List.map_cons, List.map_nil]); first | done | rfl | (simp only [List.length_drop, List.length_take]; rfl)) ?_
                      with_reducible refine (customhouseref03_Checked.calls kj25 a2 a3_0 _ _ l3_1 _ _ l3_2 t688 _ ?side1 ?side2 ?side3 ?side4 A46.out).mono ?_
                      (case side1 => repeat (first | exact (Kd.C_below HR3_1.out HB.out) | (with_reducible refine Kd.C_alloc ?_ _) | (with_reducible refine Kd.C_drewN ?_ _) | (with_reducible refine Kd.C_drew ?_)))
                      (case side2 => exact HC3_1.out)
                      (case side3 => repeat (first | exact (Kd.C_below HR3_2.out HB.out) | (with_reducible refine Kd.C_alloc ?_ _) | (with_reducible refine Kd.C_drewN ?_ _) | (with_reducible refine Kd.C_drew ?_)))
                      (case side4 => exact HC3_2.out)
                      rintro e w51 ⟨v689, rfl, ho0, hb⟩
                      refine ⟨_, rfl, ?_⟩
                      have n0_ := Aside0.mk (Kd.R_elder' (by (with_reducible repeat (first | apply Kd.R_alloc | apply Kd.R_drewN | apply Kd.R_drew)); exact HO_684001.out) (Kd.R_base ho0) hb)
                      have n1_ := Aside0.mk (Kd.R_elder' (by (with_reducible repeat (first | apply Kd.R_alloc | apply Kd.R_drewN | apply Kd.R_drew)); exact HO_684002.out) (Kd.R_base ho0) hb)
                      have n2_ := Aside0.mk (Kd.R_elder' (by (with_reducible repeat (first | apply Kd.R_alloc | apply Kd.R_drewN | apply Kd.R_drew)); exact HO687.out) (Kd.R_base ho0) hb)
                      have n3_ := Aside0.mk (Kd.R_lower (Kd.R_new' (Kd.R_new' (Kd.R_new' ho0 (Kd.R_lt (by (with_reducible repeat (first | apply Kd.R_alloc | apply Kd.R_drewN | apply Kd.R_drew)); exact HO_684001.out))) (Kd.R_lt (by (with_reducible repeat (first | apply Kd.R_alloc | apply Kd.R_drewN | apply Kd.R_drew)); exact HO_684002.out))) (Kd.R_lt (by (with_reducible repeat (first | apply Kd.R_alloc | apply Kd.R_drewN | apply Kd.R_drew)); exact HO687.out))) (below_size (by repeat (first | (with_reducible first | exact HB.out | apply below_alloc | apply pw_below_drewN | apply below_drew1 | refine below_set ?_ GE665.out | refine below_set ?_ GE683.out) | exact HB.out))))
                      have n4_ := Aside0.mk (blk_below (g := gb665) (o := .cells #[.int .i64 a3_0, .slice A3_1 l3_1.length c3_1, .slice A3_2 l3_2.length c3_2] 33 (0, 0)) (by (with_reducible repeat (first | refine blk_drewN ?_ _ | refine blk_drew ?_ | refine blk_alloc ?_ _)); exact BK665.out) hb)
                      have n5_ := Aside0.mk (blk_below (g := gb683) (o := .cells #[.int .i64 t675, .slice Ao35 t676.length co35, .slice Ao36 t679.length co36] 33 (0, 0)) (by (with_reducible repeat (first | refine blk_drewN ?_ _ | refine blk_drew ?_ | refine blk_alloc ?_ _)); exact BK683.out) hb)
                      have n6_ := Aside0.mk (below_step (by repeat (first | (with_reducible first | exact HB.out | apply below_alloc | apply pw_below_drewN | apply below_drew1 | refine below_set ?_ GE665.out | refine below_set ?_ GE683.out) | exact HB.out)) hb)
                      clear HO_684001
                      clear HO_684002
                      clear HO687
                      clear BK665
                      clear BK683
                      clear HB
                      have HO_684001 := n0_
                      have HO_684002 := n1_
                      have HO687 := n2_
                      have HO690 := n3_
                      have BK665 := n4_
                      have BK683 := n5_
                      have HB := n6_
                      clear n0_ n1_ n2_ n3_ n4_ n5_ n6_
                      (try clear hb)
                      (try clear hb2)
                      (try clear hk)
                      (try clear hi)
                      (try clear ho0)
                      obtain ⟨Ao53, co53, eo53⟩ := Kd.R_slice HO690.out
                      (first | subst eo53 | (injection eo53 with f1_ f2_ f3_; have f4_ := f1_.symm; have f5_ := f3_.symm; clear f1_ f2_ f3_; subst f4_; subst f5_))
                      refine hK.out _ _ ⟨(blk_cell BK665.out 0).trans rfl, (blk_cell BK665.out 1).trans rfl, (blk_cell BK665.out 2).trans rfl⟩ (fun hHeld => ?_)
                      clear hK K
                      refine norm_ (a' := ?_) ?_ ?_
                      rotate_left
                      · show Act.put _ (some 68) _ = _
                        simp only [Act.put, List.setIfInBounds_toArray, List.set_cons_zero, List.set_cons_succ, i64_w, i32_w]
                        rfl
                      refine one_ (i := 8) (N := some 69) #[true, true, true, true, true, true, true, true, true, false, false, false] rfl rfl (one_of HT_.out (by kernel_rfl)) (by decide) (fun K hK => ?_)
                      refine Kd.R_append_rows_step Kd.string (w0 := w) w.heap.size (by rfl) (.tmp 65) (.tmp 68) 30 9 (.string ⟨#[]⟩) 16 rfl Tryz.underlying30 info9 rfl (by decide) (by omega) v686 t685 t688 _ _ _ (fun k_ => some k_ ≠ (.slice Ao35 t676.length co35 : Value).ownBlock ∧ some k_ ≠ (.slice Ao36 t679.length co36 : Value).ownBlock ∧ some k_ ≠ (.slice Ao53 t688.length co53 : Value).ownBlock) (fun _ => False) rfl rfl ?aO ?aR (fun _ _ h => h) (fun _ h => h.elim) ?aF ?aB ?aS ?aL ?_
                      (case aR => repeat (first | exact (Kd.R_reads' HO690.out).2.2 | (with_reducible refine Kd.C_alloc ?_ _) | (with_reducible refine Kd.C_drewN ?_ _) | (with_reducible refine Kd.C_drew ?_)))
                      (case aB => exact (by repeat (first | (with_reducible first | exact HB.out | apply below_alloc | apply pw_below_drewN | apply below_drew1 | refine below_set ?_ GE665.out | refine below_set ?_ GE683.out) | exact HB.out)))
                      (case aF => exact (fun k_ hk => ⟨Kd.fresh' (Kd.R_lt (by (with_reducible repeat (first | apply Kd.R_alloc | apply Kd.R_drewN | apply Kd.R_drew)); exact HO_684001.out)) k_ hk, Kd.fresh' (Kd.R_lt (by (with_reducible repeat (first | apply Kd.R_alloc | apply Kd.R_drewN | apply Kd.R_drew)); exact HO_684002.out)) k_ hk, Kd.fresh' (Kd.R_lt (by (with_reducible repeat (first | apply Kd.R_alloc | apply Kd.R_drewN | apply Kd.R_drew)); exact HO690.out)) k_ hk⟩))
                      (case aO => exact (by (with_reducible repeat (first | apply Kd.R_alloc | apply Kd.R_drewN | apply Kd.R_drew)); exact Kd.R_mono HO687.out (fun _ hk => ⟨hk.1.1.2, ⟨hk.1.2, hk.2⟩⟩)))
                      (case aS => exact (below_size (by repeat (first | (with_reducible first | exact HB.out | apply below_alloc | apply pw_below_drewN | apply below_drew1 | refine below_set ?_ GE665.out | refine below_set ?_ GE683.out) | exact HB.out))))
                      (case aL => have := LMc47.out; omega)
                      intro v692 w52 ho hb hg hat
                      rw [← Ny691.out] at ho
                      have n0_ := Aside0.mk (Kd.R_after (ok := (fun k_ => some k_ ≠ (.slice Ao36 t679.length co36 : Value).ownBlock ∧ some k_ ≠ (.slice Ao53 t688.length co53 : Value).ownBlock)) (by (with_reducible repeat (first | apply Kd.R_alloc | apply Kd.R_drewN | apply Kd.R_drew)); exact Kd.R_mono HO_684001.out (fun _ hk => ⟨⟨hk.1.1, hk.2⟩, hk.1.2⟩)) hg hat)
                      have n1_ := Aside0.mk (Kd.R_after (ok := (fun k_ => some k_ ≠ (.slice Ao35 t676.length co35 : Value).ownBlock ∧ some k_ ≠ (.slice Ao53 t688.length co53 : Value).ownBlock)) (by (with_reducible repeat (first | apply Kd.R_alloc | apply Kd.R_drewN | apply Kd.R_drew)); exact Kd.R_mono HO_684002.out (fun _ hk => ⟨⟨hk.1.1, hk.2⟩, hk.1.2⟩)) hg hat)
                      have n2_ := Aside0.mk (blk_grown (g := gb665) (o := .cells #[.int .i64 a3_0, .slice A3_1 l3_1.length c3_1, .slice A3_2 l3_2.length c3_2] 33 (0, 0)) (by (with_reducible repeat (first | refine blk_drewN ?_ _ | refine blk_drew ?_ | refine blk_alloc ?_ _)); exact BK665.out) hg (Kd.R_ne HO687.out BK665.out (by decide)))
                      have n3_ := Aside0.mk (blk_grown (g := gb683) (o := .cells #[.int .i64 t675, .slice Ao35 t676.length co35, .slice Ao36 t679.length co36] 33 (0, 0)) (by (with_reducible repeat (first | refine blk_drewN ?_ _ | refine blk_drew ?_ | refine blk_alloc ?_ _)); exact BK683.out) hg (Kd.R_ne HO687.out BK683.out (by decide)))
                      have n4_ := Aside0.mk (Kd.R_after (ok := (fun k_ => some k_ ≠ (.slice Ao35 t676.length co35 : Value).ownBlock ∧ some k_ ≠ (.slice Ao36 t679.length co36 : Value).ownBlock)) (by (with_reducible repeat (first | apply Kd.R_alloc | apply Kd.R_drewN | apply Kd.R_drew)); exact Kd.R_mono HO690.out (fun _ hk => ⟨⟨hk.1.1.2, hk.1.2⟩, hk.2⟩)) hg hat)
                      have n5_ := Aside0.mk (hb)
                      have n6_ := Aside0.mk (ho)
                      clear HO_684001
                      clear HO_684002
                      clear BK665
                      clear BK683
                      clear HO690
                      clear HB
                      clear HO687
                      have HO_684001 := n0_
                      have HO_684002 := n1_
                      have BK665 := n2_
                      have BK683 := n3_
                      have HO690 := n4_
                      have HB := n5_
                      have HO693 := n6_
                      clear n0_ n1_ n2_ n3_ n4_ n5_ n6_
                      clear ho hb hg hat
                      obtain ⟨Ao54, co54, eo54⟩ := Kd.R_slice HO693.out
                      (first | subst eo54 | (injection eo54 with f1_ f2_ f3_; have f4_ := f1_.symm; have f5_ := f3_.symm; clear f1_ f2_ f3_; subst f4_; subst f5_))
                      refine hK.out _ _ ⟨(blk_cell BK665.out 0).trans rfl, (blk_cell BK665.out 1).trans rfl, (blk_cell BK665.out 2).trans rfl⟩ (fun hHeld => ?_)
                      clear hK K
                      refine norm_ (a' := ?_) ?_ ?_
                      rotate_left
                      · show Act.put _ (some 69) _ = _
                        simp only [Act.put, List.setIfInBounds_toArray, List.set_cons_zero, List.set_cons_succ, i64_w, i32_w]
                        rfl
                      refine one_ (i := 9) (N := some 70) #[true, true, true, true, true, true, true, true, true, true, false, false] rfl rfl (one_of HT_.out (by kernel_rfl)) (by decide) (fun K hK => ?_)
                      refine goes_ Tryz.func46 (by kernel_rfl) rfl #[.slice Ao54 y691.length co54] (by rfl) rfl rfl (by (try simp only [List.map_toArray, List.map_cons, List.map_nil]); first | done | rfl | (simp only [List.length_drop, List.length_take]; rfl)) ?_
                      with_reducible refine (customhouseref02_Shown.calls kj25 _ _ y691 t694 _ ?side1 ?side2 A48.out).mono ?_
                      (case side1 => repeat (first | exact (Kd.R_reads' HO693.out).2.2 | (with_reducible refine Kd.C_alloc ?_ _) | (with_reducible refine Kd.C_drewN ?_ _) | (with_reducible refine Kd.C_drew ?_)))
                      (case side2 => exact (Kd.R_reads' HO693.out).2.1)
                      rintro e w55 ⟨rfl, hb⟩
                      refine ⟨_, rfl, ?_⟩
                      have n0_ := Aside0.mk (Kd.R_below (by (with_reducible repeat (first | apply Kd.R_alloc | apply Kd.R_drewN | apply Kd.R_drew)); exact HO_684001.out) hb)
                      have n1_ := Aside0.mk (Kd.R_below (by (with_reducible repeat (first | apply Kd.R_alloc | apply Kd.R_drewN | apply Kd.R_drew)); exact HO_684002.out) hb)
                      have n2_ := Aside0.mk (Kd.R_below (by (with_reducible repeat (first | apply Kd.R_alloc | apply Kd.R_drewN | apply Kd.R_drew)); exact HO690.out) hb)
                      have n3_ := Aside0.mk (Kd.R_below (by (with_reducible repeat (first | apply Kd.R_alloc | apply Kd.R_drewN | apply Kd.R_drew)); exact HO693.out) hb)
                      have n4_ := Aside0.mk (blk_below (g := gb665) (o := .cells #[.int .i64 a3_0, .slice A3_1 l3_1.length c3_1, .slice A3_2 l3_2.length c3_2] 33 (0, 0)) (by (with_reducible repeat (first | refine blk_drewN ?_ _ | refine blk_drew ?_ | refine blk_alloc ?_ _)); exact BK665.out) hb)
                      have n5_ := Aside0.mk (blk_below (g := gb683) (o := .cells #[.int .i64 t675, .slice Ao35 t676.length co35, .slice Ao36 t679.length co36] 33 (0, 0)) (by (with_reducible repeat (first | refine blk_drewN ?_ _ | refine blk_drew ?_ | refine blk_alloc ?_ _)); exact BK683.out) hb)
                      have n6_ := Aside0.mk (below_step (by repeat (first | (with_reducible first | exact HB.out | apply below_alloc | apply pw_below_drewN | apply below_drew1 | refine below_set ?_ GE665.out | refine below_set ?_ GE683.out) | exact HB.out)) hb)
                      clear HO_684001
                      clear HO_684002
                      clear HO690
                      clear HO693
                      clear BK665
                      clear BK683
                      clear HB
                      have HO_684001 := n0_
                      have HO_684002 := n1_
                      have HO690 := n2_
                      have HO693 := n3_
                      have BK665 := n4_
                      have BK683 := n5_
                      have HB := n6_
                      clear n0_ n1_ n2_ n3_ n4_ n5_ n6_
                      (try clear hb)
                      (try clear hb2)
                      (try clear hk)
                      (try clear hi)
                      refine hK.out _ _ ⟨(blk_cell BK665.out 0).trans rfl, (blk_cell BK665.out 1).trans rfl, (blk_cell BK665.out 2).trans rfl⟩ (fun hHeld => ?_)
                      clear hK K
                      refine norm_ (a' := ?_) ?_ ?_
                      rotate_left
                      · show Act.put _ (some 70) _ = _
                        simp only [Act.put, List.setIfInBounds_toArray, List.set_cons_zero, List.set_cons_succ, i64_w, i32_w]
                        rfl
                      refine pure_ (i := 10) (N := some 71) (v := ?_) (a' := ?_) #[true, true, true, true, true, true, true, true, true, true, true, false] rfl rfl (any_of HT_.out (by kernel_rfl)) (fun _ _ _ h => h) (Or.inl ⟨by rfl, ?_⟩) ?_ ?_
                      rotate_left
                      · intro w'
                        go_simp
                        first | with_reducible rfl | (rw [if_neg (by (try simp only [ByteArray.size_append, ByteArray.size_extract, eq_iff_iff, iff_true, iff_false, decide_eq_true_eq] at *); omega)] <;> with_reducible rfl)
                      rotate_left
                      · simp only [Act.put, List.setIfInBounds_toArray, List.set_cons_zero, List.set_cons_succ, i64_w, i32_w]
                        rfl
                      refine pure_ (i := 11) (N := some 8) (v := ?_) (a' := ?_) #[true, true, true, true, true, true, true, true, true, true, true, true] rfl rfl (any_of HT_.out (by kernel_rfl)) (fun _ _ _ h => h) (Or.inl ⟨by rfl, ?_⟩) ?_ ?_
                      rotate_left
                      · intro w'
                        go_simp
                        first | with_reducible rfl | (rw [if_neg (by (try simp only [ByteArray.size_append, ByteArray.size_extract, eq_iff_iff, iff_true, iff_false, decide_eq_true_eq] at *); omega)] <;> with_reducible rfl)
                      rotate_left
                      · simp only [Act.put, List.setIfInBounds_toArray, List.set_cons_zero, List.set_cons_succ, i64_w, i32_w]
                        rfl
                      refine done_ (done_of HT_.out (by kernel_rfl)) ?_
                      try go_wp2
                      go_ret
                      exact ⟨by first | rfl | (simp [errW_none, errW_some] <;> rfl) | (simp [*, errW_none, errW_some] <;> rfl), by repeat (first | (with_reducible first | exact HB.out | apply below_alloc | apply pw_below_drewN | apply below_drew1 | refine below_set ?_ GE665.out | refine below_set ?_ GE683.out) | exact HB.out)⟩
                    · rw [if_neg c47] at H
                      exact absurd H (by simp)
                  · replace c44 := Bool.eq_false_iff.mpr c44
                    subst c44
                    have H1 : (some false) = some r := by rw [if_neg (show ¬ (false = true) by decide)] at H; exact H
                    clear H
                    have H := H1
                    clear H1
                    obtain rfl := Option.some.inj H
                    try go_wp2
                    have n0_ := Aside0.mk (Kd.R_drew HO_684001.out)
                    have n1_ := Aside0.mk (Kd.R_drew HO_684002.out)
                    have n2_ := Aside0.mk (blk_drew BK665.out)
                    have n3_ := Aside0.mk (blk_drew BK683.out)
                    have n4_ := Aside0.mk (below_drew1 HB.out)
                    clear HO_684001
                    clear HO_684002
                    clear BK665
                    clear BK683
                    clear HB
                    have HO_684001 := n0_
                    have HO_684002 := n1_
                    have BK665 := n2_
                    have BK683 := n3_
                    have HB := n4_
                    clear n0_ n1_ n2_ n3_ n4_
                    refine start_ (n := 12) (S := fun w' => True) (ds := []) #[false, false, false, false, false, false, false, false, false, false, false, false] (by kernel_rfl) rfl rfl trivial (fun hHeld => ?_); refine with_tabW customhouselaw03_SealSound.tab13 customhouselaw03_SealSound.bits13 (fun HT_ HW_ => ?_)
                    generalize wc.drew = w56 at HO_684001 HO_684002 BK665 BK683 HB hHeld ⊢
                    refine pure_ (i := 0) (N := some 61) (v := ?_) (a' := ?_) #[true, false, false, false, false, false, false, false, false, false, false, false] rfl rfl (any_of HT_.out (by kernel_rfl)) (fun _ _ _ h => h) (Or.inl ⟨by rfl, ?_⟩) ?_ ?_
                    rotate_left
                    · intro w'
                      go_simp
                      first | with_reducible rfl | (rw [if_neg (by (try simp only [ByteArray.size_append, ByteArray.size_extract, eq_iff_iff, iff_true, iff_false, decide_eq_true_eq] at *); omega)] <;> with_reducible rfl)
                    rotate_left
                    · simp only [Act.put, List.setIfInBounds_toArray, List.set_cons_zero, List.set_cons_succ, i64_w, i32_w]
                      rfl
                    refine pure_ (i := 1) (N := some 62) (v := ?_) (a' := ?_) #[true, true, false, false, false, false, false, false, false, false, false, false] rfl rfl (any_of HT_.out (by kernel_rfl)) (fun _ _ _ h => h) (Or.inl ⟨by rfl, ?_⟩) ?_ ?_
                    rotate_left
                    · intro w'
                      go_simp
                      first | with_reducible rfl | (rw [if_neg (by (try simp only [ByteArray.size_append, ByteArray.size_extract, eq_iff_iff, iff_true, iff_false, decide_eq_true_eq] at *); omega)] <;> with_reducible rfl)
                    rotate_left
                    · simp only [Act.put, List.setIfInBounds_toArray, List.set_cons_zero, List.set_cons_succ, i64_w, i32_w]
                      rfl
                    refine pure_ (i := 2) (N := some 63) (v := undef) (a' := ?_) #[true, true, true, false, false, false, false, false, false, false, false, false] rfl rfl (any_of HT_.out (by kernel_rfl)) (fun _ _ _ h => h) (Or.inr ⟨by rfl, rfl⟩) ?_ ?_
                    rotate_left
                    · simp only [Act.put, List.setIfInBounds_toArray, List.set_cons_zero, List.set_cons_succ, i64_w, i32_w]
                      rfl
                    refine pure_ (i := 3) (N := some 64) (v := undef) (a' := ?_) #[true, true, true, true, false, false, false, false, false, false, false, false] rfl rfl (any_of HT_.out (by kernel_rfl)) (fun _ _ _ h => h) (Or.inr ⟨by rfl, rfl⟩) ?_ ?_
                    rotate_left
                    · simp only [Act.put, List.setIfInBounds_toArray, List.set_cons_zero, List.set_cons_succ, i64_w, i32_w]
                      rfl
                    refine pure_ (i := 4) (N := some 65) (v := undef) (a' := ?_) #[true, true, true, true, true, false, false, false, false, false, false, false] rfl rfl (any_of HT_.out (by kernel_rfl)) (fun _ _ _ h => h) (Or.inr ⟨by rfl, rfl⟩) ?_ ?_
                    rotate_left
                    · simp only [Act.put, List.setIfInBounds_toArray, List.set_cons_zero, List.set_cons_succ, i64_w, i32_w]
                      rfl
                    refine pure_ (i := 5) (N := some 66) (v := undef) (a' := ?_) #[true, true, true, true, true, true, false, false, false, false, false, false] rfl rfl (any_of HT_.out (by kernel_rfl)) (fun _ _ _ h => h) (Or.inr ⟨by rfl, rfl⟩) ?_ ?_
                    rotate_left
                    · simp only [Act.put, List.setIfInBounds_toArray, List.set_cons_zero, List.set_cons_succ, i64_w, i32_w]
                      rfl
                    refine pure_ (i := 6) (N := some 67) (v := undef) (a' := ?_) #[true, true, true, true, true, true, true, false, false, false, false, false] rfl rfl (any_of HT_.out (by kernel_rfl)) (fun _ _ _ h => h) (Or.inr ⟨by rfl, rfl⟩) ?_ ?_
                    rotate_left
                    · simp only [Act.put, List.setIfInBounds_toArray, List.set_cons_zero, List.set_cons_succ, i64_w, i32_w]
                      rfl
                    refine pure_ (i := 7) (N := some 68) (v := undef) (a' := ?_) #[true, true, true, true, true, true, true, true, false, false, false, false] rfl rfl (any_of HT_.out (by kernel_rfl)) (fun _ _ _ h => h) (Or.inr ⟨by rfl, rfl⟩) ?_ ?_
                    rotate_left
                    · simp only [Act.put, List.setIfInBounds_toArray, List.set_cons_zero, List.set_cons_succ, i64_w, i32_w]
                      rfl
                    refine pure_ (i := 8) (N := some 69) (v := undef) (a' := ?_) #[true, true, true, true, true, true, true, true, true, false, false, false] rfl rfl (any_of HT_.out (by kernel_rfl)) (fun _ _ _ h => h) (Or.inr ⟨by rfl, rfl⟩) ?_ ?_
                    rotate_left
                    · simp only [Act.put, List.setIfInBounds_toArray, List.set_cons_zero, List.set_cons_succ, i64_w, i32_w]
                      rfl
                    refine pure_ (i := 9) (N := some 70) (v := undef) (a' := ?_) #[true, true, true, true, true, true, true, true, true, true, false, false] rfl rfl (any_of HT_.out (by kernel_rfl)) (fun _ _ _ h => h) (Or.inr ⟨by rfl, rfl⟩) ?_ ?_
                    rotate_left
                    · simp only [Act.put, List.setIfInBounds_toArray, List.set_cons_zero, List.set_cons_succ, i64_w, i32_w]
                      rfl
                    refine pure_ (i := 10) (N := some 71) (v := ?_) (a' := ?_) #[true, true, true, true, true, true, true, true, true, true, true, false] rfl rfl (any_of HT_.out (by kernel_rfl)) (fun _ _ _ h => h) (Or.inl ⟨by rfl, ?_⟩) ?_ ?_
                    rotate_left
                    · intro w'
                      go_simp
                      first | with_reducible rfl | (rw [if_neg (by (try simp only [ByteArray.size_append, ByteArray.size_extract, eq_iff_iff, iff_true, iff_false, decide_eq_true_eq] at *); omega)] <;> with_reducible rfl)
                    rotate_left
                    · simp only [Act.put, List.setIfInBounds_toArray, List.set_cons_zero, List.set_cons_succ, i64_w, i32_w]
                      rfl
                    refine pure_ (i := 11) (N := some 8) (v := ?_) (a' := ?_) #[true, true, true, true, true, true, true, true, true, true, true, true] rfl rfl (any_of HT_.out (by kernel_rfl)) (fun _ _ _ h => h) (Or.inl ⟨by rfl, ?_⟩) ?_ ?_
                    rotate_left
                    · intro w'
                      go_simp
                      first | with_reducible rfl | (rw [if_neg (by (try simp only [ByteArray.size_append, ByteArray.size_extract, eq_iff_iff, iff_true, iff_false, decide_eq_true_eq] at *); omega)] <;> with_reducible rfl)
                    rotate_left
                    · simp only [Act.put, List.setIfInBounds_toArray, List.set_cons_zero, List.set_cons_succ, i64_w, i32_w]
                      rfl
                    refine done_ (done_of HT_.out (by kernel_rfl)) ?_
                    try go_wp2
                    go_ret
                    exact ⟨by first | rfl | (simp [errW_none, errW_some] <;> rfl) | (simp [*, errW_none, errW_some] <;> rfl), by repeat (first | (with_reducible first | exact HB.out | apply below_alloc | apply pw_below_drewN | apply below_drew1 | refine below_set ?_ GE665.out | refine below_set ?_ GE683.out) | exact HB.out)⟩
          · replace c24 := Bool.eq_false_iff.mpr c24
            subst c24
            have H1 : (some t666) = some r := by rw [if_neg (show ¬ (false = true) by decide)] at H; exact H
            clear H
            have H := H1
            clear H1
            obtain rfl := Option.some.inj H
            go_wp2_with (first | ((with_reducible refine gate_callee (f := 39) rfl ?_); refine goesL_ (some 33) rfl rfl Tryz.func39 (by kernel_rfl) rfl #[.string a0, .int .i64 (Int.tmod (wrap64 (a1)) 3)] rfl (by (try simp only [List.map_toArray, List.map_cons, List.map_nil]); first | done | rfl | (simp only [List.length_drop, List.length_take]; rfl)) ?_; (with_reducible refine (seal_Public.calls kj5 a0 (Int.tmod (wrap64 (a1)) 3) t672 t673 _ ?side1 A21.out).mono ?_); (case side1 => exact GL.below HG.out (by repeat (first | (with_reducible first | exact HB.out | apply below_alloc | apply pw_below_drewN | apply below_drew1 | refine below_set ?_ GE665.out) | exact HB.out))); rintro e w57 ⟨rfl, hb⟩; refine ⟨_, rfl, ?_⟩; have n0_ := Aside0.mk (blk_below (g := gb665) (o := .cells #[.int .i64 a3_0, .slice A3_1 l3_1.length c3_1, .slice A3_2 l3_2.length c3_2] 33 (0, 0)) (by (with_reducible repeat (first | refine blk_drewN ?_ _ | refine blk_drew ?_ | refine blk_alloc ?_ _)); exact BK665.out) hb); have n1_ := Aside0.mk (below_step (by repeat (first | (with_reducible first | exact HB.out | apply below_alloc | apply pw_below_drewN | apply below_drew1 | refine below_set ?_ GE665.out) | exact HB.out)) hb); clear BK665; clear HB; have BK665 := n0_; have HB := n1_; clear n0_ n1_; (try clear hb); (try clear hb2); (try clear hk); (try clear hi); have hcz58_0 : w57.cell? ⟨gb665, 0, none⟩ = some (.int .i64 a3_0) := (blk_cell BK665.out 0).trans rfl; have hcz58_1 : w57.cell? ⟨gb665, 1, none⟩ = some (.slice A3_1 l3_1.length c3_1) := (blk_cell BK665.out 1).trans rfl; have hcz58_2 : w57.cell? ⟨gb665, 2, none⟩ = some (.slice A3_2 l3_2.length c3_2) := (blk_cell BK665.out 2).trans rfl; have hfz58_0 := blk_frozen BK665.out 0; have hfz58_1 := blk_frozen BK665.out 1; have hfz58_2 := blk_frozen BK665.out 2) | ((with_reducible refine gate_callee (f := 44) rfl ?_); refine goesL_ (some 41) rfl rfl Tryz.func44 (by kernel_rfl) rfl #[.string t672, .string a2, .agg #[.int .i64 a3_0, .slice A3_1 l3_1.length c3_1, .slice A3_2 l3_2.length c3_2]] rfl (by (try simp only [List.map_toArray, List.map_cons, List.map_nil]); first | done | rfl | (simp only [List.length_drop, List.length_take]; rfl)) ?_; (with_reducible refine (seal_Verify.calls t672 a2 a3_0 _ _ l3_1 _ _ l3_2 false _ ?side5 ?side1 ?side2 ?side3 ?side4 A23.out).mono ?_); (case side1 => repeat (first | exact (Kd.C_below HR3_1.out HB.out) | (with_reducible refine Kd.C_alloc ?_ _) | (with_reducible refine Kd.C_drewN ?_ _) | (with_reducible refine Kd.C_drew ?_))); (case side2 => exact HC3_1.out); (case side3 => repeat (first | exact (Kd.C_below HR3_2.out HB.out) | (with_reducible refine Kd.C_alloc ?_ _) | (with_reducible refine Kd.C_drewN ?_ _) | (with_reducible refine Kd.C_drew ?_))); (case side4 => exact HC3_2.out); (case side5 => exact GL.below HG.out (by repeat (first | (with_reducible first | exact HB.out | apply below_alloc | apply pw_below_drewN | apply below_drew1 | refine below_set ?_ GE665.out) | exact HB.out))); rintro e w59 ⟨rfl, hb⟩; refine ⟨_, rfl, ?_⟩; have n0_ := Aside0.mk (blk_below (g := gb665) (o := .cells #[.int .i64 a3_0, .slice A3_1 l3_1.length c3_1, .slice A3_2 l3_2.length c3_2] 33 (0, 0)) (by (with_reducible repeat (first | refine blk_drewN ?_ _ | refine blk_drew ?_ | refine blk_alloc ?_ _)); exact BK665.out) hb); have n1_ := Aside0.mk (below_step (by repeat (first | (with_reducible first | exact HB.out | apply below_alloc | apply pw_below_drewN | apply below_drew1 | refine below_set ?_ GE665.out) | exact HB.out)) hb); clear BK665; clear HB; have BK665 := n0_; have HB := n1_; clear n0_ n1_; (try clear hb); (try clear hb2); (try clear hk); (try clear hi)))
            go_ret
            exact ⟨by first | rfl | (simp [errW_none, errW_some] <;> rfl) | (simp [*, errW_none, errW_some] <;> rfl), by repeat (first | (with_reducible first | exact HB.out | apply below_alloc | apply pw_below_drewN | apply below_drew1 | refine below_set ?_ GE665.out) | exact HB.out)⟩
        · rw [if_neg c22] at H
          have c22b0 : (t673 == 0) = false := beq_eq_false_iff_ne.mpr c22
          have c22b1 : (t673 != 0) = true := bne_iff_ne.mpr c22
          obtain rfl := Option.some.inj H
          go_wp2_with (first | ((with_reducible refine gate_callee (f := 39) rfl ?_); refine goesL_ (some 33) rfl rfl Tryz.func39 (by kernel_rfl) rfl #[.string a0, .int .i64 (Int.tmod (wrap64 (a1)) 3)] rfl (by (try simp only [List.map_toArray, List.map_cons, List.map_nil]); first | done | rfl | (simp only [List.length_drop, List.length_take]; rfl)) ?_; (with_reducible refine (seal_Public.calls kj5 a0 (Int.tmod (wrap64 (a1)) 3) t672 t673 _ ?side1 A21.out).mono ?_); (case side1 => exact GL.below HG.out (by repeat (first | (with_reducible first | exact HB.out | apply below_alloc | apply pw_below_drewN | apply below_drew1 | refine below_set ?_ GE665.out) | exact HB.out))); rintro e w60 ⟨rfl, hb⟩; refine ⟨_, rfl, ?_⟩; have n0_ := Aside0.mk (blk_below (g := gb665) (o := .cells #[.int .i64 a3_0, .slice A3_1 l3_1.length c3_1, .slice A3_2 l3_2.length c3_2] 33 (0, 0)) (by (with_reducible repeat (first | refine blk_drewN ?_ _ | refine blk_drew ?_ | refine blk_alloc ?_ _)); exact BK665.out) hb); have n1_ := Aside0.mk (below_step (by repeat (first | (with_reducible first | exact HB.out | apply below_alloc | apply pw_below_drewN | apply below_drew1 | refine below_set ?_ GE665.out) | exact HB.out)) hb); clear BK665; clear HB; have BK665 := n0_; have HB := n1_; clear n0_ n1_; (try clear hb); (try clear hb2); (try clear hk); (try clear hi)))
          go_ret
          exact ⟨by first | rfl | (simp [errW_none, errW_some] <;> rfl) | (simp [*, errW_none, errW_some] <;> rfl), by repeat (first | (with_reducible first | exact HB.out | apply below_alloc | apply pw_below_drewN | apply below_drew1 | refine below_set ?_ GE665.out) | exact HB.out)⟩

end Go.Proofs.YtdlipbfcadmhjaaGreatDoor.PG3
