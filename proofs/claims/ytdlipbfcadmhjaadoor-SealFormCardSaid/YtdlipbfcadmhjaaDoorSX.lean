/- Written by a program of this session's over the kit's print: the functions that a law comes to as plain Lean functions, and that Go's code computes them. Nothing is assumed. -/
import Derived.Test.YtdlipbfcadmhjaaDoorPG3x0
import Derived.Test.YtdlipbfcadmhjaaDoorPG3x1
import Derived.Test.YtdlipbfcadmhjaaDoorPG3x12
import Derived.Test.YtdlipbfcadmhjaaDoorS4
import Derived.Test.YtdlipbfcadmhjaaDoorS5
import Derived.Test.YtdlipbfcadmhjaaDoorS6
namespace Go.Proofs.YtdlipbfcadmhjaaDoor.PG3
open Go.RowKit Go.Proofs.YtdlipbfcadmhjaaDoorW.PrintWords Go.Proofs.YtdlipbfcadmhjaaDoorW.PrintLast Go.Proofs.YtdlipbfcadmhjaaDoorW.PrintMore
attribute [local go_sem] max2_int min2_int max_two min_two max_three min_three max_four min_four
set_option linter.unusedVariables false
set_option linter.unusedSimpArgs false
mutual
def customhouselaw03_SealForm.j0 : Nat → ByteArray → ByteArray → Bool → Bool → Int → List ByteArray → List ByteArray → Option (Bool)
  | 0, _, _, _, _, _, _, _ => none
  | k + 1, x0, x1, x7, x30, x106000, x106001, x106002 => if x30 = true then (some x7) else (if (x106001.length : Int) = 18 then (if (x106002.length : Int) > 8 then (customhouselaw03_SealForm.j1 k x0 x1 x7 true x106000 x106001 x106002) else (if x106000 < 0 then (customhouselaw03_SealForm.j1 k x0 x1 x7 true x106000 x106001 x106002) else (if x106000 ≥ (shl .i64 1 (x106002.length : Int)) then (customhouselaw03_SealForm.j1 k x0 x1 x7 true x106000 x106001 x106002) else ((digest_Is.f x0).bind fun t113 => (customhouselaw03_SealForm.j1 k x0 x1 x7 (!t113) x106000 x106001 x106002))))) else (customhouselaw03_SealForm.j1 k x0 x1 x7 true x106000 x106001 x106002))
def customhouselaw03_SealForm.j1 : Nat → ByteArray → ByteArray → Bool → Bool → Int → List ByteArray → List ByteArray → Option (Bool)
  | 0, _, _, _, _, _, _, _ => none
  | k + 1, x0, x1, x7, x60, x106000, x106001, x106002 => if x60 = true then (some false) else (customhouselaw03_SealForm.l0 k x0 x1 x7 0 x106000 x106001 x106002)
def customhouselaw03_SealForm.l0 : Nat → ByteArray → ByteArray → Bool → Int → Int → List ByteArray → List ByteArray → Option (Bool)
  | 0, _, _, _, _, _, _, _ => none
  | k + 1, x0, x1, x7, x8, x106000, x106001, x106002 => if x8 < (x106001.length : Int) then (if 0 ≤ x8 then ((digest_Is.f (rdOf ByteArray.empty x106001 x8)).bind fun t115 => (if t115 = true then (customhouselaw03_SealForm.l0 k x0 x1 x7 (wrap64 (x8 + 1)) x106000 x106001 x106002) else (some false))) else (none)) else (customhouselaw03_SealForm.l1 k x0 x1 x7 0 x106000 x106001 x106002)
def customhouselaw03_SealForm.l1 : Nat → ByteArray → ByteArray → Bool → Int → Int → List ByteArray → List ByteArray → Option (Bool)
  | 0, _, _, _, _, _, _, _ => none
  | k + 1, x0, x1, x7, x9, x106000, x106001, x106002 => if x9 < (x106002.length : Int) then (if 0 ≤ x9 then ((digest_Is.f (rdOf ByteArray.empty x106002 x9)).bind fun t117 => (if t117 = true then (customhouselaw03_SealForm.l1 k x0 x1 x7 (wrap64 (x9 + 1)) x106000 x106001 x106002) else (some false))) else (none)) else (if 17 ≤ (x106001.length : Int) then (if x7 = true then ((seal_Verify.f x0 x1 x106000 (x106001.take 17) x106002).bind fun t122 => (if t122 = true then (some false) else ((seal_Verify.f x0 x1 (wrap64 (x106000 + (shl .i64 1 (x106002.length : Int)))) x106001 x106002).bind fun t123 => (if t123 = true then (some false) else ((seal_Verify.f x0 x1 (wrap64 (x106000 - (shl .i64 1 (x106002.length : Int)))) x106001 x106002).bind fun t124 => (some (!t124))))))) else (some false)) else (none))
end
def customhouselaw03_SealForm.f (k : Nat) (a0 : ByteArray) (a1 : ByteArray) (a2_0 : Int) (l2_1 : List ByteArray) (l2_2 : List ByteArray) : Option (Bool) := (customhouselaw03_head.f).bind fun t106 => ((customhouselaw03_short.f k (([a0, a1] : List ByteArray))).bind fun t110 => (if t110 = true then ((customhouseref03_Few.f k a2_0 l2_1 l2_2).bind fun t111 => (if t111 = true then ((seal_Verify.f a0 a1 a2_0 l2_1 l2_2).bind fun t112 => (customhouselaw03_SealForm.j0 k a0 a1 t106 (!t112) a2_0 l2_1 l2_2)) else (customhouselaw03_SealForm.j0 k a0 a1 t106 true a2_0 l2_1 l2_2))) else (customhouselaw03_SealForm.j0 k a0 a1 t106 true a2_0 l2_1 l2_2)))
theorem customhouselaw03_SealForm.mono_l : ∀ k, (∀ y0 y1 y2 y3 y4 y5 y6, LeO (customhouselaw03_SealForm.j0 k y0 y1 y2 y3 y4 y5 y6) (customhouselaw03_SealForm.j0 (k + 1) y0 y1 y2 y3 y4 y5 y6)) ∧ (∀ y0 y1 y2 y3 y4 y5 y6, LeO (customhouselaw03_SealForm.j1 k y0 y1 y2 y3 y4 y5 y6) (customhouselaw03_SealForm.j1 (k + 1) y0 y1 y2 y3 y4 y5 y6)) ∧ (∀ y0 y1 y2 y3 y4 y5 y6, LeO (customhouselaw03_SealForm.l0 k y0 y1 y2 y3 y4 y5 y6) (customhouselaw03_SealForm.l0 (k + 1) y0 y1 y2 y3 y4 y5 y6)) ∧ (∀ y0 y1 y2 y3 y4 y5 y6, LeO (customhouselaw03_SealForm.l1 k y0 y1 y2 y3 y4 y5 y6) (customhouselaw03_SealForm.l1 (k + 1) y0 y1 y2 y3 y4 y5 y6))
  | 0 => ⟨fun _ _ _ _ _ _ _ r h => by simp [customhouselaw03_SealForm.j0] at h, fun _ _ _ _ _ _ _ r h => by simp [customhouselaw03_SealForm.j1] at h, fun _ _ _ _ _ _ _ r h => by simp [customhouselaw03_SealForm.l0] at h, fun _ _ _ _ _ _ _ r h => by simp [customhouselaw03_SealForm.l1] at h⟩
  | k + 1 => by
    obtain ⟨ih0, ih1, ih2, ih3⟩ := customhouselaw03_SealForm.mono_l k
    refine ⟨?_, ?_, ?_, ?_⟩
    · intro y0 y1 y2 y3 y4 y5 y6
      unfold customhouselaw03_SealForm.j0
      repeat' first
      | (with_reducible exact ih0 _ _ _ _ _ _ _)
      | (with_reducible exact ih1 _ _ _ _ _ _ _)
      | (with_reducible exact ih2 _ _ _ _ _ _ _)
      | (with_reducible exact ih3 _ _ _ _ _ _ _)
      | (with_reducible exact customhouselaw03_short.mono _ _)
      | (with_reducible exact customhouseref03_Few.mono _ _ _ _)
      | (with_reducible exact LeO.refl _)
      | (with_reducible exact LeO.none _)
      | (with_reducible refine LeO.ite ?_ ?_)
      | (with_reducible refine LeO.bind ?_ (fun _ => ?_))
      | exact ih0 _ _ _ _ _ _ _
      | exact ih1 _ _ _ _ _ _ _
      | exact ih2 _ _ _ _ _ _ _
      | exact ih3 _ _ _ _ _ _ _
      | exact customhouselaw03_short.mono _ _
      | exact customhouseref03_Few.mono _ _ _ _
      | exact LeO.none _
      | refine LeO.ite ?_ ?_
      | refine LeO.bind ?_ (fun _ => ?_)
    · intro y0 y1 y2 y3 y4 y5 y6
      unfold customhouselaw03_SealForm.j1
      repeat' first
      | (with_reducible exact ih0 _ _ _ _ _ _ _)
      | (with_reducible exact ih1 _ _ _ _ _ _ _)
      | (with_reducible exact ih2 _ _ _ _ _ _ _)
      | (with_reducible exact ih3 _ _ _ _ _ _ _)
      | (with_reducible exact customhouselaw03_short.mono _ _)
      | (with_reducible exact customhouseref03_Few.mono _ _ _ _)
      | (with_reducible exact LeO.refl _)
      | (with_reducible exact LeO.none _)
      | (with_reducible refine LeO.ite ?_ ?_)
      | (with_reducible refine LeO.bind ?_ (fun _ => ?_))
      | exact ih0 _ _ _ _ _ _ _
      | exact ih1 _ _ _ _ _ _ _
      | exact ih2 _ _ _ _ _ _ _
      | exact ih3 _ _ _ _ _ _ _
      | exact customhouselaw03_short.mono _ _
      | exact customhouseref03_Few.mono _ _ _ _
      | exact LeO.none _
      | refine LeO.ite ?_ ?_
      | refine LeO.bind ?_ (fun _ => ?_)
    · intro y0 y1 y2 y3 y4 y5 y6
      unfold customhouselaw03_SealForm.l0
      repeat' first
      | (with_reducible exact ih0 _ _ _ _ _ _ _)
      | (with_reducible exact ih1 _ _ _ _ _ _ _)
      | (with_reducible exact ih2 _ _ _ _ _ _ _)
      | (with_reducible exact ih3 _ _ _ _ _ _ _)
      | (with_reducible exact customhouselaw03_short.mono _ _)
      | (with_reducible exact customhouseref03_Few.mono _ _ _ _)
      | (with_reducible exact LeO.refl _)
      | (with_reducible exact LeO.none _)
      | (with_reducible refine LeO.ite ?_ ?_)
      | (with_reducible refine LeO.bind ?_ (fun _ => ?_))
      | exact ih0 _ _ _ _ _ _ _
      | exact ih1 _ _ _ _ _ _ _
      | exact ih2 _ _ _ _ _ _ _
      | exact ih3 _ _ _ _ _ _ _
      | exact customhouselaw03_short.mono _ _
      | exact customhouseref03_Few.mono _ _ _ _
      | exact LeO.none _
      | refine LeO.ite ?_ ?_
      | refine LeO.bind ?_ (fun _ => ?_)
    · intro y0 y1 y2 y3 y4 y5 y6
      unfold customhouselaw03_SealForm.l1
      repeat' first
      | (with_reducible exact ih0 _ _ _ _ _ _ _)
      | (with_reducible exact ih1 _ _ _ _ _ _ _)
      | (with_reducible exact ih2 _ _ _ _ _ _ _)
      | (with_reducible exact ih3 _ _ _ _ _ _ _)
      | (with_reducible exact customhouselaw03_short.mono _ _)
      | (with_reducible exact customhouseref03_Few.mono _ _ _ _)
      | (with_reducible exact LeO.refl _)
      | (with_reducible exact LeO.none _)
      | (with_reducible refine LeO.ite ?_ ?_)
      | (with_reducible refine LeO.bind ?_ (fun _ => ?_))
      | exact ih0 _ _ _ _ _ _ _
      | exact ih1 _ _ _ _ _ _ _
      | exact ih2 _ _ _ _ _ _ _
      | exact ih3 _ _ _ _ _ _ _
      | exact customhouselaw03_short.mono _ _
      | exact customhouseref03_Few.mono _ _ _ _
      | exact LeO.none _
      | refine LeO.ite ?_ ?_
      | refine LeO.bind ?_ (fun _ => ?_)
theorem customhouselaw03_SealForm.mono : ∀ a0 a1 a2 a3 a4 k, LeO (customhouselaw03_SealForm.f k a0 a1 a2 a3 a4) (customhouselaw03_SealForm.f (k + 1) a0 a1 a2 a3 a4) := by
 intro a0 a1 a2 a3 a4 k
 obtain ⟨ih0, ih1, ih2, ih3⟩ := customhouselaw03_SealForm.mono_l k
 unfold customhouselaw03_SealForm.f
 repeat' first
   | (with_reducible exact ih0 _ _ _ _ _ _ _)
   | (with_reducible exact ih1 _ _ _ _ _ _ _)
   | (with_reducible exact ih2 _ _ _ _ _ _ _)
   | (with_reducible exact ih3 _ _ _ _ _ _ _)
   | (with_reducible exact customhouselaw03_short.mono _ _)
   | (with_reducible exact customhouseref03_Few.mono _ _ _ _)
   | (with_reducible exact LeO.refl _)
   | (with_reducible exact LeO.none _)
   | (with_reducible refine LeO.ite ?_ ?_)
   | (with_reducible refine LeO.bind ?_ (fun _ => ?_))
   | exact ih0 _ _ _ _ _ _ _
   | exact ih1 _ _ _ _ _ _ _
   | exact ih2 _ _ _ _ _ _ _
   | exact ih3 _ _ _ _ _ _ _
   | exact customhouselaw03_short.mono _ _
   | exact customhouseref03_Few.mono _ _ _ _
   | exact LeO.none _
   | refine LeO.ite ?_ ?_
   | refine LeO.bind ?_ (fun _ => ?_)
def customhouselaw03_SealForm.T4 : Bool × List (List Nat × List Nat) := (true, [([], []), ([0], [0]), ([1], [1]), ([2], [2]), ([3], [3]), ([4], [4]), ([5, 4], [4, 5]), ([6, 4], [4, 6]), ([7, 4], [4, 7]), ([4, 8], [4, 8]), ([9, 4], [9]), ([10], [10]), ([11, 10], [10, 11]), ([12, 10], [10, 12]), ([10, 13], [10, 13]), ([14, 10], [14]), ([15], [15]), ([16, 15], [15, 16]), ([15], [15]), ([18, 15], [15, 18]), ([19, 15], [15, 19]), ([20, 15], [15, 20]), ([17, 21, 15], [15, 17, 21]), ([15, 22], [15, 22]), ([23, 15], [23]), ([24], [24]), ([25, 24, 24], [24, 25]), ([26, 24], [24, 26]), ([24, 27], [24, 27])])
def customhouselaw03_SealForm.B4 : List Nat := [0, 1, 3, 7, 15, 31, 63, 127, 255, 511, 1023, 2047, 4095, 8191, 16383, 32767, 65535, 131071, 65535, 327679, 851967, 1900543, 4194303, 8388607, 16777215, 33554431, 67108863, 134217727, 268435455]
theorem customhouselaw03_SealForm.tab4 : rtab .any (opsOf Tryd.f17 4) = customhouselaw03_SealForm.T4 := by kernel_rfl
theorem customhouselaw03_SealForm.bits4 : waitsOk customhouselaw03_SealForm.T4.2 customhouselaw03_SealForm.B4 = true := by kernel_rfl
theorem customhouselaw03_SealForm.j1_no {k : Nat} {x0 x1 : ByteArray} {x7 : Bool} {i : Int} {a b : List ByteArray} {r : Bool} (h : customhouselaw03_SealForm.j1 k x0 x1 x7 true i a b = some r) : r = false := by
 cases k with
 | zero => simp [customhouselaw03_SealForm.j1] at h
 | succ k => simp [customhouselaw03_SealForm.j1] at h; exact h
set_option maxHeartbeats 8000000 in
set_option maxRecDepth 100000 in
theorem customhouselaw03_SealForm.calls (k : Nat) (a0 : ByteArray) (a1 : ByteArray) (a2_0 : Int) (A2_1 : Option Addr) (c2_1 : Nat) (l2_1 : List ByteArray) (A2_2 : Option Addr) (c2_2 : Nat) (l2_2 : List ByteArray) (r : Bool) (w : World) (hG : GL w) (hr2_1 : Kd.C Kd.string w A2_1 l2_1.length l2_1) (hc2_1 : l2_1.length ≤ c2_1) (hr2_2 : Kd.C Kd.string w A2_2 l2_2.length l2_2) (hc2_2 : l2_2.length ≤ c2_2) (h : customhouselaw03_SealForm.f k a0 a1 a2_0 l2_1 l2_2 = some r) (hr_ : r = true) :
    Calls Tryd.prog 17 #[.string a0, .string a1, .agg #[.int .i64 a2_0, .slice A2_1 l2_1.length c2_1, .slice A2_2 l2_2.length c2_2]] w fun e w' => e = .returned (.bool r) ∧ Below w.heap.size w w' := by
 have hu53 := Tryd.underlying53
 have HR2_1 := Aside0.mk hr2_1
 have HC2_1 := Aside0.mk hc2_1
 clear hr2_1 hc2_1
 have HR2_2 := Aside0.mk hr2_2
 have HC2_2 := Aside0.mk hc2_2
 clear hr2_2 hc2_2
 have HB := Aside0.mk (Below.refl w.heap.size w)
 have HG := Aside0.mk hG
 clear hG
 have H : ((customhouselaw03_head.f).bind fun t106 => ((customhouselaw03_short.f k (([a0, a1] : List ByteArray))).bind fun t110 => (if t110 = true then ((customhouseref03_Few.f k a2_0 l2_1 l2_2).bind fun t111 => (if t111 = true then ((seal_Verify.f a0 a1 a2_0 l2_1 l2_2).bind fun t112 => (customhouselaw03_SealForm.j0 k a0 a1 t106 (!t112) a2_0 l2_1 l2_2)) else (customhouselaw03_SealForm.j0 k a0 a1 t106 true a2_0 l2_1 l2_2))) else (customhouselaw03_SealForm.j0 k a0 a1 t106 true a2_0 l2_1 l2_2)))) = some r := h
 clear h
 replace H := Option.bind_eq_some_iff.mp H
 obtain ⟨t106, A40, H⟩ := H
 replace H : ((customhouselaw03_short.f k (([a0, a1] : List ByteArray))).bind fun t110 => (if t110 = true then ((customhouseref03_Few.f k a2_0 l2_1 l2_2).bind fun t111 => (if t111 = true then ((seal_Verify.f a0 a1 a2_0 l2_1 l2_2).bind fun t112 => (customhouselaw03_SealForm.j0 k a0 a1 t106 (!t112) a2_0 l2_1 l2_2)) else (customhouselaw03_SealForm.j0 k a0 a1 t106 true a2_0 l2_1 l2_2))) else (customhouselaw03_SealForm.j0 k a0 a1 t106 true a2_0 l2_1 l2_2))) = some r := H
 have A4 := Aside0.mk A40
 clear A40
 have HC5 := Aside0.mk H
 clear H
 go_enter Tryd.func17, Tryd.ntmps17
 go_upto_region 2 with (first | ((with_reducible refine gate_dst (N := 5) rfl ?_); (try (refine gate_guard (by rfl) ?_; dsimp only)); refine box_event ?hg (N := 5) ?hd (cs := #[.int .i64 a2_0, .slice A2_1 l2_1.length c2_1, .slice A2_2 l2_2.length c2_2]) (t := 53) ?hr ?_; (case hd => rfl); (case hg => rfl); (case hr => first | (go_simp; done) | (go_simp; rfl)); intro gb105 hg w6 hbox hb; have n0_ := Aside0.mk (below_step (by repeat (first | (with_reducible first | exact HB.out | apply below_alloc | apply pw_below_drewN | apply below_drew1) | exact HB.out)) hb); have n1_ := Aside0.mk (hbox); have n2_ := Aside0.mk ((by rw [hg]; exact (below_size (by repeat (first | (with_reducible first | exact HB.out | apply below_alloc | apply pw_below_drewN | apply below_drew1) | exact HB.out))) : w.heap.size ≤ gb105)); have n3_ := Aside0.mk ((by rw [hg]; exact (below_size (by repeat (first | (with_reducible first | exact HB.out | apply below_alloc | apply pw_below_drewN | apply below_drew1) | exact HB.out))) : w.heap.size ≤ gb105)); clear HB; have HB := n0_; have BK105 := n1_; have GW105 := n2_; have GE105 := n3_; clear n0_ n1_ n2_ n3_; clear hb hbox hg) | ((with_reducible refine gate_callee (f := 41) rfl ?_); refine goesL_ (some 13) rfl rfl Tryd.func41 (by kernel_rfl) rfl #[] rfl (by (try simp only [List.map_toArray, List.map_cons, List.map_nil]); first | done | rfl | (simp only [List.length_drop, List.length_take]; rfl)) ?_; (with_reducible refine (customhouselaw03_head.calls  t106 _ ?side1 A4.out).mono ?_); (case side1 => exact GL.below HG.out (by repeat (first | (with_reducible first | exact HB.out | apply below_alloc | apply pw_below_drewN | apply below_drew1 | refine below_set ?_ GE105.out) | exact HB.out))); rintro e w7 ⟨rfl, hb⟩; refine ⟨_, rfl, ?_⟩; have n0_ := Aside0.mk (blk_below (g := gb105) (o := .cells #[.int .i64 a2_0, .slice A2_1 l2_1.length c2_1, .slice A2_2 l2_2.length c2_2] 53 (0, 0)) (by (with_reducible repeat (first | refine blk_drewN ?_ _ | refine blk_drew ?_ | refine blk_alloc ?_ _)); exact BK105.out) hb); have n1_ := Aside0.mk (below_step (by repeat (first | (with_reducible first | exact HB.out | apply below_alloc | apply pw_below_drewN | apply below_drew1 | refine below_set ?_ GE105.out) | exact HB.out)) hb); clear BK105; clear HB; have BK105 := n0_; have HB := n1_; clear n0_ n1_; (try clear hb); (try clear hb2); (try clear hk); (try clear hi)))
 (try simp only [Act.put, List.setIfInBounds_toArray, List.set_cons_zero, List.set_cons_succ])
 go_cut [30] (fun v30 wc => ∃ (kq : Nat) (x30_4 : Bool), v30 = .bool x30_4 ∧ Aside0 (customhouselaw03_SealForm.j0 kq a0 a1 t106 x30_4 a2_0 l2_1 l2_2 = some r) ∧ Aside0 (kq ≤ k) ∧ Aside0 (wc.heap[gb105]? = some (.cells #[.int .i64 a2_0, (.slice A2_1 l2_1.length c2_1), (.slice A2_2 l2_2.length c2_2)] 53 (0, 0))) ∧ Aside0 (Below w.heap.size w wc))
 case first =>
  have H := HC5.out; clear HC5
  obtain ⟨y107, hy107⟩ : ∃ y_ : List ByteArray, y_ = (([a0, a1] : List ByteArray)) := ⟨_, rfl⟩
  replace H : ((customhouselaw03_short.f k y107).bind fun t110 => (if t110 = true then ((customhouseref03_Few.f k a2_0 l2_1 l2_2).bind fun t111 => (if t111 = true then ((seal_Verify.f a0 a1 a2_0 l2_1 l2_2).bind fun t112 => (customhouselaw03_SealForm.j0 k a0 a1 t106 (!t112) a2_0 l2_1 l2_2)) else (customhouselaw03_SealForm.j0 k a0 a1 t106 true a2_0 l2_1 l2_2))) else (customhouselaw03_SealForm.j0 k a0 a1 t106 true a2_0 l2_1 l2_2))) = some r := by first | (rw [hy107]; with_reducible exact H) | (have H2_ := (Option.bind_some _ _).symm.trans H; rw [hy107]; with_reducible exact H2_) | (have H2_ := (Option.bind_some _ _).symm.trans H; with_reducible exact H2_) | with_reducible exact H | (rw [hy107]; exact H) | exact H
  have Ny107 := Aside0.mk hy107
  clear hy107
  replace H := Option.bind_eq_some_iff.mp H
  obtain ⟨t110, A80, H⟩ := H
  replace H : (if t110 = true then ((customhouseref03_Few.f k a2_0 l2_1 l2_2).bind fun t111 => (if t111 = true then ((seal_Verify.f a0 a1 a2_0 l2_1 l2_2).bind fun t112 => (customhouselaw03_SealForm.j0 k a0 a1 t106 (!t112) a2_0 l2_1 l2_2)) else (customhouselaw03_SealForm.j0 k a0 a1 t106 true a2_0 l2_1 l2_2))) else (customhouselaw03_SealForm.j0 k a0 a1 t106 true a2_0 l2_1 l2_2)) = some r := H
  have A8 := Aside0.mk A80
  clear A80
  by_cases c9 : t110 = true
  ·subst c9
   have H1 : ((customhouseref03_Few.f k a2_0 l2_1 l2_2).bind fun t111 => (if t111 = true then ((seal_Verify.f a0 a1 a2_0 l2_1 l2_2).bind fun t112 => (customhouselaw03_SealForm.j0 k a0 a1 t106 (!t112) a2_0 l2_1 l2_2)) else (customhouselaw03_SealForm.j0 k a0 a1 t106 true a2_0 l2_1 l2_2))) = some r := by rw [if_pos rfl] at H; exact H
   clear H; have H := H1; clear H1
   replace H := Option.bind_eq_some_iff.mp H
   obtain ⟨t111, A100, H⟩ := H
   replace H : (if t111 = true then ((seal_Verify.f a0 a1 a2_0 l2_1 l2_2).bind fun t112 => (customhouselaw03_SealForm.j0 k a0 a1 t106 (!t112) a2_0 l2_1 l2_2)) else (customhouselaw03_SealForm.j0 k a0 a1 t106 true a2_0 l2_1 l2_2)) = some r := H
   have A10 := Aside0.mk A100
   clear A100
   by_cases c11 : t111 = true
   ·subst c11
    have H1 : ((seal_Verify.f a0 a1 a2_0 l2_1 l2_2).bind fun t112 => (customhouselaw03_SealForm.j0 k a0 a1 t106 (!t112) a2_0 l2_1 l2_2)) = some r := by rw [if_pos rfl] at H; exact H
    clear H; have H := H1; clear H1
    replace H := Option.bind_eq_some_iff.mp H
    obtain ⟨t112, A120, H⟩ := H
    replace H : (customhouselaw03_SealForm.j0 k a0 a1 t106 (!t112) a2_0 l2_1 l2_2) = some r := H
    have A12 := Aside0.mk A120
    clear A120
    have H' := Aside0.mk H
    clear H
    go_wp2_with (first | ((with_reducible refine gate_dst (N := 16) rfl ?_); (try (refine gate_guard (by rfl) ?_; dsimp only)); refine Kd.R_lit Kd.string _ 9 ?hg (N := 16) ?hd (xs := ([a0, a1] : List ByteArray)) (inner := [.string a0, .string a1]) (ok := fun _ => True) (okp := fun _ => True) ?hr ?hp (fun _ hk => hk) trivial (Below.refl _ _) (Nat.le_refl _) (by simp) ?_; (case hd => rfl); (case hg => rfl); (case hr => first | (go_simp; done) | (go_simp; rfl)); (case hp => exact (Reps.one (show Kd.M Kd.string _ _ _ a0 [.string a0] from rfl) (Reps.one (show Kd.M Kd.string _ _ _ a1 [.string a1] from rfl) (Reps.none _ _)))); intro v108 w13 ho14 hb hg_ hnew_; clear hg_ hnew_; (first | rw [← Ny107.out] at ho14 | (simp only [Int.reduceToNat] at ho14; rw [← Ny107.out] at ho14)); have n0_ := Aside0.mk (Kd.R_lower ho14 (below_size (by repeat (first | (with_reducible first | exact HB.out | apply below_alloc | apply pw_below_drewN | apply below_drew1 | refine below_set ?_ GE105.out) | exact HB.out)))); have n1_ := Aside0.mk (blk_below (g := gb105) (o := .cells #[.int .i64 a2_0, .slice A2_1 l2_1.length c2_1, .slice A2_2 l2_2.length c2_2] 53 (0, 0)) (by (with_reducible repeat (first | refine blk_drewN ?_ _ | refine blk_drew ?_ | refine blk_alloc ?_ _)); exact BK105.out) hb); have n2_ := Aside0.mk (below_step (by repeat (first | (with_reducible first | exact HB.out | apply below_alloc | apply pw_below_drewN | apply below_drew1 | refine below_set ?_ GE105.out) | exact HB.out)) hb); clear BK105; clear HB; have HO109 := n0_; have BK105 := n1_; have HB := n2_; clear n0_ n1_ n2_; clear hb ho14; obtain ⟨Ao15, co15, eo15⟩ := Kd.R_slice HO109.out; subst eo15) | ((with_reducible refine gate_callee (f := 42) rfl ?_); refine goesL_ (some 17) rfl rfl Tryd.func42 (by kernel_rfl) rfl #[.slice Ao15 y107.length co15] rfl (by (try simp only [List.map_toArray, List.map_cons, List.map_nil]); first | done | rfl | (simp only [List.length_drop, List.length_take]; rfl)) ?_; (with_reducible refine (customhouselaw03_short.calls k _ _ y107 true _ ?side1 ?side2 A8.out).mono ?_); (case side1 => repeat (first | exact (Kd.R_reads' HO109.out).2.2 | (with_reducible refine Kd.C_alloc ?_ _) | (with_reducible refine Kd.C_drewN ?_ _) | (with_reducible refine Kd.C_drew ?_))); (case side2 => exact (Kd.R_reads' HO109.out).2.1); rintro e w' ⟨rfl, ⟨nd, rfl⟩⟩; refine ⟨_, rfl, ?_⟩; have hcz16_0 : w13.cell? ⟨gb105, 0, none⟩ = some (.int .i64 a2_0) := (blk_cell BK105.out 0).trans rfl; have hcz16_1 : w13.cell? ⟨gb105, 1, none⟩ = some (.slice A2_1 l2_1.length c2_1) := (blk_cell BK105.out 1).trans rfl; have hcz16_2 : w13.cell? ⟨gb105, 2, none⟩ = some (.slice A2_2 l2_2.length c2_2) := (blk_cell BK105.out 2).trans rfl; have hfz16_0 := blk_frozen BK105.out 0; have hfz16_1 := blk_frozen BK105.out 1; have hfz16_2 := blk_frozen BK105.out 2) | (go_at_call 48; (with_reducible refine (customhouseref03_Few.calls k a2_0 _ _ l2_1 _ _ l2_2 true _ ?side1 ?side2 ?side3 ?side4 A10.out).mono ?_); (case side1 => repeat (first | exact (Kd.C_below HR2_1.out (by repeat (first | (with_reducible first | exact HB.out | apply below_alloc | apply pw_below_drewN | apply below_drew1 | refine below_set ?_ GE105.out) | exact HB.out))) | (with_reducible refine Kd.C_alloc ?_ _) | (with_reducible refine Kd.C_drewN ?_ _) | (with_reducible refine Kd.C_drew ?_))); (case side2 => exact HC2_1.out); (case side3 => repeat (first | exact (Kd.C_below HR2_2.out (by repeat (first | (with_reducible first | exact HB.out | apply below_alloc | apply pw_below_drewN | apply below_drew1 | refine below_set ?_ GE105.out) | exact HB.out))) | (with_reducible refine Kd.C_alloc ?_ _) | (with_reducible refine Kd.C_drewN ?_ _) | (with_reducible refine Kd.C_drew ?_))); (case side4 => exact HC2_2.out); rintro e w17 ⟨rfl, hb⟩; have n0_ := Aside0.mk (Kd.R_below (by (with_reducible repeat (first | apply Kd.R_alloc | apply Kd.R_drewN | apply Kd.R_drew)); exact HO109.out) hb); have n1_ := Aside0.mk (blk_below (g := gb105) (o := .cells #[.int .i64 a2_0, .slice A2_1 l2_1.length c2_1, .slice A2_2 l2_2.length c2_2] 53 (0, 0)) (by (with_reducible repeat (first | refine blk_drewN ?_ _ | refine blk_drew ?_ | refine blk_alloc ?_ _)); exact BK105.out) hb); have n2_ := Aside0.mk (below_step (by repeat (first | (with_reducible first | exact HB.out | apply below_alloc | apply pw_below_drewN | apply below_drew1 | refine below_set ?_ GE105.out) | exact HB.out)) hb); clear HO109; clear BK105; clear HB; have HO109 := n0_; have BK105 := n1_; have HB := n2_; clear n0_ n1_ n2_; (try clear hb); (try clear hb2); (try clear hk); (try clear hi); have hcz18_0 : w17.cell? ⟨gb105, 0, none⟩ = some (.int .i64 a2_0) := (blk_cell BK105.out 0).trans rfl; have hcz18_1 : w17.cell? ⟨gb105, 1, none⟩ = some (.slice A2_1 l2_1.length c2_1) := (blk_cell BK105.out 1).trans rfl; have hcz18_2 : w17.cell? ⟨gb105, 2, none⟩ = some (.slice A2_2 l2_2.length c2_2) := (blk_cell BK105.out 2).trans rfl; have hfz18_0 := blk_frozen BK105.out 0; have hfz18_1 := blk_frozen BK105.out 1; have hfz18_2 := blk_frozen BK105.out 2) | (go_at_call 46; (with_reducible refine (seal_Verify.calls a0 a1 a2_0 _ _ l2_1 _ _ l2_2 t112 _ ?side5 ?side1 ?side2 ?side3 ?side4 A12.out).mono ?_); (case side1 => repeat (first | exact (Kd.C_below HR2_1.out HB.out) | (with_reducible refine Kd.C_alloc ?_ _) | (with_reducible refine Kd.C_drewN ?_ _) | (with_reducible refine Kd.C_drew ?_))); (case side2 => exact HC2_1.out); (case side3 => repeat (first | exact (Kd.C_below HR2_2.out HB.out) | (with_reducible refine Kd.C_alloc ?_ _) | (with_reducible refine Kd.C_drewN ?_ _) | (with_reducible refine Kd.C_drew ?_))); (case side4 => exact HC2_2.out); (case side5 => exact GL.below HG.out (by repeat (first | (with_reducible first | exact HB.out | apply below_alloc | apply pw_below_drewN | apply below_drew1 | refine below_set ?_ GE105.out) | exact HB.out))); rintro e w19 ⟨rfl, hb⟩; have n0_ := Aside0.mk (Kd.R_below (by (with_reducible repeat (first | apply Kd.R_alloc | apply Kd.R_drewN | apply Kd.R_drew)); exact HO109.out) hb); have n1_ := Aside0.mk (blk_below (g := gb105) (o := .cells #[.int .i64 a2_0, .slice A2_1 l2_1.length c2_1, .slice A2_2 l2_2.length c2_2] 53 (0, 0)) (by (with_reducible repeat (first | refine blk_drewN ?_ _ | refine blk_drew ?_ | refine blk_alloc ?_ _)); exact BK105.out) hb); have n2_ := Aside0.mk (below_step (by repeat (first | (with_reducible first | exact HB.out | apply below_alloc | apply pw_below_drewN | apply below_drew1 | refine below_set ?_ GE105.out) | exact HB.out)) hb); clear HO109; clear BK105; clear HB; have HO109 := n0_; have BK105 := n1_; have HB := n2_; clear n0_ n1_ n2_; (try clear hb); (try clear hb2); (try clear hk); (try clear hi)))
    go_meet
    case rel => exact ⟨_, (!t112), (by first | rfl | (simp; done) | (simp [*]; done)), H', ⟨by first | omega | exact Nat.le_refl _⟩, ⟨by (with_reducible repeat (first | refine blk_drewN ?_ _ | refine blk_drew ?_ | refine blk_alloc ?_ _)); exact BK105.out⟩, ⟨by repeat (first | (with_reducible first | exact HB.out | apply below_alloc | apply pw_below_drewN | apply below_drew1 | refine below_set ?_ GE105.out) | exact HB.out)⟩⟩
   ·replace c11 := Bool.eq_false_iff.mpr c11
    subst c11
    have H1 : (customhouselaw03_SealForm.j0 k a0 a1 t106 true a2_0 l2_1 l2_2) = some r := by rw [if_neg (show ¬ (false = true) by decide)] at H; exact H
    clear H; have H := H1; clear H1
    have H' := Aside0.mk H
    clear H
    go_wp2_with (first | ((with_reducible refine gate_dst (N := 16) rfl ?_); (try (refine gate_guard (by rfl) ?_; dsimp only)); refine Kd.R_lit Kd.string _ 9 ?hg (N := 16) ?hd (xs := ([a0, a1] : List ByteArray)) (inner := [.string a0, .string a1]) (ok := fun _ => True) (okp := fun _ => True) ?hr ?hp (fun _ hk => hk) trivial (Below.refl _ _) (Nat.le_refl _) (by simp) ?_; (case hd => rfl); (case hg => rfl); (case hr => first | (go_simp; done) | (go_simp; rfl)); (case hp => exact (Reps.one (show Kd.M Kd.string _ _ _ a0 [.string a0] from rfl) (Reps.one (show Kd.M Kd.string _ _ _ a1 [.string a1] from rfl) (Reps.none _ _)))); intro v108 w20 ho21 hb hg_ hnew_; clear hg_ hnew_; (first | rw [← Ny107.out] at ho21 | (simp only [Int.reduceToNat] at ho21; rw [← Ny107.out] at ho21)); have n0_ := Aside0.mk (Kd.R_lower ho21 (below_size (by repeat (first | (with_reducible first | exact HB.out | apply below_alloc | apply pw_below_drewN | apply below_drew1 | refine below_set ?_ GE105.out) | exact HB.out)))); have n1_ := Aside0.mk (blk_below (g := gb105) (o := .cells #[.int .i64 a2_0, .slice A2_1 l2_1.length c2_1, .slice A2_2 l2_2.length c2_2] 53 (0, 0)) (by (with_reducible repeat (first | refine blk_drewN ?_ _ | refine blk_drew ?_ | refine blk_alloc ?_ _)); exact BK105.out) hb); have n2_ := Aside0.mk (below_step (by repeat (first | (with_reducible first | exact HB.out | apply below_alloc | apply pw_below_drewN | apply below_drew1 | refine below_set ?_ GE105.out) | exact HB.out)) hb); clear BK105; clear HB; have HO109 := n0_; have BK105 := n1_; have HB := n2_; clear n0_ n1_ n2_; clear hb ho21; obtain ⟨Ao22, co22, eo22⟩ := Kd.R_slice HO109.out; subst eo22) | ((with_reducible refine gate_callee (f := 42) rfl ?_); refine goesL_ (some 17) rfl rfl Tryd.func42 (by kernel_rfl) rfl #[.slice Ao22 y107.length co22] rfl (by (try simp only [List.map_toArray, List.map_cons, List.map_nil]); first | done | rfl | (simp only [List.length_drop, List.length_take]; rfl)) ?_; (with_reducible refine (customhouselaw03_short.calls k _ _ y107 true _ ?side1 ?side2 A8.out).mono ?_); (case side1 => repeat (first | exact (Kd.R_reads' HO109.out).2.2 | (with_reducible refine Kd.C_alloc ?_ _) | (with_reducible refine Kd.C_drewN ?_ _) | (with_reducible refine Kd.C_drew ?_))); (case side2 => exact (Kd.R_reads' HO109.out).2.1); rintro e w' ⟨rfl, ⟨nd, rfl⟩⟩; refine ⟨_, rfl, ?_⟩; have hcz23_0 : w20.cell? ⟨gb105, 0, none⟩ = some (.int .i64 a2_0) := (blk_cell BK105.out 0).trans rfl; have hcz23_1 : w20.cell? ⟨gb105, 1, none⟩ = some (.slice A2_1 l2_1.length c2_1) := (blk_cell BK105.out 1).trans rfl; have hcz23_2 : w20.cell? ⟨gb105, 2, none⟩ = some (.slice A2_2 l2_2.length c2_2) := (blk_cell BK105.out 2).trans rfl; have hfz23_0 := blk_frozen BK105.out 0; have hfz23_1 := blk_frozen BK105.out 1; have hfz23_2 := blk_frozen BK105.out 2) | (go_at_call 48; (with_reducible refine (customhouseref03_Few.calls k a2_0 _ _ l2_1 _ _ l2_2 false _ ?side1 ?side2 ?side3 ?side4 A10.out).mono ?_); (case side1 => repeat (first | exact (Kd.C_below HR2_1.out (by repeat (first | (with_reducible first | exact HB.out | apply below_alloc | apply pw_below_drewN | apply below_drew1 | refine below_set ?_ GE105.out) | exact HB.out))) | (with_reducible refine Kd.C_alloc ?_ _) | (with_reducible refine Kd.C_drewN ?_ _) | (with_reducible refine Kd.C_drew ?_))); (case side2 => exact HC2_1.out); (case side3 => repeat (first | exact (Kd.C_below HR2_2.out (by repeat (first | (with_reducible first | exact HB.out | apply below_alloc | apply pw_below_drewN | apply below_drew1 | refine below_set ?_ GE105.out) | exact HB.out))) | (with_reducible refine Kd.C_alloc ?_ _) | (with_reducible refine Kd.C_drewN ?_ _) | (with_reducible refine Kd.C_drew ?_))); (case side4 => exact HC2_2.out); rintro e w24 ⟨rfl, hb⟩; have n0_ := Aside0.mk (Kd.R_below (by (with_reducible repeat (first | apply Kd.R_alloc | apply Kd.R_drewN | apply Kd.R_drew)); exact HO109.out) hb); have n1_ := Aside0.mk (blk_below (g := gb105) (o := .cells #[.int .i64 a2_0, .slice A2_1 l2_1.length c2_1, .slice A2_2 l2_2.length c2_2] 53 (0, 0)) (by (with_reducible repeat (first | refine blk_drewN ?_ _ | refine blk_drew ?_ | refine blk_alloc ?_ _)); exact BK105.out) hb); have n2_ := Aside0.mk (below_step (by repeat (first | (with_reducible first | exact HB.out | apply below_alloc | apply pw_below_drewN | apply below_drew1 | refine below_set ?_ GE105.out) | exact HB.out)) hb); clear HO109; clear BK105; clear HB; have HO109 := n0_; have BK105 := n1_; have HB := n2_; clear n0_ n1_ n2_; (try clear hb); (try clear hb2); (try clear hk); (try clear hi)))
    go_meet
    case rel => exact ⟨_, (true), (by first | rfl | (simp; done) | (simp [*]; done)), H', ⟨by first | omega | exact Nat.le_refl _⟩, ⟨by (with_reducible repeat (first | refine blk_drewN ?_ _ | refine blk_drew ?_ | refine blk_alloc ?_ _)); exact BK105.out⟩, ⟨by repeat (first | (with_reducible first | exact HB.out | apply below_alloc | apply pw_below_drewN | apply below_drew1 | refine below_set ?_ GE105.out) | exact HB.out)⟩⟩
  ·replace c9 := Bool.eq_false_iff.mpr c9
   subst c9
   have H1 : (customhouselaw03_SealForm.j0 k a0 a1 t106 true a2_0 l2_1 l2_2) = some r := by rw [if_neg (show ¬ (false = true) by decide)] at H; exact H
   clear H; have H := H1; clear H1
   have H' := Aside0.mk H
   clear H
   go_wp2_with (first | ((with_reducible refine gate_dst (N := 16) rfl ?_); (try (refine gate_guard (by rfl) ?_; dsimp only)); refine Kd.R_lit Kd.string _ 9 ?hg (N := 16) ?hd (xs := ([a0, a1] : List ByteArray)) (inner := [.string a0, .string a1]) (ok := fun _ => True) (okp := fun _ => True) ?hr ?hp (fun _ hk => hk) trivial (Below.refl _ _) (Nat.le_refl _) (by simp) ?_; (case hd => rfl); (case hg => rfl); (case hr => first | (go_simp; done) | (go_simp; rfl)); (case hp => exact (Reps.one (show Kd.M Kd.string _ _ _ a0 [.string a0] from rfl) (Reps.one (show Kd.M Kd.string _ _ _ a1 [.string a1] from rfl) (Reps.none _ _)))); intro v108 w25 ho26 hb hg_ hnew_; clear hg_ hnew_; (first | rw [← Ny107.out] at ho26 | (simp only [Int.reduceToNat] at ho26; rw [← Ny107.out] at ho26)); have n0_ := Aside0.mk (Kd.R_lower ho26 (below_size (by repeat (first | (with_reducible first | exact HB.out | apply below_alloc | apply pw_below_drewN | apply below_drew1 | refine below_set ?_ GE105.out) | exact HB.out)))); have n1_ := Aside0.mk (blk_below (g := gb105) (o := .cells #[.int .i64 a2_0, .slice A2_1 l2_1.length c2_1, .slice A2_2 l2_2.length c2_2] 53 (0, 0)) (by (with_reducible repeat (first | refine blk_drewN ?_ _ | refine blk_drew ?_ | refine blk_alloc ?_ _)); exact BK105.out) hb); have n2_ := Aside0.mk (below_step (by repeat (first | (with_reducible first | exact HB.out | apply below_alloc | apply pw_below_drewN | apply below_drew1 | refine below_set ?_ GE105.out) | exact HB.out)) hb); clear BK105; clear HB; have HO109 := n0_; have BK105 := n1_; have HB := n2_; clear n0_ n1_ n2_; clear hb ho26; obtain ⟨Ao27, co27, eo27⟩ := Kd.R_slice HO109.out; subst eo27) | ((with_reducible refine gate_callee (f := 42) rfl ?_); refine goesL_ (some 17) rfl rfl Tryd.func42 (by kernel_rfl) rfl #[.slice Ao27 y107.length co27] rfl (by (try simp only [List.map_toArray, List.map_cons, List.map_nil]); first | done | rfl | (simp only [List.length_drop, List.length_take]; rfl)) ?_; (with_reducible refine (customhouselaw03_short.calls k _ _ y107 false _ ?side1 ?side2 A8.out).mono ?_); (case side1 => repeat (first | exact (Kd.R_reads' HO109.out).2.2 | (with_reducible refine Kd.C_alloc ?_ _) | (with_reducible refine Kd.C_drewN ?_ _) | (with_reducible refine Kd.C_drew ?_))); (case side2 => exact (Kd.R_reads' HO109.out).2.1); rintro e w' ⟨rfl, ⟨nd, rfl⟩⟩; refine ⟨_, rfl, ?_⟩))
   go_meet
   case rel => exact ⟨_, (true), (by first | rfl | (simp; done) | (simp [*]; done)), H', ⟨by first | omega | exact Nat.le_refl _⟩, ⟨by (with_reducible repeat (first | refine blk_drewN ?_ _ | refine blk_drew ?_ | refine blk_alloc ?_ _)); exact BK105.out⟩, ⟨by repeat (first | (with_reducible first | exact HB.out | apply below_alloc | apply pw_below_drewN | apply below_drew1 | refine below_set ?_ GE105.out) | exact HB.out)⟩⟩
 case rest =>
  clear HC5
  try clear c1
  try clear c2
  try clear p2
  try clear c4
  try clear c9
  try clear c11
  try clear c17
  try clear hcz16_0
  try clear hcz16_1
  try clear hcz16_2
  try clear hcz18_0
  try clear hcz18_1
  try clear hcz18_2
  try clear hcz23_0
  try clear hcz23_1
  try clear hcz23_2
  try clear hfz16_0
  try clear hfz16_1
  try clear hfz16_2
  try clear hfz18_0
  try clear hfz18_1
  try clear hfz18_2
  try clear hfz23_0
  try clear hfz23_1
  try clear hfz23_2
  obtain ⟨kq, x30_4, rfl, HA, HJ4, BK105, HB⟩ := hcut
  cases kq with
  | zero => exact absurd HA.out (by simp [customhouselaw03_SealForm.j0])
  | succ kj4 =>
   have H := HA.out; clear HA
   simp only [customhouselaw03_SealForm.j0] at H
   by_cases c28 : x30_4 = true
   ·subst c28
    have H1 : (some t106) = some r := by rw [if_pos rfl] at H; exact H
    clear H; have H := H1; clear H1
    obtain rfl := Option.some.inj H
    go_wp2; go_ret
    exact ⟨by first | rfl | (simp [errW_none, errW_some] <;> rfl) | (simp [*, errW_none, errW_some] <;> rfl), by repeat (first | (with_reducible first | exact HB.out | apply below_alloc | apply pw_below_drewN | apply below_drew1 | refine below_set ?_ GE105.out) | exact HB.out)⟩
   ·replace c28 := Bool.eq_false_iff.mpr c28
    subst c28
    have H1 : (if (l2_1.length : Int) = 18 then (if (l2_2.length : Int) > 8 then (customhouselaw03_SealForm.j1 kj4 a0 a1 t106 true a2_0 l2_1 l2_2) else (if a2_0 < 0 then (customhouselaw03_SealForm.j1 kj4 a0 a1 t106 true a2_0 l2_1 l2_2) else (if a2_0 ≥ (shl .i64 1 (l2_2.length : Int)) then (customhouselaw03_SealForm.j1 kj4 a0 a1 t106 true a2_0 l2_1 l2_2) else ((digest_Is.f a0).bind fun t113 => (customhouselaw03_SealForm.j1 kj4 a0 a1 t106 (!t113) a2_0 l2_1 l2_2))))) else (customhouselaw03_SealForm.j1 kj4 a0 a1 t106 true a2_0 l2_1 l2_2)) = some r := by rw [if_neg (show ¬ (false = true) by decide)] at H; exact H
    clear H; have H := H1; clear H1
    have HC29 := Aside0.mk H
    clear H
    go_upto_region 4 with (fail)
    go_cut [60] (fun v60 wc => ∃ (kq : Nat) (x60_28 : Bool), v60 = .bool x60_28 ∧ Aside0 (customhouselaw03_SealForm.j1 kq a0 a1 t106 x60_28 a2_0 l2_1 l2_2 = some r) ∧ Aside0 (kq ≤ kj4) ∧ Aside0 (wc.heap[gb105]? = some (.cells #[.int .i64 a2_0, (.slice A2_1 l2_1.length c2_1), (.slice A2_2 l2_2.length c2_2)] 53 (0, 0))) ∧ Aside0 (Below w.heap.size w wc))
    case first =>
     have H := HC29.out; clear HC29
     by_cases c30 : (l2_1.length : Int) = 18
     ·rw [if_pos c30] at H
      have c30b0 : ((l2_1.length : Int) == 18) = true := beq_iff_eq.mpr c30
      have c30b1 : ((l2_1.length : Int) != 18) = false := bne_eq_false_iff_eq.mpr c30
      clear c30
      (first | rw [c30b0] | (simp only [i64_w, i32_w]; rw [c30b0]) | skip)
      by_cases c31 : (l2_2.length : Int) > 8
      ·rw [if_pos c31] at H
       exact absurd (hr_.symm.trans (customhouselaw03_SealForm.j1_no H)) (by decide)
      ·rw [if_neg c31] at H
       have c31b0 : decide (8 < (l2_2.length : Int)) = false := decide_eq_false c31
       have c31b1 : decide (8 < l2_2.length) = false := decide_eq_false (by omega)
       clear c31
       by_cases c33 : a2_0 < 0
       ·rw [if_pos c33] at H
        exact absurd (hr_.symm.trans (customhouselaw03_SealForm.j1_no H)) (by decide)
       ·rw [if_neg c33] at H
        have c33b0 : decide (a2_0 < 0) = false := decide_eq_false c33
        clear c33
        obtain ⟨ji35, hji35⟩ : ∃ j_ : Int, (shl .i64 1 (l2_2.length : Int)) = j_ := ⟨_, rfl⟩
        replace H : (if a2_0 ≥ (ji35) then (customhouselaw03_SealForm.j1 kj4 a0 a1 t106 true a2_0 l2_1 l2_2) else ((digest_Is.f a0).bind fun t113 => (customhouselaw03_SealForm.j1 kj4 a0 a1 t106 (!t113) a2_0 l2_1 l2_2))) = some r := by first | (rw [hji35] at H; exact H) | (simp only [hji35] at H ⊢; exact H)
        have hji35_ : (IntKind.i64.wrap (1 * 2 ^ min (l2_2.length : Int).toNat 64)) = ji35 := hji35
        have hji35z : (l2_2.length : Int) ≤ 64 → (IntKind.i64.wrap (1 * 2 ^ (l2_2.length : Int).toNat)) = ji35 := shl_small hji35
        have hji35p : (IntKind.i64.wrap (1 * 2 ^ min l2_2.length 64)) = ji35 := hji35_
        have hji35q : (l2_2.length : Int) ≤ 64 → (IntKind.i64.wrap (1 * 2 ^ l2_2.length)) = ji35 := hji35z
        have hji35r : (IntKind.i64.wrap (2 ^ min l2_2.length 64)) = ji35 := by have h_ := hji35p; rw [Int.one_mul] at h_; exact h_
        have hji35s : (l2_2.length : Int) ≤ 64 → (IntKind.i64.wrap (2 ^ l2_2.length)) = ji35 := fun hle_ => by have h_ := hji35q hle_; rw [Int.one_mul] at h_; exact h_
        have hji35u : (IntKind.i64.wrap (2 ^ min (l2_2.length : Int).toNat 64)) = ji35 := by have h_ := hji35_; rw [Int.one_mul] at h_; exact h_
        have hji35v : (l2_2.length : Int) ≤ 64 → (IntKind.i64.wrap (2 ^ (l2_2.length : Int).toNat)) = ji35 := fun hle_ => by have h_ := hji35z hle_; rw [Int.one_mul] at h_; exact h_
        have hji35y : (wrap64 (1 * 2 ^ min (l2_2.length : Int).toNat 64)) = ji35 := (i64_w _).symm.trans hji35_
        have hji35x : (l2_2.length : Int) ≤ 64 → (wrap64 (1 * 2 ^ (l2_2.length : Int).toNat)) = ji35 := fun h_ => (i64_w _).symm.trans (hji35z h_)
        by_cases c36 : a2_0 ≥ (ji35)
        ·rw [if_pos c36] at H
         exact absurd (hr_.symm.trans (customhouselaw03_SealForm.j1_no H)) (by decide)
        ·rw [if_neg c36] at H
         have c36b0 : decide ((ji35) ≤ a2_0) = false := decide_eq_false c36
         clear c36
         replace H := Option.bind_eq_some_iff.mp H
         obtain ⟨t113, A380, H⟩ := H
         replace H : (customhouselaw03_SealForm.j1 kj4 a0 a1 t106 (!t113) a2_0 l2_1 l2_2) = some r := H
         have A38 := Aside0.mk A380
         clear A380
         have H' := Aside0.mk H
         clear H
         try go_wp2
         have n0_ := Aside0.mk (blk_drew BK105.out)
         have n1_ := Aside0.mk (below_drew1 HB.out)
         clear BK105; clear HB; have BK105 := n0_; have HB := n1_; clear n0_ n1_
         refine start_ (n := 29) (S := fun w' => w'.cell? ⟨gb105, 0, none⟩ = some (.int .i64 a2_0) ∧ w'.cell? ⟨gb105, 1, none⟩ = some (.slice A2_1 l2_1.length c2_1) ∧ w'.cell? ⟨gb105, 2, none⟩ = some (.slice A2_2 l2_2.length c2_2)) (ds := []) (fT 0 29) (by kernel_rfl) rfl rfl ⟨(blk_cell BK105.out 0).trans rfl, (blk_cell BK105.out 1).trans rfl, (blk_cell BK105.out 2).trans rfl⟩ (fun hHeld => ?_); refine with_tabW customhouselaw03_SealForm.tab4 customhouselaw03_SealForm.bits4 (fun HT_ HW_ => ?_)
         generalize wc.drew = w39 at BK105 HB hHeld ⊢
         refine pure_ (i := 0) (N := some 32) (v := ?_) (a' := ?_) (fT 1 29) rfl rfl (any_of HT_.out (by kernel_rfl)) (fun _ _ _ h => h) (Or.inl ⟨by rfl, ?_⟩) ?_ ?_
         rotate_left
         ·intro w'; go_simp
          first | with_reducible rfl | (rw [if_neg (by (try simp only [ByteArray.size_append, ByteArray.size_extract, eq_iff_iff, iff_true, iff_false, decide_eq_true_eq] at *); omega)] <;> with_reducible rfl)
         rotate_left
         ·simp only [Act.put, sq1, sq2, sq3, i64_w, i32_w]; rfl
         refine take_ (i := 1) (N := some 33) (v := ?_) (a' := ?_) (fT 2 29) rfl rfl (take_ofW HT_.out HW_.out (by kernel_rfl)) (fun _ _ _ h => h) (Or.inl ⟨by rfl, ?_⟩) hHeld ?_ ?_
         rotate_left
         ·rintro w' ⟨s0, s1, s2⟩; go_simp
          first | with_reducible rfl | (rw [if_neg (by (try simp only [ByteArray.size_append, ByteArray.size_extract, eq_iff_iff, iff_true, iff_false, decide_eq_true_eq] at *); omega)] <;> with_reducible rfl)
         rotate_left
         ·simp only [Act.put, sq1, sq2, sq3, i64_w, i32_w]; rfl
         refine pure_ (i := 2) (N := some 34) (v := ?_) (a' := ?_) (fT 3 29) rfl rfl (any_of HT_.out (by kernel_rfl)) (fun _ _ _ h => h) (Or.inl ⟨by rfl, ?_⟩) ?_ ?_
         rotate_left
         ·intro w'; go_simp
          first | with_reducible rfl | (rw [if_neg (by (try simp only [ByteArray.size_append, ByteArray.size_extract, eq_iff_iff, iff_true, iff_false, decide_eq_true_eq] at *); omega)] <;> with_reducible rfl)
         rotate_left
         ·simp only [Act.put, sq1, sq2, sq3, i64_w, i32_w]; rfl
         refine pure_ (i := 3) (N := some 35) (v := ?_) (a' := ?_) (fT 4 29) rfl rfl (any_of HT_.out (by kernel_rfl)) (fun _ _ _ h => h) (Or.inl ⟨by rfl, ?_⟩) ?_ ?_
         rotate_left
         ·intro w'; go_simp
          first | with_reducible rfl | (rw [if_neg (by (try simp only [ByteArray.size_append, ByteArray.size_extract, eq_iff_iff, iff_true, iff_false, decide_eq_true_eq] at *); omega)] <;> with_reducible rfl)
         rotate_left
         ·simp only [Act.put, sq1, sq2, sq3, i64_w, i32_w]; rfl
         refine pure_ (i := 4) (N := some 36) (v := ?_) (a' := ?_) (fT 5 29) rfl rfl (any_of HT_.out (by kernel_rfl)) (fun _ _ _ h => h) (Or.inl ⟨by rfl, ?_⟩) ?_ ?_
         rotate_left
         ·intro w'; go_simp
          first | with_reducible rfl | (rw [if_neg (by (try simp only [ByteArray.size_append, ByteArray.size_extract, eq_iff_iff, iff_true, iff_false, decide_eq_true_eq] at *); omega)] <;> with_reducible rfl)
         rotate_left
         ·simp only [Act.put, sq1, sq2, sq3, i64_w, i32_w]; rfl
         refine pure_ (i := 5) (N := some 37) (v := ?_) (a' := ?_) (fT 6 29) rfl rfl (any_of HT_.out (by kernel_rfl)) (fun _ _ _ h => h) (Or.inl ⟨by rfl, ?_⟩) ?_ ?_
         rotate_left
         ·intro w'; go_simp
          first | with_reducible rfl | (rw [if_neg (by (try simp only [ByteArray.size_append, ByteArray.size_extract, eq_iff_iff, iff_true, iff_false, decide_eq_true_eq] at *); omega)] <;> with_reducible rfl)
         rotate_left
         ·simp only [Act.put, sq1, sq2, sq3, i64_w, i32_w]; rfl
         refine take_ (i := 6) (N := some 38) (v := ?_) (a' := ?_) (fT 7 29) rfl rfl (take_ofW HT_.out HW_.out (by kernel_rfl)) (fun _ _ _ h => h) (Or.inl ⟨by rfl, ?_⟩) hHeld ?_ ?_
         rotate_left
         ·rintro w' ⟨s0, s1, s2⟩; go_simp
          first | with_reducible rfl | (rw [if_neg (by (try simp only [ByteArray.size_append, ByteArray.size_extract, eq_iff_iff, iff_true, iff_false, decide_eq_true_eq] at *); omega)] <;> with_reducible rfl)
         rotate_left
         ·simp only [Act.put, sq1, sq2, sq3, i64_w, i32_w]; rfl
         refine pure_ (i := 7) (N := some 39) (v := ?_) (a' := ?_) (fT 8 29) rfl rfl (any_of HT_.out (by kernel_rfl)) (fun _ _ _ h => h) (Or.inl ⟨by rfl, ?_⟩) ?_ ?_
         rotate_left
         ·intro w'; go_simp
          first | with_reducible rfl | (rw [if_neg (by (try simp only [ByteArray.size_append, ByteArray.size_extract, eq_iff_iff, iff_true, iff_false, decide_eq_true_eq] at *); omega)] <;> with_reducible rfl)
         rotate_left
         ·simp only [Act.put, sq1, sq2, sq3, i64_w, i32_w]; rfl
         refine pure_ (i := 8) (N := some 40) (v := ?_) (a' := ?_) (fT 9 29) rfl rfl (any_of HT_.out (by kernel_rfl)) (fun _ _ _ h => h) (Or.inl ⟨by rfl, ?_⟩) ?_ ?_
         rotate_left
         ·intro w'; go_simp
          first | with_reducible rfl | (rw [if_neg (by (try simp only [ByteArray.size_append, ByteArray.size_extract, eq_iff_iff, iff_true, iff_false, decide_eq_true_eq] at *); omega)] <;> with_reducible rfl)
         rotate_left
         ·simp only [Act.put, sq1, sq2, sq3, i64_w, i32_w]; rfl
         refine pure_ (i := 9) (N := some 41) (v := ?_) (a' := ?_) (fT 10 29) rfl rfl (any_of HT_.out (by kernel_rfl)) (fun _ _ _ h => h) (Or.inl ⟨by rfl, ?_⟩) ?_ ?_
         rotate_left
         ·intro w'; go_simp
          first | with_reducible rfl | (rw [if_neg (by (try simp only [ByteArray.size_append, ByteArray.size_extract, eq_iff_iff, iff_true, iff_false, decide_eq_true_eq] at *); omega)] <;> with_reducible rfl)
         rotate_left
         ·simp only [Act.put, sq1, sq2, sq3, i64_w, i32_w]; rfl
         refine pure_ (i := 10) (N := some 42) (v := ?_) (a' := ?_) (fT 11 29) rfl rfl (any_of HT_.out (by kernel_rfl)) (fun _ _ _ h => h) (Or.inl ⟨by rfl, ?_⟩) ?_ ?_
         rotate_left
         ·intro w'; go_simp
          first | with_reducible rfl | (rw [if_neg (by (try simp only [ByteArray.size_append, ByteArray.size_extract, eq_iff_iff, iff_true, iff_false, decide_eq_true_eq] at *); omega)] <;> with_reducible rfl)
         rotate_left
         ·simp only [Act.put, sq1, sq2, sq3, i64_w, i32_w]; rfl
         refine pure_ (i := 11) (N := some 43) (v := ?_) (a' := ?_) (fT 12 29) rfl rfl (any_of HT_.out (by kernel_rfl)) (fun _ _ _ h => h) (Or.inl ⟨by rfl, ?_⟩) ?_ ?_
         rotate_left
         ·intro w'; go_simp
          first | with_reducible rfl | (rw [if_neg (by (try simp only [ByteArray.size_append, ByteArray.size_extract, eq_iff_iff, iff_true, iff_false, decide_eq_true_eq] at *); omega)] <;> with_reducible rfl)
         rotate_left
         ·simp only [Act.put, sq1, sq2, sq3, i64_w, i32_w]; rfl
         refine take_ (i := 12) (N := some 44) (v := ?_) (a' := ?_) (fT 13 29) rfl rfl (take_ofW HT_.out HW_.out (by kernel_rfl)) (fun _ _ _ h => h) (Or.inl ⟨by rfl, ?_⟩) hHeld ?_ ?_
         rotate_left
         ·rintro w' ⟨s0, s1, s2⟩; go_simp
          first | with_reducible rfl | (rw [if_neg (by (try simp only [ByteArray.size_append, ByteArray.size_extract, eq_iff_iff, iff_true, iff_false, decide_eq_true_eq] at *); omega)] <;> with_reducible rfl)
         rotate_left
         ·simp only [Act.put, sq1, sq2, sq3, i64_w, i32_w]; rfl
         refine pure_ (i := 13) (N := some 45) (v := ?_) (a' := ?_) (fT 14 29) rfl rfl (any_of HT_.out (by kernel_rfl)) (fun _ _ _ h => h) (Or.inl ⟨by rfl, ?_⟩) ?_ ?_
         rotate_left
         ·intro w'; go_simp
          first | with_reducible rfl | (rw [if_neg (by (try simp only [ByteArray.size_append, ByteArray.size_extract, eq_iff_iff, iff_true, iff_false, decide_eq_true_eq] at *); omega)] <;> with_reducible rfl)
         rotate_left
         ·simp only [Act.put, sq1, sq2, sq3, i64_w, i32_w]; rfl
         refine pure_ (i := 14) (N := some 46) (v := ?_) (a' := ?_) (fT 15 29) rfl rfl (any_of HT_.out (by kernel_rfl)) (fun _ _ _ h => h) (Or.inl ⟨by rfl, ?_⟩) ?_ ?_
         rotate_left
         ·intro w'; go_simp
          first | with_reducible rfl | (rw [if_neg (by (try simp only [ByteArray.size_append, ByteArray.size_extract, eq_iff_iff, iff_true, iff_false, decide_eq_true_eq] at *); omega)] <;> with_reducible rfl)
         rotate_left
         ·simp only [Act.put, sq1, sq2, sq3, i64_w, i32_w]; rfl
         refine pure_ (i := 15) (N := some 47) (v := ?_) (a' := ?_) (fT 16 29) rfl rfl (any_of HT_.out (by kernel_rfl)) (fun _ _ _ h => h) (Or.inl ⟨by rfl, ?_⟩) ?_ ?_
         rotate_left
         ·intro w'; go_simp
          first | with_reducible rfl | (rw [if_neg (by (try simp only [ByteArray.size_append, ByteArray.size_extract, eq_iff_iff, iff_true, iff_false, decide_eq_true_eq] at *); omega)] <;> with_reducible rfl)
         rotate_left
         ·simp only [Act.put, sq1, sq2, sq3, i64_w, i32_w]; rfl
         refine pure_ (i := 16) (N := some 48) (v := ?_) (a' := ?_) (fT 17 29) rfl rfl (any_of HT_.out (by kernel_rfl)) (fun _ _ _ h => h) (Or.inl ⟨by rfl, ?_⟩) ?_ ?_
         rotate_left
         ·intro w'; go_simp
          first | with_reducible rfl | (rw [if_neg (by (try simp only [ByteArray.size_append, ByteArray.size_extract, eq_iff_iff, iff_true, iff_false, decide_eq_true_eq] at *); omega)] <;> with_reducible rfl)
         rotate_left
         ·simp only [Act.put, sq1, sq2, sq3, i64_w, i32_w]; rfl
         refine pure_ (i := 18) (N := some 50) (v := ?_) (a' := ?_) #[tt,tt,tt,tt,tt,tt,tt,tt,tt,tt,tt,tt,tt,tt,tt,tt,tt,ff,tt,ff,ff,ff,ff,ff,ff,ff,ff,ff,ff] rfl rfl (any_of HT_.out (by kernel_rfl)) (fun _ _ _ h => h) (Or.inl ⟨by rfl, ?_⟩) ?_ ?_
         rotate_left
         ·intro w'; go_simp
          first | with_reducible rfl | (rw [if_neg (by (try simp only [ByteArray.size_append, ByteArray.size_extract, eq_iff_iff, iff_true, iff_false, decide_eq_true_eq] at *); omega)] <;> with_reducible rfl)
         rotate_left
         ·simp only [Act.put, sq1, sq2, sq3, i64_w, i32_w]; rfl
         refine take_ (i := 17) (N := some 49) (v := ?_) (a' := ?_) (fT 19 29) rfl rfl (take_ofW HT_.out HW_.out (by kernel_rfl)) (fun _ _ _ h => h) (Or.inl ⟨by rfl, ?_⟩) hHeld ?_ ?_
         rotate_left
         ·rintro w' ⟨s0, s1, s2⟩; go_simp
          first | with_reducible rfl | (rw [if_neg (by (try simp only [ByteArray.size_append, ByteArray.size_extract, eq_iff_iff, iff_true, iff_false, decide_eq_true_eq] at *); omega)] <;> with_reducible rfl)
         rotate_left
         ·simp only [Act.put, sq1, sq2, sq3, i64_w, i32_w]; rfl
         refine take_ (i := 19) (N := some 51) (v := ?_) (a' := ?_) (fT 20 29) rfl rfl (take_ofW HT_.out HW_.out (by kernel_rfl)) (fun _ _ _ h => h) (Or.inl ⟨by rfl, ?_⟩) hHeld ?_ ?_
         rotate_left
         ·rintro w' ⟨s0, s1, s2⟩; go_simp
          first | with_reducible rfl | (rw [if_neg (by (try simp only [ByteArray.size_append, ByteArray.size_extract, eq_iff_iff, iff_true, iff_false, decide_eq_true_eq] at *); omega)] <;> with_reducible rfl)
         rotate_left
         ·simp only [Act.put, sq1, sq2, sq3, i64_w, i32_w]; rfl
         refine pure_ (i := 20) (N := some 52) (v := ?_) (a' := ?_) (fT 21 29) rfl rfl (any_of HT_.out (by kernel_rfl)) (fun _ _ _ h => h) (Or.inl ⟨by rfl, ?_⟩) ?_ ?_
         rotate_left
         ·intro w'; go_simp
          first | with_reducible rfl | (rw [if_neg (by (try simp only [ByteArray.size_append, ByteArray.size_extract, eq_iff_iff, iff_true, iff_false, decide_eq_true_eq] at *); omega)] <;> with_reducible rfl)
         rotate_left
         ·simp only [Act.put, sq1, sq2, sq3, i64_w, i32_w]; rfl
         refine pure_ (i := 21) (N := some 53) (v := ?_) (a' := ?_) (fT 22 29) rfl rfl (any_of HT_.out (by kernel_rfl)) (fun _ _ _ h => h) (Or.inl ⟨by rfl, ?_⟩) ?_ ?_
         rotate_left
         ·intro w'; go_simp
          first | with_reducible rfl | (rw [if_neg (by (try simp only [ByteArray.size_append, ByteArray.size_extract, eq_iff_iff, iff_true, iff_false, decide_eq_true_eq] at *); omega)] <;> with_reducible rfl)
         rotate_left
         ·simp only [Act.put, sq1, sq2, sq3, i64_w, i32_w]; rfl
         refine pure_ (i := 22) (N := some 54) (v := ?_) (a' := ?_) (fT 23 29) rfl rfl (any_of HT_.out (by kernel_rfl)) (fun _ _ _ h => h) (Or.inl ⟨by rfl, ?_⟩) ?_ ?_
         rotate_left
         ·intro w'; go_simp
          first | with_reducible rfl | (rw [if_neg (by (try simp only [ByteArray.size_append, ByteArray.size_extract, eq_iff_iff, iff_true, iff_false, decide_eq_true_eq] at *); omega)] <;> with_reducible rfl)
         rotate_left
         ·simp only [Act.put, sq1, sq2, sq3, i64_w, i32_w]; rfl
         refine pure_ (i := 23) (N := some 55) (v := ?_) (a' := ?_) (fT 24 29) rfl rfl (any_of HT_.out (by kernel_rfl)) (fun _ _ _ h => h) (Or.inl ⟨by rfl, ?_⟩) ?_ ?_
         rotate_left
         ·intro w'; go_simp
          first | with_reducible rfl | (rw [if_neg (by (try simp only [ByteArray.size_append, ByteArray.size_extract, eq_iff_iff, iff_true, iff_false, decide_eq_true_eq] at *); omega)] <;> with_reducible rfl)
         rotate_left
         ·simp only [Act.put, sq1, sq2, sq3, i64_w, i32_w]; rfl
         refine pure_ (i := 24) (N := some 56) (v := ?_) (a' := ?_) (fT 25 29) rfl rfl (any_of HT_.out (by kernel_rfl)) (fun _ _ _ h => h) (Or.inl ⟨by rfl, ?_⟩) ?_ ?_
         rotate_left
         ·intro w'; go_simp
          first | with_reducible rfl | (rw [if_neg (by (try simp only [ByteArray.size_append, ByteArray.size_extract, eq_iff_iff, iff_true, iff_false, decide_eq_true_eq] at *); omega)] <;> with_reducible rfl)
         rotate_left
         ·simp only [Act.put, sq1, sq2, sq3, i64_w, i32_w]; rfl
         refine pure_ (i := 25) (N := some 57) (v := ?_) (a' := ?_) (fT 26 29) rfl rfl (any_of HT_.out (by kernel_rfl)) (fun _ _ _ h => h) (Or.inl ⟨by rfl, ?_⟩) ?_ ?_
         rotate_left
         ·intro w'; go_simp
          first | with_reducible rfl | (rw [if_neg (by (try simp only [ByteArray.size_append, ByteArray.size_extract, eq_iff_iff, iff_true, iff_false, decide_eq_true_eq] at *); omega)] <;> with_reducible rfl)
         rotate_left
         ·simp only [Act.put, sq1, sq2, sq3, i64_w, i32_w]; rfl
         refine one_ (i := 26) (N := some 58) (fT 27 29) rfl rfl (one_of HT_.out (by kernel_rfl)) (by decide) (fun K hK => ?_)
         refine goes_ Tryd.func26 (by kernel_rfl) rfl #[.string a0] (by rfl) rfl rfl (by (try simp only [List.map_toArray, List.map_cons, List.map_nil]); first | done | rfl | (simp only [List.length_drop, List.length_take]; rfl)) ?_
         with_reducible refine (digest_Is.calls a0 t113 _ ?side1 A38.out).mono ?_
         (case side1 => exact GL.below HG.out (by repeat (first | (with_reducible first | exact HB.out | apply below_alloc | apply pw_below_drewN | apply below_drew1 | refine below_set ?_ GE105.out) | exact HB.out)))
         rintro e w40 ⟨rfl, hb⟩
         refine ⟨_, rfl, ?_⟩
         have n0_ := Aside0.mk (blk_below (g := gb105) (o := .cells #[.int .i64 a2_0, .slice A2_1 l2_1.length c2_1, .slice A2_2 l2_2.length c2_2] 53 (0, 0)) (by (with_reducible repeat (first | refine blk_drewN ?_ _ | refine blk_drew ?_ | refine blk_alloc ?_ _)); exact BK105.out) hb)
         have n1_ := Aside0.mk (below_step (by repeat (first | (with_reducible first | exact HB.out | apply below_alloc | apply pw_below_drewN | apply below_drew1 | refine below_set ?_ GE105.out) | exact HB.out)) hb)
         clear BK105; clear HB; have BK105 := n0_; have HB := n1_; clear n0_ n1_
         (try clear hb)
         (try clear hb2)
         (try clear hk)
         (try clear hi)
         refine hK.out _ _ ⟨(blk_cell BK105.out 0).trans rfl, (blk_cell BK105.out 1).trans rfl, (blk_cell BK105.out 2).trans rfl⟩ (fun hHeld => ?_)
         clear hK K
         refine norm_ (a' := ?_) ?_ ?_
         rotate_left
         ·show Act.put _ (some 58) _ = _
          simp only [Act.put, sq1, sq2, sq3, i64_w, i32_w]; rfl
         refine pure_ (i := 27) (N := some 59) (v := ?_) (a' := ?_) (fT 28 29) rfl rfl (any_of HT_.out (by kernel_rfl)) (fun _ _ _ h => h) (Or.inl ⟨by rfl, ?_⟩) ?_ ?_
         rotate_left
         ·intro w'; go_simp
          first | with_reducible rfl | (rw [if_neg (by (try simp only [ByteArray.size_append, ByteArray.size_extract, eq_iff_iff, iff_true, iff_false, decide_eq_true_eq] at *); omega)] <;> with_reducible rfl)
         rotate_left
         ·simp only [Act.put, sq1, sq2, sq3, i64_w, i32_w]; rfl
         refine pure_ (i := 28) (N := some 60) (v := ?_) (a' := ?_) (fT 29 29) rfl rfl (any_of HT_.out (by kernel_rfl)) (fun _ _ _ h => h) (Or.inl ⟨by rfl, ?_⟩) ?_ ?_
         rotate_left
         ·intro w'; go_simp
          first | with_reducible rfl | (rw [if_neg (by (try simp only [ByteArray.size_append, ByteArray.size_extract, eq_iff_iff, iff_true, iff_false, decide_eq_true_eq] at *); omega)] <;> with_reducible rfl)
         rotate_left
         ·simp only [Act.put, sq1, sq2, sq3, i64_w, i32_w]; rfl
         refine done_ (done_of HT_.out (by kernel_rfl)) ?_
         try go_wp2
         first | ((try rw [← hji35]); go_meet) | ((try rw [hji35]); go_meet) | go_meet
         case rel => exact ⟨_, (!t113), (by first | rfl | (simp; done) | (simp [*]; done)), (by first | exact H' | (rw [hji35]; exact H')), ⟨by have := HJ4.out; first | omega | exact Nat.le_refl _⟩, ⟨by (with_reducible repeat (first | refine blk_drewN ?_ _ | refine blk_drew ?_ | refine blk_alloc ?_ _)); exact BK105.out⟩, ⟨by repeat (first | (with_reducible first | exact HB.out | apply below_alloc | apply pw_below_drewN | apply below_drew1 | refine below_set ?_ GE105.out) | exact HB.out)⟩⟩
     ·rw [if_neg c30] at H
      exact absurd (hr_.symm.trans (customhouselaw03_SealForm.j1_no H)) (by decide)
    case rest =>
     clear HC29
     try clear c2
     try clear p2
     try clear c3
     try clear c26
     try clear c30
     try clear c30b0
     try clear c30b1
     try clear c36
     try clear c36b0
     obtain ⟨kq, x60_28, rfl, HA, HJ28, BK105, HB⟩ := hcut
     cases kq with
     | zero => exact absurd HA.out (by simp [customhouselaw03_SealForm.j1])
     | succ kj28 =>
      have H := HA.out; clear HA
      simp only [customhouselaw03_SealForm.j1] at H
      by_cases c42 : x60_28 = true
      ·subst c42
       have H1 : (some false) = some r := by rw [if_pos rfl] at H; exact H
       clear H; have H := H1; clear H1
       obtain rfl := Option.some.inj H
       go_wp2; go_ret
       exact ⟨by first | rfl | (simp [errW_none, errW_some] <;> rfl) | (simp [*, errW_none, errW_some] <;> rfl), by repeat (first | (with_reducible first | exact HB.out | apply below_alloc | apply pw_below_drewN | apply below_drew1 | refine below_set ?_ GE105.out) | exact HB.out)⟩
      ·replace c42 := Bool.eq_false_iff.mpr c42
       subst c42
       have H1 : (customhouselaw03_SealForm.l0 kj28 a0 a1 t106 0 a2_0 l2_1 l2_2) = some r := by rw [if_neg (show ¬ (false = true) by decide)] at H; exact H
       clear H; have H := H1; clear H1
       have H' := Aside0.mk H
       clear H; go_wp2
       go_loopg [8] kj28 (fun kq v8 w' => ∃ (x8_3 : Int), v8 = .int .i64 x8_3 ∧ Aside0 (customhouselaw03_SealForm.l0 kq a0 a1 t106 x8_3 a2_0 l2_1 l2_2 = some r) ∧ Aside0 (kq ≤ kj28) ∧ Aside0 (w'.heap[gb105]? = some (.cells #[.int .i64 a2_0, (.slice A2_1 l2_1.length c2_1), (.slice A2_2 l2_2.length c2_2)] 53 (0, 0))) ∧ Aside0 (Below w.heap.size w w'))
       case atStart => exact ⟨(0), (by first | rfl | (simp; done) | (simp [*]; done)), H', ⟨Nat.le_refl _⟩, ⟨by (with_reducible repeat (first | refine blk_drewN ?_ _ | refine blk_drew ?_ | refine blk_alloc ?_ _)); exact BK105.out⟩, ⟨by repeat (first | (with_reducible first | exact HB.out | apply below_alloc | apply pw_below_drewN | apply below_drew1 | refine below_set ?_ GE105.out) | exact HB.out)⟩⟩
       case round =>
        clear H'
        try clear c2
        try clear p2
        try clear c3
        try clear c4
        try clear c26
        try clear c30
        try clear c30b0
        try clear c30b1
        try clear c36
        try clear c36b0
        try clear c42
        try clear p2
        obtain ⟨x8_3, rfl, HA, HK3, BK105, HB⟩ := hrel
        cases gk with
        | zero => exact absurd HA.out (by simp [customhouselaw03_SealForm.l0])
        | succ k3 =>
         have H := HA.out; clear HA
         simp only [customhouselaw03_SealForm.l0] at H
         by_cases c43 : x8_3 < (l2_1.length : Int)
         ·rw [if_pos c43] at H
          have c43b0 : decide (x8_3 < (l2_1.length : Int)) = true := decide_eq_true c43
          clear c43
          by_cases c44 : 0 ≤ x8_3
          ·rw [if_pos c44] at H
           have c44b0 : decide (0 ≤ x8_3) = true := decide_eq_true c44
           clear c44
           replace H := Option.bind_eq_some_iff.mp H
           obtain ⟨t115, A450, H⟩ := H
           replace H : (if t115 = true then (customhouselaw03_SealForm.l0 k3 a0 a1 t106 (wrap64 (x8_3 + 1)) a2_0 l2_1 l2_2) else (some false)) = some r := H
           have A45 := Aside0.mk A450
           clear A450
           by_cases c46 : t115 = true
           ·subst c46
            have H1 : (customhouselaw03_SealForm.l0 k3 a0 a1 t106 (wrap64 (x8_3 + 1)) a2_0 l2_1 l2_2) = some r := by rw [if_pos rfl] at H; exact H
            clear H; have H := H1; clear H1
            have H' := Aside0.mk H
            clear H
            have hcz47_0 : wr.cell? ⟨gb105, 0, none⟩ = some (.int .i64 a2_0) := (blk_cell BK105.out 0).trans rfl
            have hcz47_1 : wr.cell? ⟨gb105, 1, none⟩ = some (.slice A2_1 l2_1.length c2_1) := (blk_cell BK105.out 1).trans rfl
            have hcz47_2 : wr.cell? ⟨gb105, 2, none⟩ = some (.slice A2_2 l2_2.length c2_2) := (blk_cell BK105.out 2).trans rfl
            have hfz47_0 := blk_frozen BK105.out 0
            have hfz47_1 := blk_frozen BK105.out 1
            have hfz47_2 := blk_frozen BK105.out 2
            have p114 : 0 ≤ (x8_3 : Int) := of_decide_eq_true (by first | (with_reducible assumption) | assumption)
            have q114 : x8_3 < (l2_1.length : Int) := of_decide_eq_true (by first | (with_reducible assumption) | assumption)
            obtain ⟨ad114, e114, hx114_0⟩ := Kd.at_string HR2_1.out x8_3 p114 q114
            cases e114
            replace hx114_0 := (HB.out.cell (World.block_lt_of_cell? w _ hx114_0)).trans hx114_0
            replace p114 := eq_true p114
            replace q114 := eq_true q114
            go_wp2_with (first | ((with_reducible refine gate_callee (f := 26) rfl ?_); refine goesL_ (some 73) rfl rfl Tryd.func26 (by kernel_rfl) rfl #[.string (rdOf ByteArray.empty l2_1 x8_3)] rfl (by (try simp only [List.map_toArray, List.map_cons, List.map_nil]); first | done | rfl | (simp only [List.length_drop, List.length_take]; rfl)) ?_; (with_reducible refine (digest_Is.calls (rdOf ByteArray.empty l2_1 x8_3) true _ ?side1 A45.out).mono ?_); (case side1 => exact GL.below HG.out (by repeat (first | (with_reducible first | exact HB.out | apply below_alloc | apply pw_below_drewN | apply below_drew1 | refine below_set ?_ GE105.out) | exact HB.out))); rintro e w48 ⟨rfl, hb⟩; refine ⟨_, rfl, ?_⟩; have n0_ := Aside0.mk (blk_below (g := gb105) (o := .cells #[.int .i64 a2_0, .slice (some ad114) l2_1.length c2_1, .slice A2_2 l2_2.length c2_2] 53 (0, 0)) (by (with_reducible repeat (first | refine blk_drewN ?_ _ | refine blk_drew ?_ | refine blk_alloc ?_ _)); exact BK105.out) hb); have n1_ := Aside0.mk (below_step (by repeat (first | (with_reducible first | exact HB.out | apply below_alloc | apply pw_below_drewN | apply below_drew1 | refine below_set ?_ GE105.out) | exact HB.out)) hb); clear BK105; clear HB; have BK105 := n0_; have HB := n1_; clear n0_ n1_; (try clear hb); (try clear hb2); (try clear hk); (try clear hi)))
            go_roundg k3
            case measure => have := HJ4.out; have := HJ28.out; have := HK3.out; omega
            case rel => exact ⟨(wrap64 (x8_3 + 1)), (by first | rfl | (simp; done) | (simp [*]; done)), (by first | exact H' | (rw [hji35]; exact H')), ⟨by have := HJ4.out; have := HJ28.out; have := HK3.out; omega⟩, ⟨by (with_reducible repeat (first | refine blk_drewN ?_ _ | refine blk_drew ?_ | refine blk_alloc ?_ _)); exact BK105.out⟩, ⟨by repeat (first | (with_reducible first | exact HB.out | apply below_alloc | apply pw_below_drewN | apply below_drew1 | refine below_set ?_ GE105.out) | exact HB.out)⟩⟩
           ·rw [if_neg c46] at H
            exact absurd (hr_.symm.trans (Option.some.inj H).symm) (by decide)
          ·rw [if_neg c44] at H
           exact absurd H (by simp)
         ·rw [if_neg c43] at H
          have c43b0 : decide (x8_3 < (l2_1.length : Int)) = false := decide_eq_false c43
          clear c43
          have H' := Aside0.mk H
          clear H
          have hcz51_0 : wr.cell? ⟨gb105, 0, none⟩ = some (.int .i64 a2_0) := (blk_cell BK105.out 0).trans rfl
          have hcz51_1 : wr.cell? ⟨gb105, 1, none⟩ = some (.slice A2_1 l2_1.length c2_1) := (blk_cell BK105.out 1).trans rfl
          have hcz51_2 : wr.cell? ⟨gb105, 2, none⟩ = some (.slice A2_2 l2_2.length c2_2) := (blk_cell BK105.out 2).trans rfl
          have hfz51_0 := blk_frozen BK105.out 0
          have hfz51_1 := blk_frozen BK105.out 1
          have hfz51_2 := blk_frozen BK105.out 2
          go_wp2
          go_loopg [9] k3 (fun kq v9 w' => ∃ (x9_4 : Int), v9 = .int .i64 x9_4 ∧ Aside0 (customhouselaw03_SealForm.l1 kq a0 a1 t106 x9_4 a2_0 l2_1 l2_2 = some r) ∧ Aside0 (kq ≤ k3) ∧ Aside0 (w'.heap[gb105]? = some (.cells #[.int .i64 a2_0, (.slice A2_1 l2_1.length c2_1), (.slice A2_2 l2_2.length c2_2)] 53 (0, 0))) ∧ Aside0 (Below w.heap.size w w'))
          case atStart => exact ⟨(0), (by first | rfl | (simp; done) | (simp [*]; done)), H', ⟨Nat.le_refl _⟩, ⟨by (with_reducible repeat (first | refine blk_drewN ?_ _ | refine blk_drew ?_ | refine blk_alloc ?_ _)); exact BK105.out⟩, ⟨by repeat (first | (with_reducible first | exact HB.out | apply below_alloc | apply pw_below_drewN | apply below_drew1 | refine below_set ?_ GE105.out) | exact HB.out)⟩⟩
          case round =>
           clear H'
           try clear p1
           try clear q1
           try clear hx1
           try clear c2
           try clear p2
           try clear c3
           try clear c4
           try clear p6
           try clear p11
           try clear q11
           try clear hx11
           try clear c26
           try clear c30
           try clear c30b0
           try clear c30b1
           try clear c36
           try clear c36b0
           try clear c42
           try clear c43
           try clear c43b0
           try clear c44
           try clear c44b0
           try clear c46
           try clear hcz47_0
           try clear hcz47_1
           try clear hcz47_2
           try clear hcz49_0
           try clear hcz49_1
           try clear hcz49_2
           try clear hcz51_0
           try clear hcz51_1
           try clear hcz51_2
           try clear hfz47_0
           try clear hfz47_1
           try clear hfz47_2
           try clear hfz49_0
           try clear hfz49_1
           try clear hfz49_2
           try clear hfz51_0
           try clear hfz51_1
           try clear hfz51_2
           try clear hx114_0
           try clear p114
           try clear p2
           try clear q114
           obtain ⟨x9_4, rfl, HA, HK4, BK105, HB⟩ := hrel
           cases gk with
           | zero => exact absurd HA.out (by simp [customhouselaw03_SealForm.l1])
           | succ k4 =>
            have H := HA.out; clear HA
            simp only [customhouselaw03_SealForm.l1] at H
            by_cases c52 : x9_4 < (l2_2.length : Int)
            ·rw [if_pos c52] at H
             have c52b0 : decide (x9_4 < (l2_2.length : Int)) = true := decide_eq_true c52
             clear c52
             by_cases c53 : 0 ≤ x9_4
             ·rw [if_pos c53] at H
              have c53b0 : decide (0 ≤ x9_4) = true := decide_eq_true c53
              clear c53
              replace H := Option.bind_eq_some_iff.mp H
              obtain ⟨t117, A540, H⟩ := H
              replace H : (if t117 = true then (customhouselaw03_SealForm.l1 k4 a0 a1 t106 (wrap64 (x9_4 + 1)) a2_0 l2_1 l2_2) else (some false)) = some r := H
              have A54 := Aside0.mk A540
              clear A540
              by_cases c55 : t117 = true
              ·subst c55
               have H1 : (customhouselaw03_SealForm.l1 k4 a0 a1 t106 (wrap64 (x9_4 + 1)) a2_0 l2_1 l2_2) = some r := by rw [if_pos rfl] at H; exact H
               clear H; have H := H1; clear H1
               have H' := Aside0.mk H
               clear H
               have hcz56_0 : wr.cell? ⟨gb105, 0, none⟩ = some (.int .i64 a2_0) := (blk_cell BK105.out 0).trans rfl
               have hcz56_1 : wr.cell? ⟨gb105, 1, none⟩ = some (.slice A2_1 l2_1.length c2_1) := (blk_cell BK105.out 1).trans rfl
               have hcz56_2 : wr.cell? ⟨gb105, 2, none⟩ = some (.slice A2_2 l2_2.length c2_2) := (blk_cell BK105.out 2).trans rfl
               have hfz56_0 := blk_frozen BK105.out 0
               have hfz56_1 := blk_frozen BK105.out 1
               have hfz56_2 := blk_frozen BK105.out 2
               have p116 : 0 ≤ (x9_4 : Int) := of_decide_eq_true (by first | (with_reducible assumption) | assumption)
               have q116 : x9_4 < (l2_2.length : Int) := of_decide_eq_true (by first | (with_reducible assumption) | assumption)
               obtain ⟨ad116, e116, hx116_0⟩ := Kd.at_string HR2_2.out x9_4 p116 q116
               cases e116
               replace hx116_0 := (HB.out.cell (World.block_lt_of_cell? w _ hx116_0)).trans hx116_0
               replace p116 := eq_true p116
               replace q116 := eq_true q116
               go_wp2_with (first | ((with_reducible refine gate_callee (f := 26) rfl ?_); refine goesL_ (some 87) rfl rfl Tryd.func26 (by kernel_rfl) rfl #[.string (rdOf ByteArray.empty l2_2 x9_4)] rfl (by (try simp only [List.map_toArray, List.map_cons, List.map_nil]); first | done | rfl | (simp only [List.length_drop, List.length_take]; rfl)) ?_; (with_reducible refine (digest_Is.calls (rdOf ByteArray.empty l2_2 x9_4) true _ ?side1 A54.out).mono ?_); (case side1 => exact GL.below HG.out (by repeat (first | (with_reducible first | exact HB.out | apply below_alloc | apply pw_below_drewN | apply below_drew1 | refine below_set ?_ GE105.out) | exact HB.out))); rintro e w57 ⟨rfl, hb⟩; refine ⟨_, rfl, ?_⟩; have n0_ := Aside0.mk (blk_below (g := gb105) (o := .cells #[.int .i64 a2_0, .slice A2_1 l2_1.length c2_1, .slice (some ad116) l2_2.length c2_2] 53 (0, 0)) (by (with_reducible repeat (first | refine blk_drewN ?_ _ | refine blk_drew ?_ | refine blk_alloc ?_ _)); exact BK105.out) hb); have n1_ := Aside0.mk (below_step (by repeat (first | (with_reducible first | exact HB.out | apply below_alloc | apply pw_below_drewN | apply below_drew1 | refine below_set ?_ GE105.out) | exact HB.out)) hb); clear BK105; clear HB; have BK105 := n0_; have HB := n1_; clear n0_ n1_; (try clear hb); (try clear hb2); (try clear hk); (try clear hi)))
               go_roundg k4
               case measure => have := HJ4.out; have := HJ28.out; have := HK3.out; have := HK4.out; omega
               case rel => exact ⟨(wrap64 (x9_4 + 1)), (by first | rfl | (simp; done) | (simp [*]; done)), (by first | exact H' | (rw [hji35]; exact H')), ⟨by have := HJ4.out; have := HJ28.out; have := HK3.out; have := HK4.out; omega⟩, ⟨by (with_reducible repeat (first | refine blk_drewN ?_ _ | refine blk_drew ?_ | refine blk_alloc ?_ _)); exact BK105.out⟩, ⟨by repeat (first | (with_reducible first | exact HB.out | apply below_alloc | apply pw_below_drewN | apply below_drew1 | refine below_set ?_ GE105.out) | exact HB.out)⟩⟩
              ·rw [if_neg c55] at H
               exact absurd (hr_.symm.trans (Option.some.inj H).symm) (by decide)
             ·rw [if_neg c53] at H
              exact absurd H (by simp)
            ·rw [if_neg c52] at H
             have c52b0 : decide (x9_4 < (l2_2.length : Int)) = false := decide_eq_false c52
             clear c52
             by_cases c60 : 17 ≤ (l2_1.length : Int)
             ·rw [if_pos c60] at H
              obtain ⟨ji61, hji61⟩ : ∃ j_ : Int, (shl .i64 1 (l2_2.length : Int)) = j_ := ⟨_, rfl⟩
              rw [hji61] at H
              have hji61_ : (IntKind.i64.wrap (1 * 2 ^ min (l2_2.length : Int).toNat 64)) = ji61 := hji61
              have hji61z : (l2_2.length : Int) ≤ 64 → (IntKind.i64.wrap (1 * 2 ^ (l2_2.length : Int).toNat)) = ji61 := shl_small hji61
              have hji61p : (IntKind.i64.wrap (1 * 2 ^ min l2_2.length 64)) = ji61 := hji61_
              have hji61q : (l2_2.length : Int) ≤ 64 → (IntKind.i64.wrap (1 * 2 ^ l2_2.length)) = ji61 := hji61z
              have hji61r : (IntKind.i64.wrap (2 ^ min l2_2.length 64)) = ji61 := by have h_ := hji61p; rw [Int.one_mul] at h_; exact h_
              have hji61s : (l2_2.length : Int) ≤ 64 → (IntKind.i64.wrap (2 ^ l2_2.length)) = ji61 := fun hle_ => by have h_ := hji61q hle_; rw [Int.one_mul] at h_; exact h_
              have hji61u : (IntKind.i64.wrap (2 ^ min (l2_2.length : Int).toNat 64)) = ji61 := by have h_ := hji61_; rw [Int.one_mul] at h_; exact h_
              have hji61v : (l2_2.length : Int) ≤ 64 → (IntKind.i64.wrap (2 ^ (l2_2.length : Int).toNat)) = ji61 := fun hle_ => by have h_ := hji61z hle_; rw [Int.one_mul] at h_; exact h_
              have hji61y : (wrap64 (1 * 2 ^ min (l2_2.length : Int).toNat 64)) = ji61 := (i64_w _).symm.trans hji61_
              have hji61x : (l2_2.length : Int) ≤ 64 → (wrap64 (1 * 2 ^ (l2_2.length : Int).toNat)) = ji61 := fun h_ => (i64_w _).symm.trans (hji61z h_)
              by_cases c62 : t106 = true
              ·subst c62
               rw [if_pos rfl] at H
               replace H := Option.bind_eq_some_iff.mp H
               obtain ⟨t122, A630, H⟩ := H
               cases t122 with
               | true => rw [if_pos rfl] at H; exact absurd (hr_.symm.trans (Option.some.inj H).symm) (by decide)
               | false =>
                rw [if_neg (by decide)] at H
                replace H := Option.bind_eq_some_iff.mp H
                obtain ⟨t123, A640, H⟩ := H
                cases t123 with
                | true => rw [if_pos rfl] at H; exact absurd (hr_.symm.trans (Option.some.inj H).symm) (by decide)
                | false =>
                 rw [if_neg (by decide)] at H
                 replace H := Option.bind_eq_some_iff.mp H
                 obtain ⟨t124, A650, H⟩ := H
                 cases t124 with
                 | true => exact absurd (hr_.symm.trans (Option.some.inj H).symm) (by decide)
                 | false =>
                  subst hr_; clear H
                  have A63 := Aside0.mk A630
                  have A64 := Aside0.mk A640
                  have A65 := Aside0.mk A650
                  clear A630 A640 A650
                  have C60 := Aside0.mk c60
                  clear c60
                  have y0 : wr.cell? ⟨gb105, 0, none⟩ = some (.int .i64 a2_0) := (blk_cell BK105.out 0).trans rfl
                  have y1 : wr.cell? ⟨gb105, 1, none⟩ = some (.slice A2_1 l2_1.length c2_1) := (blk_cell BK105.out 1).trans rfl
                  have y2 : wr.cell? ⟨gb105, 2, none⟩ = some (.slice A2_2 l2_2.length c2_2) := (blk_cell BK105.out 2).trans rfl
                  have f0 := blk_frozen BK105.out 0
                  have f1 := blk_frozen BK105.out 1
                  have f2 := blk_frozen BK105.out 2
                  have X5 : gb105 < wr.heap.size := blk_lt BK105.out
                  have cA : (17 : Int) ≤ (c2_1 : Int) := by have := C60.out; have := HC2_1.out; omega
                  have cB : 17 ≤ c2_1 := by omega
                  go_upto_region 19 with (fail)
                  clear y0 y1 y2 f0 f1 f2 cA cB
                  obtain ⟨O10, hO10⟩ : ∃ o : Obj, o = (.cells #[.int .i64 a2_0, .slice A2_1 17 c2_1, .slice A2_2 l2_2.length c2_2] 53 (0, 0)) := ⟨_, rfl⟩
                  obtain ⟨O11, hO11⟩ : ∃ o : Obj, o = (.cells #[.int .i64 a2_0, .slice A2_1 l2_1.length c2_1, .slice A2_2 l2_2.length c2_2] 53 (0, 0)) := ⟨_, rfl⟩
                  rw [← hO10, ← hO11]
                  have X6 := Aside0.mk (below_alloc (below_alloc (Below.refl wr.heap.size wr) O10) O11)
                  have K10 := Aside0.mk (blk_below (blk_new wr O10) (below_alloc (Below.refl _ _) O11))
                  have K11 := Aside0.mk (blk_new (wr.alloc O10) O11)
                  have K5 := Aside0.mk (blk_below BK105.out X6.out)
                  have HB7 := Aside0.mk (below_step HB.out X6.out)
                  rw [World.size_alloc] at K11
                  have hge := below_size HB.out
                  generalize (wr.alloc O10).alloc O11 = w7 at K10 K11 K5 HB7 ⊢
                  clear BK105 HB X6
                  have n1 : gb105 ≠ wr.heap.size := by omega
                  have n2 : gb105 ≠ wr.heap.size + 1 := by omega
                  have n3 : wr.heap.size ≠ wr.heap.size + 1 := by omega
                  have n4 : w.heap.size ≤ wr.heap.size + 1 := by omega
                  clear X5 hge
                  generalize wr.heap.size + 1 = g11 at K11 n2 n3 n4 ⊢
                  generalize wr.heap.size = g10 at K10 n1 n3 ⊢
                  subst hO10 hO11
                  have y0 : w7.cell? ⟨gb105, 0, none⟩ = some (.int .i64 a2_0) := (blk_cell K5.out 0).trans rfl
                  have y1 : w7.cell? ⟨gb105, 1, none⟩ = some (.slice A2_1 l2_1.length c2_1) := (blk_cell K5.out 1).trans rfl
                  have y2 : w7.cell? ⟨gb105, 2, none⟩ = some (.slice A2_2 l2_2.length c2_2) := (blk_cell K5.out 2).trans rfl
                  have f0 := blk_frozen K5.out 0
                  have z0 : w7.cell? ⟨g11, 0, none⟩ = some (.int .i64 a2_0) := (blk_cell K11.out 0).trans rfl
                  have g0 := blk_frozen K11.out 0
                  have n2s := n2.symm
                  go_region
                  have L11 := Aside0.mk (blk_drew (blk_put (cs := #[.int .i64 a2_0, .slice A2_1 l2_1.length c2_1, .slice A2_2 l2_2.length c2_2]) K11.out 0 (.int .i64 (wrap64 (a2_0 + ji61))) rfl))
                  have L10 := Aside0.mk (blk_drew (blk_far (p := ⟨g11, 0, none⟩) K10.out n3 (.int .i64 (wrap64 (a2_0 + ji61)))))
                  have L5 := Aside0.mk (blk_drew (blk_far (p := ⟨g11, 0, none⟩) K5.out n2 (.int .i64 (wrap64 (a2_0 + ji61)))))
                  have HB8 := Aside0.mk (below_drew1 (below_set (j := 0) (v := .int .i64 (wrap64 (a2_0 + ji61))) HB7.out n4))
                  generalize (w7.setCell ⟨g11, 0, none⟩ (.int .i64 (wrap64 (a2_0 + ji61)))).drew = w8 at L11 L10 L5 HB8 ⊢
                  clear K10 K11 K5 HB7 y0 y1 y2 f0 z0 g0
                  have y0 : w8.cell? ⟨gb105, 0, none⟩ = some (.int .i64 a2_0) := (blk_cell L5.out 0).trans rfl
                  have y1 : w8.cell? ⟨gb105, 1, none⟩ = some (.slice A2_1 l2_1.length c2_1) := (blk_cell L5.out 1).trans rfl
                  have y2 : w8.cell? ⟨gb105, 2, none⟩ = some (.slice A2_2 l2_2.length c2_2) := (blk_cell L5.out 2).trans rfl
                  have f0 := blk_frozen L5.out 0
                  have f1 := blk_frozen L5.out 1
                  have f2 := blk_frozen L5.out 2
                  have X5 : gb105 < w8.heap.size := blk_lt L5.out
                  have X10 : g10 < w8.heap.size := blk_lt L10.out
                  have X11 : g11 < w8.heap.size := blk_lt L11.out
                  go_upto_region 21 with (fail)
                  clear y0 y1 y2 f0 f1 f2
                  obtain ⟨O12, hO12⟩ : ∃ o : Obj, o = (.cells #[.int .i64 a2_0, .slice A2_1 l2_1.length c2_1, .slice A2_2 l2_2.length c2_2] 53 (0, 0)) := ⟨_, rfl⟩
                  rw [← hO12]
                  have X6 := Aside0.mk (below_alloc (Below.refl w8.heap.size w8) O12)
                  have K12 := Aside0.mk (blk_new w8 O12)
                  have K5 := Aside0.mk (blk_below L5.out X6.out)
                  have K10 := Aside0.mk (blk_below L10.out X6.out)
                  have K11 := Aside0.mk (blk_below L11.out X6.out)
                  have HB9 := Aside0.mk (below_step HB8.out X6.out)
                  have hge := below_size HB8.out
                  generalize w8.alloc O12 = w9 at K12 K10 K11 K5 HB9 ⊢
                  clear L5 L10 L11 HB8 X6
                  have m1 : gb105 ≠ w8.heap.size := by omega
                  have m2 : g10 ≠ w8.heap.size := by omega
                  have m3 : g11 ≠ w8.heap.size := by omega
                  have m4 : w.heap.size ≤ w8.heap.size := hge
                  clear X5 X10 X11 hge
                  generalize w8.heap.size = g12 at K12 m1 m2 m3 m4 ⊢
                  subst hO12
                  have y0 : w9.cell? ⟨gb105, 0, none⟩ = some (.int .i64 a2_0) := (blk_cell K5.out 0).trans rfl
                  have y2 : w9.cell? ⟨gb105, 2, none⟩ = some (.slice A2_2 l2_2.length c2_2) := (blk_cell K5.out 2).trans rfl
                  have f0 := blk_frozen K5.out 0
                  have z0 : w9.cell? ⟨g12, 0, none⟩ = some (.int .i64 a2_0) := (blk_cell K12.out 0).trans rfl
                  have g0 := blk_frozen K12.out 0
                  have m1s := m1.symm
                  go_region
                  have L12 := Aside0.mk (blk_drew (blk_put (cs := #[.int .i64 a2_0, .slice A2_1 l2_1.length c2_1, .slice A2_2 l2_2.length c2_2]) K12.out 0 (.int .i64 (wrap64 (a2_0 - ji61))) rfl))
                  have L10 := Aside0.mk (blk_drew (blk_far (p := ⟨g12, 0, none⟩) K10.out m2 (.int .i64 (wrap64 (a2_0 - ji61)))))
                  have L11 := Aside0.mk (blk_drew (blk_far (p := ⟨g12, 0, none⟩) K11.out m3 (.int .i64 (wrap64 (a2_0 - ji61)))))
                  have HB8 := Aside0.mk (below_drew1 (below_set (j := 0) (v := .int .i64 (wrap64 (a2_0 - ji61))) HB9.out m4))
                  generalize (w9.setCell ⟨g12, 0, none⟩ (.int .i64 (wrap64 (a2_0 - ji61)))).drew = w10 at L12 L11 L10 HB8 ⊢
                  clear K10 K11 K5 K12 HB9 y0 y2 f0 z0 g0
                  have y0 : w10.cell? ⟨g10, 0, none⟩ = some (.int .i64 a2_0) := (blk_cell L10.out 0).trans rfl
                  have y1 : w10.cell? ⟨g10, 1, none⟩ = some (.slice A2_1 17 c2_1) := (blk_cell L10.out 1).trans rfl
                  have y2 : w10.cell? ⟨g10, 2, none⟩ = some (.slice A2_2 l2_2.length c2_2) := (blk_cell L10.out 2).trans rfl
                  have f0 := blk_frozen L10.out 0
                  have f1 := blk_frozen L10.out 1
                  have f2 := blk_frozen L10.out 2
                  go_wp2_with fail
                  have R1 := Kd.C_below HR2_1.out HB8.out
                  have R2 := Kd.C_below HR2_2.out HB8.out
                  have hl17 : (l2_1.take 17).length = 17 := by rw [List.length_take]; have := C60.out; omega
                  refine (verify_at a0 a1 a2_0 A2_1 c2_1 17 (l2_1.take 17) A2_2 c2_2 l2_2.length l2_2 false w10 (HG.out.below HB8.out) hl17 (Kd.C_take (m := 17) R1 (by have := C60.out; omega)) (by have := C60.out; have := HC2_1.out; omega) rfl R2 HC2_2.out A63.out).mono ?_
                  rintro e w11 ⟨rfl, hb⟩
                  have K11 := Aside0.mk (blk_below L11.out hb)
                  have K12 := Aside0.mk (blk_below L12.out hb)
                  have HB9 := Aside0.mk (below_step HB8.out hb)
                  clear L10 L11 L12 HB8 y0 y1 y2 f0 f1 f2 hb R1 R2
                  have y0 : w11.cell? ⟨g11, 0, none⟩ = some (.int .i64 (wrap64 (a2_0 + ji61))) := (blk_cell K11.out 0).trans rfl
                  have y1 : w11.cell? ⟨g11, 1, none⟩ = some (.slice A2_1 l2_1.length c2_1) := (blk_cell K11.out 1).trans rfl
                  have y2 : w11.cell? ⟨g11, 2, none⟩ = some (.slice A2_2 l2_2.length c2_2) := (blk_cell K11.out 2).trans rfl
                  have f0 := blk_frozen K11.out 0
                  have f1 := blk_frozen K11.out 1
                  have f2 := blk_frozen K11.out 2
                  go_wp2_with fail
                  refine (seal_Verify.calls a0 a1 (wrap64 (a2_0 + ji61)) A2_1 c2_1 l2_1 A2_2 c2_2 l2_2 false w11 (HG.out.below HB9.out) (Kd.C_below HR2_1.out HB9.out) HC2_1.out (Kd.C_below HR2_2.out HB9.out) HC2_2.out A64.out).mono ?_
                  rintro e w12 ⟨rfl, hb⟩
                  have L12 := Aside0.mk (blk_below K12.out hb)
                  have HB8 := Aside0.mk (below_step HB9.out hb)
                  clear K11 K12 HB9 y0 y1 y2 f0 f1 f2 hb
                  have y0 : w12.cell? ⟨g12, 0, none⟩ = some (.int .i64 (wrap64 (a2_0 - ji61))) := (blk_cell L12.out 0).trans rfl
                  have y1 : w12.cell? ⟨g12, 1, none⟩ = some (.slice A2_1 l2_1.length c2_1) := (blk_cell L12.out 1).trans rfl
                  have y2 : w12.cell? ⟨g12, 2, none⟩ = some (.slice A2_2 l2_2.length c2_2) := (blk_cell L12.out 2).trans rfl
                  have f0 := blk_frozen L12.out 0
                  have f1 := blk_frozen L12.out 1
                  have f2 := blk_frozen L12.out 2
                  go_wp2_with fail
                  refine (seal_Verify.calls a0 a1 (wrap64 (a2_0 - ji61)) A2_1 c2_1 l2_1 A2_2 c2_2 l2_2 false w12 (HG.out.below HB8.out) (Kd.C_below HR2_1.out HB8.out) HC2_1.out (Kd.C_below HR2_2.out HB8.out) HC2_2.out A65.out).mono ?_
                  rintro e w13 ⟨rfl, hb⟩
                  have HB9 := Aside0.mk (below_step HB8.out hb)
                  clear HB8 L12 y0 y1 y2 f0 f1 f2 hb
                  go_wp2_with fail
                  go_ret
                  exact ⟨rfl, HB9.out⟩
              ·rw [if_neg c62] at H
               exact absurd (hr_.symm.trans (Option.some.inj H).symm) (by decide)
             ·rw [if_neg c60] at H
              exact absurd H (by simp)
end Go.Proofs.YtdlipbfcadmhjaaDoor.PG3
