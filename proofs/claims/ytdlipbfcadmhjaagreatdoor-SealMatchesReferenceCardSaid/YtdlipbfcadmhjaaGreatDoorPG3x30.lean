/- Written by a program of this session's over the kit's print: the functions that a law comes to as plain Lean functions, and that Go's code computes them. Nothing is assumed. -/
import Derived.Test.YtdlipbfcadmhjaaGreatDoorPG3x0
import Derived.Test.YtdlipbfcadmhjaaGreatDoorPG3x9
import Derived.Test.YtdlipbfcadmhjaaGreatDoorPG3x16
import Derived.Test.YtdlipbfcadmhjaaGreatDoorPG3x17
import Derived.Test.YtdlipbfcadmhjaaGreatDoorPG3x24
import Derived.Test.YtdlipbfcadmhjaaGreatDoorPG3x25
import Derived.Test.YtdlipbfcadmhjaaGreatDoorPG3x27
namespace Go.Proofs.YtdlipbfcadmhjaaGreatDoor.PG3
open Go.RowKit Go.Proofs.YtdlipbfcadmhjaaGreatDoorW.PrintWords Go.Proofs.YtdlipbfcadmhjaaGreatDoorW.PrintLast Go.Proofs.YtdlipbfcadmhjaaGreatDoorW.PrintMore
attribute [local go_sem] max2_int min2_int max_two min_two max_three min_three max_four min_four
set_option linter.unusedVariables false
set_option linter.unusedSimpArgs false
mutual
def customhouseref03_Verify.j0 : Nat → ByteArray → ByteArray → Bool → Int → List ByteArray → List ByteArray → Option (Bool)
  | 0, _, _, _, _, _, _ => none
  | k + 1, x0, x1, x34, x502000, x502001, x502002 => if x34 = true then (some false) else ((customhouseref03_Digits.f k x1).bind fun t503 => (customhouseref03_Verify.l0 k x0 t503 ([] : List ByteArray) 0 x502000 x502001 x502002))
def customhouseref03_Verify.l0 : Nat → ByteArray → List Int → List ByteArray → Int → Int → List ByteArray → List ByteArray → Option (Bool)
  | 0, _, _, _, _, _, _, _ => none
  | k + 1, x0, x7, x8, x9, x502000, x502001, x502002 => if x9 < 18 then (if 0 ≤ x9 then (if x9 < (x502001.length : Int) then ((customhouseref01_Is.f k (rdOf ByteArray.empty x502001 x9)).bind fun t507 => (if t507 = true then (if x9 < (x7.length : Int) then ((customhouseref01_Chain.f k (rdOf ByteArray.empty x502001 x9) (wrap64 (15 - (rd x7 x9)))).bind fun t510 => (if x8.length < 8796093022208 then (customhouseref03_Verify.l0 k x0 x7 (x8 ++ [t510]) (wrap64 (x9 + 1)) x502000 x502001 x502002) else (none))) else (none)) else (some false))) else (none)) else (none)) else (customhouseref03_Verify.l1 k x0 x8 0 x502000 x502001 x502002)
def customhouseref03_Verify.l1 : Nat → ByteArray → List ByteArray → Int → Int → List ByteArray → List ByteArray → Option (Bool)
  | 0, _, _, _, _, _, _ => none
  | k + 1, x0, x8, x10, x502000, x502001, x502002 => if x10 < (x502002.length : Int) then (if 0 ≤ x10 then ((customhouseref01_Is.f k (rdOf ByteArray.empty x502002 x10)).bind fun t515 => (if t515 = true then (customhouseref03_Verify.l1 k x0 x8 (wrap64 (x10 + 1)) x502000 x502001 x502002) else (some false))) else (none)) else ((customhouseref03_Power.f k (x502002.length : Int)).bind fun t516 => ((customhouseref01_List.f k x8).bind fun t517 => ((customhouseref02_Check.f k x0 t516 x502000 t517 x502002).bind fun t518 => (some t518))))
end
def customhouseref03_Verify.f (k : Nat) (a0 : ByteArray) (a1 : ByteArray) (a2_0 : Int) (l2_1 : List ByteArray) (l2_2 : List ByteArray) : Option (Bool) := if (l2_1.length : Int) = 18 then (if (l2_2.length : Int) > 8 then (customhouseref03_Verify.j0 k a0 a1 true a2_0 l2_1 l2_2) else (if a2_0 < 0 then (customhouseref03_Verify.j0 k a0 a1 true a2_0 l2_1 l2_2) else ((customhouseref03_Power.f k (l2_2.length : Int)).bind fun t502 => (customhouseref03_Verify.j0 k a0 a1 (decide (a2_0 ≥ t502)) a2_0 l2_1 l2_2)))) else (customhouseref03_Verify.j0 k a0 a1 true a2_0 l2_1 l2_2)
def customhouseref03_Verify.T1 : Bool × List (List Nat × List Nat) := (true, [([], []), ([0], [0]), ([1], [1]), ([2], [2]), ([3], [3]), ([4], [4]), ([5, 4], [4, 5]), ([6, 4], [4, 6]), ([7, 4], [4, 7]), ([4, 8], [4, 8]), ([9, 4], [9]), ([10], [10]), ([11, 10], [10, 11]), ([12, 10], [10, 12]), ([10, 13], [10, 13]), ([14, 10], [14]), ([15], [15]), ([16, 15], [15, 16]), ([15], [15]), ([18, 15], [15, 18]), ([19, 15], [15, 19]), ([20, 15, 15], [15, 20]), ([17, 21, 15], [15, 17, 21]), ([15, 22], [15, 22])])
def customhouseref03_Verify.B1 : List Nat := [0, 1, 3, 7, 15, 31, 63, 127, 255, 511, 1023, 2047, 4095, 8191, 16383, 32767, 65535, 131071, 65535, 327679, 851967, 1900543, 4194303, 8388607]
theorem customhouseref03_Verify.tab1 : rtab .any (opsOf Tryz.f45 1) = customhouseref03_Verify.T1 := by kernel_rfl
theorem customhouseref03_Verify.bits1 : waitsOk customhouseref03_Verify.T1.2 customhouseref03_Verify.B1 = true := by kernel_rfl
def customhouseref03_Verify.T10 : Bool × List (List Nat × List Nat) := (true, [([], []), ([], []), ([1], [1]), ([], []), ([2, 3], [2, 3]), ([4], [4]), ([], []), ([], []), ([6, 7], [6, 7]), ([8], [8]), ([9], [9]), ([5, 10], [5, 10]), ([11], [11]), ([0, 12, 11], [0, 12]), ([13, 13, 0, 1, 2, 3, 4, 5, 6, 7, 8, 9, 10, 11, 12, 13], [0, 13])])
def customhouseref03_Verify.B10 : List Nat := [0, 0, 2, 0, 14, 30, 0, 0, 192, 448, 960, 2046, 4094, 8191, 16383]
theorem customhouseref03_Verify.tab10 : rtab .any (opsOf Tryz.f45 10) = customhouseref03_Verify.T10 := by kernel_rfl
theorem customhouseref03_Verify.bits10 : waitsOk customhouseref03_Verify.T10.2 customhouseref03_Verify.B10 = true := by kernel_rfl
def customhouseref03_Verify.T16 : Bool × List (List Nat × List Nat) := (true, [([], []), ([], []), ([1], [1]), ([2], [2]), ([3], [3]), ([], []), ([5], [5]), ([], []), ([7, 4], [7]), ([], []), ([9], [9]), ([0, 4, 6, 8, 10, 8], [0, 4, 6, 8, 10]), ([11, 11, 0, 1, 2, 3, 4, 5, 6, 7, 8, 9, 10, 11], [11])])
def customhouseref03_Verify.B16 : List Nat := [0, 0, 2, 6, 14, 0, 32, 0, 158, 0, 512, 2047, 4095]
theorem customhouseref03_Verify.tab16 : rtab .any (opsOf Tryz.f45 16) = customhouseref03_Verify.T16 := by kernel_rfl
theorem customhouseref03_Verify.bits16 : waitsOk customhouseref03_Verify.T16.2 customhouseref03_Verify.B16 = true := by kernel_rfl
set_option maxHeartbeats 8000000 in
set_option maxRecDepth 100000 in
theorem customhouseref03_Verify.calls (k : Nat) (a0 : ByteArray) (a1 : ByteArray) (a2_0 : Int) (A2_1 : Option Addr) (c2_1 : Nat) (l2_1 : List ByteArray) (A2_2 : Option Addr) (c2_2 : Nat) (l2_2 : List ByteArray) (r : Bool) (w : World) (hr2_1 : Kd.C Kd.string w A2_1 l2_1.length l2_1) (hc2_1 : l2_1.length ≤ c2_1) (hr2_2 : Kd.C Kd.string w A2_2 l2_2.length l2_2) (hc2_2 : l2_2.length ≤ c2_2) (h : customhouseref03_Verify.f k a0 a1 a2_0 l2_1 l2_2 = some r) :
    Calls Tryz.prog 45 #[.string a0, .string a1, .agg #[.int .i64 a2_0, .slice A2_1 l2_1.length c2_1, .slice A2_2 l2_2.length c2_2]] w fun e w' => e = .returned (.bool r) ∧ Below w.heap.size w w' := by
 have hu33 := Tryz.underlying33
 have HR2_1 := Aside0.mk hr2_1
 have HC2_1 := Aside0.mk hc2_1
 clear hr2_1 hc2_1
 have HR2_2 := Aside0.mk hr2_2
 have HC2_2 := Aside0.mk hc2_2
 clear hr2_2 hc2_2
 have HB := Aside0.mk (Below.refl w.heap.size w)
 have H : (if (l2_1.length : Int) = 18 then (if (l2_2.length : Int) > 8 then (customhouseref03_Verify.j0 k a0 a1 true a2_0 l2_1 l2_2) else (if a2_0 < 0 then (customhouseref03_Verify.j0 k a0 a1 true a2_0 l2_1 l2_2) else ((customhouseref03_Power.f k (l2_2.length : Int)).bind fun t502 => (customhouseref03_Verify.j0 k a0 a1 (decide (a2_0 ≥ t502)) a2_0 l2_1 l2_2)))) else (customhouseref03_Verify.j0 k a0 a1 true a2_0 l2_1 l2_2)) = some r := h
 clear h
 have HC4 := Aside0.mk H
 clear H
 go_enter Tryz.func45, Tryz.ntmps45
 go_upto_region 1 with (first | ((with_reducible refine gate_dst (N := 5) rfl ?_); (try (refine gate_guard (by rfl) ?_; dsimp only)); refine box_event ?hg (N := 5) ?hd (cs := #[.int .i64 a2_0, .slice A2_1 l2_1.length c2_1, .slice A2_2 l2_2.length c2_2]) (t := 33) ?hr ?_; (case hd => rfl); (case hg => rfl); (case hr => first | (go_simp; done) | (go_simp; rfl)); intro gb501 hg w5 hbox hb; have n0_ := Aside0.mk (below_step (by repeat (first | (with_reducible first | exact HB.out | apply below_alloc | apply pw_below_drewN | apply below_drew1) | exact HB.out)) hb); have n1_ := Aside0.mk (hbox); have n2_ := Aside0.mk ((by rw [hg]; exact (below_size (by repeat (first | (with_reducible first | exact HB.out | apply below_alloc | apply pw_below_drewN | apply below_drew1) | exact HB.out))) : w.heap.size ≤ gb501)); have n3_ := Aside0.mk ((by rw [hg]; exact (below_size (by repeat (first | (with_reducible first | exact HB.out | apply below_alloc | apply pw_below_drewN | apply below_drew1) | exact HB.out))) : w.heap.size ≤ gb501)); clear HB; have HB := n0_; have BK501 := n1_; have GW501 := n2_; have GE501 := n3_; clear n0_ n1_ n2_ n3_; clear hb hbox hg))
 (try simp only [Act.put, List.setIfInBounds_toArray, List.set_cons_zero, List.set_cons_succ])
 go_cut [34] (fun v34 wc => ∃ (kq : Nat) (x34_3 : Bool), v34 = .bool x34_3 ∧ Aside0 (customhouseref03_Verify.j0 kq a0 a1 x34_3 a2_0 l2_1 l2_2 = some r) ∧ Aside0 (kq ≤ k) ∧ Aside0 (wc.heap[gb501]? = some (.cells #[.int .i64 a2_0, (.slice A2_1 l2_1.length c2_1), (.slice A2_2 l2_2.length c2_2)] 33 (0, 0))) ∧ Aside0 (Below w.heap.size w wc))
 case first =>
  have H := HC4.out; clear HC4
  by_cases c6 : (l2_1.length : Int) = 18
  ·rw [if_pos c6] at H
   have c6b0 : ((l2_1.length : Int) == 18) = true := beq_iff_eq.mpr c6
   have c6b1 : ((l2_1.length : Int) != 18) = false := bne_eq_false_iff_eq.mpr c6
   clear c6
   (first | rw [c6b0] | (simp only [i64_w, i32_w]; rw [c6b0]) | skip)
   by_cases c7 : (l2_2.length : Int) > 8
   ·rw [if_pos c7] at H
    have c7b0 : decide (8 < (l2_2.length : Int)) = true := decide_eq_true c7
    have c7b1 : decide (8 < l2_2.length) = true := decide_eq_true (by omega)
    clear c7
    have H' := Aside0.mk H
    clear H
    try go_wp2
    have n0_ := Aside0.mk (blk_drew BK501.out)
    have n1_ := Aside0.mk (below_drew1 HB.out)
    clear BK501; clear HB; have BK501 := n0_; have HB := n1_; clear n0_ n1_
    refine start_ (n := 24) (S := fun w' => w'.cell? ⟨gb501, 0, none⟩ = some (.int .i64 a2_0) ∧ w'.cell? ⟨gb501, 1, none⟩ = some (.slice A2_1 l2_1.length c2_1) ∧ w'.cell? ⟨gb501, 2, none⟩ = some (.slice A2_2 l2_2.length c2_2)) (ds := []) (fT 0 24) (by kernel_rfl) rfl rfl ⟨(blk_cell BK501.out 0).trans rfl, (blk_cell BK501.out 1).trans rfl, (blk_cell BK501.out 2).trans rfl⟩ (fun hHeld => ?_); refine with_tabW customhouseref03_Verify.tab1 customhouseref03_Verify.bits1 (fun HT_ HW_ => ?_)
    generalize w5.drew = w8 at BK501 HB hHeld ⊢
    refine pure_ (i := 0) (N := some 11) (v := ?_) (a' := ?_) (fT 1 24) rfl rfl (any_of HT_.out (by kernel_rfl)) (fun _ _ _ h => h) (Or.inl ⟨by rfl, ?_⟩) ?_ ?_
    rotate_left
    ·intro w'; go_simp; with_reducible rfl
    rotate_left
    ·simp only [Act.put, sq1, sq2, sq3, i64_w, i32_w]; rfl
    refine take_ (i := 1) (N := some 12) (v := ?_) (a' := ?_) (fT 2 24) rfl rfl (take_ofW HT_.out HW_.out (by kernel_rfl)) (fun _ _ _ h => h) (Or.inl ⟨by rfl, ?_⟩) hHeld ?_ ?_
    rotate_left
    ·rintro w' ⟨s0, s1, s2⟩; go_simp; with_reducible rfl
    rotate_left
    ·simp only [Act.put, sq1, sq2, sq3, i64_w, i32_w]; rfl
    refine pure_ (i := 2) (N := some 13) (v := ?_) (a' := ?_) (fT 3 24) rfl rfl (any_of HT_.out (by kernel_rfl)) (fun _ _ _ h => h) (Or.inl ⟨by rfl, ?_⟩) ?_ ?_
    rotate_left
    ·intro w'; go_simp; with_reducible rfl
    rotate_left
    ·simp only [Act.put, sq1, sq2, sq3, i64_w, i32_w]; rfl
    refine pure_ (i := 3) (N := some 14) (v := ?_) (a' := ?_) (fT 4 24) rfl rfl (any_of HT_.out (by kernel_rfl)) (fun _ _ _ h => h) (Or.inl ⟨by rfl, ?_⟩) ?_ ?_
    rotate_left
    ·intro w'; go_simp; with_reducible rfl
    rotate_left
    ·simp only [Act.put, sq1, sq2, sq3, i64_w, i32_w]; rfl
    refine pure_ (i := 4) (N := some 15) (v := ?_) (a' := ?_) (fT 5 24) rfl rfl (any_of HT_.out (by kernel_rfl)) (fun _ _ _ h => h) (Or.inl ⟨by rfl, ?_⟩) ?_ ?_
    rotate_left
    ·intro w'; go_simp; with_reducible rfl
    rotate_left
    ·simp only [Act.put, sq1, sq2, sq3, i64_w, i32_w]; rfl
    refine pure_ (i := 5) (N := some 16) (v := ?_) (a' := ?_) (fT 6 24) rfl rfl (any_of HT_.out (by kernel_rfl)) (fun _ _ _ h => h) (Or.inl ⟨by rfl, ?_⟩) ?_ ?_
    rotate_left
    ·intro w'; go_simp; with_reducible rfl
    rotate_left
    ·simp only [Act.put, sq1, sq2, sq3, i64_w, i32_w]; rfl
    refine take_ (i := 6) (N := some 17) (v := ?_) (a' := ?_) (fT 7 24) rfl rfl (take_ofW HT_.out HW_.out (by kernel_rfl)) (fun _ _ _ h => h) (Or.inl ⟨by rfl, ?_⟩) hHeld ?_ ?_
    rotate_left
    ·rintro w' ⟨s0, s1, s2⟩; go_simp; with_reducible rfl
    rotate_left
    ·simp only [Act.put, sq1, sq2, sq3, i64_w, i32_w]; rfl
    refine pure_ (i := 7) (N := some 18) (v := ?_) (a' := ?_) (fT 8 24) rfl rfl (any_of HT_.out (by kernel_rfl)) (fun _ _ _ h => h) (Or.inl ⟨by rfl, ?_⟩) ?_ ?_
    rotate_left
    ·intro w'; go_simp; with_reducible rfl
    rotate_left
    ·simp only [Act.put, sq1, sq2, sq3, i64_w, i32_w]; rfl
    refine pure_ (i := 8) (N := some 19) (v := ?_) (a' := ?_) (fT 9 24) rfl rfl (any_of HT_.out (by kernel_rfl)) (fun _ _ _ h => h) (Or.inl ⟨by rfl, ?_⟩) ?_ ?_
    rotate_left
    ·intro w'; go_simp; with_reducible rfl
    rotate_left
    ·simp only [Act.put, sq1, sq2, sq3, i64_w, i32_w]; rfl
    refine pure_ (i := 9) (N := some 20) (v := ?_) (a' := ?_) (fT 10 24) rfl rfl (any_of HT_.out (by kernel_rfl)) (fun _ _ _ h => h) (Or.inl ⟨by rfl, ?_⟩) ?_ ?_
    rotate_left
    ·intro w'; go_simp; with_reducible rfl
    rotate_left
    ·simp only [Act.put, sq1, sq2, sq3, i64_w, i32_w]; rfl
    refine pure_ (i := 10) (N := some 21) (v := ?_) (a' := ?_) (fT 11 24) rfl rfl (any_of HT_.out (by kernel_rfl)) (fun _ _ _ h => h) (Or.inl ⟨by rfl, ?_⟩) ?_ ?_
    rotate_left
    ·intro w'; go_simp; with_reducible rfl
    rotate_left
    ·simp only [Act.put, sq1, sq2, sq3, i64_w, i32_w]; rfl
    refine pure_ (i := 11) (N := some 22) (v := undef) (a' := ?_) (fT 12 24) rfl rfl (any_of HT_.out (by kernel_rfl)) (fun _ _ _ h => h) (Or.inr ⟨by rfl, rfl⟩) ?_ ?_
    rotate_left
    ·simp only [Act.put, sq1, sq2, sq3, i64_w, i32_w]; rfl
    refine pure_ (i := 12) (N := some 23) (v := undef) (a' := ?_) (fT 13 24) rfl rfl (any_of HT_.out (by kernel_rfl)) (fun _ _ _ h => h) (Or.inr ⟨by rfl, rfl⟩) ?_ ?_
    rotate_left
    ·simp only [Act.put, sq1, sq2, sq3, i64_w, i32_w]; rfl
    refine pure_ (i := 13) (N := some 24) (v := undef) (a' := ?_) (fT 14 24) rfl rfl (any_of HT_.out (by kernel_rfl)) (fun _ _ _ h => h) (Or.inr ⟨by rfl, rfl⟩) ?_ ?_
    rotate_left
    ·simp only [Act.put, sq1, sq2, sq3, i64_w, i32_w]; rfl
    refine pure_ (i := 14) (N := some 25) (v := ?_) (a' := ?_) (fT 15 24) rfl rfl (any_of HT_.out (by kernel_rfl)) (fun _ _ _ h => h) (Or.inl ⟨by rfl, ?_⟩) ?_ ?_
    rotate_left
    ·intro w'; go_simp; with_reducible rfl
    rotate_left
    ·simp only [Act.put, sq1, sq2, sq3, i64_w, i32_w]; rfl
    refine pure_ (i := 15) (N := some 26) (v := ?_) (a' := ?_) (fT 16 24) rfl rfl (any_of HT_.out (by kernel_rfl)) (fun _ _ _ h => h) (Or.inl ⟨by rfl, ?_⟩) ?_ ?_
    rotate_left
    ·intro w'; go_simp; with_reducible rfl
    rotate_left
    ·simp only [Act.put, sq1, sq2, sq3, i64_w, i32_w]; rfl
    refine pure_ (i := 16) (N := some 27) (v := undef) (a' := ?_) (fT 17 24) rfl rfl (any_of HT_.out (by kernel_rfl)) (fun _ _ _ h => h) (Or.inr ⟨by rfl, rfl⟩) ?_ ?_
    rotate_left
    ·simp only [Act.put, sq1, sq2, sq3, i64_w, i32_w]; rfl
    refine pure_ (i := 17) (N := some 28) (v := undef) (a' := ?_) (fT 18 24) rfl rfl (any_of HT_.out (by kernel_rfl)) (fun _ _ _ h => h) (Or.inr ⟨by rfl, rfl⟩) ?_ ?_
    rotate_left
    ·simp only [Act.put, sq1, sq2, sq3, i64_w, i32_w]; rfl
    refine pure_ (i := 18) (N := some 29) (v := undef) (a' := ?_) (fT 19 24) rfl rfl (any_of HT_.out (by kernel_rfl)) (fun _ _ _ h => h) (Or.inr ⟨by rfl, rfl⟩) ?_ ?_
    rotate_left
    ·simp only [Act.put, sq1, sq2, sq3, i64_w, i32_w]; rfl
    refine pure_ (i := 19) (N := some 30) (v := undef) (a' := ?_) (fT 20 24) rfl rfl (any_of HT_.out (by kernel_rfl)) (fun _ _ _ h => h) (Or.inr ⟨by rfl, rfl⟩) ?_ ?_
    rotate_left
    ·simp only [Act.put, sq1, sq2, sq3, i64_w, i32_w]; rfl
    refine pure_ (i := 20) (N := some 31) (v := undef) (a' := ?_) (fT 21 24) rfl rfl (any_of HT_.out (by kernel_rfl)) (fun _ _ _ h => h) (Or.inr ⟨by rfl, rfl⟩) ?_ ?_
    rotate_left
    ·simp only [Act.put, sq1, sq2, sq3, i64_w, i32_w]; rfl
    refine pure_ (i := 21) (N := some 32) (v := undef) (a' := ?_) (fT 22 24) rfl rfl (any_of HT_.out (by kernel_rfl)) (fun _ _ _ h => h) (Or.inr ⟨by rfl, rfl⟩) ?_ ?_
    rotate_left
    ·simp only [Act.put, sq1, sq2, sq3, i64_w, i32_w]; rfl
    refine pure_ (i := 22) (N := some 33) (v := undef) (a' := ?_) (fT 23 24) rfl rfl (any_of HT_.out (by kernel_rfl)) (fun _ _ _ h => h) (Or.inr ⟨by rfl, rfl⟩) ?_ ?_
    rotate_left
    ·simp only [Act.put, sq1, sq2, sq3, i64_w, i32_w]; rfl
    refine pure_ (i := 23) (N := some 34) (v := ?_) (a' := ?_) (fT 24 24) rfl rfl (any_of HT_.out (by kernel_rfl)) (fun _ _ _ h => h) (Or.inl ⟨by rfl, ?_⟩) ?_ ?_
    rotate_left
    ·intro w'; go_simp; with_reducible rfl
    rotate_left
    ·simp only [Act.put, sq1, sq2, sq3, i64_w, i32_w]; rfl
    refine done_ (done_of HT_.out (by kernel_rfl)) ?_
    try go_wp2
    go_meet
    case rel => exact ⟨_, (true), (by first | rfl | (simp; done) | (simp [*]; done)), H', ⟨by first | omega | exact Nat.le_refl _⟩, ⟨by (with_reducible repeat (first | refine blk_drewN ?_ _ | refine blk_drew ?_ | refine blk_alloc ?_ _)); exact BK501.out⟩, ⟨by repeat (first | (with_reducible first | exact HB.out | apply below_alloc | apply pw_below_drewN | apply below_drew1 | refine below_set ?_ GE501.out) | exact HB.out)⟩⟩
   ·rw [if_neg c7] at H
    have c7b0 : decide (8 < (l2_2.length : Int)) = false := decide_eq_false c7
    have c7b1 : decide (8 < l2_2.length) = false := decide_eq_false (by omega)
    clear c7
    by_cases c9 : a2_0 < 0
    ·rw [if_pos c9] at H
     have c9b0 : decide (a2_0 < 0) = true := decide_eq_true c9
     clear c9
     have H' := Aside0.mk H
     clear H
     try go_wp2
     have n0_ := Aside0.mk (blk_drew BK501.out)
     have n1_ := Aside0.mk (below_drew1 HB.out)
     clear BK501; clear HB; have BK501 := n0_; have HB := n1_; clear n0_ n1_
     refine start_ (n := 24) (S := fun w' => w'.cell? ⟨gb501, 0, none⟩ = some (.int .i64 a2_0) ∧ w'.cell? ⟨gb501, 1, none⟩ = some (.slice A2_1 l2_1.length c2_1) ∧ w'.cell? ⟨gb501, 2, none⟩ = some (.slice A2_2 l2_2.length c2_2)) (ds := []) (fT 0 24) (by kernel_rfl) rfl rfl ⟨(blk_cell BK501.out 0).trans rfl, (blk_cell BK501.out 1).trans rfl, (blk_cell BK501.out 2).trans rfl⟩ (fun hHeld => ?_); refine with_tabW customhouseref03_Verify.tab1 customhouseref03_Verify.bits1 (fun HT_ HW_ => ?_)
     generalize w5.drew = w10 at BK501 HB hHeld ⊢
     refine pure_ (i := 0) (N := some 11) (v := ?_) (a' := ?_) (fT 1 24) rfl rfl (any_of HT_.out (by kernel_rfl)) (fun _ _ _ h => h) (Or.inl ⟨by rfl, ?_⟩) ?_ ?_
     rotate_left
     ·intro w'; go_simp; with_reducible rfl
     rotate_left
     ·simp only [Act.put, sq1, sq2, sq3, i64_w, i32_w]; rfl
     refine take_ (i := 1) (N := some 12) (v := ?_) (a' := ?_) (fT 2 24) rfl rfl (take_ofW HT_.out HW_.out (by kernel_rfl)) (fun _ _ _ h => h) (Or.inl ⟨by rfl, ?_⟩) hHeld ?_ ?_
     rotate_left
     ·rintro w' ⟨s0, s1, s2⟩; go_simp; with_reducible rfl
     rotate_left
     ·simp only [Act.put, sq1, sq2, sq3, i64_w, i32_w]; rfl
     refine pure_ (i := 2) (N := some 13) (v := ?_) (a' := ?_) (fT 3 24) rfl rfl (any_of HT_.out (by kernel_rfl)) (fun _ _ _ h => h) (Or.inl ⟨by rfl, ?_⟩) ?_ ?_
     rotate_left
     ·intro w'; go_simp; with_reducible rfl
     rotate_left
     ·simp only [Act.put, sq1, sq2, sq3, i64_w, i32_w]; rfl
     refine pure_ (i := 3) (N := some 14) (v := ?_) (a' := ?_) (fT 4 24) rfl rfl (any_of HT_.out (by kernel_rfl)) (fun _ _ _ h => h) (Or.inl ⟨by rfl, ?_⟩) ?_ ?_
     rotate_left
     ·intro w'; go_simp; with_reducible rfl
     rotate_left
     ·simp only [Act.put, sq1, sq2, sq3, i64_w, i32_w]; rfl
     refine pure_ (i := 4) (N := some 15) (v := ?_) (a' := ?_) (fT 5 24) rfl rfl (any_of HT_.out (by kernel_rfl)) (fun _ _ _ h => h) (Or.inl ⟨by rfl, ?_⟩) ?_ ?_
     rotate_left
     ·intro w'; go_simp; with_reducible rfl
     rotate_left
     ·simp only [Act.put, sq1, sq2, sq3, i64_w, i32_w]; rfl
     refine pure_ (i := 5) (N := some 16) (v := ?_) (a' := ?_) (fT 6 24) rfl rfl (any_of HT_.out (by kernel_rfl)) (fun _ _ _ h => h) (Or.inl ⟨by rfl, ?_⟩) ?_ ?_
     rotate_left
     ·intro w'; go_simp; with_reducible rfl
     rotate_left
     ·simp only [Act.put, sq1, sq2, sq3, i64_w, i32_w]; rfl
     refine take_ (i := 6) (N := some 17) (v := ?_) (a' := ?_) (fT 7 24) rfl rfl (take_ofW HT_.out HW_.out (by kernel_rfl)) (fun _ _ _ h => h) (Or.inl ⟨by rfl, ?_⟩) hHeld ?_ ?_
     rotate_left
     ·rintro w' ⟨s0, s1, s2⟩; go_simp; with_reducible rfl
     rotate_left
     ·simp only [Act.put, sq1, sq2, sq3, i64_w, i32_w]; rfl
     refine pure_ (i := 7) (N := some 18) (v := ?_) (a' := ?_) (fT 8 24) rfl rfl (any_of HT_.out (by kernel_rfl)) (fun _ _ _ h => h) (Or.inl ⟨by rfl, ?_⟩) ?_ ?_
     rotate_left
     ·intro w'; go_simp; with_reducible rfl
     rotate_left
     ·simp only [Act.put, sq1, sq2, sq3, i64_w, i32_w]; rfl
     refine pure_ (i := 8) (N := some 19) (v := ?_) (a' := ?_) (fT 9 24) rfl rfl (any_of HT_.out (by kernel_rfl)) (fun _ _ _ h => h) (Or.inl ⟨by rfl, ?_⟩) ?_ ?_
     rotate_left
     ·intro w'; go_simp; with_reducible rfl
     rotate_left
     ·simp only [Act.put, sq1, sq2, sq3, i64_w, i32_w]; rfl
     refine pure_ (i := 9) (N := some 20) (v := ?_) (a' := ?_) (fT 10 24) rfl rfl (any_of HT_.out (by kernel_rfl)) (fun _ _ _ h => h) (Or.inl ⟨by rfl, ?_⟩) ?_ ?_
     rotate_left
     ·intro w'; go_simp; with_reducible rfl
     rotate_left
     ·simp only [Act.put, sq1, sq2, sq3, i64_w, i32_w]; rfl
     refine pure_ (i := 10) (N := some 21) (v := ?_) (a' := ?_) (fT 11 24) rfl rfl (any_of HT_.out (by kernel_rfl)) (fun _ _ _ h => h) (Or.inl ⟨by rfl, ?_⟩) ?_ ?_
     rotate_left
     ·intro w'; go_simp; with_reducible rfl
     rotate_left
     ·simp only [Act.put, sq1, sq2, sq3, i64_w, i32_w]; rfl
     refine pure_ (i := 11) (N := some 22) (v := ?_) (a' := ?_) (fT 12 24) rfl rfl (any_of HT_.out (by kernel_rfl)) (fun _ _ _ h => h) (Or.inl ⟨by rfl, ?_⟩) ?_ ?_
     rotate_left
     ·intro w'; go_simp; with_reducible rfl
     rotate_left
     ·simp only [Act.put, sq1, sq2, sq3, i64_w, i32_w]; rfl
     refine take_ (i := 12) (N := some 23) (v := ?_) (a' := ?_) (fT 13 24) rfl rfl (take_ofW HT_.out HW_.out (by kernel_rfl)) (fun _ _ _ h => h) (Or.inl ⟨by rfl, ?_⟩) hHeld ?_ ?_
     rotate_left
     ·rintro w' ⟨s0, s1, s2⟩; go_simp; with_reducible rfl
     rotate_left
     ·simp only [Act.put, sq1, sq2, sq3, i64_w, i32_w]; rfl
     refine pure_ (i := 13) (N := some 24) (v := ?_) (a' := ?_) (fT 14 24) rfl rfl (any_of HT_.out (by kernel_rfl)) (fun _ _ _ h => h) (Or.inl ⟨by rfl, ?_⟩) ?_ ?_
     rotate_left
     ·intro w'; go_simp; with_reducible rfl
     rotate_left
     ·simp only [Act.put, sq1, sq2, sq3, i64_w, i32_w]; rfl
     refine pure_ (i := 14) (N := some 25) (v := ?_) (a' := ?_) (fT 15 24) rfl rfl (any_of HT_.out (by kernel_rfl)) (fun _ _ _ h => h) (Or.inl ⟨by rfl, ?_⟩) ?_ ?_
     rotate_left
     ·intro w'; go_simp; with_reducible rfl
     rotate_left
     ·simp only [Act.put, sq1, sq2, sq3, i64_w, i32_w]; rfl
     refine pure_ (i := 15) (N := some 26) (v := ?_) (a' := ?_) (fT 16 24) rfl rfl (any_of HT_.out (by kernel_rfl)) (fun _ _ _ h => h) (Or.inl ⟨by rfl, ?_⟩) ?_ ?_
     rotate_left
     ·intro w'; go_simp; with_reducible rfl
     rotate_left
     ·simp only [Act.put, sq1, sq2, sq3, i64_w, i32_w]; rfl
     refine pure_ (i := 16) (N := some 27) (v := undef) (a' := ?_) (fT 17 24) rfl rfl (any_of HT_.out (by kernel_rfl)) (fun _ _ _ h => h) (Or.inr ⟨by rfl, rfl⟩) ?_ ?_
     rotate_left
     ·simp only [Act.put, sq1, sq2, sq3, i64_w, i32_w]; rfl
     refine pure_ (i := 17) (N := some 28) (v := undef) (a' := ?_) (fT 18 24) rfl rfl (any_of HT_.out (by kernel_rfl)) (fun _ _ _ h => h) (Or.inr ⟨by rfl, rfl⟩) ?_ ?_
     rotate_left
     ·simp only [Act.put, sq1, sq2, sq3, i64_w, i32_w]; rfl
     refine pure_ (i := 18) (N := some 29) (v := undef) (a' := ?_) (fT 19 24) rfl rfl (any_of HT_.out (by kernel_rfl)) (fun _ _ _ h => h) (Or.inr ⟨by rfl, rfl⟩) ?_ ?_
     rotate_left
     ·simp only [Act.put, sq1, sq2, sq3, i64_w, i32_w]; rfl
     refine pure_ (i := 19) (N := some 30) (v := undef) (a' := ?_) (fT 20 24) rfl rfl (any_of HT_.out (by kernel_rfl)) (fun _ _ _ h => h) (Or.inr ⟨by rfl, rfl⟩) ?_ ?_
     rotate_left
     ·simp only [Act.put, sq1, sq2, sq3, i64_w, i32_w]; rfl
     refine pure_ (i := 20) (N := some 31) (v := undef) (a' := ?_) (fT 21 24) rfl rfl (any_of HT_.out (by kernel_rfl)) (fun _ _ _ h => h) (Or.inr ⟨by rfl, rfl⟩) ?_ ?_
     rotate_left
     ·simp only [Act.put, sq1, sq2, sq3, i64_w, i32_w]; rfl
     refine pure_ (i := 21) (N := some 32) (v := undef) (a' := ?_) (fT 22 24) rfl rfl (any_of HT_.out (by kernel_rfl)) (fun _ _ _ h => h) (Or.inr ⟨by rfl, rfl⟩) ?_ ?_
     rotate_left
     ·simp only [Act.put, sq1, sq2, sq3, i64_w, i32_w]; rfl
     refine pure_ (i := 22) (N := some 33) (v := undef) (a' := ?_) (fT 23 24) rfl rfl (any_of HT_.out (by kernel_rfl)) (fun _ _ _ h => h) (Or.inr ⟨by rfl, rfl⟩) ?_ ?_
     rotate_left
     ·simp only [Act.put, sq1, sq2, sq3, i64_w, i32_w]; rfl
     refine pure_ (i := 23) (N := some 34) (v := ?_) (a' := ?_) (fT 24 24) rfl rfl (any_of HT_.out (by kernel_rfl)) (fun _ _ _ h => h) (Or.inl ⟨by rfl, ?_⟩) ?_ ?_
     rotate_left
     ·intro w'; go_simp; with_reducible rfl
     rotate_left
     ·simp only [Act.put, sq1, sq2, sq3, i64_w, i32_w]; rfl
     refine done_ (done_of HT_.out (by kernel_rfl)) ?_
     try go_wp2
     go_meet
     case rel => exact ⟨_, (true), (by first | rfl | (simp; done) | (simp [*]; done)), H', ⟨by first | omega | exact Nat.le_refl _⟩, ⟨by (with_reducible repeat (first | refine blk_drewN ?_ _ | refine blk_drew ?_ | refine blk_alloc ?_ _)); exact BK501.out⟩, ⟨by repeat (first | (with_reducible first | exact HB.out | apply below_alloc | apply pw_below_drewN | apply below_drew1 | refine below_set ?_ GE501.out) | exact HB.out)⟩⟩
    ·rw [if_neg c9] at H
     have c9b0 : decide (a2_0 < 0) = false := decide_eq_false c9
     clear c9
     replace H := Option.bind_eq_some_iff.mp H
     obtain ⟨t502, A110, H⟩ := H
     replace H : (customhouseref03_Verify.j0 k a0 a1 (decide (a2_0 ≥ t502)) a2_0 l2_1 l2_2) = some r := H
     have A11 := Aside0.mk A110
     clear A110
     have H' := Aside0.mk H
     clear H
     try go_wp2
     have n0_ := Aside0.mk (blk_drew BK501.out)
     have n1_ := Aside0.mk (below_drew1 HB.out)
     clear BK501; clear HB; have BK501 := n0_; have HB := n1_; clear n0_ n1_
     refine start_ (n := 24) (S := fun w' => w'.cell? ⟨gb501, 0, none⟩ = some (.int .i64 a2_0) ∧ w'.cell? ⟨gb501, 1, none⟩ = some (.slice A2_1 l2_1.length c2_1) ∧ w'.cell? ⟨gb501, 2, none⟩ = some (.slice A2_2 l2_2.length c2_2)) (ds := []) (fT 0 24) (by kernel_rfl) rfl rfl ⟨(blk_cell BK501.out 0).trans rfl, (blk_cell BK501.out 1).trans rfl, (blk_cell BK501.out 2).trans rfl⟩ (fun hHeld => ?_); refine with_tabW customhouseref03_Verify.tab1 customhouseref03_Verify.bits1 (fun HT_ HW_ => ?_)
     generalize w5.drew = w12 at BK501 HB hHeld ⊢
     refine pure_ (i := 0) (N := some 11) (v := ?_) (a' := ?_) (fT 1 24) rfl rfl (any_of HT_.out (by kernel_rfl)) (fun _ _ _ h => h) (Or.inl ⟨by rfl, ?_⟩) ?_ ?_
     rotate_left
     ·intro w'; go_simp; with_reducible rfl
     rotate_left
     ·simp only [Act.put, sq1, sq2, sq3, i64_w, i32_w]; rfl
     refine take_ (i := 1) (N := some 12) (v := ?_) (a' := ?_) (fT 2 24) rfl rfl (take_ofW HT_.out HW_.out (by kernel_rfl)) (fun _ _ _ h => h) (Or.inl ⟨by rfl, ?_⟩) hHeld ?_ ?_
     rotate_left
     ·rintro w' ⟨s0, s1, s2⟩; go_simp; with_reducible rfl
     rotate_left
     ·simp only [Act.put, sq1, sq2, sq3, i64_w, i32_w]; rfl
     refine pure_ (i := 2) (N := some 13) (v := ?_) (a' := ?_) (fT 3 24) rfl rfl (any_of HT_.out (by kernel_rfl)) (fun _ _ _ h => h) (Or.inl ⟨by rfl, ?_⟩) ?_ ?_
     rotate_left
     ·intro w'; go_simp; with_reducible rfl
     rotate_left
     ·simp only [Act.put, sq1, sq2, sq3, i64_w, i32_w]; rfl
     refine pure_ (i := 3) (N := some 14) (v := ?_) (a' := ?_) (fT 4 24) rfl rfl (any_of HT_.out (by kernel_rfl)) (fun _ _ _ h => h) (Or.inl ⟨by rfl, ?_⟩) ?_ ?_
     rotate_left
     ·intro w'; go_simp; with_reducible rfl
     rotate_left
     ·simp only [Act.put, sq1, sq2, sq3, i64_w, i32_w]; rfl
     refine pure_ (i := 4) (N := some 15) (v := ?_) (a' := ?_) (fT 5 24) rfl rfl (any_of HT_.out (by kernel_rfl)) (fun _ _ _ h => h) (Or.inl ⟨by rfl, ?_⟩) ?_ ?_
     rotate_left
     ·intro w'; go_simp; with_reducible rfl
     rotate_left
     ·simp only [Act.put, sq1, sq2, sq3, i64_w, i32_w]; rfl
     refine pure_ (i := 5) (N := some 16) (v := ?_) (a' := ?_) (fT 6 24) rfl rfl (any_of HT_.out (by kernel_rfl)) (fun _ _ _ h => h) (Or.inl ⟨by rfl, ?_⟩) ?_ ?_
     rotate_left
     ·intro w'; go_simp; with_reducible rfl
     rotate_left
     ·simp only [Act.put, sq1, sq2, sq3, i64_w, i32_w]; rfl
     refine take_ (i := 6) (N := some 17) (v := ?_) (a' := ?_) (fT 7 24) rfl rfl (take_ofW HT_.out HW_.out (by kernel_rfl)) (fun _ _ _ h => h) (Or.inl ⟨by rfl, ?_⟩) hHeld ?_ ?_
     rotate_left
     ·rintro w' ⟨s0, s1, s2⟩; go_simp; with_reducible rfl
     rotate_left
     ·simp only [Act.put, sq1, sq2, sq3, i64_w, i32_w]; rfl
     refine pure_ (i := 7) (N := some 18) (v := ?_) (a' := ?_) (fT 8 24) rfl rfl (any_of HT_.out (by kernel_rfl)) (fun _ _ _ h => h) (Or.inl ⟨by rfl, ?_⟩) ?_ ?_
     rotate_left
     ·intro w'; go_simp; with_reducible rfl
     rotate_left
     ·simp only [Act.put, sq1, sq2, sq3, i64_w, i32_w]; rfl
     refine pure_ (i := 8) (N := some 19) (v := ?_) (a' := ?_) (fT 9 24) rfl rfl (any_of HT_.out (by kernel_rfl)) (fun _ _ _ h => h) (Or.inl ⟨by rfl, ?_⟩) ?_ ?_
     rotate_left
     ·intro w'; go_simp; with_reducible rfl
     rotate_left
     ·simp only [Act.put, sq1, sq2, sq3, i64_w, i32_w]; rfl
     refine pure_ (i := 9) (N := some 20) (v := ?_) (a' := ?_) (fT 10 24) rfl rfl (any_of HT_.out (by kernel_rfl)) (fun _ _ _ h => h) (Or.inl ⟨by rfl, ?_⟩) ?_ ?_
     rotate_left
     ·intro w'; go_simp; with_reducible rfl
     rotate_left
     ·simp only [Act.put, sq1, sq2, sq3, i64_w, i32_w]; rfl
     refine pure_ (i := 10) (N := some 21) (v := ?_) (a' := ?_) (fT 11 24) rfl rfl (any_of HT_.out (by kernel_rfl)) (fun _ _ _ h => h) (Or.inl ⟨by rfl, ?_⟩) ?_ ?_
     rotate_left
     ·intro w'; go_simp; with_reducible rfl
     rotate_left
     ·simp only [Act.put, sq1, sq2, sq3, i64_w, i32_w]; rfl
     refine pure_ (i := 11) (N := some 22) (v := ?_) (a' := ?_) (fT 12 24) rfl rfl (any_of HT_.out (by kernel_rfl)) (fun _ _ _ h => h) (Or.inl ⟨by rfl, ?_⟩) ?_ ?_
     rotate_left
     ·intro w'; go_simp; with_reducible rfl
     rotate_left
     ·simp only [Act.put, sq1, sq2, sq3, i64_w, i32_w]; rfl
     refine take_ (i := 12) (N := some 23) (v := ?_) (a' := ?_) (fT 13 24) rfl rfl (take_ofW HT_.out HW_.out (by kernel_rfl)) (fun _ _ _ h => h) (Or.inl ⟨by rfl, ?_⟩) hHeld ?_ ?_
     rotate_left
     ·rintro w' ⟨s0, s1, s2⟩; go_simp; with_reducible rfl
     rotate_left
     ·simp only [Act.put, sq1, sq2, sq3, i64_w, i32_w]; rfl
     refine pure_ (i := 13) (N := some 24) (v := ?_) (a' := ?_) (fT 14 24) rfl rfl (any_of HT_.out (by kernel_rfl)) (fun _ _ _ h => h) (Or.inl ⟨by rfl, ?_⟩) ?_ ?_
     rotate_left
     ·intro w'; go_simp; with_reducible rfl
     rotate_left
     ·simp only [Act.put, sq1, sq2, sq3, i64_w, i32_w]; rfl
     refine pure_ (i := 14) (N := some 25) (v := ?_) (a' := ?_) (fT 15 24) rfl rfl (any_of HT_.out (by kernel_rfl)) (fun _ _ _ h => h) (Or.inl ⟨by rfl, ?_⟩) ?_ ?_
     rotate_left
     ·intro w'; go_simp; with_reducible rfl
     rotate_left
     ·simp only [Act.put, sq1, sq2, sq3, i64_w, i32_w]; rfl
     refine pure_ (i := 15) (N := some 26) (v := ?_) (a' := ?_) (fT 16 24) rfl rfl (any_of HT_.out (by kernel_rfl)) (fun _ _ _ h => h) (Or.inl ⟨by rfl, ?_⟩) ?_ ?_
     rotate_left
     ·intro w'; go_simp; with_reducible rfl
     rotate_left
     ·simp only [Act.put, sq1, sq2, sq3, i64_w, i32_w]; rfl
     refine pure_ (i := 16) (N := some 27) (v := ?_) (a' := ?_) (fT 17 24) rfl rfl (any_of HT_.out (by kernel_rfl)) (fun _ _ _ h => h) (Or.inl ⟨by rfl, ?_⟩) ?_ ?_
     rotate_left
     ·intro w'; go_simp; with_reducible rfl
     rotate_left
     ·simp only [Act.put, sq1, sq2, sq3, i64_w, i32_w]; rfl
     refine pure_ (i := 18) (N := some 29) (v := ?_) (a' := ?_) #[tt,tt,tt,tt,tt,tt,tt,tt,tt,tt,tt,tt,tt,tt,tt,tt,tt,ff,tt,ff,ff,ff,ff,ff] rfl rfl (any_of HT_.out (by kernel_rfl)) (fun _ _ _ h => h) (Or.inl ⟨by rfl, ?_⟩) ?_ ?_
     rotate_left
     ·intro w'; go_simp; with_reducible rfl
     rotate_left
     ·simp only [Act.put, sq1, sq2, sq3, i64_w, i32_w]; rfl
     refine take_ (i := 17) (N := some 28) (v := ?_) (a' := ?_) (fT 19 24) rfl rfl (take_ofW HT_.out HW_.out (by kernel_rfl)) (fun _ _ _ h => h) (Or.inl ⟨by rfl, ?_⟩) hHeld ?_ ?_
     rotate_left
     ·rintro w' ⟨s0, s1, s2⟩; go_simp; with_reducible rfl
     rotate_left
     ·simp only [Act.put, sq1, sq2, sq3, i64_w, i32_w]; rfl
     refine take_ (i := 19) (N := some 30) (v := ?_) (a' := ?_) (fT 20 24) rfl rfl (take_ofW HT_.out HW_.out (by kernel_rfl)) (fun _ _ _ h => h) (Or.inl ⟨by rfl, ?_⟩) hHeld ?_ ?_
     rotate_left
     ·rintro w' ⟨s0, s1, s2⟩; go_simp; with_reducible rfl
     rotate_left
     ·simp only [Act.put, sq1, sq2, sq3, i64_w, i32_w]; rfl
     refine pure_ (i := 20) (N := some 31) (v := ?_) (a' := ?_) (fT 21 24) rfl rfl (any_of HT_.out (by kernel_rfl)) (fun _ _ _ h => h) (Or.inl ⟨by rfl, ?_⟩) ?_ ?_
     rotate_left
     ·intro w'; go_simp; with_reducible rfl
     rotate_left
     ·simp only [Act.put, sq1, sq2, sq3, i64_w, i32_w]; rfl
     refine one_ (i := 21) (N := some 32) (fT 22 24) rfl rfl (one_of HT_.out (by kernel_rfl)) (by decide) (fun K hK => ?_)
     refine goes_ Tryz.func107 (by kernel_rfl) rfl #[.int .i64 (l2_2.length : Int)] (by rfl) rfl rfl (by (try simp only [List.map_toArray, List.map_cons, List.map_nil]); first | done | rfl | (simp only [List.length_drop, List.length_take]; rfl)) ?_
     with_reducible refine (customhouseref03_Power.calls k (l2_2.length : Int) t502 _ A11.out).mono ?_
     rintro e w' ⟨rfl, ⟨nd, rfl⟩⟩
     refine ⟨_, rfl, ?_⟩
     refine hK.out _ _ ⟨(blk_cell BK501.out 0).trans rfl, (blk_cell BK501.out 1).trans rfl, (blk_cell BK501.out 2).trans rfl⟩ (fun hHeld => ?_)
     clear hK K
     refine norm_ (a' := ?_) ?_ ?_
     rotate_left
     ·show Act.put _ (some 32) _ = _
      simp only [Act.put, sq1, sq2, sq3, i64_w, i32_w]; rfl
     refine pure_ (i := 22) (N := some 33) (v := ?_) (a' := ?_) (fT 23 24) rfl rfl (any_of HT_.out (by kernel_rfl)) (fun _ _ _ h => h) (Or.inl ⟨by rfl, ?_⟩) ?_ ?_
     rotate_left
     ·intro w'; go_simp; with_reducible rfl
     rotate_left
     ·simp only [Act.put, sq1, sq2, sq3, i64_w, i32_w]; rfl
     refine pure_ (i := 23) (N := some 34) (v := ?_) (a' := ?_) (fT 24 24) rfl rfl (any_of HT_.out (by kernel_rfl)) (fun _ _ _ h => h) (Or.inl ⟨by rfl, ?_⟩) ?_ ?_
     rotate_left
     ·intro w'; go_simp; with_reducible rfl
     rotate_left
     ·simp only [Act.put, sq1, sq2, sq3, i64_w, i32_w]; rfl
     refine done_ (done_of HT_.out (by kernel_rfl)) ?_
     try go_wp2
     go_meet
     case rel => exact ⟨_, (decide (a2_0 ≥ t502)), (by first | rfl | (simp; done) | (simp [*]; done)), H', ⟨by first | omega | exact Nat.le_refl _⟩, ⟨by (with_reducible repeat (first | refine blk_drewN ?_ _ | refine blk_drew ?_ | refine blk_alloc ?_ _)); exact BK501.out⟩, ⟨by repeat (first | (with_reducible first | exact HB.out | apply below_alloc | apply pw_below_drewN | apply below_drew1 | refine below_set ?_ GE501.out) | exact HB.out)⟩⟩
  ·rw [if_neg c6] at H
   have c6b0 : ((l2_1.length : Int) == 18) = false := beq_eq_false_iff_ne.mpr c6
   have c6b1 : ((l2_1.length : Int) != 18) = true := bne_iff_ne.mpr c6
   (first | rw [c6b0] | (simp only [i64_w, i32_w]; rw [c6b0]) | skip)
   have H' := Aside0.mk H
   clear H
   try go_wp2
   have n0_ := Aside0.mk (blk_drew BK501.out)
   have n1_ := Aside0.mk (below_drew1 HB.out)
   clear BK501; clear HB; have BK501 := n0_; have HB := n1_; clear n0_ n1_
   refine start_ (n := 24) (S := fun w' => w'.cell? ⟨gb501, 0, none⟩ = some (.int .i64 a2_0) ∧ w'.cell? ⟨gb501, 1, none⟩ = some (.slice A2_1 l2_1.length c2_1) ∧ w'.cell? ⟨gb501, 2, none⟩ = some (.slice A2_2 l2_2.length c2_2)) (ds := []) (fT 0 24) (by kernel_rfl) rfl rfl ⟨(blk_cell BK501.out 0).trans rfl, (blk_cell BK501.out 1).trans rfl, (blk_cell BK501.out 2).trans rfl⟩ (fun hHeld => ?_); refine with_tabW customhouseref03_Verify.tab1 customhouseref03_Verify.bits1 (fun HT_ HW_ => ?_)
   generalize w5.drew = w13 at BK501 HB hHeld ⊢
   refine pure_ (i := 0) (N := some 11) (v := ?_) (a' := ?_) (fT 1 24) rfl rfl (any_of HT_.out (by kernel_rfl)) (fun _ _ _ h => h) (Or.inl ⟨by rfl, ?_⟩) ?_ ?_
   rotate_left
   ·intro w'; go_simp; with_reducible rfl
   rotate_left
   ·simp only [Act.put, sq1, sq2, sq3, i64_w, i32_w]; rfl
   refine take_ (i := 1) (N := some 12) (v := ?_) (a' := ?_) (fT 2 24) rfl rfl (take_ofW HT_.out HW_.out (by kernel_rfl)) (fun _ _ _ h => h) (Or.inl ⟨by rfl, ?_⟩) hHeld ?_ ?_
   rotate_left
   ·rintro w' ⟨s0, s1, s2⟩; go_simp; with_reducible rfl
   rotate_left
   ·simp only [Act.put, sq1, sq2, sq3, i64_w, i32_w]; rfl
   refine pure_ (i := 2) (N := some 13) (v := ?_) (a' := ?_) (fT 3 24) rfl rfl (any_of HT_.out (by kernel_rfl)) (fun _ _ _ h => h) (Or.inl ⟨by rfl, ?_⟩) ?_ ?_
   rotate_left
   ·intro w'; go_simp; with_reducible rfl
   rotate_left
   ·simp only [Act.put, sq1, sq2, sq3, i64_w, i32_w]; rfl
   refine pure_ (i := 3) (N := some 14) (v := ?_) (a' := ?_) (fT 4 24) rfl rfl (any_of HT_.out (by kernel_rfl)) (fun _ _ _ h => h) (Or.inl ⟨by rfl, ?_⟩) ?_ ?_
   rotate_left
   ·intro w'; go_simp; with_reducible rfl
   rotate_left
   ·simp only [Act.put, sq1, sq2, sq3, i64_w, i32_w]; rfl
   refine pure_ (i := 4) (N := some 15) (v := ?_) (a' := ?_) (fT 5 24) rfl rfl (any_of HT_.out (by kernel_rfl)) (fun _ _ _ h => h) (Or.inl ⟨by rfl, ?_⟩) ?_ ?_
   rotate_left
   ·intro w'; go_simp; with_reducible rfl
   rotate_left
   ·simp only [Act.put, sq1, sq2, sq3, i64_w, i32_w]; rfl
   refine pure_ (i := 5) (N := some 16) (v := undef) (a' := ?_) (fT 6 24) rfl rfl (any_of HT_.out (by kernel_rfl)) (fun _ _ _ h => h) (Or.inr ⟨by rfl, rfl⟩) ?_ ?_
   rotate_left
   ·simp only [Act.put, sq1, sq2, sq3, i64_w, i32_w]; rfl
   refine pure_ (i := 6) (N := some 17) (v := undef) (a' := ?_) (fT 7 24) rfl rfl (any_of HT_.out (by kernel_rfl)) (fun _ _ _ h => h) (Or.inr ⟨by rfl, rfl⟩) ?_ ?_
   rotate_left
   ·simp only [Act.put, sq1, sq2, sq3, i64_w, i32_w]; rfl
   refine pure_ (i := 7) (N := some 18) (v := undef) (a' := ?_) (fT 8 24) rfl rfl (any_of HT_.out (by kernel_rfl)) (fun _ _ _ h => h) (Or.inr ⟨by rfl, rfl⟩) ?_ ?_
   rotate_left
   ·simp only [Act.put, sq1, sq2, sq3, i64_w, i32_w]; rfl
   refine pure_ (i := 8) (N := some 19) (v := undef) (a' := ?_) (fT 9 24) rfl rfl (any_of HT_.out (by kernel_rfl)) (fun _ _ _ h => h) (Or.inr ⟨by rfl, rfl⟩) ?_ ?_
   rotate_left
   ·simp only [Act.put, sq1, sq2, sq3, i64_w, i32_w]; rfl
   refine pure_ (i := 9) (N := some 20) (v := ?_) (a' := ?_) (fT 10 24) rfl rfl (any_of HT_.out (by kernel_rfl)) (fun _ _ _ h => h) (Or.inl ⟨by rfl, ?_⟩) ?_ ?_
   rotate_left
   ·intro w'; go_simp; with_reducible rfl
   rotate_left
   ·simp only [Act.put, sq1, sq2, sq3, i64_w, i32_w]; rfl
   refine pure_ (i := 10) (N := some 21) (v := ?_) (a' := ?_) (fT 11 24) rfl rfl (any_of HT_.out (by kernel_rfl)) (fun _ _ _ h => h) (Or.inl ⟨by rfl, ?_⟩) ?_ ?_
   rotate_left
   ·intro w'; go_simp; with_reducible rfl
   rotate_left
   ·simp only [Act.put, sq1, sq2, sq3, i64_w, i32_w]; rfl
   refine pure_ (i := 11) (N := some 22) (v := undef) (a' := ?_) (fT 12 24) rfl rfl (any_of HT_.out (by kernel_rfl)) (fun _ _ _ h => h) (Or.inr ⟨by rfl, rfl⟩) ?_ ?_
   rotate_left
   ·simp only [Act.put, sq1, sq2, sq3, i64_w, i32_w]; rfl
   refine pure_ (i := 12) (N := some 23) (v := undef) (a' := ?_) (fT 13 24) rfl rfl (any_of HT_.out (by kernel_rfl)) (fun _ _ _ h => h) (Or.inr ⟨by rfl, rfl⟩) ?_ ?_
   rotate_left
   ·simp only [Act.put, sq1, sq2, sq3, i64_w, i32_w]; rfl
   refine pure_ (i := 13) (N := some 24) (v := undef) (a' := ?_) (fT 14 24) rfl rfl (any_of HT_.out (by kernel_rfl)) (fun _ _ _ h => h) (Or.inr ⟨by rfl, rfl⟩) ?_ ?_
   rotate_left
   ·simp only [Act.put, sq1, sq2, sq3, i64_w, i32_w]; rfl
   refine pure_ (i := 14) (N := some 25) (v := ?_) (a' := ?_) (fT 15 24) rfl rfl (any_of HT_.out (by kernel_rfl)) (fun _ _ _ h => h) (Or.inl ⟨by rfl, ?_⟩) ?_ ?_
   rotate_left
   ·intro w'; go_simp; with_reducible rfl
   rotate_left
   ·simp only [Act.put, sq1, sq2, sq3, i64_w, i32_w]; rfl
   refine pure_ (i := 15) (N := some 26) (v := ?_) (a' := ?_) (fT 16 24) rfl rfl (any_of HT_.out (by kernel_rfl)) (fun _ _ _ h => h) (Or.inl ⟨by rfl, ?_⟩) ?_ ?_
   rotate_left
   ·intro w'; go_simp; with_reducible rfl
   rotate_left
   ·simp only [Act.put, sq1, sq2, sq3, i64_w, i32_w]; rfl
   refine pure_ (i := 16) (N := some 27) (v := undef) (a' := ?_) (fT 17 24) rfl rfl (any_of HT_.out (by kernel_rfl)) (fun _ _ _ h => h) (Or.inr ⟨by rfl, rfl⟩) ?_ ?_
   rotate_left
   ·simp only [Act.put, sq1, sq2, sq3, i64_w, i32_w]; rfl
   refine pure_ (i := 17) (N := some 28) (v := undef) (a' := ?_) (fT 18 24) rfl rfl (any_of HT_.out (by kernel_rfl)) (fun _ _ _ h => h) (Or.inr ⟨by rfl, rfl⟩) ?_ ?_
   rotate_left
   ·simp only [Act.put, sq1, sq2, sq3, i64_w, i32_w]; rfl
   refine pure_ (i := 18) (N := some 29) (v := undef) (a' := ?_) (fT 19 24) rfl rfl (any_of HT_.out (by kernel_rfl)) (fun _ _ _ h => h) (Or.inr ⟨by rfl, rfl⟩) ?_ ?_
   rotate_left
   ·simp only [Act.put, sq1, sq2, sq3, i64_w, i32_w]; rfl
   refine pure_ (i := 19) (N := some 30) (v := undef) (a' := ?_) (fT 20 24) rfl rfl (any_of HT_.out (by kernel_rfl)) (fun _ _ _ h => h) (Or.inr ⟨by rfl, rfl⟩) ?_ ?_
   rotate_left
   ·simp only [Act.put, sq1, sq2, sq3, i64_w, i32_w]; rfl
   refine pure_ (i := 20) (N := some 31) (v := undef) (a' := ?_) (fT 21 24) rfl rfl (any_of HT_.out (by kernel_rfl)) (fun _ _ _ h => h) (Or.inr ⟨by rfl, rfl⟩) ?_ ?_
   rotate_left
   ·simp only [Act.put, sq1, sq2, sq3, i64_w, i32_w]; rfl
   refine pure_ (i := 21) (N := some 32) (v := undef) (a' := ?_) (fT 22 24) rfl rfl (any_of HT_.out (by kernel_rfl)) (fun _ _ _ h => h) (Or.inr ⟨by rfl, rfl⟩) ?_ ?_
   rotate_left
   ·simp only [Act.put, sq1, sq2, sq3, i64_w, i32_w]; rfl
   refine pure_ (i := 22) (N := some 33) (v := undef) (a' := ?_) (fT 23 24) rfl rfl (any_of HT_.out (by kernel_rfl)) (fun _ _ _ h => h) (Or.inr ⟨by rfl, rfl⟩) ?_ ?_
   rotate_left
   ·simp only [Act.put, sq1, sq2, sq3, i64_w, i32_w]; rfl
   refine pure_ (i := 23) (N := some 34) (v := ?_) (a' := ?_) (fT 24 24) rfl rfl (any_of HT_.out (by kernel_rfl)) (fun _ _ _ h => h) (Or.inl ⟨by rfl, ?_⟩) ?_ ?_
   rotate_left
   ·intro w'; go_simp; with_reducible rfl
   rotate_left
   ·simp only [Act.put, sq1, sq2, sq3, i64_w, i32_w]; rfl
   refine done_ (done_of HT_.out (by kernel_rfl)) ?_
   try go_wp2
   go_meet
   case rel => exact ⟨_, (true), (by first | rfl | (simp; done) | (simp [*]; done)), H', ⟨by first | omega | exact Nat.le_refl _⟩, ⟨by (with_reducible repeat (first | refine blk_drewN ?_ _ | refine blk_drew ?_ | refine blk_alloc ?_ _)); exact BK501.out⟩, ⟨by repeat (first | (with_reducible first | exact HB.out | apply below_alloc | apply pw_below_drewN | apply below_drew1 | refine below_set ?_ GE501.out) | exact HB.out)⟩⟩
 case rest =>
  clear HC4
  try clear c1
  try clear c2
  try clear p2
  try clear c6
  try clear c6b0
  try clear c6b1
  try clear c7
  try clear c7b0
  try clear c7b1
  try clear c9
  try clear c9b0
  try clear c10
  obtain ⟨kq, x34_3, rfl, HA, HJ3, BK501, HB⟩ := hcut
  cases kq with
  | zero => exact absurd HA.out (by simp [customhouseref03_Verify.j0])
  | succ kj3 =>
   have H := HA.out; clear HA
   simp only [customhouseref03_Verify.j0] at H
   by_cases c14 : x34_3 = true
   ·subst c14
    have H1 : (some false) = some r := by rw [if_pos rfl] at H; exact H
    clear H; have H := H1; clear H1
    obtain rfl := Option.some.inj H
    go_wp2; go_ret
    exact ⟨by first | rfl | (simp [errW_none, errW_some] <;> rfl) | (simp [*, errW_none, errW_some] <;> rfl), by repeat (first | (with_reducible first | exact HB.out | apply below_alloc | apply pw_below_drewN | apply below_drew1 | refine below_set ?_ GE501.out) | exact HB.out)⟩
   ·replace c14 := Bool.eq_false_iff.mpr c14
    subst c14
    have H1 : ((customhouseref03_Digits.f kj3 a1).bind fun t503 => (customhouseref03_Verify.l0 kj3 a0 t503 ([] : List ByteArray) 0 a2_0 l2_1 l2_2)) = some r := by rw [if_neg (show ¬ (false = true) by decide)] at H; exact H
    clear H; have H := H1; clear H1
    replace H := Option.bind_eq_some_iff.mp H
    obtain ⟨t503, A150, H⟩ := H
    replace H : (customhouseref03_Verify.l0 kj3 a0 t503 ([] : List ByteArray) 0 a2_0 l2_1 l2_2) = some r := H
    have A15 := Aside0.mk A150
    clear A150
    have H' := Aside0.mk H
    clear H
    go_wp2_with (first | ((with_reducible refine gate_callee (f := 108) rfl ?_); refine goesL_ (some 36) rfl rfl Tryz.func108 (by kernel_rfl) rfl #[.string a1] rfl (by (try simp only [List.map_toArray, List.map_cons, List.map_nil]); first | done | rfl | (simp only [List.length_drop, List.length_take]; rfl)) ?_; (with_reducible refine (customhouseref03_Digits.calls kj3 a1 t503 _ A15.out).mono ?_); rintro e w16 ⟨v504, rfl, ho0, hb⟩; refine ⟨_, rfl, ?_⟩; have n0_ := Aside0.mk (Kd.R_lower ho0 (below_size (by repeat (first | (with_reducible first | exact HB.out | apply below_alloc | apply pw_below_drewN | apply below_drew1 | refine below_set ?_ GE501.out) | exact HB.out)))); have n1_ := Aside0.mk (blk_below (g := gb501) (o := .cells #[.int .i64 a2_0, .slice A2_1 l2_1.length c2_1, .slice A2_2 l2_2.length c2_2] 33 (0, 0)) (by (with_reducible repeat (first | refine blk_drewN ?_ _ | refine blk_drew ?_ | refine blk_alloc ?_ _)); exact BK501.out) hb); have n2_ := Aside0.mk (below_step (by repeat (first | (with_reducible first | exact HB.out | apply below_alloc | apply pw_below_drewN | apply below_drew1 | refine below_set ?_ GE501.out) | exact HB.out)) hb); clear BK501; clear HB; have HO505 := n0_; have BK501 := n1_; have HB := n2_; clear n0_ n1_ n2_; (try clear hb); (try clear hb2); (try clear hk); (try clear hi); (try clear ho0)))
    go_loopg [8, 9] kj3 (fun kq v8 v9 w' => ∃ (x8_2 : List ByteArray) (x9_2 : Int), v9 = .int .i64 x9_2 ∧ Aside0 (customhouseref03_Verify.l0 kq a0 t503 x8_2 x9_2 a2_0 l2_1 l2_2 = some r) ∧ Aside0 (kq ≤ kj3) ∧ Aside0 (Kd.R (Kd.int .i64) 3 w' w.heap.size (fun _ => True) v504 t503) ∧ Aside0 (Kd.R Kd.string 9 w' w.heap.size (fun _ => True) v8 x8_2) ∧ Aside0 (w'.heap[gb501]? = some (.cells #[.int .i64 a2_0, (.slice A2_1 l2_1.length c2_1), (.slice A2_2 l2_2.length c2_2)] 33 (0, 0))) ∧ Aside0 (Below w.heap.size w w'))
    case atStart => exact ⟨(([] : List ByteArray)), (0), (by first | rfl | (simp; done) | (simp [*]; done)), H', ⟨Nat.le_refl _⟩, ⟨by (with_reducible repeat (first | apply Kd.R_alloc | apply Kd.R_drewN | apply Kd.R_drew)); exact HO505.out⟩, ⟨by first | exact Kd.R_nil _ _ _ _ _ | exact Kd.N_nil _ _ _ _ _ | exact Kd.V_nil _ _ _ _ _ | exact Kd.Q_nil _ _ _ _ _ | exact Kd.S_nil _ _ _ _ _⟩, ⟨by (with_reducible repeat (first | refine blk_drewN ?_ _ | refine blk_drew ?_ | refine blk_alloc ?_ _)); exact BK501.out⟩, ⟨by repeat (first | (with_reducible first | exact HB.out | apply below_alloc | apply pw_below_drewN | apply below_drew1 | refine below_set ?_ GE501.out) | exact HB.out)⟩⟩
    case round =>
     clear H'
     try clear c1
     try clear c2
     try clear p2
     try clear c6
     try clear c6b0
     try clear c6b1
     try clear c7
     try clear c7b0
     try clear c7b1
     try clear c9
     try clear c9b0
     try clear c10
     try clear c14
     try clear p2
     obtain ⟨x8_2, x9_2, rfl, HA, HK2, HO_7, HO_8, BK501, HB⟩ := hrel
     cases gk with
     | zero => exact absurd HA.out (by simp [customhouseref03_Verify.l0])
     | succ k2 =>
      have H := HA.out; clear HA
      simp only [customhouseref03_Verify.l0] at H
      by_cases c17 : x9_2 < 18
      ·rw [if_pos c17] at H
       have c17b0 : decide (x9_2 < 18) = true := decide_eq_true c17
       clear c17
       by_cases c18 : 0 ≤ x9_2
       ·rw [if_pos c18] at H
        have c18b0 : decide (0 ≤ x9_2) = true := decide_eq_true c18
        clear c18
        by_cases c19 : x9_2 < (l2_1.length : Int)
        ·rw [if_pos c19] at H
         have c19b0 : decide (x9_2 < (l2_1.length : Int)) = true := decide_eq_true c19
         clear c19
         replace H := Option.bind_eq_some_iff.mp H
         obtain ⟨t507, A200, H⟩ := H
         replace H : (if t507 = true then (if x9_2 < (t503.length : Int) then ((customhouseref01_Chain.f k2 (rdOf ByteArray.empty l2_1 x9_2) (wrap64 (15 - (rd t503 x9_2)))).bind fun t510 => (if x8_2.length < 8796093022208 then (customhouseref03_Verify.l0 k2 a0 t503 (x8_2 ++ [t510]) (wrap64 (x9_2 + 1)) a2_0 l2_1 l2_2) else (none))) else (none)) else (some false)) = some r := H
         have A20 := Aside0.mk A200
         clear A200
         by_cases c21 : t507 = true
         ·subst c21
          have H1 : (if x9_2 < (t503.length : Int) then ((customhouseref01_Chain.f k2 (rdOf ByteArray.empty l2_1 x9_2) (wrap64 (15 - (rd t503 x9_2)))).bind fun t510 => (if x8_2.length < 8796093022208 then (customhouseref03_Verify.l0 k2 a0 t503 (x8_2 ++ [t510]) (wrap64 (x9_2 + 1)) a2_0 l2_1 l2_2) else (none))) else (none)) = some r := by rw [if_pos rfl] at H; exact H
          clear H; have H := H1; clear H1
          by_cases c22 : x9_2 < (t503.length : Int)
          ·rw [if_pos c22] at H
           have c22b0 : decide (x9_2 < (t503.length : Int)) = true := decide_eq_true c22
           clear c22
           replace H := Option.bind_eq_some_iff.mp H
           obtain ⟨t510, A230, H⟩ := H
           replace H : (if x8_2.length < 8796093022208 then (customhouseref03_Verify.l0 k2 a0 t503 (x8_2 ++ [t510]) (wrap64 (x9_2 + 1)) a2_0 l2_1 l2_2) else (none)) = some r := H
           have A23 := Aside0.mk A230
           clear A230
           by_cases c24 : x8_2.length < 8796093022208
           ·rw [if_pos c24] at H
            have LMc24 := Aside0.mk c24
            clear c24
            obtain ⟨y511, hy511⟩ : ∃ y_ : List ByteArray, y_ = (x8_2 ++ [t510]) := ⟨_, rfl⟩
            replace H : (customhouseref03_Verify.l0 k2 a0 t503 y511 (wrap64 (x9_2 + 1)) a2_0 l2_1 l2_2) = some r := by first | (rw [hy511]; with_reducible exact H) | (have H2_ := (Option.bind_some _ _).symm.trans H; rw [hy511]; with_reducible exact H2_) | (have H2_ := (Option.bind_some _ _).symm.trans H; with_reducible exact H2_) | with_reducible exact H | (rw [hy511]; exact H) | exact H
            have Ny511 := Aside0.mk hy511
            clear hy511
            have H' := Aside0.mk H
            clear H
            have hcz25_0 : wr.cell? ⟨gb501, 0, none⟩ = some (.int .i64 a2_0) := (blk_cell BK501.out 0).trans rfl
            have hcz25_1 : wr.cell? ⟨gb501, 1, none⟩ = some (.slice A2_1 l2_1.length c2_1) := (blk_cell BK501.out 1).trans rfl
            have hcz25_2 : wr.cell? ⟨gb501, 2, none⟩ = some (.slice A2_2 l2_2.length c2_2) := (blk_cell BK501.out 2).trans rfl
            have hfz25_0 := blk_frozen BK501.out 0
            have hfz25_1 := blk_frozen BK501.out 1
            have hfz25_2 := blk_frozen BK501.out 2
            have p506 : 0 ≤ (x9_2 : Int) := of_decide_eq_true (by first | (with_reducible assumption) | assumption)
            have q506 : x9_2 < (l2_1.length : Int) := of_decide_eq_true (by first | (with_reducible assumption) | assumption)
            obtain ⟨ad506, e506, hx506_0⟩ := Kd.at_string HR2_1.out x9_2 p506 q506
            cases e506
            replace hx506_0 := (HB.out.cell (World.block_lt_of_cell? w _ hx506_0)).trans hx506_0
            replace p506 := eq_true p506
            replace q506 := eq_true q506
            try go_wp2_with (first | ((with_reducible refine gate_callee (f := 115) rfl ?_); refine goesL_ (some 46) rfl rfl Tryz.func115 (by kernel_rfl) rfl #[.string (rdOf ByteArray.empty l2_1 x9_2)] rfl (by (try simp only [List.map_toArray, List.map_cons, List.map_nil]); first | done | rfl | (simp only [List.length_drop, List.length_take]; rfl)) ?_; (with_reducible refine (customhouseref01_Is.calls k2 (rdOf ByteArray.empty l2_1 x9_2) true _ A20.out).mono ?_); rintro e w' ⟨rfl, ⟨nd, rfl⟩⟩; refine ⟨_, rfl, ?_⟩))
            (try (rw [drewN_self wr]; generalize hq_ : World.drewN wr _ = wr; have n0_ : Aside0 (Kd.R (Kd.int .i64) 3 wr w.heap.size (fun _ => True) v504 t503) := ⟨by rw [← hq_]; exact (by (with_reducible repeat (first | apply Kd.R_alloc | apply Kd.R_drewN | apply Kd.R_drew)); exact HO_7.out)⟩; have n1_ : Aside0 (Kd.R Kd.string 9 wr w.heap.size (fun _ => True) u8 x8_2) := ⟨by rw [← hq_]; exact (by (with_reducible repeat (first | apply Kd.R_alloc | apply Kd.R_drewN | apply Kd.R_drew)); exact HO_8.out)⟩; have n2_ : Aside0 (wr.heap[gb501]? = some (.cells #[.int .i64 a2_0, .slice (some ad506) l2_1.length c2_1, .slice A2_2 l2_2.length c2_2] 33 (0, 0))) := ⟨by rw [← hq_]; exact (by (with_reducible repeat (first | refine blk_drewN ?_ _ | refine blk_drew ?_ | refine blk_alloc ?_ _)); exact BK501.out)⟩; have n3_ : Aside0 (Below w.heap.size w wr) := ⟨by rw [← hq_]; exact (by repeat (first | (with_reducible first | exact HB.out | apply below_alloc | apply pw_below_drewN | apply below_drew1 | refine below_set ?_ GE501.out) | exact HB.out))⟩; clear HO_7 HO_8 BK501 HB hq_; have HO_7 := n0_; have HO_8 := n1_; have BK501 := n2_; have HB := n3_; clear n0_ n1_ n2_ n3_))
            have n0_ := Aside0.mk (Kd.R_drew HO_7.out)
            have n1_ := Aside0.mk (Kd.R_drew HO_8.out)
            have n2_ := Aside0.mk (blk_drew BK501.out)
            have n3_ := Aside0.mk (below_drew1 HB.out)
            clear HO_7; clear HO_8; clear BK501; clear HB; have HO_7 := n0_; have HO_8 := n1_; have BK501 := n2_; have HB := n3_; clear n0_ n1_ n2_ n3_
            have p508 : 0 ≤ (x9_2 : Int) := of_decide_eq_true (by first | (with_reducible assumption) | assumption)
            have q508 : x9_2 < (l2_1.length : Int) := of_decide_eq_true (by first | (with_reducible assumption) | assumption)
            obtain ⟨ad508, e508, hx508_0⟩ := Kd.at_string HR2_1.out x9_2 p508 q508
            have hw508_0 := hx508_0
            obtain rfl : ad506 = ad508 := (by injection e508)
            replace hx508_0 := (HB.out.cell (World.block_lt_of_cell? w _ hx508_0)).trans hx508_0
            replace p508 := eq_true p508
            replace q508 := eq_true q508
            obtain ⟨Ao27, co27, eo27⟩ := Kd.R_slice HO_7.out
            (first | subst eo27 | (injection eo27 with f1_ f2_ f3_; have f4_ := f1_.symm; have f5_ := f3_.symm; clear f1_ f2_ f3_; subst f4_; subst f5_))
            have p509 : 0 ≤ (x9_2 : Int) := of_decide_eq_true (by first | (with_reducible assumption) | assumption)
            have q509 : x9_2 < (t503.length : Int) := of_decide_eq_true (by first | (with_reducible assumption) | assumption)
            obtain ⟨ad509, e509, hx509_0⟩ := Kd.at_int (Kd.R_reads' HO_7.out).2.2 x9_2 p509 q509
            cases e509
            replace p509 := eq_true p509
            replace q509 := eq_true q509
            refine start_ (n := 15) (S := fun w' => w'.cell? ⟨gb501, 0, none⟩ = some (.int .i64 a2_0) ∧ w'.cell? ⟨gb501, 1, none⟩ = some (.slice (some ad506) l2_1.length c2_1) ∧ w'.cell? ⟨gb501, 2, none⟩ = some (.slice A2_2 l2_2.length c2_2) ∧ w'.cell? (ad506.add (x9_2).toNat) = some (.string (rdOf ByteArray.empty l2_1 x9_2)) ∧ w'.cell? (ad509.add (x9_2).toNat) = some (.int .i64 (rd t503 x9_2))) (ds := [12, 13]) (fT 0 15) (by kernel_rfl) rfl rfl ⟨(blk_cell BK501.out 0).trans rfl, (blk_cell BK501.out 1).trans rfl, (blk_cell BK501.out 2).trans rfl, ((HB.out.cell (World.block_lt_of_cell? w _ hw508_0)).trans hw508_0), hx509_0⟩ (fun hHeld => ?_); refine with_tabW customhouseref03_Verify.tab10 customhouseref03_Verify.bits10 (fun HT_ HW_ => ?_)
            generalize wr.drew = w26 at HO_7 HO_8 BK501 HB hx508_0 hx509_0 hHeld ⊢
            refine pure_ (i := 0) (N := some 48) (v := ?_) (a' := ?_) (fT 1 15) rfl rfl (any_of HT_.out (by kernel_rfl)) (fun _ _ _ h => h) (Or.inl ⟨by rfl, ?_⟩) ?_ ?_
            rotate_left
            ·intro w'; go_simp; with_reducible rfl
            rotate_left
            ·simp only [Act.put, sq1, sq2, sq3, i64_w, i32_w]; rfl
            refine pure_ (i := 1) (N := some 49) (v := ?_) (a' := ?_) (fT 2 15) rfl rfl (any_of HT_.out (by kernel_rfl)) (fun _ _ _ h => h) (Or.inl ⟨by rfl, ?_⟩) ?_ ?_
            rotate_left
            ·intro w'; go_simp; with_reducible rfl
            rotate_left
            ·simp only [Act.put, sq1, sq2, sq3, i64_w, i32_w]; rfl
            refine pure_ (i := 3) (N := some 51) (v := ?_) (a' := ?_) #[tt,tt,ff,tt,ff,ff,ff,ff,ff,ff,ff,ff,ff,ff,ff] rfl rfl (any_of HT_.out (by kernel_rfl)) (fun _ _ _ h => h) (Or.inl ⟨by rfl, ?_⟩) ?_ ?_
            rotate_left
            ·intro w'; go_simp; with_reducible rfl
            rotate_left
            ·simp only [Act.put, sq1, sq2, sq3, i64_w, i32_w]; rfl
            refine pure_ (i := 6) (N := some 54) (v := ?_) (a' := ?_) #[tt,tt,ff,tt,ff,ff,tt,ff,ff,ff,ff,ff,ff,ff,ff] rfl rfl (any_of HT_.out (by kernel_rfl)) (fun _ _ _ h => h) (Or.inl ⟨by rfl, ?_⟩) ?_ ?_
            rotate_left
            ·intro w'; go_simp; with_reducible rfl
            rotate_left
            ·simp only [Act.put, sq1, sq2, sq3, i64_w, i32_w]; rfl
            refine pure_ (i := 7) (N := some 55) (v := ?_) (a' := ?_) #[tt,tt,ff,tt,ff,ff,tt,tt,ff,ff,ff,ff,ff,ff,ff] rfl rfl (any_of HT_.out (by kernel_rfl)) (fun _ _ _ h => h) (Or.inl ⟨by rfl, ?_⟩) ?_ ?_
            rotate_left
            ·intro w'; go_simp; with_reducible rfl
            rotate_left
            ·simp only [Act.put, sq1, sq2, sq3, i64_w, i32_w]; rfl
            refine pure_ (i := 8) (N := some 56) (v := ?_) (a' := ?_) #[tt,tt,ff,tt,ff,ff,tt,tt,tt,ff,ff,ff,ff,ff,ff] rfl rfl (any_of HT_.out (by kernel_rfl)) (fun _ _ _ h => h) (Or.inl ⟨by rfl, ?_⟩) ?_ ?_
            rotate_left
            ·intro w'; go_simp; with_reducible rfl
            rotate_left
            ·simp only [Act.put, sq1, sq2, sq3, i64_w, i32_w]; rfl
            refine take_ (i := 2) (N := some 50) (v := ?_) (a' := ?_) #[tt,tt,tt,tt,ff,ff,tt,tt,tt,ff,ff,ff,ff,ff,ff] rfl rfl (take_ofW HT_.out HW_.out (by kernel_rfl)) (fun _ _ _ h => h) (Or.inl ⟨by rfl, ?_⟩) hHeld ?_ ?_
            rotate_left
            ·rintro w' ⟨s0, s1, s2, s3, s4⟩; go_simp; with_reducible rfl
            rotate_left
            ·simp only [Act.put, sq1, sq2, sq3, i64_w, i32_w]; rfl
            refine pure_ (i := 4) (N := some 52) (v := ?_) (a' := ?_) #[tt,tt,tt,tt,tt,ff,tt,tt,tt,ff,ff,ff,ff,ff,ff] rfl rfl (any_of HT_.out (by kernel_rfl)) (fun _ _ _ h => h) (Or.inl ⟨by rfl, ?_⟩) ?_ ?_
            rotate_left
            ·intro w'; go_simp; with_reducible rfl
            rotate_left
            ·simp only [Act.put, sq1, sq2, sq3, i64_w, i32_w]; rfl
            refine take_ (i := 5) (N := some 53) (v := ?_) (a' := ?_) (fT 9 15) rfl rfl (take_ofW HT_.out HW_.out (by kernel_rfl)) (fun _ _ _ h => h) (Or.inl ⟨by rfl, ?_⟩) hHeld ?_ ?_
            rotate_left
            ·rintro w' ⟨s0, s1, s2, s3, s4⟩; go_simp; with_reducible rfl
            rotate_left
            ·simp only [Act.put, sq1, sq2, sq3, i64_w, i32_w]; rfl
            refine take_ (i := 9) (N := some 57) (v := ?_) (a' := ?_) (fT 10 15) rfl rfl (take_ofW HT_.out HW_.out (by kernel_rfl)) (fun _ _ _ h => h) (Or.inl ⟨by rfl, ?_⟩) hHeld ?_ ?_
            rotate_left
            ·rintro w' ⟨s0, s1, s2, s3, s4⟩; go_simp; with_reducible rfl
            rotate_left
            ·simp only [Act.put, sq1, sq2, sq3, i64_w, i32_w]; rfl
            refine pure_ (i := 10) (N := some 58) (v := ?_) (a' := ?_) (fT 11 15) rfl rfl (any_of HT_.out (by kernel_rfl)) (fun _ _ _ h => h) (Or.inl ⟨by rfl, ?_⟩) ?_ ?_
            rotate_left
            ·intro w'; go_simp; with_reducible rfl
            rotate_left
            ·simp only [Act.put, sq1, sq2, sq3, i64_w, i32_w]; rfl
            refine one_ (i := 11) (N := some 59) (fT 12 15) rfl rfl (one_of HT_.out (by kernel_rfl)) (by decide) (fun K hK => ?_)
            refine goes_ Tryz.func109 (by kernel_rfl) rfl #[.string (rdOf ByteArray.empty l2_1 x9_2), .int .i64 (wrap64 (15 - (rd t503 x9_2)))] (by rfl) rfl rfl (by (try simp only [List.map_toArray, List.map_cons, List.map_nil]); first | done | rfl | (simp only [List.length_drop, List.length_take]; rfl)) ?_
            with_reducible refine (customhouseref01_Chain.calls k2 (rdOf ByteArray.empty l2_1 x9_2) (wrap64 (15 - (rd t503 x9_2))) t510 _ A23.out).mono ?_
            rintro e w28 ⟨rfl, hb⟩
            have HS4_ := (hb.cell (World.block_lt_of_cell? _ _ (hHeld.2.2.2.2))).trans (hHeld.2.2.2.2)
            refine ⟨_, rfl, ?_⟩
            have n0_ := Aside0.mk (Kd.R_below (by (with_reducible repeat (first | apply Kd.R_alloc | apply Kd.R_drewN | apply Kd.R_drew)); exact HO_7.out) hb)
            have n1_ := Aside0.mk (Kd.R_below (by (with_reducible repeat (first | apply Kd.R_alloc | apply Kd.R_drewN | apply Kd.R_drew)); exact HO_8.out) hb)
            have n2_ := Aside0.mk (blk_below (g := gb501) (o := .cells #[.int .i64 a2_0, .slice (some ad506) l2_1.length c2_1, .slice A2_2 l2_2.length c2_2] 33 (0, 0)) (by (with_reducible repeat (first | refine blk_drewN ?_ _ | refine blk_drew ?_ | refine blk_alloc ?_ _)); exact BK501.out) hb)
            have n3_ := Aside0.mk (below_step (by repeat (first | (with_reducible first | exact HB.out | apply below_alloc | apply pw_below_drewN | apply below_drew1 | refine below_set ?_ GE501.out) | exact HB.out)) hb)
            clear HO_7; clear HO_8; clear BK501; clear HB; have HO_7 := n0_; have HO_8 := n1_; have BK501 := n2_; have HB := n3_; clear n0_ n1_ n2_ n3_
            (try clear hb)
            (try clear hb2)
            (try clear hk)
            (try clear hi)
            refine hK.out _ _ ⟨(blk_cell BK501.out 0).trans rfl, (blk_cell BK501.out 1).trans rfl, (blk_cell BK501.out 2).trans rfl, ((HB.out.cell (World.block_lt_of_cell? w _ hw508_0)).trans hw508_0), HS4_⟩ (fun hHeld => ?_)
            clear hK K
            refine norm_ (a' := ?_) ?_ ?_
            rotate_left
            ·show Act.put _ (some 59) _ = _
             simp only [Act.put, sq1, sq2, sq3, i64_w, i32_w]; rfl
            refine last_ (i := 12) (N := some 60) (fT 13 15) rfl rfl (one_of HT_.out (by kernel_rfl)) (by decide) (fun K hK => ?_)
            refine value_ (w1 := ?_) (v := ?_) (by rfl) rfl ?_ ?_
            rotate_left 2
            ·go_simp
             constructor
             ·rfl
             ·rfl
            refine hK.out _ _ ?_
            clear hK K
            refine norm_ (a' := ?_) ?_ ?_
            rotate_left
            ·show Act.put _ (some 60) _ = _
             simp only [Act.put, sq1, sq2, sq3, i64_w, i32_w]; rfl
            refine last_ (i := 13) (N := some 61) (fT 14 15) rfl rfl (one_of HT_.out (by kernel_rfl)) (by decide) (fun K hK => ?_)
            refine Kd.R_append_step Kd.string (w0 := w) w.heap.size (by rfl) (.tmp 48) (.tmp 60) 30 9 (.string ⟨#[]⟩) 16 rfl Tryz.underlying30 info9 rfl (by decide) (by omega) u8 x8_2 t510 [.string t510] (fun _ => True) (fun _ => False) rfl rfl ?aP (fun _ hk => hk.elim) ?aF ?aO ?aB ?aS ?aL ?_
            (case aP => exact rfl)
            (case aB => exact (by repeat (first | (with_reducible first | exact HB.out | apply below_alloc | apply pw_below_drewN | apply below_drew1 | refine below_set ?_ GE501.out) | exact HB.out)))
            (case aF => exact (fun _ _ => trivial))
            (case aO => exact (by (with_reducible repeat (first | apply Kd.R_alloc | apply Kd.R_drewN | apply Kd.R_drew)); exact HO_8.out))
            (case aS => exact (below_size (by repeat (first | (with_reducible first | exact HB.out | apply below_alloc | apply pw_below_drewN | apply below_drew1 | refine below_set ?_ GE501.out) | exact HB.out))))
            (case aL => have := LMc24.out; omega)
            intro v512 w29 ho hb hg hat
            rw [← Ny511.out] at ho
            have n0_ := Aside0.mk (Kd.R_over' (by (with_reducible repeat (first | apply Kd.R_alloc | apply Kd.R_drewN | apply Kd.R_drew)); exact HO_7.out) (Kd.R_typed (by (with_reducible repeat (first | apply Kd.R_alloc | apply Kd.R_drewN | apply Kd.R_drew)); exact HO_8.out)) (by decide) hg)
            have n1_ := Aside0.mk (blk_grown (g := gb501) (o := .cells #[.int .i64 a2_0, .slice (some ad506) l2_1.length c2_1, .slice A2_2 l2_2.length c2_2] 33 (0, 0)) (by (with_reducible repeat (first | refine blk_drewN ?_ _ | refine blk_drew ?_ | refine blk_alloc ?_ _)); exact BK501.out) hg (Kd.R_ne HO_8.out BK501.out (by decide)))
            have n2_ := Aside0.mk (hb)
            have n3_ := Aside0.mk (ho)
            clear HO_7; clear BK501; clear HB; clear HO_8; have HO_7 := n0_; have BK501 := n1_; have HB := n2_; have HO513 := n3_; clear n0_ n1_ n2_ n3_; clear ho hb hg hat
            refine hK.out _ _ ?_
            clear hK K
            refine norm_ (a' := ?_) ?_ ?_
            rotate_left
            ·show Act.put _ (some 61) _ = _
             simp only [Act.put, sq1, sq2, sq3, i64_w, i32_w]; rfl
            refine pure_ (i := 14) (N := some 8) (v := ?_) (a' := ?_) (fT 15 15) rfl rfl (any_of HT_.out (by kernel_rfl)) (fun _ _ _ h => h) (Or.inl ⟨by rfl, ?_⟩) ?_ ?_
            rotate_left
            ·intro w'; go_simp; with_reducible rfl
            rotate_left
            ·simp only [Act.put, sq1, sq2, sq3, i64_w, i32_w]; rfl
            refine done_ (done_of HT_.out (by kernel_rfl)) ?_
            try go_wp2
            go_roundg k2
            case measure => have := HJ3.out; have := HK2.out; omega
            case rel => exact ⟨(y511), (wrap64 (x9_2 + 1)), (by first | rfl | (simp; done) | (simp [*]; done)), H', ⟨by have := HJ3.out; have := HK2.out; omega⟩, ⟨by (with_reducible repeat (first | apply Kd.R_alloc | apply Kd.R_drewN | apply Kd.R_drew)); exact HO_7.out⟩, ⟨by (with_reducible repeat (first | apply Kd.R_alloc | apply Kd.R_drewN | apply Kd.R_drew)); exact HO513.out⟩, ⟨by (with_reducible repeat (first | refine blk_drewN ?_ _ | refine blk_drew ?_ | refine blk_alloc ?_ _)); exact BK501.out⟩, ⟨by repeat (first | (with_reducible first | exact HB.out | apply below_alloc | apply pw_below_drewN | apply below_drew1 | refine below_set ?_ GE501.out) | exact HB.out)⟩⟩
           ·rw [if_neg c24] at H
            exact absurd H (by simp)
          ·rw [if_neg c22] at H
           exact absurd H (by simp)
         ·replace c21 := Bool.eq_false_iff.mpr c21
          subst c21
          have H1 : (some false) = some r := by rw [if_neg (show ¬ (false = true) by decide)] at H; exact H
          clear H; have H := H1; clear H1
          obtain rfl := Option.some.inj H
          have hcz30_0 : wr.cell? ⟨gb501, 0, none⟩ = some (.int .i64 a2_0) := (blk_cell BK501.out 0).trans rfl
          have hcz30_1 : wr.cell? ⟨gb501, 1, none⟩ = some (.slice A2_1 l2_1.length c2_1) := (blk_cell BK501.out 1).trans rfl
          have hcz30_2 : wr.cell? ⟨gb501, 2, none⟩ = some (.slice A2_2 l2_2.length c2_2) := (blk_cell BK501.out 2).trans rfl
          have hfz30_0 := blk_frozen BK501.out 0
          have hfz30_1 := blk_frozen BK501.out 1
          have hfz30_2 := blk_frozen BK501.out 2
          have p506 : 0 ≤ (x9_2 : Int) := of_decide_eq_true (by first | (with_reducible assumption) | assumption)
          have q506 : x9_2 < (l2_1.length : Int) := of_decide_eq_true (by first | (with_reducible assumption) | assumption)
          obtain ⟨ad506, e506, hx506_0⟩ := Kd.at_string HR2_1.out x9_2 p506 q506
          cases e506
          replace hx506_0 := (HB.out.cell (World.block_lt_of_cell? w _ hx506_0)).trans hx506_0
          replace p506 := eq_true p506
          replace q506 := eq_true q506
          go_wp2_with (first | ((with_reducible refine gate_callee (f := 115) rfl ?_); refine goesL_ (some 46) rfl rfl Tryz.func115 (by kernel_rfl) rfl #[.string (rdOf ByteArray.empty l2_1 x9_2)] rfl (by (try simp only [List.map_toArray, List.map_cons, List.map_nil]); first | done | rfl | (simp only [List.length_drop, List.length_take]; rfl)) ?_; (with_reducible refine (customhouseref01_Is.calls k2 (rdOf ByteArray.empty l2_1 x9_2) false _ A20.out).mono ?_); rintro e w' ⟨rfl, ⟨nd, rfl⟩⟩; refine ⟨_, rfl, ?_⟩))
          go_ret
          exact ⟨by first | rfl | (simp [errW_none, errW_some] <;> rfl) | (simp [*, errW_none, errW_some] <;> rfl), by repeat (first | (with_reducible first | exact HB.out | apply below_alloc | apply pw_below_drewN | apply below_drew1 | refine below_set ?_ GE501.out) | exact HB.out)⟩
        ·rw [if_neg c19] at H
         exact absurd H (by simp)
       ·rw [if_neg c18] at H
        exact absurd H (by simp)
      ·rw [if_neg c17] at H
       have c17b0 : decide (x9_2 < 18) = false := decide_eq_false c17
       clear c17
       have H' := Aside0.mk H
       clear H; go_wp2
       go_loopg [10] k2 (fun kq v10 w' => ∃ (x10_3 : Int), v10 = .int .i64 x10_3 ∧ Aside0 (customhouseref03_Verify.l1 kq a0 x8_2 x10_3 a2_0 l2_1 l2_2 = some r) ∧ Aside0 (kq ≤ k2) ∧ Aside0 (Kd.R Kd.string 9 w' w.heap.size (fun _ => True) u8 x8_2) ∧ Aside0 (w'.heap[gb501]? = some (.cells #[.int .i64 a2_0, (.slice A2_1 l2_1.length c2_1), (.slice A2_2 l2_2.length c2_2)] 33 (0, 0))) ∧ Aside0 (Below w.heap.size w w'))
       case atStart => exact ⟨(0), (by first | rfl | (simp; done) | (simp [*]; done)), H', ⟨Nat.le_refl _⟩, ⟨by (with_reducible repeat (first | apply Kd.R_alloc | apply Kd.R_drewN | apply Kd.R_drew)); exact HO_8.out⟩, ⟨by (with_reducible repeat (first | refine blk_drewN ?_ _ | refine blk_drew ?_ | refine blk_alloc ?_ _)); exact BK501.out⟩, ⟨by repeat (first | (with_reducible first | exact HB.out | apply below_alloc | apply pw_below_drewN | apply below_drew1 | refine below_set ?_ GE501.out) | exact HB.out)⟩⟩
       case round =>
        clear H'
        try clear c1
        try clear c2
        try clear p2
        try clear p5
        try clear q5
        try clear hx5
        try clear c6
        try clear c6b0
        try clear c6b1
        try clear p6
        try clear c7
        try clear c7b0
        try clear c7b1
        try clear c9
        try clear c9b0
        try clear c10
        try clear c11
        try clear c14
        try clear c17
        try clear c17b0
        try clear c18
        try clear c18b0
        try clear c19
        try clear c19b0
        try clear c21
        try clear c22
        try clear c22b0
        try clear c24
        try clear hcz25_0
        try clear hcz25_1
        try clear hcz25_2
        try clear hcz30_0
        try clear hcz30_1
        try clear hcz30_2
        try clear hfz25_0
        try clear hfz25_1
        try clear hfz25_2
        try clear hfz30_0
        try clear hfz30_1
        try clear hfz30_2
        try clear hx506_0
        try clear hx508_0
        try clear hx509_0
        try clear p2
        try clear p506
        try clear p508
        try clear p509
        try clear q506
        try clear q508
        try clear q509
        obtain ⟨x10_3, rfl, HA, HK3, HO_8, BK501, HB⟩ := hrel
        cases gk with
        | zero => exact absurd HA.out (by simp [customhouseref03_Verify.l1])
        | succ k3 =>
         have H := HA.out; clear HA
         simp only [customhouseref03_Verify.l1] at H
         by_cases c31 : x10_3 < (l2_2.length : Int)
         ·rw [if_pos c31] at H
          have c31b0 : decide (x10_3 < (l2_2.length : Int)) = true := decide_eq_true c31
          clear c31
          by_cases c32 : 0 ≤ x10_3
          ·rw [if_pos c32] at H
           have c32b0 : decide (0 ≤ x10_3) = true := decide_eq_true c32
           clear c32
           replace H := Option.bind_eq_some_iff.mp H
           obtain ⟨t515, A330, H⟩ := H
           replace H : (if t515 = true then (customhouseref03_Verify.l1 k3 a0 x8_2 (wrap64 (x10_3 + 1)) a2_0 l2_1 l2_2) else (some false)) = some r := H
           have A33 := Aside0.mk A330
           clear A330
           by_cases c34 : t515 = true
           ·subst c34
            have H1 : (customhouseref03_Verify.l1 k3 a0 x8_2 (wrap64 (x10_3 + 1)) a2_0 l2_1 l2_2) = some r := by rw [if_pos rfl] at H; exact H
            clear H; have H := H1; clear H1
            have H' := Aside0.mk H
            clear H
            have hcz35_0 : wr.cell? ⟨gb501, 0, none⟩ = some (.int .i64 a2_0) := (blk_cell BK501.out 0).trans rfl
            have hcz35_1 : wr.cell? ⟨gb501, 1, none⟩ = some (.slice A2_1 l2_1.length c2_1) := (blk_cell BK501.out 1).trans rfl
            have hcz35_2 : wr.cell? ⟨gb501, 2, none⟩ = some (.slice A2_2 l2_2.length c2_2) := (blk_cell BK501.out 2).trans rfl
            have hfz35_0 := blk_frozen BK501.out 0
            have hfz35_1 := blk_frozen BK501.out 1
            have hfz35_2 := blk_frozen BK501.out 2
            have p514 : 0 ≤ (x10_3 : Int) := of_decide_eq_true (by first | (with_reducible assumption) | assumption)
            have q514 : x10_3 < (l2_2.length : Int) := of_decide_eq_true (by first | (with_reducible assumption) | assumption)
            obtain ⟨ad514, e514, hx514_0⟩ := Kd.at_string HR2_2.out x10_3 p514 q514
            cases e514
            replace hx514_0 := (HB.out.cell (World.block_lt_of_cell? w _ hx514_0)).trans hx514_0
            replace p514 := eq_true p514
            replace q514 := eq_true q514
            go_wp2_with (first | ((with_reducible refine gate_callee (f := 115) rfl ?_); refine goesL_ (some 74) rfl rfl Tryz.func115 (by kernel_rfl) rfl #[.string (rdOf ByteArray.empty l2_2 x10_3)] rfl (by (try simp only [List.map_toArray, List.map_cons, List.map_nil]); first | done | rfl | (simp only [List.length_drop, List.length_take]; rfl)) ?_; (with_reducible refine (customhouseref01_Is.calls k3 (rdOf ByteArray.empty l2_2 x10_3) true _ A33.out).mono ?_); rintro e w' ⟨rfl, ⟨nd, rfl⟩⟩; refine ⟨_, rfl, ?_⟩))
            go_roundg k3
            case measure => have := HJ3.out; have := HK2.out; have := HK3.out; omega
            case rel => exact ⟨(wrap64 (x10_3 + 1)), (by first | rfl | (simp; done) | (simp [*]; done)), H', ⟨by have := HJ3.out; have := HK2.out; have := HK3.out; omega⟩, ⟨by (with_reducible repeat (first | apply Kd.R_alloc | apply Kd.R_drewN | apply Kd.R_drew)); exact HO_8.out⟩, ⟨by (with_reducible repeat (first | refine blk_drewN ?_ _ | refine blk_drew ?_ | refine blk_alloc ?_ _)); exact BK501.out⟩, ⟨by repeat (first | (with_reducible first | exact HB.out | apply below_alloc | apply pw_below_drewN | apply below_drew1 | refine below_set ?_ GE501.out) | exact HB.out)⟩⟩
           ·replace c34 := Bool.eq_false_iff.mpr c34
            subst c34
            have H1 : (some false) = some r := by rw [if_neg (show ¬ (false = true) by decide)] at H; exact H
            clear H; have H := H1; clear H1
            obtain rfl := Option.some.inj H
            have hcz36_0 : wr.cell? ⟨gb501, 0, none⟩ = some (.int .i64 a2_0) := (blk_cell BK501.out 0).trans rfl
            have hcz36_1 : wr.cell? ⟨gb501, 1, none⟩ = some (.slice A2_1 l2_1.length c2_1) := (blk_cell BK501.out 1).trans rfl
            have hcz36_2 : wr.cell? ⟨gb501, 2, none⟩ = some (.slice A2_2 l2_2.length c2_2) := (blk_cell BK501.out 2).trans rfl
            have hfz36_0 := blk_frozen BK501.out 0
            have hfz36_1 := blk_frozen BK501.out 1
            have hfz36_2 := blk_frozen BK501.out 2
            have p514 : 0 ≤ (x10_3 : Int) := of_decide_eq_true (by first | (with_reducible assumption) | assumption)
            have q514 : x10_3 < (l2_2.length : Int) := of_decide_eq_true (by first | (with_reducible assumption) | assumption)
            obtain ⟨ad514, e514, hx514_0⟩ := Kd.at_string HR2_2.out x10_3 p514 q514
            cases e514
            replace hx514_0 := (HB.out.cell (World.block_lt_of_cell? w _ hx514_0)).trans hx514_0
            replace p514 := eq_true p514
            replace q514 := eq_true q514
            go_wp2_with (first | ((with_reducible refine gate_callee (f := 115) rfl ?_); refine goesL_ (some 74) rfl rfl Tryz.func115 (by kernel_rfl) rfl #[.string (rdOf ByteArray.empty l2_2 x10_3)] rfl (by (try simp only [List.map_toArray, List.map_cons, List.map_nil]); first | done | rfl | (simp only [List.length_drop, List.length_take]; rfl)) ?_; (with_reducible refine (customhouseref01_Is.calls k3 (rdOf ByteArray.empty l2_2 x10_3) false _ A33.out).mono ?_); rintro e w' ⟨rfl, ⟨nd, rfl⟩⟩; refine ⟨_, rfl, ?_⟩))
            go_ret
            exact ⟨by first | rfl | (simp [errW_none, errW_some] <;> rfl) | (simp [*, errW_none, errW_some] <;> rfl), by repeat (first | (with_reducible first | exact HB.out | apply below_alloc | apply pw_below_drewN | apply below_drew1 | refine below_set ?_ GE501.out) | exact HB.out)⟩
          ·rw [if_neg c32] at H
           exact absurd H (by simp)
         ·rw [if_neg c31] at H
          have c31b0 : decide (x10_3 < (l2_2.length : Int)) = false := decide_eq_false c31
          clear c31
          replace H := Option.bind_eq_some_iff.mp H
          obtain ⟨t516, A370, H⟩ := H
          replace H : ((customhouseref01_List.f k3 x8_2).bind fun t517 => ((customhouseref02_Check.f k3 a0 t516 a2_0 t517 l2_2).bind fun t518 => (some t518))) = some r := H
          have A37 := Aside0.mk A370
          clear A370
          replace H := Option.bind_eq_some_iff.mp H
          obtain ⟨t517, A380, H⟩ := H
          replace H : ((customhouseref02_Check.f k3 a0 t516 a2_0 t517 l2_2).bind fun t518 => (some t518)) = some r := H
          have A38 := Aside0.mk A380
          clear A380
          replace H := Option.bind_eq_some_iff.mp H
          obtain ⟨t518, A390, H⟩ := H
          replace H : (some t518) = some r := H
          have A39 := Aside0.mk A390
          clear A390
          obtain rfl := Option.some.inj H
          have hcz40_0 : wr.cell? ⟨gb501, 0, none⟩ = some (.int .i64 a2_0) := (blk_cell BK501.out 0).trans rfl
          have hcz40_1 : wr.cell? ⟨gb501, 1, none⟩ = some (.slice A2_1 l2_1.length c2_1) := (blk_cell BK501.out 1).trans rfl
          have hcz40_2 : wr.cell? ⟨gb501, 2, none⟩ = some (.slice A2_2 l2_2.length c2_2) := (blk_cell BK501.out 2).trans rfl
          have hfz40_0 := blk_frozen BK501.out 0
          have hfz40_1 := blk_frozen BK501.out 1
          have hfz40_2 := blk_frozen BK501.out 2
          try go_wp2
          have n0_ := Aside0.mk (Kd.R_drew HO_8.out)
          have n1_ := Aside0.mk (blk_drew BK501.out)
          have n2_ := Aside0.mk (below_drew1 HB.out)
          clear HO_8; clear BK501; clear HB; have HO_8 := n0_; have BK501 := n1_; have HB := n2_; clear n0_ n1_ n2_
          refine start_ (n := 13) (S := fun w' => w'.cell? ⟨gb501, 0, none⟩ = some (.int .i64 a2_0) ∧ w'.cell? ⟨gb501, 1, none⟩ = some (.slice A2_1 l2_1.length c2_1) ∧ w'.cell? ⟨gb501, 2, none⟩ = some (.slice A2_2 l2_2.length c2_2)) (ds := []) (fT 0 13) (by kernel_rfl) rfl rfl ⟨(blk_cell BK501.out 0).trans rfl, (blk_cell BK501.out 1).trans rfl, (blk_cell BK501.out 2).trans rfl⟩ (fun hHeld => ?_); refine with_tabW customhouseref03_Verify.tab16 customhouseref03_Verify.bits16 (fun HT_ HW_ => ?_)
          generalize wr.drew = w41 at HO_8 BK501 HB hHeld ⊢
          refine pure_ (i := 0) (N := some 76) (v := ?_) (a' := ?_) (fT 1 13) rfl rfl (any_of HT_.out (by kernel_rfl)) (fun _ _ _ h => h) (Or.inl ⟨by rfl, ?_⟩) ?_ ?_
          rotate_left
          ·intro w'; go_simp; with_reducible rfl
          rotate_left
          ·simp only [Act.put, sq1, sq2, sq3, i64_w, i32_w]; rfl
          refine pure_ (i := 1) (N := some 77) (v := ?_) (a' := ?_) (fT 2 13) rfl rfl (any_of HT_.out (by kernel_rfl)) (fun _ _ _ h => h) (Or.inl ⟨by rfl, ?_⟩) ?_ ?_
          rotate_left
          ·intro w'; go_simp; with_reducible rfl
          rotate_left
          ·simp only [Act.put, sq1, sq2, sq3, i64_w, i32_w]; rfl
          refine pure_ (i := 5) (N := some 81) (v := ?_) (a' := ?_) #[tt,tt,ff,ff,ff,tt,ff,ff,ff,ff,ff,ff,ff] rfl rfl (any_of HT_.out (by kernel_rfl)) (fun _ _ _ h => h) (Or.inl ⟨by rfl, ?_⟩) ?_ ?_
          rotate_left
          ·intro w'; go_simp; with_reducible rfl
          rotate_left
          ·simp only [Act.put, sq1, sq2, sq3, i64_w, i32_w]; rfl
          refine pure_ (i := 7) (N := some 83) (v := ?_) (a' := ?_) #[tt,tt,ff,ff,ff,tt,ff,tt,ff,ff,ff,ff,ff] rfl rfl (any_of HT_.out (by kernel_rfl)) (fun _ _ _ h => h) (Or.inl ⟨by rfl, ?_⟩) ?_ ?_
          rotate_left
          ·intro w'; go_simp; with_reducible rfl
          rotate_left
          ·simp only [Act.put, sq1, sq2, sq3, i64_w, i32_w]; rfl
          refine pure_ (i := 9) (N := some 85) (v := ?_) (a' := ?_) #[tt,tt,ff,ff,ff,tt,ff,tt,ff,tt,ff,ff,ff] rfl rfl (any_of HT_.out (by kernel_rfl)) (fun _ _ _ h => h) (Or.inl ⟨by rfl, ?_⟩) ?_ ?_
          rotate_left
          ·intro w'; go_simp; with_reducible rfl
          rotate_left
          ·simp only [Act.put, sq1, sq2, sq3, i64_w, i32_w]; rfl
          refine take_ (i := 2) (N := some 78) (v := ?_) (a' := ?_) #[tt,tt,tt,ff,ff,tt,ff,tt,ff,tt,ff,ff,ff] rfl rfl (take_ofW HT_.out HW_.out (by kernel_rfl)) (fun _ _ _ h => h) (Or.inl ⟨by rfl, ?_⟩) hHeld ?_ ?_
          rotate_left
          ·rintro w' ⟨s0, s1, s2⟩; go_simp; with_reducible rfl
          rotate_left
          ·simp only [Act.put, sq1, sq2, sq3, i64_w, i32_w]; rfl
          refine pure_ (i := 3) (N := some 79) (v := ?_) (a' := ?_) #[tt,tt,tt,tt,ff,tt,ff,tt,ff,tt,ff,ff,ff] rfl rfl (any_of HT_.out (by kernel_rfl)) (fun _ _ _ h => h) (Or.inl ⟨by rfl, ?_⟩) ?_ ?_
          rotate_left
          ·intro w'; go_simp; with_reducible rfl
          rotate_left
          ·simp only [Act.put, sq1, sq2, sq3, i64_w, i32_w]; rfl
          refine take_ (i := 6) (N := some 82) (v := ?_) (a' := ?_) #[tt,tt,tt,tt,ff,tt,tt,tt,ff,tt,ff,ff,ff] rfl rfl (take_ofW HT_.out HW_.out (by kernel_rfl)) (fun _ _ _ h => h) (Or.inl ⟨by rfl, ?_⟩) hHeld ?_ ?_
          rotate_left
          ·rintro w' ⟨s0, s1, s2⟩; go_simp; with_reducible rfl
          rotate_left
          ·simp only [Act.put, sq1, sq2, sq3, i64_w, i32_w]; rfl
          refine take_ (i := 10) (N := some 86) (v := ?_) (a' := ?_) #[tt,tt,tt,tt,ff,tt,tt,tt,ff,tt,tt,ff,ff] rfl rfl (take_ofW HT_.out HW_.out (by kernel_rfl)) (fun _ _ _ h => h) (Or.inl ⟨by rfl, ?_⟩) hHeld ?_ ?_
          rotate_left
          ·rintro w' ⟨s0, s1, s2⟩; go_simp; with_reducible rfl
          rotate_left
          ·simp only [Act.put, sq1, sq2, sq3, i64_w, i32_w]; rfl
          refine one_ (i := 4) (N := some 80) #[tt,tt,tt,tt,tt,tt,tt,tt,ff,tt,tt,ff,ff] rfl rfl (one_of HT_.out (by kernel_rfl)) (by decide) (fun K hK => ?_)
          refine goes_ Tryz.func107 (by kernel_rfl) rfl #[.int .i64 (l2_2.length : Int)] (by rfl) rfl rfl (by (try simp only [List.map_toArray, List.map_cons, List.map_nil]); first | done | rfl | (simp only [List.length_drop, List.length_take]; rfl)) ?_
          with_reducible refine (customhouseref03_Power.calls k3 (l2_2.length : Int) t516 _ A37.out).mono ?_
          rintro e w' ⟨rfl, ⟨nd, rfl⟩⟩
          refine ⟨_, rfl, ?_⟩
          obtain ⟨Ao42, co42, eo42⟩ := Kd.R_slice HO_8.out
          (first | subst eo42 | (injection eo42 with f1_ f2_ f3_; have f4_ := f1_.symm; have f5_ := f3_.symm; clear f1_ f2_ f3_; subst f4_; subst f5_))
          refine hK.out _ _ ⟨(blk_cell BK501.out 0).trans rfl, (blk_cell BK501.out 1).trans rfl, (blk_cell BK501.out 2).trans rfl⟩ (fun hHeld => ?_)
          clear hK K
          refine norm_ (a' := ?_) ?_ ?_
          rotate_left
          ·show Act.put _ (some 80) _ = _
           simp only [Act.put, sq1, sq2, sq3, i64_w, i32_w]; rfl
          refine one_ (i := 8) (N := some 84) (fT 11 13) rfl rfl (one_of HT_.out (by kernel_rfl)) (by decide) (fun K hK => ?_)
          refine goes_ Tryz.func116 (by kernel_rfl) rfl #[.slice Ao42 x8_2.length co42] (by rfl) rfl rfl (by (try simp only [List.map_toArray, List.map_cons, List.map_nil]); first | done | rfl | (simp only [List.length_drop, List.length_take]; rfl)) ?_
          with_reducible refine (customhouseref01_List.calls k3 _ _ x8_2 t517 _ ?side1 ?side2 A38.out).mono ?_
          (case side1 => repeat (first | exact (Kd.R_reads' HO_8.out).2.2 | (with_reducible refine Kd.C_alloc ?_ _) | (with_reducible refine Kd.C_drewN ?_ _) | (with_reducible refine Kd.C_drew ?_)))
          (case side2 => exact (Kd.R_reads' HO_8.out).2.1)
          rintro e w43 ⟨rfl, hb⟩
          refine ⟨_, rfl, ?_⟩
          have n0_ := Aside0.mk (Kd.R_below (by (with_reducible repeat (first | apply Kd.R_alloc | apply Kd.R_drewN | apply Kd.R_drew)); exact HO_8.out) hb)
          have n1_ := Aside0.mk (blk_below (g := gb501) (o := .cells #[.int .i64 a2_0, .slice A2_1 l2_1.length c2_1, .slice A2_2 l2_2.length c2_2] 33 (0, 0)) (by (with_reducible repeat (first | refine blk_drewN ?_ _ | refine blk_drew ?_ | refine blk_alloc ?_ _)); exact BK501.out) hb)
          have n2_ := Aside0.mk (below_step (by repeat (first | (with_reducible first | exact HB.out | apply below_alloc | apply pw_below_drewN | apply below_drew1 | refine below_set ?_ GE501.out) | exact HB.out)) hb)
          clear HO_8; clear BK501; clear HB; have HO_8 := n0_; have BK501 := n1_; have HB := n2_; clear n0_ n1_ n2_
          (try clear hb)
          (try clear hb2)
          (try clear hk)
          (try clear hi)
          refine hK.out _ _ ⟨(blk_cell BK501.out 0).trans rfl, (blk_cell BK501.out 1).trans rfl, (blk_cell BK501.out 2).trans rfl⟩ (fun hHeld => ?_)
          clear hK K
          refine norm_ (a' := ?_) ?_ ?_
          rotate_left
          ·show Act.put _ (some 84) _ = _
           simp only [Act.put, sq1, sq2, sq3, i64_w, i32_w]; rfl
          refine one_ (i := 11) (N := some 87) (fT 12 13) rfl rfl (one_of HT_.out (by kernel_rfl)) (by decide) (fun K hK => ?_)
          refine goes_ Tryz.func33 (by kernel_rfl) rfl #[.string a0, .int .i64 t516, .int .i64 a2_0, .string t517, .slice A2_2 l2_2.length c2_2] (by rfl) rfl rfl (by (try simp only [List.map_toArray, List.map_cons, List.map_nil]); first | done | rfl | (simp only [List.length_drop, List.length_take]; rfl)) ?_
          with_reducible refine (customhouseref02_Check.calls k3 a0 t516 a2_0 t517 _ _ l2_2 t518 _ ?side1 ?side2 A39.out).mono ?_
          (case side1 => repeat (first | exact (Kd.C_below HR2_2.out HB.out) | (with_reducible refine Kd.C_alloc ?_ _) | (with_reducible refine Kd.C_drewN ?_ _) | (with_reducible refine Kd.C_drew ?_)))
          (case side2 => exact HC2_2.out)
          rintro e w44 ⟨rfl, hb⟩
          refine ⟨_, rfl, ?_⟩
          have n0_ := Aside0.mk (Kd.R_below (by (with_reducible repeat (first | apply Kd.R_alloc | apply Kd.R_drewN | apply Kd.R_drew)); exact HO_8.out) hb)
          have n1_ := Aside0.mk (blk_below (g := gb501) (o := .cells #[.int .i64 a2_0, .slice A2_1 l2_1.length c2_1, .slice A2_2 l2_2.length c2_2] 33 (0, 0)) (by (with_reducible repeat (first | refine blk_drewN ?_ _ | refine blk_drew ?_ | refine blk_alloc ?_ _)); exact BK501.out) hb)
          have n2_ := Aside0.mk (below_step (by repeat (first | (with_reducible first | exact HB.out | apply below_alloc | apply pw_below_drewN | apply below_drew1 | refine below_set ?_ GE501.out) | exact HB.out)) hb)
          clear HO_8; clear BK501; clear HB; have HO_8 := n0_; have BK501 := n1_; have HB := n2_; clear n0_ n1_ n2_
          (try clear hb)
          (try clear hb2)
          (try clear hk)
          (try clear hi)
          refine hK.out _ _ ⟨(blk_cell BK501.out 0).trans rfl, (blk_cell BK501.out 1).trans rfl, (blk_cell BK501.out 2).trans rfl⟩ (fun hHeld => ?_)
          clear hK K
          refine norm_ (a' := ?_) ?_ ?_
          rotate_left
          ·show Act.put _ (some 87) _ = _
           simp only [Act.put, sq1, sq2, sq3, i64_w, i32_w]; rfl
          refine pure_ (i := 12) (N := some 6) (v := ?_) (a' := ?_) (fT 13 13) rfl rfl (any_of HT_.out (by kernel_rfl)) (fun _ _ _ h => h) (Or.inl ⟨by rfl, ?_⟩) ?_ ?_
          rotate_left
          ·intro w'; go_simp; with_reducible rfl
          rotate_left
          ·simp only [Act.put, sq1, sq2, sq3, i64_w, i32_w]; rfl
          refine done_ (done_of HT_.out (by kernel_rfl)) ?_
          try go_wp2
          go_ret
          exact ⟨by first | rfl | (simp [errW_none, errW_some] <;> rfl) | (simp [*, errW_none, errW_some] <;> rfl), by repeat (first | (with_reducible first | exact HB.out | apply below_alloc | apply pw_below_drewN | apply below_drew1 | refine below_set ?_ GE501.out) | exact HB.out)⟩
end Go.Proofs.YtdlipbfcadmhjaaGreatDoor.PG3
