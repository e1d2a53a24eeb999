/- Written by a program of this session's over the kit's print: the functions that a law comes to as plain Lean functions, and that Go's code computes them. Nothing is assumed. -/
import Derived.Test.YtdlipbfcadmhjaaGreatDoorPG3x0
import Derived.Test.YtdlipbfcadmhjaaGreatDoorPG3x10
import Derived.Test.YtdlipbfcadmhjaaGreatDoorPG3x15
import Derived.Test.YtdlipbfcadmhjaaGreatDoorPG3x16
namespace Go.Proofs.YtdlipbfcadmhjaaGreatDoor.PG3
open Go.RowKit Go.Proofs.YtdlipbfcadmhjaaGreatDoorW.PrintWords Go.Proofs.YtdlipbfcadmhjaaGreatDoorW.PrintLast Go.Proofs.YtdlipbfcadmhjaaGreatDoorW.PrintMore
attribute [local go_sem] max2_int min2_int max_two min_two max_three min_three max_four min_four
set_option linter.unusedVariables false
set_option linter.unusedSimpArgs false
def customhouseref02_up.f : Nat → Int → Int → ByteArray → List ByteArray → Option (ByteArray)
  | 0, _, _, _, _ => none
  | k + 1, a0, a1, a2, l3 => if a0 = 1 then (some a2) else ((customhouseref02_Half.f k a0).bind fun t348 => (if 0 ≤ (wrap64 ((l3.length : Int) - 1)) then (if (wrap64 ((l3.length : Int) - 1)) < (l3.length : Int) then (if (wrap64 ((l3.length : Int) - 1)) ≤ (l3.length : Int) then (if a1 < t348 then ((customhouseref02_up.f k t348 a1 a2 (l3.take ((wrap64 ((l3.length : Int) - 1)) : Int).toNat)).bind fun t351 => ((customhouseref02_node.f k t351 (rdOf ByteArray.empty l3 (wrap64 ((l3.length : Int) - 1)))).bind fun t352 => (some t352))) else ((customhouseref02_up.f k (wrap64 (a0 - t348)) (wrap64 (a1 - t348)) a2 (l3.take ((wrap64 ((l3.length : Int) - 1)) : Int).toNat)).bind fun t353 => ((customhouseref02_node.f k (rdOf ByteArray.empty l3 (wrap64 ((l3.length : Int) - 1))) t353).bind fun t354 => (some t354)))) else (none)) else (none)) else (none)))
set_option maxHeartbeats 8000000 in
set_option maxRecDepth 100000 in
theorem customhouseref02_up.calls (k : Nat) : ∀ (a0 : Int) (a1 : Int) (a2 : ByteArray) (A3 : Option Addr) (c3 : Nat) (l3 : List ByteArray) (r : ByteArray) (w : World) (hr3 : Kd.C Kd.string w A3 l3.length l3) (hc3 : l3.length ≤ c3) (h : customhouseref02_up.f k a0 a1 a2 l3 = some r),
    Calls Tryz.prog 98 #[.int .i64 a0, .int .i64 a1, .string a2, .slice A3 l3.length c3] w fun e w' => e = .returned (.string r) ∧ Below w.heap.size w w' := by
 induction k using Nat.strongRecOn with
 | _ k ih =>
 intro a0 a1 a2 A3 c3 l3 r w hr3 hc3 h
 cases k with
 | zero => exact absurd h (by simp [customhouseref02_up.f])
 | succ k =>
 simp only [customhouseref02_up.f] at h
 have HR3 := Aside0.mk hr3
 have HC3 := Aside0.mk hc3
 clear hr3 hc3
 have HB := Aside0.mk (Below.refl w.heap.size w)
 have H : (if a0 = 1 then (some a2) else ((customhouseref02_Half.f k a0).bind fun t348 => (if 0 ≤ (wrap64 ((l3.length : Int) - 1)) then (if (wrap64 ((l3.length : Int) - 1)) < (l3.length : Int) then (if (wrap64 ((l3.length : Int) - 1)) ≤ (l3.length : Int) then (if a1 < t348 then ((customhouseref02_up.f k t348 a1 a2 (l3.take ((wrap64 ((l3.length : Int) - 1)) : Int).toNat)).bind fun t351 => ((customhouseref02_node.f k t351 (rdOf ByteArray.empty l3 (wrap64 ((l3.length : Int) - 1)))).bind fun t352 => (some t352))) else ((customhouseref02_up.f k (wrap64 (a0 - t348)) (wrap64 (a1 - t348)) a2 (l3.take ((wrap64 ((l3.length : Int) - 1)) : Int).toNat)).bind fun t353 => ((customhouseref02_node.f k (rdOf ByteArray.empty l3 (wrap64 ((l3.length : Int) - 1))) t353).bind fun t354 => (some t354)))) else (none)) else (none)) else (none)))) = some r := h
 clear h
 by_cases c5 : a0 = 1
 ·rw [if_pos c5] at H
  have c5b0 : (a0 == 1) = true := beq_iff_eq.mpr c5
  have c5b1 : (a0 != 1) = false := bne_eq_false_iff_eq.mpr c5
  clear c5
  obtain rfl := Option.some.inj H
  go_enter Tryz.func98, Tryz.ntmps98
  go_wp2; go_ret
  exact ⟨by first | rfl | (simp [errW_none, errW_some] <;> rfl) | (simp [*, errW_none, errW_some] <;> rfl), by repeat (first | (with_reducible first | exact HB.out | apply below_alloc | apply pw_below_drewN | apply below_drew1) | exact HB.out)⟩
 ·rw [if_neg c5] at H
  have c5b0 : (a0 == 1) = false := beq_eq_false_iff_ne.mpr c5
  have c5b1 : (a0 != 1) = true := bne_iff_ne.mpr c5
  replace H := Option.bind_eq_some_iff.mp H
  obtain ⟨t348, A60, H⟩ := H
  replace H : (if 0 ≤ (wrap64 ((l3.length : Int) - 1)) then (if (wrap64 ((l3.length : Int) - 1)) < (l3.length : Int) then (if (wrap64 ((l3.length : Int) - 1)) ≤ (l3.length : Int) then (if a1 < t348 then ((customhouseref02_up.f k t348 a1 a2 (l3.take ((wrap64 ((l3.length : Int) - 1)) : Int).toNat)).bind fun t351 => ((customhouseref02_node.f k t351 (rdOf ByteArray.empty l3 (wrap64 ((l3.length : Int) - 1)))).bind fun t352 => (some t352))) else ((customhouseref02_up.f k (wrap64 (a0 - t348)) (wrap64 (a1 - t348)) a2 (l3.take ((wrap64 ((l3.length : Int) - 1)) : Int).toNat)).bind fun t353 => ((customhouseref02_node.f k (rdOf ByteArray.empty l3 (wrap64 ((l3.length : Int) - 1))) t353).bind fun t354 => (some t354)))) else (none)) else (none)) else (none)) = some r := H
  have A6 := Aside0.mk A60
  clear A60
  obtain ⟨ji7, hji7⟩ : ∃ j_ : Int, (wrap64 ((l3.length : Int) - 1)) = j_ := ⟨_, rfl⟩
  replace H : (if 0 ≤ (ji7) then (if (ji7) < (l3.length : Int) then (if (ji7) ≤ (l3.length : Int) then (if a1 < t348 then ((customhouseref02_up.f k t348 a1 a2 (l3.take ((ji7) : Int).toNat)).bind fun t351 => ((customhouseref02_node.f k t351 (rdOf ByteArray.empty l3 (ji7))).bind fun t352 => (some t352))) else ((customhouseref02_up.f k (wrap64 (a0 - t348)) (wrap64 (a1 - t348)) a2 (l3.take ((ji7) : Int).toNat)).bind fun t353 => ((customhouseref02_node.f k (rdOf ByteArray.empty l3 (ji7)) t353).bind fun t354 => (some t354)))) else (none)) else (none)) else (none)) = some r := by first | (rw [hji7] at H; exact H) | (simp only [hji7] at H ⊢; exact H)
  (try rw [hji7] at A6)
  have hji7w : (IntKind.i64.wrap ((l3.length : Int) - 1)) = ji7 := (i64_w _).trans hji7
  by_cases c8 : 0 ≤ (ji7)
  ·rw [if_pos c8] at H
   have c8b0 : decide (0 ≤ (ji7)) = true := decide_eq_true c8
   clear c8
   by_cases c9 : (ji7) < (l3.length : Int)
   ·rw [if_pos c9] at H
    have c9b0 : decide ((ji7) < (l3.length : Int)) = true := decide_eq_true c9
    clear c9
    have c10b0 := eq_true (of_decide_eq_true (by first | (with_reducible assumption) | assumption) : 0 ≤ (ji7))
    by_cases c11 : (ji7) ≤ (l3.length : Int)
    ·rw [if_pos c11] at H
     have c11b0 := eq_true c11
     have c11b1 : decide ((ji7) ≤ (l3.length : Int)) = true := decide_eq_true c11
     clear c11
     by_cases c12 : a1 < t348
     ·rw [if_pos c12] at H
      have c12b0 : decide (a1 < t348) = true := decide_eq_true c12
      clear c12
      replace H := Option.bind_eq_some_iff.mp H
      obtain ⟨t351, A130, H⟩ := H
      replace H : ((customhouseref02_node.f k t351 (rdOf ByteArray.empty l3 (ji7))).bind fun t352 => (some t352)) = some r := H
      have A13 := Aside0.mk A130
      clear A130
      replace H := Option.bind_eq_some_iff.mp H
      obtain ⟨t352, A140, H⟩ := H
      replace H : (some t352) = some r := H
      have A14 := Aside0.mk A140
      clear A140
      obtain rfl := Option.some.inj H
      go_enter Tryz.func98, Tryz.ntmps98
      go_wp2_with (first | ((with_reducible refine gate_callee (f := 90) rfl ?_); refine goesL_ (some 16) rfl rfl Tryz.func90 (by kernel_rfl) rfl #[.int .i64 a0] rfl (by (try simp only [List.map_toArray, List.map_cons, List.map_nil]); first | done | rfl | (simp only [List.length_drop, List.length_take]; rfl)) ?_; (with_reducible refine (customhouseref02_Half.calls k a0 t348 _ A6.out).mono ?_); rintro e w' ⟨rfl, ⟨nd, rfl⟩⟩; refine ⟨_, rfl, ?_⟩; have p349 : 0 ≤ ((ji7) : Int) := of_decide_eq_true (by first | (with_reducible assumption) | assumption); have q349 : (ji7) < (l3.length : Int) := of_decide_eq_true (by first | (with_reducible assumption) | assumption); obtain ⟨ad349, e349, hx349_0⟩ := Kd.at_string HR3.out (ji7) p349 q349; cases e349; replace p349 := eq_true p349; replace q349 := eq_true q349; obtain ⟨i015, hi015, _, hsz15, _⟩ := info_parts info9; obtain ⟨hcut15, hA15, hC15⟩ := print_take_of (P := Tryz.prog) Value.string (⟨#[]⟩ : ByteArray) 30 9 .i64 Tryz.underlying30 hi015 hsz15 (some ad349) c3 l3 (ji7) (of_decide_eq_true (by first | (with_reducible assumption) | assumption)) (of_decide_eq_true (by first | (with_reducible assumption) | assumption)) HC3.out; have HR350 := Aside0.mk (Kd.C_of_reads (h1 := fun _ => rfl) (hA15 _ (Kd.reads_of_C HR3.out))); have HC350 := Aside0.mk hC15; clear hA15 hC15 hi015 hsz15) | ((with_reducible refine gate_callee (f := 98) rfl ?_); refine goesL_ (some 35) rfl rfl Tryz.func98 (by kernel_rfl) rfl #[.int .i64 t348, .int .i64 a1, .string a2, .slice (some ad349) (l3.take ((ji7) : Int).toNat).length c3] rfl (by (try simp only [List.map_toArray, List.map_cons, List.map_nil]); first | done | (rw [show (l3.take ((ji7) : Int).toNat).length = (ji7).toNat from (by rw [List.length_take]; have h_ : ((ji7) : Int) ≤ (l3.length : Int) := of_decide_eq_true (by first | (with_reducible assumption) | assumption); omega)] <;> rfl) | (simp only [hji7]; rfl) | rfl | (simp only [List.length_drop, List.length_take]; rfl)) ?_; (with_reducible refine (ih k (by omega) t348 a1 a2 _ _ (l3.take ((ji7) : Int).toNat) t351 _ ?side1 ?side2 A13.out).mono ?_); (case side1 => repeat (first | exact HR350.out | (with_reducible refine Kd.C_alloc ?_ _) | (with_reducible refine Kd.C_drewN ?_ _) | (with_reducible refine Kd.C_drew ?_))); (case side2 => exact HC350.out); rintro e w16 ⟨rfl, hb⟩; refine ⟨_, rfl, ?_⟩; have n0_ := Aside0.mk (below_step (by repeat (first | (with_reducible first | exact HB.out | apply below_alloc | apply pw_below_drewN | apply below_drew1) | exact HB.out)) hb); clear HB; have HB := n0_; clear n0_; (try clear hb); (try clear hb2); (try clear hk); (try clear hi)) | ((with_reducible refine gate_callee (f := 91) rfl ?_); refine goesL_ (some 37) rfl rfl Tryz.func91 (by kernel_rfl) rfl #[.string t351, .string (rdOf ByteArray.empty l3 (ji7))] rfl (by (try simp only [List.map_toArray, List.map_cons, List.map_nil]); first | done | (simp only [hji7]; rfl) | rfl | (simp only [List.length_drop, List.length_take]; rfl)) ?_; (with_reducible refine (customhouseref02_node.calls k t351 (rdOf ByteArray.empty l3 (ji7)) t352 _ A14.out).mono ?_); rintro e w17 ⟨rfl, hb⟩; refine ⟨_, rfl, ?_⟩; have n0_ := Aside0.mk (below_step (by repeat (first | (with_reducible first | exact HB.out | apply below_alloc | apply pw_below_drewN | apply below_drew1) | exact HB.out)) hb); clear HB; have HB := n0_; clear n0_; (try clear hb); (try clear hb2); (try clear hk); (try clear hi)))
      go_ret
      exact ⟨by first | rfl | (simp [errW_none, errW_some] <;> rfl) | (simp only [← hji7]; first | rfl | (simp [errW_none, errW_some] <;> rfl)) | (simp [*, errW_none, errW_some] <;> rfl), by repeat (first | (with_reducible first | exact HB.out | apply below_alloc | apply pw_below_drewN | apply below_drew1) | exact HB.out)⟩
     ·rw [if_neg c12] at H
      have c12b0 : decide (a1 < t348) = false := decide_eq_false c12
      clear c12
      replace H := Option.bind_eq_some_iff.mp H
      obtain ⟨t353, A180, H⟩ := H
      replace H : ((customhouseref02_node.f k (rdOf ByteArray.empty l3 (ji7)) t353).bind fun t354 => (some t354)) = some r := H
      have A18 := Aside0.mk A180
      clear A180
      replace H := Option.bind_eq_some_iff.mp H
      obtain ⟨t354, A190, H⟩ := H
      replace H : (some t354) = some r := H
      have A19 := Aside0.mk A190
      clear A190
      obtain rfl := Option.some.inj H
      go_enter Tryz.func98, Tryz.ntmps98
      go_wp2_with (first | ((with_reducible refine gate_callee (f := 90) rfl ?_); refine goesL_ (some 16) rfl rfl Tryz.func90 (by kernel_rfl) rfl #[.int .i64 a0] rfl (by (try simp only [List.map_toArray, List.map_cons, List.map_nil]); first | done | rfl | (simp only [List.length_drop, List.length_take]; rfl)) ?_; (with_reducible refine (customhouseref02_Half.calls k a0 t348 _ A6.out).mono ?_); rintro e w' ⟨rfl, ⟨nd, rfl⟩⟩; refine ⟨_, rfl, ?_⟩; have p349 : 0 ≤ ((ji7) : Int) := of_decide_eq_true (by first | (with_reducible assumption) | assumption); have q349 : (ji7) < (l3.length : Int) := of_decide_eq_true (by first | (with_reducible assumption) | assumption); obtain ⟨ad349, e349, hx349_0⟩ := Kd.at_string HR3.out (ji7) p349 q349; cases e349; replace p349 := eq_true p349; replace q349 := eq_true q349; obtain ⟨i020, hi020, _, hsz20, _⟩ := info_parts info9; obtain ⟨hcut20, hA20, hC20⟩ := print_take_of (P := Tryz.prog) Value.string (⟨#[]⟩ : ByteArray) 30 9 .i64 Tryz.underlying30 hi020 hsz20 (some ad349) c3 l3 (ji7) (of_decide_eq_true (by first | (with_reducible assumption) | assumption)) (of_decide_eq_true (by first | (with_reducible assumption) | assumption)) HC3.out; have HR350 := Aside0.mk (Kd.C_of_reads (h1 := fun _ => rfl) (hA20 _ (Kd.reads_of_C HR3.out))); have HC350 := Aside0.mk hC20; clear hA20 hC20 hi020 hsz20) | ((with_reducible refine gate_callee (f := 98) rfl ?_); refine goesL_ (some 47) rfl rfl Tryz.func98 (by kernel_rfl) rfl #[.int .i64 (wrap64 (a0 - t348)), .int .i64 (wrap64 (a1 - t348)), .string a2, .slice (some ad349) (l3.take ((ji7) : Int).toNat).length c3] rfl (by (try simp only [List.map_toArray, List.map_cons, List.map_nil]); first | done | (rw [show (l3.take ((ji7) : Int).toNat).length = (ji7).toNat from (by rw [List.length_take]; have h_ : ((ji7) : Int) ≤ (l3.length : Int) := of_decide_eq_true (by first | (with_reducible assumption) | assumption); omega)] <;> rfl) | (simp only [hji7]; rfl) | rfl | (simp only [List.length_drop, List.length_take]; rfl)) ?_; (with_reducible refine (ih k (by omega) (wrap64 (a0 - t348)) (wrap64 (a1 - t348)) a2 _ _ (l3.take ((ji7) : Int).toNat) t353 _ ?side1 ?side2 A18.out).mono ?_); (case side1 => repeat (first | exact HR350.out | (with_reducible refine Kd.C_alloc ?_ _) | (with_reducible refine Kd.C_drewN ?_ _) | (with_reducible refine Kd.C_drew ?_))); (case side2 => exact HC350.out); rintro e w21 ⟨rfl, hb⟩; refine ⟨_, rfl, ?_⟩; have n0_ := Aside0.mk (below_step (by repeat (first | (with_reducible first | exact HB.out | apply below_alloc | apply pw_below_drewN | apply below_drew1) | exact HB.out)) hb); clear HB; have HB := n0_; clear n0_; (try clear hb); (try clear hb2); (try clear hk); (try clear hi)) | ((with_reducible refine gate_callee (f := 91) rfl ?_); refine goesL_ (some 48) rfl rfl Tryz.func91 (by kernel_rfl) rfl #[.string (rdOf ByteArray.empty l3 (ji7)), .string t353] rfl (by (try simp only [List.map_toArray, List.map_cons, List.map_nil]); first | done | (simp only [hji7]; rfl) | rfl | (simp only [List.length_drop, List.length_take]; rfl)) ?_; (with_reducible refine (customhouseref02_node.calls k (rdOf ByteArray.empty l3 (ji7)) t353 t354 _ A19.out).mono ?_); rintro e w22 ⟨rfl, hb⟩; refine ⟨_, rfl, ?_⟩; have n0_ := Aside0.mk (below_step (by repeat (first | (with_reducible first | exact HB.out | apply below_alloc | apply pw_below_drewN | apply below_drew1) | exact HB.out)) hb); clear HB; have HB := n0_; clear n0_; (try clear hb); (try clear hb2); (try clear hk); (try clear hi)))
      go_ret
      exact ⟨by first | rfl | (simp [errW_none, errW_some] <;> rfl) | (simp only [← hji7]; first | rfl | (simp [errW_none, errW_some] <;> rfl)) | (simp [*, errW_none, errW_some] <;> rfl), by repeat (first | (with_reducible first | exact HB.out | apply below_alloc | apply pw_below_drewN | apply below_drew1) | exact HB.out)⟩
    ·rw [if_neg c11] at H
     exact absurd H (by simp)
   ·rw [if_neg c9] at H
    exact absurd H (by simp)
  ·rw [if_neg c8] at H
   exact absurd H (by simp)
def customhouseref02_Check.j0 : Nat → ByteArray → Int → Int → ByteArray → List ByteArray → Bool → Option (Bool)
  | 0, _, _, _, _, _, _ => none
  | k + 1, x0, x1, x2, x3, x4, x34 => if x34 = true then (some false) else ((customhouseref02_leaf.f k x3).bind fun t357 => ((customhouseref02_up.f k x1 x2 t357 x4).bind fun t358 => (some (t358.toList == x0.toList))))
def customhouseref02_Check.f (k : Nat) (a0 : ByteArray) (a1 : Int) (a2 : Int) (a3 : ByteArray) (l4 : List ByteArray) : Option (Bool) := if a1 > 1000000 then (customhouseref02_Check.j0 k a0 a1 a2 a3 l4 true) else (if a2 < 0 then (customhouseref02_Check.j0 k a0 a1 a2 a3 l4 true) else (if a2 ≥ a1 then (customhouseref02_Check.j0 k a0 a1 a2 a3 l4 true) else ((customhouseref02_length.f k a1 a2).bind fun t355 => (if (l4.length : Int) = t355 then ((customhouseref02_digests.f k l4).bind fun t356 => (customhouseref02_Check.j0 k a0 a1 a2 a3 l4 (!t356))) else (customhouseref02_Check.j0 k a0 a1 a2 a3 l4 true)))))
set_option maxHeartbeats 8000000 in
set_option maxRecDepth 100000 in
theorem customhouseref02_Check.calls (k : Nat) (a0 : ByteArray) (a1 : Int) (a2 : Int) (a3 : ByteArray) (A4 : Option Addr) (c4 : Nat) (l4 : List ByteArray) (r : Bool) (w : World) (hr4 : Kd.C Kd.string w A4 l4.length l4) (hc4 : l4.length ≤ c4) (h : customhouseref02_Check.f k a0 a1 a2 a3 l4 = some r) :
    Calls Tryz.prog 33 #[.string a0, .int .i64 a1, .int .i64 a2, .string a3, .slice A4 l4.length c4] w fun e w' => e = .returned (.bool r) ∧ Below w.heap.size w w' := by
 have HR4 := Aside0.mk hr4
 have HC4 := Aside0.mk hc4
 clear hr4 hc4
 have HB := Aside0.mk (Below.refl w.heap.size w)
 have H : (if a1 > 1000000 then (customhouseref02_Check.j0 k a0 a1 a2 a3 l4 true) else (if a2 < 0 then (customhouseref02_Check.j0 k a0 a1 a2 a3 l4 true) else (if a2 ≥ a1 then (customhouseref02_Check.j0 k a0 a1 a2 a3 l4 true) else ((customhouseref02_length.f k a1 a2).bind fun t355 => (if (l4.length : Int) = t355 then ((customhouseref02_digests.f k l4).bind fun t356 => (customhouseref02_Check.j0 k a0 a1 a2 a3 l4 (!t356))) else (customhouseref02_Check.j0 k a0 a1 a2 a3 l4 true)))))) = some r := h
 clear h
 have HC6 := Aside0.mk H
 clear H
 go_enter Tryz.func33, Tryz.ntmps33
 go_upto_region 1 with (fail)
 go_cut [34] (fun v34 wc => ∃ (kq : Nat) (x34_5 : Bool), v34 = .bool x34_5 ∧ Aside0 (customhouseref02_Check.j0 kq a0 a1 a2 a3 l4 x34_5 = some r) ∧ Aside0 (kq ≤ k) ∧ Aside0 (Below w.heap.size w wc))
 case first =>
  have H := HC6.out; clear HC6
  by_cases c7 : a1 > 1000000
  ·rw [if_pos c7] at H
   have c7b0 : decide (1000000 < a1) = true := decide_eq_true c7
   clear c7
   (first | rw [c7b0] | (simp only [i64_w, i32_w]; rw [c7b0]) | skip)
   have H' := Aside0.mk H
   clear H; go_wp2
   go_meet
   case rel => exact ⟨_, (true), (by first | rfl | (simp; done) | (simp [*]; done)), H', ⟨by first | omega | exact Nat.le_refl _⟩, ⟨by repeat (first | (with_reducible first | exact HB.out | apply below_alloc | apply pw_below_drewN | apply below_drew1) | exact HB.out)⟩⟩
  ·rw [if_neg c7] at H
   have c7b0 : decide (1000000 < a1) = false := decide_eq_false c7
   clear c7
   (first | rw [c7b0] | (simp only [i64_w, i32_w]; rw [c7b0]) | skip)
   by_cases c8 : a2 < 0
   ·rw [if_pos c8] at H
    have c8b0 : decide (a2 < 0) = true := decide_eq_true c8
    clear c8
    have H' := Aside0.mk H
    clear H; go_wp2
    go_meet
    case rel => exact ⟨_, (true), (by first | rfl | (simp; done) | (simp [*]; done)), H', ⟨by first | omega | exact Nat.le_refl _⟩, ⟨by repeat (first | (with_reducible first | exact HB.out | apply below_alloc | apply pw_below_drewN | apply below_drew1) | exact HB.out)⟩⟩
   ·rw [if_neg c8] at H
    have c8b0 : decide (a2 < 0) = false := decide_eq_false c8
    clear c8
    by_cases c9 : a2 ≥ a1
    ·rw [if_pos c9] at H
     have c9b0 : decide (a1 ≤ a2) = true := decide_eq_true c9
     clear c9
     have H' := Aside0.mk H
     clear H; go_wp2
     go_meet
     case rel => exact ⟨_, (true), (by first | rfl | (simp; done) | (simp [*]; done)), H', ⟨by first | omega | exact Nat.le_refl _⟩, ⟨by repeat (first | (with_reducible first | exact HB.out | apply below_alloc | apply pw_below_drewN | apply below_drew1) | exact HB.out)⟩⟩
    ·rw [if_neg c9] at H
     have c9b0 : decide (a1 ≤ a2) = false := decide_eq_false c9
     clear c9
     replace H := Option.bind_eq_some_iff.mp H
     obtain ⟨t355, A100, H⟩ := H
     replace H : (if (l4.length : Int) = t355 then ((customhouseref02_digests.f k l4).bind fun t356 => (customhouseref02_Check.j0 k a0 a1 a2 a3 l4 (!t356))) else (customhouseref02_Check.j0 k a0 a1 a2 a3 l4 true)) = some r := H
     have A10 := Aside0.mk A100
     clear A100
     by_cases c11 : (l4.length : Int) = t355
     ·rw [if_pos c11] at H
      have c11b0 : ((l4.length : Int) == t355) = true := beq_iff_eq.mpr c11
      have c11b1 : ((l4.length : Int) != t355) = false := bne_eq_false_iff_eq.mpr c11
      clear c11
      replace H := Option.bind_eq_some_iff.mp H
      obtain ⟨t356, A120, H⟩ := H
      replace H : (customhouseref02_Check.j0 k a0 a1 a2 a3 l4 (!t356)) = some r := H
      have A12 := Aside0.mk A120
      clear A120
      have H' := Aside0.mk H
      clear H
      go_wp2_with (first | (go_at_call 96; (with_reducible refine (customhouseref02_length.calls k a1 a2 t355 _ A10.out).mono ?_); rintro e w' ⟨rfl, ⟨nd, rfl⟩⟩) | (go_at_call 97; (with_reducible refine (customhouseref02_digests.calls k _ _ l4 t356 _ ?side1 ?side2 A12.out).mono ?_); (case side1 => repeat (first | exact (Kd.C_below HR4.out (by repeat (first | (with_reducible first | exact HB.out | apply below_alloc | apply pw_below_drewN | apply below_drew1) | exact HB.out))) | (with_reducible refine Kd.C_alloc ?_ _) | (with_reducible refine Kd.C_drewN ?_ _) | (with_reducible refine Kd.C_drew ?_))); (case side2 => exact HC4.out); rintro e w' ⟨rfl, ⟨nd, rfl⟩⟩))
      go_meet
      case rel => exact ⟨_, (!t356), (by first | rfl | (simp; done) | (simp [*]; done)), H', ⟨by first | omega | exact Nat.le_refl _⟩, ⟨by repeat (first | (with_reducible first | exact HB.out | apply below_alloc | apply pw_below_drewN | apply below_drew1) | exact HB.out)⟩⟩
     ·rw [if_neg c11] at H
      have c11b0 : ((l4.length : Int) == t355) = false := beq_eq_false_iff_ne.mpr c11
      have c11b1 : ((l4.length : Int) != t355) = true := bne_iff_ne.mpr c11
      have H' := Aside0.mk H
      clear H
      go_wp2_with (first | (go_at_call 96; (with_reducible refine (customhouseref02_length.calls k a1 a2 t355 _ A10.out).mono ?_); rintro e w' ⟨rfl, ⟨nd, rfl⟩⟩))
      go_meet
      case rel => exact ⟨_, (true), (by first | rfl | (simp; done) | (simp [*]; done)), H', ⟨by first | omega | exact Nat.le_refl _⟩, ⟨by repeat (first | (with_reducible first | exact HB.out | apply below_alloc | apply pw_below_drewN | apply below_drew1) | exact HB.out)⟩⟩
 case rest =>
  clear HC6
  try clear c1
  try clear p2
  try clear c3
  try clear c4
  try clear c7
  try clear c7b0
  try clear c8
  try clear c8b0
  try clear c9
  try clear c9b0
  try clear c11
  try clear c11b0
  try clear c11b1
  obtain ⟨kq, x34_5, rfl, HA, HJ5, HB⟩ := hcut
  cases kq with
  | zero => exact absurd HA.out (by simp [customhouseref02_Check.j0])
  | succ kj5 =>
   have H := HA.out; clear HA
   simp only [customhouseref02_Check.j0] at H
   by_cases c13 : x34_5 = true
   ·subst c13
    have H1 : (some false) = some r := by rw [if_pos rfl] at H; exact H
    clear H; have H := H1; clear H1
    obtain rfl := Option.some.inj H
    go_wp2; go_ret
    exact ⟨by first | rfl | (simp [errW_none, errW_some] <;> rfl) | (simp [*, errW_none, errW_some] <;> rfl), by repeat (first | (with_reducible first | exact HB.out | apply below_alloc | apply pw_below_drewN | apply below_drew1) | exact HB.out)⟩
   ·replace c13 := Bool.eq_false_iff.mpr c13
    subst c13
    have H1 : ((customhouseref02_leaf.f kj5 a3).bind fun t357 => ((customhouseref02_up.f kj5 a1 a2 t357 l4).bind fun t358 => (some (t358.toList == a0.toList)))) = some r := by rw [if_neg (show ¬ (false = true) by decide)] at H; exact H
    clear H; have H := H1; clear H1
    replace H := Option.bind_eq_some_iff.mp H
    obtain ⟨t357, A140, H⟩ := H
    replace H : ((customhouseref02_up.f kj5 a1 a2 t357 l4).bind fun t358 => (some (t358.toList == a0.toList))) = some r := H
    have A14 := Aside0.mk A140
    clear A140
    replace H := Option.bind_eq_some_iff.mp H
    obtain ⟨t358, A150, H⟩ := H
    replace H : (some (t358.toList == a0.toList)) = some r := H
    have A15 := Aside0.mk A150
    clear A150
    obtain rfl := Option.some.inj H
    go_wp2_with (first | ((with_reducible refine gate_callee (f := 89) rfl ?_); refine goesL_ (some 38) rfl rfl Tryz.func89 (by kernel_rfl) rfl #[.string a3] rfl (by (try simp only [List.map_toArray, List.map_cons, List.map_nil]); first | done | rfl | (simp only [List.length_drop, List.length_take]; rfl)) ?_; (with_reducible refine (customhouseref02_leaf.calls kj5 a3 t357 _ A14.out).mono ?_); rintro e w16 ⟨rfl, hb⟩; refine ⟨_, rfl, ?_⟩; have n0_ := Aside0.mk (below_step (by repeat (first | (with_reducible first | exact HB.out | apply below_alloc | apply pw_below_drewN | apply below_drew1) | exact HB.out)) hb); clear HB; have HB := n0_; clear n0_; (try clear hb); (try clear hb2); (try clear hk); (try clear hi)) | ((with_reducible refine gate_callee (f := 98) rfl ?_); refine goesL_ (some 40) rfl rfl Tryz.func98 (by kernel_rfl) rfl #[.int .i64 a1, .int .i64 a2, .string t357, .slice A4 l4.length c4] rfl (by (try simp only [List.map_toArray, List.map_cons, List.map_nil]); first | done | rfl | (simp only [List.length_drop, List.length_take]; rfl)) ?_; (with_reducible refine (customhouseref02_up.calls kj5 a1 a2 t357 _ _ l4 t358 _ ?side1 ?side2 A15.out).mono ?_); (case side1 => repeat (first | exact (Kd.C_below HR4.out HB.out) | (with_reducible refine Kd.C_alloc ?_ _) | (with_reducible refine Kd.C_drewN ?_ _) | (with_reducible refine Kd.C_drew ?_))); (case side2 => exact HC4.out); rintro e w17 ⟨rfl, hb⟩; refine ⟨_, rfl, ?_⟩; have n0_ := Aside0.mk (below_step (by repeat (first | (with_reducible first | exact HB.out | apply below_alloc | apply pw_below_drewN | apply below_drew1) | exact HB.out)) hb); clear HB; have HB := n0_; clear n0_; (try clear hb); (try clear hb2); (try clear hk); (try clear hi)))
    go_ret
    exact ⟨by first | rfl | (simp [errW_none, errW_some] <;> rfl) | (simp [*, errW_none, errW_some] <;> rfl), by repeat (first | (with_reducible first | exact HB.out | apply below_alloc | apply pw_below_drewN | apply below_drew1) | exact HB.out)⟩
end Go.Proofs.YtdlipbfcadmhjaaGreatDoor.PG3
