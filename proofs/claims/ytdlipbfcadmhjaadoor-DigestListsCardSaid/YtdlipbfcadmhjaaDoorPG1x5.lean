/- Written by a program of this session's over the kit's print: the functions that a law comes to as plain Lean functions, and that Go's code computes them. Nothing is assumed. -/
import Derived.Test.YtdlipbfcadmhjaaDoorPG1x0
import Derived.Test.YtdlipbfcadmhjaaDoorPG1x1
import Derived.Test.YtdlipbfcadmhjaaDoorPG1x4
namespace Go.Proofs.YtdlipbfcadmhjaaDoor.PG1
open Go.RowKit Go.Proofs.YtdlipbfcadmhjaaDoorW.PrintWords Go.Proofs.YtdlipbfcadmhjaaDoorW.PrintLast Go.Proofs.YtdlipbfcadmhjaaDoorW.PrintMore
attribute [local go_sem] max2_int min2_int max_two min_two max_three min_three max_four min_four   -- for this text's walks alone
set_option linter.unusedVariables false
set_option linter.unusedSimpArgs false

/-! ### customhouselaw01_DigestLists: function 9 -/
mutual
def customhouselaw01_DigestLists.j0 : Nat → List ByteArray → List ByteArray → ByteArray → ByteArray → Bool → Bool → Option (Bool)
  | 0, _, _, _, _, _, _ => none
  | k + 1, x0, x1, x2, x3, x9, x21 => if x21 = true then (some x9) else ((customhouseref01_Joined.f x0).bind fun t160 => ((customhouseref01_Joined.f x1).bind fun t161 => ((digest_List.f x0).bind fun t162 => ((digest_Sum.f t160).bind fun t163 => (if t162.toList = t163.toList then ((customhouseref01_Same.f k x0 x1).bind fun t164 => (customhouselaw01_DigestLists.j1 k x0 x1 x2 x3 x9 t160 t161 ((t160.toList == t161.toList) != t164))) else (customhouselaw01_DigestLists.j1 k x0 x1 x2 x3 x9 t160 t161 true))))))
def customhouselaw01_DigestLists.j1 : Nat → List ByteArray → List ByteArray → ByteArray → ByteArray → Bool → ByteArray → ByteArray → Bool → Option (Bool)
  | 0, _, _, _, _, _, _, _, _ => none
  | k + 1, x0, x1, x2, x3, x9, x10, x11, x40 => if x40 = true then (some false) else (if (x10.size : Int) ≤ 7 then (if (x11.size : Int) ≤ 7 then ((digest_List.f x0).bind fun t165 => ((digest_List.f x1).bind fun t166 => ((customhouseref01_Same.f k x0 x1).bind fun t167 => (customhouselaw01_DigestLists.j2 k x2 x3 x9 ((t165.toList == t166.toList) != t167))))) else (customhouselaw01_DigestLists.j2 k x2 x3 x9 false)) else (customhouselaw01_DigestLists.j2 k x2 x3 x9 false))
def customhouselaw01_DigestLists.j2 : Nat → ByteArray → ByteArray → Bool → Bool → Option (Bool)
  | 0, _, _, _, _ => none
  | k + 1, x2, x3, x9, x59 => if x59 = true then (some false) else (if 0 ≤ (mn (mn (x2.size : Int) (x3.size : Int)) 9) then (if (mn (mn (x2.size : Int) (x3.size : Int)) 9) ≤ (x2.size : Int) then (if 0 ≤ (mn (mn (mn (x2.size : Int) (x3.size : Int)) 9) 6) then (if (mn (mn (mn (x2.size : Int) (x3.size : Int)) 9) 6) ≤ ((x2.extract 0 ((mn (mn (x2.size : Int) (x3.size : Int)) 9) : Int).toNat).size : Int) then (if (mn (mn (mn (x2.size : Int) (x3.size : Int)) 9) 6) ≤ (mn (mn (x2.size : Int) (x3.size : Int)) 9) then (if (mn (mn (x2.size : Int) (x3.size : Int)) 9) ≤ (x3.size : Int) then (if ((x2.extract 0 ((mn (mn (x2.size : Int) (x3.size : Int)) 9) : Int).toNat).extract 0 ((mn (mn (mn (x2.size : Int) (x3.size : Int)) 9) 6) : Int).toNat).size + (x3.extract ((mn (mn (mn (x2.size : Int) (x3.size : Int)) 9) 6) : Int).toNat ((mn (mn (x2.size : Int) (x3.size : Int)) 9) : Int).toNat).size ≤ 9223372036854775807 then (if x9 = true then ((digest_List.f (([x2.extract 0 ((mn (mn (x2.size : Int) (x3.size : Int)) 9) : Int).toNat] : List ByteArray))).bind fun t171 => ((digest_List.f (([((x2.extract 0 ((mn (mn (x2.size : Int) (x3.size : Int)) 9) : Int).toNat).extract 0 ((mn (mn (mn (x2.size : Int) (x3.size : Int)) 9) 6) : Int).toNat) ++ (x3.extract ((mn (mn (mn (x2.size : Int) (x3.size : Int)) 9) 6) : Int).toNat ((mn (mn (x2.size : Int) (x3.size : Int)) 9) : Int).toNat)] : List ByteArray))).bind fun t175 => (some ((t171.toList == t175.toList) == ((x2.extract 0 ((mn (mn (x2.size : Int) (x3.size : Int)) 9) : Int).toNat).toList == (((x2.extract 0 ((mn (mn (x2.size : Int) (x3.size : Int)) 9) : Int).toNat).extract 0 ((mn (mn (mn (x2.size : Int) (x3.size : Int)) 9) 6) : Int).toNat) ++ (x3.extract ((mn (mn (mn (x2.size : Int) (x3.size : Int)) 9) 6) : Int).toNat ((mn (mn (x2.size : Int) (x3.size : Int)) 9) : Int).toNat)).toList))))) else (some false)) else (none)) else (none)) else (none)) else (none)) else (none)) else (none)) else (none))
end
def customhouselaw01_DigestLists.f (k : Nat) (l0 : List ByteArray) (l1 : List ByteArray) (a2 : ByteArray) (a3 : ByteArray) : Option (Bool) := (customhouselaw01_head.f k).bind fun t157 => ((customhouseref01_Few.f k l0 200).bind fun t158 => (if t158 = true then ((customhouseref01_Few.f k l1 200).bind fun t159 => (customhouselaw01_DigestLists.j0 k l0 l1 a2 a3 t157 (!t159))) else (customhouselaw01_DigestLists.j0 k l0 l1 a2 a3 t157 true)))
theorem customhouselaw01_DigestLists.mono_l : ∀ k, (∀ y0 y1 y2 y3 y4 y5, LeO (customhouselaw01_DigestLists.j0 k y0 y1 y2 y3 y4 y5) (customhouselaw01_DigestLists.j0 (k + 1) y0 y1 y2 y3 y4 y5)) ∧ (∀ y0 y1 y2 y3 y4 y5 y6 y7, LeO (customhouselaw01_DigestLists.j1 k y0 y1 y2 y3 y4 y5 y6 y7) (customhouselaw01_DigestLists.j1 (k + 1) y0 y1 y2 y3 y4 y5 y6 y7)) ∧ (∀ y0 y1 y2 y3, LeO (customhouselaw01_DigestLists.j2 k y0 y1 y2 y3) (customhouselaw01_DigestLists.j2 (k + 1) y0 y1 y2 y3))
  | 0 => ⟨fun _ _ _ _ _ _ r h => by simp [customhouselaw01_DigestLists.j0] at h, fun _ _ _ _ _ _ _ _ r h => by simp [customhouselaw01_DigestLists.j1] at h, fun _ _ _ _ r h => by simp [customhouselaw01_DigestLists.j2] at h⟩
  | k + 1 => by
    obtain ⟨ih0, ih1, ih2⟩ := customhouselaw01_DigestLists.mono_l k
    refine ⟨?_, ?_, ?_⟩
    · intro y0 y1 y2 y3 y4 y5
      unfold customhouselaw01_DigestLists.j0
      repeat' first
      | (with_reducible exact ih0 _ _ _ _ _ _)
      | (with_reducible exact ih1 _ _ _ _ _ _ _ _)
      | (with_reducible exact ih2 _ _ _ _)
      | (with_reducible exact customhouselaw01_head.mono _)
      | (with_reducible exact customhouseref01_Few.mono _ _ _)
      | (with_reducible exact customhouseref01_Same.mono _ _ _)
      | (with_reducible exact LeO.refl _)
      | (with_reducible exact LeO.none _)
      | (with_reducible refine LeO.ite ?_ ?_)
      | (with_reducible refine LeO.bind ?_ (fun _ => ?_))
      | exact ih0 _ _ _ _ _ _
      | exact ih1 _ _ _ _ _ _ _ _
      | exact ih2 _ _ _ _
      | exact customhouselaw01_head.mono _
      | exact customhouseref01_Few.mono _ _ _
      | exact customhouseref01_Same.mono _ _ _
      | exact LeO.none _
      | refine LeO.ite ?_ ?_
      | refine LeO.bind ?_ (fun _ => ?_)
    · intro y0 y1 y2 y3 y4 y5 y6 y7
      unfold customhouselaw01_DigestLists.j1
      repeat' first
      | (with_reducible exact ih0 _ _ _ _ _ _)
      | (with_reducible exact ih1 _ _ _ _ _ _ _ _)
      | (with_reducible exact ih2 _ _ _ _)
      | (with_reducible exact customhouselaw01_head.mono _)
      | (with_reducible exact customhouseref01_Few.mono _ _ _)
      | (with_reducible exact customhouseref01_Same.mono _ _ _)
      | (with_reducible exact LeO.refl _)
      | (with_reducible exact LeO.none _)
      | (with_reducible refine LeO.ite ?_ ?_)
      | (with_reducible refine LeO.bind ?_ (fun _ => ?_))
      | exact ih0 _ _ _ _ _ _
      | exact ih1 _ _ _ _ _ _ _ _
      | exact ih2 _ _ _ _
      | exact customhouselaw01_head.mono _
      | exact customhouseref01_Few.mono _ _ _
      | exact customhouseref01_Same.mono _ _ _
      | exact LeO.none _
      | refine LeO.ite ?_ ?_
      | refine LeO.bind ?_ (fun _ => ?_)
    · intro y0 y1 y2 y3
      unfold customhouselaw01_DigestLists.j2
      repeat' first
      | (with_reducible exact ih0 _ _ _ _ _ _)
      | (with_reducible exact ih1 _ _ _ _ _ _ _ _)
      | (with_reducible exact ih2 _ _ _ _)
      | (with_reducible exact customhouselaw01_head.mono _)
      | (with_reducible exact customhouseref01_Few.mono _ _ _)
      | (with_reducible exact customhouseref01_Same.mono _ _ _)
      | (with_reducible exact LeO.refl _)
      | (with_reducible exact LeO.none _)
      | (with_reducible refine LeO.ite ?_ ?_)
      | (with_reducible refine LeO.bind ?_ (fun _ => ?_))
      | exact ih0 _ _ _ _ _ _
      | exact ih1 _ _ _ _ _ _ _ _
      | exact ih2 _ _ _ _
      | exact customhouselaw01_head.mono _
      | exact customhouseref01_Few.mono _ _ _
      | exact customhouseref01_Same.mono _ _ _
      | exact LeO.none _
      | refine LeO.ite ?_ ?_
      | refine LeO.bind ?_ (fun _ => ?_)
theorem customhouselaw01_DigestLists.mono : ∀ a0 a1 a2 a3 k, LeO (customhouselaw01_DigestLists.f k a0 a1 a2 a3) (customhouselaw01_DigestLists.f (k + 1) a0 a1 a2 a3) := by
  intro a0 a1 a2 a3 k
  obtain ⟨ih0, ih1, ih2⟩ := customhouselaw01_DigestLists.mono_l k
  unfold customhouselaw01_DigestLists.f
  repeat' first
      | (with_reducible exact ih0 _ _ _ _ _ _)
      | (with_reducible exact ih1 _ _ _ _ _ _ _ _)
      | (with_reducible exact ih2 _ _ _ _)
      | (with_reducible exact customhouselaw01_head.mono _)
      | (with_reducible exact customhouseref01_Few.mono _ _ _)
      | (with_reducible exact customhouseref01_Same.mono _ _ _)
      | (with_reducible exact LeO.refl _)
      | (with_reducible exact LeO.none _)
      | (with_reducible refine LeO.ite ?_ ?_)
      | (with_reducible refine LeO.bind ?_ (fun _ => ?_))
      | exact ih0 _ _ _ _ _ _
      | exact ih1 _ _ _ _ _ _ _ _
      | exact ih2 _ _ _ _
      | exact customhouselaw01_head.mono _
      | exact customhouseref01_Few.mono _ _ _
      | exact customhouseref01_Same.mono _ _ _
      | exact LeO.none _
      | refine LeO.ite ?_ ?_
      | refine LeO.bind ?_ (fun _ => ?_)
set_option maxHeartbeats 8000000 in
set_option maxRecDepth 100000 in
theorem customhouselaw01_DigestLists.calls (k : Nat) (A0 : Option Addr) (c0 : Nat) (l0 : List ByteArray) (A1 : Option Addr) (c1 : Nat) (l1 : List ByteArray) (a2 : ByteArray) (a3 : ByteArray) (r : Bool) (w : World) (hG : GL w) (hr0 : Kd.C Kd.string w A0 l0.length l0) (hc0 : l0.length ≤ c0) (hr1 : Kd.C Kd.string w A1 l1.length l1) (hc1 : l1.length ≤ c1) (h : customhouselaw01_DigestLists.f k l0 l1 a2 a3 = some r) :
    Calls Tryd.prog 9 #[.slice A0 l0.length c0, .slice A1 l1.length c1, .string a2, .string a3] w fun e w' => e = .returned (.bool r) ∧ Below w.heap.size w w' := by
  have HR0 := Aside0.mk hr0
  have HC0 := Aside0.mk hc0
  clear hr0 hc0
  have HR1 := Aside0.mk hr1
  have HC1 := Aside0.mk hc1
  clear hr1 hc1
  have HB := Aside0.mk (Below.refl w.heap.size w)
  have HG := Aside0.mk hG
  clear hG
  have H : ((customhouselaw01_head.f k).bind fun t157 => ((customhouseref01_Few.f k l0 200).bind fun t158 => (if t158 = true then ((customhouseref01_Few.f k l1 200).bind fun t159 => (customhouselaw01_DigestLists.j0 k l0 l1 a2 a3 t157 (!t159))) else (customhouselaw01_DigestLists.j0 k l0 l1 a2 a3 t157 true)))) = some r := h
  clear h
  replace H := Option.bind_eq_some_iff.mp H
  obtain ⟨t157, A50, H⟩ := H
  replace H : ((customhouseref01_Few.f k l0 200).bind fun t158 => (if t158 = true then ((customhouseref01_Few.f k l1 200).bind fun t159 => (customhouselaw01_DigestLists.j0 k l0 l1 a2 a3 t157 (!t159))) else (customhouselaw01_DigestLists.j0 k l0 l1 a2 a3 t157 true))) = some r := H
  have A5 := Aside0.mk A50
  clear A50
  have HC6 := Aside0.mk H
  clear H
  go_enter Tryd.func9, Tryd.ntmps9
  go_upto_region 2 with (first | (go_at_call 18; (with_reducible refine (customhouselaw01_head.calls k  t157 _ ?side1 A5.out).mono ?_); (case side1 => exact GL.below HG.out (by repeat (first | (with_reducible first | exact HB.out | apply below_alloc | apply pw_below_drewN | apply below_drew1) | exact HB.out))); rintro e w7 ⟨rfl, hb⟩; have n0_ := Aside0.mk (below_step (by repeat (first | (with_reducible first | exact HB.out | apply below_alloc | apply pw_below_drewN | apply below_drew1) | exact HB.out)) hb); clear HB; have HB := n0_; clear n0_; (try clear hb); (try clear hb2); (try clear hk); (try clear hi)))
  repeat (go_quiet (first | (go_at_call 18; (with_reducible refine (customhouselaw01_head.calls k  t157 _ ?side1 A5.out).mono ?_); (case side1 => exact GL.below HG.out (by repeat (first | (with_reducible first | exact HB.out | apply below_alloc | apply pw_below_drewN | apply below_drew1) | exact HB.out))); rintro e w7 ⟨rfl, hb⟩; have n0_ := Aside0.mk (below_step (by repeat (first | (with_reducible first | exact HB.out | apply below_alloc | apply pw_below_drewN | apply below_drew1) | exact HB.out)) hb); clear HB; have HB := n0_; clear n0_; (try clear hb); (try clear hb2); (try clear hk); (try clear hi))); go_upto_region 2 with (first | (go_at_call 18; (with_reducible refine (customhouselaw01_head.calls k  t157 _ ?side1 A5.out).mono ?_); (case side1 => exact GL.below HG.out (by repeat (first | (with_reducible first | exact HB.out | apply below_alloc | apply pw_below_drewN | apply below_drew1) | exact HB.out))); rintro e w7 ⟨rfl, hb⟩; have n0_ := Aside0.mk (below_step (by repeat (first | (with_reducible first | exact HB.out | apply below_alloc | apply pw_below_drewN | apply below_drew1) | exact HB.out)) hb); clear HB; have HB := n0_; clear n0_; (try clear hb); (try clear hb2); (try clear hk); (try clear hi))))
  (try simp only [Act.put, List.setIfInBounds_toArray, List.set_cons_zero, List.set_cons_succ])
  go_cut [21] (fun v21 wc => ∃ (kq : Nat) (x21_5 : Bool), v21 = .bool x21_5 ∧ Aside0 (customhouselaw01_DigestLists.j0 kq l0 l1 a2 a3 t157 x21_5 = some r) ∧ Aside0 (kq ≤ k) ∧ Aside0 (Below w.heap.size w wc))
  case first =>
    have H := HC6.out
    clear HC6
    replace H := Option.bind_eq_some_iff.mp H
    obtain ⟨t158, A80, H⟩ := H
    replace H : (if t158 = true then ((customhouseref01_Few.f k l1 200).bind fun t159 => (customhouselaw01_DigestLists.j0 k l0 l1 a2 a3 t157 (!t159))) else (customhouselaw01_DigestLists.j0 k l0 l1 a2 a3 t157 true)) = some r := H
    have A8 := Aside0.mk A80
    clear A80
    by_cases c9 : t158 = true
    · subst c9
      have H1 : ((customhouseref01_Few.f k l1 200).bind fun t159 => (customhouselaw01_DigestLists.j0 k l0 l1 a2 a3 t157 (!t159))) = some r := by rw [if_pos rfl] at H; exact H
      clear H
      have H := H1
      clear H1
      replace H := Option.bind_eq_some_iff.mp H
      obtain ⟨t159, A100, H⟩ := H
      replace H : (customhouselaw01_DigestLists.j0 k l0 l1 a2 a3 t157 (!t159)) = some r := H
      have A10 := Aside0.mk A100
      clear A100
      have H' := Aside0.mk H
      clear H
      go_wp2_with (first | (go_at_call 19; (with_reducible refine (customhouseref01_Few.calls k _ _ l0 200 true _ ?side1 ?side2 A8.out).mono ?_); (case side1 => repeat (first | exact (Kd.C_below HR0.out HB.out) | (with_reducible refine Kd.C_alloc ?_ _) | (with_reducible refine Kd.C_drewN ?_ _) | (with_reducible refine Kd.C_drew ?_))); (case side2 => exact HC0.out); rintro e w' ⟨rfl, ⟨nd, rfl⟩⟩; (try first | exact ⟨rfl, _, World.drewN_drewN _ _ _⟩ | exact ⟨rfl, _, Eq.trans (World.drewN_drewN _ _ _) (congrArg (World.drewN _) (Nat.add_assoc _ _ _))⟩)) | (go_at_call 19; (with_reducible refine (customhouseref01_Few.calls k _ _ l1 200 t159 _ ?side1 ?side2 A10.out).mono ?_); (case side1 => repeat (first | exact (Kd.C_below HR1.out (by repeat (first | (with_reducible first | exact HB.out | apply below_alloc | apply pw_below_drewN | apply below_drew1) | exact HB.out))) | (with_reducible refine Kd.C_alloc ?_ _) | (with_reducible refine Kd.C_drewN ?_ _) | (with_reducible refine Kd.C_drew ?_))); (case side2 => exact HC1.out); rintro e w' ⟨rfl, ⟨nd, rfl⟩⟩; (try first | exact ⟨rfl, _, World.drewN_drewN _ _ _⟩ | exact ⟨rfl, _, Eq.trans (World.drewN_drewN _ _ _) (congrArg (World.drewN _) (Nat.add_assoc _ _ _))⟩)))
      repeat (go_quiet (first | (go_at_call 19; (with_reducible refine (customhouseref01_Few.calls k _ _ l0 200 true _ ?side1 ?side2 A8.out).mono ?_); (case side1 => repeat (first | exact (Kd.C_below HR0.out HB.out) | (with_reducible refine Kd.C_alloc ?_ _) | (with_reducible refine Kd.C_drewN ?_ _) | (with_reducible refine Kd.C_drew ?_))); (case side2 => exact HC0.out); rintro e w' ⟨rfl, ⟨nd, rfl⟩⟩; (try first | exact ⟨rfl, _, World.drewN_drewN _ _ _⟩ | exact ⟨rfl, _, Eq.trans (World.drewN_drewN _ _ _) (congrArg (World.drewN _) (Nat.add_assoc _ _ _))⟩)) | (go_at_call 19; (with_reducible refine (customhouseref01_Few.calls k _ _ l1 200 t159 _ ?side1 ?side2 A10.out).mono ?_); (case side1 => repeat (first | exact (Kd.C_below HR1.out (by repeat (first | (with_reducible first | exact HB.out | apply below_alloc | apply pw_below_drewN | apply below_drew1) | exact HB.out))) | (with_reducible refine Kd.C_alloc ?_ _) | (with_reducible refine Kd.C_drewN ?_ _) | (with_reducible refine Kd.C_drew ?_))); (case side2 => exact HC1.out); rintro e w' ⟨rfl, ⟨nd, rfl⟩⟩; (try first | exact ⟨rfl, _, World.drewN_drewN _ _ _⟩ | exact ⟨rfl, _, Eq.trans (World.drewN_drewN _ _ _) (congrArg (World.drewN _) (Nat.add_assoc _ _ _))⟩))); try go_wp2_with (first | (go_at_call 19; (with_reducible refine (customhouseref01_Few.calls k _ _ l0 200 true _ ?side1 ?side2 A8.out).mono ?_); (case side1 => repeat (first | exact (Kd.C_below HR0.out HB.out) | (with_reducible refine Kd.C_alloc ?_ _) | (with_reducible refine Kd.C_drewN ?_ _) | (with_reducible refine Kd.C_drew ?_))); (case side2 => exact HC0.out); rintro e w' ⟨rfl, ⟨nd, rfl⟩⟩; (try first | exact ⟨rfl, _, World.drewN_drewN _ _ _⟩ | exact ⟨rfl, _, Eq.trans (World.drewN_drewN _ _ _) (congrArg (World.drewN _) (Nat.add_assoc _ _ _))⟩)) | (go_at_call 19; (with_reducible refine (customhouseref01_Few.calls k _ _ l1 200 t159 _ ?side1 ?side2 A10.out).mono ?_); (case side1 => repeat (first | exact (Kd.C_below HR1.out (by repeat (first | (with_reducible first | exact HB.out | apply below_alloc | apply pw_below_drewN | apply below_drew1) | exact HB.out))) | (with_reducible refine Kd.C_alloc ?_ _) | (with_reducible refine Kd.C_drewN ?_ _) | (with_reducible refine Kd.C_drew ?_))); (case side2 => exact HC1.out); rintro e w' ⟨rfl, ⟨nd, rfl⟩⟩; (try first | exact ⟨rfl, _, World.drewN_drewN _ _ _⟩ | exact ⟨rfl, _, Eq.trans (World.drewN_drewN _ _ _) (congrArg (World.drewN _) (Nat.add_assoc _ _ _))⟩))))
      go_meet
      case rel => exact ⟨_, (!t159), (by first | rfl | (simp; done) | (simp [*]; done)), H', ⟨by first | omega | exact Nat.le_refl _⟩, ⟨by repeat (first | (with_reducible first | exact HB.out | apply below_alloc | apply pw_below_drewN | apply below_drew1) | exact HB.out)⟩⟩
    · replace c9 := Bool.eq_false_iff.mpr c9
      subst c9
      have H1 : (customhouselaw01_DigestLists.j0 k l0 l1 a2 a3 t157 true) = some r := by rw [if_neg (show ¬ (false = true) by decide)] at H; exact H
      clear H
      have H := H1
      clear H1
      have H' := Aside0.mk H
      clear H
      go_wp2_with (first | (go_at_call 19; (with_reducible refine (customhouseref01_Few.calls k _ _ l0 200 false _ ?side1 ?side2 A8.out).mono ?_); (case side1 => repeat (first | exact (Kd.C_below HR0.out HB.out) | (with_reducible refine Kd.C_alloc ?_ _) | (with_reducible refine Kd.C_drewN ?_ _) | (with_reducible refine Kd.C_drew ?_))); (case side2 => exact HC0.out); rintro e w' ⟨rfl, ⟨nd, rfl⟩⟩; (try first | exact ⟨rfl, _, World.drewN_drewN _ _ _⟩ | exact ⟨rfl, _, Eq.trans (World.drewN_drewN _ _ _) (congrArg (World.drewN _) (Nat.add_assoc _ _ _))⟩)))
      repeat (go_quiet (first | (go_at_call 19; (with_reducible refine (customhouseref01_Few.calls k _ _ l0 200 false _ ?side1 ?side2 A8.out).mono ?_); (case side1 => repeat (first | exact (Kd.C_below HR0.out HB.out) | (with_reducible refine Kd.C_alloc ?_ _) | (with_reducible refine Kd.C_drewN ?_ _) | (with_reducible refine Kd.C_drew ?_))); (case side2 => exact HC0.out); rintro e w' ⟨rfl, ⟨nd, rfl⟩⟩; (try first | exact ⟨rfl, _, World.drewN_drewN _ _ _⟩ | exact ⟨rfl, _, Eq.trans (World.drewN_drewN _ _ _) (congrArg (World.drewN _) (Nat.add_assoc _ _ _))⟩))); try go_wp2_with (first | (go_at_call 19; (with_reducible refine (customhouseref01_Few.calls k _ _ l0 200 false _ ?side1 ?side2 A8.out).mono ?_); (case side1 => repeat (first | exact (Kd.C_below HR0.out HB.out) | (with_reducible refine Kd.C_alloc ?_ _) | (with_reducible refine Kd.C_drewN ?_ _) | (with_reducible refine Kd.C_drew ?_))); (case side2 => exact HC0.out); rintro e w' ⟨rfl, ⟨nd, rfl⟩⟩; (try first | exact ⟨rfl, _, World.drewN_drewN _ _ _⟩ | exact ⟨rfl, _, Eq.trans (World.drewN_drewN _ _ _) (congrArg (World.drewN _) (Nat.add_assoc _ _ _))⟩))))
      go_meet
      case rel => exact ⟨_, (true), (by first | rfl | (simp; done) | (simp [*]; done)), H', ⟨by first | omega | exact Nat.le_refl _⟩, ⟨by repeat (first | (with_reducible first | exact HB.out | apply below_alloc | apply pw_below_drewN | apply below_drew1) | exact HB.out)⟩⟩
  case rest =>
    clear HC6
    try clear c1
    try clear p2
    try clear c9
    obtain ⟨kq, x21_5, rfl, HA, HJ5, HB⟩ := hcut
    cases kq with
    | zero => exact absurd HA.out (by simp [customhouselaw01_DigestLists.j0])
    | succ kj5 =>
      have H := HA.out
      clear HA
      simp only [customhouselaw01_DigestLists.j0] at H
      by_cases c11 : x21_5 = true
      · subst c11
        have H1 : (some t157) = some r := by rw [if_pos rfl] at H; exact H
        clear H
        have H := H1
        clear H1
        obtain rfl := Option.some.inj H
        go_wp2
        repeat (go_quiet (fail); try go_wp2)
        go_ret
        exact ⟨by first | rfl | (simp [errW_none, errW_some] <;> rfl) | (simp [*, errW_none, errW_some] <;> rfl), by repeat (first | (with_reducible first | exact HB.out | apply below_alloc | apply pw_below_drewN | apply below_drew1) | exact HB.out)⟩
      · replace c11 := Bool.eq_false_iff.mpr c11
        subst c11
        have H1 : ((customhouseref01_Joined.f l0).bind fun t160 => ((customhouseref01_Joined.f l1).bind fun t161 => ((digest_List.f l0).bind fun t162 => ((digest_Sum.f t160).bind fun t163 => (if t162.toList = t163.toList then ((customhouseref01_Same.f kj5 l0 l1).bind fun t164 => (customhouselaw01_DigestLists.j1 kj5 l0 l1 a2 a3 t157 t160 t161 ((t160.toList == t161.toList) != t164))) else (customhouselaw01_DigestLists.j1 kj5 l0 l1 a2 a3 t157 t160 t161 true)))))) = some r := by rw [if_neg (show ¬ (false = true) by decide)] at H; exact H
        clear H
        have H := H1
        clear H1
        replace H := Option.bind_eq_some_iff.mp H
        obtain ⟨t160, A120, H⟩ := H
        replace H : ((customhouseref01_Joined.f l1).bind fun t161 => ((digest_List.f l0).bind fun t162 => ((digest_Sum.f t160).bind fun t163 => (if t162.toList = t163.toList then ((customhouseref01_Same.f kj5 l0 l1).bind fun t164 => (customhouselaw01_DigestLists.j1 kj5 l0 l1 a2 a3 t157 t160 t161 ((t160.toList == t161.toList) != t164))) else (customhouselaw01_DigestLists.j1 kj5 l0 l1 a2 a3 t157 t160 t161 true))))) = some r := H
        have A12 := Aside0.mk A120
        clear A120
        replace H := Option.bind_eq_some_iff.mp H
        obtain ⟨t161, A130, H⟩ := H
        replace H : ((digest_List.f l0).bind fun t162 => ((digest_Sum.f t160).bind fun t163 => (if t162.toList = t163.toList then ((customhouseref01_Same.f kj5 l0 l1).bind fun t164 => (customhouselaw01_DigestLists.j1 kj5 l0 l1 a2 a3 t157 t160 t161 ((t160.toList == t161.toList) != t164))) else (customhouselaw01_DigestLists.j1 kj5 l0 l1 a2 a3 t157 t160 t161 true)))) = some r := H
        have A13 := Aside0.mk A130
        clear A130
        have HC14 := Aside0.mk H
        clear H
        go_upto_region 6 with (first | (go_at_call 28; (with_reducible refine (customhouseref01_Joined.calls _ _ l0 t160 _ ?side1 ?side2 A12.out).mono ?_); (case side1 => repeat (first | exact (Kd.C_below HR0.out HB.out) | (with_reducible refine Kd.C_alloc ?_ _) | (with_reducible refine Kd.C_drewN ?_ _) | (with_reducible refine Kd.C_drew ?_))); (case side2 => exact HC0.out); rintro e w15 ⟨rfl, hb⟩; have n0_ := Aside0.mk (below_step (by repeat (first | (with_reducible first | exact HB.out | apply below_alloc | apply pw_below_drewN | apply below_drew1) | exact HB.out)) hb); clear HB; have HB := n0_; clear n0_; (try clear hb); (try clear hb2); (try clear hk); (try clear hi)) | (go_at_call 28; (with_reducible refine (customhouseref01_Joined.calls _ _ l1 t161 _ ?side1 ?side2 A13.out).mono ?_); (case side1 => repeat (first | exact (Kd.C_below HR1.out HB.out) | (with_reducible refine Kd.C_alloc ?_ _) | (with_reducible refine Kd.C_drewN ?_ _) | (with_reducible refine Kd.C_drew ?_))); (case side2 => exact HC1.out); rintro e w16 ⟨rfl, hb⟩; have n0_ := Aside0.mk (below_step (by repeat (first | (with_reducible first | exact HB.out | apply below_alloc | apply pw_below_drewN | apply below_drew1) | exact HB.out)) hb); clear HB; have HB := n0_; clear n0_; (try clear hb); (try clear hb2); (try clear hk); (try clear hi)))
        repeat (go_quiet (first | (go_at_call 28; (with_reducible refine (customhouseref01_Joined.calls _ _ l0 t160 _ ?side1 ?side2 A12.out).mono ?_); (case side1 => repeat (first | exact (Kd.C_below HR0.out HB.out) | (with_reducible refine Kd.C_alloc ?_ _) | (with_reducible refine Kd.C_drewN ?_ _) | (with_reducible refine Kd.C_drew ?_))); (case side2 => exact HC0.out); rintro e w15 ⟨rfl, hb⟩; have n0_ := Aside0.mk (below_step (by repeat (first | (with_reducible first | exact HB.out | apply below_alloc | apply pw_below_drewN | apply below_drew1) | exact HB.out)) hb); clear HB; have HB := n0_; clear n0_; (try clear hb); (try clear hb2); (try clear hk); (try clear hi)) | (go_at_call 28; (with_reducible refine (customhouseref01_Joined.calls _ _ l1 t161 _ ?side1 ?side2 A13.out).mono ?_); (case side1 => repeat (first | exact (Kd.C_below HR1.out HB.out) | (with_reducible refine Kd.C_alloc ?_ _) | (with_reducible refine Kd.C_drewN ?_ _) | (with_reducible refine Kd.C_drew ?_))); (case side2 => exact HC1.out); rintro e w16 ⟨rfl, hb⟩; have n0_ := Aside0.mk (below_step (by repeat (first | (with_reducible first | exact HB.out | apply below_alloc | apply pw_below_drewN | apply below_drew1) | exact HB.out)) hb); clear HB; have HB := n0_; clear n0_; (try clear hb); (try clear hb2); (try clear hk); (try clear hi))); go_upto_region 6 with (first | (go_at_call 28; (with_reducible refine (customhouseref01_Joined.calls _ _ l0 t160 _ ?side1 ?side2 A12.out).mono ?_); (case side1 => repeat (first | exact (Kd.C_below HR0.out HB.out) | (with_reducible refine Kd.C_alloc ?_ _) | (with_reducible refine Kd.C_drewN ?_ _) | (with_reducible refine Kd.C_drew ?_))); (case side2 => exact HC0.out); rintro e w15 ⟨rfl, hb⟩; have n0_ := Aside0.mk (below_step (by repeat (first | (with_reducible first | exact HB.out | apply below_alloc | apply pw_below_drewN | apply below_drew1) | exact HB.out)) hb); clear HB; have HB := n0_; clear n0_; (try clear hb); (try clear hb2); (try clear hk); (try clear hi)) | (go_at_call 28; (with_reducible refine (customhouseref01_Joined.calls _ _ l1 t161 _ ?side1 ?side2 A13.out).mono ?_); (case side1 => repeat (first | exact (Kd.C_below HR1.out HB.out) | (with_reducible refine Kd.C_alloc ?_ _) | (with_reducible refine Kd.C_drewN ?_ _) | (with_reducible refine Kd.C_drew ?_))); (case side2 => exact HC1.out); rintro e w16 ⟨rfl, hb⟩; have n0_ := Aside0.mk (below_step (by repeat (first | (with_reducible first | exact HB.out | apply below_alloc | apply pw_below_drewN | apply below_drew1) | exact HB.out)) hb); clear HB; have HB := n0_; clear n0_; (try clear hb); (try clear hb2); (try clear hk); (try clear hi))))
        (try simp only [Act.put, List.setIfInBounds_toArray, List.set_cons_zero, List.set_cons_succ])
        go_cut [40] (fun v40 wc => ∃ (kq : Nat) (x40_13 : Bool), v40 = .bool x40_13 ∧ Aside0 (customhouselaw01_DigestLists.j1 kq l0 l1 a2 a3 t157 t160 t161 x40_13 = some r) ∧ Aside0 (kq ≤ kj5) ∧ Aside0 (Below w.heap.size w wc))
        case first =>
          have H := HC14.out
          clear HC14
          replace H := Option.bind_eq_some_iff.mp H
          obtain ⟨t162, A170, H⟩ := H
          replace H : ((digest_Sum.f t160).bind fun t163 => (if t162.toList = t163.toList then ((customhouseref01_Same.f kj5 l0 l1).bind fun t164 => (customhouselaw01_DigestLists.j1 kj5 l0 l1 a2 a3 t157 t160 t161 ((t160.toList == t161.toList) != t164))) else (customhouselaw01_DigestLists.j1 kj5 l0 l1 a2 a3 t157 t160 t161 true))) = some r := H
          have A17 := Aside0.mk A170
          clear A170
          replace H := Option.bind_eq_some_iff.mp H
          obtain ⟨t163, A180, H⟩ := H
          replace H : (if t162.toList = t163.toList then ((customhouseref01_Same.f kj5 l0 l1).bind fun t164 => (customhouselaw01_DigestLists.j1 kj5 l0 l1 a2 a3 t157 t160 t161 ((t160.toList == t161.toList) != t164))) else (customhouselaw01_DigestLists.j1 kj5 l0 l1 a2 a3 t157 t160 t161 true)) = some r := H
          have A18 := Aside0.mk A180
          clear A180
          by_cases c19 : t162.toList = t163.toList
          · rw [if_pos c19] at H
            have c19b0 : (t162.toList == t163.toList) = true := beq_iff_eq.mpr c19
            have c19b1 : (t162.toList != t163.toList) = false := bne_eq_false_iff_eq.mpr c19
            clear c19
            (first | rw [c19b0] | (simp only [i64_w, i32_w]; rw [c19b0]) | skip)
            replace H := Option.bind_eq_some_iff.mp H
            obtain ⟨t164, A200, H⟩ := H
            replace H : (customhouselaw01_DigestLists.j1 kj5 l0 l1 a2 a3 t157 t160 t161 ((t160.toList == t161.toList) != t164)) = some r := H
            have A20 := Aside0.mk A200
            clear A200
            have H' := Aside0.mk H
            clear H
            go_wp2_with (first | (go_at_call 22; (with_reducible refine (digest_List.calls _ _ l0 t162 _ ?side3 ?side1 ?side2 A17.out).mono ?_); (case side1 => repeat (first | exact (Kd.C_below HR0.out HB.out) | (with_reducible refine Kd.C_alloc ?_ _) | (with_reducible refine Kd.C_drewN ?_ _) | (with_reducible refine Kd.C_drew ?_))); (case side2 => exact HC0.out); (case side3 => exact GL.below HG.out (by repeat (first | (with_reducible first | exact HB.out | apply below_alloc | apply pw_below_drewN | apply below_drew1) | exact HB.out))); rintro e w21 ⟨rfl, hb⟩; have n0_ := Aside0.mk (below_step (by repeat (first | (with_reducible first | exact HB.out | apply below_alloc | apply pw_below_drewN | apply below_drew1) | exact HB.out)) hb); clear HB; have HB := n0_; clear n0_; (try clear hb); (try clear hb2); (try clear hk); (try clear hi)) | (go_at_call 20; (with_reducible refine (digest_Sum.calls t160 t163 _ ?side1 A18.out).mono ?_); (case side1 => exact GL.below HG.out (by repeat (first | (with_reducible first | exact HB.out | apply below_alloc | apply pw_below_drewN | apply below_drew1) | exact HB.out))); rintro e w22 ⟨rfl, hb⟩; have n0_ := Aside0.mk (below_step (by repeat (first | (with_reducible first | exact HB.out | apply below_alloc | apply pw_below_drewN | apply below_drew1) | exact HB.out)) hb); clear HB; have HB := n0_; clear n0_; (try clear hb); (try clear hb2); (try clear hk); (try clear hi)) | (go_at_call 29; (with_reducible refine (customhouseref01_Same.calls kj5 _ _ l0 _ _ l1 t164 _ ?side1 ?side2 ?side3 ?side4 A20.out).mono ?_); (case side1 => repeat (first | exact (Kd.C_below HR0.out HB.out) | (with_reducible refine Kd.C_alloc ?_ _) | (with_reducible refine Kd.C_drewN ?_ _) | (with_reducible refine Kd.C_drew ?_))); (case side2 => exact HC0.out); (case side3 => repeat (first | exact (Kd.C_below HR1.out HB.out) | (with_reducible refine Kd.C_alloc ?_ _) | (with_reducible refine Kd.C_drewN ?_ _) | (with_reducible refine Kd.C_drew ?_))); (case side4 => exact HC1.out); rintro e w' ⟨rfl, ⟨nd, rfl⟩⟩; (try first | exact ⟨rfl, _, World.drewN_drewN _ _ _⟩ | exact ⟨rfl, _, Eq.trans (World.drewN_drewN _ _ _) (congrArg (World.drewN _) (Nat.add_assoc _ _ _))⟩)))
            repeat (go_quiet (first | (go_at_call 22; (with_reducible refine (digest_List.calls _ _ l0 t162 _ ?side3 ?side1 ?side2 A17.out).mono ?_); (case side1 => repeat (first | exact (Kd.C_below HR0.out HB.out) | (with_reducible refine Kd.C_alloc ?_ _) | (with_reducible refine Kd.C_drewN ?_ _) | (with_reducible refine Kd.C_drew ?_))); (case side2 => exact HC0.out); (case side3 => exact GL.below HG.out (by repeat (first | (with_reducible first | exact HB.out | apply below_alloc | apply pw_below_drewN | apply below_drew1) | exact HB.out))); rintro e w21 ⟨rfl, hb⟩; have n0_ := Aside0.mk (below_step (by repeat (first | (with_reducible first | exact HB.out | apply below_alloc | apply pw_below_drewN | apply below_drew1) | exact HB.out)) hb); clear HB; have HB := n0_; clear n0_; (try clear hb); (try clear hb2); (try clear hk); (try clear hi)) | (go_at_call 20; (with_reducible refine (digest_Sum.calls t160 t163 _ ?side1 A18.out).mono ?_); (case side1 => exact GL.below HG.out (by repeat (first | (with_reducible first | exact HB.out | apply below_alloc | apply pw_below_drewN | apply below_drew1) | exact HB.out))); rintro e w22 ⟨rfl, hb⟩; have n0_ := Aside0.mk (below_step (by repeat (first | (with_reducible first | exact HB.out | apply below_alloc | apply pw_below_drewN | apply below_drew1) | exact HB.out)) hb); clear HB; have HB := n0_; clear n0_; (try clear hb); (try clear hb2); (try clear hk); (try clear hi)) | (go_at_call 29; (with_reducible refine (customhouseref01_Same.calls kj5 _ _ l0 _ _ l1 t164 _ ?side1 ?side2 ?side3 ?side4 A20.out).mono ?_); (case side1 => repeat (first | exact (Kd.C_below HR0.out HB.out) | (with_reducible refine Kd.C_alloc ?_ _) | (with_reducible refine Kd.C_drewN ?_ _) | (with_reducible refine Kd.C_drew ?_))); (case side2 => exact HC0.out); (case side3 => repeat (first | exact (Kd.C_below HR1.out HB.out) | (with_reducible refine Kd.C_alloc ?_ _) | (with_reducible refine Kd.C_drewN ?_ _) | (with_reducible refine Kd.C_drew ?_))); (case side4 => exact HC1.out); rintro e w' ⟨rfl, ⟨nd, rfl⟩⟩; (try first | exact ⟨rfl, _, World.drewN_drewN _ _ _⟩ | exact ⟨rfl, _, Eq.trans (World.drewN_drewN _ _ _) (congrArg (World.drewN _) (Nat.add_assoc _ _ _))⟩))); try go_wp2_with (first | (go_at_call 22; (with_reducible refine (digest_List.calls _ _ l0 t162 _ ?side3 ?side1 ?side2 A17.out).mono ?_); (case side1 => repeat (first | exact (Kd.C_below HR0.out HB.out) | (with_reducible refine Kd.C_alloc ?_ _) | (with_reducible refine Kd.C_drewN ?_ _) | (with_reducible refine Kd.C_drew ?_))); (case side2 => exact HC0.out); (case side3 => exact GL.below HG.out (by repeat (first | (with_reducible first | exact HB.out | apply below_alloc | apply pw_below_drewN | apply below_drew1) | exact HB.out))); rintro e w21 ⟨rfl, hb⟩; have n0_ := Aside0.mk (below_step (by repeat (first | (with_reducible first | exact HB.out | apply below_alloc | apply pw_below_drewN | apply below_drew1) | exact HB.out)) hb); clear HB; have HB := n0_; clear n0_; (try clear hb); (try clear hb2); (try clear hk); (try clear hi)) | (go_at_call 20; (with_reducible refine (digest_Sum.calls t160 t163 _ ?side1 A18.out).mono ?_); (case side1 => exact GL.below HG.out (by repeat (first | (with_reducible first | exact HB.out | apply below_alloc | apply pw_below_drewN | apply below_drew1) | exact HB.out))); rintro e w22 ⟨rfl, hb⟩; have n0_ := Aside0.mk (below_step (by repeat (first | (with_reducible first | exact HB.out | apply below_alloc | apply pw_below_drewN | apply below_drew1) | exact HB.out)) hb); clear HB; have HB := n0_; clear n0_; (try clear hb); (try clear hb2); (try clear hk); (try clear hi)) | (go_at_call 29; (with_reducible refine (customhouseref01_Same.calls kj5 _ _ l0 _ _ l1 t164 _ ?side1 ?side2 ?side3 ?side4 A20.out).mono ?_); (case side1 => repeat (first | exact (Kd.C_below HR0.out HB.out) | (with_reducible refine Kd.C_alloc ?_ _) | (with_reducible refine Kd.C_drewN ?_ _) | (with_reducible refine Kd.C_drew ?_))); (case side2 => exact HC0.out); (case side3 => repeat (first | exact (Kd.C_below HR1.out HB.out) | (with_reducible refine Kd.C_alloc ?_ _) | (with_reducible refine Kd.C_drewN ?_ _) | (with_reducible refine Kd.C_drew ?_))); (case side4 => exact HC1.out); rintro e w' ⟨rfl, ⟨nd, rfl⟩⟩; (try first | exact ⟨rfl, _, World.drewN_drewN _ _ _⟩ | exact ⟨rfl, _, Eq.trans (World.drewN_drewN _ _ _) (congrArg (World.drewN _) (Nat.add_assoc _ _ _))⟩))))
            go_meet
            case rel => exact ⟨_, (((t160.toList == t161.toList) != t164)), (by first | rfl | (simp; done) | (simp [*]; done)), H', ⟨by have := HJ5.out; first | omega | exact Nat.le_refl _⟩, ⟨by repeat (first | (with_reducible first | exact HB.out | apply below_alloc | apply pw_below_drewN | apply below_drew1) | exact HB.out)⟩⟩
          · rw [if_neg c19] at H
            have c19b0 : (t162.toList == t163.toList) = false := beq_eq_false_iff_ne.mpr c19
            have c19b1 : (t162.toList != t163.toList) = true := bne_iff_ne.mpr c19
            (first | rw [c19b0] | (simp only [i64_w, i32_w]; rw [c19b0]) | skip)
            have H' := Aside0.mk H
            clear H
            go_wp2_with (first | (go_at_call 22; (with_reducible refine (digest_List.calls _ _ l0 t162 _ ?side3 ?side1 ?side2 A17.out).mono ?_); (case side1 => repeat (first | exact (Kd.C_below HR0.out HB.out) | (with_reducible refine Kd.C_alloc ?_ _) | (with_reducible refine Kd.C_drewN ?_ _) | (with_reducible refine Kd.C_drew ?_))); (case side2 => exact HC0.out); (case side3 => exact GL.below HG.out (by repeat (first | (with_reducible first | exact HB.out | apply below_alloc | apply pw_below_drewN | apply below_drew1) | exact HB.out))); rintro e w23 ⟨rfl, hb⟩; have n0_ := Aside0.mk (below_step (by repeat (first | (with_reducible first | exact HB.out | apply below_alloc | apply pw_below_drewN | apply below_drew1) | exact HB.out)) hb); clear HB; have HB := n0_; clear n0_; (try clear hb); (try clear hb2); (try clear hk); (try clear hi)) | (go_at_call 20; (with_reducible refine (digest_Sum.calls t160 t163 _ ?side1 A18.out).mono ?_); (case side1 => exact GL.below HG.out (by repeat (first | (with_reducible first | exact HB.out | apply below_alloc | apply pw_below_drewN | apply below_drew1) | exact HB.out))); rintro e w24 ⟨rfl, hb⟩; have n0_ := Aside0.mk (below_step (by repeat (first | (with_reducible first | exact HB.out | apply below_alloc | apply pw_below_drewN | apply below_drew1) | exact HB.out)) hb); clear HB; have HB := n0_; clear n0_; (try clear hb); (try clear hb2); (try clear hk); (try clear hi)))
            repeat (go_quiet (first | (go_at_call 22; (with_reducible refine (digest_List.calls _ _ l0 t162 _ ?side3 ?side1 ?side2 A17.out).mono ?_); (case side1 => repeat (first | exact (Kd.C_below HR0.out HB.out) | (with_reducible refine Kd.C_alloc ?_ _) | (with_reducible refine Kd.C_drewN ?_ _) | (with_reducible refine Kd.C_drew ?_))); (case side2 => exact HC0.out); (case side3 => exact GL.below HG.out (by repeat (first | (with_reducible first | exact HB.out | apply below_alloc | apply pw_below_drewN | apply below_drew1) | exact HB.out))); rintro e w23 ⟨rfl, hb⟩; have n0_ := Aside0.mk (below_step (by repeat (first | (with_reducible first | exact HB.out | apply below_alloc | apply pw_below_drewN | apply below_drew1) | exact HB.out)) hb); clear HB; have HB := n0_; clear n0_; (try clear hb); (try clear hb2); (try clear hk); (try clear hi)) | (go_at_call 20; (with_reducible refine (digest_Sum.calls t160 t163 _ ?side1 A18.out).mono ?_); (case side1 => exact GL.below HG.out (by repeat (first | (with_reducible first | exact HB.out | apply below_alloc | apply pw_below_drewN | apply below_drew1) | exact HB.out))); rintro e w24 ⟨rfl, hb⟩; have n0_ := Aside0.mk (below_step (by repeat (first | (with_reducible first | exact HB.out | apply below_alloc | apply pw_below_drewN | apply below_drew1) | exact HB.out)) hb); clear HB; have HB := n0_; clear n0_; (try clear hb); (try clear hb2); (try clear hk); (try clear hi))); try go_wp2_with (first | (go_at_call 22; (with_reducible refine (digest_List.calls _ _ l0 t162 _ ?side3 ?side1 ?side2 A17.out).mono ?_); (case side1 => repeat (first | exact (Kd.C_below HR0.out HB.out) | (with_reducible refine Kd.C_alloc ?_ _) | (with_reducible refine Kd.C_drewN ?_ _) | (with_reducible refine Kd.C_drew ?_))); (case side2 => exact HC0.out); (case side3 => exact GL.below HG.out (by repeat (first | (with_reducible first | exact HB.out | apply below_alloc | apply pw_below_drewN | apply below_drew1) | exact HB.out))); rintro e w23 ⟨rfl, hb⟩; have n0_ := Aside0.mk (below_step (by repeat (first | (with_reducible first | exact HB.out | apply below_alloc | apply pw_below_drewN | apply below_drew1) | exact HB.out)) hb); clear HB; have HB := n0_; clear n0_; (try clear hb); (try clear hb2); (try clear hk); (try clear hi)) | (go_at_call 20; (with_reducible refine (digest_Sum.calls t160 t163 _ ?side1 A18.out).mono ?_); (case side1 => exact GL.below HG.out (by repeat (first | (with_reducible first | exact HB.out | apply below_alloc | apply pw_below_drewN | apply below_drew1) | exact HB.out))); rintro e w24 ⟨rfl, hb⟩; have n0_ := Aside0.mk (below_step (by repeat (first | (with_reducible first | exact HB.out | apply below_alloc | apply pw_below_drewN | apply below_drew1) | exact HB.out)) hb); clear HB; have HB := n0_; clear n0_; (try clear hb); (try clear hb2); (try clear hk); (try clear hi))))
            go_meet
            case rel => exact ⟨_, (true), (by first | rfl | (simp; done) | (simp [*]; done)), H', ⟨by have := HJ5.out; first | omega | exact Nat.le_refl _⟩, ⟨by repeat (first | (with_reducible first | exact HB.out | apply below_alloc | apply pw_below_drewN | apply below_drew1) | exact HB.out)⟩⟩
        case rest =>
          clear HC14
          try clear c1
          try clear p2
          try clear c9
          try clear c11
          try clear c19
          try clear c19b0
          try clear c19b1
          try clear p2
          obtain ⟨kq, x40_13, rfl, HA, HJ13, HB⟩ := hcut
          cases kq with
          | zero => exact absurd HA.out (by simp [customhouselaw01_DigestLists.j1])
          | succ kj13 =>
            have H := HA.out
            clear HA
            simp only [customhouselaw01_DigestLists.j1] at H
            by_cases c25 : x40_13 = true
            · subst c25
              have H1 : (some false) = some r := by rw [if_pos rfl] at H; exact H
              clear H
              have H := H1
              clear H1
              obtain rfl := Option.some.inj H
              go_wp2
              repeat (go_quiet (fail); try go_wp2)
              go_ret
              exact ⟨by first | rfl | (simp [errW_none, errW_some] <;> rfl) | (simp [*, errW_none, errW_some] <;> rfl), by repeat (first | (with_reducible first | exact HB.out | apply below_alloc | apply pw_below_drewN | apply below_drew1) | exact HB.out)⟩
            · replace c25 := Bool.eq_false_iff.mpr c25
              subst c25
              have H1 : (if (t160.size : Int) ≤ 7 then (if (t161.size : Int) ≤ 7 then ((digest_List.f l0).bind fun t165 => ((digest_List.f l1).bind fun t166 => ((customhouseref01_Same.f kj13 l0 l1).bind fun t167 => (customhouselaw01_DigestLists.j2 kj13 a2 a3 t157 ((t165.toList == t166.toList) != t167))))) else (customhouselaw01_DigestLists.j2 kj13 a2 a3 t157 false)) else (customhouselaw01_DigestLists.j2 kj13 a2 a3 t157 false)) = some r := by rw [if_neg (show ¬ (false = true) by decide)] at H; exact H
              clear H
              have H := H1
              clear H1
              have HC26 := Aside0.mk H
              clear H
              go_upto_region 8 with (fail)
              repeat (go_quiet (fail); go_upto_region 8 with (fail))
              go_cut [59] (fun v59 wc => ∃ (kq : Nat) (x59_25 : Bool), v59 = .bool x59_25 ∧ Aside0 (customhouselaw01_DigestLists.j2 kq a2 a3 t157 x59_25 = some r) ∧ Aside0 (kq ≤ kj13) ∧ Aside0 (Below w.heap.size w wc))
              case first =>
                have H := HC26.out
                clear HC26
                by_cases c27 : (t160.size : Int) ≤ 7
                · rw [if_pos c27] at H
                  have c27b0 : decide ((t160.size : Int) ≤ 7) = true := decide_eq_true c27
                  have c27b1 : decide (t160.size ≤ 7) = true := decide_eq_true (by omega)
                  clear c27
                  (first | rw [c27b0] | (simp only [i64_w, i32_w]; rw [c27b0]) | skip)
                  by_cases c28 : (t161.size : Int) ≤ 7
                  · rw [if_pos c28] at H
                    have c28b0 : decide ((t161.size : Int) ≤ 7) = true := decide_eq_true c28
                    have c28b1 : decide (t161.size ≤ 7) = true := decide_eq_true (by omega)
                    clear c28
                    replace H := Option.bind_eq_some_iff.mp H
                    obtain ⟨t165, A290, H⟩ := H
                    replace H : ((digest_List.f l1).bind fun t166 => ((customhouseref01_Same.f kj13 l0 l1).bind fun t167 => (customhouselaw01_DigestLists.j2 kj13 a2 a3 t157 ((t165.toList == t166.toList) != t167)))) = some r := H
                    have A29 := Aside0.mk A290
                    clear A290
                    replace H := Option.bind_eq_some_iff.mp H
                    obtain ⟨t166, A300, H⟩ := H
                    replace H : ((customhouseref01_Same.f kj13 l0 l1).bind fun t167 => (customhouselaw01_DigestLists.j2 kj13 a2 a3 t157 ((t165.toList == t166.toList) != t167))) = some r := H
                    have A30 := Aside0.mk A300
                    clear A300
                    replace H := Option.bind_eq_some_iff.mp H
                    obtain ⟨t167, A310, H⟩ := H
                    replace H : (customhouselaw01_DigestLists.j2 kj13 a2 a3 t157 ((t165.toList == t166.toList) != t167)) = some r := H
                    have A31 := Aside0.mk A310
                    clear A310
                    have H' := Aside0.mk H
                    clear H
                    go_wp2_with (first | (go_at_call 22; (with_reducible refine (digest_List.calls _ _ l0 t165 _ ?side3 ?side1 ?side2 A29.out).mono ?_); (case side1 => repeat (first | exact (Kd.C_below HR0.out HB.out) | (with_reducible refine Kd.C_alloc ?_ _) | (with_reducible refine Kd.C_drewN ?_ _) | (with_reducible refine Kd.C_drew ?_))); (case side2 => exact HC0.out); (case side3 => exact GL.below HG.out (by repeat (first | (with_reducible first | exact HB.out | apply below_alloc | apply pw_below_drewN | apply below_drew1) | exact HB.out))); rintro e w32 ⟨rfl, hb⟩; have n0_ := Aside0.mk (below_step (by repeat (first | (with_reducible first | exact HB.out | apply below_alloc | apply pw_below_drewN | apply below_drew1) | exact HB.out)) hb); clear HB; have HB := n0_; clear n0_; (try clear hb); (try clear hb2); (try clear hk); (try clear hi)) | (go_at_call 22; (with_reducible refine (digest_List.calls _ _ l1 t166 _ ?side3 ?side1 ?side2 A30.out).mono ?_); (case side1 => repeat (first | exact (Kd.C_below HR1.out HB.out) | (with_reducible refine Kd.C_alloc ?_ _) | (with_reducible refine Kd.C_drewN ?_ _) | (with_reducible refine Kd.C_drew ?_))); (case side2 => exact HC1.out); (case side3 => exact GL.below HG.out (by repeat (first | (with_reducible first | exact HB.out | apply below_alloc | apply pw_below_drewN | apply below_drew1) | exact HB.out))); rintro e w33 ⟨rfl, hb⟩; have n0_ := Aside0.mk (below_step (by repeat (first | (with_reducible first | exact HB.out | apply below_alloc | apply pw_below_drewN | apply below_drew1) | exact HB.out)) hb); clear HB; have HB := n0_; clear n0_; (try clear hb); (try clear hb2); (try clear hk); (try clear hi)) | (go_at_call 29; (with_reducible refine (customhouseref01_Same.calls kj13 _ _ l0 _ _ l1 t167 _ ?side1 ?side2 ?side3 ?side4 A31.out).mono ?_); (case side1 => repeat (first | exact (Kd.C_below HR0.out HB.out) | (with_reducible refine Kd.C_alloc ?_ _) | (with_reducible refine Kd.C_drewN ?_ _) | (with_reducible refine Kd.C_drew ?_))); (case side2 => exact HC0.out); (case side3 => repeat (first | exact (Kd.C_below HR1.out HB.out) | (with_reducible refine Kd.C_alloc ?_ _) | (with_reducible refine Kd.C_drewN ?_ _) | (with_reducible refine Kd.C_drew ?_))); (case side4 => exact HC1.out); rintro e w' ⟨rfl, ⟨nd, rfl⟩⟩; (try first | exact ⟨rfl, _, World.drewN_drewN _ _ _⟩ | exact ⟨rfl, _, Eq.trans (World.drewN_drewN _ _ _) (congrArg (World.drewN _) (Nat.add_assoc _ _ _))⟩)))
                    repeat (go_quiet (first | (go_at_call 22; (with_reducible refine (digest_List.calls _ _ l0 t165 _ ?side3 ?side1 ?side2 A29.out).mono ?_); (case side1 => repeat (first | exact (Kd.C_below HR0.out HB.out) | (with_reducible refine Kd.C_alloc ?_ _) | (with_reducible refine Kd.C_drewN ?_ _) | (with_reducible refine Kd.C_drew ?_))); (case side2 => exact HC0.out); (case side3 => exact GL.below HG.out (by repeat (first | (with_reducible first | exact HB.out | apply below_alloc | apply pw_below_drewN | apply below_drew1) | exact HB.out))); rintro e w32 ⟨rfl, hb⟩; have n0_ := Aside0.mk (below_step (by repeat (first | (with_reducible first | exact HB.out | apply below_alloc | apply pw_below_drewN | apply below_drew1) | exact HB.out)) hb); clear HB; have HB := n0_; clear n0_; (try clear hb); (try clear hb2); (try clear hk); (try clear hi)) | (go_at_call 22; (with_reducible refine (digest_List.calls _ _ l1 t166 _ ?side3 ?side1 ?side2 A30.out).mono ?_); (case side1 => repeat (first | exact (Kd.C_below HR1.out HB.out) | (with_reducible refine Kd.C_alloc ?_ _) | (with_reducible refine Kd.C_drewN ?_ _) | (with_reducible refine Kd.C_drew ?_))); (case side2 => exact HC1.out); (case side3 => exact GL.below HG.out (by repeat (first | (with_reducible first | exact HB.out | apply below_alloc | apply pw_below_drewN | apply below_drew1) | exact HB.out))); rintro e w33 ⟨rfl, hb⟩; have n0_ := Aside0.mk (below_step (by repeat (first | (with_reducible first | exact HB.out | apply below_alloc | apply pw_below_drewN | apply below_drew1) | exact HB.out)) hb); clear HB; have HB := n0_; clear n0_; (try clear hb); (try clear hb2); (try clear hk); (try clear hi)) | (go_at_call 29; (with_reducible refine (customhouseref01_Same.calls kj13 _ _ l0 _ _ l1 t167 _ ?side1 ?side2 ?side3 ?side4 A31.out).mono ?_); (case side1 => repeat (first | exact (Kd.C_below HR0.out HB.out) | (with_reducible refine Kd.C_alloc ?_ _) | (with_reducible refine Kd.C_drewN ?_ _) | (with_reducible refine Kd.C_drew ?_))); (case side2 => exact HC0.out); (case side3 => repeat (first | exact (Kd.C_below HR1.out HB.out) | (with_reducible refine Kd.C_alloc ?_ _) | (with_reducible refine Kd.C_drewN ?_ _) | (with_reducible refine Kd.C_drew ?_))); (case side4 => exact HC1.out); rintro e w' ⟨rfl, ⟨nd, rfl⟩⟩; (try first | exact ⟨rfl, _, World.drewN_drewN _ _ _⟩ | exact ⟨rfl, _, Eq.trans (World.drewN_drewN _ _ _) (congrArg (World.drewN _) (Nat.add_assoc _ _ _))⟩))); try go_wp2_with (first | (go_at_call 22; (with_reducible refine (digest_List.calls _ _ l0 t165 _ ?side3 ?side1 ?side2 A29.out).mono ?_); (case side1 => repeat (first | exact (Kd.C_below HR0.out HB.out) | (with_reducible refine Kd.C_alloc ?_ _) | (with_reducible refine Kd.C_drewN ?_ _) | (with_reducible refine Kd.C_drew ?_))); (case side2 => exact HC0.out); (case side3 => exact GL.below HG.out (by repeat (first | (with_reducible first | exact HB.out | apply below_alloc | apply pw_below_drewN | apply below_drew1) | exact HB.out))); rintro e w32 ⟨rfl, hb⟩; have n0_ := Aside0.mk (below_step (by repeat (first | (with_reducible first | exact HB.out | apply below_alloc | apply pw_below_drewN | apply below_drew1) | exact HB.out)) hb); clear HB; have HB := n0_; clear n0_; (try clear hb); (try clear hb2); (try clear hk); (try clear hi)) | (go_at_call 22; (with_reducible refine (digest_List.calls _ _ l1 t166 _ ?side3 ?side1 ?side2 A30.out).mono ?_); (case side1 => repeat (first | exact (Kd.C_below HR1.out HB.out) | (with_reducible refine Kd.C_alloc ?_ _) | (with_reducible refine Kd.C_drewN ?_ _) | (with_reducible refine Kd.C_drew ?_))); (case side2 => exact HC1.out); (case side3 => exact GL.below HG.out (by repeat (first | (with_reducible first | exact HB.out | apply below_alloc | apply pw_below_drewN | apply below_drew1) | exact HB.out))); rintro e w33 ⟨rfl, hb⟩; have n0_ := Aside0.mk (below_step (by repeat (first | (with_reducible first | exact HB.out | apply below_alloc | apply pw_below_drewN | apply below_drew1) | exact HB.out)) hb); clear HB; have HB := n0_; clear n0_; (try clear hb); (try clear hb2); (try clear hk); (try clear hi)) | (go_at_call 29; (with_reducible refine (customhouseref01_Same.calls kj13 _ _ l0 _ _ l1 t167 _ ?side1 ?side2 ?side3 ?side4 A31.out).mono ?_); (case side1 => repeat (first | exact (Kd.C_below HR0.out HB.out) | (with_reducible refine Kd.C_alloc ?_ _) | (with_reducible refine Kd.C_drewN ?_ _) | (with_reducible refine Kd.C_drew ?_))); (case side2 => exact HC0.out); (case side3 => repeat (first | exact (Kd.C_below HR1.out HB.out) | (with_reducible refine Kd.C_alloc ?_ _) | (with_reducible refine Kd.C_drewN ?_ _) | (with_reducible refine Kd.C_drew ?_))); (case side4 => exact HC1.out); rintro e w' ⟨rfl, ⟨nd, rfl⟩⟩; (try first | exact ⟨rfl, _, World.drewN_drewN _ _ _⟩ | exact ⟨rfl, _, Eq.trans (World.drewN_drewN _ _ _) (congrArg (World.drewN _) (Nat.add_assoc _ _ _))⟩))))
                    go_meet
                    case rel => exact ⟨_, (((t165.toList == t166.toList) != t167)), (by first | rfl | (simp; done) | (simp [*]; done)), H', ⟨by have := HJ5.out; have := HJ13.out; first | omega | exact Nat.le_refl _⟩, ⟨by repeat (first | (with_reducible first | exact HB.out | apply below_alloc | apply pw_below_drewN | apply below_drew1) | exact HB.out)⟩⟩
                  · rw [if_neg c28] at H
                    have c28b0 : decide ((t161.size : Int) ≤ 7) = false := decide_eq_false c28
                    have c28b1 : decide (t161.size ≤ 7) = false := decide_eq_false (by omega)
                    clear c28
                    have H' := Aside0.mk H
                    clear H
                    go_wp2
                    repeat (go_quiet (fail); try go_wp2)
                    go_meet
                    case rel => exact ⟨_, (false), (by first | rfl | (simp; done) | (simp [*]; done)), H', ⟨by have := HJ5.out; have := HJ13.out; first | omega | exact Nat.le_refl _⟩, ⟨by repeat (first | (with_reducible first | exact HB.out | apply below_alloc | apply pw_below_drewN | apply below_drew1) | exact HB.out)⟩⟩
                · rw [if_neg c27] at H
                  have c27b0 : decide ((t160.size : Int) ≤ 7) = false := decide_eq_false c27
                  have c27b1 : decide (t160.size ≤ 7) = false := decide_eq_false (by omega)
                  clear c27
                  (first | rw [c27b0] | (simp only [i64_w, i32_w]; rw [c27b0]) | skip)
                  have H' := Aside0.mk H
                  clear H
                  go_wp2
                  repeat (go_quiet (fail); try go_wp2)
                  go_meet
                  case rel => exact ⟨_, (false), (by first | rfl | (simp; done) | (simp [*]; done)), H', ⟨by have := HJ5.out; have := HJ13.out; first | omega | exact Nat.le_refl _⟩, ⟨by repeat (first | (with_reducible first | exact HB.out | apply below_alloc | apply pw_below_drewN | apply below_drew1) | exact HB.out)⟩⟩
              case rest =>
                clear HC26
                try clear c1
                try clear c2
                try clear p2
                try clear c9
                try clear c11
                try clear c19
                try clear c19b0
                try clear c19b1
                try clear c25
                try clear c27
                try clear c27b0
                try clear c27b1
                try clear c28
                try clear c28b0
                try clear c28b1
                try clear p2
                obtain ⟨kq, x59_25, rfl, HA, HJ25, HB⟩ := hcut
                cases kq with
                | zero => exact absurd HA.out (by simp [customhouselaw01_DigestLists.j2])
                | succ kj25 =>
                  have H := HA.out
                  clear HA
                  simp only [customhouselaw01_DigestLists.j2] at H
                  by_cases c34 : x59_25 = true
                  · subst c34
                    have H1 : (some false) = some r := by rw [if_pos rfl] at H; exact H
                    clear H
                    have H := H1
                    clear H1
                    obtain rfl := Option.some.inj H
                    go_wp2
                    repeat (go_quiet (fail); try go_wp2)
                    go_ret
                    exact ⟨by first | rfl | (simp [errW_none, errW_some] <;> rfl) | (simp [*, errW_none, errW_some] <;> rfl), by repeat (first | (with_reducible first | exact HB.out | apply below_alloc | apply pw_below_drewN | apply below_drew1) | exact HB.out)⟩
                  · replace c34 := Bool.eq_false_iff.mpr c34
                    subst c34
                    have H1 : (if 0 ≤ (mn (mn (a2.size : Int) (a3.size : Int)) 9) then (if (mn (mn (a2.size : Int) (a3.size : Int)) 9) ≤ (a2.size : Int) then (if 0 ≤ (mn (mn (mn (a2.size : Int) (a3.size : Int)) 9) 6) then (if (mn (mn (mn (a2.size : Int) (a3.size : Int)) 9) 6) ≤ ((a2.extract 0 ((mn (mn (a2.size : Int) (a3.size : Int)) 9) : Int).toNat).size : Int) then (if (mn (mn (mn (a2.size : Int) (a3.size : Int)) 9) 6) ≤ (mn (mn (a2.size : Int) (a3.size : Int)) 9) then (if (mn (mn (a2.size : Int) (a3.size : Int)) 9) ≤ (a3.size : Int) then (if ((a2.extract 0 ((mn (mn (a2.size : Int) (a3.size : Int)) 9) : Int).toNat).extract 0 ((mn (mn (mn (a2.size : Int) (a3.size : Int)) 9) 6) : Int).toNat).size + (a3.extract ((mn (mn (mn (a2.size : Int) (a3.size : Int)) 9) 6) : Int).toNat ((mn (mn (a2.size : Int) (a3.size : Int)) 9) : Int).toNat).size ≤ 9223372036854775807 then (if t157 = true then ((digest_List.f (([a2.extract 0 ((mn (mn (a2.size : Int) (a3.size : Int)) 9) : Int).toNat] : List ByteArray))).bind fun t171 => ((digest_List.f (([((a2.extract 0 ((mn (mn (a2.size : Int) (a3.size : Int)) 9) : Int).toNat).extract 0 ((mn (mn (mn (a2.size : Int) (a3.size : Int)) 9) 6) : Int).toNat) ++ (a3.extract ((mn (mn (mn (a2.size : Int) (a3.size : Int)) 9) 6) : Int).toNat ((mn (mn (a2.size : Int) (a3.size : Int)) 9) : Int).toNat)] : List ByteArray))).bind fun t175 => (some ((t171.toList == t175.toList) == ((a2.extract 0 ((mn (mn (a2.size : Int) (a3.size : Int)) 9) : Int).toNat).toList == (((a2.extract 0 ((mn (mn (a2.size : Int) (a3.size : Int)) 9) : Int).toNat).extract 0 ((mn (mn (mn (a2.size : Int) (a3.size : Int)) 9) 6) : Int).toNat) ++ (a3.extract ((mn (mn (mn (a2.size : Int) (a3.size : Int)) 9) 6) : Int).toNat ((mn (mn (a2.size : Int) (a3.size : Int)) 9) : Int).toNat)).toList))))) else (some false)) else (none)) else (none)) else (none)) else (none)) else (none)) else (none)) else (none)) = some r := by rw [if_neg (show ¬ (false = true) by decide)] at H; exact H
                    clear H
                    have H := H1
                    clear H1
                    obtain ⟨ji35, hji35⟩ : ∃ j_ : Int, (mn (a2.size : Int) (a3.size : Int)) = j_ := ⟨_, rfl⟩
                    replace H : (if 0 ≤ (mn (ji35) 9) then (if (mn (ji35) 9) ≤ (a2.size : Int) then (if 0 ≤ (mn (mn (ji35) 9) 6) then (if (mn (mn (ji35) 9) 6) ≤ ((a2.extract 0 ((mn (ji35) 9) : Int).toNat).size : Int) then (if (mn (mn (ji35) 9) 6) ≤ (mn (ji35) 9) then (if (mn (ji35) 9) ≤ (a3.size : Int) then (if ((a2.extract 0 ((mn (ji35) 9) : Int).toNat).extract 0 ((mn (mn (ji35) 9) 6) : Int).toNat).size + (a3.extract ((mn (mn (ji35) 9) 6) : Int).toNat ((mn (ji35) 9) : Int).toNat).size ≤ 9223372036854775807 then (if t157 = true then ((digest_List.f (([a2.extract 0 ((mn (ji35) 9) : Int).toNat] : List ByteArray))).bind fun t171 => ((digest_List.f (([((a2.extract 0 ((mn (ji35) 9) : Int).toNat).extract 0 ((mn (mn (ji35) 9) 6) : Int).toNat) ++ (a3.extract ((mn (mn (ji35) 9) 6) : Int).toNat ((mn (ji35) 9) : Int).toNat)] : List ByteArray))).bind fun t175 => (some ((t171.toList == t175.toList) == ((a2.extract 0 ((mn (ji35) 9) : Int).toNat).toList == (((a2.extract 0 ((mn (ji35) 9) : Int).toNat).extract 0 ((mn (mn (ji35) 9) 6) : Int).toNat) ++ (a3.extract ((mn (mn (ji35) 9) 6) : Int).toNat ((mn (ji35) 9) : Int).toNat)).toList))))) else (some false)) else (none)) else (none)) else (none)) else (none)) else (none)) else (none)) else (none)) = some r := by first | (rw [hji35] at H; exact H) | (simp only [hji35] at H ⊢; exact H)
                    (try (have hji35l : 0 ≤ ji35 := by (rw [← hji35]; unfold mn; (repeat' split) <;> omega)))
                    (try (have hji35m : 0 ≤ ji35 := by omega))
                    have hji35_ : (if (a3.size : Int) < (a2.size : Int) then (a3.size : Int) else (a2.size : Int)) = ji35 := hji35
                    (try (have hji35n := hji35_; simp only [Int.ofNat_lt] at hji35n))
                    obtain ⟨ji36, hji36⟩ : ∃ j_ : Int, (mn (ji35) 9) = j_ := ⟨_, rfl⟩
                    replace H : (if 0 ≤ (ji36) then (if (ji36) ≤ (a2.size : Int) then (if 0 ≤ (mn (ji36) 6) then (if (mn (ji36) 6) ≤ ((a2.extract 0 ((ji36) : Int).toNat).size : Int) then (if (mn (ji36) 6) ≤ (ji36) then (if (ji36) ≤ (a3.size : Int) then (if ((a2.extract 0 ((ji36) : Int).toNat).extract 0 ((mn (ji36) 6) : Int).toNat).size + (a3.extract ((mn (ji36) 6) : Int).toNat ((ji36) : Int).toNat).size ≤ 9223372036854775807 then (if t157 = true then ((digest_List.f (([a2.extract 0 ((ji36) : Int).toNat] : List ByteArray))).bind fun t171 => ((digest_List.f (([((a2.extract 0 ((ji36) : Int).toNat).extract 0 ((mn (ji36) 6) : Int).toNat) ++ (a3.extract ((mn (ji36) 6) : Int).toNat ((ji36) : Int).toNat)] : List ByteArray))).bind fun t175 => (some ((t171.toList == t175.toList) == ((a2.extract 0 ((ji36) : Int).toNat).toList == (((a2.extract 0 ((ji36) : Int).toNat).extract 0 ((mn (ji36) 6) : Int).toNat) ++ (a3.extract ((mn (ji36) 6) : Int).toNat ((ji36) : Int).toNat)).toList))))) else (some false)) else (none)) else (none)) else (none)) else (none)) else (none)) else (none)) else (none)) = some r := by first | (rw [hji36] at H; exact H) | (simp only [hji36] at H ⊢; exact H)
                    have hji36_ : (if 9 < (ji35) then 9 else (ji35)) = ji36 := hji36
                    by_cases c37 : 0 ≤ (ji36)
                    · rw [if_pos c37] at H
                      have c37b0 := eq_true c37
                      have c37b1 : decide (0 ≤ (ji36)) = true := decide_eq_true c37
                      clear c37
                      by_cases c38 : (ji36) ≤ (a2.size : Int)
                      · rw [if_pos c38] at H
                        have c38b0 := eq_true c38
                        have c38b1 : decide ((ji36) ≤ (a2.size : Int)) = true := decide_eq_true c38
                        clear c38
                        obtain ⟨ji39, hji39⟩ : ∃ j_ : Int, (mn (ji36) 6) = j_ := ⟨_, rfl⟩
                        replace H : (if 0 ≤ (ji39) then (if (ji39) ≤ ((a2.extract 0 ((ji36) : Int).toNat).size : Int) then (if (ji39) ≤ (ji36) then (if (ji36) ≤ (a3.size : Int) then (if ((a2.extract 0 ((ji36) : Int).toNat).extract 0 ((ji39) : Int).toNat).size + (a3.extract ((ji39) : Int).toNat ((ji36) : Int).toNat).size ≤ 9223372036854775807 then (if t157 = true then ((digest_List.f (([a2.extract 0 ((ji36) : Int).toNat] : List ByteArray))).bind fun t171 => ((digest_List.f (([((a2.extract 0 ((ji36) : Int).toNat).extract 0 ((ji39) : Int).toNat) ++ (a3.extract ((ji39) : Int).toNat ((ji36) : Int).toNat)] : List ByteArray))).bind fun t175 => (some ((t171.toList == t175.toList) == ((a2.extract 0 ((ji36) : Int).toNat).toList == (((a2.extract 0 ((ji36) : Int).toNat).extract 0 ((ji39) : Int).toNat) ++ (a3.extract ((ji39) : Int).toNat ((ji36) : Int).toNat)).toList))))) else (some false)) else (none)) else (none)) else (none)) else (none)) else (none)) = some r := by first | (rw [hji39] at H; exact H) | (simp only [hji39] at H ⊢; exact H)
                        have hji39_ : (if 6 < (ji36) then 6 else (ji36)) = ji39 := hji39
                        by_cases c40 : 0 ≤ (ji39)
                        · rw [if_pos c40] at H
                          have c40b0 := eq_true c40
                          have c40b1 : decide (0 ≤ (ji39)) = true := decide_eq_true c40
                          clear c40
                          by_cases c41 : (ji39) ≤ ((a2.extract 0 ((ji36) : Int).toNat).size : Int)
                          · rw [if_pos c41] at H
                            have c41b0 := eq_true c41
                            have c41b1 : decide ((ji39) ≤ ((a2.extract 0 ((ji36) : Int).toNat).size : Int)) = true := decide_eq_true c41
                            clear c41
                            have c42b0 := eq_true (of_decide_eq_true (by first | (with_reducible assumption) | assumption) : 0 ≤ (ji39))
                            by_cases c43 : (ji39) ≤ (ji36)
                            · rw [if_pos c43] at H
                              have c43b0 := eq_true c43
                              have c43b1 : decide ((ji39) ≤ (ji36)) = true := decide_eq_true c43
                              clear c43
                              by_cases c44 : (ji36) ≤ (a3.size : Int)
                              · rw [if_pos c44] at H
                                have c44b0 := eq_true c44
                                have c44b1 : decide ((ji36) ≤ (a3.size : Int)) = true := decide_eq_true c44
                                clear c44
                                by_cases c45 : ((a2.extract 0 ((ji36) : Int).toNat).extract 0 ((ji39) : Int).toNat).size + (a3.extract ((ji39) : Int).toNat ((ji36) : Int).toNat).size ≤ 9223372036854775807
                                · rw [if_pos c45] at H
                                  have c45b0 := eq_true c45
                                  have c45b1 : decide (((a2.extract 0 ((ji36) : Int).toNat).extract 0 ((ji39) : Int).toNat).size + (a3.extract ((ji39) : Int).toNat ((ji36) : Int).toNat).size ≤ 9223372036854775807) = true := decide_eq_true c45
                                  try have c45b2 : (9223372036854775807 < ((a2.extract 0 ((ji36) : Int).toNat).extract 0 ((ji39) : Int).toNat).size + (a3.extract ((ji39) : Int).toNat ((ji36) : Int).toNat).size) = False := eq_false (Nat.not_lt.2 c45)
                                  by_cases c46 : t157 = true
                                  · subst c46
                                    have H1 : ((digest_List.f (([a2.extract 0 ((ji36) : Int).toNat] : List ByteArray))).bind fun t171 => ((digest_List.f (([((a2.extract 0 ((ji36) : Int).toNat).extract 0 ((ji39) : Int).toNat) ++ (a3.extract ((ji39) : Int).toNat ((ji36) : Int).toNat)] : List ByteArray))).bind fun t175 => (some ((t171.toList == t175.toList) == ((a2.extract 0 ((ji36) : Int).toNat).toList == (((a2.extract 0 ((ji36) : Int).toNat).extract 0 ((ji39) : Int).toNat) ++ (a3.extract ((ji39) : Int).toNat ((ji36) : Int).toNat)).toList))))) = some r := by rw [if_pos rfl] at H; exact H
                                    clear H
                                    have H := H1
                                    clear H1
                                    obtain ⟨y168, hy168⟩ : ∃ y_ : List ByteArray, y_ = (([a2.extract 0 ((ji36) : Int).toNat] : List ByteArray)) := ⟨_, rfl⟩
                                    replace H : ((digest_List.f y168).bind fun t171 => ((digest_List.f (([((a2.extract 0 ((ji36) : Int).toNat).extract 0 ((ji39) : Int).toNat) ++ (a3.extract ((ji39) : Int).toNat ((ji36) : Int).toNat)] : List ByteArray))).bind fun t175 => (some ((t171.toList == t175.toList) == ((a2.extract 0 ((ji36) : Int).toNat).toList == (((a2.extract 0 ((ji36) : Int).toNat).extract 0 ((ji39) : Int).toNat) ++ (a3.extract ((ji39) : Int).toNat ((ji36) : Int).toNat)).toList))))) = some r := by first | (rw [hy168]; with_reducible exact H) | (have H2_ := (Option.bind_some _ _).symm.trans H; rw [hy168]; with_reducible exact H2_) | (have H2_ := (Option.bind_some _ _).symm.trans H; with_reducible exact H2_) | with_reducible exact H | (rw [hy168]; exact H) | exact H
                                    have Ny168 := Aside0.mk hy168
                                    clear hy168
                                    replace H := Option.bind_eq_some_iff.mp H
                                    obtain ⟨t171, A470, H⟩ := H
                                    replace H : ((digest_List.f (([((a2.extract 0 ((ji36) : Int).toNat).extract 0 ((ji39) : Int).toNat) ++ (a3.extract ((ji39) : Int).toNat ((ji36) : Int).toNat)] : List ByteArray))).bind fun t175 => (some ((t171.toList == t175.toList) == ((a2.extract 0 ((ji36) : Int).toNat).toList == (((a2.extract 0 ((ji36) : Int).toNat).extract 0 ((ji39) : Int).toNat) ++ (a3.extract ((ji39) : Int).toNat ((ji36) : Int).toNat)).toList)))) = some r := H
                                    have A47 := Aside0.mk A470
                                    clear A470
                                    obtain ⟨y172, hy172⟩ : ∃ y_ : List ByteArray, y_ = (([((a2.extract 0 ((ji36) : Int).toNat).extract 0 ((ji39) : Int).toNat) ++ (a3.extract ((ji39) : Int).toNat ((ji36) : Int).toNat)] : List ByteArray)) := ⟨_, rfl⟩
                                    replace H : ((digest_List.f y172).bind fun t175 => (some ((t171.toList == t175.toList) == ((a2.extract 0 ((ji36) : Int).toNat).toList == (((a2.extract 0 ((ji36) : Int).toNat).extract 0 ((ji39) : Int).toNat) ++ (a3.extract ((ji39) : Int).toNat ((ji36) : Int).toNat)).toList)))) = some r := by first | (rw [hy172]; with_reducible exact H) | (have H2_ := (Option.bind_some _ _).symm.trans H; rw [hy172]; with_reducible exact H2_) | (have H2_ := (Option.bind_some _ _).symm.trans H; with_reducible exact H2_) | with_reducible exact H | (rw [hy172]; exact H) | exact H
                                    have Ny172 := Aside0.mk hy172
                                    clear hy172
                                    replace H := Option.bind_eq_some_iff.mp H
                                    obtain ⟨t175, A480, H⟩ := H
                                    replace H : (some ((t171.toList == t175.toList) == ((a2.extract 0 ((ji36) : Int).toNat).toList == (((a2.extract 0 ((ji36) : Int).toNat).extract 0 ((ji39) : Int).toNat) ++ (a3.extract ((ji39) : Int).toNat ((ji36) : Int).toNat)).toList))) = some r := H
                                    have A48 := Aside0.mk A480
                                    clear A480
                                    obtain rfl := Option.some.inj H
                                    go_wp2_with (first | ((with_reducible refine gate_dst (N := 81) rfl ?_); (try (refine gate_guard (by rfl) ?_; dsimp only)); refine Kd.R_lit Kd.string _ 9 ?hg (N := 81) ?hd (xs := ([a2.extract 0 ((ji36) : Int).toNat] : List ByteArray)) (inner := [.string (a2.extract 0 ((ji36) : Int).toNat)]) (ok := fun _ => True) (okp := fun _ => True) ?hr ?hp (fun _ hk => hk) trivial (Below.refl _ _) (Nat.le_refl _) (by simp) ?_; (case hd => rfl); (case hg => rfl); (case hr => first | (go_simp; done) | (go_simp; rfl)); (case hp => exact (Reps.one (show Kd.M Kd.string _ _ _ (a2.extract 0 ((ji36) : Int).toNat) [.string (a2.extract 0 ((ji36) : Int).toNat)] from rfl) (Reps.none _ _))); intro v169 w49 ho50 hb hg_ hnew_; clear hg_ hnew_; (first | rw [← Ny168.out] at ho50 | (simp only [Int.reduceToNat] at ho50; rw [← Ny168.out] at ho50)); have n0_ := Aside0.mk (Kd.R_lower ho50 (below_size (by repeat (first | (with_reducible first | exact HB.out | apply below_alloc | apply pw_below_drewN | apply below_drew1) | exact HB.out)))); have n1_ := Aside0.mk (below_step (by repeat (first | (with_reducible first | exact HB.out | apply below_alloc | apply pw_below_drewN | apply below_drew1) | exact HB.out)) hb); clear HB; have HO170 := n0_; have HB := n1_; clear n0_ n1_; clear hb ho50; obtain ⟨Ao51, co51, eo51⟩ := Kd.R_slice HO170.out; subst eo51) | (go_at_call 22; (with_reducible refine (digest_List.calls _ _ y168 t171 _ ?side3 ?side1 ?side2 A47.out).mono ?_); (case side1 => repeat (first | exact (Kd.R_reads' HO170.out).2.2 | (with_reducible refine Kd.C_alloc ?_ _) | (with_reducible refine Kd.C_drewN ?_ _) | (with_reducible refine Kd.C_drew ?_))); (case side2 => exact (Kd.R_reads' HO170.out).2.1); (case side3 => exact GL.below HG.out (by repeat (first | (with_reducible first | exact HB.out | apply below_alloc | apply pw_below_drewN | apply below_drew1) | exact HB.out))); rintro e w52 ⟨rfl, hb⟩; have n0_ := Aside0.mk (Kd.R_below (by (with_reducible repeat (first | apply Kd.R_alloc | apply Kd.R_drewN | apply Kd.R_drew)); exact HO170.out) hb); have n1_ := Aside0.mk (below_step (by repeat (first | (with_reducible first | exact HB.out | apply below_alloc | apply pw_below_drewN | apply below_drew1) | exact HB.out)) hb); clear HO170; clear HB; have HO170 := n0_; have HB := n1_; clear n0_ n1_; (try clear hb); (try clear hb2); (try clear hk); (try clear hi)) | ((with_reducible refine gate_dst (N := 84) rfl ?_); (try (refine gate_guard (by rfl) ?_; dsimp only)); refine Kd.R_lit Kd.string _ 9 ?hg (N := 84) ?hd (xs := ([((a2.extract 0 ((ji36) : Int).toNat).extract 0 ((ji39) : Int).toNat) ++ (a3.extract ((ji39) : Int).toNat ((ji36) : Int).toNat)] : List ByteArray)) (inner := [.string (((a2.extract 0 ((ji36) : Int).toNat).extract 0 ((ji39) : Int).toNat) ++ (a3.extract ((ji39) : Int).toNat ((ji36) : Int).toNat))]) (ok := fun _ => True) (okp := fun _ => True) ?hr ?hp (fun _ hk => hk) trivial (Below.refl _ _) (Nat.le_refl _) (by simp) ?_; (case hd => rfl); (case hg => rfl); (case hr => first | (go_simp; done) | (go_simp; rfl)); (case hp => exact (Reps.one (show Kd.M Kd.string _ _ _ (((a2.extract 0 ((ji36) : Int).toNat).extract 0 ((ji39) : Int).toNat) ++ (a3.extract ((ji39) : Int).toNat ((ji36) : Int).toNat)) [.string (((a2.extract 0 ((ji36) : Int).toNat).extract 0 ((ji39) : Int).toNat) ++ (a3.extract ((ji39) : Int).toNat ((ji36) : Int).toNat))] from rfl) (Reps.none _ _))); intro v173 w53 ho54 hb hg_ hnew_; clear hg_ hnew_; (first | rw [← Ny172.out] at ho54 | (simp only [Int.reduceToNat] at ho54; rw [← Ny172.out] at ho54)); have n0_ := Aside0.mk (Kd.R_elder' (by (with_reducible repeat (first | apply Kd.R_alloc | apply Kd.R_drewN | apply Kd.R_drew)); exact HO170.out) (Kd.R_base ho54) hb); have n1_ := Aside0.mk (Kd.R_lower (Kd.R_new' ho54 (Kd.R_lt (by (with_reducible repeat (first | apply Kd.R_alloc | apply Kd.R_drewN | apply Kd.R_drew)); exact HO170.out))) (below_size (by repeat (first | (with_reducible first | exact HB.out | apply below_alloc | apply pw_below_drewN | apply below_drew1) | exact HB.out)))); have n2_ := Aside0.mk (below_step (by repeat (first | (with_reducible first | exact HB.out | apply below_alloc | apply pw_below_drewN | apply below_drew1) | exact HB.out)) hb); clear HO170; clear HB; have HO170 := n0_; have HO174 := n1_; have HB := n2_; clear n0_ n1_ n2_; clear hb ho54; obtain ⟨Ao55, co55, eo55⟩ := Kd.R_slice HO174.out; subst eo55) | (go_at_call 22; (with_reducible refine (digest_List.calls _ _ y172 t175 _ ?side3 ?side1 ?side2 A48.out).mono ?_); (case side1 => repeat (first | exact (Kd.R_reads' HO174.out).2.2 | (with_reducible refine Kd.C_alloc ?_ _) | (with_reducible refine Kd.C_drewN ?_ _) | (with_reducible refine Kd.C_drew ?_))); (case side2 => exact (Kd.R_reads' HO174.out).2.1); (case side3 => exact GL.below HG.out (by repeat (first | (with_reducible first | exact HB.out | apply below_alloc | apply pw_below_drewN | apply below_drew1) | exact HB.out))); rintro e w56 ⟨rfl, hb⟩; have n0_ := Aside0.mk (Kd.R_below (by (with_reducible repeat (first | apply Kd.R_alloc | apply Kd.R_drewN | apply Kd.R_drew)); exact HO170.out) hb); have n1_ := Aside0.mk (Kd.R_below (by (with_reducible repeat (first | apply Kd.R_alloc | apply Kd.R_drewN | apply Kd.R_drew)); exact HO174.out) hb); have n2_ := Aside0.mk (below_step (by repeat (first | (with_reducible first | exact HB.out | apply below_alloc | apply pw_below_drewN | apply below_drew1) | exact HB.out)) hb); clear HO170; clear HO174; clear HB; have HO170 := n0_; have HO174 := n1_; have HB := n2_; clear n0_ n1_ n2_; (try clear hb); (try clear hb2); (try clear hk); (try clear hi)))
                                    repeat (go_quiet (first | ((with_reducible refine gate_dst (N := 81) rfl ?_); (try (refine gate_guard (by rfl) ?_; dsimp only)); refine Kd.R_lit Kd.string _ 9 ?hg (N := 81) ?hd (xs := ([a2.extract 0 ((ji36) : Int).toNat] : List ByteArray)) (inner := [.string (a2.extract 0 ((ji36) : Int).toNat)]) (ok := fun _ => True) (okp := fun _ => True) ?hr ?hp (fun _ hk => hk) trivial (Below.refl _ _) (Nat.le_refl _) (by simp) ?_; (case hd => rfl); (case hg => rfl); (case hr => first | (go_simp; done) | (go_simp; rfl)); (case hp => exact (Reps.one (show Kd.M Kd.string _ _ _ (a2.extract 0 ((ji36) : Int).toNat) [.string (a2.extract 0 ((ji36) : Int).toNat)] from rfl) (Reps.none _ _))); intro v169 w49 ho50 hb hg_ hnew_; clear hg_ hnew_; (first | rw [← Ny168.out] at ho50 | (simp only [Int.reduceToNat] at ho50; rw [← Ny168.out] at ho50)); have n0_ := Aside0.mk (Kd.R_lower ho50 (below_size (by repeat (first | (with_reducible first | exact HB.out | apply below_alloc | apply pw_below_drewN | apply below_drew1) | exact HB.out)))); have n1_ := Aside0.mk (below_step (by repeat (first | (with_reducible first | exact HB.out | apply below_alloc | apply pw_below_drewN | apply below_drew1) | exact HB.out)) hb); clear HB; have HO170 := n0_; have HB := n1_; clear n0_ n1_; clear hb ho50; obtain ⟨Ao51, co51, eo51⟩ := Kd.R_slice HO170.out; subst eo51) | (go_at_call 22; (with_reducible refine (digest_List.calls _ _ y168 t171 _ ?side3 ?side1 ?side2 A47.out).mono ?_); (case side1 => repeat (first | exact (Kd.R_reads' HO170.out).2.2 | (with_reducible refine Kd.C_alloc ?_ _) | (with_reducible refine Kd.C_drewN ?_ _) | (with_reducible refine Kd.C_drew ?_))); (case side2 => exact (Kd.R_reads' HO170.out).2.1); (case side3 => exact GL.below HG.out (by repeat (first | (with_reducible first | exact HB.out | apply below_alloc | apply pw_below_drewN | apply below_drew1) | exact HB.out))); rintro e w52 ⟨rfl, hb⟩; have n0_ := Aside0.mk (Kd.R_below (by (with_reducible repeat (first | apply Kd.R_alloc | apply Kd.R_drewN | apply Kd.R_drew)); exact HO170.out) hb); have n1_ := Aside0.mk (below_step (by repeat (first | (with_reducible first | exact HB.out | apply below_alloc | apply pw_below_drewN | apply below_drew1) | exact HB.out)) hb); clear HO170; clear HB; have HO170 := n0_; have HB := n1_; clear n0_ n1_; (try clear hb); (try clear hb2); (try clear hk); (try clear hi)) | ((with_reducible refine gate_dst (N := 84) rfl ?_); (try (refine gate_guard (by rfl) ?_; dsimp only)); refine Kd.R_lit Kd.string _ 9 ?hg (N := 84) ?hd (xs := ([((a2.extract 0 ((ji36) : Int).toNat).extract 0 ((ji39) : Int).toNat) ++ (a3.extract ((ji39) : Int).toNat ((ji36) : Int).toNat)] : List ByteArray)) (inner := [.string (((a2.extract 0 ((ji36) : Int).toNat).extract 0 ((ji39) : Int).toNat) ++ (a3.extract ((ji39) : Int).toNat ((ji36) : Int).toNat))]) (ok := fun _ => True) (okp := fun _ => True) ?hr ?hp (fun _ hk => hk) trivial (Below.refl _ _) (Nat.le_refl _) (by simp) ?_; (case hd => rfl); (case hg => rfl); (case hr => first | (go_simp; done) | (go_simp; rfl)); (case hp => exact (Reps.one (show Kd.M Kd.string _ _ _ (((a2.extract 0 ((ji36) : Int).toNat).extract 0 ((ji39) : Int).toNat) ++ (a3.extract ((ji39) : Int).toNat ((ji36) : Int).toNat)) [.string (((a2.extract 0 ((ji36) : Int).toNat).extract 0 ((ji39) : Int).toNat) ++ (a3.extract ((ji39) : Int).toNat ((ji36) : Int).toNat))] from rfl) (Reps.none _ _))); intro v173 w53 ho54 hb hg_ hnew_; clear hg_ hnew_; (first | rw [← Ny172.out] at ho54 | (simp only [Int.reduceToNat] at ho54; rw [← Ny172.out] at ho54)); have n0_ := Aside0.mk (Kd.R_elder' (by (with_reducible repeat (first | apply Kd.R_alloc | apply Kd.R_drewN | apply Kd.R_drew)); exact HO170.out) (Kd.R_base ho54) hb); have n1_ := Aside0.mk (Kd.R_lower (Kd.R_new' ho54 (Kd.R_lt (by (with_reducible repeat (first | apply Kd.R_alloc | apply Kd.R_drewN | apply Kd.R_drew)); exact HO170.out))) (below_size (by repeat (first | (with_reducible first | exact HB.out | apply below_alloc | apply pw_below_drewN | apply below_drew1) | exact HB.out)))); have n2_ := Aside0.mk (below_step (by repeat (first | (with_reducible first | exact HB.out | apply below_alloc | apply pw_below_drewN | apply below_drew1) | exact HB.out)) hb); clear HO170; clear HB; have HO170 := n0_; have HO174 := n1_; have HB := n2_; clear n0_ n1_ n2_; clear hb ho54; obtain ⟨Ao55, co55, eo55⟩ := Kd.R_slice HO174.out; subst eo55) | (go_at_call 22; (with_reducible refine (digest_List.calls _ _ y172 t175 _ ?side3 ?side1 ?side2 A48.out).mono ?_); (case side1 => repeat (first | exact (Kd.R_reads' HO174.out).2.2 | (with_reducible refine Kd.C_alloc ?_ _) | (with_reducible refine Kd.C_drewN ?_ _) | (with_reducible refine Kd.C_drew ?_))); (case side2 => exact (Kd.R_reads' HO174.out).2.1); (case side3 => exact GL.below HG.out (by repeat (first | (with_reducible first | exact HB.out | apply below_alloc | apply pw_below_drewN | apply below_drew1) | exact HB.out))); rintro e w56 ⟨rfl, hb⟩; have n0_ := Aside0.mk (Kd.R_below (by (with_reducible repeat (first | apply Kd.R_alloc | apply Kd.R_drewN | apply Kd.R_drew)); exact HO170.out) hb); have n1_ := Aside0.mk (Kd.R_below (by (with_reducible repeat (first | apply Kd.R_alloc | apply Kd.R_drewN | apply Kd.R_drew)); exact HO174.out) hb); have n2_ := Aside0.mk (below_step (by repeat (first | (with_reducible first | exact HB.out | apply below_alloc | apply pw_below_drewN | apply below_drew1) | exact HB.out)) hb); clear HO170; clear HO174; clear HB; have HO170 := n0_; have HO174 := n1_; have HB := n2_; clear n0_ n1_ n2_; (try clear hb); (try clear hb2); (try clear hk); (try clear hi))); try go_wp2_with (first | ((with_reducible refine gate_dst (N := 81) rfl ?_); (try (refine gate_guard (by rfl) ?_; dsimp only)); refine Kd.R_lit Kd.string _ 9 ?hg (N := 81) ?hd (xs := ([a2.extract 0 ((ji36) : Int).toNat] : List ByteArray)) (inner := [.string (a2.extract 0 ((ji36) : Int).toNat)]) (ok := fun _ => True) (okp := fun _ => True) ?hr ?hp (fun _ hk => hk) trivial (Below.refl _ _) (Nat.le_refl _) (by simp) ?_; (case hd => rfl); (case hg => rfl); (case hr => first | (go_simp; done) | (go_simp; rfl)); (case hp => exact (Reps.one (show Kd.M Kd.string _ _ _ (a2.extract 0 ((ji36) : Int).toNat) [.string (a2.extract 0 ((ji36) : Int).toNat)] from rfl) (Reps.none _ _))); intro v169 w49 ho50 hb hg_ hnew_; clear hg_ hnew_; (first | rw [← Ny168.out] at ho50 | (simp only [Int.reduceToNat] at ho50; rw [← Ny168.out] at ho50)); have n0_ := Aside0.mk (Kd.R_lower ho50 (below_size (by repeat (first | (with_reducible first | exact HB.out | apply below_alloc | apply pw_below_drewN | apply below_drew1) | exact HB.out)))); have n1_ := Aside0.mk (below_step (by repeat (first | (with_reducible first | exact HB.out | apply below_alloc | apply pw_below_drewN | apply below_drew1) | exact HB.out)) hb); clear HB; have HO170 := n0_; have HB := n1_; clear n0_ n1_; clear hb ho50; obtain ⟨Ao51, co51, eo51⟩ := Kd.R_slice HO170.out; subst eo51) | (go_at_call 22; (with_reducible refine (digest_List.calls _ _ y168 t171 _ ?side3 ?side1 ?side2 A47.out).mono ?_); (case side1 => repeat (first | exact (Kd.R_reads' HO170.out).2.2 | (with_reducible refine Kd.C_alloc ?_ _) | (with_reducible refine Kd.C_drewN ?_ _) | (with_reducible refine Kd.C_drew ?_))); (case side2 => exact (Kd.R_reads' HO170.out).2.1); (case side3 => exact GL.below HG.out (by repeat (first | (with_reducible first | exact HB.out | apply below_alloc | apply pw_below_drewN | apply below_drew1) | exact HB.out))); rintro e w52 ⟨rfl, hb⟩; have n0_ := Aside0.mk (Kd.R_below (by (with_reducible repeat (first | apply Kd.R_alloc | apply Kd.R_drewN | apply Kd.R_drew)); exact HO170.out) hb); have n1_ := Aside0.mk (below_step (by repeat (first | (with_reducible first | exact HB.out | apply below_alloc | apply pw_below_drewN | apply below_drew1) | exact HB.out)) hb); clear HO170; clear HB; have HO170 := n0_; have HB := n1_; clear n0_ n1_; (try clear hb); (try clear hb2); (try clear hk); (try clear hi)) | ((with_reducible refine gate_dst (N := 84) rfl ?_); (try (refine gate_guard (by rfl) ?_; dsimp only)); refine Kd.R_lit Kd.string _ 9 ?hg (N := 84) ?hd (xs := ([((a2.extract 0 ((ji36) : Int).toNat).extract 0 ((ji39) : Int).toNat) ++ (a3.extract ((ji39) : Int).toNat ((ji36) : Int).toNat)] : List ByteArray)) (inner := [.string (((a2.extract 0 ((ji36) : Int).toNat).extract 0 ((ji39) : Int).toNat) ++ (a3.extract ((ji39) : Int).toNat ((ji36) : Int).toNat))]) (ok := fun _ => True) (okp := fun _ => True) ?hr ?hp (fun _ hk => hk) trivial (Below.refl _ _) (Nat.le_refl _) (by simp) ?_; (case hd => rfl); (case hg => rfl); (case hr => first | (go_simp; done) | (go_simp; rfl)); (case hp => exact (Reps.one (show Kd.M Kd.string _ _ _ (((a2.extract 0 ((ji36) : Int).toNat).extract 0 ((ji39) : Int).toNat) ++ (a3.extract ((ji39) : Int).toNat ((ji36) : Int).toNat)) [.string (((a2.extract 0 ((ji36) : Int).toNat).extract 0 ((ji39) : Int).toNat) ++ (a3.extract ((ji39) : Int).toNat ((ji36) : Int).toNat))] from rfl) (Reps.none _ _))); intro v173 w53 ho54 hb hg_ hnew_; clear hg_ hnew_; (first | rw [← Ny172.out] at ho54 | (simp only [Int.reduceToNat] at ho54; rw [← Ny172.out] at ho54)); have n0_ := Aside0.mk (Kd.R_elder' (by (with_reducible repeat (first | apply Kd.R_alloc | apply Kd.R_drewN | apply Kd.R_drew)); exact HO170.out) (Kd.R_base ho54) hb); have n1_ := Aside0.mk (Kd.R_lower (Kd.R_new' ho54 (Kd.R_lt (by (with_reducible repeat (first | apply Kd.R_alloc | apply Kd.R_drewN | apply Kd.R_drew)); exact HO170.out))) (below_size (by repeat (first | (with_reducible first | exact HB.out | apply below_alloc | apply pw_below_drewN | apply below_drew1) | exact HB.out)))); have n2_ := Aside0.mk (below_step (by repeat (first | (with_reducible first | exact HB.out | apply below_alloc | apply pw_below_drewN | apply below_drew1) | exact HB.out)) hb); clear HO170; clear HB; have HO170 := n0_; have HO174 := n1_; have HB := n2_; clear n0_ n1_ n2_; clear hb ho54; obtain ⟨Ao55, co55, eo55⟩ := Kd.R_slice HO174.out; subst eo55) | (go_at_call 22; (with_reducible refine (digest_List.calls _ _ y172 t175 _ ?side3 ?side1 ?side2 A48.out).mono ?_); (case side1 => repeat (first | exact (Kd.R_reads' HO174.out).2.2 | (with_reducible refine Kd.C_alloc ?_ _) | (with_reducible refine Kd.C_drewN ?_ _) | (with_reducible refine Kd.C_drew ?_))); (case side2 => exact (Kd.R_reads' HO174.out).2.1); (case side3 => exact GL.below HG.out (by repeat (first | (with_reducible first | exact HB.out | apply below_alloc | apply pw_below_drewN | apply below_drew1) | exact HB.out))); rintro e w56 ⟨rfl, hb⟩; have n0_ := Aside0.mk (Kd.R_below (by (with_reducible repeat (first | apply Kd.R_alloc | apply Kd.R_drewN | apply Kd.R_drew)); exact HO170.out) hb); have n1_ := Aside0.mk (Kd.R_below (by (with_reducible repeat (first | apply Kd.R_alloc | apply Kd.R_drewN | apply Kd.R_drew)); exact HO174.out) hb); have n2_ := Aside0.mk (below_step (by repeat (first | (with_reducible first | exact HB.out | apply below_alloc | apply pw_below_drewN | apply below_drew1) | exact HB.out)) hb); clear HO170; clear HO174; clear HB; have HO170 := n0_; have HO174 := n1_; have HB := n2_; clear n0_ n1_ n2_; (try clear hb); (try clear hb2); (try clear hk); (try clear hi))))
                                    go_ret
                                    exact ⟨by first | rfl | (simp [errW_none, errW_some] <;> rfl) | (simp only [← hji35, ← hji36, ← hji39]; first | rfl | (simp [errW_none, errW_some] <;> rfl)) | (simp [*, errW_none, errW_some] <;> rfl), by repeat (first | (with_reducible first | exact HB.out | apply below_alloc | apply pw_below_drewN | apply below_drew1) | exact HB.out)⟩
                                  · replace c46 := Bool.eq_false_iff.mpr c46
                                    subst c46
                                    have H1 : (some false) = some r := by rw [if_neg (show ¬ (false = true) by decide)] at H; exact H
                                    clear H
                                    have H := H1
                                    clear H1
                                    obtain rfl := Option.some.inj H
                                    go_wp2
                                    repeat (go_quiet (fail); try go_wp2)
                                    go_ret
                                    exact ⟨by first | rfl | (simp [errW_none, errW_some] <;> rfl) | (simp only [← hji35, ← hji36, ← hji39]; first | rfl | (simp [errW_none, errW_some] <;> rfl)) | (simp [*, errW_none, errW_some] <;> rfl), by repeat (first | (with_reducible first | exact HB.out | apply below_alloc | apply pw_below_drewN | apply below_drew1) | exact HB.out)⟩
                                · rw [if_neg c45] at H
                                  exact absurd H (by simp)
                              · rw [if_neg c44] at H
                                exact absurd H (by simp)
                            · rw [if_neg c43] at H
                              exact absurd H (by simp)
                          · rw [if_neg c41] at H
                            exact absurd H (by simp)
                        · rw [if_neg c40] at H
                          exact absurd H (by simp)
                      · rw [if_neg c38] at H
                        exact absurd H (by simp)
                    · rw [if_neg c37] at H
                      exact absurd H (by simp)

end Go.Proofs.YtdlipbfcadmhjaaDoor.PG1
