/- Plain: what the reference functions answer, over the print PG3. -/
import Derived.Test.YtdlipbfcadmhjaaGreatDoorY16
import Derived.Test.YtdlipbfcadmhjaaGreatDoorPG3x6
import Derived.Test.YtdlipbfcadmhjaaGreatDoorPG3x8
namespace Go.Proofs.YtdlipbfcadmhjaaGreatDoor
set_option linter.unusedVariables false
set_option linter.unusedSimpArgs false
open Go.RowKit Go.Proofs.YtdlipbfcadmhjaaGreatDoorW.PrintWords Go.Proofs.YtdlipbfcadmhjaaGreatDoorW.PrintMore PG3
theorem evS {α : Type} {g : Nat → Option α} {r : α} (h : Ev (fun k => g (k + 1)) r) : Ev g r := Ev.step (fun _ => rfl) h
theorem evE {α : Type} {g : Nat → Option α} {r s : α} (h : Ev g r) (e : r = s) : Ev g s := e ▸ h
theorem w64_id {x : Int} (h : -9223372036854775808 ≤ x) (h' : x ≤ 9223372036854775807) : wrap64 x = x := by unfold wrap64; omega
theorem sumE {a : ByteArray} (h : a.size ≤ 140737488355328) : digest_Sum.f a = some (Pl.sum a) := by unfold digest_Sum.f; rw [if_pos h]
theorem listE {l : List ByteArray} (h : (Pl.joined l).size ≤ 140737488355328) : digest_List.f l = some (Pl.sum (Pl.joined l)) := by unfold digest_List.f; rw [if_pos h]
theorem same_l0 (l m : List ByteArray) (hl : l.length = m.length) (hb : l.length ≤ 9223372036854775807) : ∀ (n i : Nat), i + n = l.length → l.take i = m.take i → Ev (fun k => customhouseref01_Same.l0 k l m (i : Int)) (decide (l = m)) := by
 intro n
 induction n with
 | zero =>
  intro i hi ht
  refine evS ?_
  simp only [customhouseref01_Same.l0, if_neg (show ¬ (i : Int) < (l.length : Int) by omega)]
  refine evE (Ev.now _) ?_
  rw [List.take_of_length_le (by omega), List.take_of_length_le (by omega)] at ht
  rw [decide_eq_true ht]
 | succ n ih =>
  intro i hi ht
  refine evS ?_
  have e1 : wrap64 ((i : Int) + 1) = ((i + 1 : Nat) : Int) := by rw [w64_id] <;> omega
  have g1 : rdOf ByteArray.empty l (i : Int) = l[i]'(by omega) := by simp [rdOf, List.getD_eq_getElem?_getD, List.getElem?_eq_getElem (by omega : i < l.length)]
  have g2 : rdOf ByteArray.empty m (i : Int) = m[i]'(by omega) := by simp [rdOf, List.getD_eq_getElem?_getD, List.getElem?_eq_getElem (by omega : i < m.length)]
  simp only [customhouseref01_Same.l0, if_pos (show (i : Int) < (l.length : Int) by omega), if_pos (show (0 : Int) ≤ (i : Int) by omega), if_pos (show (i : Int) < (m.length : Int) by omega), e1]
  by_cases hc : (rdOf ByteArray.empty l (i : Int)).toList = (rdOf ByteArray.empty m (i : Int)).toList
  ·simp only [if_pos hc]
   refine ih (i + 1) (by omega) ?_
   rw [Pl.toL_iff, g1, g2] at hc
   rw [List.take_succ_eq_append_getElem (by omega), List.take_succ_eq_append_getElem (by omega), ht, hc]
  ·simp only [if_neg hc]
   refine evE (Ev.now _) ?_
   rw [decide_eq_false]
   intro h
   exact hc (by rw [h])
theorem sameE (l m : List ByteArray) (hb : l.length ≤ 9223372036854775807) : Ev (fun k => customhouseref01_Same.f k l m) (decide (l = m)) := by
 unfold customhouseref01_Same.f
 by_cases hc : l.length = m.length
 ·simp only [if_pos (show (l.length : Int) = (m.length : Int) by omega)]
  exact same_l0 l m hc hb l.length 0 (by omega) (by simp)
 ·simp only [if_neg (show ¬ (l.length : Int) = (m.length : Int) by omega)]
  refine evE (Ev.now _) ?_
  rw [decide_eq_false]
  intro h
  exact hc (by rw [h])
theorem u8_range {a : Int} (h : (Lit.int .u8 a).wf = true) : 0 ≤ a ∧ a ≤ 255 := by
 simp only [Lit.wf, IntKind.min, IntKind.max, IntKind.signed, IntKind.bits, Bool.and_eq_true, decide_eq_true_eq] at h
 simpa using h
theorem i64_range {a : Int} (h : (Lit.int .i64 a).wf = true) : -9223372036854775808 ≤ a ∧ a ≤ 9223372036854775807 := by
 simp only [Lit.wf, IntKind.min, IntKind.max, IntKind.signed, IntKind.bits, Bool.and_eq_true, decide_eq_true_eq] at h
 simpa using h
end Go.Proofs.YtdlipbfcadmhjaaGreatDoor
