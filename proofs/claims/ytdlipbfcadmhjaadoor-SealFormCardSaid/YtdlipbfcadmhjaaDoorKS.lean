/- seal laws, plain: short, sizes, heights. -/
import Derived.Test.YtdlipbfcadmhjaaDoorS6
import Derived.Test.YtdlipbfcadmhjaaDoorQ4
import Derived.Test.YtdlipbfcadmhjaaDoorPG3x1
namespace Go.Proofs.YtdlipbfcadmhjaaDoor
set_option linter.unusedVariables false
set_option linter.unusedSimpArgs false
open Go.RowKit Go.Proofs.YtdlipbfcadmhjaaDoorW.PrintWords Go.Proofs.YtdlipbfcadmhjaaDoorW.PrintMore PG3
theorem short3_l0 (l : List ByteArray) (hl : l.length ≤ 1000) (hs : ∀ x ∈ l, x.size ≤ 9223372036854775807) : ∀ (m i : Nat), i + m = l.length → Ev (fun k => customhouselaw03_short.l0 k l (i : Int)) ((l.drop i).all fun x => decide (x.size ≤ 300)) := by
 intro m
 induction m with
 | zero =>
  intro i hi
  refine evS ?_
  simp only [customhouselaw03_short.l0, if_neg (show ¬ (i : Int) < (l.length : Int) by omega)]
  rw [List.drop_of_length_le (by omega)]
  exact Ev.now _
 | succ m ih =>
  intro i hi
  refine evS ?_
  have e1 : wrap64 ((i : Int) + 1) = ((i + 1 : Nat) : Int) := by rw [w64_id] <;> omega
  have hr : rdOf ByteArray.empty l (i : Int) = l.getD i ByteArray.empty := rfl
  simp only [customhouselaw03_short.l0, if_pos (show (i : Int) < (l.length : Int) by omega), if_pos (show (0 : Int) ≤ (i : Int) by omega), e1, hr]
  have hd : l.drop i = l.getD i ByteArray.empty :: l.drop (i + 1) := by
   rw [List.drop_eq_getElem_cons (by omega), List.getD_eq_getElem?_getD, List.getElem?_eq_getElem (by omega)]
   rfl
  rw [hd, List.all_cons]
  by_cases h : (l.getD i ByteArray.empty).size ≤ 300
  ·simp only [if_neg (show ¬ ((l.getD i ByteArray.empty).size : Int) > 300 by omega), decide_eq_true h, Bool.true_and]
   exact ih (i + 1) (by omega)
  ·simp only [if_pos (show ((l.getD i ByteArray.empty).size : Int) > 300 by omega), decide_eq_false h, Bool.false_and]
   exact Ev.now _
theorem short3E (l : List ByteArray) (hl : l.length ≤ 1000) (hs : ∀ x ∈ l, x.size ≤ 9223372036854775807) : Ev (fun k => customhouselaw03_short.f k l) (l.all fun x => decide (x.size ≤ 300)) := by
 unfold customhouselaw03_short.f
 exact short3_l0 l hl hs l.length 0 (by omega)
theorem head3 : customhouselaw03_head.f = some true := rfl
end Go.Proofs.YtdlipbfcadmhjaaDoor
