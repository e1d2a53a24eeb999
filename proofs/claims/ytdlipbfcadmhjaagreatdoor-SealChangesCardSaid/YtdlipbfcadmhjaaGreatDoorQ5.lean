/- Plain: customhouseref02.Shown over the print PG3. -/
import Derived.Test.YtdlipbfcadmhjaaGreatDoorY1
import Derived.Test.YtdlipbfcadmhjaaGreatDoorY5
import Derived.Test.YtdlipbfcadmhjaaGreatDoorPG3x32
namespace Go.Proofs.YtdlipbfcadmhjaaGreatDoor.Q4
set_option linter.unusedVariables false
set_option linter.unusedSimpArgs false
open Go.RowKit Go.Proofs.YtdlipbfcadmhjaaGreatDoorW.PrintWords Go.Proofs.YtdlipbfcadmhjaaGreatDoorW.PrintMore PG3
theorem shown_l2 (l : List ByteArray) (hl : l.length ≤ 1000000) (i : Nat) (hi : i < l.length) (H : (∃ i' k', i + 1 ≤ i' ∧ Pl.Bad l i' k') → Ev (fun j => customhouseref02_Shown.l1 j l (l.map Pl.sum) ((i + 1 : Nat) : Int)) true) :
    ∀ (d k : Nat), k + d = i → (∃ i' k', (i + 1 ≤ i' ∨ (i' = i ∧ k ≤ k')) ∧ Pl.Bad l i' k') → Ev (fun j => customhouseref02_Shown.l2 j l (l.map Pl.sum) (i : Int) (k : Int)) true := by
 intro d
 induction d with
 | zero =>
  rintro k hk ⟨i', k', hc, hb⟩
  refine evS ?_
  have e1 : wrap64 ((i : Int) + 1) = ((i + 1 : Nat) : Int) := by rw [w64_id] <;> omega
  simp only [customhouseref02_Shown.l2, if_neg (show ¬ (k : Int) < (i : Int) by omega), e1]
  refine H ⟨i', k', ?_, hb⟩
  rcases hc with hc | ⟨rfl, hc⟩
  ·exact hc
  ·exact absurd hb.1 (by omega)
 | succ d ih =>
  rintro k hk ⟨i', k', hc, hb⟩
  refine evS ?_
  have e1 : wrap64 ((k : Int) + 1) = ((k + 1 : Nat) : Int) := by rw [w64_id] <;> omega
  have hm : (l.map Pl.sum).length = l.length := by simp
  have r1 : rdOf ByteArray.empty (l.map Pl.sum) (i : Int) = Pl.sum (l.getD i ByteArray.empty) := getD_mapsum l i hi
  have r2 : rdOf ByteArray.empty (l.map Pl.sum) (k : Int) = Pl.sum (l.getD k ByteArray.empty) := getD_mapsum l k (by omega)
  have r3 : rdOf ByteArray.empty l (i : Int) = l.getD i ByteArray.empty := rfl
  have r4 : rdOf ByteArray.empty l (k : Int) = l.getD k ByteArray.empty := rfl
  simp only [customhouseref02_Shown.l2, if_pos (show (k : Int) < (i : Int) by omega), if_pos (show (0 : Int) ≤ (i : Int) by omega), hm, if_pos (show (i : Int) < (l.length : Int) by omega), if_pos (show (0 : Int) ≤ (k : Int) by omega), if_pos (show (k : Int) < (l.length : Int) by omega), r1, r2, r3, r4, e1, Pl.toL_iff]
  have next : ¬ (i' = i ∧ k' = k) → Ev (fun j => customhouseref02_Shown.l2 j l (l.map Pl.sum) (i : Int) ((k + 1 : Nat) : Int)) true := fun hne => ih (k + 1) (by omega) ⟨i', k', by omega, hb⟩
  by_cases c1 : Pl.sum (l.getD i ByteArray.empty) = Pl.sum (l.getD k ByteArray.empty)
  ·simp only [if_pos c1]
   by_cases c2 : l.getD i ByteArray.empty = l.getD k ByteArray.empty
   ·simp only [if_pos c2]
    exact next (by rintro ⟨rfl, rfl⟩; exact hb.2.2.2 c2)
   ·simp only [if_neg c2]
    exact Ev.now _
  ·simp only [if_neg c1]
   exact next (by rintro ⟨rfl, rfl⟩; exact c1 hb.2.2.1)
theorem shown_l1 (l : List ByteArray) (hl : l.length ≤ 1000000) : ∀ (d i : Nat), i + d = l.length → (∃ i' k', i ≤ i' ∧ Pl.Bad l i' k') → Ev (fun j => customhouseref02_Shown.l1 j l (l.map Pl.sum) (i : Int)) true := by
 intro d
 induction d with
 | zero =>
  rintro i hi ⟨i', k', hc, hb⟩
  exact absurd hb.2.1 (by omega)
 | succ d ih =>
  rintro i hi ⟨i', k', hc, hb⟩
  refine evS ?_
  simp only [customhouseref02_Shown.l1, if_pos (show (i : Int) < (l.length : Int) by omega)]
  exact shown_l2 l hl i (by omega) (fun h => ih (i + 1) (by omega) h) i 0 (by omega) ⟨i', k', by omega, hb⟩
theorem shown_l0 (l : List ByteArray) (hl : l.length ≤ 1000000) (hs : ∀ x ∈ l, x.size ≤ 140737488355328) (H : Ev (fun j => customhouseref02_Shown.l1 j l (l.map Pl.sum) 0) true) :
    ∀ (d i : Nat) (out : List ByteArray), i + d = l.length → out = (l.map Pl.sum).take i → Ev (fun j => customhouseref02_Shown.l0 j l out (i : Int)) true := by
 intro d
 induction d with
 | zero =>
  rintro i out hi rfl
  refine evS ?_
  simp only [customhouseref02_Shown.l0, if_neg (show ¬ (i : Int) < (l.length : Int) by omega)]
  rw [List.take_of_length_le (by simp; omega)]
  exact H
 | succ d ih =>
  rintro i out hi rfl
  refine evS ?_
  have e1 : wrap64 ((i : Int) + 1) = ((i + 1 : Nat) : Int) := by rw [w64_id] <;> omega
  have hlt : i < l.length := by omega
  have r1 : rdOf ByteArray.empty l (i : Int) = l[i] := by
   show l.getD i _ = _
   rw [List.getD_eq_getElem?_getD, List.getElem?_eq_getElem hlt]; rfl
  simp only [customhouseref02_Shown.l0, if_pos (show (i : Int) < (l.length : Int) by omega), if_pos (show (0 : Int) ≤ (i : Int) by omega), r1, e1]
  refine Ev.bind (refSumE _ (by have := hs l[i] (List.getElem_mem hlt); omega)) ?_
  simp only [if_pos (show ((l.map Pl.sum).take i).length < 8796093022208 by simp; omega)]
  refine ih (i + 1) _ (by omega) ?_
  rw [List.take_succ_eq_append_getElem (by simpa using hlt), List.getElem_map]
theorem shownE (l : List ByteArray) (hl : l.length ≤ 1000000) (hs : ∀ x ∈ l, x.size ≤ 140737488355328) (h : Pl.Coll l) : Ev (fun k => customhouseref02_Shown.f k l) true := by
 obtain ⟨i, k, hb⟩ := h.bad
 unfold customhouseref02_Shown.f
 exact shown_l0 l hl hs (shown_l1 l hl l.length 0 (by omega) ⟨i, k, by omega, hb⟩) l.length 0 [] (by omega) rfl
end Go.Proofs.YtdlipbfcadmhjaaGreatDoor.Q4
