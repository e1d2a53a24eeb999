/- Texts of this claim, in one file. -/
import Derived.Test.YtdlipbfcadmhjaaGreatDoorY12
import Derived.Test.YtdlipbfcadmhjaaGreatDoorPG3x32
import Derived.Test.YtdlipbfcadmhjaaGreatDoorY28
import Derived.Test.YtdlipbfcadmhjaaGreatDoorPG3x10
import Derived.Test.YtdlipbfcadmhjaaGreatDoorPG3x11
set_option linter.unusedSimpArgs false
set_option linter.unusedVariables false
namespace Go.Proofs.YtdlipbfcadmhjaaGreatDoor.Q4
open Go.RowKit Go.Proofs.YtdlipbfcadmhjaaGreatDoorW.PrintWords Go.Proofs.YtdlipbfcadmhjaaGreatDoorW.PrintMore PG3
theorem shown_l2 (l : List ByteArray) (hl : l.length ≤ 1000000) (i : Nat) (hi : i < l.length) (H : (∃ i' k', i + 1 ≤ i' ∧ Pl.Bad l i' k') → Ev (fun j => customhouseref02_Shown.l1 j l (l.map Pl.sum) ((i + 1 : Nat) : Int)) true) :
    ∀ (d k : Nat), k + d = i → (∃ i' k', (i + 1 ≤ i' ∨ (i' = i ∧ k ≤ k')) ∧ Pl.Bad l i' k') → Ev (fun j => customhouseref02_Shown.l2 j l (l.map Pl.sum) (i : Int) (k : Int)) true := by
 intro d
 induction d with
 | zero =>
  rintro k hk ⟨i', k', hc, hb⟩
  refine evS ?_
  have e1 : wrap64 ((i : Int) + 1) = ((i + 1 : Nat) : Int) := by rw [w64_id] <;> omega
  simp only [customhouseref02_Shown.l2, if_neg (show ¬ (k : Int) < (i : Int) by omega), e1]
  refine H ⟨i', k', ?_, hb⟩
  rcases hc with hc | ⟨rfl, hc⟩
  ·exact hc
  ·exact absurd hb.1 (by omega)
 | succ d ih =>
  rintro k hk ⟨i', k', hc, hb⟩
  refine evS ?_
  have e1 : wrap64 ((k : Int) + 1) = ((k + 1 : Nat) : Int) := by rw [w64_id] <;> omega
  have hm : (l.map Pl.sum).length = l.length := by simp
  have r1 : rdOf ByteArray.empty (l.map Pl.sum) (i : Int) = Pl.sum (l.getD i ByteArray.empty) := getD_mapsum l i hi
  have r2 : rdOf ByteArray.empty (l.map Pl.sum) (k : Int) = Pl.sum (l.getD k ByteArray.empty) := getD_mapsum l k (by omega)
  have r3 : rdOf ByteArray.empty l (i : Int) = l.getD i ByteArray.empty := rfl
  have r4 : rdOf ByteArray.empty l (k : Int) = l.getD k ByteArray.empty := rfl
  simp only [customhouseref02_Shown.l2, if_pos (show (k : Int) < (i : Int) by omega), if_pos (show (0 : Int) ≤ (i : Int) by omega), hm, if_pos (show (i : Int) < (l.length : Int) by omega), if_pos (show (0 : Int) ≤ (k : Int) by omega), if_pos (show (k : Int) < (l.length : Int) by omega), r1, r2, r3, r4, e1, Pl.toL_iff]
  have next : ¬ (i' = i ∧ k' = k) → Ev (fun j => customhouseref02_Shown.l2 j l (l.map Pl.sum) (i : Int) ((k + 1 : Nat) : Int)) true := fun hne => ih (k + 1) (by omega) ⟨i', k', by omega, hb⟩
  by_cases c1 : Pl.sum (l.getD i ByteArray.empty) = Pl.sum (l.getD k ByteArray.empty)
  ·simp only [if_pos c1]
   by_cases c2 : l.getD i ByteArray.empty = l.getD k ByteArray.empty
   ·simp only [if_pos c2]
    exact next (by rintro ⟨rfl, rfl⟩; exact hb.2.2.2 c2)
   ·simp only [if_neg c2]
    exact Ev.now _
  ·simp only [if_neg c1]
   exact next (by rintro ⟨rfl, rfl⟩; exact c1 hb.2.2.1)
theorem shown_l1 (l : List ByteArray) (hl : l.length ≤ 1000000) : ∀ (d i : Nat), i + d = l.length → (∃ i' k', i ≤ i' ∧ Pl.Bad l i' k') → Ev (fun j => customhouseref02_Shown.l1 j l (l.map Pl.sum) (i : Int)) true := by
 intro d
 induction d with
 | zero =>
  rintro i hi ⟨i', k', hc, hb⟩
  exact absurd hb.2.1 (by omega)
 | succ d ih =>
  rintro i hi ⟨i', k', hc, hb⟩
  refine evS ?_
  simp only [customhouseref02_Shown.l1, if_pos (show (i : Int) < (l.length : Int) by omega)]
  exact shown_l2 l hl i (by omega) (fun h => ih (i + 1) (by omega) h) i 0 (by omega) ⟨i', k', by omega, hb⟩
theorem shown_l0 (l : List ByteArray) (hl : l.length ≤ 1000000) (hs : ∀ x ∈ l, x.size ≤ 140737488355328) (H : Ev (fun j => customhouseref02_Shown.l1 j l (l.map Pl.sum) 0) true) :
    ∀ (d i : Nat) (out : List ByteArray), i + d = l.length → out = (l.map Pl.sum).take i → Ev (fun j => customhouseref02_Shown.l0 j l out (i : Int)) true := by
 intro d
 induction d with
 | zero =>
  rintro i out hi rfl
  refine evS ?_
  simp only [customhouseref02_Shown.l0, if_neg (show ¬ (i : Int) < (l.length : Int) by omega)]
  rw [List.take_of_length_le (by simp; omega)]
  exact H
 | succ d ih =>
  rintro i out hi rfl
  refine evS ?_
  have e1 : wrap64 ((i : Int) + 1) = ((i + 1 : Nat) : Int) := by rw [w64_id] <;> omega
  have hlt : i < l.length := by omega
  have r1 : rdOf ByteArray.empty l (i : Int) = l[i] := by
   show l.getD i _ = _
   rw [List.getD_eq_getElem?_getD, List.getElem?_eq_getElem hlt]; rfl
  simp only [customhouseref02_Shown.l0, if_pos (show (i : Int) < (l.length : Int) by omega), if_pos (show (0 : Int) ≤ (i : Int) by omega), r1, e1]
  refine Ev.bind (refSumE _ (by have := hs l[i] (List.getElem_mem hlt); omega)) ?_
  simp only [if_pos (show ((l.map Pl.sum).take i).length < 8796093022208 by simp; omega)]
  refine ih (i + 1) _ (by omega) ?_
  rw [List.take_succ_eq_append_getElem (by simpa using hlt), List.getElem_map]
theorem shownE (l : List ByteArray) (hl : l.length ≤ 1000000) (hs : ∀ x ∈ l, x.size ≤ 140737488355328) (h : Pl.Coll l) : Ev (fun k => customhouseref02_Shown.f k l) true := by
 obtain ⟨i, k, hb⟩ := h.bad
 unfold customhouseref02_Shown.f
 exact shown_l0 l hl hs (shown_l1 l hl l.length 0 (by omega) ⟨i, k, by omega, hb⟩) l.length 0 [] (by omega) rfl
end Go.Proofs.YtdlipbfcadmhjaaGreatDoor.Q4

namespace Go.Proofs.YtdlipbfcadmhjaaGreatDoor
open Go.RowKit Go.Proofs.YtdlipbfcadmhjaaGreatDoorW.PrintWords Go.Proofs.YtdlipbfcadmhjaaGreatDoorW.PrintMore PG3
theorem rhalf_l0 (n : Nat) (hn : n ≤ 4611686018427387904) : ∀ f k, 1 ≤ k → k < n → Ev (fun j => customhouseref02_Half.l0 j (n : Int) (k : Int)) ((Pl.halfGo f k n : Nat) : Int) ∨ ¬ n ≤ k * 2 ^ f := by
 intro f
 induction f with
 | zero =>
  intro k h1 h2
  right
  simp; omega
 | succ f ih =>
  intro k h1 h2
  by_cases hc : 2 * k < n
  ·rcases ih (2 * k) (by omega) hc with h | h
   ·left
    refine Ev.step (f := fun j => customhouseref02_Half.l0 j (n : Int) ((2 * k : Nat) : Int)) (fun j => ?_) ?_
    ·have e : wrap64 (2 * (k : Int)) = ((2 * k : Nat) : Int) := by unfold wrap64; omega
     rw [customhouseref02_Half.l0, e, if_pos (by omega)]
    ·unfold Pl.halfGo
     rw [if_pos hc]
     exact h
   ·right
    intro h'
    exact h (by rw [Nat.pow_succ] at h'; rw [Nat.mul_comm 2 k, Nat.mul_assoc, Nat.mul_comm 2]; exact h')
  ·left
   refine Ev.step (f := fun _ => some ((k : Nat) : Int)) (fun j => ?_) ?_
   ·have e : wrap64 (2 * (k : Int)) = ((2 * k : Nat) : Int) := by unfold wrap64; omega
    rw [customhouseref02_Half.l0, e, if_neg (by omega)]
   ·unfold Pl.halfGo
    rw [if_neg hc]
    exact Ev.now _
theorem rhalfE {n : Nat} (h2 : 2 ≤ n) (hn : n ≤ 4611686018427387904) : Ev (fun j => customhouseref02_Half.f j (n : Int)) ((Pl.half n : Nat) : Int) := by
 unfold customhouseref02_Half.f
 rcases rhalf_l0 n hn n 1 (Nat.le_refl _) (by omega) with h | h
 ·exact h
 ·exact absurd (by rw [Nat.one_mul]; exact Nat.le_of_lt Nat.lt_two_pow_self) h
theorem rleafE (x : ByteArray) (h : x.size ≤ 1000) : Ev (fun k => customhouseref02_leaf.f k x) (Pl.leafP x) := by
 unfold customhouseref02_leaf.f
 exact Ev.bind (refListE (few_leaf x h) (by omega)) (Ev.now _)
theorem rnodeE (a b : ByteArray) (ha : a.size ≤ 1000) (hb : b.size ≤ 1000) : Ev (fun k => customhouseref02_node.f k a b) (Pl.nodeP a b) := by
 unfold customhouseref02_node.f
 exact Ev.bind (refListE (few_node a b ha hb) (by omega)) (Ev.now _)
theorem remptyE : Ev (fun k => customhouseref02_Empty.f k) Pl.emptyP := by
 unfold customhouseref02_Empty.f
 exact Ev.bind (refListE few_empty (by omega)) (Ev.now _)
theorem rrootE : ∀ (n : Nat) (l : List ByteArray), l.length = n → n ≤ 1000000 → (∀ x ∈ l, x.size ≤ 1000) → Ev (fun k => customhouseref02_Root.f k l) (Pl.rootP l) := by
 intro n
 induction n using Nat.strongRecOn with
 | ind n ih =>
  intro l hl hn hs
  by_cases h2 : 2 ≤ l.length
  ·have hh := Pl.half_spec h2
   refine evS ?_
   simp only [customhouseref02_Root.f, if_neg (show ¬ (l.length : Int) = 0 by omega), if_neg (show ¬ (l.length : Int) = 1 by omega)]
   refine Ev.bind (rhalfE h2 (by omega)) ?_
   simp only [if_pos (show (0 : Int) ≤ ((Pl.half l.length : Nat) : Int) by omega), if_pos (show ((Pl.half l.length : Nat) : Int) ≤ (l.length : Int) by omega), Int.toNat_natCast]
   refine Ev.bind (ih _ (by have := Pl.take_lt h2; omega) (l.take (Pl.half l.length)) rfl (by have := Pl.take_lt h2; omega) (small_take hs)) ?_
   refine Ev.bind (ih _ (by have := Pl.drop_lt h2; omega) (l.drop (Pl.half l.length)) rfl (by have := Pl.drop_lt h2; omega) (small_drop hs)) ?_
   refine Ev.bind (rnodeE _ _ (by rw [Pl.root_size]; omega) (by rw [Pl.root_size]; omega)) ?_
   exact evE (Ev.now _) (Pl.root_two h2).symm
  ·match l, h2, hs with
   | [], _, _ =>
    refine evS ?_
    simp only [customhouseref02_Root.f, if_pos (show (([] : List ByteArray).length : Int) = 0 from rfl)]
    exact evE (Ev.bind remptyE (Ev.now _)) Pl.root_nil.symm
   | [x], _, hs =>
    refine evS ?_
    simp only [customhouseref02_Root.f, if_neg (show ¬ (([x] : List ByteArray).length : Int) = 0 by simp), if_pos (show (([x] : List ByteArray).length : Int) = 1 from rfl), if_pos (show (0 : Int) < (([x] : List ByteArray).length : Int) by simp), show rdOf ByteArray.empty [x] 0 = x from rfl]
    exact evE (Ev.bind (rleafE x (hs x (by simp))) (Ev.now _)) (Pl.root_one x).symm
   | _ :: _ :: _, h2, _ => exact absurd (by simp) h2
theorem jE (l : List ByteArray) (h : Pl.few l 1000 = true) : customhouseref01_Joined.f l = some (Pl.joined l) := joinedE h (by omega)
end Go.Proofs.YtdlipbfcadmhjaaGreatDoor
