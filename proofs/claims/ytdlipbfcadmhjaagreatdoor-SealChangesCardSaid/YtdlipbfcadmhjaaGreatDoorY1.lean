/- Texts of this claim, in one file. -/
import Derived.Test.YtdlipbfcadmhjaaGreatDoorY14
import Derived.Test.YtdlipbfcadmhjaaGreatDoorY5
import Derived.Test.YtdlipbfcadmhjaaGreatDoorPG3x21
import Derived.Test.YtdlipbfcadmhjaaGreatDoorY15
set_option linter.unusedSimpArgs false
set_option linter.unusedVariables false
namespace Go.Proofs.YtdlipbfcadmhjaaGreatDoor
open Go.RowKit Go.Proofs.YtdlipbfcadmhjaaGreatDoorW.PrintWords Go.Proofs.YtdlipbfcadmhjaaGreatDoorW.PrintMore PG3
theorem short3_l0 (l : List ByteArray) (hl : l.length ≤ 1000) (hs : ∀ x ∈ l, x.size ≤ 9223372036854775807) : ∀ (m i : Nat), i + m = l.length → Ev (fun k => customhouselaw03_short.l0 k l (i : Int)) ((l.drop i).all fun x => decide (x.size ≤ 300)) := by
 intro m
 induction m with
 | zero =>
  intro i hi
  refine evS ?_
  simp only [customhouselaw03_short.l0, if_neg (show ¬ (i : Int) < (l.length : Int) by omega)]
  rw [List.drop_of_length_le (by omega)]
  exact Ev.now _
 | succ m ih =>
  intro i hi
  refine evS ?_
  have e1 : wrap64 ((i : Int) + 1) = ((i + 1 : Nat) : Int) := by rw [w64_id] <;> omega
  have hr : rdOf ByteArray.empty l (i : Int) = l.getD i ByteArray.empty := rfl
  simp only [customhouselaw03_short.l0, if_pos (show (i : Int) < (l.length : Int) by omega), if_pos (show (0 : Int) ≤ (i : Int) by omega), e1, hr]
  have hd : l.drop i = l.getD i ByteArray.empty :: l.drop (i + 1) := by
   rw [List.drop_eq_getElem_cons (by omega), List.getD_eq_getElem?_getD, List.getElem?_eq_getElem (by omega)]
   rfl
  rw [hd, List.all_cons]
  by_cases h : (l.getD i ByteArray.empty).size ≤ 300
  ·simp only [if_neg (show ¬ ((l.getD i ByteArray.empty).size : Int) > 300 by omega), decide_eq_true h, Bool.true_and]
   exact ih (i + 1) (by omega)
  ·simp only [if_pos (show ((l.getD i ByteArray.empty).size : Int) > 300 by omega), decide_eq_false h, Bool.false_and]
   exact Ev.now _
theorem short3E (l : List ByteArray) (hl : l.length ≤ 1000) (hs : ∀ x ∈ l, x.size ≤ 9223372036854775807) : Ev (fun k => customhouselaw03_short.f k l) (l.all fun x => decide (x.size ≤ 300)) := by
 unfold customhouselaw03_short.f
 exact short3_l0 l hl hs l.length 0 (by omega)
theorem head3 : customhouselaw03_head.f = some true := rfl
theorem height_of {a1 : Int} (h1 : (Lit.int .u8 a1).wf = true) (d : Nat) (hd : 1 ≤ d) (hd8 : d ≤ 8) : ∃ h : Nat, h < d ∧ Int.tmod (wrap64 a1) (d : Int) = (h : Int) := by
 have h := u8_range h1
 refine ⟨a1.toNat % d, Nat.mod_lt _ (by omega), ?_⟩
 rw [w64_id (by omega) (by omega)]
 obtain ⟨n, rfl⟩ : ∃ n : Nat, a1 = (n : Int) := ⟨a1.toNat, by omega⟩
 rw [Int.toNat_natCast]
 exact (Int.ofNat_tmod n d).symm
theorem index_of {a2 : Int} (h2 : (Lit.int .u8 a2).wf = true) (N : Nat) (hN : 1 ≤ N) : ∃ i : Nat, i < N ∧ Int.tmod (wrap64 a2) (N : Int) = (i : Int) := by
 have h := u8_range h2
 refine ⟨a2.toNat % N, Nat.mod_lt _ (by omega), ?_⟩
 rw [w64_id (by omega) (by omega)]
 obtain ⟨n, rfl⟩ : ∃ n : Nat, a2 = (n : Int) := ⟨a2.toNat, by omega⟩
 rw [Int.toNat_natCast]
 exact (Int.ofNat_tmod n N).symm
end Go.Proofs.YtdlipbfcadmhjaaGreatDoor

namespace Go.Proofs.YtdlipbfcadmhjaaGreatDoor
theorem getD_mapsum (l : List ByteArray) (i : Nat) (h : i < l.length) : (l.map Pl.sum).getD i ByteArray.empty = Pl.sum (l.getD i ByteArray.empty) := by
 rw [List.getD_eq_getElem?_getD, List.getD_eq_getElem?_getD, List.getElem?_map, List.getElem?_eq_getElem h]; rfl
def Pl.Bad (l : List ByteArray) (i k : Nat) : Prop := k < i ∧ i < l.length ∧ Pl.sum (l.getD i ByteArray.empty) = Pl.sum (l.getD k ByteArray.empty) ∧ l.getD i ByteArray.empty ≠ l.getD k ByteArray.empty
theorem Pl.Coll.bad {l : List ByteArray} (h : Pl.Coll l) : ∃ i k, Pl.Bad l i k := by
 obtain ⟨a, ha, b, hb, h1, h2⟩ := h
 obtain ⟨i, hi, rfl⟩ := List.getElem_of_mem ha
 obtain ⟨k, hk, rfl⟩ := List.getElem_of_mem hb
 have g : ∀ j, (hj : j < l.length) → l.getD j ByteArray.empty = l[j] := fun j hj => by rw [List.getD_eq_getElem?_getD, List.getElem?_eq_getElem hj]; rfl
 rcases Nat.lt_trichotomy i k with h | h | h
 ·exact ⟨k, i, h, hk, by rw [g k hk, g i hi, h1], by rw [g k hk, g i hi]; exact h2.symm⟩
 ·subst h; exact absurd rfl h2
 ·exact ⟨i, k, h, hi, by rw [g k hk, g i hi, h1], by rw [g k hk, g i hi]; exact h2⟩
end Go.Proofs.YtdlipbfcadmhjaaGreatDoor
