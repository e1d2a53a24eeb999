/- Plain: a collision's two places. -/
import Derived.Test.YtdlipbfcadmhjaaDoorTM
namespace Go.Proofs.YtdlipbfcadmhjaaDoor
set_option linter.unusedVariables false
set_option linter.unusedSimpArgs false
theorem getD_mapsum (l : List ByteArray) (i : Nat) (h : i < l.length) : (l.map Pl.sum).getD i ByteArray.empty = Pl.sum (l.getD i ByteArray.empty) := by
  rw [List.getD_eq_getElem?_getD, List.getD_eq_getElem?_getD, List.getElem?_map, List.getElem?_eq_getElem h]; rfl
/-- Two places of a list with different texts and one digest. -/
def Pl.Bad (l : List ByteArray) (i k : Nat) : Prop := k < i ∧ i < l.length ∧ Pl.sum (l.getD i ByteArray.empty) = Pl.sum (l.getD k ByteArray.empty) ∧ l.getD i ByteArray.empty ≠ l.getD k ByteArray.empty
theorem Pl.Coll.bad {l : List ByteArray} (h : Pl.Coll l) : ∃ i k, Pl.Bad l i k := by
  obtain ⟨a, ha, b, hb, h1, h2⟩ := h
  obtain ⟨i, hi, rfl⟩ := List.getElem_of_mem ha
  obtain ⟨k, hk, rfl⟩ := List.getElem_of_mem hb
  have g : ∀ j, (hj : j < l.length) → l.getD j ByteArray.empty = l[j] := fun j hj => by rw [List.getD_eq_getElem?_getD, List.getElem?_eq_getElem hj]; rfl
  rcases Nat.lt_trichotomy i k with h | h | h
  · exact ⟨k, i, h, hk, by rw [g k hk, g i hi, h1], by rw [g k hk, g i hi]; exact h2.symm⟩
  · subst h; exact absurd rfl h2
  · exact ⟨i, k, h, hi, by rw [g k hk, g i hi, h1], by rw [g k hk, g i hi]; exact h2⟩
end Go.Proofs.YtdlipbfcadmhjaaDoor
