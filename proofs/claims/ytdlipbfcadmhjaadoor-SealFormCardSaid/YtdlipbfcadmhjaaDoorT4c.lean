/- slices.Clone of a list of strings. -/
import Derived.Test.YtdlipbfcadmhjaaDoorT4b
import Derived.Test.YtdlipbfcadmhjaaDoorWB
namespace Go.Proofs.YtdlipbfcadmhjaaDoor
set_option linter.unusedVariables false
set_option linter.unusedSimpArgs false
open Go.RowKit Go.Proofs.YtdlipbfcadmhjaaDoorW.PrintWords Go.Proofs.YtdlipbfcadmhjaaDoorW.PrintMore PG2
theorem C_plain {w : World} {A : Option Addr} {xs : List ByteArray} (h : Kd.C Kd.string w A xs.length xs) (hn : 0 < xs.length) :
    ∃ b off, A = some ⟨b, off, none⟩ ∧ ∀ j, j < xs.length → w.cell? ⟨b, off + j, none⟩ = some (.string (xs.getD j ByteArray.empty)) := by
 obtain ⟨ad, rfl, hc⟩ := h.2.2 hn
 have key : ∀ j, j < xs.length → w.cell? (ad.add j) = some (.string (xs.getD j ByteArray.empty)) := by
  intro j hj
  obtain ⟨c, hl, hk, hcell⟩ := hc j _ (List.getElem?_eq_getElem hj)
  obtain rfl : c = [.string xs[j]] := hk
  have := hcell 0 _ rfl
  rw [List.getD_eq_getElem?_getD, List.getElem?_eq_getElem hj]
  simpa [Kd.string, Kd.scalar] using this
 have hsp : ad.spot = none := by
  have := key 0 hn
  simp only [Addr.add, if_true] at this
  unfold World.cell? at this
  cases hs : ad.spot with
  | none => rfl
  | some k =>
   rw [hs] at this
   simp only [Option.isSome_some, if_true] at this
   split at this <;> cases this
 obtain ⟨b, off, sp⟩ := ad
 simp only at hsp
 subst hsp
 refine ⟨b, off, rfl, fun j hj => ?_⟩
 have := key j hj
 by_cases h0 : j = 0
 ·subst h0
  simpa [Addr.add] using this
 ·simpa [Addr.add, h0] using this
theorem clone_any (A : Option Addr) (c : Nat) (xs : List ByteArray) (w : World) (hr : Kd.C Kd.string w A xs.length xs) (hbig : xs.length * 16 ≤ 140737488355328) :
    Calls Tryd.prog 63 #[.slice A xs.length c] w fun e w' => ∃ A' c', e = .returned (.slice A' xs.length c') ∧ xs.length ≤ c' ∧ c' ≤ 9223372036854775807 ∧
      (xs = [] ∨ ∃ b off, A' = some ⟨b, off, none⟩ ∧ w.heap.size ≤ b ∧ b < w'.heap.size ∧ ∀ j, j < xs.length → w'.cell? ⟨b, off + j, none⟩ = some (.string (xs.getD j ByteArray.empty))) ∧ Below w.heap.size w w' := by
 by_cases hn : 0 < xs.length
 ·obtain ⟨b, off, rfl, hc⟩ := C_plain hr hn
  refine (Tryd.slices_Clone_string b off xs.length c xs w (Nat.le_refl _) hbig hc).mono ?_
  rintro e w' ⟨v', rfl, ho, _, hb⟩
  rw [List.take_length] at ho
  obtain ⟨_, ⟨_, h0⟩ | ⟨g, cap, cur, rfl, hg, hheap, hcap, h63, hsz, htake⟩⟩ := ho
  ·omega
  ·refine ⟨_, cap, rfl, hcap, h63, .inr ⟨g, 0, rfl, hg, blk_lt hheap, fun j hj => ?_⟩, hb⟩
   rw [Nat.zero_add]
   refine (blk_cell hheap j).trans ?_
   have e : (cur.toList.take (xs.length * 1))[j]? = some (.string (xs.getD j ByteArray.empty)) := by
    rw [htake, List.getElem?_map, List.getD_eq_getElem?_getD, List.getElem?_eq_getElem hj]; rfl
   rw [List.getElem?_take_of_lt (by omega)] at e
   simpa using e
 ·obtain rfl : xs = [] := List.eq_nil_of_length_eq_zero (by omega)
  cases A with
  | none =>
   refine (Tryd.slices_Clone_string_nil 0 c w).mono ?_
   rintro e w' ⟨rfl, rfl⟩
   exact ⟨none, 0, rfl, Nat.le_refl _, by omega, .inl rfl, Below.refl _ _⟩
  | some a =>
   refine (Tryd.slices_Clone_string_zero a c w).mono ?_
   rintro e w' ⟨v', rfl, ho, _, hb⟩
   obtain ⟨_, ⟨rfl, _⟩ | ⟨g, cap, cur, rfl, hg, hheap, hcap, h63, hsz, htake⟩⟩ := ho
   ·exact ⟨none, 0, rfl, Nat.le_refl _, by omega, .inl rfl, hb⟩
   ·exact ⟨_, cap, rfl, hcap, h63, .inl rfl, hb⟩
end Go.Proofs.YtdlipbfcadmhjaaDoor
