import Derived.Test.YtdlipbfcadmhjaaDoorW6
import Derived.Shelf.Strings.SlTrimAscii
namespace Go.Proofs.YtdlipbfcadmhjaaDoor
open Go.RowKit Go.Proofs.YtdlipbfcadmhjaaDoorW.PrintWords
set_option linter.unusedVariables false
set_option linter.unusedSimpArgs false

namespace Pl
/-- The hexadecimal digits. -/
def hexSet : List UInt8 := [48, 49, 50, 51, 52, 53, 54, 55, 56, 57, 97, 98, 99, 100, 101, 102]
def isDig (s : ByteArray) : Bool := decide (s.size = 16) && s.data.toList.all (hexSet.contains ·)
end Pl

theorem dropWhile_nil {α : Type} (p : α → Bool) (l : List α) : l.dropWhile p = [] ↔ l.all p = true := by
  induction l with
  | nil => simp
  | cons x l ih =>
    by_cases h : p x = true
    · simp [List.dropWhile_cons, h, ih]
    · simp [List.dropWhile_cons, h]
theorem trim_nil (l cs : List UInt8) : Lib.trimS l cs = [] ↔ l.all (cs.contains ·) = true := by
  unfold Lib.trimS Lib.trimLeftS Lib.trimRightS
  constructor
  · intro h
    rw [dropWhile_nil] at h
    by_cases hall : l.all (cs.contains ·) = true
    · exact hall
    · exfalso
      -- the last element that is not in the set stays
      have hne : List.dropWhile (cs.contains ·) l.reverse ≠ [] := by
        intro e
        rw [dropWhile_nil, List.all_reverse] at e
        exact hall e
      have hhd := List.head_dropWhile_not (cs.contains ·) hne
      rw [List.all_reverse, List.all_eq_true] at h
      have := h _ (List.head_mem hne)
      simp_all
  · intro h
    have : List.dropWhile (cs.contains ·) l.reverse = [] := by rw [dropWhile_nil, List.all_reverse]; exact h
    rw [this]; rfl

theorem trim_any (s : ByteArray) (w : World) (hs : s.size ≤ 9223372036854775807) :
    Calls Tryd.prog 58 #[.string s, .string ⟨#[48, 49, 50, 51, 52, 53, 54, 55, 56, 57, 97, 98, 99, 100, 101, 102]⟩] w fun e w' => e = .returned (.string ⟨(Lib.trimS s.data.toList Pl.hexSet).toArray⟩) ∧ Below w.heap.size w w' :=
  Any.strings_Trim_laid Tryd.lays160 (by kernel_rfl) s ⟨#[48, 49, 50, 51, 52, 53, 54, 55, 56, 57, 97, 98, 99, 100, 101, 102]⟩ w hs (by decide) (ascii_of_all (by decide))

theorem is_yes (s : ByteArray) (w : World) (h16 : s.size = 16) :
    Calls Tryd.prog 26 #[.string s] w fun e w' => e = .returned (.bool (s.data.toList.all (Pl.hexSet.contains ·))) ∧ Below w.heap.size w w' := by
  have hb : ((s.size : Int) == 16) = true := by rw [h16]; rfl
  have H16 := Lib.hid h16
  clear h16
  go_enter Tryd.func26, Tryd.ntmps26
  go_wp2_with fail
  refine (trim_any s _ (by have := H16.out; omega)).mono ?_
  rintro e w1 ⟨rfl, hb1⟩
  have HB := Lib.hid hb1
  clear hb1
  obtain ⟨t, ht⟩ : ∃ t, Lib.trimS s.data.toList Pl.hexSet = t := ⟨_, rfl⟩
  rw [ht]
  have HT := Lib.hid ht
  clear ht
  go_wp2
  go_ret
  refine ⟨?_, HB.out⟩
  have e : t.isEmpty = s.data.toList.all (Pl.hexSet.contains ·) := by
    rw [← HT.out, Bool.eq_iff_iff, List.isEmpty_iff, trim_nil]
  show Ending.returned (.bool t.isEmpty) = _
  rw [e]
theorem is_no (s : ByteArray) (w : World) (h16 : s.size ≠ 16) :
    Calls Tryd.prog 26 #[.string s] w fun e w' => e = .returned (.bool false) ∧ Below w.heap.size w w' := by
  have hb : ((s.size : Int) == 16) = false := by rw [beq_eq_false_iff_ne]; omega
  clear h16
  go_enter Tryd.func26, Tryd.ntmps26
  go_wp2
  go_ret
  exact ⟨rfl, Below.refl _ _⟩

def digest_Is.f (a : ByteArray) : Option Bool := some (Pl.isDig a)
theorem digest_Is.calls (a0 : ByteArray) (r : Bool) (w : World) (hG : GL w) (h : digest_Is.f a0 = some r) :
    Calls Tryd.prog 26 #[.string a0] w fun e w' => e = .returned (.bool r) ∧ Below w.heap.size w w' := by
  unfold digest_Is.f Pl.isDig at h
  obtain rfl := Option.some.inj h
  by_cases h16 : a0.size = 16
  · refine (is_yes a0 w h16).mono ?_
    rintro e w' ⟨rfl, hb⟩
    exact ⟨by simp [h16], hb⟩
  · refine (is_no a0 w h16).mono ?_
    rintro e w' ⟨rfl, hb⟩
    exact ⟨by simp [h16], hb⟩
def strconv_Itoa.f (a : Int) : Option ByteArray := if -9223372036854775808 ≤ a then if a ≤ 9223372036854775807 then some ⟨(Lib.itoa a).toArray⟩ else none else none
theorem strconv_Itoa.calls (a0 : Int) (r : ByteArray) (w : World) (hG : GL w) (h : strconv_Itoa.f a0 = some r) :
    Calls Tryd.prog 55 #[.int .i64 a0] w fun e w' => e = .returned (.string r) ∧ Below w.heap.size w w' := by
  unfold strconv_Itoa.f at h
  by_cases h1 : -9223372036854775808 ≤ a0
  · by_cases h2 : a0 ≤ 9223372036854775807
    · rw [if_pos h1, if_pos h2] at h
      obtain rfl := Option.some.inj h
      refine (Tryd.strconv_Itoa a0 h1 h2 w hG.pow).mono ?_
      rintro e w' ⟨rfl, k, os, rfl⟩
      exact ⟨rfl, Lib.below_grow _ _ (Nat.le_refl _) k os⟩
    · rw [if_pos h1, if_neg h2] at h
      cases h
  · rw [if_neg h1] at h
    cases h
end Go.Proofs.YtdlipbfcadmhjaaDoor
