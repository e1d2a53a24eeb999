/- Plain: what the reference functions answer, over the print PG2. -/
import Derived.Test.YtdlipbfcadmhjaaGreatDoorQ2r
import Derived.Test.YtdlipbfcadmhjaaGreatDoorPG2x15
import Derived.Test.YtdlipbfcadmhjaaGreatDoorPG2x16
namespace Go.Proofs.YtdlipbfcadmhjaaGreatDoor
set_option linter.unusedVariables false
set_option linter.unusedSimpArgs false
open Go.RowKit Go.Proofs.YtdlipbfcadmhjaaGreatDoorW.PrintWords Go.Proofs.YtdlipbfcadmhjaaGreatDoorW.PrintMore PG2

theorem digit_tab : ∀ b : Fin 256, ((customhouseref01_Digit.f 2 (b.val : Int)).elim false fun v => decide (v < 0) == !Pl.hexSet.contains (UInt8.ofNat b.val)) = true := by decide +kernel
theorem digitE (b : UInt8) : ∃ v, Ev (fun k => customhouseref01_Digit.f k (b.toNat : Int)) v ∧ (v < 0 ↔ Pl.hexSet.contains b = false) := by
  have h := digit_tab ⟨b.toNat, b.toNat_lt⟩
  simp only [UInt8.ofNat_toNat] at h
  cases hv : customhouseref01_Digit.f 2 (b.toNat : Int) with
  | none => simp [hv] at h
  | some v =>
    refine ⟨v, Ev.of (k := 2) (fun k => customhouseref01_Digit.mono _ k) hv, ?_⟩
    rw [hv] at h
    simp only [Option.elim, beq_iff_eq] at h
    cases hc : Pl.hexSet.contains b with
    | true => rw [hc] at h; simp at h ⊢; omega
    | false => rw [hc] at h; simp at h ⊢; omega
theorem ref_is_l0 (a : ByteArray) (ha : a.size ≤ 9223372036854775807) : ∀ (m i : Nat), i + m = 16 → i ≤ a.size → Ev (fun k => customhouseref01_Is.l0 k a (i : Int)) (decide (a.size = 16) && (a.data.toList.drop i).all (Pl.hexSet.contains ·)) := by
  have fin : ∀ i : Nat, i ≤ 16 → i ≤ a.size → (i = 16 ∨ i = a.size) → (((a.size : Int) == 16) = (decide (a.size = 16) && (a.data.toList.drop i).all (Pl.hexSet.contains ·))) := by
    intro i h1 h2 h3
    by_cases h : a.size = 16
    · have : i = 16 := by omega
      rw [List.drop_eq_nil_of_le (by rw [Pl.dataLen]; omega), h]; rfl
    · rw [decide_eq_false h, Bool.false_and]
      exact beq_eq_false_iff_ne.2 (by omega)
  intro m
  induction m with
  | zero =>
    intro i hi hs
    refine evS ?_
    have hd : decide ((i : Int) < 16) = false := decide_eq_false (by omega)
    by_cases hc : (i : Int) < (a.size : Int)
    · simp only [customhouseref01_Is.l0, if_pos hc, hd]
      refine evS ?_
      simp only [customhouseref01_Is.j1, Bool.false_eq_true, if_false]
      exact evE (Ev.now _) (fin i (by omega) hs (by omega))
    · simp only [customhouseref01_Is.l0, if_neg hc]
      refine evS ?_
      simp only [customhouseref01_Is.j1, Bool.false_eq_true, if_false]
      exact evE (Ev.now _) (fin i (by omega) hs (by omega))
  | succ m ih =>
    intro i hi hs
    refine evS ?_
    have hd : decide ((i : Int) < 16) = true := decide_eq_true (by omega)
    have e1 : wrap64 ((i : Int) + 1) = ((i + 1 : Nat) : Int) := by rw [w64_id] <;> omega
    by_cases hc : i < a.size
    · simp only [customhouseref01_Is.l0, if_pos (show (i : Int) < (a.size : Int) by omega), hd]
      refine evS ?_
      simp only [customhouseref01_Is.j1, if_true, if_pos (show (0 : Int) ≤ (i : Int) by omega), if_pos (show (i : Int) < (a.size : Int) by omega), getD_at a i hc, e1]
      obtain ⟨v, hv, hn⟩ := digitE (a.data.toList.getD i 0)
      refine Ev.bind hv ?_
      have hl : i < a.data.toList.length := by rw [Pl.dataLen]; exact hc
      have hdr : a.data.toList.drop i = a.data.toList.getD i 0 :: a.data.toList.drop (i + 1) := by
        rw [List.drop_eq_getElem_cons hl, List.getD_eq_getElem?_getD, List.getElem?_eq_getElem hl]; rfl
      by_cases hneg : v < 0
      · simp only [if_pos hneg]
        refine evE (Ev.now _) ?_
        rw [hdr, List.all_cons, hn.1 hneg, Bool.false_and, Bool.and_false]
      · simp only [if_neg hneg]
        have hcon : Pl.hexSet.contains (a.data.toList.getD i 0) = true := by
          cases h : Pl.hexSet.contains (a.data.toList.getD i 0) with
          | true => rfl
          | false => exact absurd (hn.2 h) hneg
        refine evE (ih (i + 1) (by omega) (by omega)) ?_
        rw [hdr, List.all_cons, hcon, Bool.true_and]
    · simp only [customhouseref01_Is.l0, if_neg (show ¬ (i : Int) < (a.size : Int) by omega)]
      refine evS ?_
      simp only [customhouseref01_Is.j1, Bool.false_eq_true, if_false]
      exact evE (Ev.now _) (fin i (by omega) hs (by omega))
theorem refIsE (a : ByteArray) (ha : a.size ≤ 9223372036854775807) : Ev (fun k => customhouseref01_Is.f k a) (Pl.isDig a) := by
  unfold customhouseref01_Is.f
  exact ref_is_l0 a ha 16 0 rfl (by omega)
end Go.Proofs.YtdlipbfcadmhjaaGreatDoor
