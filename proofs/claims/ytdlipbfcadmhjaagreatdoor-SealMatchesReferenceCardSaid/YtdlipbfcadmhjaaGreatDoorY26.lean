/- Texts of this claim, in one file. -/
import Derived.Test.YtdlipbfcadmhjaaGreatDoorY8
import Derived.Test.YtdlipbfcadmhjaaGreatDoorPG3x17
import Derived.Test.YtdlipbfcadmhjaaGreatDoorPG3x18
import Derived.Test.YtdlipbfcadmhjaaGreatDoorY12
import Derived.Test.YtdlipbfcadmhjaaGreatDoorPG3x15
import Derived.Test.YtdlipbfcadmhjaaGreatDoorPG3x16
import Derived.Test.YtdlipbfcadmhjaaGreatDoorY28
import Derived.Test.YtdlipbfcadmhjaaGreatDoorPG3x25
import Derived.Test.YtdlipbfcadmhjaaGreatDoorPG3x13
import Derived.Test.YtdlipbfcadmhjaaGreatDoorKB
import Derived.Test.YtdlipbfcadmhjaaGreatDoorPG3x31
set_option linter.unusedSimpArgs false
set_option linter.unusedVariables false
namespace Go.Proofs.YtdlipbfcadmhjaaGreatDoor
open Go.RowKit Go.Proofs.YtdlipbfcadmhjaaGreatDoorW.PrintWords Go.Proofs.YtdlipbfcadmhjaaGreatDoorW.PrintMore PG3
theorem snoc_facts (xs : List ByteArray) (p : ByteArray) (h : xs.length ≤ 1000001) : wrap64 (((xs.length + 1 : Nat) : Int) - 1) = ((xs.length : Nat) : Int) ∧ rdOf ByteArray.empty (xs ++ [p]) ((xs.length : Nat) : Int) = p ∧ (xs ++ [p]).take xs.length = xs := by
 refine ⟨?_, ?_, ?_⟩
 ·rw [w64_id] <;> omega
 ·unfold rdOf; rw [Int.toNat_natCast, List.getD_eq_getElem?_getD]; simp
 ·simp
theorem Pl.climb_size {n i : Nat} {d r : ByteArray} {xs ts : List ByteArray} (h : Pl.Climb n i d xs r ts) (hd : d.size ≤ 16) : r.size ≤ 16 := by
 cases h with
 | one => exact hd
 | left p => rw [nodeP_size]; omega
 | right p => rw [nodeP_size]; omega
theorem upE {n i : Nat} {d r : ByteArray} {xs ts : List ByteArray} (h : Pl.Climb n i d xs r ts) (hd : d.size ≤ 16) : i < n → n ≤ 1000000 → (∀ x ∈ xs, x.size ≤ 1000) → Ev (fun k => customhouseref02_up.f k (n : Int) (i : Int) d xs) r := by
 induction h with
 | one d =>
  intro _ _ _
  refine evS ?_
  simp only [customhouseref02_up.f, if_pos (show ((1 : Nat) : Int) = 1 from rfl)]
  exact Ev.now _
 | @left n i d r xs ts p hn hi h ih =>
  intro hin hnm hx
  have hh := Pl.half_spec hn
  have hl := Pl.climb_bound h n (Nat.le_trans (by omega) (Nat.le_of_lt Nat.lt_two_pow_self))
  obtain ⟨e1, e2, e3⟩ := snoc_facts xs p (by omega)
  have hlen : (xs ++ [p]).length = xs.length + 1 := by simp
  refine evS ?_
  simp only [customhouseref02_up.f, if_neg (show ¬ (n : Int) = 1 by omega)]
  refine Ev.bind (rhalfE hn (by omega)) ?_
  simp only [e1, if_pos (show (0 : Int) ≤ ((xs.length : Nat) : Int) by omega), hlen, if_pos (show ((xs.length : Nat) : Int) < ((xs.length + 1 : Nat) : Int) by omega), if_pos (show ((xs.length : Nat) : Int) ≤ ((xs.length + 1 : Nat) : Int) by omega), if_pos (show (i : Int) < ((Pl.half n : Nat) : Int) by omega), Int.toNat_natCast, e2, e3]
  refine Ev.bind (ih hd hi (by omega) (fun x hx' => hx x (by simp [hx']))) ?_
  refine Ev.bind (rnodeE _ _ (by have := Pl.climb_size h hd; omega) (hx p (by simp))) ?_
  exact Ev.now _
 | @right n i d r xs ts p hn hi h ih =>
  intro hin hnm hx
  have hh := Pl.half_spec hn
  have hl := Pl.climb_bound h n (Nat.le_trans (by omega) (Nat.le_of_lt Nat.lt_two_pow_self))
  obtain ⟨e1, e2, e3⟩ := snoc_facts xs p (by omega)
  have hlen : (xs ++ [p]).length = xs.length + 1 := by simp
  have w1 : wrap64 ((n : Int) - ((Pl.half n : Nat) : Int)) = ((n - Pl.half n : Nat) : Int) := by rw [w64_id] <;> omega
  have w2 : wrap64 ((i : Int) - ((Pl.half n : Nat) : Int)) = ((i - Pl.half n : Nat) : Int) := by rw [w64_id] <;> omega
  refine evS ?_
  simp only [customhouseref02_up.f, if_neg (show ¬ (n : Int) = 1 by omega)]
  refine Ev.bind (rhalfE hn (by omega)) ?_
  simp only [e1, if_pos (show (0 : Int) ≤ ((xs.length : Nat) : Int) by omega), hlen, if_pos (show ((xs.length : Nat) : Int) < ((xs.length + 1 : Nat) : Int) by omega), if_pos (show ((xs.length : Nat) : Int) ≤ ((xs.length + 1 : Nat) : Int) by omega), if_neg (show ¬ (i : Int) < ((Pl.half n : Nat) : Int) by omega), Int.toNat_natCast, e2, e3, w1, w2]
  refine Ev.bind (ih hd (by omega) (by omega) (fun x hx' => hx x (by simp [hx']))) ?_
  refine Ev.bind (rnodeE _ _ (hx p (by simp)) (by have := Pl.climb_size h hd; omega)) ?_
  exact Ev.now _
end Go.Proofs.YtdlipbfcadmhjaaGreatDoor

namespace Go.Proofs.YtdlipbfcadmhjaaGreatDoor
open Go.RowKit Go.Proofs.YtdlipbfcadmhjaaGreatDoorW.PrintWords Go.Proofs.YtdlipbfcadmhjaaGreatDoorW.PrintMore PG3
theorem digit_tab : ∀ b : Fin 256, ((customhouseref01_Digit.f 2 (b.val : Int)).elim false fun v => decide (v < 0) == !Pl.hexSet.contains (UInt8.ofNat b.val)) = true := by decide +kernel
theorem digitE (b : UInt8) : ∃ v, Ev (fun k => customhouseref01_Digit.f k (b.toNat : Int)) v ∧ (v < 0 ↔ Pl.hexSet.contains b = false) := by
 have h := digit_tab ⟨b.toNat, b.toNat_lt⟩
 simp only [UInt8.ofNat_toNat] at h
 cases hv : customhouseref01_Digit.f 2 (b.toNat : Int) with
 | none => simp [hv] at h
 | some v =>
  refine ⟨v, Ev.of (k := 2) (fun k => customhouseref01_Digit.mono _ k) hv, ?_⟩
  rw [hv] at h
  simp only [Option.elim, beq_iff_eq] at h
  cases hc : Pl.hexSet.contains b with
  | true => rw [hc] at h; simp at h ⊢; omega
  | false => rw [hc] at h; simp at h ⊢; omega
theorem ref_is_l0 (a : ByteArray) (ha : a.size ≤ 9223372036854775807) : ∀ (m i : Nat), i + m = 16 → i ≤ a.size → Ev (fun k => customhouseref01_Is.l0 k a (i : Int)) (decide (a.size = 16) && (a.data.toList.drop i).all (Pl.hexSet.contains ·)) := by
 have fin : ∀ i : Nat, i ≤ 16 → i ≤ a.size → (i = 16 ∨ i = a.size) → (((a.size : Int) == 16) = (decide (a.size = 16) && (a.data.toList.drop i).all (Pl.hexSet.contains ·))) := by
  intro i h1 h2 h3
  by_cases h : a.size = 16
  ·have : i = 16 := by omega
   rw [List.drop_eq_nil_of_le (by rw [Pl.dataLen]; omega), h]; rfl
  ·rw [decide_eq_false h, Bool.false_and]
   exact beq_eq_false_iff_ne.2 (by omega)
 intro m
 induction m with
 | zero =>
  intro i hi hs
  refine evS ?_
  have hd : decide ((i : Int) < 16) = false := decide_eq_false (by omega)
  by_cases hc : (i : Int) < (a.size : Int)
  ·simp only [customhouseref01_Is.l0, if_pos hc, hd]
   refine evS ?_
   simp only [customhouseref01_Is.j1, Bool.false_eq_true, if_false]
   exact evE (Ev.now _) (fin i (by omega) hs (by omega))
  ·simp only [customhouseref01_Is.l0, if_neg hc]
   refine evS ?_
   simp only [customhouseref01_Is.j1, Bool.false_eq_true, if_false]
   exact evE (Ev.now _) (fin i (by omega) hs (by omega))
 | succ m ih =>
  intro i hi hs
  refine evS ?_
  have hd : decide ((i : Int) < 16) = true := decide_eq_true (by omega)
  have e1 : wrap64 ((i : Int) + 1) = ((i + 1 : Nat) : Int) := by rw [w64_id] <;> omega
  by_cases hc : i < a.size
  ·simp only [customhouseref01_Is.l0, if_pos (show (i : Int) < (a.size : Int) by omega), hd]
   refine evS ?_
   simp only [customhouseref01_Is.j1, if_true, if_pos (show (0 : Int) ≤ (i : Int) by omega), if_pos (show (i : Int) < (a.size : Int) by omega), getD_at a i hc, e1]
   obtain ⟨v, hv, hn⟩ := digitE (a.data.toList.getD i 0)
   refine Ev.bind hv ?_
   have hl : i < a.data.toList.length := by rw [Pl.dataLen]; exact hc
   have hdr : a.data.toList.drop i = a.data.toList.getD i 0 :: a.data.toList.drop (i + 1) := by
    rw [List.drop_eq_getElem_cons hl, List.getD_eq_getElem?_getD, List.getElem?_eq_getElem hl]; rfl
   by_cases hneg : v < 0
   ·simp only [if_pos hneg]
    refine evE (Ev.now _) ?_
    rw [hdr, List.all_cons, hn.1 hneg, Bool.false_and, Bool.and_false]
   ·simp only [if_neg hneg]
    have hcon : Pl.hexSet.contains (a.data.toList.getD i 0) = true := by
     cases h : Pl.hexSet.contains (a.data.toList.getD i 0) with
     | true => rfl
     | false => exact absurd (hn.2 h) hneg
    refine evE (ih (i + 1) (by omega) (by omega)) ?_
    rw [hdr, List.all_cons, hcon, Bool.true_and]
  ·simp only [customhouseref01_Is.l0, if_neg (show ¬ (i : Int) < (a.size : Int) by omega)]
   refine evS ?_
   simp only [customhouseref01_Is.j1, Bool.false_eq_true, if_false]
   exact evE (Ev.now _) (fin i (by omega) hs (by omega))
theorem refIsE (a : ByteArray) (ha : a.size ≤ 9223372036854775807) : Ev (fun k => customhouseref01_Is.f k a) (Pl.isDig a) := by
 unfold customhouseref01_Is.f
 exact ref_is_l0 a ha 16 0 rfl (by omega)
end Go.Proofs.YtdlipbfcadmhjaaGreatDoor

namespace Go.Proofs.YtdlipbfcadmhjaaGreatDoor.Q6
open Go.RowKit Go.Proofs.YtdlipbfcadmhjaaGreatDoorW.PrintWords Go.Proofs.YtdlipbfcadmhjaaGreatDoorW.PrintMore PG3
theorem sibs_len : ∀ (n : Nat) (l : List ByteArray) (i : Nat), l.length = n → (Pl.sibs l i).length ≤ n := by
 intro n
 induction n using Nat.strongRecOn with
 | ind n ih =>
  intro l i hl
  by_cases h2 : 2 ≤ l.length
  ·have hh := Pl.half_spec h2
   by_cases hc : i < Pl.half l.length
   ·rw [Pl.sibs_left h2 hc, List.length_cons]
    have := ih _ (by omega) (l.take (Pl.half l.length)) i (Pl.take_len h2); omega
   ·rw [Pl.sibs_right h2 hc, List.length_cons]
    have := ih (l.length - Pl.half l.length) (by omega) (l.drop (Pl.half l.length)) (i - Pl.half l.length) (by simp); omega
  ·rw [Pl.sibs_end h2]; simp
theorem rpath : ∀ (n : Nat) (l : List ByteArray) (i : Nat), l.length = n → i < n → n ≤ 1000000 → (∀ x ∈ l, x.size ≤ 1000) → Ev (fun k => customhouseref02_path.f k l (i : Int)) (Pl.pathP l i) := by
 intro n
 induction n using Nat.strongRecOn with
 | ind n ih =>
  intro l i hl hi hn hs
  by_cases h2 : 2 ≤ l.length
  ·have hh := Pl.half_spec h2
   refine evS ?_
   simp only [customhouseref02_path.f, if_neg (show ¬ (l.length : Int) = 1 by omega)]
   refine Ev.bind (rhalfE h2 (by omega)) ?_
   simp only [if_pos (show (0 : Int) ≤ ((Pl.half l.length : Nat) : Int) by omega), if_pos (show ((Pl.half l.length : Nat) : Int) ≤ (l.length : Int) by omega), Int.toNat_natCast]
   unfold Pl.pathP
   by_cases hc : i < Pl.half l.length
   ·simp only [if_pos (show (i : Int) < ((Pl.half l.length : Nat) : Int) by omega)]
    rw [Pl.sibs_left h2 hc, List.reverse_cons]
    refine Ev.bind (ih _ (by omega) (l.take (Pl.half l.length)) i (Pl.take_len h2) hc (by omega) (small_take hs)) ?_
    refine Ev.bind (rrootE _ (l.drop (Pl.half l.length)) rfl (by have := Pl.drop_lt h2; omega) (small_drop hs)) ?_
    have := sibs_len _ (l.take (Pl.half l.length)) i rfl
    have ht := Pl.take_lt h2
    simp only [if_pos (show (Pl.pathP (l.take (Pl.half l.length)) i).length < 8796093022208 by unfold Pl.pathP; rw [List.length_reverse]; omega)]
    exact Ev.now _
   ·simp only [if_neg (show ¬ (i : Int) < ((Pl.half l.length : Nat) : Int) by omega)]
    rw [Pl.sibs_right h2 hc, List.reverse_cons]
    have e1 : wrap64 ((i : Int) - ((Pl.half l.length : Nat) : Int)) = ((i - Pl.half l.length : Nat) : Int) := by rw [w64_id] <;> omega
    simp only [e1]
    refine Ev.bind (ih (l.length - Pl.half l.length) (by omega) (l.drop (Pl.half l.length)) (i - Pl.half l.length) (by simp) (by omega) (by omega) (small_drop hs)) ?_
    refine Ev.bind (rrootE _ (l.take (Pl.half l.length)) rfl (by have := Pl.take_lt h2; omega) (small_take hs)) ?_
    have := sibs_len _ (l.drop (Pl.half l.length)) (i - Pl.half l.length) rfl
    have ht := Pl.drop_lt h2
    simp only [if_pos (show (Pl.pathP (l.drop (Pl.half l.length)) (i - Pl.half l.length)).length < 8796093022208 by unfold Pl.pathP; rw [List.length_reverse]; omega)]
    exact Ev.now _
  ·refine evS ?_
   simp only [customhouseref02_path.f, if_pos (show (l.length : Int) = 1 by omega)]
   refine evE (Ev.now _) ?_
   unfold Pl.pathP
   rw [Pl.sibs_end h2]; rfl
theorem digests_l0 (l : List ByteArray) (hl : l.length ≤ 1000000) (hs : ∀ x ∈ l, x.size ≤ 1000) : ∀ (d i : Nat), i + d = l.length → Ev (fun k => customhouseref02_digests.l0 k l (i : Int)) ((l.drop i).all Pl.isDig) := by
 intro d
 induction d with
 | zero =>
  intro i hi
  refine evS ?_
  simp only [customhouseref02_digests.l0, if_neg (show ¬ (i : Int) < (l.length : Int) by omega)]
  rw [List.drop_eq_nil_of_le (by omega)]
  exact Ev.now _
 | succ d ih =>
  intro i hi
  have hlt : i < l.length := by omega
  have r1 : rdOf ByteArray.empty l (i : Int) = l[i] := by
   show l.getD i _ = _
   rw [List.getD_eq_getElem?_getD, List.getElem?_eq_getElem hlt]; rfl
  have e1 : wrap64 ((i : Int) + 1) = ((i + 1 : Nat) : Int) := by rw [w64_id] <;> omega
  refine evS ?_
  simp only [customhouseref02_digests.l0, if_pos (show (i : Int) < (l.length : Int) by omega), if_pos (show (0 : Int) ≤ (i : Int) by omega), r1, e1]
  refine Ev.bind (refIsE _ (by have := hs l[i] (List.getElem_mem hlt); omega)) ?_
  rw [List.drop_eq_getElem_cons hlt, List.all_cons]
  cases hd : Pl.isDig l[i] with
  | false => simp only [Bool.false_eq_true, if_false, Bool.false_and]; exact Ev.now _
  | true => simp only [if_true, Bool.true_and]; exact ih (i + 1) (by omega)
theorem digestsE (l : List ByteArray) (hl : l.length ≤ 1000000) (hs : ∀ x ∈ l, x.size ≤ 1000) : Ev (fun k => customhouseref02_digests.f k l) (l.all Pl.isDig) := by
 unfold customhouseref02_digests.f
 have := digests_l0 l hl hs l.length 0 (by omega)
 rw [List.drop_zero] at this
 exact this
theorem climb_total : ∀ (n i : Nat), i < n → n ≤ 1000000 → ∃ L : Nat, L ≤ n ∧ Ev (fun k => customhouseref02_length.f k (n : Int) (i : Int)) (L : Int) ∧ ∀ (d : ByteArray) (xs : List ByteArray), xs.length = L → ∃ r ts, Pl.Climb n i d xs r ts := by
 intro n
 induction n using Nat.strongRecOn with
 | ind n ih =>
  intro i hi hn
  by_cases h2 : 2 ≤ n
  ·have hh := Pl.half_spec h2
   by_cases hc : i < Pl.half n
   ·obtain ⟨L, hL, he, hx⟩ := ih (Pl.half n) (by omega) i hc (by omega)
    refine ⟨L + 1, by omega, ?_, ?_⟩
    ·refine evS ?_
     simp only [customhouseref02_length.f, if_neg (show ¬ (n : Int) = 1 by omega)]
     refine Ev.bind (rhalfE h2 (by omega)) ?_
     simp only [if_pos (show (i : Int) < ((Pl.half n : Nat) : Int) by omega)]
     refine Ev.bind he ?_
     exact evE (Ev.now _) (by rw [w64_id] <;> omega)
    ·intro d xs hl
     rcases Pl.list_snoc xs with rfl | ⟨ys, y, rfl⟩
     ·simp at hl
     ·obtain ⟨r, ts, h⟩ := hx d ys (by simpa using hl)
      exact ⟨_, _, Pl.Climb.left y h2 hc h⟩
   ·obtain ⟨L, hL, he, hx⟩ := ih (n - Pl.half n) (by omega) (i - Pl.half n) (by omega) (by omega)
    refine ⟨L + 1, by omega, ?_, ?_⟩
    ·have w1 : wrap64 ((n : Int) - ((Pl.half n : Nat) : Int)) = ((n - Pl.half n : Nat) : Int) := by rw [w64_id] <;> omega
     have w2 : wrap64 ((i : Int) - ((Pl.half n : Nat) : Int)) = ((i - Pl.half n : Nat) : Int) := by rw [w64_id] <;> omega
     refine evS ?_
     simp only [customhouseref02_length.f, if_neg (show ¬ (n : Int) = 1 by omega)]
     refine Ev.bind (rhalfE h2 (by omega)) ?_
     simp only [if_neg (show ¬ (i : Int) < ((Pl.half n : Nat) : Int) by omega), w1, w2]
     refine Ev.bind he ?_
     exact evE (Ev.now _) (by rw [w64_id] <;> omega)
    ·intro d xs hl
     rcases Pl.list_snoc xs with rfl | ⟨ys, y, rfl⟩
     ·simp at hl
     ·obtain ⟨r, ts, h⟩ := hx d ys (by simpa using hl)
      exact ⟨_, _, Pl.Climb.right y h2 hc h⟩
  ·obtain rfl : n = 1 := by omega
   obtain rfl : i = 0 := by omega
   refine ⟨0, by omega, ?_, ?_⟩
   ·refine evS ?_
    simp only [customhouseref02_length.f, if_pos (show ((1 : Nat) : Int) = 1 from rfl)]
    exact Ev.now _
   ·intro d xs hl
    rw [List.length_eq_zero_iff.1 hl]
    exact ⟨_, _, Pl.Climb.one d⟩
theorem rcheckE (root : ByteArray) (n i : Int) (s : ByteArray) (xs : List ByteArray) (hs : s.size ≤ 1000) (hl : xs.length ≤ 1000) (hx : ∀ x ∈ xs, x.size ≤ 1000) : Ev (fun k => customhouseref02_Check.f k root n i s xs) (Pl.checkP root n i s xs) := by
 have out : Ev (fun k => customhouseref02_Check.j0 k root n i s xs true) false := by
  refine evS ?_
  simp only [customhouseref02_Check.j0, if_true]; exact Ev.now _
 have no : ∀ {b : Bool}, (b = true → False) → b = false := fun h => Bool.eq_false_iff.2 h
 unfold customhouseref02_Check.f
 by_cases h1 : n > 1000000
 ·simp only [if_pos h1]
  exact evE out (by unfold Pl.checkP; rw [if_pos (.inl h1)])
 ·by_cases h2 : i < 0
  ·simp only [if_neg h1, if_pos h2]
   exact evE out (by unfold Pl.checkP; rw [if_pos (.inr (.inl h2))])
  ·by_cases h3 : i ≥ n
   ·simp only [if_neg h1, if_neg h2, if_pos h3]
    exact evE out (by unfold Pl.checkP; rw [if_pos (.inr (.inr (.inl h3)))])
   ·simp only [if_neg h1, if_neg h2, if_neg h3]
    obtain ⟨N, rfl⟩ : ∃ N : Nat, n = (N : Int) := ⟨n.toNat, by omega⟩
    obtain ⟨I, rfl⟩ : ∃ I : Nat, i = (I : Int) := ⟨i.toNat, by omega⟩
    obtain ⟨L, hL, he, ht⟩ := climb_total N I (by omega) (by omega)
    refine Ev.bind he ?_
    by_cases h4 : xs.length = L
    ·simp only [if_pos (show (xs.length : Int) = (L : Int) by omega)]
     refine Ev.bind (digestsE xs (by omega) hx) ?_
     cases hd : xs.all Pl.isDig with
     | false =>
      exact evE out (by unfold Pl.checkP; rw [if_pos (.inr (.inr (.inr hd)))])
     | true =>
      obtain ⟨r, ts, hc⟩ := ht (Pl.leafP s) xs h4
      rw [Bool.not_true]
      refine evS ?_
      simp only [customhouseref02_Check.j0, Bool.false_eq_true, if_false]
      refine Ev.bind (rleafE s hs) ?_
      refine Ev.bind (upE hc (by have := Pl.dig_size (Pl.leafP_dig s); omega) (by omega) (by omega) hx) ?_
      refine evE (Ev.now _) ?_
      unfold Pl.checkP
      rw [if_neg (by rw [hd]; simp; omega)]
      have := Pl.up_of_climb hc N [] (Nat.le_refl _) (Pl.all_full hd)
      rw [List.nil_append] at this
      simp only [Int.toNat_natCast, this]
      simp
    ·simp only [if_neg (show ¬ (xs.length : Int) = (L : Int) by omega)]
     refine evE out (Eq.symm (no fun h => ?_))
     obtain ⟨_, _, ts, hc⟩ := Pl.checkP_climb h
     obtain ⟨r, us, hc'⟩ := ht ByteArray.empty (List.replicate L ByteArray.empty) (by simp)
     have := Pl.climb_len hc hc'
     rw [List.length_replicate] at this
     exact h4 this
theorem refListE {l : List ByteArray} {n : Nat} (h : Pl.few l n = true) (hn : n ≤ 1000000) : Ev (fun k => customhouseref01_List.f k l) (Pl.sum (Pl.joined l)) := Go.Proofs.YtdlipbfcadmhjaaGreatDoor.refListE h hn
theorem refIsE (a : ByteArray) (ha : a.size ≤ 9223372036854775807) : Ev (fun k => customhouseref01_Is.f k a) (Pl.isDig a) := Go.Proofs.YtdlipbfcadmhjaaGreatDoor.refIsE a ha
theorem rrootE (n : Nat) (l : List ByteArray) (h : l.length = n) (hn : n ≤ 1000000) (hs : ∀ x ∈ l, x.size ≤ 1000) : Ev (fun k => customhouseref02_Root.f k l) (Pl.rootP l) := Go.Proofs.YtdlipbfcadmhjaaGreatDoor.rrootE n l h hn hs
theorem chain_l0 (n : Nat) (hn : n ≤ 1000) : ∀ (m i : Nat) (a : ByteArray), i + m = n → a.size ≤ 140737488355328 → Ev (fun k => customhouseref01_Chain.l0 k a (n : Int) (i : Int)) (Pl.chn m a) := by
 have e0 : mn (n : Int) 1000 = (n : Int) := by unfold mn; split <;> omega
 intro m
 induction m with
 | zero =>
  intro i a hi _
  refine evS ?_
  simp only [customhouseref01_Chain.l0, e0, if_neg (show ¬ (i : Int) < (n : Int) by omega)]
  exact Ev.now _
 | succ m ih =>
  intro i a hi ha
  refine evS ?_
  have e1 : wrap64 ((i : Int) + 1) = ((i + 1 : Nat) : Int) := by rw [w64_id] <;> omega
  simp only [customhouseref01_Chain.l0, e0, if_pos (show (i : Int) < (n : Int) by omega), e1]
  refine Ev.bind (Q4.refSumE a (by omega)) ?_
  exact ih (i + 1) (Pl.sum a) (by omega) (by rw [Pl.sum_size]; omega)
theorem chainE (a : ByteArray) (n : Nat) (hn : n ≤ 1000) (ha : a.size ≤ 140737488355328) : Ev (fun k => customhouseref01_Chain.f k a (n : Int)) (Pl.chn n a) := by
 unfold customhouseref01_Chain.f
 exact chain_l0 n hn n 0 a (by omega) ha
theorem pathE (l : List ByteArray) (i : Nat) (hi : i < l.length) (hn : l.length ≤ 1000000) (hs : ∀ x ∈ l, x.size ≤ 1000) : Ev (fun k => customhouseref02_Path.f k l (i : Int)) (Pl.pathP l i, 0) := by
 unfold customhouseref02_Path.f
 simp only [if_neg (show ¬ (i : Int) < 0 by omega), if_neg (show ¬ (i : Int) ≥ (l.length : Int) by omega)]
 refine Ev.bind (rpath l.length l i rfl hi hn hs) ?_
 exact Ev.now _
end Go.Proofs.YtdlipbfcadmhjaaGreatDoor.Q6

namespace Go.Proofs.YtdlipbfcadmhjaaGreatDoor
open Go.RowKit Go.Proofs.YtdlipbfcadmhjaaGreatDoorW.PrintWords Go.Proofs.YtdlipbfcadmhjaaGreatDoorW.PrintMore PG3
theorem rstartE (s : ByteArray) (i k : Nat) (hs : s.size ≤ 1000) (hi : i ≤ 1000000) (hk : k ≤ 1000000) : Ev (fun K => customhouseref03_Start.f K s (i : Int) (k : Int)) (Pl.startP s i k) := by
 unfold customhouseref03_Start.f
 simp only [decE i hi, decE k hk, Option.bind_some]
 exact Ev.bind (Q6.refListE (few_start s i k hs hi hk) (by omega)) (Ev.now _)
theorem rkey_l0 (s : ByteArray) (i : Nat) (hs : s.size ≤ 1000) (hi : i ≤ 1000) : ∀ (d k : Nat), k + d = 18 → Ev (fun K => customhouseref03_Key.l0 K s (i : Int) ((Pl.keyEnds s i).take k) (k : Int)) (Pl.keyP s i) := by
 intro d
 induction d with
 | zero =>
  intro k hk
  obtain rfl : k = 18 := by omega
  refine evS ?_
  simp only [customhouseref03_Key.l0, if_neg (show ¬ ((18 : Nat) : Int) < 18 by omega)]
  rw [List.take_of_length_le (by rw [keyEnds_len]; omega)]
  exact Ev.bind (Q6.refListE (few_key s i) (by omega)) (Ev.now _)
 | succ d ih =>
  intro k hk
  have e1 : wrap64 ((k : Int) + 1) = ((k + 1 : Nat) : Int) := by rw [w64_id] <;> omega
  refine evS ?_
  simp only [customhouseref03_Key.l0, if_pos (show (k : Int) < 18 by omega), e1]
  refine Ev.bind (rstartE s i k hs (by omega) (by omega)) ?_
  refine Ev.bind (Q6.chainE (Pl.startP s i k) 15 (by omega) (by rw [Pl.startP_size]; omega)) ?_
  simp only [if_pos (show ((Pl.keyEnds s i).take k).length < 8796093022208 by rw [List.length_take, keyEnds_len]; omega)]
  have ht : (Pl.keyEnds s i).take k ++ [Pl.chn 15 (Pl.startP s i k)] = (Pl.keyEnds s i).take (k + 1) := by
   rw [List.take_succ_eq_append_getElem (by rw [keyEnds_len]; omega)]
   simp [Pl.keyEnds]
  rw [ht]
  exact ih (k + 1) (by omega)
theorem rkeyE (s : ByteArray) (i : Nat) (hs : s.size ≤ 1000) (hi : i ≤ 1000) : Ev (fun K => customhouseref03_Key.f K s (i : Int)) (Pl.keyP s i) := by
 unfold customhouseref03_Key.f
 have := rkey_l0 s i hs hi 18 0 (by omega)
 rw [List.take_zero] at this
 exact this
theorem rkeys_l0 (s : ByteArray) (h : Nat) (hs : s.size ≤ 1000) (hh : h ≤ 8) : ∀ (d i : Nat), i + d = 2 ^ h → Ev (fun K => customhouseref03_Keys.l0 K s (h : Int) ((Pl.keysP s h).take i) (i : Int)) (Pl.keysP s h) := by
 have hb := Pl.pow8 hh
 intro d
 induction d with
 | zero =>
  intro i hi
  obtain rfl : i = 2 ^ h := by omega
  refine evS ?_
  simp only [customhouseref03_Keys.l0]
  refine Ev.bind (powerE h (by omega)) ?_
  simp only [if_neg (show ¬ ((2 ^ h : Nat) : Int) < ((2 ^ h : Nat) : Int) by omega)]
  rw [List.take_of_length_le (by rw [Pl.keysP_len]; exact Nat.le_refl _)]
  exact Ev.now _
 | succ d ih =>
  intro i hi
  have e1 : wrap64 ((i : Int) + 1) = ((i + 1 : Nat) : Int) := by rw [w64_id] <;> omega
  refine evS ?_
  simp only [customhouseref03_Keys.l0, e1]
  refine Ev.bind (powerE h (by omega)) ?_
  simp only [if_pos (show (i : Int) < ((2 ^ h : Nat) : Int) by omega)]
  refine Ev.bind (rkeyE s i hs (by omega)) ?_
  simp only [if_pos (show ((Pl.keysP s h).take i).length < 8796093022208 by rw [List.length_take, Pl.keysP_len]; omega)]
  have ht : (Pl.keysP s h).take i ++ [Pl.keyP s i] = (Pl.keysP s h).take (i + 1) := by
   rw [List.take_succ_eq_append_getElem (by rw [Pl.keysP_len]; omega)]
   simp [Pl.keysP]
  rw [ht]
  exact ih (i + 1) (by omega)
theorem rkeysE (s : ByteArray) (h : Nat) (hs : s.size ≤ 1000) (hh : h ≤ 8) : Ev (fun K => customhouseref03_Keys.f K s (h : Int)) (Pl.keysP s h) := by
 unfold customhouseref03_Keys.f
 have := rkeys_l0 s h hs hh (2 ^ h) 0 (by omega)
 rw [List.take_zero] at this
 exact this
theorem rpublicE (s : ByteArray) (h : Nat) (hs : s.size ≤ 1000) (hh : h ≤ 8) : Ev (fun K => customhouseref03_Public.f K s (h : Int)) (Pl.publicP s h, 0) := by
 have hb := Pl.pow8 hh
 unfold customhouseref03_Public.f
 simp only [if_neg (show ¬ (h : Int) < 0 by omega), decide_eq_false (show ¬ (h : Int) > 8 by omega)]
 refine evS ?_
 simp only [customhouseref03_Public.j0, Bool.false_eq_true, if_false]
 refine Ev.bind (rkeysE s h hs hh) ?_
 refine Ev.bind (Q6.rrootE _ (Pl.keysP s h) rfl (by rw [Pl.keysP_len]; omega) (Pl.keysP_small s h)) ?_
 exact Ev.now _
theorem rpublicE_err (s : ByteArray) (h : Int) (hh : h < 0 ∨ 8 < h) : Ev (fun K => customhouseref03_Public.f K s h) (⟨#[]⟩, 1) := by
 unfold customhouseref03_Public.f
 have fin : Ev (fun K => customhouseref03_Public.j0 K s h true) (⟨#[]⟩, 1) := by
  refine evS ?_
  simp only [customhouseref03_Public.j0, if_true]
  exact Ev.now _
 by_cases h0 : h < 0
 ·simp only [if_pos h0]; exact fin
 ·simp only [if_neg h0, decide_eq_true (show h > 8 by omega)]; exact fin
theorem rsign_l0 (s m : ByteArray) (h i : Nat) (hs : s.size ≤ 1000) (hh : h ≤ 8) (hi : i < 2 ^ h) : ∀ (d k : Nat), k + d = 18 → Ev (fun K => customhouseref03_Sign.l0 K s (h : Int) (i : Int) (Pl.digsI m) (k : Int) (i : Int) ((Pl.sigP s i m).take k)) ((i : Int), Pl.sigP s i m, Pl.pathP (Pl.keysP s h) i, 0) := by
 have hb := Pl.pow8 hh
 intro d
 induction d with
 | zero =>
  intro k hk
  obtain rfl : k = 18 := by omega
  refine evS ?_
  simp only [customhouseref03_Sign.l0, if_neg (show ¬ ((18 : Nat) : Int) < 18 by omega)]
  rw [List.take_of_length_le (by rw [Pl.sig_len]; omega)]
  refine Ev.bind (rkeysE s h hs hh) ?_
  refine Ev.bind (Q6.pathE (Pl.keysP s h) i (by rw [Pl.keysP_len]; exact hi) (by rw [Pl.keysP_len]; omega) (Pl.keysP_small s h)) ?_
  exact Ev.now _
 | succ d ih =>
  intro k hk
  have hk18 : k < 18 := by omega
  have hd := Pl.dg_lt m k
  have e1 : wrap64 ((k : Int) + 1) = ((k + 1 : Nat) : Int) := by rw [w64_id] <;> omega
  refine evS ?_
  simp only [customhouseref03_Sign.l0, if_pos (show (k : Int) < 18 by omega), e1]
  refine Ev.bind (rstartE s i k hs (by omega) (by omega)) ?_
  simp only [if_pos (show (0 : Int) ≤ (k : Int) by omega), Pl.digs_len, if_pos (show (k : Int) < ((18 : Nat) : Int) by omega), Pl.digs_rd m hk18]
  refine Ev.bind (Q6.chainE (Pl.startP s i k) (Pl.dg m k) (by omega) (by rw [Pl.startP_size]; omega)) ?_
  simp only [if_pos (show ((Pl.sigP s i m).take k).length < 8796093022208 by rw [List.length_take, Pl.sig_len]; omega)]
  have ht : (Pl.sigP s i m).take k ++ [Pl.chn (Pl.dg m k) (Pl.startP s i k)] = (Pl.sigP s i m).take (k + 1) := by
   rw [List.take_succ_eq_append_getElem (by rw [Pl.sig_len]; omega)]
   congr 2
   have := Pl.sig_get s i m ⟨k, hk18⟩
   rw [List.getD_eq_getElem?_getD, List.getElem?_eq_getElem (by rw [Pl.sig_len]; exact hk18)] at this
   exact this.symm
  rw [ht]
  exact ih (k + 1) (by omega)
theorem rsignE (s m : ByteArray) (h i : Nat) (hs : s.size ≤ 1000) (hm : m.size ≤ 1000000) (hh : h ≤ 8) (hi : i < 2 ^ h) : Ev (fun K => customhouseref03_Sign.f K s (h : Int) (i : Int) m) ((i : Int), Pl.sigP s i m, Pl.pathP (Pl.keysP s h) i, 0) := by
 have hb := Pl.pow8 hh
 unfold customhouseref03_Sign.f
 simp only [if_neg (show ¬ (h : Int) < 0 by omega), if_neg (show ¬ (h : Int) > 8 by omega), if_neg (show ¬ (i : Int) < 0 by omega)]
 refine Ev.bind (powerE h (by omega)) ?_
 simp only [decide_eq_false (show ¬ (i : Int) ≥ ((2 ^ h : Nat) : Int) by omega)]
 refine evS ?_
 simp only [customhouseref03_Sign.j0, Bool.false_eq_true, if_false]
 refine Ev.bind (digitsE3 m (by omega)) ?_
 have := rsign_l0 s m h i hs hh hi 18 0 (by omega)
 rw [List.take_zero] at this
 exact this
theorem rsignE_err (s m : ByteArray) (h i : Int) (hb : h < 0 ∨ h > 8 ∨ i < 0 ∨ ((2 ^ h.toNat : Nat) : Int) ≤ i) : Ev (fun K => customhouseref03_Sign.f K s h i m) (0, [], [], 1) := by
 unfold customhouseref03_Sign.f
 have fin : Ev (fun K => customhouseref03_Sign.j0 K s h i m true) (0, [], [], 1) := by
  refine evS ?_
  simp only [customhouseref03_Sign.j0, if_true]
  exact Ev.now _
 by_cases h1 : h < 0
 ·simp only [if_pos h1]; exact fin
 ·by_cases h2 : h > 8
  ·simp only [if_neg h1, if_pos h2]; exact fin
  ·by_cases h3 : i < 0
   ·simp only [if_neg h1, if_neg h2, if_pos h3]; exact fin
   ·simp only [if_neg h1, if_neg h2, if_neg h3]
    obtain ⟨H, rfl⟩ : ∃ H : Nat, h = (H : Int) := ⟨h.toNat, by omega⟩
    refine Ev.bind (powerE H (by omega)) ?_
    rw [Int.toNat_natCast] at hb
    simp only [decide_eq_true (show i ≥ ((2 ^ H : Nat) : Int) by omega)]; exact fin
theorem rverify_l1 (pub m : ByteArray) (i : Int) (sig path : List ByteArray) (hl : path.length ≤ 8) (hp : ∀ x ∈ path, x.size ≤ 1000) (hs : ∀ x ∈ sig, x.size ≤ 1000) : ∀ (d k : Nat), k + d = path.length → Ev (fun K => customhouseref03_Verify.l1 K pub (Pl.endsP m sig) (k : Int) i sig path) ((path.drop k).all Pl.isDig && Pl.checkP pub ((2 ^ path.length : Nat) : Int) i (Pl.sum (Pl.joined (Pl.endsP m sig))) path) := by
 have hfe := few_ends (Pl.endsP m sig) (by rw [Pl.ends_len]; omega) (Pl.ends_small m sig hs)
 intro d
 induction d with
 | zero =>
  intro k hk
  refine evS ?_
  simp only [customhouseref03_Verify.l1, if_neg (show ¬ (k : Int) < (path.length : Int) by omega)]
  rw [List.drop_of_length_le (by omega), List.all_nil, Bool.true_and]
  refine Ev.bind (powerE path.length (by omega)) ?_
  refine Ev.bind (Q6.refListE hfe (by omega)) ?_
  refine Ev.bind (Q6.rcheckE pub ((2 ^ path.length : Nat) : Int) i _ path (by rw [Pl.sum_size]; omega) (by omega) hp) ?_
  exact Ev.now _
 | succ d ih =>
  intro k hk
  have hlt : k < path.length := by omega
  have e1 : wrap64 ((k : Int) + 1) = ((k + 1 : Nat) : Int) := by rw [w64_id] <;> omega
  have hr : rdOf ByteArray.empty path (k : Int) = path[k] := by
   show path.getD k _ = _
   rw [List.getD_eq_getElem?_getD, List.getElem?_eq_getElem hlt]; rfl
  have hx : path[k].size ≤ 1000 := hp _ (List.getElem_mem _)
  refine evS ?_
  simp only [customhouseref03_Verify.l1, if_pos (show (k : Int) < (path.length : Int) by omega), if_pos (show (0 : Int) ≤ (k : Int) by omega), hr, e1]
  refine Ev.bind (Q6.refIsE path[k] (by omega)) ?_
  rw [List.drop_eq_getElem_cons hlt, List.all_cons]
  by_cases hd : Pl.isDig path[k] = true
  ·simp only [hd, if_true, Bool.true_and]
   exact ih (k + 1) (by omega)
  ·rw [Bool.not_eq_true] at hd
   simp only [hd, Bool.false_eq_true, if_false, Bool.false_and]
   exact Ev.now _
theorem rverify_l0 (pub m : ByteArray) (i : Int) (sig path : List ByteArray) (h18 : sig.length = 18) (hl : path.length ≤ 8) (hp : ∀ x ∈ path, x.size ≤ 1000) (hs : ∀ x ∈ sig, x.size ≤ 1000) : ∀ (d k : Nat), k + d = 18 → Ev (fun K => customhouseref03_Verify.l0 K pub (Pl.digsI m) ((Pl.endsP m sig).take k) (k : Int) i sig path) ((sig.drop k).all Pl.isDig && (path.all Pl.isDig && Pl.checkP pub ((2 ^ path.length : Nat) : Int) i (Pl.sum (Pl.joined (Pl.endsP m sig))) path)) := by
 intro d
 induction d with
 | zero =>
  intro k hk
  obtain rfl : k = 18 := by omega
  refine evS ?_
  simp only [customhouseref03_Verify.l0, if_neg (show ¬ ((18 : Nat) : Int) < 18 by omega)]
  rw [List.take_of_length_le (by rw [Pl.ends_len]; omega), List.drop_of_length_le (by omega), List.all_nil, Bool.true_and]
  have := rverify_l1 pub m i sig path hl hp hs path.length 0 (by omega)
  rw [List.drop_zero] at this
  exact this
 | succ d ih =>
  intro k hk
  have hk18 : k < 18 := by omega
  have hd := Pl.dg_lt m k
  have e1 : wrap64 ((k : Int) + 1) = ((k + 1 : Nat) : Int) := by rw [w64_id] <;> omega
  have e2 : wrap64 (15 - ((Pl.dg m k : Nat) : Int)) = ((15 - Pl.dg m k : Nat) : Int) := by rw [w64_id] <;> omega
  have hlt : k < sig.length := by omega
  have hg : sig.getD k ByteArray.empty = sig[k] := by rw [List.getD_eq_getElem?_getD, List.getElem?_eq_getElem hlt]; rfl
  have hr : rdOf ByteArray.empty sig (k : Int) = sig[k] := hg
  have hx : sig[k].size ≤ 1000 := hs _ (List.getElem_mem _)
  refine evS ?_
  simp only [customhouseref03_Verify.l0, if_pos (show (k : Int) < 18 by omega), if_pos (show (0 : Int) ≤ (k : Int) by omega), if_pos (show (k : Int) < (sig.length : Int) by omega), hr, e1]
  refine Ev.bind (Q6.refIsE sig[k] (by omega)) ?_
  rw [List.drop_eq_getElem_cons hlt, List.all_cons]
  by_cases hdg : Pl.isDig sig[k] = true
  ·simp only [hdg, if_true, Bool.true_and, Pl.digs_len, if_pos (show (k : Int) < ((18 : Nat) : Int) by omega), Pl.digs_rd m hk18, e2]
   refine Ev.bind (Q6.chainE sig[k] (15 - Pl.dg m k) (by omega) (by omega)) ?_
   simp only [if_pos (show ((Pl.endsP m sig).take k).length < 8796093022208 by rw [List.length_take, Pl.ends_len]; omega)]
   have ht : (Pl.endsP m sig).take k ++ [Pl.chn (15 - Pl.dg m k) sig[k]] = (Pl.endsP m sig).take (k + 1) := by
    rw [List.take_succ_eq_append_getElem (by rw [Pl.ends_len]; omega)]
    congr 2
    have := Pl.ends_get m sig ⟨k, hk18⟩
    rw [List.getD_eq_getElem?_getD, List.getElem?_eq_getElem (by rw [Pl.ends_len]; exact hk18)] at this
    simp only [hg] at this
    exact this.symm
   rw [ht]
   exact ih (k + 1) (by omega)
  ·rw [Bool.not_eq_true] at hdg
   simp only [hdg, Bool.false_eq_true, if_false, Bool.false_and]
   exact Ev.now _
theorem rverifyE (pub m : ByteArray) (i : Int) (sig path : List ByteArray) (hm : m.size ≤ 1000000) (hl : path.length ≤ 1000) (hp : ∀ x ∈ path, x.size ≤ 1000) (hs : ∀ x ∈ sig, x.size ≤ 1000) : Ev (fun K => customhouseref03_Verify.f K pub m i sig path) (Pl.verifyP pub m i sig path) := by
 have fin : Pl.sealOk i sig path = false → Ev (fun K => customhouseref03_Verify.j0 K pub m true i sig path) (Pl.verifyP pub m i sig path) := by
  intro h
  refine evS ?_
  simp only [customhouseref03_Verify.j0, if_true]
  unfold Pl.verifyP
  rw [h]
  exact Ev.now _
 have no : ¬ (sig.length = 18 ∧ path.length ≤ 8 ∧ 0 ≤ i ∧ i < ((2 ^ path.length : Nat) : Int)) → Pl.sealOk i sig path = false := by
  intro h
  rw [Bool.eq_false_iff]
  intro hh
  obtain ⟨a, b, _, _, c, d⟩ := (Pl.sealOk_iff _ _ _).1 hh
  exact h ⟨a, b, c, d⟩
 unfold customhouseref03_Verify.f
 by_cases h18 : sig.length = 18
 ·simp only [if_pos (show (sig.length : Int) = 18 by omega)]
  by_cases h8 : path.length ≤ 8
  ·simp only [if_neg (show ¬ (path.length : Int) > 8 by omega)]
   by_cases h0 : i < 0
   ·simp only [if_pos h0]
    exact fin (no (by omega))
   ·simp only [if_neg h0]
    refine Ev.bind (powerE path.length (by omega)) ?_
    by_cases hi : i < ((2 ^ path.length : Nat) : Int)
    ·simp only [decide_eq_false (show ¬ i ≥ ((2 ^ path.length : Nat) : Int) by omega)]
     refine evS ?_
     simp only [customhouseref03_Verify.j0, Bool.false_eq_true, if_false]
     refine Ev.bind (digitsE3 m (by omega)) ?_
     have := rverify_l0 pub m i sig path h18 h8 hp hs 18 0 (by omega)
     rw [List.take_zero, List.drop_zero] at this
     refine evE this ?_
     unfold Pl.verifyP Pl.sealOk
     rw [decide_eq_true h18, decide_eq_true h8, decide_eq_true (show 0 ≤ i by omega), decide_eq_true hi]
     simp [Bool.and_assoc]
    ·simp only [decide_eq_true (show i ≥ ((2 ^ path.length : Nat) : Int) by omega)]
     exact fin (no (by omega))
  ·simp only [if_pos (show (path.length : Int) > 8 by omega)]
   exact fin (no (by omega))
 ·simp only [if_neg (show ¬ (sig.length : Int) = 18 by omega)]
  exact fin (no (by omega))
theorem smr_j1 (m pub root : ByteArray) (i : Int) (sig path : List ByteArray) (hm : m.size ≤ 1000) (hl : path.length ≤ 1000) (hp : ∀ x ∈ path, x.size ≤ 1000) (hs : ∀ x ∈ sig, x.size ≤ 1000) : Ev (fun k => customhouselaw03_SealMatchesReference.j1 k m pub true root root true i sig path) true := by
 refine evS ?_
 simp only [customhouselaw03_SealMatchesReference.j1, if_true, verifyE _ _ _ _ _ (by omega : m.size ≤ 1000000), Option.bind_some]
 refine Ev.bind (rverifyE pub m i sig path (by omega) hl hp hs) ?_
 simp only [beq_self_eq_true, if_true]
 refine Ev.bind (rverifyE root m i sig path (by omega) hl hp hs) ?_
 simp only [beq_self_eq_true]
 exact Ev.now _
theorem smr_j0 (s m pub : ByteArray) (h i : Int) (x : Int) (sig path : List ByteArray) (hh : ¬ (h > 3 ∧ h ≤ 8)) (hs0 : s.size ≤ 1000) (hm : m.size ≤ 1000) (hl : path.length ≤ 1000) (hp : ∀ x ∈ path, x.size ≤ 1000) (hs : ∀ x ∈ sig, x.size ≤ 1000) : Ev (fun k => customhouselaw03_SealMatchesReference.j0 k s h i m pub true false x sig path) true := by
 obtain ⟨P, hP1, hP2⟩ : ∃ P : ByteArray × Int, Ev (fun k => seal_Public.f k s h) P ∧ Ev (fun k => customhouseref03_Public.f k s h) P := by
  by_cases hb : h < 0 ∨ 8 < h
  ·exact ⟨_, publicE_err s h hb, rpublicE_err s h hb⟩
  ·obtain ⟨H, rfl⟩ : ∃ H : Nat, h = (H : Int) := ⟨h.toNat, by omega⟩
   exact ⟨_, publicE s H hs0 (by omega), rpublicE s H hs0 (by omega)⟩
 obtain ⟨S, hS1, hS2, hS3⟩ : ∃ S : Int × List ByteArray × List ByteArray × Int, seal_Sign.f s h i m = some S ∧ Ev (fun k => customhouseref03_Sign.f k s h i m) S ∧ S.2.1.length ≤ 1000 ∧ S.2.2.1.length ≤ 1000 := by
  by_cases hb : h < 0 ∨ h > 8 ∨ i < 0 ∨ ((2 ^ h.toNat : Nat) : Int) ≤ i
  ·exact ⟨_, signE_err s m h i hs0 (by omega) hb, rsignE_err s m h i hb, by simp, by simp⟩
  ·obtain ⟨H, rfl⟩ : ∃ H : Nat, h = (H : Int) := ⟨h.toNat, by omega⟩
   obtain ⟨I, rfl⟩ : ∃ I : Nat, i = (I : Int) := ⟨i.toNat, by omega⟩
   simp only [Int.toNat_natCast] at hb
   have hI : I < 2 ^ H := by omega
   refine ⟨_, signE s m H I hs0 (by omega) (by omega) hI, rsignE s m H I hs0 (by omega) (by omega) hI, ?_, ?_⟩
   ·simp only [Pl.sig_len]; omega
   ·have := Pl.path_pow (l := Pl.keysP s H) (i := I) (by rw [Pl.keysP_len]; exact hI) (Pl.keysP_len s H)
    simp only [this]; omega
 refine evS ?_
 simp only [customhouselaw03_SealMatchesReference.j0, Bool.false_eq_true, if_false]
 refine Ev.bind hP1 ?_
 refine Ev.bind hP2 ?_
 simp only [hS1, Option.bind_some]
 refine Ev.bind hS2 ?_
 simp only [if_true]
 refine Ev.bind (same3D S.1 S.1 S.2.1 S.2.2.1 S.2.1 S.2.2.1 hS3.1 hS3.2) ?_
 simp only [decide_true, Bool.and_self]
 exact smr_j1 m pub P.1 x sig path hm hl hp hs
theorem Pl.SealMatchesReference (a0 : ByteArray) (a1 a2 : Int) (a3 a4 : ByteArray) (i : Int) (sig path : List ByteArray) (h0 : a0.size ≤ 9223372036854775807) (_h1 : (Lit.int .i64 a1).wf = true) (_h2 : (Lit.int .i64 a2).wf = true) (h3 : a3.size ≤ 9223372036854775807) (h4 : a4.size ≤ 9223372036854775807) (_hi : (Lit.int .i64 i).wf = true)
    (hs : sig.length ≤ 9223372036854775807) (_hs' : ∀ x ∈ sig, x.size ≤ 9223372036854775807) (hp : path.length ≤ 9223372036854775807) (_hp' : ∀ x ∈ path, x.size ≤ 9223372036854775807) :
    ∃ k, customhouselaw03_SealMatchesReference.f k a0 a1 a2 a3 a4 i sig path = some true := by
 refine Ev.rounds (g := fun k => customhouselaw03_SealMatchesReference.f k a0 a1 a2 a3 a4 i sig path) ?_
 have hsh := short3E [a0, a3, a4] (by simp) (by simp [h0, h3, h4])
 unfold customhouselaw03_SealMatchesReference.f
 simp only [head3, Option.bind_some]
 refine Ev.bind hsh ?_
 have out : Ev (fun k => customhouselaw03_SealMatchesReference.j0 k a0 a1 a2 a3 a4 true true i sig path) true := by
  refine evS ?_
  simp only [customhouselaw03_SealMatchesReference.j0, if_true]
  exact Ev.now _
 by_cases hsm : ([a0, a3, a4].all fun x => decide (x.size ≤ 300)) = true
 ·rw [hsm]
  simp only [if_true]
  have hsz : a0.size ≤ 300 ∧ a3.size ≤ 300 ∧ a4.size ≤ 300 := by simpa [and_assoc] using hsm
  obtain ⟨r, hr, hr2⟩ := few3E i sig path hs hp
  refine Ev.bind hr ?_
  cases r with
  | true =>
   obtain ⟨⟨_, g1⟩, g0, g2⟩ := hr2 rfl
   simp only [if_true]
   have go : ¬ (a1 > 3 ∧ a1 ≤ 8) → Ev (fun k => customhouselaw03_SealMatchesReference.j0 k a0 a1 a2 a3 a4 true false i sig path) true := fun hh =>
    smr_j0 a0 a3 a4 a1 a2 i sig path hh (by omega) (by omega) (by omega) (fun x hx => by have := g2 x hx; omega) (fun x hx => by have := g1 x hx; omega)
   by_cases h3' : a1 > 3
   ·simp only [if_pos h3']
    by_cases h8 : a1 ≤ 8
    ·simp only [decide_eq_true h8]; exact out
    ·simp only [decide_eq_false h8]; exact go (by omega)
   ·simp only [if_neg h3']
    exact go (by omega)
  | false => exact out
 ·rw [Bool.not_eq_true] at hsm
  rw [hsm]
  simp only [Bool.false_eq_true, if_false]; exact out
end Go.Proofs.YtdlipbfcadmhjaaGreatDoor
