/- tree, plain: ref02.up and ref02.both. -/
import Derived.Test.YtdlipbfcadmhjaaGreatDoorTE2
import Derived.Test.YtdlipbfcadmhjaaGreatDoorPG2x17
import Derived.Test.YtdlipbfcadmhjaaGreatDoorPG2x18
namespace Go.Proofs.YtdlipbfcadmhjaaGreatDoor
set_option linter.unusedVariables false
set_option linter.unusedSimpArgs false
open Go.RowKit Go.Proofs.YtdlipbfcadmhjaaGreatDoorW.PrintWords Go.Proofs.YtdlipbfcadmhjaaGreatDoorW.PrintMore PG2

theorem snoc_facts (xs : List ByteArray) (p : ByteArray) (h : xs.length ≤ 1000001) : wrap64 (((xs.length + 1 : Nat) : Int) - 1) = ((xs.length : Nat) : Int) ∧ rdOf ByteArray.empty (xs ++ [p]) ((xs.length : Nat) : Int) = p ∧ (xs ++ [p]).take xs.length = xs := by
  refine ⟨?_, ?_, ?_⟩
  · rw [w64_id] <;> omega
  · unfold rdOf; rw [Int.toNat_natCast, List.getD_eq_getElem?_getD]; simp
  · simp
theorem Pl.climb_size {n i : Nat} {d r : ByteArray} {xs ts : List ByteArray} (h : Pl.Climb n i d xs r ts) (hd : d.size ≤ 16) : r.size ≤ 16 := by
  cases h with
  | one => exact hd
  | left p => rw [nodeP_size]; omega
  | right p => rw [nodeP_size]; omega
theorem upE {n i : Nat} {d r : ByteArray} {xs ts : List ByteArray} (h : Pl.Climb n i d xs r ts) (hd : d.size ≤ 16) : i < n → n ≤ 1000000 → (∀ x ∈ xs, x.size ≤ 1000) → Ev (fun k => customhouseref02_up.f k (n : Int) (i : Int) d xs) r := by
  induction h with
  | one d =>
    intro _ _ _
    refine evS ?_
    simp only [customhouseref02_up.f, if_pos (show ((1 : Nat) : Int) = 1 from rfl)]
    exact Ev.now _
  | @left n i d r xs ts p hn hi h ih =>
    intro hin hnm hx
    have hh := Pl.half_spec hn
    have hl := Pl.climb_bound h n (Nat.le_trans (by omega) (Nat.le_of_lt Nat.lt_two_pow_self))
    obtain ⟨e1, e2, e3⟩ := snoc_facts xs p (by omega)
    have hlen : (xs ++ [p]).length = xs.length + 1 := by simp
    refine evS ?_
    simp only [customhouseref02_up.f, if_neg (show ¬ (n : Int) = 1 by omega)]
    refine Ev.bind (rhalfE hn (by omega)) ?_
    simp only [e1, if_pos (show (0 : Int) ≤ ((xs.length : Nat) : Int) by omega), hlen, if_pos (show ((xs.length : Nat) : Int) < ((xs.length + 1 : Nat) : Int) by omega), if_pos (show ((xs.length : Nat) : Int) ≤ ((xs.length + 1 : Nat) : Int) by omega), if_pos (show (i : Int) < ((Pl.half n : Nat) : Int) by omega), Int.toNat_natCast, e2, e3]
    refine Ev.bind (ih hd hi (by omega) (fun x hx' => hx x (by simp [hx']))) ?_
    refine Ev.bind (rnodeE _ _ (by have := Pl.climb_size h hd; omega) (hx p (by simp))) ?_
    exact Ev.now _
  | @right n i d r xs ts p hn hi h ih =>
    intro hin hnm hx
    have hh := Pl.half_spec hn
    have hl := Pl.climb_bound h n (Nat.le_trans (by omega) (Nat.le_of_lt Nat.lt_two_pow_self))
    obtain ⟨e1, e2, e3⟩ := snoc_facts xs p (by omega)
    have hlen : (xs ++ [p]).length = xs.length + 1 := by simp
    have w1 : wrap64 ((n : Int) - ((Pl.half n : Nat) : Int)) = ((n - Pl.half n : Nat) : Int) := by rw [w64_id] <;> omega
    have w2 : wrap64 ((i : Int) - ((Pl.half n : Nat) : Int)) = ((i - Pl.half n : Nat) : Int) := by rw [w64_id] <;> omega
    refine evS ?_
    simp only [customhouseref02_up.f, if_neg (show ¬ (n : Int) = 1 by omega)]
    refine Ev.bind (rhalfE hn (by omega)) ?_
    simp only [e1, if_pos (show (0 : Int) ≤ ((xs.length : Nat) : Int) by omega), hlen, if_pos (show ((xs.length : Nat) : Int) < ((xs.length + 1 : Nat) : Int) by omega), if_pos (show ((xs.length : Nat) : Int) ≤ ((xs.length + 1 : Nat) : Int) by omega), if_neg (show ¬ (i : Int) < ((Pl.half n : Nat) : Int) by omega), Int.toNat_natCast, e2, e3, w1, w2]
    refine Ev.bind (ih hd (by omega) (by omega) (fun x hx' => hx x (by simp [hx']))) ?_
    refine Ev.bind (rnodeE _ _ (hx p (by simp)) (by have := Pl.climb_size h hd; omega)) ?_
    exact Ev.now _
theorem Pl.both_size {n m : Nat} {wh : Bool} {old a b : ByteArray} {xs ts : List ByteArray} (h : Pl.Both n m wh old xs a b ts) : old.size ≤ 1000 → (∀ x ∈ xs, x.size ≤ 1000) → a.size ≤ 1000 ∧ b.size ≤ 1000 := by
  induction h with
  | whole n old => intro ho _; exact ⟨ho, ho⟩
  | part n old d => intro _ hx; exact ⟨hx d (by simp), hx d (by simp)⟩
  | left p hm hmn hc h ih =>
    intro ho hx
    have := ih ho (fun x hx' => hx x (by simp [hx']))
    exact ⟨this.1, by rw [nodeP_size]; omega⟩
  | right p hm hmn hc h ih =>
    intro ho hx
    exact ⟨by rw [nodeP_size]; omega, by rw [nodeP_size]; omega⟩
theorem bothE {n m : Nat} {wh : Bool} {old a b : ByteArray} {xs ts : List ByteArray} (h : Pl.Both n m wh old xs a b ts) : old.size ≤ 1000 → 1 ≤ m → m ≤ n → n ≤ 1000000 → (∀ x ∈ xs, x.size ≤ 1000) → Ev (fun k => customhouseref02_both.f k (n : Int) (m : Int) wh old xs) (a, b) := by
  induction h with
  | whole n old =>
    intro _ _ _ _ _
    refine evS ?_
    simp only [customhouseref02_both.f, if_true]
    exact Ev.now _
  | part n old d =>
    intro _ _ _ _ _
    refine evS ?_
    simp only [customhouseref02_both.f, if_true, Bool.false_eq_true, if_false, if_pos (show (0 : Int) < (([d] : List ByteArray).length : Int) by simp), show rdOf ByteArray.empty [d] 0 = d from rfl]
    exact Ev.now _
  | @left n m wh old a b xs ts p hm hmn hc h ih =>
    intro ho h1 h2 hnm hx
    have hn : 2 ≤ n := by omega
    have hh := Pl.half_spec hn
    have hl := Pl.both_bound h n (Nat.le_trans (by omega) (Nat.le_of_lt Nat.lt_two_pow_self))
    obtain ⟨e1, e2, e3⟩ := snoc_facts xs p (by omega)
    have hlen : (xs ++ [p]).length = xs.length + 1 := by simp
    have hsz := Pl.both_size h ho (fun x hx' => hx x (by simp [hx']))
    refine evS ?_
    simp only [customhouseref02_both.f, if_neg (show ¬ (m : Int) = (n : Int) by omega)]
    refine Ev.bind (rhalfE hn (by omega)) ?_
    simp only [e1, if_pos (show (0 : Int) ≤ ((xs.length : Nat) : Int) by omega), hlen, if_pos (show ((xs.length : Nat) : Int) < ((xs.length + 1 : Nat) : Int) by omega), if_pos (show ((xs.length : Nat) : Int) ≤ ((xs.length + 1 : Nat) : Int) by omega), if_pos (show (m : Int) ≤ ((Pl.half n : Nat) : Int) by omega), Int.toNat_natCast, e2, e3]
    refine Ev.bind (ih ho h1 hc (by omega) (fun x hx' => hx x (by simp [hx']))) ?_
    refine Ev.bind (rnodeE _ _ hsz.2 (hx p (by simp))) ?_
    exact Ev.now _
  | @right n m wh old a b xs ts p hm hmn hc h ih =>
    intro ho h1 h2 hnm hx
    have hn : 2 ≤ n := by omega
    have hh := Pl.half_spec hn
    have hl := Pl.both_bound h n (Nat.le_trans (by omega) (Nat.le_of_lt Nat.lt_two_pow_self))
    obtain ⟨e1, e2, e3⟩ := snoc_facts xs p (by omega)
    have hlen : (xs ++ [p]).length = xs.length + 1 := by simp
    have hsz := Pl.both_size h ho (fun x hx' => hx x (by simp [hx']))
    have w1 : wrap64 ((n : Int) - ((Pl.half n : Nat) : Int)) = ((n - Pl.half n : Nat) : Int) := by rw [w64_id] <;> omega
    have w2 : wrap64 ((m : Int) - ((Pl.half n : Nat) : Int)) = ((m - Pl.half n : Nat) : Int) := by rw [w64_id] <;> omega
    refine evS ?_
    simp only [customhouseref02_both.f, if_neg (show ¬ (m : Int) = (n : Int) by omega)]
    refine Ev.bind (rhalfE hn (by omega)) ?_
    simp only [e1, if_pos (show (0 : Int) ≤ ((xs.length : Nat) : Int) by omega), hlen, if_pos (show ((xs.length : Nat) : Int) < ((xs.length + 1 : Nat) : Int) by omega), if_pos (show ((xs.length : Nat) : Int) ≤ ((xs.length + 1 : Nat) : Int) by omega), if_neg (show ¬ (m : Int) ≤ ((Pl.half n : Nat) : Int) by omega), Int.toNat_natCast, e2, e3, w1, w2]
    refine Ev.bind (ih ho (by omega) (by omega) (by omega) (fun x hx' => hx x (by simp [hx']))) ?_
    refine Ev.bind (rnodeE _ _ (hx p (by simp)) hsz.1) ?_
    refine Ev.bind (rnodeE _ _ (hx p (by simp)) hsz.2) ?_
    exact Ev.now _
end Go.Proofs.YtdlipbfcadmhjaaGreatDoor
