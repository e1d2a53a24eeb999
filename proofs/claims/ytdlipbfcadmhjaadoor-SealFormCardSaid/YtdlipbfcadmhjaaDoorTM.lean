/- tree, plain: roots, paths and links; what binds them, or two texts with one digest. No program, no memory. -/
import Derived.Test.YtdlipbfcadmhjaaDoorT5b
namespace Go.Proofs.YtdlipbfcadmhjaaDoor.Pl
set_option linter.unusedVariables false
set_option linter.unusedSimpArgs false
open Go.Lib
theorem halfGo_pow : ∀ f k n, (∃ c, k = 2 ^ c) → ∃ c, halfGo f k n = 2 ^ c
  | 0, _, _, h => h
  | f + 1, k, n, ⟨c, h⟩ => by
    unfold halfGo
    split
    · exact halfGo_pow f (2 * k) n ⟨c + 1, by rw [h, Nat.pow_succ, Nat.mul_comm]⟩
    · exact ⟨c, h⟩
theorem half_pow (n : Nat) : ∃ c, half n = 2 ^ c := halfGo_pow n 1 n ⟨0, rfl⟩
theorem half_of {m c : Nat} (h1 : 2 ^ c < m) (h2 : m ≤ 2 * 2 ^ c) : half m = 2 ^ c := by
 have hm : 2 ≤ m := by have := Nat.one_le_two_pow (n := c); omega
 obtain ⟨d, hd⟩ := half_pow m
 obtain ⟨_, a, b⟩ := half_spec hm
 rw [hd] at a b ⊢
 have e1 : 2 ^ c < 2 ^ (d + 1) := by rw [Nat.pow_succ]; omega
 have e2 : 2 ^ d < 2 ^ (c + 1) := by rw [Nat.pow_succ]; omega
 have f1 := (Nat.pow_lt_pow_iff_right (by omega : 1 < 2)).1 e1
 have f2 := (Nat.pow_lt_pow_iff_right (by omega : 1 < 2)).1 e2
 rw [show d = c by omega]
theorem take_lt {l : List ByteArray} (h : 2 ≤ l.length) : (l.take (half l.length)).length < l.length := by
 have := half_spec h; rw [List.length_take]; omega
theorem drop_lt {l : List ByteArray} (h : 2 ≤ l.length) : (l.drop (half l.length)).length < l.length := by
 have := half_spec h; rw [List.length_drop]; omega
theorem take_len {l : List ByteArray} (h : 2 ≤ l.length) : (l.take (half l.length)).length = half l.length := by
 have := half_spec h; rw [List.length_take]; omega
def rootP (l : List ByteArray) : ByteArray :=
  if _h : 2 ≤ l.length then nodeP (rootP (l.take (half l.length))) (rootP (l.drop (half l.length)))
  else match l with
    | [] => emptyP
    | x :: _ => leafP x
  termination_by l.length
  decreasing_by
    · exact take_lt _h
    · exact drop_lt _h
theorem root_two {l : List ByteArray} (h : 2 ≤ l.length) : rootP l = nodeP (rootP (l.take (half l.length))) (rootP (l.drop (half l.length))) := by rw [rootP, dif_pos h]
theorem root_nil : rootP [] = emptyP := by rw [rootP, dif_neg (by simp)]
theorem root_one (x : ByteArray) : rootP [x] = leafP x := by rw [rootP, dif_neg (by simp)]
theorem root_is_sum (l : List ByteArray) : ∃ x, rootP l = sum x := by
 by_cases h : 2 ≤ l.length
 ·exact ⟨_, root_two h⟩
 ·match l, h with
  | [], _ => exact ⟨_, root_nil⟩
  | [x], _ => exact ⟨_, root_one x⟩
  | _ :: _ :: _, h => exact absurd (by simp) h
theorem root_dig (l : List ByteArray) : isDig (rootP l) = true := by obtain ⟨x, h⟩ := root_is_sum l; rw [h]; exact isDig_sum x
theorem root_size (l : List ByteArray) : (rootP l).size = 16 := by obtain ⟨x, h⟩ := root_is_sum l; rw [h]; exact sum_size x
theorem nodeP_dig (a b : ByteArray) : isDig (nodeP a b) = true := isDig_sum _
theorem leafP_dig (s : ByteArray) : isDig (leafP s) = true := isDig_sum _
theorem dig_size {x : ByteArray} (h : isDig x = true) : x.size = 16 := by
 unfold isDig at h
 rw [Bool.and_eq_true, decide_eq_true_eq] at h
 exact h.1
theorem dig_full {x : ByteArray} (h : isDig x = true) : x.toList.isEmpty = false := by
 have := dig_size h
 rw [toL, List.isEmpty_eq_false_iff]
 intro h0
 have := congrArg List.length h0
 rw [dataLen] at this
 have h1 : x.size = 0 := this
 omega
def Coll (L : List ByteArray) : Prop := ∃ a ∈ L, ∃ b ∈ L, sum a = sum b ∧ a ≠ b
theorem Coll.mono {L M : List ByteArray} (h : Coll L) (hs : ∀ x ∈ L, x ∈ M) : Coll M := by
 obtain ⟨a, ha, b, hb, h⟩ := h
 exact ⟨a, hs a ha, b, hs b hb, h⟩
theorem Coll.of {L : List ByteArray} {a b : ByteArray} (ha : a ∈ L) (hb : b ∈ L) (h : sum a = sum b) : a = b ∨ Coll L := by
 by_cases e : a = b
 ·exact .inl e
 ·exact .inr ⟨a, ha, b, hb, h, e⟩
inductive Climb : Nat → Nat → ByteArray → List ByteArray → ByteArray → List ByteArray → Prop
  | one (d : ByteArray) : Climb 1 0 d [] d []
  | left {n i : Nat} {d r : ByteArray} {xs ts : List ByteArray} (p : ByteArray) (hn : 2 ≤ n) (hi : i < half n) (h : Climb (half n) i d xs r ts) : Climb n i d (xs ++ [p]) (nodeP r p) (ts ++ [joined (nodeL r p)])
  | right {n i : Nat} {d r : ByteArray} {xs ts : List ByteArray} (p : ByteArray) (hn : 2 ≤ n) (hi : ¬ i < half n) (h : Climb (n - half n) (i - half n) d xs r ts) : Climb n i d (xs ++ [p]) (nodeP p r) (ts ++ [joined (nodeL p r)])
theorem nextP_snoc (xs : List ByteArray) (x : ByteArray) (s : Bool) : nextP (xs ++ [x]) s = (x, xs, s || x.toList.isEmpty) := by
 unfold nextP
 rw [List.getLast?_append]
 simp
theorem nextP_nil (s : Bool) : nextP [] s = (ByteArray.empty, [], true) := rfl
theorem upP_true : ∀ f n i d xs, (upP f n i d xs true).2.2 = true
  | 0, _, _, _, _ => rfl
  | f + 1, n, i, d, xs => by
    unfold upP
    have hs : (nextP xs true).2.2 = true := by
      unfold nextP
      split <;> simp
    split
    · rfl
    · split
      · simp only [hs]; exact upP_true f _ _ _ _
      · simp only [hs]; exact upP_true f _ _ _ _
theorem list_snoc {α : Type} (xs : List α) : xs = [] ∨ ∃ ys y, xs = ys ++ [y] := by
 rcases List.eq_nil_or_concat xs with h | ⟨ys, y, h⟩
 ·exact .inl h
 ·exact .inr ⟨ys, y, by rw [h, List.concat_eq_append]⟩
theorem climb_of_up : ∀ (f n i : Nat) (d : ByteArray) (xs : List ByteArray) (s : Bool), n ≤ f → i < n → (upP f n i d xs s).2.2 = false →
    s = false ∧ ∃ zs ts, xs = (upP f n i d xs s).2.1 ++ zs ∧ Climb n i d zs (upP f n i d xs s).1 ts
  | 0, n, i, _, _, _, hf, hi, _ => by omega
  | f + 1, n, i, d, xs, s, hf, hi, h => by
    by_cases h1 : n = 1
    · subst h1
      obtain rfl : i = 0 := by omega
      unfold upP at h ⊢
      rw [if_pos rfl] at h ⊢
      exact ⟨h, [], [], by simp, Climb.one d⟩
    · have h2 : 2 ≤ n := by omega
      have hs := half_spec h2
      rcases list_snoc xs with rfl | ⟨ys, y, rfl⟩
      · exfalso
        unfold upP at h
        rw [if_neg h1, nextP_nil] at h
        split at h
        · simp only [upP_true] at h; cases h
        · simp only [upP_true] at h; cases h
      · unfold upP at h ⊢
        rw [if_neg h1, nextP_snoc] at h ⊢
        by_cases hc : i < half n
        · rw [if_pos hc] at h ⊢
          obtain ⟨e1, zs, ts, e2, e3⟩ := climb_of_up f (half n) i d ys _ (by omega) hc h
          simp only [Bool.or_eq_false_iff] at e1
          refine ⟨e1.1, zs ++ [y], _, ?_, Climb.left y h2 hc e3⟩
          rw [← List.append_assoc]
          exact congrArg (· ++ [y]) e2
        · rw [if_neg hc] at h ⊢
          obtain ⟨e1, zs, ts, e2, e3⟩ := climb_of_up f (n - half n) (i - half n) d ys _ (by omega) (by omega) h
          simp only [Bool.or_eq_false_iff] at e1
          refine ⟨e1.1, zs ++ [y], _, ?_, Climb.right y h2 hc e3⟩
          rw [← List.append_assoc]
          exact congrArg (· ++ [y]) e2
theorem up_of_climb {n i : Nat} {d r : ByteArray} {zs ts : List ByteArray} (h : Climb n i d zs r ts) : ∀ (f : Nat) (ys : List ByteArray), n ≤ f → (∀ z ∈ zs, z.toList.isEmpty = false) → upP f n i d (ys ++ zs) false = (r, ys, false) := by
 induction h with
 | one d =>
  intro f ys hf _
  obtain ⟨f, rfl⟩ : ∃ g, f = g + 1 := ⟨f - 1, by omega⟩
  unfold upP
  rw [if_pos rfl, List.append_nil]
 | left p hn hi h ih =>
  intro f ys hf hz
  have hs := half_spec hn
  obtain ⟨f, rfl⟩ : ∃ g, f = g + 1 := ⟨f - 1, by omega⟩
  unfold upP
  rw [if_neg (by omega), ← List.append_assoc, nextP_snoc, hz p (by simp), if_pos hi]
  have := ih f ys (by omega) fun z hz' => hz z (by simp [hz'])
  simp only [Bool.or_false, this]
 | right p hn hi h ih =>
  intro f ys hf hz
  have hs := half_spec hn
  obtain ⟨f, rfl⟩ : ∃ g, f = g + 1 := ⟨f - 1, by omega⟩
  unfold upP
  rw [if_neg (by omega), ← List.append_assoc, nextP_snoc, hz p (by simp), if_neg hi]
  have := ih f ys (by omega) fun z hz' => hz z (by simp [hz'])
  simp only [Bool.or_false, this]
theorem all_full {xs : List ByteArray} (h : xs.all isDig = true) : ∀ z ∈ xs, z.toList.isEmpty = false := fun z hz => dig_full (List.all_eq_true.1 h z hz)
theorem checkP_climb {root : ByteArray} {n i : Nat} {s : ByteArray} {path : List ByteArray} (h : checkP root n i s path = true) : i < n ∧ path.all isDig = true ∧ ∃ ts, Climb n i (leafP s) path root ts := by
 unfold checkP at h
 split at h
 ·cases h
 ·rename_i hg
  have hi : i < n := by omega
  have hall : path.all isDig = true := by
   cases hp : path.all isDig with
   | true => rfl
   | false => exact absurd (by simp [hp]) hg
  simp only [Int.toNat_natCast, Bool.and_eq_true, Bool.not_eq_true', beq_iff_eq] at h
  obtain ⟨h1, h2, h3⟩ := h
  obtain ⟨_, zs, ts, e2, e3⟩ := climb_of_up n n i (leafP s) path false (Nat.le_refl _) hi h2
  rw [List.isEmpty_iff.1 h3, List.nil_append] at e2
  subst e2
  rw [toL_iff.1 h1] at e3
  exact ⟨hi, hall, ts, e3⟩
theorem check_of_climb {root : ByteArray} {n i : Nat} {s : ByteArray} {path ts : List ByteArray} (hn : n ≤ 1000000) (hi : i < n) (hall : path.all isDig = true) (h : Climb n i (leafP s) path root ts) : checkP root n i s path = true := by
 unfold checkP
 rw [if_neg (by rw [hall]; simp; omega)]
 have := up_of_climb h n [] (Nat.le_refl _) (all_full hall)
 rw [List.nil_append] at this
 simp only [Int.toNat_natCast, this]
 simp
def sibs (l : List ByteArray) (i : Nat) : List ByteArray :=
  if _h : 2 ≤ l.length then
    if i < half l.length then rootP (l.drop (half l.length)) :: sibs (l.take (half l.length)) i
    else rootP (l.take (half l.length)) :: sibs (l.drop (half l.length)) (i - half l.length)
  else []
  termination_by l.length
  decreasing_by
    · exact take_lt _h
    · exact drop_lt _h
theorem sibs_left {l : List ByteArray} {i : Nat} (h : 2 ≤ l.length) (hi : i < half l.length) : sibs l i = rootP (l.drop (half l.length)) :: sibs (l.take (half l.length)) i := by rw [sibs, dif_pos h, if_pos hi]
theorem sibs_right {l : List ByteArray} {i : Nat} (h : 2 ≤ l.length) (hi : ¬ i < half l.length) : sibs l i = rootP (l.take (half l.length)) :: sibs (l.drop (half l.length)) (i - half l.length) := by rw [sibs, dif_pos h, if_neg hi]
theorem sibs_end {l : List ByteArray} {i : Nat} (h : ¬ 2 ≤ l.length) : sibs l i = [] := by rw [sibs, dif_neg h]
def pathP (l : List ByteArray) (i : Nat) : List ByteArray := (sibs l i).reverse
theorem path_climb : ∀ (n : Nat) (l : List ByteArray) (i : Nat), l.length = n → i < n → ∃ ts, Climb n i (leafP (l.getD i ByteArray.empty)) (pathP l i) (rootP l) ts := by
 intro n
 induction n using Nat.strongRecOn with
 | ind n ih =>
  intro l i hl hi; subst hl
  by_cases h2 : 2 ≤ l.length
  ·have hs := half_spec h2
   unfold pathP
   by_cases hc : i < half l.length
   ·rw [sibs_left h2 hc, root_two h2, List.reverse_cons]
    obtain ⟨ts, h⟩ := ih (half l.length) (by omega) (l.take (half l.length)) i (take_len h2) hc
    have hg : (l.take (half l.length)).getD i ByteArray.empty = l.getD i ByteArray.empty := by
     rw [List.getD_eq_getElem?_getD, List.getD_eq_getElem?_getD, List.getElem?_take, if_pos hc]
    rw [hg] at h
    exact ⟨_, Climb.left _ h2 hc h⟩
   ·rw [sibs_right h2 hc, root_two h2, List.reverse_cons]
    obtain ⟨ts, h⟩ := ih (l.length - half l.length) (by omega) (l.drop (half l.length)) (i - half l.length) (by rw [List.length_drop]) (by omega)
    have hg : (l.drop (half l.length)).getD (i - half l.length) ByteArray.empty = l.getD i ByteArray.empty := by
     rw [List.getD_eq_getElem?_getD, List.getD_eq_getElem?_getD, List.getElem?_drop, show half l.length + (i - half l.length) = i by omega]
    rw [hg] at h
    exact ⟨_, Climb.right _ h2 hc h⟩
  ·match l, h2, hi with
   | [], _, hi => exact absurd hi (by simp)
   | [x], h2, hi =>
    obtain rfl : i = 0 := by simp at hi; omega
    rw [root_one]
    unfold pathP
    rw [sibs_end h2]
    exact ⟨_, Climb.one _⟩
   | _ :: _ :: _, h2, _ => exact absurd (by simp) h2
theorem sibs_dig : ∀ (n : Nat) (l : List ByteArray) (i : Nat), l.length = n → (sibs l i).all isDig = true := by
 intro n
 induction n using Nat.strongRecOn with
 | ind n ih =>
  intro l i hl
  by_cases h2 : 2 ≤ l.length
  ·by_cases hc : i < half l.length
   ·rw [sibs_left h2 hc, List.all_cons, root_dig, Bool.true_and]
    exact ih _ (by have := take_lt h2; omega) _ _ rfl
   ·rw [sibs_right h2 hc, List.all_cons, root_dig, Bool.true_and]
    exact ih _ (by have := drop_lt h2; omega) _ _ rfl
  ·rw [sibs_end h2]; rfl
theorem path_dig (l : List ByteArray) (i : Nat) : (pathP l i).all isDig = true := by unfold pathP; rw [List.all_reverse]; exact sibs_dig _ l i rfl
inductive Both : Nat → Nat → Bool → ByteArray → List ByteArray → ByteArray → ByteArray → List ByteArray → Prop
  | whole (n : Nat) (old : ByteArray) : Both n n true old [] old old []
  | part (n : Nat) (old d : ByteArray) : Both n n false old [d] d d []
  | left {n m : Nat} {wh : Bool} {old a b : ByteArray} {xs ts : List ByteArray} (p : ByteArray) (hm : 1 ≤ m) (hmn : m < n) (hc : m ≤ half n) (h : Both (half n) m wh old xs a b ts) : Both n m wh old (xs ++ [p]) a (nodeP b p) (ts ++ [joined (nodeL b p)])
  | right {n m : Nat} {wh : Bool} {old a b : ByteArray} {xs ts : List ByteArray} (p : ByteArray) (hm : 1 ≤ m) (hmn : m < n) (hc : ¬ m ≤ half n) (h : Both (n - half n) (m - half n) false old xs a b ts) : Both n m wh old (xs ++ [p]) (nodeP p a) (nodeP p b) (ts ++ [joined (nodeL p a)] ++ [joined (nodeL p b)])
def links (l : List ByteArray) (m : Nat) (wh : Bool) : List ByteArray :=
  if _h : 1 ≤ m ∧ m < l.length then
    if m ≤ half l.length then rootP (l.drop (half l.length)) :: links (l.take (half l.length)) m wh
    else rootP (l.take (half l.length)) :: links (l.drop (half l.length)) (m - half l.length) false
  else if wh then [] else [rootP l]
  termination_by l.length
  decreasing_by
    · exact take_lt (by omega)
    · exact drop_lt (by omega)
end Go.Proofs.YtdlipbfcadmhjaaDoor.Pl
