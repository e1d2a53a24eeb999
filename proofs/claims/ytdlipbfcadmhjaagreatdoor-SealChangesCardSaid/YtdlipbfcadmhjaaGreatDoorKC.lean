/- seal, plain: what binds, or a collision among what is digested. -/
import Derived.Test.YtdlipbfcadmhjaaGreatDoorKM
namespace Go.Proofs.YtdlipbfcadmhjaaGreatDoor.Pl
set_option linter.unusedVariables false
set_option linter.unusedSimpArgs false
theorem mem_chained (t : ByteArray) {j n : Nat} (h : j ≤ n) : chn j t ∈ chainedP t n := by
 unfold chainedP
 exact List.mem_map.2 ⟨j, List.mem_range.2 (by omega), rfl⟩
theorem chain_bind : ∀ (n : Nat) (a b : ByteArray), chn n a = chn n b → a = b ∨ Coll (chainedP a n ++ chainedP b n) := by
 intro n
 induction n with
 | zero => intro a b h; exact .inl h
 | succ n ih =>
  intro a b h
  rw [chn_succ, chn_succ] at h
  rcases Coll.of (L := chainedP a (n + 1) ++ chainedP b (n + 1)) (List.mem_append_left _ (mem_chained a (by omega))) (List.mem_append_right _ (mem_chained b (by omega))) h with e | e
  ·rcases ih a b e with e | e
   ·exact .inl e
   ·refine .inr (e.mono fun x hx => ?_)
    simp only [chainedP, List.mem_append, List.mem_map, List.mem_range] at hx ⊢
    rcases hx with ⟨j, hj, rfl⟩ | ⟨j, hj, rfl⟩
    ·exact .inl ⟨j, by omega, rfl⟩
    ·exact .inr ⟨j, by omega, rfl⟩
  ·exact .inr e
theorem made_key (s : ByteArray) {h n i : Nat} (hi : i < 2 ^ h) {x : ByteArray} (hx : x ∈ keyTexts s n i) : x ∈ madeP s h n := by
 unfold madeP
 exact List.mem_append_left _ (List.mem_flatten.2 ⟨_, List.mem_map.2 ⟨i, List.mem_range.2 hi, rfl⟩, hx⟩)
theorem made_chain (s : ByteArray) {h n i k : Nat} (hi : i < 2 ^ h) (hk : k < 18) {x : ByteArray} (hx : x ∈ chainT s n i k) : x ∈ madeP s h n := by
 refine made_key s hi ?_
 unfold keyTexts
 exact List.mem_append_left _ (List.mem_flatten.2 ⟨_, List.mem_map.2 ⟨k, List.mem_range.2 hk, rfl⟩, hx⟩)
theorem made_start (s : ByteArray) {h n i k : Nat} (hi : i < 2 ^ h) (hk : k < 18) : startL s i k ∈ madeP s h n := made_chain s hi hk (by unfold chainT; exact List.mem_cons_self)
theorem made_link (s : ByteArray) {h n i k : Nat} (hi : i < 2 ^ h) (hk : k < 18) {x : ByteArray} (hx : x ∈ chainedP (startP s i k) n) : x ∈ madeP s h n := made_chain s hi hk (by unfold chainT; exact List.mem_cons_of_mem _ hx)
theorem made_ends (s : ByteArray) {h n i : Nat} (hi : i < 2 ^ h) : joined (keyEnds s i) ∈ madeP s h n := made_key s hi (by unfold keyTexts; exact List.mem_append_right _ (by simp))
theorem made_leaf (s : ByteArray) {h n i : Nat} (hi : i < 2 ^ h) : joined (leafL (keyP s i)) ∈ madeP s h n := made_key s hi (by unfold keyTexts; exact List.mem_append_right _ (by simp))
theorem made_up (s : ByteArray) {h n : Nat} {x : ByteArray} (hx : x ∈ upT h ((List.range (2 ^ h)).map fun i => leafP (keyP s i))) : x ∈ madeP s h n := by
 unfold madeP
 exact List.mem_append_right _ hx
theorem roots_pair (a b : ByteArray) : rootP [a, b] = nodeP (leafP a) (leafP b) := by
 rw [root_two (l := [a, b]) (by simp), show half ([a, b] : List ByteArray).length = 1 from rfl]
 show nodeP (rootP [a]) (rootP [b]) = _
 rw [root_one, root_one]
theorem texts_pair (a b : ByteArray) : textsP [a, b] = [joined (leafL a), joined (leafL b), joined (nodeL (leafP a) (leafP b))] := by
 rw [texts_two (l := [a, b]) (by simp), show half ([a, b] : List ByteArray).length = 1 from rfl]
 show textsP [a] ++ textsP [b] ++ [joined (nodeL (rootP [a]) (rootP [b]))] = _
 rw [texts_one, texts_one, root_one, root_one]
 rfl
theorem texts_four (a b c d : ByteArray) : textsP [a, b, c, d] = textsP [a, b] ++ textsP [c, d] ++ [joined (nodeL (rootP [a, b]) (rootP [c, d]))] := by
 rw [texts_two (l := [a, b, c, d]) (by simp), show half ([a, b, c, d] : List ByteArray).length = 2 from rfl]
 rfl
theorem made_texts (s : ByteArray) {h n : Nat} (hh : h ≤ 2) {x : ByteArray} (hx : x ∈ textsP (keysP s h)) : x ∈ madeP s h n := by
 match h, hh, hx with
 | 0, _, hx =>
  rw [show keysP s 0 = [keyP s 0] from rfl, texts_one, List.mem_singleton] at hx
  rw [hx]
  exact made_leaf s (by omega)
 | 1, _, hx =>
  rw [show keysP s 1 = [keyP s 0, keyP s 1] from rfl, texts_pair] at hx
  simp only [List.mem_cons, List.not_mem_nil, or_false] at hx
  rcases hx with rfl | rfl | rfl
  ·exact made_leaf s (by omega)
  ·exact made_leaf s (by omega)
  ·refine made_up s ?_
   rw [show ((List.range (2 ^ 1)).map fun i => leafP (keyP s i)) = [leafP (keyP s 0), leafP (keyP s 1)] from rfl]
   simp [upT, texts2]
 | 2, _, hx =>
  rw [show keysP s 2 = [keyP s 0, keyP s 1, keyP s 2, keyP s 3] from rfl, texts_four, texts_pair, texts_pair, roots_pair, roots_pair] at hx
  simp only [List.mem_append, List.mem_cons, List.not_mem_nil, or_false] at hx
  have hu : ∀ {x : ByteArray}, x ∈ upT 2 [leafP (keyP s 0), leafP (keyP s 1), leafP (keyP s 2), leafP (keyP s 3)] → x ∈ madeP s 2 n := fun hx => made_up s (by rw [show ((List.range (2 ^ 2)).map fun i => leafP (keyP s i)) = [leafP (keyP s 0), leafP (keyP s 1), leafP (keyP s 2), leafP (keyP s 3)] from rfl]; exact hx)
  rcases hx with ((rfl | rfl | rfl) | (rfl | rfl | rfl)) | rfl
  ·exact made_leaf s (by omega)
  ·exact made_leaf s (by omega)
  ·exact hu (by simp [upT, texts2, up2])
  ·exact made_leaf s (by omega)
  ·exact made_leaf s (by omega)
  ·exact hu (by simp [upT, texts2, up2])
  ·exact hu (by simp [upT, texts2, up2])
theorem texts2_size : ∀ (n : Nat) (l : List ByteArray), l.length ≤ n → (∀ y ∈ l, y.size ≤ 16) → (texts2 l).length ≤ l.length ∧ ∀ x ∈ texts2 l, x.size ≤ 140737488355328 := by
 intro n
 induction n with
 | zero => intro l hl _; obtain rfl := List.length_eq_zero_iff.1 (Nat.le_zero.1 hl); simp [texts2]
 | succ n ih =>
  intro l hl hs
  match l, hl, hs with
  | a :: b :: r, hl, hs =>
   obtain ⟨h1, h2⟩ := ih r (by simp at hl; omega) (fun y hy => hs y (by simp [hy]))
   refine ⟨by simp [texts2]; omega, fun x hx => ?_⟩
   simp only [texts2, List.mem_cons] at hx
   rcases hx with rfl | hx
   ·exact nodeL_cap a b (hs a (by simp)) (hs b (by simp))
   ·exact h2 x hx
  | [y], _, _ => simp [texts2]
  | [], _, _ => simp [texts2]
theorem up2_le : ∀ (n : Nat) (l : List ByteArray), l.length ≤ n → (up2 l).length ≤ l.length := by
 intro n
 induction n with
 | zero => intro l hl; obtain rfl := List.length_eq_zero_iff.1 (Nat.le_zero.1 hl); simp [up2]
 | succ n ih =>
  intro l hl
  match l, hl with
  | a :: b :: r, hl => have := ih r (by simp at hl; omega); simp [up2]; omega
  | [y], _ => simp [up2]
  | [], _ => simp [up2]
theorem upT_size : ∀ (c : Nat) (l : List ByteArray), (∀ y ∈ l, y.size ≤ 16) → (upT c l).length ≤ c * l.length ∧ ∀ x ∈ upT c l, x.size ≤ 140737488355328 := by
 intro c
 induction c with
 | zero => intro l _; simp [upT]
 | succ c ih =>
  intro l hs
  obtain ⟨h1, h2⟩ := texts2_size _ l (Nat.le_refl _) hs
  obtain ⟨h3, h4⟩ := ih (up2 l) (up2_small _ l (Nat.le_refl _))
  have h5 := up2_le _ l (Nat.le_refl _)
  have h6 : c * (up2 l).length ≤ c * l.length := Nat.mul_le_mul_left _ h5
  refine ⟨by rw [upT, List.length_append, Nat.succ_mul]; omega, fun x hx => ?_⟩
  rw [upT, List.mem_append] at hx
  rcases hx with hx | hx
  ·exact h2 x hx
  ·exact h4 x hx
theorem made_small (s : ByteArray) (hs : s.size ≤ 1000) {h n : Nat} (hh : h ≤ 8) (hn : n ≤ 30) : (madeP s h n).length ≤ 400000 ∧ ∀ x ∈ madeP s h n, x.size ≤ 140737488355328 := by
 have hb := pow8 hh
 have hl16 : ∀ y ∈ ((List.range (2 ^ h)).map fun i => leafP (keyP s i)), y.size ≤ 16 := by
  intro x hx
  simp only [List.mem_map] at hx
  obtain ⟨i, _, rfl⟩ := hx
  show (sum _).size ≤ 16
  rw [sum_size]; omega
 obtain ⟨h1, h2⟩ := upT_size h _ hl16
 rw [List.length_map, List.length_range] at h1
 have h3 : ((List.range (2 ^ h)).map (keyTexts s n)).flatten.length ≤ 2 ^ h * 600 := by
  have : ∀ l : List Nat, ((l.map (keyTexts s n)).flatten).length ≤ l.length * 600 := by
   intro l
   induction l with
   | nil => simp
   | cons a l ih => have := keyTexts_len s n a hn; simp only [List.map_cons, List.flatten_cons, List.length_append, List.length_cons]; omega
  have := this (List.range (2 ^ h))
  rwa [List.length_range] at this
 have h4 : h * 2 ^ h ≤ 8 * 256 := Nat.mul_le_mul hh hb
 refine ⟨by unfold madeP; rw [List.length_append]; omega, fun x hx => ?_⟩
 unfold madeP at hx
 rw [List.mem_append] at hx
 rcases hx with hx | hx
 ·obtain ⟨l, hl, hx⟩ := List.mem_flatten.1 hx
  obtain ⟨i, hi, rfl⟩ := List.mem_map.1 hl
  have hi := List.mem_range.1 hi
  unfold keyTexts at hx
  rw [List.mem_append] at hx
  rcases hx with hx | hx
  ·obtain ⟨l, hl, hx⟩ := List.mem_flatten.1 hx
   obtain ⟨k, hk, rfl⟩ := List.mem_map.1 hl
   have hk := List.mem_range.1 hk
   unfold chainT at hx
   rcases List.mem_cons.1 hx with rfl | hx
   ·exact (few_caps (few_start s i k hs (by omega) (by omega)) (by omega)).2.2
   ·unfold chainedP at hx
    obtain ⟨j, _, rfl⟩ := List.mem_map.1 hx
    have := chn_size_le j (startP s i k) (by rw [startP_size]; omega)
    omega
  ·simp only [List.mem_cons, List.not_mem_nil, or_false] at hx
   rcases hx with rfl | rfl
   ·exact (few_caps (few_key s i) (by omega)).2.2
   ·exact (few_caps (few_leaf (keyP s i) (by rw [keyP_size]; omega)) (by omega)).2.2
 ·exact h2 x hx
theorem start_inj {s o : ByteArray} {i j k m : Nat} (h : startL s i k = startL o j m) : s = o ∧ itB i = itB j ∧ itB k = itB m := by
 have := joined_iff.1 h
 simpa using this
end Go.Proofs.YtdlipbfcadmhjaaGreatDoor.Pl
