/- seal, plain: a seal that is accepted is the one of its index, or a collision; other messages, other elements. -/
import Derived.Test.YtdlipbfcadmhjaaGreatDoorKC
namespace Go.Proofs.YtdlipbfcadmhjaaGreatDoor.Pl
set_option linter.unusedVariables false
set_option linter.unusedSimpArgs false
open Go.Lib
def stepText (i : Nat) (d p : ByteArray) : ByteArray := if i % 2 = 1 then joined (nodeL p d) else joined (nodeL d p)
def foldF : Nat → ByteArray → List ByteArray → ByteArray
  | _, d, [] => d
  | i, d, p :: r => foldF (i / 2) (sum (stepText i d p)) r
def foldT : Nat → ByteArray → List ByteArray → List ByteArray
  | _, _, [] => []
  | i, d, p :: r => stepText i d p :: foldT (i / 2) (sum (stepText i d p)) r
theorem foldF_snoc : ∀ (xs : List ByteArray) (i : Nat) (d p : ByteArray), foldF i d (xs ++ [p]) = sum (stepText (i / 2 ^ xs.length) (foldF i d xs) p)
  | [], i, d, p => by simp [foldF]
  | x :: xs, i, d, p => by
    rw [List.cons_append, foldF, foldF_snoc xs, foldF, List.length_cons, Nat.pow_succ, Nat.mul_comm (2 ^ _) 2, Nat.div_div_eq_div_mul]
theorem foldT_snoc : ∀ (xs : List ByteArray) (i : Nat) (d p : ByteArray), foldT i d (xs ++ [p]) = foldT i d xs ++ [stepText (i / 2 ^ xs.length) (foldF i d xs) p]
  | [], i, d, p => by simp [foldT, foldF]
  | x :: xs, i, d, p => by
    rw [List.cons_append, foldT, foldT_snoc xs, foldT, foldF, List.length_cons, Nat.pow_succ, Nat.mul_comm (2 ^ _) 2, Nat.div_div_eq_div_mul]
    rfl
theorem step_add (c i : Nat) (d p : ByteArray) : stepText (2 ^ (c + 1) + i) d p = stepText i d p := by
 unfold stepText
 rw [show (2 ^ (c + 1) + i) % 2 = i % 2 by rw [Nat.pow_succ]; omega]
theorem fold_add : ∀ (xs : List ByteArray) (c i : Nat) (d : ByteArray), xs.length ≤ c → foldF (2 ^ c + i) d xs = foldF i d xs ∧ foldT (2 ^ c + i) d xs = foldT i d xs
  | [], _, _, _, _ => ⟨rfl, rfl⟩
  | x :: xs, 0, _, _, h => by simp at h
  | x :: xs, c + 1, i, d, h => by
    have e : (2 ^ (c + 1) + i) / 2 = 2 ^ c + i / 2 := by rw [Nat.pow_succ]; omega
    have := fold_add xs c (i / 2) (sum (stepText i d x)) (by simpa using h)
    rw [foldF, foldF, foldT, foldT, step_add, e, this.1, this.2]
    exact ⟨rfl, rfl⟩
theorem climb_fold {n i : Nat} {d r : ByteArray} {xs ts : List ByteArray} (h : Climb n i d xs r ts) : ∀ c, n = 2 ^ c → i < n → xs.length = c ∧ r = foldF i d xs ∧ ts = foldT i d xs := by
 induction h with
 | one d =>
  intro c hc _
  cases c with
  | zero => exact ⟨rfl, rfl, rfl⟩
  | succ c => have : 1 ≤ 2 ^ c := Nat.one_le_two_pow; rw [Nat.pow_succ] at hc; omega
 | @left n i _ _ xs _ p hn hi h ih =>
  intro c hc hin
  cases c with
  | zero => simp at hc; omega
  | succ c =>
   have e : half n = 2 ^ c := half_of (by rw [hc, Nat.pow_succ]; have : 1 ≤ 2 ^ c := Nat.one_le_two_pow; omega) (by rw [hc, Nat.pow_succ]; omega)
   obtain ⟨h1, h2, h3⟩ := ih c e hi
   have e0 : i / 2 ^ xs.length = 0 := by rw [h1]; exact Nat.div_eq_of_lt (by omega)
   refine ⟨by simp [h1], ?_, ?_⟩
   ·rw [foldF_snoc, e0, ← h2]; rfl
   ·rw [foldT_snoc, e0, ← h2, ← h3]; rfl
 | @right n i _ _ xs _ p hn hi h ih =>
  intro c hc hin
  cases c with
  | zero => simp at hc; omega
  | succ c =>
   have e : half n = 2 ^ c := half_of (by rw [hc, Nat.pow_succ]; have : 1 ≤ 2 ^ c := Nat.one_le_two_pow; omega) (by rw [hc, Nat.pow_succ]; omega)
   have hn2 : n = 2 ^ c + 2 ^ c := by rw [hc, Nat.pow_succ]; omega
   obtain ⟨h1, h2, h3⟩ := ih c (by omega) (by omega)
   have ei : i = 2 ^ c + (i - half n) := by omega
   have e1 : i / 2 ^ xs.length = 1 := by
    rw [h1]
    have hp : 0 < 2 ^ c := Nat.one_le_two_pow
    exact (Nat.div_eq_iff hp).2 (by omega)
   obtain ⟨f1, f2⟩ := fold_add xs c (i - half n) _ (by omega)
   rw [← ei] at f1 f2
   refine ⟨by simp [h1], ?_, ?_⟩
   ·rw [foldF_snoc, e1, f1, ← h2]; rfl
   ·rw [foldT_snoc, e1, f1, f2, ← h2, ← h3]; rfl
theorem leaf_node {a b c : ByteArray} (h : joined (leafL a) = joined (nodeL b c)) : False := by
 have := joined_iff.1 h
 simp [leafL, nodeL] at this
theorem path_two {l : List ByteArray} {i : Nat} (h : 2 ≤ l.length) (hi : i < half l.length) : pathP l i = pathP (l.take (half l.length)) i ++ [rootP (l.drop (half l.length))] := by
 unfold pathP
 rw [sibs_left h hi, List.reverse_cons]
theorem path_two' {l : List ByteArray} {i : Nat} (h : 2 ≤ l.length) (hi : ¬ i < half l.length) : pathP l i = pathP (l.drop (half l.length)) (i - half l.length) ++ [rootP (l.take (half l.length))] := by
 unfold pathP
 rw [sibs_right h hi, List.reverse_cons]
theorem climb_tree {n i : Nat} {d r : ByteArray} {xs ts : List ByteArray} (h : Climb n i d xs r ts) : ∀ (c t : Nat) (l : List ByteArray) (s : ByteArray), n = 2 ^ c → l.length = 2 ^ t → d = leafP s → r = rootP l →
    (c = t ∧ l[i]? = some s ∧ xs = pathP l i) ∨ Coll (textsP l ++ joined (leafL s) :: ts) := by
 induction h with
 | one d =>
  intro c t l s hc hl hd hr
  have hc0 : c = 0 := by
   cases c with
   | zero => rfl
   | succ c => have : 1 ≤ 2 ^ c := Nat.one_le_two_pow; rw [Nat.pow_succ] at hc; omega
  subst hc0
  by_cases h2 : 2 ≤ l.length
  ·rw [hd, root_two h2] at hr
   rcases Coll.of (L := textsP l ++ joined (leafL s) :: []) (a := joined (leafL s)) (b := joined (nodeL _ _)) (by simp) (List.mem_append_left _ (texts_own h2)) hr with e | e
   ·exact (leaf_node e).elim
   ·exact .inr e
  ·have h1 : l.length = 1 := by have : 1 ≤ 2 ^ t := Nat.one_le_two_pow; omega
   have ht : t = 0 := by
    cases t with
    | zero => rfl
    | succ t => have : 1 ≤ 2 ^ t := Nat.one_le_two_pow; rw [Nat.pow_succ] at hl; omega
   subst ht
   match l, h1 with
   | [x], _ =>
    rw [hd, root_one] at hr
    rcases Coll.of (L := textsP [x] ++ joined (leafL s) :: []) (a := joined (leafL s)) (b := joined (leafL x)) (by simp) (by rw [texts_one]; simp) hr with e | e
    ·refine .inl ⟨rfl, ?_, ?_⟩
     ·rw [leaf_inj e]; rfl
     ·unfold pathP; rw [sibs_end (by simp)]; rfl
    ·exact .inr e
 | @left n i d r xs ts p hn hi h ih =>
  intro c t l s hc hl hd hr
  by_cases h2 : 2 ≤ l.length
  ·have hs := half_spec h2
   rw [root_two h2] at hr
   rcases Coll.of (L := textsP l ++ joined (leafL s) :: (ts ++ [joined (nodeL r p)])) (a := joined (nodeL r p)) (b := joined (nodeL _ _)) (by simp) (List.mem_append_left _ (texts_own h2)) hr with e | e
   ·obtain ⟨e1, e2⟩ := node_inj e
    cases c with
    | zero => simp at hc; omega
    | succ c =>
     cases t with
     | zero => simp at hl; omega
     | succ t =>
      have p1 : 1 ≤ 2 ^ c := Nat.one_le_two_pow
      have p2 : 1 ≤ 2 ^ t := Nat.one_le_two_pow
      have ec : half n = 2 ^ c := half_of (by rw [hc, Nat.pow_succ]; omega) (by rw [hc, Nat.pow_succ]; omega)
      have et : half l.length = 2 ^ t := half_of (by rw [hl, Nat.pow_succ]; omega) (by rw [hl, Nat.pow_succ]; omega)
      rcases ih c t (l.take (half l.length)) s ec (by rw [take_len h2, et]) hd e1 with ⟨f0, f1, f2⟩ | f
      ·subst f0
       have hil : i < half l.length := by omega
       refine .inl ⟨rfl, ?_, ?_⟩
       ·rw [List.getElem?_take, if_pos hil] at f1
        exact f1
       ·rw [path_two h2 hil, ← f2, e2]
      ·right
       refine f.mono fun x hx => ?_
       rcases List.mem_append.1 hx with hx | hx
       ·exact List.mem_append_left _ (texts_take h2 hx)
       ·simp only [List.mem_append, List.mem_cons] at hx ⊢
        rcases hx with hx | hx <;> simp [hx]
   ·exact .inr e
  ·have h1 : l.length = 1 := by have : 1 ≤ 2 ^ t := Nat.one_le_two_pow; omega
   match l, h1 with
   | [x], _ =>
    rw [root_one] at hr
    rcases Coll.of (L := textsP [x] ++ joined (leafL s) :: (ts ++ [joined (nodeL r p)])) (a := joined (nodeL r p)) (b := joined (leafL x)) (by simp) (by rw [texts_one]; simp) hr with e | e
    ·exact (leaf_node e.symm).elim
    ·exact .inr e
 | @right n i d r xs ts p hn hi h ih =>
  intro c t l s hc hl hd hr
  by_cases h2 : 2 ≤ l.length
  ·have hs := half_spec h2
   rw [root_two h2] at hr
   rcases Coll.of (L := textsP l ++ joined (leafL s) :: (ts ++ [joined (nodeL p r)])) (a := joined (nodeL p r)) (b := joined (nodeL _ _)) (by simp) (List.mem_append_left _ (texts_own h2)) hr with e | e
   ·obtain ⟨e2, e1⟩ := node_inj e
    cases c with
    | zero => simp at hc; omega
    | succ c =>
     cases t with
     | zero => simp at hl; omega
     | succ t =>
      have p1 : 1 ≤ 2 ^ c := Nat.one_le_two_pow
      have p2 : 1 ≤ 2 ^ t := Nat.one_le_two_pow
      have ec : half n = 2 ^ c := half_of (by rw [hc, Nat.pow_succ]; omega) (by rw [hc, Nat.pow_succ]; omega)
      have et : half l.length = 2 ^ t := half_of (by rw [hl, Nat.pow_succ]; omega) (by rw [hl, Nat.pow_succ]; omega)
      have hc2 : n = 2 ^ c + 2 ^ c := by rw [hc, Nat.pow_succ]; omega
      have hl2 : l.length = 2 ^ t + 2 ^ t := by rw [hl, Nat.pow_succ]; omega
      rcases ih c t (l.drop (half l.length)) s (by omega) (by rw [List.length_drop]; omega) hd e1 with ⟨f0, f1, f2⟩ | f
      ·subst f0
       have hil : ¬ i < half l.length := by omega
       have ehl : half n = half l.length := by omega
       refine .inl ⟨rfl, ?_, ?_⟩
       ·rw [List.getElem?_drop, show half l.length + (i - half n) = i by omega] at f1
        exact f1
       ·rw [path_two' h2 hil, e2, f2, ehl]
      ·right
       refine f.mono fun x hx => ?_
       rcases List.mem_append.1 hx with hx | hx
       ·exact List.mem_append_left _ (texts_drop h2 hx)
       ·simp only [List.mem_append, List.mem_cons] at hx ⊢
        rcases hx with hx | hx <;> simp [hx]
   ·exact .inr e
  ·have h1 : l.length = 1 := by have : 1 ≤ 2 ^ t := Nat.one_le_two_pow; omega
   match l, h1 with
   | [x], _ =>
    rw [root_one] at hr
    rcases Coll.of (L := textsP [x] ++ joined (leafL s) :: (ts ++ [joined (nodeL p r)])) (a := joined (nodeL p r)) (b := joined (leafL x)) (by simp) (by rw [texts_one]; simp) hr with e | e
    ·exact (leaf_node e.symm).elim
    ·exact .inr e
def checkedT (m : ByteArray) (sig : List ByteArray) (k : Fin 18) : List ByteArray := chainedP (sig.getD k.val ByteArray.empty) (15 - dg m k.val)
def sealKey (m : ByteArray) (sig : List ByteArray) : ByteArray := sum (joined (endsP m sig))
def checkedP (m : ByteArray) (i : Nat) (sig path : List ByteArray) : List ByteArray :=
  (K18.map (checkedT m sig)).flatten ++ [joined (endsP m sig), joined (leafL (sealKey m sig))] ++ foldT i (leafP (sealKey m sig)) path
theorem checked_chain (m : ByteArray) (i : Nat) (sig path : List ByteArray) (k : Fin 18) {x : ByteArray} (hx : x ∈ chainedP (sig.getD k.val ByteArray.empty) (15 - dg m k.val)) : x ∈ checkedP m i sig path := by
 unfold checkedP
 refine List.mem_append_left _ (List.mem_append_left _ (List.mem_flatten.2 ⟨_, List.mem_map.2 ⟨k, ?_, rfl⟩, hx⟩))
 unfold K18
 exact List.mem_finRange k
theorem checked_ends (m : ByteArray) (i : Nat) (sig path : List ByteArray) : joined (endsP m sig) ∈ checkedP m i sig path := by
 unfold checkedP
 exact List.mem_append_left _ (List.mem_append_right _ (by simp))
theorem checked_leaf (m : ByteArray) (i : Nat) (sig path : List ByteArray) : joined (leafL (sealKey m sig)) ∈ checkedP m i sig path := by
 unfold checkedP
 exact List.mem_append_left _ (List.mem_append_right _ (by simp))
theorem checked_fold (m : ByteArray) (i : Nat) (sig path : List ByteArray) {x : ByteArray} (hx : x ∈ foldT i (leafP (sealKey m sig)) path) : x ∈ checkedP m i sig path := by
 unfold checkedP
 exact List.mem_append_right _ hx
theorem chained_le (t : ByteArray) {a b : Nat} (h : a ≤ b) {x : ByteArray} (hx : x ∈ chainedP t a) : x ∈ chainedP t b := by
 simp only [chainedP, List.mem_map, List.mem_range] at hx ⊢
 obtain ⟨j, hj, rfl⟩ := hx
 exact ⟨j, by omega, rfl⟩
theorem chained_at (t : ByteArray) {a b c : Nat} (h : a + b ≤ c) {x : ByteArray} (hx : x ∈ chainedP (chn a t) b) : x ∈ chainedP t c := by
 simp only [chainedP, List.mem_map, List.mem_range] at hx ⊢
 obtain ⟨j, hj, rfl⟩ := hx
 exact ⟨a + j, by omega, (chn_add a j t).symm⟩
theorem verify_key {s m : ByteArray} {h n : Nat} {i : Int} {sig path : List ByteArray} (hh : h ≤ 2) (hv : verifyP (publicP s h) m i sig path = true) :
    (sig.length = 18 ∧ path.length ≤ 8) ∧ ∃ j : Nat, i = (j : Int) ∧ ((j < 2 ^ h ∧ path = pathP (keysP s h) j ∧ keyP s j = sealKey m sig) ∨ Coll (madeP s h n ++ checkedP m j sig path)) := by
 unfold verifyP at hv
 rw [Bool.and_eq_true] at hv
 obtain ⟨hok, hc⟩ := hv
 obtain ⟨h18, hn8, hs, hp, hi0, hi⟩ := (sealOk_iff _ _ _).1 hok
 obtain ⟨j, rfl⟩ : ∃ j : Nat, i = (j : Int) := ⟨i.toNat, by omega⟩
 refine ⟨⟨h18, hn8⟩, j, rfl, ?_⟩
 obtain ⟨hj, _, ts, hcl⟩ := checkP_climb hc
 obtain ⟨_, _, ets⟩ := climb_fold hcl _ rfl hj
 rcases climb_tree hcl path.length h (keysP s h) (sealKey m sig) rfl (keysP_len s h) rfl rfl with ⟨e1, e2, e3⟩ | e
 ·left
  have hjh : j < 2 ^ h := by
   have := (List.getElem?_eq_some_iff.1 e2).1
   rwa [keysP_len] at this
  refine ⟨hjh, e3, ?_⟩
  have := keys_get s hjh
  rw [List.getD_eq_getElem?_getD, e2] at this
  exact this.symm
 ·right
  refine e.mono fun x hx => ?_
  simp only [List.mem_append, List.mem_cons] at hx
  rcases hx with hx | rfl | hx
  ·exact List.mem_append_left _ (made_texts s hh hx)
  ·exact List.mem_append_right _ (checked_leaf m j sig path)
  ·rw [ets] at hx
   exact List.mem_append_right _ (checked_fold m j sig path hx)
theorem ends_get (m : ByteArray) (sig : List ByteArray) (k : Fin 18) : (endsP m sig).getD k.val ByteArray.empty = chn (15 - dg m k.val) (sig.getD k.val ByteArray.empty) := map18_get k
theorem key_get (s : ByteArray) (i : Nat) (k : Fin 18) : (keyEnds s i).getD k.val ByteArray.empty = chn 15 (startP s i k.val) := by
 unfold keyEnds
 rw [range18]
 exact map18_get k
theorem verify_ends {s m : ByteArray} {h n : Nat} {i : Int} {sig path : List ByteArray} (hh : h ≤ 2) (hv : verifyP (publicP s h) m i sig path = true) :
    (sig.length = 18 ∧ path.length ≤ 8) ∧ ∃ j : Nat, i = (j : Int) ∧ ((j < 2 ^ h ∧ path = pathP (keysP s h) j ∧ ∀ k : Fin 18, chn 15 (startP s j k.val) = chn (15 - dg m k.val) (sig.getD k.val ByteArray.empty)) ∨ Coll (madeP s h n ++ checkedP m j sig path)) := by
 obtain ⟨hl, j, rfl, e⟩ := verify_key (n := n) hh hv
 refine ⟨hl, j, rfl, ?_⟩
 rcases e with ⟨hj, hp, hk⟩ | e
 ·rcases Coll.of (L := madeP s h n ++ checkedP m j sig path) (List.mem_append_left _ (made_ends s hj)) (List.mem_append_right _ (checked_ends m j sig path)) hk with f | f
  ·refine .inl ⟨hj, hp, fun k => ?_⟩
   have f := joined_iff.1 f
   rw [← ends_get, ← key_get, f]
  ·exact .inr f
 ·exact .inr e
theorem sig_ext {sig tau : List ByteArray} (h1 : sig.length = 18) (h2 : tau.length = 18) (h : ∀ k : Fin 18, sig.getD k.val ByteArray.empty = tau.getD k.val ByteArray.empty) : sig = tau := by
 refine List.ext_getElem (by omega) fun p hp hq => ?_
 have := h ⟨p, by omega⟩
 rw [List.getD_eq_getElem?_getD, List.getElem?_eq_getElem hp, List.getD_eq_getElem?_getD, List.getElem?_eq_getElem hq] at this
 exact this
theorem sound_coll {s m : ByteArray} {h n : Nat} {i : Int} {sig path : List ByteArray} (hn : 15 ≤ n) (hh : h ≤ 2) (hv : verifyP (publicP s h) m i sig path = true) :
    (sig.length = 18 ∧ path.length ≤ 8) ∧ ∃ j : Nat, i = (j : Int) ∧ ((j < 2 ^ h ∧ path = pathP (keysP s h) j ∧ sig = sigP s j m) ∨ Coll (madeP s h n ++ checkedP m j sig path)) := by
 obtain ⟨hl, j, rfl, e⟩ := verify_ends (n := n) hh hv
 refine ⟨hl, j, rfl, ?_⟩
 rcases e with ⟨hj, hp, hk⟩ | e
 ·by_cases hC : Coll (madeP s h n ++ checkedP m j sig path)
  ·exact .inr hC
  ·refine .inl ⟨hj, hp, sig_ext hl.1 (sig_len s j m) fun k => ?_⟩
   rw [sig_get]
   have hk := hk k
   have hd := dg_lt m k.val
   rw [show 15 = dg m k.val + (15 - dg m k.val) by omega, ← chn_add, show dg m k.val + (15 - dg m k.val) - dg m k.val = 15 - dg m k.val by omega] at hk
   rcases chain_bind _ _ _ hk with f | f
   ·exact f.symm
   ·refine (hC (f.mono fun x hx => ?_)).elim
    rcases List.mem_append.1 hx with hx | hx
    ·exact List.mem_append_left _ (made_link s hj k.isLt (chained_at _ (by omega) hx))
    ·exact List.mem_append_right _ (checked_chain m j sig path k hx)
 ·exact .inr e
theorem dg_ext {m o : ByteArray} (h : ∀ k : Fin 18, dg m k.val = dg o k.val) : sum m = sum o := by
 apply data_inj
 refine List.ext_getElem (by rw [dataLen, dataLen, sum_size, sum_size]) fun p hp hq => ?_
 have hp16 : p < 16 := by rw [dataLen, sum_size] at hp; exact hp
 have h1 := sum_get m p hp16
 have h2 := sum_get o p hp16
 have hk := h ⟨p, by omega⟩
 simp only [dg_dig m hp16, dg_dig o hp16] at hk
 rw [List.getD_eq_getElem?_getD, List.getElem?_eq_getElem hp] at h1
 rw [List.getD_eq_getElem?_getD, List.getElem?_eq_getElem hq] at h2
 simp only [Option.getD_some] at h1 h2
 rw [h1, h2, hk]
theorem joined_58 (x : ByteArray) (l : List ByteArray) : isDig (joined (x :: l)) = false := by
 rw [Bool.eq_false_iff]
 intro h
 unfold isDig at h
 rw [Bool.and_eq_true] at h
 have := h.2
 rw [joined_data, List.all_eq_true] at this
 have := this 58 (by simp [joinedL])
 exact absurd this (by decide)
theorem cycle_coll (s : ByteArray) {h n i k : Nat} (hi : i < 2 ^ h) (hk : k < 18) {a b : Nat} (hab : a < b) (hbn : b ≤ n) (e : chn a (startP s i k) = chn b (startP s i k)) : Coll (madeP s h n) := by
 rw [show b = (b - a) + a by omega, ← chn_add] at e
 rcases chain_bind a _ _ e with f | f
 ·obtain ⟨c, hc⟩ : ∃ c, b - a = c + 1 := ⟨b - a - 1, by omega⟩
  rw [hc, chn_succ] at f
  rcases Coll.of (L := madeP s h n) (a := startL s i k) (b := chn c (startP s i k)) (made_start s hi hk) (made_link s hi hk (mem_chained _ (by omega))) f with g | g
  ·have d1 : isDig (startL s i k) = false := joined_58 _ _
   rw [g, chn_dig _ _ (start_dig s i k)] at d1
   cases d1
  ·exact g
 ·refine f.mono fun x hx => ?_
  rcases List.mem_append.1 hx with hx | hx
  ·exact made_link s hi hk (chained_le _ (by omega) hx)
  ·exact made_link s hi hk (chained_at _ (by omega) hx)
theorem binds_coll {s m o : ByteArray} {h i n : Nat} (hn : 30 ≤ n) (hh : h ≤ 2) (hne : sum m ≠ sum o) (hv : verifyP (publicP s h) o (i : Int) (sigP s i m) (pathP (keysP s h) i) = true) :
    Coll (madeP s h n ++ checkedP o i (sigP s i m) (pathP (keysP s h) i)) := by
 obtain ⟨_, j, ej, e⟩ := verify_ends (n := n) hh hv
 obtain rfl : i = j := Int.ofNat.inj ej
 rcases e with ⟨hj, _, hk⟩ | e
 ·by_cases hall : ∀ k : Fin 18, dg m k.val = dg o k.val
  ·exact absurd (dg_ext hall) hne
  ·obtain ⟨k, hk0⟩ := Classical.not_forall.1 hall
   have hk := hk k
   rw [sig_get, chn_add] at hk
   have d1 := dg_lt m k.val
   have d2 := dg_lt o k.val
   have hC : Coll (madeP s h n) := by
    rcases Nat.lt_or_gt_of_ne (show 15 ≠ dg m k.val + (15 - dg o k.val) by omega) with g | g
    ·exact cycle_coll s hj k.isLt g (by omega) hk
    ·exact cycle_coll s hj k.isLt g (by omega) hk.symm
   exact hC.mono fun x hx => List.mem_append_left _ hx
 ·exact e
theorem itB_inj {a b : Nat} (h : itB (a : Int) = itB (b : Int)) : a = b := by
 unfold itB at h
 rw [itoa_nat, itoa_nat] at h
 have h := congrArg (fun x : ByteArray => x.data.toList) h
 simp only at h
 exact dec_inj h
theorem index_coll {s m : ByteArray} {h i j n : Nat} (hn : 15 ≤ n) (hi : i < 2 ^ h) (hj : j < 2 ^ h) (hne : i ≠ j) (e : sigP s i m = sigP s j m) : Coll (madeP s h n) := by
 have e0 : (sigP s i m).getD (0 : Fin 18).val ByteArray.empty = (sigP s j m).getD (0 : Fin 18).val ByteArray.empty := by rw [e]
 rw [sig_get, sig_get] at e0
 have hd := dg_lt m (0 : Fin 18).val
 rcases chain_bind _ _ _ e0 with f | f
 ·rcases Coll.of (L := madeP s h n) (made_start s hi (k := (0 : Fin 18).val) (by decide)) (made_start s hj (k := (0 : Fin 18).val) (by decide)) f with g | g
  ·exact absurd (itB_inj (start_inj g).2.1) hne
  ·exact g
 ·refine f.mono fun x hx => ?_
  rcases List.mem_append.1 hx with hx | hx
  ·exact made_link s hi (k := (0 : Fin 18).val) (by decide) (chained_le _ (by omega) hx)
  ·exact made_link s hj (k := (0 : Fin 18).val) (by decide) (chained_le _ (by omega) hx)
end Go.Proofs.YtdlipbfcadmhjaaGreatDoor.Pl
