/- Plain: the law TreeBinds answers true. -/
import Derived.Test.YtdlipbfcadmhjaaDoorTH
import Derived.Test.YtdlipbfcadmhjaaDoorTE2
import Derived.Test.YtdlipbfcadmhjaaDoorPG2x15
namespace Go.Proofs.YtdlipbfcadmhjaaDoor
set_option linter.unusedVariables false
set_option linter.unusedSimpArgs false
open Go.RowKit Go.Proofs.YtdlipbfcadmhjaaDoorW.PrintWords Go.Proofs.YtdlipbfcadmhjaaDoorW.PrintMore PG2

theorem few_small {l : List ByteArray} (h : ∀ x ∈ l, x.size ≤ 100) : ∀ x ∈ l, x.size ≤ 1000 := fun x hx => by have := h x hx; omega
theorem snoc_facts (xs : List ByteArray) (p : ByteArray) (h : xs.length ≤ 1000000) : wrap64 (((xs.length + 1 : Nat) : Int) - 1) = ((xs.length : Nat) : Int) ∧ rdOf ByteArray.empty (xs ++ [p]) ((xs.length : Nat) : Int) = p ∧ (xs ++ [p]).take xs.length = xs := by
  refine ⟨?_, ?_, ?_⟩
  · rw [w64_id] <;> omega
  · unfold rdOf; rw [Int.toNat_natCast, List.getD_eq_getElem?_getD]; simp
  · simp
theorem Pl.climb_size {n i : Nat} {d r : ByteArray} {xs ts : List ByteArray} (h : Pl.Climb n i d xs r ts) (hd : d.size ≤ 16) : r.size ≤ 16 := by
  cases h with
  | one => exact hd
  | left p => rw [nodeP_size]; omega
  | right p => rw [nodeP_size]; omega
theorem upE {n i : Nat} {d r : ByteArray} {xs ts : List ByteArray} (h : Pl.Climb n i d xs r ts) (hd : d.size ≤ 16) : i < n → n ≤ 1000000 → (∀ x ∈ xs, x.size ≤ 1000) → Ev (fun k => customhouseref02_up.f k (n : Int) (i : Int) d xs) r := by
  induction h with
  | one d =>
    intro _ _ _
    refine evS ?_
    simp only [customhouseref02_up.f, if_pos (show ((1 : Nat) : Int) = 1 from rfl)]
    exact Ev.now _
  | @left n i d r xs ts p hn hi h ih =>
    intro hin hnm hx
    have hh := Pl.half_spec hn
    have hl := Pl.climb_bound h n (Nat.le_trans (by omega) (Nat.le_of_lt Nat.lt_two_pow_self))
    obtain ⟨e1, e2, e3⟩ := snoc_facts xs p (by omega)
    have hlen : (xs ++ [p]).length = xs.length + 1 := by simp
    refine evS ?_
    simp only [customhouseref02_up.f, if_neg (show ¬ (n : Int) = 1 by omega)]
    refine Ev.bind (rhalfE hn (by omega)) ?_
    simp only [e1, if_pos (show (0 : Int) ≤ ((xs.length : Nat) : Int) by omega), hlen, if_pos (show ((xs.length : Nat) : Int) < ((xs.length + 1 : Nat) : Int) by omega), if_pos (show ((xs.length : Nat) : Int) ≤ ((xs.length + 1 : Nat) : Int) by omega), if_pos (show (i : Int) < ((Pl.half n : Nat) : Int) by omega), Int.toNat_natCast, e2, e3]
    refine Ev.bind (ih hd hi (by omega) (fun x hx' => hx x (by simp [hx']))) ?_
    refine Ev.bind (rnodeE _ _ (by have := Pl.climb_size h hd; omega) (hx p (by simp))) ?_
    exact Ev.now _
  | @right n i d r xs ts p hn hi h ih =>
    intro hin hnm hx
    have hh := Pl.half_spec hn
    have hl := Pl.climb_bound h n (Nat.le_trans (by omega) (Nat.le_of_lt Nat.lt_two_pow_self))
    obtain ⟨e1, e2, e3⟩ := snoc_facts xs p (by omega)
    have hlen : (xs ++ [p]).length = xs.length + 1 := by simp
    have w1 : wrap64 ((n : Int) - ((Pl.half n : Nat) : Int)) = ((n - Pl.half n : Nat) : Int) := by rw [w64_id] <;> omega
    have w2 : wrap64 ((i : Int) - ((Pl.half n : Nat) : Int)) = ((i - Pl.half n : Nat) : Int) := by rw [w64_id] <;> omega
    refine evS ?_
    simp only [customhouseref02_up.f, if_neg (show ¬ (n : Int) = 1 by omega)]
    refine Ev.bind (rhalfE hn (by omega)) ?_
    simp only [e1, if_pos (show (0 : Int) ≤ ((xs.length : Nat) : Int) by omega), hlen, if_pos (show ((xs.length : Nat) : Int) < ((xs.length + 1 : Nat) : Int) by omega), if_pos (show ((xs.length : Nat) : Int) ≤ ((xs.length + 1 : Nat) : Int) by omega), if_neg (show ¬ (i : Int) < ((Pl.half n : Nat) : Int) by omega), Int.toNat_natCast, e2, e3, w1, w2]
    refine Ev.bind (ih hd (by omega) (by omega) (fun x hx' => hx x (by simp [hx']))) ?_
    refine Ev.bind (rnodeE _ _ (hx p (by simp)) (by have := Pl.climb_size h hd; omega)) ?_
    exact Ev.now _
theorem Pl.climb_texts {n i : Nat} {d r : ByteArray} {xs ts : List ByteArray} (h : Pl.Climb n i d xs r ts) : ts.length = xs.length := by
  induction h with
  | one => rfl
  | left p hn hi h ih => simp [ih]
  | right p hn hi h ih => simp [ih]
theorem Pl.climb_small {n i : Nat} {d r : ByteArray} {xs ts : List ByteArray} (h : Pl.Climb n i d xs r ts) (hd : d.size ≤ 16) : (∀ x ∈ xs, x.size ≤ 1000) → ∀ t ∈ ts, t.size ≤ 140737488355328 := by
  induction h with
  | one => intro _ t ht; cases ht
  | left p hn hi h ih =>
    intro hx t ht
    rcases List.mem_append.1 ht with ht | ht
    · exact ih hd (fun x hx' => hx x (by simp [hx'])) t ht
    · rw [List.mem_singleton.1 ht]; exact (Pl.few_caps (few_node _ _ (by have := Pl.climb_size h hd; omega) (hx p (by simp))) (by omega)).2.2
  | right p hn hi h ih =>
    intro hx t ht
    rcases List.mem_append.1 ht with ht | ht
    · exact ih hd (fun x hx' => hx x (by simp [hx'])) t ht
    · rw [List.mem_singleton.1 ht]; exact (Pl.few_caps (few_node _ _ (hx p (by simp)) (by have := Pl.climb_size h hd; omega)) (by omega)).2.2
theorem pathTextsE {n i : Nat} {s r : ByteArray} {xs ts : List ByteArray} (hs : s.size ≤ 1000) (h : Pl.Climb n i (Pl.leafP s) xs r ts) : i < n → n ≤ 1000000 → (∀ x ∈ xs, x.size ≤ 1000) → Ev (fun k => customhouseref02_PathTexts.f k (n : Int) (i : Int) s xs) (Pl.joined (Pl.leafL s) :: ts) := by
  generalize hd : Pl.leafP s = d at h
  have hd16 : d.size ≤ 16 := by rw [← hd]; have := Pl.dig_size (Pl.leafP_dig s); omega
  induction h with
  | one d =>
    intro _ _ _
    refine evS ?_
    have hj := jE (Pl.leafL s) (few_leaf s hs)
    unfold Pl.leafL at hj
    simp only [customhouseref02_PathTexts.f, if_pos (show ((1 : Nat) : Int) = 1 from rfl), hj, Option.bind_some]
    exact Ev.now _
  | @left n i d r xs ts p hn hi h ih =>
    intro hin hnm hx
    have hh := Pl.half_spec hn
    have hl := Pl.climb_bound h n (Nat.le_trans (by omega) (Nat.le_of_lt Nat.lt_two_pow_self))
    have htl := Pl.climb_texts h
    obtain ⟨e1, e2, e3⟩ := snoc_facts xs p (by omega)
    have hlen : (xs ++ [p]).length = xs.length + 1 := by simp
    have hr := Pl.climb_size h hd16
    have hj := jE (Pl.nodeL r p) (few_node r p (by omega) (hx p (by simp)))
    unfold Pl.nodeL at hj
    refine evS ?_
    simp only [customhouseref02_PathTexts.f, if_neg (show ¬ (n : Int) = 1 by omega)]
    refine Ev.bind (rhalfE hn (by omega)) ?_
    simp only [e1, if_pos (show (0 : Int) ≤ ((xs.length : Nat) : Int) by omega), hlen, if_pos (show ((xs.length : Nat) : Int) < ((xs.length + 1 : Nat) : Int) by omega), if_pos (show ((xs.length : Nat) : Int) ≤ ((xs.length + 1 : Nat) : Int) by omega), if_pos (show (i : Int) < ((Pl.half n : Nat) : Int) by omega), Int.toNat_natCast, e2, e3]
    refine Ev.bind (ih hd hd16 hi (by omega) (fun x hx' => hx x (by simp [hx']))) ?_
    refine Ev.bind (evE (rleafE s hs) hd) ?_
    refine Ev.bind (upE h hd16 hi (by omega) (fun x hx' => hx x (by simp [hx']))) ?_
    simp only [hj, Option.bind_some, if_pos (show (Pl.joined (Pl.leafL s) :: ts).length < 8796093022208 by simp only [List.length_cons]; omega)]
    exact Ev.now _
  | @right n i d r xs ts p hn hi h ih =>
    intro hin hnm hx
    have hh := Pl.half_spec hn
    have hl := Pl.climb_bound h n (Nat.le_trans (by omega) (Nat.le_of_lt Nat.lt_two_pow_self))
    have htl := Pl.climb_texts h
    obtain ⟨e1, e2, e3⟩ := snoc_facts xs p (by omega)
    have hlen : (xs ++ [p]).length = xs.length + 1 := by simp
    have w1 : wrap64 ((n : Int) - ((Pl.half n : Nat) : Int)) = ((n - Pl.half n : Nat) : Int) := by rw [w64_id] <;> omega
    have w2 : wrap64 ((i : Int) - ((Pl.half n : Nat) : Int)) = ((i - Pl.half n : Nat) : Int) := by rw [w64_id] <;> omega
    have hr := Pl.climb_size h hd16
    have hj := jE (Pl.nodeL p r) (few_node p r (hx p (by simp)) (by omega))
    unfold Pl.nodeL at hj
    refine evS ?_
    simp only [customhouseref02_PathTexts.f, if_neg (show ¬ (n : Int) = 1 by omega)]
    refine Ev.bind (rhalfE hn (by omega)) ?_
    simp only [e1, if_pos (show (0 : Int) ≤ ((xs.length : Nat) : Int) by omega), hlen, if_pos (show ((xs.length : Nat) : Int) < ((xs.length + 1 : Nat) : Int) by omega), if_pos (show ((xs.length : Nat) : Int) ≤ ((xs.length + 1 : Nat) : Int) by omega), if_neg (show ¬ (i : Int) < ((Pl.half n : Nat) : Int) by omega), Int.toNat_natCast, e2, e3, w1, w2]
    refine Ev.bind (ih hd hd16 (by omega) (by omega) (fun x hx' => hx x (by simp [hx']))) ?_
    refine Ev.bind (evE (rleafE s hs) hd) ?_
    refine Ev.bind (upE h hd16 (by omega) (by omega) (fun x hx' => hx x (by simp [hx']))) ?_
    simp only [hj, Option.bind_some, if_pos (show (Pl.joined (Pl.leafL s) :: ts).length < 8796093022208 by simp only [List.length_cons]; omega)]
    exact Ev.now _

theorem Pl.TreeBinds (l0 : List ByteArray) (a1 : Int) (a2 : ByteArray) (l3 : List ByteArray) (h0 : l0.length ≤ 9223372036854775807) (_h0' : ∀ x ∈ l0, x.size ≤ 9223372036854775807) (h1 : (Lit.int .u8 a1).wf = true) (_h2 : a2.size ≤ 9223372036854775807)
    (h3 : l3.length ≤ 9223372036854775807) (_h3' : ∀ x ∈ l3, x.size ≤ 9223372036854775807) : ∃ k, customhouselaw02_TreeBinds.f k l0 a1 a2 l3 = some true := by
  refine Ev.rounds (g := fun k => customhouselaw02_TreeBinds.f k l0 a1 a2 l3) ?_
  unfold customhouselaw02_TreeBinds.f
  refine Ev.bind head02E ?_
  have out : Ev (fun k => customhouselaw02_TreeBinds.j0 k l0 a1 a2 l3 true true) true := by
    refine evS ?_
    simp only [customhouselaw02_TreeBinds.j0, if_true]
    exact Ev.now _
  refine Ev.bind (few20E l0 h0) ?_
  cases hf0 : Pl.few20 l0 with
  | false => simp only [Bool.false_eq_true, if_false]; exact out
  | true =>
    simp only [if_true]
    refine Ev.bind (few20E l3 h3) ?_
    cases hf3 : Pl.few20 l3 with
    | false => simp only [Bool.false_eq_true, if_false]; exact out
    | true =>
      simp only [if_true]
      by_cases hs : (a2.size : Int) > 100
      · simp only [if_pos hs]; exact out
      · simp only [if_neg hs]
        obtain ⟨n0, s0⟩ := few20_of hf0
        obtain ⟨n3, s3⟩ := few20_of hf3
        obtain ⟨r0, r1⟩ := u8_range h1
        by_cases hz : l0.length = 0
        · rw [show ((l0.length : Int) == 0) = true by rw [hz]; rfl]
          exact out
        · rw [show ((l0.length : Int) == 0) = false by simp; intro h; exact hz (by rw [h]; rfl)]
          have e2 : Int.tmod (wrap64 a1) (l0.length : Int) = ((a1.toNat % l0.length : Nat) : Int) := by
            rw [w64_id (by omega) (by omega), Int.tmod_eq_emod_of_nonneg (by omega), Int.natCast_emod, Int.toNat_of_nonneg (by omega)]
          have hi : a1.toNat % l0.length < l0.length := Nat.mod_lt _ (by omega)
          generalize hI : a1.toNat % l0.length = i at e2 hi
          have hget : rdOf ByteArray.empty l0 (i : Int) = l0.getD i ByteArray.empty := rfl
          have fin : Ev (fun k => customhouselaw02_TreeBinds.j1 k l0 a2 l3 true (i : Int) true) true := by
            refine evS ?_
            simp only [customhouselaw02_TreeBinds.j1, if_true]
            exact Ev.now _
          refine evS ?_
          simp only [customhouselaw02_TreeBinds.j0, Bool.false_eq_true, if_false, if_neg (show ¬ (l0.length : Int) = 0 by omega), e2, if_pos (show (0 : Int) ≤ (i : Int) by omega), if_pos (show (i : Int) < (l0.length : Int) by omega), hget, Pl.toL_iff]
          by_cases he : a2 = l0.getD i ByteArray.empty
          · simp only [if_pos he]; exact fin
          · simp only [if_neg he]
            refine Ev.bind (rootE _ l0 rfl (by omega) (few_small s0)) ?_
            simp only [checkE _ _ _ a2 l3 (by omega) (by omega), Option.bind_some]
            cases hc : Pl.checkP (Pl.rootP l0) (l0.length : Int) (i : Int) a2 l3 with
            | false => rw [Bool.not_false]; exact fin
            | true =>
              rw [Bool.not_true]
              obtain ⟨_, hall, ts, hcl⟩ := Pl.checkP_climb hc
              have hx16 : ∀ x ∈ l3, x.size ≤ 1000 := few_small s3
              refine evS ?_
              simp only [customhouselaw02_TreeBinds.j1, Bool.false_eq_true, if_false]
              refine Ev.bind (pathE l0 i hi (by omega) (few_small s0)) ?_
              obtain ⟨us, hown⟩ := Pl.path_climb _ l0 i rfl hi
              have hlen := Pl.climb_len hown hcl
              simp only [if_true]
              rw [show ((((Pl.pathP l0 i).length : Nat) : Int) != (l3.length : Int)) = false by rw [hlen]; simp]
              refine evS ?_
              simp only [customhouselaw02_TreeBinds.j2, Bool.false_eq_true, if_false, if_true]
              refine Ev.bind (textsE _ l0 rfl (by omega) (few_small s0)) ?_
              refine Ev.bind (pathTextsE (by omega) hcl hi (by omega) hx16) ?_
              have t0 := (Pl.texts_len _ l0 rfl).1
              have t1 := Pl.climb_texts hcl
              have hcnt : (Pl.textsP l0).length + (Pl.joined (Pl.leafL a2) :: ts).length ≤ 1000 := by simp only [List.length_cons]; omega
              simp only [if_pos (show (Pl.textsP l0).length + (Pl.joined (Pl.leafL a2) :: ts).length < 8796093022208 by omega)]
              refine Ev.bind (shownE _ (by rw [List.length_append]; omega) ?_ ?_) (Ev.now _)
              · intro x hx
                rcases List.mem_append.1 hx with hx | hx
                · exact Pl.texts_small _ l0 rfl (few_small s0) x hx
                · rcases List.mem_cons.1 hx with hx | hx
                  · rw [hx]; exact (Pl.few_caps (few_leaf a2 (by omega)) (by omega)).2.2
                  · exact Pl.climb_small hcl (by have := Pl.dig_size (Pl.leafP_dig a2); omega) hx16 x hx
              · rcases Pl.climb_bind hcl l0 a2 rfl rfl rfl with h | h
                · exfalso
                  apply he
                  rw [List.getD_eq_getElem?_getD, h]; rfl
                · exact h
end Go.Proofs.YtdlipbfcadmhjaaDoor
