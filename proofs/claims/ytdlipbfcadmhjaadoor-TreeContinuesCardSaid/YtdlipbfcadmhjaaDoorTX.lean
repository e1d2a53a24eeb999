/- Plain: the law TreeContinues answers true. -/
import Derived.Test.YtdlipbfcadmhjaaDoorTH
import Derived.Test.YtdlipbfcadmhjaaDoorTE2
import Derived.Test.YtdlipbfcadmhjaaDoorPG2x20
namespace Go.Proofs.YtdlipbfcadmhjaaDoor
set_option linter.unusedVariables false
set_option linter.unusedSimpArgs false
open Go.RowKit Go.Proofs.YtdlipbfcadmhjaaDoorW.PrintWords Go.Proofs.YtdlipbfcadmhjaaDoorW.PrintMore PG2

theorem few_small {l : List ByteArray} (h : ∀ x ∈ l, x.size ≤ 100) : ∀ x ∈ l, x.size ≤ 1000 := fun x hx => by have := h x hx; omega
theorem snoc_facts (xs : List ByteArray) (p : ByteArray) (h : xs.length ≤ 1000001) : wrap64 (((xs.length + 1 : Nat) : Int) - 1) = ((xs.length : Nat) : Int) ∧ rdOf ByteArray.empty (xs ++ [p]) ((xs.length : Nat) : Int) = p ∧ (xs ++ [p]).take xs.length = xs := by
  refine ⟨?_, ?_, ?_⟩
  · rw [w64_id] <;> omega
  · unfold rdOf; rw [Int.toNat_natCast, List.getD_eq_getElem?_getD]; simp
  · simp
theorem Pl.both_size {n m : Nat} {wh : Bool} {old a b : ByteArray} {xs ts : List ByteArray} (h : Pl.Both n m wh old xs a b ts) : old.size ≤ 1000 → (∀ x ∈ xs, x.size ≤ 1000) → a.size ≤ 1000 ∧ b.size ≤ 1000 := by
  induction h with
  | whole n old => intro ho _; exact ⟨ho, ho⟩
  | part n old d => intro _ hx; exact ⟨hx d (by simp), hx d (by simp)⟩
  | left p hm hmn hc h ih =>
    intro ho hx
    have := ih ho (fun x hx' => hx x (by simp [hx']))
    exact ⟨this.1, by rw [nodeP_size]; omega⟩
  | right p hm hmn hc h ih =>
    intro ho hx
    exact ⟨by rw [nodeP_size]; omega, by rw [nodeP_size]; omega⟩
theorem bothE {n m : Nat} {wh : Bool} {old a b : ByteArray} {xs ts : List ByteArray} (h : Pl.Both n m wh old xs a b ts) : old.size ≤ 1000 → 1 ≤ m → m ≤ n → n ≤ 1000000 → (∀ x ∈ xs, x.size ≤ 1000) → Ev (fun k => customhouseref02_both.f k (n : Int) (m : Int) wh old xs) (a, b) := by
  induction h with
  | whole n old =>
    intro _ _ _ _ _
    refine evS ?_
    simp only [customhouseref02_both.f, if_true]
    exact Ev.now _
  | part n old d =>
    intro _ _ _ _ _
    refine evS ?_
    simp only [customhouseref02_both.f, if_true, Bool.false_eq_true, if_false, if_pos (show (0 : Int) < (([d] : List ByteArray).length : Int) by simp), show rdOf ByteArray.empty [d] 0 = d from rfl]
    exact Ev.now _
  | @left n m wh old a b xs ts p hm hmn hc h ih =>
    intro ho h1 h2 hnm hx
    have hn : 2 ≤ n := by omega
    have hh := Pl.half_spec hn
    have hl := Pl.both_bound h n (Nat.le_trans (by omega) (Nat.le_of_lt Nat.lt_two_pow_self))
    obtain ⟨e1, e2, e3⟩ := snoc_facts xs p (by omega)
    have hlen : (xs ++ [p]).length = xs.length + 1 := by simp
    have hsz := Pl.both_size h ho (fun x hx' => hx x (by simp [hx']))
    refine evS ?_
    simp only [customhouseref02_both.f, if_neg (show ¬ (m : Int) = (n : Int) by omega)]
    refine Ev.bind (rhalfE hn (by omega)) ?_
    simp only [e1, if_pos (show (0 : Int) ≤ ((xs.length : Nat) : Int) by omega), hlen, if_pos (show ((xs.length : Nat) : Int) < ((xs.length + 1 : Nat) : Int) by omega), if_pos (show ((xs.length : Nat) : Int) ≤ ((xs.length + 1 : Nat) : Int) by omega), if_pos (show (m : Int) ≤ ((Pl.half n : Nat) : Int) by omega), Int.toNat_natCast, e2, e3]
    refine Ev.bind (ih ho h1 hc (by omega) (fun x hx' => hx x (by simp [hx']))) ?_
    refine Ev.bind (rnodeE _ _ hsz.2 (hx p (by simp))) ?_
    exact Ev.now _
  | @right n m wh old a b xs ts p hm hmn hc h ih =>
    intro ho h1 h2 hnm hx
    have hn : 2 ≤ n := by omega
    have hh := Pl.half_spec hn
    have hl := Pl.both_bound h n (Nat.le_trans (by omega) (Nat.le_of_lt Nat.lt_two_pow_self))
    obtain ⟨e1, e2, e3⟩ := snoc_facts xs p (by omega)
    have hlen : (xs ++ [p]).length = xs.length + 1 := by simp
    have hsz := Pl.both_size h ho (fun x hx' => hx x (by simp [hx']))
    have w1 : wrap64 ((n : Int) - ((Pl.half n : Nat) : Int)) = ((n - Pl.half n : Nat) : Int) := by rw [w64_id] <;> omega
    have w2 : wrap64 ((m : Int) - ((Pl.half n : Nat) : Int)) = ((m - Pl.half n : Nat) : Int) := by rw [w64_id] <;> omega
    refine evS ?_
    simp only [customhouseref02_both.f, if_neg (show ¬ (m : Int) = (n : Int) by omega)]
    refine Ev.bind (rhalfE hn (by omega)) ?_
    simp only [e1, if_pos (show (0 : Int) ≤ ((xs.length : Nat) : Int) by omega), hlen, if_pos (show ((xs.length : Nat) : Int) < ((xs.length + 1 : Nat) : Int) by omega), if_pos (show ((xs.length : Nat) : Int) ≤ ((xs.length + 1 : Nat) : Int) by omega), if_neg (show ¬ (m : Int) ≤ ((Pl.half n : Nat) : Int) by omega), Int.toNat_natCast, e2, e3, w1, w2]
    refine Ev.bind (ih ho (by omega) (by omega) (by omega) (fun x hx' => hx x (by simp [hx']))) ?_
    refine Ev.bind (rnodeE _ _ (hx p (by simp)) hsz.1) ?_
    refine Ev.bind (rnodeE _ _ (hx p (by simp)) hsz.2) ?_
    exact Ev.now _
theorem Pl.both_texts {n m : Nat} {wh : Bool} {old a b : ByteArray} {xs ts : List ByteArray} (h : Pl.Both n m wh old xs a b ts) : ts.length ≤ 2 * xs.length := by
  induction h with
  | whole => simp
  | part => simp
  | left p hm hmn hc h ih => simp; omega
  | right p hm hmn hc h ih => simp; omega
theorem Pl.both_small {n m : Nat} {wh : Bool} {old a b : ByteArray} {xs ts : List ByteArray} (h : Pl.Both n m wh old xs a b ts) : old.size ≤ 1000 → (∀ x ∈ xs, x.size ≤ 1000) → ∀ t ∈ ts, t.size ≤ 140737488355328 := by
  induction h with
  | whole => intro _ _ t ht; cases ht
  | part => intro _ _ t ht; cases ht
  | left p hm hmn hc h ih =>
    intro ho hx t ht
    have hsz := Pl.both_size h ho (fun x hx' => hx x (by simp [hx']))
    rcases List.mem_append.1 ht with ht | ht
    · exact ih ho (fun x hx' => hx x (by simp [hx'])) t ht
    · rw [List.mem_singleton.1 ht]; exact (Pl.few_caps (few_node _ _ hsz.2 (hx p (by simp))) (by omega)).2.2
  | right p hm hmn hc h ih =>
    intro ho hx t ht
    have hsz := Pl.both_size h ho (fun x hx' => hx x (by simp [hx']))
    rcases List.mem_append.1 ht with ht | ht
    · rcases List.mem_append.1 ht with ht | ht
      · exact ih ho (fun x hx' => hx x (by simp [hx'])) t ht
      · rw [List.mem_singleton.1 ht]; exact (Pl.few_caps (few_node _ _ (hx p (by simp)) hsz.1) (by omega)).2.2
    · rw [List.mem_singleton.1 ht]; exact (Pl.few_caps (few_node _ _ (hx p (by simp)) hsz.2) (by omega)).2.2
theorem linkTextsE {n m : Nat} {wh : Bool} {old a b : ByteArray} {xs ts : List ByteArray} (h : Pl.Both n m wh old xs a b ts) : old.size ≤ 1000 → 1 ≤ m → m ≤ n → n ≤ 1000000 → (∀ x ∈ xs, x.size ≤ 1000) → Ev (fun k => customhouseref02_LinkTexts.f k (n : Int) (m : Int) wh old xs) ts := by
  induction h with
  | whole n old =>
    intro _ _ _ _ _
    refine evS ?_
    simp only [customhouseref02_LinkTexts.f, if_true]
    exact Ev.now _
  | part n old d =>
    intro _ _ _ _ _
    refine evS ?_
    simp only [customhouseref02_LinkTexts.f, if_true]
    exact Ev.now _
  | @left n m wh old a b xs ts p hm hmn hc h ih =>
    intro ho h1 h2 hnm hx
    have hn : 2 ≤ n := by omega
    have hh := Pl.half_spec hn
    have hl := Pl.both_bound h n (Nat.le_trans (by omega) (Nat.le_of_lt Nat.lt_two_pow_self))
    have htl := Pl.both_texts h
    obtain ⟨e1, e2, e3⟩ := snoc_facts xs p (by omega)
    have hlen : (xs ++ [p]).length = xs.length + 1 := by simp
    have hsz := Pl.both_size h ho (fun x hx' => hx x (by simp [hx']))
    have hj := jE (Pl.nodeL b p) (few_node b p hsz.2 (hx p (by simp)))
    unfold Pl.nodeL at hj
    refine evS ?_
    simp only [customhouseref02_LinkTexts.f, if_neg (show ¬ (m : Int) = (n : Int) by omega)]
    refine Ev.bind (rhalfE hn (by omega)) ?_
    simp only [e1, if_pos (show (0 : Int) ≤ ((xs.length : Nat) : Int) by omega), hlen, if_pos (show ((xs.length : Nat) : Int) < ((xs.length + 1 : Nat) : Int) by omega), if_pos (show ((xs.length : Nat) : Int) ≤ ((xs.length + 1 : Nat) : Int) by omega), if_pos (show (m : Int) ≤ ((Pl.half n : Nat) : Int) by omega), Int.toNat_natCast, e2, e3]
    refine Ev.bind (bothE h ho h1 hc (by omega) (fun x hx' => hx x (by simp [hx']))) ?_
    refine Ev.bind (ih ho h1 hc (by omega) (fun x hx' => hx x (by simp [hx']))) ?_
    simp only [hj, Option.bind_some, if_pos (show ts.length < 8796093022208 by omega)]
    exact Ev.now _
  | @right n m wh old a b xs ts p hm hmn hc h ih =>
    intro ho h1 h2 hnm hx
    have hn : 2 ≤ n := by omega
    have hh := Pl.half_spec hn
    have hl := Pl.both_bound h n (Nat.le_trans (by omega) (Nat.le_of_lt Nat.lt_two_pow_self))
    have htl := Pl.both_texts h
    obtain ⟨e1, e2, e3⟩ := snoc_facts xs p (by omega)
    have hlen : (xs ++ [p]).length = xs.length + 1 := by simp
    have hsz := Pl.both_size h ho (fun x hx' => hx x (by simp [hx']))
    have w1 : wrap64 ((n : Int) - ((Pl.half n : Nat) : Int)) = ((n - Pl.half n : Nat) : Int) := by rw [w64_id] <;> omega
    have w2 : wrap64 ((m : Int) - ((Pl.half n : Nat) : Int)) = ((m - Pl.half n : Nat) : Int) := by rw [w64_id] <;> omega
    have hj1 := jE (Pl.nodeL p a) (few_node p a (hx p (by simp)) hsz.1)
    have hj2 := jE (Pl.nodeL p b) (few_node p b (hx p (by simp)) hsz.2)
    unfold Pl.nodeL at hj1 hj2
    refine evS ?_
    simp only [customhouseref02_LinkTexts.f, if_neg (show ¬ (m : Int) = (n : Int) by omega)]
    refine Ev.bind (rhalfE hn (by omega)) ?_
    simp only [e1, if_pos (show (0 : Int) ≤ ((xs.length : Nat) : Int) by omega), hlen, if_pos (show ((xs.length : Nat) : Int) < ((xs.length + 1 : Nat) : Int) by omega), if_pos (show ((xs.length : Nat) : Int) ≤ ((xs.length + 1 : Nat) : Int) by omega), if_neg (show ¬ (m : Int) ≤ ((Pl.half n : Nat) : Int) by omega), Int.toNat_natCast, e2, e3, w1, w2]
    refine Ev.bind (bothE h ho (by omega) (by omega) (by omega) (fun x hx' => hx x (by simp [hx']))) ?_
    refine Ev.bind (ih ho (by omega) (by omega) (by omega) (fun x hx' => hx x (by simp [hx']))) ?_
    simp only [hj1, hj2, Option.bind_some, if_pos (show ts.length < 8796093022208 by omega)]
    simp only [if_pos (show (ts ++ [Pl.joined [(⟨#[110, 111, 100, 101]⟩ : ByteArray), p, a]]).length < 8796093022208 by simp only [List.length_append, List.length_singleton]; omega)]
    exact Ev.now _

theorem Pl.TreeContinues (l0 l1 l2 : List ByteArray) (h0 : l0.length ≤ 9223372036854775807) (_h0' : ∀ x ∈ l0, x.size ≤ 9223372036854775807) (h1 : l1.length ≤ 9223372036854775807) (_h1' : ∀ x ∈ l1, x.size ≤ 9223372036854775807)
    (h2 : l2.length ≤ 9223372036854775807) (_h2' : ∀ x ∈ l2, x.size ≤ 9223372036854775807) : ∃ k, customhouselaw02_TreeContinues.f k l0 l1 l2 = some true := by
  refine Ev.rounds (g := fun k => customhouselaw02_TreeContinues.f k l0 l1 l2) ?_
  unfold customhouselaw02_TreeContinues.f
  refine Ev.bind head02E ?_
  have out : Ev (fun k => customhouselaw02_TreeContinues.j0 k l0 l1 l2 true true) true := by
    refine evS ?_
    simp only [customhouselaw02_TreeContinues.j0, if_true]
    exact Ev.now _
  refine Ev.bind (few20E l0 h0) ?_
  cases hf0 : Pl.few20 l0 with
  | false => simp only [Bool.false_eq_true, if_false]; exact out
  | true =>
    simp only [if_true]
    refine Ev.bind (few20E l1 h1) ?_
    cases hf1 : Pl.few20 l1 with
    | false => simp only [Bool.false_eq_true, if_false]; exact out
    | true =>
      simp only [if_true]
      refine Ev.bind (few20E l2 h2) ?_
      cases hf2 : Pl.few20 l2 with
      | false => simp only [Bool.false_eq_true, if_false]; exact out
      | true =>
        simp only [if_true]
        obtain ⟨n0, s0⟩ := few20_of hf0
        obtain ⟨n1, s1⟩ := few20_of hf1
        obtain ⟨n2, s2⟩ := few20_of hf2
        by_cases hle : l0.length ≤ l1.length
        · rw [decide_eq_false (show ¬ (l0.length : Int) > (l1.length : Int) by omega)]
          have fin : Ev (fun k => customhouselaw02_TreeContinues.j1 k l0 l1 l2 true true) true := by
            refine evS ?_
            simp only [customhouselaw02_TreeContinues.j1, if_true]
            exact Ev.now _
          have r0 := rootE _ l0 rfl (by omega) (few_small s0)
          have r1 := rootE _ l1 rfl (by omega) (few_small s1)
          refine evS ?_
          simp only [customhouselaw02_TreeContinues.j0, Bool.false_eq_true, if_false]
          refine Ev.bind r0 ?_
          refine Ev.bind r1 ?_
          simp only [extendsE _ _ _ _ l2 (by omega), Option.bind_some, if_pos (show (0 : Int) ≤ (l0.length : Int) by omega), if_pos (show (l0.length : Int) ≤ (l1.length : Int) by omega), Int.toNat_natCast]
          cases hx : Pl.extendsP (Pl.rootP l0) (l0.length : Int) (Pl.rootP l1) (l1.length : Int) l2 with
          | false => simp only [Bool.false_eq_true, if_false]; exact fin
          | true =>
            simp only [if_true]
            refine Ev.bind (sameE l0 (l1.take l0.length) h0) ?_
            by_cases he : l0 = l1.take l0.length
            · rw [decide_eq_true he]; exact fin
            · rw [decide_eq_false he]
              have hpos : 1 ≤ l0.length := by
                rcases Nat.eq_zero_or_pos l0.length with hz | hz
                · exact absurd (by rw [hz, List.take_zero, List.length_eq_zero_iff.1 hz]) he
                · exact hz
              obtain ⟨_, _, ts, hb⟩ := Pl.extendsP_both hpos hx
              obtain ⟨us, hown⟩ := Pl.link_both _ l1 l0.length true _ rfl hpos hle (fun _ => rfl)
              have hlen : (Pl.linkP l1 l0.length).length = l2.length := Pl.both_len hown hb
              have hsz : (Pl.rootP l0).size ≤ 1000 := by rw [Pl.root_size]; omega
              refine evS ?_
              simp only [customhouselaw02_TreeContinues.j1, Bool.false_eq_true, if_false]
              refine Ev.bind (linkE l1 l0.length hle (by omega) (few_small s1)) ?_
              simp only [if_true, if_pos (show ((Pl.linkP l1 l0.length).length : Int) = (l2.length : Int) by omega)]
              rw [show ((l0.length : Int) == 0) = false by simp; intro h; rw [h] at hpos; simp at hpos]
              have t0 := (Pl.texts_len _ l0 rfl).1
              have t1 := (Pl.texts_len _ l1 rfl).1
              have hl0 : (l1.take l0.length).length = l0.length := by rw [List.length_take]; omega
              have t2 := (Pl.texts_len _ (l1.take l0.length) hl0).1
              have t3 := Pl.both_texts hb
              have c1 : (Pl.textsP l0 ++ Pl.textsP l1).length ≤ 100 := by rw [List.length_append]; omega
              have c2 : ((Pl.textsP l0 ++ Pl.textsP l1) ++ Pl.textsP (l1.take l0.length)).length ≤ 200 := by rw [List.length_append]; omega
              refine evS ?_
              simp only [customhouselaw02_TreeContinues.j2, Bool.false_eq_true, if_false, if_true]
              refine Ev.bind (textsE _ l0 rfl (by omega) (few_small s0)) ?_
              refine Ev.bind (textsE _ l1 rfl (by omega) (few_small s1)) ?_
              simp only [if_pos (show (Pl.textsP l0).length + (Pl.textsP l1).length < 8796093022208 by omega), Option.bind_some, if_pos (show (0 : Int) ≤ (l0.length : Int) by omega), if_pos (show (l0.length : Int) ≤ (l1.length : Int) by omega), Int.toNat_natCast]
              refine Ev.bind (textsE _ (l1.take l0.length) hl0 (by omega) (small_take (few_small s1))) ?_
              simp only [if_pos (show (Pl.textsP l0 ++ Pl.textsP l1).length + (Pl.textsP (l1.take l0.length)).length < 8796093022208 by omega), Option.bind_some]
              refine Ev.bind r0 ?_
              refine Ev.bind (linkTextsE hb hsz hpos hle (by omega) (few_small s2)) ?_
              simp only [if_pos (show ((Pl.textsP l0 ++ Pl.textsP l1) ++ Pl.textsP (l1.take l0.length)).length + ts.length < 8796093022208 by omega)]
              refine Ev.bind (shownE _ (by rw [List.length_append]; omega) ?_ ?_) (Ev.now _)
              · intro x hx'
                simp only [List.mem_append] at hx'
                rcases hx' with ((hx' | hx') | hx') | hx'
                · exact Pl.texts_small _ l0 rfl (few_small s0) x hx'
                · exact Pl.texts_small _ l1 rfl (few_small s1) x hx'
                · exact Pl.texts_small _ (l1.take l0.length) rfl (small_take (few_small s1)) x hx'
                · exact Pl.both_small hb hsz (few_small s2) x hx'
              · rcases Pl.both_bind hb l1 rfl rfl with h | h
                · rcases Pl.roots_bind _ l0 (l1.take l0.length) rfl hl0 h with h' | h'
                  · exact absurd h' he
                  · exact h'.mono fun x hx' => by
                      rcases List.mem_append.1 hx' with hx' | hx' <;> simp [hx']
                · exact h.mono fun x hx' => by
                    rcases List.mem_append.1 hx' with hx' | hx' <;> simp [hx']
        · rw [decide_eq_true (show (l0.length : Int) > (l1.length : Int) by omega)]
          exact out
end Go.Proofs.YtdlipbfcadmhjaaDoor
