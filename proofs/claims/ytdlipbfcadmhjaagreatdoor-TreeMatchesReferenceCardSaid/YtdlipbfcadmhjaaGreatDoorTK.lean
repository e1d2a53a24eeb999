/- Plain: the law TreeMatchesReference answers true. -/
import Derived.Test.YtdlipbfcadmhjaaGreatDoorTH
import Derived.Test.YtdlipbfcadmhjaaGreatDoorTU
import Derived.Test.YtdlipbfcadmhjaaGreatDoorQ2i
import Derived.Test.YtdlipbfcadmhjaaGreatDoorPG2x20
namespace Go.Proofs.YtdlipbfcadmhjaaGreatDoor
set_option linter.unusedVariables false
set_option linter.unusedSimpArgs false
open Go.RowKit Go.Proofs.YtdlipbfcadmhjaaGreatDoorW.PrintWords Go.Proofs.YtdlipbfcadmhjaaGreatDoorW.PrintMore PG2

theorem few_small {l : List ByteArray} (h : ∀ x ∈ l, x.size ≤ 100) : ∀ x ∈ l, x.size ≤ 1000 := fun x hx => by have := h x hx; omega

/-! ### paths and links of the reference -/
theorem Pl.sibs_len : ∀ (n : Nat) (l : List ByteArray) (i : Nat), l.length = n → (Pl.sibs l i).length ≤ n := by
  intro n
  induction n using Nat.strongRecOn with
  | ind n ih =>
    intro l i hl
    by_cases h2 : 2 ≤ l.length
    · have hh := Pl.half_spec h2
      by_cases hc : i < Pl.half l.length
      · rw [Pl.sibs_left h2 hc, List.length_cons]
        have := ih _ (by omega) (l.take (Pl.half l.length)) i (Pl.take_len h2); omega
      · rw [Pl.sibs_right h2 hc, List.length_cons]
        have := ih (l.length - Pl.half l.length) (by omega) (l.drop (Pl.half l.length)) (i - Pl.half l.length) (by simp); omega
    · rw [Pl.sibs_end h2]; simp
theorem rpath : ∀ (n : Nat) (l : List ByteArray) (i : Nat), l.length = n → i < n → n ≤ 1000000 → (∀ x ∈ l, x.size ≤ 1000) → Ev (fun k => customhouseref02_path.f k l (i : Int)) (Pl.pathP l i) := by
  intro n
  induction n using Nat.strongRecOn with
  | ind n ih =>
    intro l i hl hi hn hs
    by_cases h2 : 2 ≤ l.length
    · have hh := Pl.half_spec h2
      refine evS ?_
      simp only [customhouseref02_path.f, if_neg (show ¬ (l.length : Int) = 1 by omega)]
      refine Ev.bind (rhalfE h2 (by omega)) ?_
      simp only [if_pos (show (0 : Int) ≤ ((Pl.half l.length : Nat) : Int) by omega), if_pos (show ((Pl.half l.length : Nat) : Int) ≤ (l.length : Int) by omega), Int.toNat_natCast]
      unfold Pl.pathP
      by_cases hc : i < Pl.half l.length
      · simp only [if_pos (show (i : Int) < ((Pl.half l.length : Nat) : Int) by omega)]
        rw [Pl.sibs_left h2 hc, List.reverse_cons]
        refine Ev.bind (ih _ (by omega) (l.take (Pl.half l.length)) i (Pl.take_len h2) hc (by omega) (small_take hs)) ?_
        refine Ev.bind (rrootE _ (l.drop (Pl.half l.length)) rfl (by have := Pl.drop_lt h2; omega) (small_drop hs)) ?_
        have := Pl.sibs_len _ (l.take (Pl.half l.length)) i rfl
        have ht := Pl.take_lt h2
        simp only [if_pos (show (Pl.pathP (l.take (Pl.half l.length)) i).length < 8796093022208 by unfold Pl.pathP; rw [List.length_reverse]; omega)]
        exact Ev.now _
      · simp only [if_neg (show ¬ (i : Int) < ((Pl.half l.length : Nat) : Int) by omega)]
        rw [Pl.sibs_right h2 hc, List.reverse_cons]
        have e1 : wrap64 ((i : Int) - ((Pl.half l.length : Nat) : Int)) = ((i - Pl.half l.length : Nat) : Int) := by rw [w64_id] <;> omega
        simp only [e1]
        refine Ev.bind (ih (l.length - Pl.half l.length) (by omega) (l.drop (Pl.half l.length)) (i - Pl.half l.length) (by simp) (by omega) (by omega) (small_drop hs)) ?_
        refine Ev.bind (rrootE _ (l.take (Pl.half l.length)) rfl (by have := Pl.take_lt h2; omega) (small_take hs)) ?_
        have := Pl.sibs_len _ (l.drop (Pl.half l.length)) (i - Pl.half l.length) rfl
        have ht := Pl.drop_lt h2
        simp only [if_pos (show (Pl.pathP (l.drop (Pl.half l.length)) (i - Pl.half l.length)).length < 8796093022208 by unfold Pl.pathP; rw [List.length_reverse]; omega)]
        exact Ev.now _
    · refine evS ?_
      simp only [customhouseref02_path.f, if_pos (show (l.length : Int) = 1 by omega)]
      refine evE (Ev.now _) ?_
      unfold Pl.pathP
      rw [Pl.sibs_end h2]; rfl
theorem rpathE (l : List ByteArray) (i : Int) (hn : l.length ≤ 1000000) (hs : ∀ x ∈ l, x.size ≤ 1000) : ∃ r, r.1.length ≤ 1000002 ∧ Ev (fun k => tree_Path.f k l i) r ∧ Ev (fun k => customhouseref02_Path.f k l i) r := by
  by_cases h : i < 0 ∨ (l.length : Int) ≤ i
  · refine ⟨_, by simp, pathE_err l i h, ?_⟩
    unfold customhouseref02_Path.f
    by_cases h0 : i < 0
    · simp only [if_pos h0]; exact Ev.now _
    · simp only [if_neg h0, if_pos (show i ≥ (l.length : Int) by omega)]; exact Ev.now _
  · obtain ⟨j, rfl⟩ : ∃ j : Nat, i = (j : Int) := ⟨i.toNat, by omega⟩
    refine ⟨_, by have := Pl.sibs_len _ l j rfl; unfold Pl.pathP; simp only [List.length_reverse]; omega, pathE l j (by omega) hn hs, ?_⟩
    unfold customhouseref02_Path.f
    simp only [if_neg (show ¬ (j : Int) < 0 by omega), if_neg (show ¬ (j : Int) ≥ (l.length : Int) by omega)]
    exact Ev.bind (rpath _ l j rfl (by omega) hn hs) (Ev.now _)
theorem Pl.links_len : ∀ (n : Nat) (l : List ByteArray) (m : Nat) (wh : Bool), l.length = n → (Pl.links l m wh).length ≤ n + 1 := by
  intro n
  induction n using Nat.strongRecOn with
  | ind n ih =>
    intro l m wh hl
    by_cases h : 1 ≤ m ∧ m < l.length
    · have h2 : 2 ≤ l.length := by omega
      have hh := Pl.half_spec h2
      by_cases hc : m ≤ Pl.half l.length
      · rw [Pl.links_left h hc, List.length_cons]
        have := ih _ (by omega) (l.take (Pl.half l.length)) m wh (Pl.take_len h2); omega
      · rw [Pl.links_right h hc, List.length_cons]
        have := ih (l.length - Pl.half l.length) (by omega) (l.drop (Pl.half l.length)) (m - Pl.half l.length) false (by simp); omega
    · rw [Pl.links_end h]
      cases wh <;> simp
theorem rlink : ∀ (n : Nat) (l : List ByteArray) (m : Nat) (wh : Bool), l.length = n → 1 ≤ m → m ≤ n → n ≤ 1000000 → (∀ x ∈ l, x.size ≤ 1000) → Ev (fun k => customhouseref02_link.f k l (m : Int) wh) (Pl.links l m wh).reverse := by
  intro n
  induction n using Nat.strongRecOn with
  | ind n ih =>
    intro l m wh hl h1 hm hn hs
    by_cases hmn : m < l.length
    · have h2 : 2 ≤ l.length := by omega
      have hh := Pl.half_spec h2
      refine evS ?_
      simp only [customhouseref02_link.f, if_neg (show ¬ (m : Int) = (l.length : Int) by omega)]
      refine Ev.bind (rhalfE h2 (by omega)) ?_
      simp only [if_pos (show (0 : Int) ≤ ((Pl.half l.length : Nat) : Int) by omega), if_pos (show ((Pl.half l.length : Nat) : Int) ≤ (l.length : Int) by omega), Int.toNat_natCast]
      by_cases hc : m ≤ Pl.half l.length
      · simp only [if_pos (show (m : Int) ≤ ((Pl.half l.length : Nat) : Int) by omega)]
        rw [Pl.links_left ⟨h1, hmn⟩ hc, List.reverse_cons]
        refine Ev.bind (ih _ (by omega) (l.take (Pl.half l.length)) m wh (Pl.take_len h2) h1 hc (by omega) (small_take hs)) ?_
        refine Ev.bind (rrootE _ (l.drop (Pl.half l.length)) rfl (by have := Pl.drop_lt h2; omega) (small_drop hs)) ?_
        have := Pl.links_len _ (l.take (Pl.half l.length)) m wh rfl
        have ht := Pl.take_lt h2
        simp only [if_pos (show (Pl.links (l.take (Pl.half l.length)) m wh).reverse.length < 8796093022208 by rw [List.length_reverse]; omega)]
        exact Ev.now _
      · simp only [if_neg (show ¬ (m : Int) ≤ ((Pl.half l.length : Nat) : Int) by omega)]
        rw [Pl.links_right ⟨h1, hmn⟩ hc, List.reverse_cons]
        have e1 : wrap64 ((m : Int) - ((Pl.half l.length : Nat) : Int)) = ((m - Pl.half l.length : Nat) : Int) := by rw [w64_id] <;> omega
        simp only [e1]
        refine Ev.bind (ih (l.length - Pl.half l.length) (by omega) (l.drop (Pl.half l.length)) (m - Pl.half l.length) false (by simp) (by omega) (by omega) (by omega) (small_drop hs)) ?_
        refine Ev.bind (rrootE _ (l.take (Pl.half l.length)) rfl (by have := Pl.take_lt h2; omega) (small_take hs)) ?_
        have := Pl.links_len _ (l.drop (Pl.half l.length)) (m - Pl.half l.length) false rfl
        have ht := Pl.drop_lt h2
        simp only [if_pos (show (Pl.links (l.drop (Pl.half l.length)) (m - Pl.half l.length) false).reverse.length < 8796093022208 by rw [List.length_reverse]; omega)]
        exact Ev.now _
    · refine evS ?_
      simp only [customhouseref02_link.f, if_pos (show (m : Int) = (l.length : Int) by omega)]
      rw [Pl.links_end (by omega)]
      cases wh with
      | true => simp only [if_true]; exact Ev.now _
      | false =>
        simp only [Bool.false_eq_true, if_false]
        exact Ev.bind (rrootE _ l rfl (by omega) hs) (Ev.now _)
theorem rlinkE (l : List ByteArray) (m : Int) (hn : l.length ≤ 1000000) (hs : ∀ x ∈ l, x.size ≤ 1000) : ∃ r, r.1.length ≤ 1000002 ∧ Ev (fun k => tree_Link.f k l m) r ∧ Ev (fun k => customhouseref02_Link.f k l m) r := by
  by_cases h : m < 0 ∨ (l.length : Int) < m
  · refine ⟨([], 1), by simp, ?_, ?_⟩
    · unfold tree_Link.f
      by_cases h0 : m < 0
      · simp only [if_pos h0]
        refine evS ?_
        simp only [tree_Link.j0, if_true]; exact Ev.now _
      · simp only [if_neg h0, decide_eq_true (show m > (l.length : Int) by omega)]
        refine evS ?_
        simp only [tree_Link.j0, if_true]; exact Ev.now _
    · unfold customhouseref02_Link.f
      by_cases h0 : m < 0
      · simp only [if_pos h0]
        refine evS ?_
        simp only [customhouseref02_Link.j0, if_true]; exact Ev.now _
      · simp only [if_neg h0, decide_eq_true (show m > (l.length : Int) by omega)]
        refine evS ?_
        simp only [customhouseref02_Link.j0, if_true]; exact Ev.now _
  · obtain ⟨j, rfl⟩ : ∃ j : Nat, m = (j : Int) := ⟨m.toNat, by omega⟩
    refine ⟨_, by have := Pl.links_len _ l j true rfl; unfold Pl.linkP; simp only [List.length_reverse]; omega, linkE l j (by omega) hn hs, ?_⟩
    unfold customhouseref02_Link.f
    simp only [if_neg (show ¬ (j : Int) < 0 by omega), decide_eq_false (show ¬ (j : Int) > (l.length : Int) by omega)]
    refine evS ?_
    simp only [customhouseref02_Link.j0, Bool.false_eq_true, if_false]
    by_cases h0 : j = 0
    · subst h0
      simp only [if_pos (show ((0 : Nat) : Int) = 0 from rfl)]
      refine evE (Ev.now _) ?_
      unfold Pl.linkP; rw [Pl.links_end (by omega)]; rfl
    · simp only [if_neg (show ¬ (j : Int) = 0 by omega)]
      by_cases h1 : j = l.length
      · simp only [if_pos (show (j : Int) = (l.length : Int) by omega)]
        refine evE (Ev.now _) ?_
        unfold Pl.linkP; rw [Pl.links_end (by omega)]; rfl
      · simp only [if_neg (show ¬ (j : Int) = (l.length : Int) by omega)]
        exact Ev.bind (rlink _ l j true rfl (by omega) (by omega) hn hs) (Ev.now _)

/-! ### Check and Extends of the reference -/
theorem digests_l0 (l : List ByteArray) (hl : l.length ≤ 1000000) (hs : ∀ x ∈ l, x.size ≤ 1000) : ∀ (d i : Nat), i + d = l.length → Ev (fun k => customhouseref02_digests.l0 k l (i : Int)) ((l.drop i).all Pl.isDig) := by
  intro d
  induction d with
  | zero =>
    intro i hi
    refine evS ?_
    simp only [customhouseref02_digests.l0, if_neg (show ¬ (i : Int) < (l.length : Int) by omega)]
    rw [List.drop_eq_nil_of_le (by omega)]
    exact Ev.now _
  | succ d ih =>
    intro i hi
    have hlt : i < l.length := by omega
    have r1 : rdOf ByteArray.empty l (i : Int) = l[i] := by
      show l.getD i _ = _
      rw [List.getD_eq_getElem?_getD, List.getElem?_eq_getElem hlt]; rfl
    have e1 : wrap64 ((i : Int) + 1) = ((i + 1 : Nat) : Int) := by rw [w64_id] <;> omega
    refine evS ?_
    simp only [customhouseref02_digests.l0, if_pos (show (i : Int) < (l.length : Int) by omega), if_pos (show (0 : Int) ≤ (i : Int) by omega), r1, e1]
    refine Ev.bind (refIsE _ (by have := hs l[i] (List.getElem_mem hlt); omega)) ?_
    rw [List.drop_eq_getElem_cons hlt, List.all_cons]
    cases hd : Pl.isDig l[i] with
    | false => simp only [Bool.false_eq_true, if_false, Bool.false_and]; exact Ev.now _
    | true => simp only [if_true, Bool.true_and]; exact ih (i + 1) (by omega)
theorem digestsE (l : List ByteArray) (hl : l.length ≤ 1000000) (hs : ∀ x ∈ l, x.size ≤ 1000) : Ev (fun k => customhouseref02_digests.f k l) (l.all Pl.isDig) := by
  unfold customhouseref02_digests.f
  have := digests_l0 l hl hs l.length 0 (by omega)
  rw [List.drop_zero] at this
  exact this
theorem climb_total : ∀ (n i : Nat), i < n → n ≤ 1000000 → ∃ L : Nat, L ≤ n ∧ Ev (fun k => customhouseref02_length.f k (n : Int) (i : Int)) (L : Int) ∧ ∀ (d : ByteArray) (xs : List ByteArray), xs.length = L → ∃ r ts, Pl.Climb n i d xs r ts := by
  intro n
  induction n using Nat.strongRecOn with
  | ind n ih =>
    intro i hi hn
    by_cases h2 : 2 ≤ n
    · have hh := Pl.half_spec h2
      by_cases hc : i < Pl.half n
      · obtain ⟨L, hL, he, hx⟩ := ih (Pl.half n) (by omega) i hc (by omega)
        refine ⟨L + 1, by omega, ?_, ?_⟩
        · refine evS ?_
          simp only [customhouseref02_length.f, if_neg (show ¬ (n : Int) = 1 by omega)]
          refine Ev.bind (rhalfE h2 (by omega)) ?_
          simp only [if_pos (show (i : Int) < ((Pl.half n : Nat) : Int) by omega)]
          refine Ev.bind he ?_
          exact evE (Ev.now _) (by rw [w64_id] <;> omega)
        · intro d xs hl
          rcases Pl.list_snoc xs with rfl | ⟨ys, y, rfl⟩
          · simp at hl
          · obtain ⟨r, ts, h⟩ := hx d ys (by simpa using hl)
            exact ⟨_, _, Pl.Climb.left y h2 hc h⟩
      · obtain ⟨L, hL, he, hx⟩ := ih (n - Pl.half n) (by omega) (i - Pl.half n) (by omega) (by omega)
        refine ⟨L + 1, by omega, ?_, ?_⟩
        · have w1 : wrap64 ((n : Int) - ((Pl.half n : Nat) : Int)) = ((n - Pl.half n : Nat) : Int) := by rw [w64_id] <;> omega
          have w2 : wrap64 ((i : Int) - ((Pl.half n : Nat) : Int)) = ((i - Pl.half n : Nat) : Int) := by rw [w64_id] <;> omega
          refine evS ?_
          simp only [customhouseref02_length.f, if_neg (show ¬ (n : Int) = 1 by omega)]
          refine Ev.bind (rhalfE h2 (by omega)) ?_
          simp only [if_neg (show ¬ (i : Int) < ((Pl.half n : Nat) : Int) by omega), w1, w2]
          refine Ev.bind he ?_
          exact evE (Ev.now _) (by rw [w64_id] <;> omega)
        · intro d xs hl
          rcases Pl.list_snoc xs with rfl | ⟨ys, y, rfl⟩
          · simp at hl
          · obtain ⟨r, ts, h⟩ := hx d ys (by simpa using hl)
            exact ⟨_, _, Pl.Climb.right y h2 hc h⟩
    · obtain rfl : n = 1 := by omega
      obtain rfl : i = 0 := by omega
      refine ⟨0, by omega, ?_, ?_⟩
      · refine evS ?_
        simp only [customhouseref02_length.f, if_pos (show ((1 : Nat) : Int) = 1 from rfl)]
        exact Ev.now _
      · intro d xs hl
        rw [List.length_eq_zero_iff.1 hl]
        exact ⟨_, _, Pl.Climb.one d⟩
theorem both_total : ∀ (n m : Nat) (wh : Bool), 1 ≤ m → m ≤ n → n ≤ 1000000 → ∃ L : Nat, L ≤ n + 1 ∧ Ev (fun k => customhouseref02_long.f k (n : Int) (m : Int) wh) (L : Int) ∧ ∀ (old : ByteArray) (xs : List ByteArray), xs.length = L → ∃ a b ts, Pl.Both n m wh old xs a b ts := by
  intro n
  induction n using Nat.strongRecOn with
  | ind n ih =>
    intro m wh h1 hm hn
    by_cases hmn : m < n
    · have h2 : 2 ≤ n := by omega
      have hh := Pl.half_spec h2
      by_cases hc : m ≤ Pl.half n
      · obtain ⟨L, hL, he, hx⟩ := ih (Pl.half n) (by omega) m wh h1 hc (by omega)
        refine ⟨L + 1, by omega, ?_, ?_⟩
        · refine evS ?_
          simp only [customhouseref02_long.f, if_neg (show ¬ (m : Int) = (n : Int) by omega)]
          refine Ev.bind (rhalfE h2 (by omega)) ?_
          simp only [if_pos (show (m : Int) ≤ ((Pl.half n : Nat) : Int) by omega)]
          refine Ev.bind he ?_
          exact evE (Ev.now _) (by rw [w64_id] <;> omega)
        · intro d xs hl
          rcases Pl.list_snoc xs with rfl | ⟨ys, y, rfl⟩
          · simp at hl
          · obtain ⟨a, b, ts, h⟩ := hx d ys (by simpa using hl)
            exact ⟨_, _, _, Pl.Both.left y h1 hmn hc h⟩
      · obtain ⟨L, hL, he, hx⟩ := ih (n - Pl.half n) (by omega) (m - Pl.half n) false (by omega) (by omega) (by omega)
        refine ⟨L + 1, by omega, ?_, ?_⟩
        · have w1 : wrap64 ((n : Int) - ((Pl.half n : Nat) : Int)) = ((n - Pl.half n : Nat) : Int) := by rw [w64_id] <;> omega
          have w2 : wrap64 ((m : Int) - ((Pl.half n : Nat) : Int)) = ((m - Pl.half n : Nat) : Int) := by rw [w64_id] <;> omega
          refine evS ?_
          simp only [customhouseref02_long.f, if_neg (show ¬ (m : Int) = (n : Int) by omega)]
          refine Ev.bind (rhalfE h2 (by omega)) ?_
          simp only [if_neg (show ¬ (m : Int) ≤ ((Pl.half n : Nat) : Int) by omega), w1, w2]
          refine Ev.bind he ?_
          exact evE (Ev.now _) (by rw [w64_id] <;> omega)
        · intro d xs hl
          rcases Pl.list_snoc xs with rfl | ⟨ys, y, rfl⟩
          · simp at hl
          · obtain ⟨a, b, ts, h⟩ := hx d ys (by simpa using hl)
            exact ⟨_, _, _, Pl.Both.right y h1 hmn hc h⟩
    · obtain rfl : m = n := by omega
      cases wh with
      | true =>
        refine ⟨0, by omega, ?_, ?_⟩
        · refine evS ?_
          simp only [customhouseref02_long.f, if_true]
          exact Ev.now _
        · intro d xs hl
          rw [List.length_eq_zero_iff.1 hl]
          exact ⟨_, _, _, Pl.Both.whole m d⟩
      | false =>
        refine ⟨1, by omega, ?_, ?_⟩
        · refine evS ?_
          simp only [customhouseref02_long.f, if_true, Bool.false_eq_true, if_false]
          exact Ev.now _
        · intro d xs hl
          obtain ⟨y, rfl⟩ := List.length_eq_one_iff.1 hl
          exact ⟨_, _, _, Pl.Both.part m d y⟩
theorem rcheckE (root : ByteArray) (n i : Int) (s : ByteArray) (xs : List ByteArray) (hs : s.size ≤ 1000) (hl : xs.length ≤ 1000) (hx : ∀ x ∈ xs, x.size ≤ 1000) : Ev (fun k => customhouseref02_Check.f k root n i s xs) (Pl.checkP root n i s xs) := by
  have out : Ev (fun k => customhouseref02_Check.j0 k root n i s xs true) false := by
    refine evS ?_
    simp only [customhouseref02_Check.j0, if_true]; exact Ev.now _
  have no : ∀ {b : Bool}, (b = true → False) → b = false := fun h => Bool.eq_false_iff.2 h
  unfold customhouseref02_Check.f
  by_cases h1 : n > 1000000
  · simp only [if_pos h1]
    exact evE out (by unfold Pl.checkP; rw [if_pos (.inl h1)])
  · by_cases h2 : i < 0
    · simp only [if_neg h1, if_pos h2]
      exact evE out (by unfold Pl.checkP; rw [if_pos (.inr (.inl h2))])
    · by_cases h3 : i ≥ n
      · simp only [if_neg h1, if_neg h2, if_pos h3]
        exact evE out (by unfold Pl.checkP; rw [if_pos (.inr (.inr (.inl h3)))])
      · simp only [if_neg h1, if_neg h2, if_neg h3]
        obtain ⟨N, rfl⟩ : ∃ N : Nat, n = (N : Int) := ⟨n.toNat, by omega⟩
        obtain ⟨I, rfl⟩ : ∃ I : Nat, i = (I : Int) := ⟨i.toNat, by omega⟩
        obtain ⟨L, hL, he, ht⟩ := climb_total N I (by omega) (by omega)
        refine Ev.bind he ?_
        by_cases h4 : xs.length = L
        · simp only [if_pos (show (xs.length : Int) = (L : Int) by omega)]
          refine Ev.bind (digestsE xs (by omega) hx) ?_
          cases hd : xs.all Pl.isDig with
          | false =>
            exact evE out (by unfold Pl.checkP; rw [if_pos (.inr (.inr (.inr hd)))])
          | true =>
            obtain ⟨r, ts, hc⟩ := ht (Pl.leafP s) xs h4
            rw [Bool.not_true]
            refine evS ?_
            simp only [customhouseref02_Check.j0, Bool.false_eq_true, if_false]
            refine Ev.bind (rleafE s hs) ?_
            refine Ev.bind (upE hc (by have := Pl.dig_size (Pl.leafP_dig s); omega) (by omega) (by omega) hx) ?_
            refine evE (Ev.now _) ?_
            unfold Pl.checkP
            rw [if_neg (by rw [hd]; simp; omega)]
            have := Pl.up_of_climb hc N [] (Nat.le_refl _) (Pl.all_full hd)
            rw [List.nil_append] at this
            simp only [Int.toNat_natCast, this]
            simp
        · simp only [if_neg (show ¬ (xs.length : Int) = (L : Int) by omega)]
          refine evE out (Eq.symm (no fun h => ?_))
          obtain ⟨_, _, ts, hc⟩ := Pl.checkP_climb h
          obtain ⟨r, us, hc'⟩ := ht ByteArray.empty (List.replicate L ByteArray.empty) (by simp)
          have := Pl.climb_len hc hc'
          rw [List.length_replicate] at this
          exact h4 this
theorem rextendsE (old : ByteArray) (m : Int) (root : ByteArray) (n : Int) (xs : List ByteArray) (ho : old.size ≤ 1000) (hr : root.size ≤ 1000) (hl : xs.length ≤ 1000) (hx : ∀ x ∈ xs, x.size ≤ 1000) : Ev (fun k => customhouseref02_Extends.f k old m root n xs) (Pl.extendsP old m root n xs) := by
  have out : Ev (fun k => customhouseref02_Extends.j0 k old m root n xs true) false := by
    refine evS ?_
    simp only [customhouseref02_Extends.j0, if_true]; exact Ev.now _
  have no : ∀ {b : Bool}, (b = true → False) → b = false := fun h => Bool.eq_false_iff.2 h
  unfold customhouseref02_Extends.f
  by_cases h1 : m < 0
  · simp only [if_pos h1]
    exact evE out (by unfold Pl.extendsP; rw [if_pos (.inl h1)])
  · by_cases h2 : m > n
    · simp only [if_neg h1, if_pos h2]
      exact evE out (by unfold Pl.extendsP; rw [if_pos (.inr (.inl h2))])
    · by_cases h3 : n > 1000000
      · simp only [if_neg h1, if_neg h2, if_pos h3]
        exact evE out (by unfold Pl.extendsP; rw [if_pos (.inr (.inr (.inl h3)))])
      · simp only [if_neg h1, if_neg h2, if_neg h3]
        refine Ev.bind (digestsE [old, root] (by simp) (by intro x h; simp at h; rcases h with rfl | rfl <;> assumption)) ?_
        have hor : ([old, root] : List ByteArray).all Pl.isDig = (Pl.isDig old && Pl.isDig root) := by simp
        cases hd2 : (Pl.isDig old && Pl.isDig root) with
        | false =>
          rw [hor, hd2]
          simp only [Bool.false_eq_true, if_false]
          exact evE out (by unfold Pl.extendsP; rw [if_pos (.inr (.inr (.inr (.inr hd2))))])
        | true =>
          rw [hor, hd2]
          simp only [if_true]
          refine Ev.bind (digestsE xs (by omega) hx) ?_
          cases hd : xs.all Pl.isDig with
          | false =>
            exact evE out (by unfold Pl.extendsP; rw [if_pos (.inr (.inr (.inr (.inl hd))))])
          | true =>
            rw [Bool.not_true]
            obtain ⟨N, rfl⟩ : ∃ N : Nat, n = (N : Int) := ⟨n.toNat, by omega⟩
            obtain ⟨M, rfl⟩ : ∃ M : Nat, m = (M : Int) := ⟨m.toNat, by omega⟩
            have hq : Pl.extendsP old (M : Int) root (N : Int) xs = if (M : Int) = 0 then xs.isEmpty && (old.toList == Pl.emptyP.toList && (decide ((N : Int) > 0) || root.toList == old.toList))
              else ((Pl.bothP N N M true old xs false).1.toList == old.toList && ((Pl.bothP N N M true old xs false).2.1.toList == root.toList && (!(Pl.bothP N N M true old xs false).2.2.2 && (Pl.bothP N N M true old xs false).2.2.1.isEmpty))) := by
              unfold Pl.extendsP
              rw [if_neg (by rw [hd, hd2]; simp; omega)]
              rfl
            have hz : ((xs.length : Int) = 0) ↔ xs = [] := by rw [← List.length_eq_zero_iff]; omega
            refine evS ?_
            simp only [customhouseref02_Extends.j0, Bool.false_eq_true, if_false]
            by_cases h0 : (M : Int) = 0
            · simp only [if_pos h0]
              rw [hq, if_pos h0]
              by_cases hxs : xs = []
              · simp only [if_pos (hz.2 hxs)]
                refine Ev.bind remptyE ?_
                rw [hxs]
                by_cases he : old.toList = Pl.emptyP.toList
                · simp only [if_pos he]
                  by_cases hN : (N : Int) > 0
                  · simp only [if_pos hN]
                    exact evE (Ev.now _) (by simp [he]; omega)
                  · simp only [if_neg hN]
                    exact evE (Ev.now _) (by rw [decide_eq_false hN]; simp [he])
                · simp only [if_neg he]
                  exact evE (Ev.now _) (by rw [beq_eq_false_iff_ne.2 he]; simp)
              · simp only [if_neg (fun h => hxs (hz.1 h))]
                exact evE (Ev.now _) (by rw [List.isEmpty_eq_false_iff.2 hxs]; rfl)
            · simp only [if_neg h0]
              have hM : 1 ≤ M := by omega
              by_cases hMN : (M : Int) = (N : Int)
              · simp only [if_pos hMN]
                obtain rfl : M = N := by omega
                have hb : Pl.bothP M M M true old xs false = (old, old, xs, false) := by
                  obtain ⟨f, hf⟩ : ∃ f, M = f + 1 := ⟨M - 1, by omega⟩
                  have := Pl.bothP_end f M true old xs false
                  rw [if_pos rfl, ← hf] at this
                  exact this
                rw [hq, if_neg h0, hb]
                by_cases hxs : xs = []
                · simp only [if_pos (hz.2 hxs)]
                  exact evE (Ev.now _) (by rw [hxs]; simp)
                · simp only [if_neg (fun h => hxs (hz.1 h))]
                  exact evE (Ev.now _) (by simp [List.isEmpty_eq_false_iff.2 hxs])
              · simp only [if_neg hMN]
                obtain ⟨L, hL, he, ht⟩ := both_total N M true hM (by omega) (by omega)
                refine Ev.bind he ?_
                by_cases h4 : xs.length = L
                · simp only [if_pos (show (xs.length : Int) = (L : Int) by omega)]
                  obtain ⟨a, b, ts, hc⟩ := ht old xs h4
                  refine Ev.bind (bothE hc ho hM (by omega) (by omega) hx) ?_
                  have := Pl.of_both hc N [] (Nat.le_refl _) (by omega) (Pl.all_full hd)
                  rw [List.nil_append] at this
                  rw [hq, if_neg h0, this]
                  by_cases ha : a.toList = old.toList
                  · simp only [if_pos ha]
                    exact evE (Ev.now _) (by simp [ha])
                  · simp only [if_neg ha]
                    exact evE (Ev.now _) (by rw [beq_eq_false_iff_ne.2 ha]; rfl)
                · simp only [if_neg (show ¬ (xs.length : Int) = (L : Int) by omega)]
                  refine evE (Ev.now _) (Eq.symm (no fun h => ?_))
                  obtain ⟨_, _, ts, hc⟩ := Pl.extendsP_both hM h
                  obtain ⟨a, b, us, hc'⟩ := ht ByteArray.empty (List.replicate L ByteArray.empty) (by simp)
                  have := Pl.both_len hc hc'
                  rw [List.length_replicate] at this
                  exact h4 this

theorem Pl.TreeMatchesReference (l0 : List ByteArray) (a1 a2 a3 : Int) (a4 a5 a6 : ByteArray) (l7 : List ByteArray) (h0 : l0.length ≤ 9223372036854775807) (_h0' : ∀ x ∈ l0, x.size ≤ 9223372036854775807) (h1 : (Lit.int .i64 a1).wf = true) (h2 : (Lit.int .i64 a2).wf = true) (h3 : (Lit.int .i64 a3).wf = true)
    (_h4 : a4.size ≤ 9223372036854775807) (_h5 : a5.size ≤ 9223372036854775807) (_h6 : a6.size ≤ 9223372036854775807) (h7 : l7.length ≤ 9223372036854775807) (_h7' : ∀ x ∈ l7, x.size ≤ 9223372036854775807) :
    ∃ k, customhouselaw02_TreeMatchesReference.f k l0 a1 a2 a3 a4 a5 a6 l7 = some true := by
  refine Ev.rounds (g := fun k => customhouselaw02_TreeMatchesReference.f k l0 a1 a2 a3 a4 a5 a6 l7) ?_
  unfold customhouselaw02_TreeMatchesReference.f
  refine Ev.bind head02E ?_
  have out : Ev (fun k => customhouselaw02_TreeMatchesReference.j0 k l0 a1 a2 a3 a4 a5 a6 l7 true true) true := by
    refine evS ?_
    simp only [customhouselaw02_TreeMatchesReference.j0, if_true]
    exact Ev.now _
  refine Ev.bind (few20E l0 h0) ?_
  cases hf0 : Pl.few20 l0 with
  | false => simp only [Bool.false_eq_true, if_false]; exact out
  | true =>
    simp only [if_true]
    refine Ev.bind (few20E l7 h7) ?_
    cases hf7 : Pl.few20 l7 with
    | false => simp only [Bool.false_eq_true, if_false]; exact out
    | true =>
      simp only [if_true]
      by_cases s4 : (a4.size : Int) > 100
      · simp only [if_pos s4]; exact out
      · simp only [if_neg s4]
        by_cases s5 : (a5.size : Int) > 100
        · simp only [if_pos s5]; exact out
        · simp only [if_neg s5]
          by_cases s6 : (a6.size : Int) > 100
          · rw [decide_eq_true s6]; exact out
          · rw [decide_eq_false s6]
            obtain ⟨n0, s0⟩ := few20_of hf0
            obtain ⟨n7, s7⟩ := few20_of hf7
            have hs0 := few_small s0
            have hs7 := few_small s7
            have r0 := rootE _ l0 rfl (by omega) hs0
            have rr0 := rrootE _ l0 rfl (by omega) hs0
            obtain ⟨p, hpl, hp1, hp2⟩ := rpathE l0 a1 (by omega) hs0
            obtain ⟨q, hql, hq1, hq2⟩ := rlinkE l0 a2 (by omega) hs0
            refine evS ?_
            simp only [customhouselaw02_TreeMatchesReference.j0, Bool.false_eq_true, if_false]
            refine Ev.bind hp1 ?_
            refine Ev.bind hp2 ?_
            refine Ev.bind hq1 ?_
            refine Ev.bind hq2 ?_
            refine Ev.bind r0 ?_
            refine Ev.bind rr0 ?_
            simp only [if_true]
            refine Ev.bind (same_any p.1 (by omega)) ?_
            simp only [if_true]
            refine Ev.bind (same_any q.1 (by omega)) ?_
            refine evS ?_
            simp only [customhouselaw02_TreeMatchesReference.j1, checkE _ _ _ a6 l7 (by omega) (by omega), Option.bind_some]
            refine Ev.bind (rcheckE a4 a3 a1 a6 l7 (by omega) (by omega) hs7) ?_
            simp only [beq_self_eq_true, if_true]
            refine Ev.bind r0 ?_
            (try simp only [checkE _ _ _ a6 l7 (by omega) (by omega), Option.bind_some])
            refine Ev.bind rr0 ?_
            refine Ev.bind (rcheckE _ _ a1 a6 l7 (by omega) (by omega) hs7) ?_
            rw [beq_self_eq_true]
            refine evS ?_
            simp only [customhouselaw02_TreeMatchesReference.j2, if_true, extendsE _ _ _ _ l7 (by omega), Option.bind_some]
            refine Ev.bind (rextendsE a5 a2 a4 a3 l7 (by omega) (by omega) (by omega) hs7) ?_
            simp only [beq_self_eq_true, if_true]
            refine Ev.bind r0 ?_
            (try simp only [extendsE _ _ _ _ l7 (by omega), Option.bind_some])
            refine Ev.bind rr0 ?_
            refine Ev.bind (rextendsE a5 a2 _ _ l7 (by omega) (by rw [Pl.root_size]; omega) (by omega) hs7) ?_
            exact evE (Ev.now _) (beq_self_eq_true _)
end Go.Proofs.YtdlipbfcadmhjaaGreatDoor
