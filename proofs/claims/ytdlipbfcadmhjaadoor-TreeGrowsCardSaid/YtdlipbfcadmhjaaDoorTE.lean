/- tree, plain: what Root, Path, Link and the reference functions answer. -/
import Derived.Test.YtdlipbfcadmhjaaDoorTM
import Derived.Test.YtdlipbfcadmhjaaDoorQ2
import Derived.Test.YtdlipbfcadmhjaaDoorPG2x4
import Derived.Test.YtdlipbfcadmhjaaDoorPG2x5
import Derived.Test.YtdlipbfcadmhjaaDoorPG2x10
import Derived.Test.YtdlipbfcadmhjaaDoorPG2x12
import Derived.Test.YtdlipbfcadmhjaaDoorPG2x13
import Derived.Test.YtdlipbfcadmhjaaDoorPG2x14
namespace Go.Proofs.YtdlipbfcadmhjaaDoor
set_option linter.unusedVariables false
set_option linter.unusedSimpArgs false
open Go.RowKit Go.Proofs.YtdlipbfcadmhjaaDoorW.PrintWords Go.Proofs.YtdlipbfcadmhjaaDoorW.PrintMore PG2

theorem few2 (a b : ByteArray) {n : Nat} (ha : a.size ≤ n) (hb : b.size ≤ n) (h4 : 5 ≤ n) : Pl.few [a, b] n = true := by simp [Pl.few, ha, hb]
theorem few_leaf (x : ByteArray) (h : x.size ≤ 1000) : Pl.few (Pl.leafL x) 1000 = true := by
  simp [Pl.few, Pl.leafL, h]; decide
theorem few_node (a b : ByteArray) (ha : a.size ≤ 1000) (hb : b.size ≤ 1000) : Pl.few (Pl.nodeL a b) 1000 = true := by
  simp [Pl.few, Pl.nodeL, ha, hb]; decide
theorem few_empty : Pl.few [(⟨#[101, 109, 112, 116, 121]⟩ : ByteArray)] 1000 = true := by decide
theorem leafLE (x : ByteArray) (h : x.size ≤ 1000) : digest_List.f [(⟨#[108, 101, 97, 102]⟩ : ByteArray), x] = some (Pl.leafP x) := listE (Pl.few_caps (few_leaf x h) (by omega)).2.2
theorem emptyLE : digest_List.f [(⟨#[101, 109, 112, 116, 121]⟩ : ByteArray)] = some Pl.emptyP := listE (Pl.few_caps few_empty (by omega)).2.2
theorem small_take {l : List ByteArray} {n m : Nat} (h : ∀ x ∈ l, x.size ≤ n) : ∀ x ∈ l.take m, x.size ≤ n := fun x hx => h x (List.mem_of_mem_take hx)
theorem small_drop {l : List ByteArray} {n m : Nat} (h : ∀ x ∈ l, x.size ≤ n) : ∀ x ∈ l.drop m, x.size ≤ n := fun x hx => h x (List.mem_of_mem_drop hx)

theorem rootE : ∀ (n : Nat) (l : List ByteArray), l.length = n → n ≤ 1000000 → (∀ x ∈ l, x.size ≤ 1000) → Ev (fun k => tree_Root.f k l) (Pl.rootP l) := by
  intro n
  induction n using Nat.strongRecOn with
  | ind n ih =>
    intro l hl hn hs
    by_cases h2 : 2 ≤ l.length
    · have hh := Pl.half_spec h2
      refine evS ?_
      simp only [tree_Root.f, if_neg (show ¬ (l.length : Int) = 0 by omega), if_neg (show ¬ (l.length : Int) = 1 by omega)]
      refine Ev.bind (halfE h2 (by omega)) ?_
      simp only [if_pos (show (0 : Int) ≤ ((Pl.half l.length : Nat) : Int) by omega), if_pos (show ((Pl.half l.length : Nat) : Int) ≤ (l.length : Int) by omega), Int.toNat_natCast]
      refine Ev.bind (ih _ (by have := Pl.take_lt h2; omega) (l.take (Pl.half l.length)) rfl (by have := Pl.take_lt h2; omega) (small_take hs)) ?_
      refine Ev.bind (ih _ (by have := Pl.drop_lt h2; omega) (l.drop (Pl.half l.length)) rfl (by have := Pl.drop_lt h2; omega) (small_drop hs)) ?_
      simp only [nodeE _ _ (by rw [Pl.root_size]; omega : (Pl.rootP (l.take (Pl.half l.length))).size ≤ 16) (by rw [Pl.root_size]; omega : (Pl.rootP (l.drop (Pl.half l.length))).size ≤ 16), Option.bind_some]
      exact evE (Ev.now _) (Pl.root_two h2).symm
    · match l, h2, hs with
      | [], _, _ =>
        refine evS ?_
        simp only [tree_Root.f, if_pos (show (([] : List ByteArray).length : Int) = 0 from rfl), emptyLE, Option.bind_some]
        exact evE (Ev.now _) Pl.root_nil.symm
      | [x], _, hs =>
        refine evS ?_
        simp only [tree_Root.f, if_neg (show ¬ (([x] : List ByteArray).length : Int) = 0 by simp), if_pos (show (([x] : List ByteArray).length : Int) = 1 from rfl), if_pos (show (0 : Int) < (([x] : List ByteArray).length : Int) by simp), show rdOf ByteArray.empty [x] 0 = x from rfl, leafLE x (hs x (by simp)), Option.bind_some]
        exact evE (Ev.now _) (Pl.root_one x).symm
      | _ :: _ :: _, h2, _ => exact absurd (by simp) h2

theorem getD_set_of {x : List ByteArray} {i p : Nat} {v : ByteArray} (hi : i < x.length) : (x.set i v).getD p ByteArray.empty = if p = i then v else x.getD p ByteArray.empty := by
  simp only [List.getD_eq_getElem?_getD, List.getElem?_set]
  by_cases h : i = p
  · subst h; simp [hi]
  · rw [if_neg h, if_neg (fun e => h e.symm)]
theorem rev_l0 (r : List ByteArray) : ∀ (d i m : Nat) (x : List ByteArray), i + d = m → m ≤ x.length → x.length ≤ 4611686018427387904 → r.length = x.length →
    (∀ p, p < x.length → r.getD p ByteArray.empty = if i ≤ p ∧ p < m then x.getD (i + m - 1 - p) ByteArray.empty else x.getD p ByteArray.empty) → Ev (fun k => slices_Reverse_string_string.l0 k x (i : Int) ((m : Int) - 1)) r := by
  intro d
  induction d using Nat.strongRecOn with
  | ind d ih =>
    intro i m x hd hm hx hr hs
    by_cases h2 : 2 ≤ d
    · refine evS ?_
      have e1 : wrap64 ((i : Int) + 1) = ((i + 1 : Nat) : Int) := by rw [w64_id] <;> omega
      have e2 : wrap64 (((m : Int) - 1) - 1) = ((m - 1 : Nat) : Int) - 1 := by rw [w64_id] <;> omega
      have e3 : ((m : Int) - 1).toNat = m - 1 := by omega
      have g1 : rdOf ByteArray.empty x ((m : Int) - 1) = x.getD (m - 1) ByteArray.empty := by unfold rdOf; rw [e3]
      have g2 : rdOf ByteArray.empty x (i : Int) = x.getD i ByteArray.empty := rfl
      simp only [slices_Reverse_string_string.l0, if_pos (show (i : Int) < (m : Int) - 1 by omega), if_pos (show (0 : Int) ≤ (m : Int) - 1 by omega), if_pos (show (m : Int) - 1 < (x.length : Int) by omega), if_pos (show (0 : Int) ≤ (i : Int) by omega), if_pos (show (i : Int) < (x.length : Int) by omega), e1, e2, e3, Int.toNat_natCast, g1, g2]
      refine ih (d - 2) (by omega) (i + 1) (m - 1) _ (by omega) (by simp; omega) (by simpa using hx) (by simpa using hr) fun p hp => ?_
      simp only [List.length_set] at hp
      rw [hs p hp]
      have s1 : ∀ q, ((x.set i (x.getD (m - 1) ByteArray.empty)).set (m - 1) (x.getD i ByteArray.empty)).getD q ByteArray.empty = if q = m - 1 then x.getD i ByteArray.empty else if q = i then x.getD (m - 1) ByteArray.empty else x.getD q ByteArray.empty := fun q => by
        rw [getD_set_of (by simp; omega), getD_set_of (by omega)]
      rw [s1, s1]
      by_cases c1 : i + 1 ≤ p ∧ p < m - 1
      · rw [if_pos (by omega : i ≤ p ∧ p < m), if_pos c1, if_neg (by omega), if_neg (by omega), show i + 1 + (m - 1) - 1 - p = i + m - 1 - p by omega]
      · rw [if_neg c1]
        by_cases c2 : p = m - 1
        · rw [if_pos c2, if_pos (by omega), show i + m - 1 - p = i by omega]
        · rw [if_neg c2]
          by_cases c3 : p = i
          · rw [if_pos c3, if_pos (by omega), show i + m - 1 - p = m - 1 by omega]
          · rw [if_neg c3, if_neg (by omega)]
    · refine evS ?_
      simp only [slices_Reverse_string_string.l0, if_neg (show ¬ (i : Int) < (m : Int) - 1 by omega)]
      refine evE (Ev.now _) ?_
      refine List.ext_getElem hr.symm fun p h1 h2' => ?_
      have := hs p h1
      rw [List.getD_eq_getElem?_getD, List.getElem?_eq_getElem h2', Option.getD_some] at this
      rw [this]
      split
      · rw [show i + m - 1 - p = p by omega, List.getD_eq_getElem?_getD, List.getElem?_eq_getElem h1]; rfl
      · rw [List.getD_eq_getElem?_getD, List.getElem?_eq_getElem h1]; rfl
theorem revE (x : List ByteArray) (h : x.length ≤ 4611686018427387904) : Ev (fun k => slices_Reverse_string_string.f k x) x.reverse := by
  unfold slices_Reverse_string_string.f
  rw [show wrap64 ((x.length : Int) - 1) = (x.length : Int) - 1 by rw [w64_id] <;> omega]
  refine rev_l0 x.reverse x.length 0 x.length x (by omega) (Nat.le_refl _) h (by simp) fun p hp => ?_
  rw [if_pos (by omega), List.getD_eq_getElem?_getD, List.getD_eq_getElem?_getD, List.getElem?_reverse hp, show 0 + x.length - 1 - p = x.length - 1 - p by omega]

theorem path_l0 : ∀ (n : Nat) (l : List ByteArray) (i : Nat) (out : List ByteArray), l.length = n → i < n → out.length + n ≤ 1000000 → (∀ x ∈ l, x.size ≤ 1000) → Ev (fun k => tree_Path.l0 k l (i : Int) out) ((out ++ Pl.sibs l i).reverse, 0) := by
  intro n
  induction n using Nat.strongRecOn with
  | ind n ih =>
    intro l i out hl hi ho hs
    by_cases h2 : 2 ≤ l.length
    · have hh := Pl.half_spec h2
      refine evS ?_
      simp only [tree_Path.l0, if_pos (show (l.length : Int) > 1 by omega)]
      refine Ev.bind (halfE h2 (by omega)) ?_
      simp only [if_pos (show (0 : Int) ≤ ((Pl.half l.length : Nat) : Int) by omega), if_pos (show ((Pl.half l.length : Nat) : Int) ≤ (l.length : Int) by omega), Int.toNat_natCast]
      by_cases hc : i < Pl.half l.length
      · simp only [if_pos (show (i : Int) < ((Pl.half l.length : Nat) : Int) by omega)]
        refine Ev.bind (rootE _ (l.drop (Pl.half l.length)) rfl (by have := Pl.drop_lt h2; omega) (small_drop hs)) ?_
        simp only [if_pos (show out.length < 8796093022208 by omega)]
        rw [Pl.sibs_left h2 hc, show out ++ Pl.rootP (l.drop (Pl.half l.length)) :: Pl.sibs (l.take (Pl.half l.length)) i = (out ++ [Pl.rootP (l.drop (Pl.half l.length))]) ++ Pl.sibs (l.take (Pl.half l.length)) i by simp]
        exact ih _ (by omega) (l.take (Pl.half l.length)) i _ (Pl.take_len h2) hc (by simp; omega) (small_take hs)
      · simp only [if_neg (show ¬ (i : Int) < ((Pl.half l.length : Nat) : Int) by omega)]
        refine Ev.bind (rootE _ (l.take (Pl.half l.length)) rfl (by have := Pl.take_lt h2; omega) (small_take hs)) ?_
        have e1 : wrap64 ((i : Int) - ((Pl.half l.length : Nat) : Int)) = ((i - Pl.half l.length : Nat) : Int) := by rw [w64_id] <;> omega
        simp only [if_pos (show out.length < 8796093022208 by omega), e1]
        rw [Pl.sibs_right h2 hc, show out ++ Pl.rootP (l.take (Pl.half l.length)) :: Pl.sibs (l.drop (Pl.half l.length)) (i - Pl.half l.length) = (out ++ [Pl.rootP (l.take (Pl.half l.length))]) ++ Pl.sibs (l.drop (Pl.half l.length)) (i - Pl.half l.length) by simp]
        exact ih (l.length - Pl.half l.length) (by omega) (l.drop (Pl.half l.length)) (i - Pl.half l.length) _ (by simp) (by omega) (by simp; omega) (small_drop hs)
    · refine evS ?_
      simp only [tree_Path.l0, if_neg (show ¬ (l.length : Int) > 1 by omega)]
      rw [Pl.sibs_end h2, List.append_nil]
      refine Ev.bind (revE out (by omega)) ?_
      exact Ev.now _
theorem pathE (l : List ByteArray) (i : Nat) (hi : i < l.length) (hn : l.length ≤ 1000000) (hs : ∀ x ∈ l, x.size ≤ 1000) : Ev (fun k => tree_Path.f k l (i : Int)) (Pl.pathP l i, 0) := by
  unfold tree_Path.f
  simp only [if_neg (show ¬ (i : Int) < 0 by omega), decide_eq_false (show ¬ (i : Int) ≥ (l.length : Int) by omega)]
  refine evS ?_
  simp only [tree_Path.j0, Bool.false_eq_true, if_false]
  have h := path_l0 l.length l i [] rfl hi (by simpa using hn) hs
  rw [List.nil_append] at h
  exact h
theorem pathE_err (l : List ByteArray) (i : Int) (hi : i < 0 ∨ (l.length : Int) ≤ i) : Ev (fun k => tree_Path.f k l i) ([], 1) := by
  unfold tree_Path.f
  by_cases h0 : i < 0
  · simp only [if_pos h0]
    refine evS ?_
    simp only [tree_Path.j0, if_true]
    exact Ev.now _
  · simp only [if_neg h0, decide_eq_true (show i ≥ (l.length : Int) by omega)]
    refine evS ?_
    simp only [tree_Path.j0, if_true]
    exact Ev.now _

theorem link_l0 : ∀ (n : Nat) (l : List ByteArray) (m : Nat) (wh : Bool) (out : List ByteArray), l.length = n → 1 ≤ m → m ≤ n → out.length + n ≤ 1000000 → (∀ x ∈ l, x.size ≤ 1000) → Ev (fun k => tree_Link.l0 k l (m : Int) out wh) ((out ++ Pl.links l m wh).reverse, 0) := by
  intro n
  induction n using Nat.strongRecOn with
  | ind n ih =>
    intro l m wh out hl h1 hm ho hs
    by_cases hmn : m < l.length
    · have h2 : 2 ≤ l.length := by omega
      have hh := Pl.half_spec h2
      refine evS ?_
      simp only [tree_Link.l0, if_pos (show (m : Int) < (l.length : Int) by omega)]
      refine Ev.bind (halfE h2 (by omega)) ?_
      simp only [if_pos (show (0 : Int) ≤ ((Pl.half l.length : Nat) : Int) by omega), if_pos (show ((Pl.half l.length : Nat) : Int) ≤ (l.length : Int) by omega), Int.toNat_natCast]
      by_cases hc : m ≤ Pl.half l.length
      · simp only [if_pos (show (m : Int) ≤ ((Pl.half l.length : Nat) : Int) by omega)]
        refine Ev.bind (rootE _ (l.drop (Pl.half l.length)) rfl (by have := Pl.drop_lt h2; omega) (small_drop hs)) ?_
        simp only [if_pos (show out.length < 8796093022208 by omega)]
        rw [Pl.links_left ⟨h1, hmn⟩ hc, show out ++ Pl.rootP (l.drop (Pl.half l.length)) :: Pl.links (l.take (Pl.half l.length)) m wh = (out ++ [Pl.rootP (l.drop (Pl.half l.length))]) ++ Pl.links (l.take (Pl.half l.length)) m wh by simp]
        exact ih _ (by omega) (l.take (Pl.half l.length)) m wh _ (Pl.take_len h2) h1 hc (by simp; omega) (small_take hs)
      · simp only [if_neg (show ¬ (m : Int) ≤ ((Pl.half l.length : Nat) : Int) by omega)]
        refine Ev.bind (rootE _ (l.take (Pl.half l.length)) rfl (by have := Pl.take_lt h2; omega) (small_take hs)) ?_
        have e1 : wrap64 ((m : Int) - ((Pl.half l.length : Nat) : Int)) = ((m - Pl.half l.length : Nat) : Int) := by rw [w64_id] <;> omega
        simp only [if_pos (show out.length < 8796093022208 by omega), e1]
        rw [Pl.links_right ⟨h1, hmn⟩ hc, show out ++ Pl.rootP (l.take (Pl.half l.length)) :: Pl.links (l.drop (Pl.half l.length)) (m - Pl.half l.length) false = (out ++ [Pl.rootP (l.take (Pl.half l.length))]) ++ Pl.links (l.drop (Pl.half l.length)) (m - Pl.half l.length) false by simp]
        exact ih (l.length - Pl.half l.length) (by omega) (l.drop (Pl.half l.length)) (m - Pl.half l.length) false _ (by simp) (by omega) (by omega) (by simp; omega) (small_drop hs)
    · refine evS ?_
      simp only [tree_Link.l0, if_neg (show ¬ (m : Int) < (l.length : Int) by omega)]
      rw [Pl.links_end (by omega)]
      cases wh with
      | true =>
        simp only [if_true, List.append_nil]
        refine Ev.bind (revE out (by omega)) ?_
        exact Ev.now _
      | false =>
        simp only [Bool.false_eq_true, if_false]
        refine Ev.bind (rootE _ l rfl (by omega) hs) ?_
        simp only [if_pos (show out.length < 8796093022208 by omega)]
        refine Ev.bind (revE (out ++ [Pl.rootP l]) (by simp; omega)) ?_
        exact Ev.now _
theorem linkE (l : List ByteArray) (m : Nat) (hm : m ≤ l.length) (hn : l.length ≤ 1000000) (hs : ∀ x ∈ l, x.size ≤ 1000) : Ev (fun k => tree_Link.f k l (m : Int)) (Pl.linkP l m, 0) := by
  unfold tree_Link.f
  simp only [if_neg (show ¬ (m : Int) < 0 by omega), decide_eq_false (show ¬ (m : Int) > (l.length : Int) by omega)]
  refine evS ?_
  simp only [tree_Link.j0, Bool.false_eq_true, if_false]
  by_cases h0 : m = 0
  · subst h0
    simp only [if_pos (show ((0 : Nat) : Int) = 0 from rfl)]
    refine evE (Ev.now _) ?_
    unfold Pl.linkP
    rw [Pl.links_end (by omega)]
    rfl
  · simp only [if_neg (show ¬ (m : Int) = 0 by omega)]
    have h := link_l0 l.length l m true [] rfl (by omega) hm (by simpa using hn) hs
    rw [List.nil_append] at h
    exact h

/-! ### the reference functions -/
theorem rhalf_l0 (n : Nat) (hn : n ≤ 4611686018427387904) : ∀ f k, 1 ≤ k → k < n → Ev (fun j => customhouseref02_Half.l0 j (n : Int) (k : Int)) ((Pl.halfGo f k n : Nat) : Int) ∨ ¬ n ≤ k * 2 ^ f := by
  intro f
  induction f with
  | zero =>
    intro k h1 h2
    right
    simp; omega
  | succ f ih =>
    intro k h1 h2
    by_cases hc : 2 * k < n
    · rcases ih (2 * k) (by omega) hc with h | h
      · left
        refine Ev.step (f := fun j => customhouseref02_Half.l0 j (n : Int) ((2 * k : Nat) : Int)) (fun j => ?_) ?_
        · have e : wrap64 (2 * (k : Int)) = ((2 * k : Nat) : Int) := by unfold wrap64; omega
          rw [customhouseref02_Half.l0, e, if_pos (by omega)]
        · unfold Pl.halfGo
          rw [if_pos hc]
          exact h
      · right
        intro h'
        exact h (by rw [Nat.pow_succ] at h'; rw [Nat.mul_comm 2 k, Nat.mul_assoc, Nat.mul_comm 2]; exact h')
    · left
      refine Ev.step (f := fun _ => some ((k : Nat) : Int)) (fun j => ?_) ?_
      · have e : wrap64 (2 * (k : Int)) = ((2 * k : Nat) : Int) := by unfold wrap64; omega
        rw [customhouseref02_Half.l0, e, if_neg (by omega)]
      · unfold Pl.halfGo
        rw [if_neg hc]
        exact Ev.now _
theorem rhalfE {n : Nat} (h2 : 2 ≤ n) (hn : n ≤ 4611686018427387904) : Ev (fun j => customhouseref02_Half.f j (n : Int)) ((Pl.half n : Nat) : Int) := by
  unfold customhouseref02_Half.f
  rcases rhalf_l0 n hn n 1 (Nat.le_refl _) (by omega) with h | h
  · exact h
  · exact absurd (by rw [Nat.one_mul]; exact Nat.le_of_lt Nat.lt_two_pow_self) h
theorem rleafE (x : ByteArray) (h : x.size ≤ 1000) : Ev (fun k => customhouseref02_leaf.f k x) (Pl.leafP x) := by
  unfold customhouseref02_leaf.f
  exact Ev.bind (refListE (few_leaf x h) (by omega)) (Ev.now _)
theorem rnodeE (a b : ByteArray) (ha : a.size ≤ 1000) (hb : b.size ≤ 1000) : Ev (fun k => customhouseref02_node.f k a b) (Pl.nodeP a b) := by
  unfold customhouseref02_node.f
  exact Ev.bind (refListE (few_node a b ha hb) (by omega)) (Ev.now _)
theorem remptyE : Ev (fun k => customhouseref02_Empty.f k) Pl.emptyP := by
  unfold customhouseref02_Empty.f
  exact Ev.bind (refListE few_empty (by omega)) (Ev.now _)
theorem rrootE : ∀ (n : Nat) (l : List ByteArray), l.length = n → n ≤ 1000000 → (∀ x ∈ l, x.size ≤ 1000) → Ev (fun k => customhouseref02_Root.f k l) (Pl.rootP l) := by
  intro n
  induction n using Nat.strongRecOn with
  | ind n ih =>
    intro l hl hn hs
    by_cases h2 : 2 ≤ l.length
    · have hh := Pl.half_spec h2
      refine evS ?_
      simp only [customhouseref02_Root.f, if_neg (show ¬ (l.length : Int) = 0 by omega), if_neg (show ¬ (l.length : Int) = 1 by omega)]
      refine Ev.bind (rhalfE h2 (by omega)) ?_
      simp only [if_pos (show (0 : Int) ≤ ((Pl.half l.length : Nat) : Int) by omega), if_pos (show ((Pl.half l.length : Nat) : Int) ≤ (l.length : Int) by omega), Int.toNat_natCast]
      refine Ev.bind (ih _ (by have := Pl.take_lt h2; omega) (l.take (Pl.half l.length)) rfl (by have := Pl.take_lt h2; omega) (small_take hs)) ?_
      refine Ev.bind (ih _ (by have := Pl.drop_lt h2; omega) (l.drop (Pl.half l.length)) rfl (by have := Pl.drop_lt h2; omega) (small_drop hs)) ?_
      refine Ev.bind (rnodeE _ _ (by rw [Pl.root_size]; omega) (by rw [Pl.root_size]; omega)) ?_
      exact evE (Ev.now _) (Pl.root_two h2).symm
    · match l, h2, hs with
      | [], _, _ =>
        refine evS ?_
        simp only [customhouseref02_Root.f, if_pos (show (([] : List ByteArray).length : Int) = 0 from rfl)]
        exact evE (Ev.bind remptyE (Ev.now _)) Pl.root_nil.symm
      | [x], _, hs =>
        refine evS ?_
        simp only [customhouseref02_Root.f, if_neg (show ¬ (([x] : List ByteArray).length : Int) = 0 by simp), if_pos (show (([x] : List ByteArray).length : Int) = 1 from rfl), if_pos (show (0 : Int) < (([x] : List ByteArray).length : Int) by simp), show rdOf ByteArray.empty [x] 0 = x from rfl]
        exact evE (Ev.bind (rleafE x (hs x (by simp))) (Ev.now _)) (Pl.root_one x).symm
      | _ :: _ :: _, h2, _ => exact absurd (by simp) h2

/-! ### the texts that are digested -/
theorem Pl.texts_len : ∀ (n : Nat) (l : List ByteArray), l.length = n → (Pl.textsP l).length ≤ 2 * n + 1 ∧ (1 ≤ n → (Pl.textsP l).length + 1 ≤ 2 * n) := by
  intro n
  induction n using Nat.strongRecOn with
  | ind n ih =>
    intro l hl
    by_cases h2 : 2 ≤ l.length
    · have hh := Pl.half_spec h2
      have a := (ih _ (by omega) (l.take (Pl.half l.length)) (Pl.take_len h2)).2 (by omega)
      have b := (ih (l.length - Pl.half l.length) (by omega) (l.drop (Pl.half l.length)) (by simp)).2 (by omega)
      rw [Pl.texts_two h2]
      simp only [List.length_append, List.length_singleton]
      omega
    · match l, h2 with
      | [], _ => rw [Pl.texts_nil]; simp at hl ⊢; omega
      | [x], _ => rw [Pl.texts_one]; simp at hl ⊢; omega
      | _ :: _ :: _, h2 => exact absurd (by simp) h2
theorem jE (l : List ByteArray) (h : Pl.few l 1000 = true) : customhouseref01_Joined.f l = some (Pl.joined l) := joinedE h (by omega)
theorem textsE : ∀ (n : Nat) (l : List ByteArray), l.length = n → n ≤ 1000000 → (∀ x ∈ l, x.size ≤ 1000) → Ev (fun k => customhouseref02_Texts.f k l) (Pl.textsP l) := by
  intro n
  induction n using Nat.strongRecOn with
  | ind n ih =>
    intro l hl hn hs
    by_cases h2 : 2 ≤ l.length
    · have hh := Pl.half_spec h2
      have l1 := (Pl.texts_len _ (l.take (Pl.half l.length)) (Pl.take_len h2)).1
      have l2 := (Pl.texts_len (l.length - Pl.half l.length) (l.drop (Pl.half l.length)) (by simp)).1
      refine evS ?_
      simp only [customhouseref02_Texts.f, if_neg (show ¬ (l.length : Int) = 0 by omega), if_neg (show ¬ (l.length : Int) = 1 by omega)]
      refine Ev.bind (rhalfE h2 (by omega)) ?_
      simp only [if_pos (show (0 : Int) ≤ ((Pl.half l.length : Nat) : Int) by omega), if_pos (show ((Pl.half l.length : Nat) : Int) ≤ (l.length : Int) by omega), Int.toNat_natCast]
      refine Ev.bind (rrootE _ (l.take (Pl.half l.length)) rfl (by have := Pl.take_lt h2; omega) (small_take hs)) ?_
      refine Ev.bind (rrootE _ (l.drop (Pl.half l.length)) rfl (by have := Pl.drop_lt h2; omega) (small_drop hs)) ?_
      have hj := jE (Pl.nodeL (Pl.rootP (l.take (Pl.half l.length))) (Pl.rootP (l.drop (Pl.half l.length)))) (few_node _ _ (by rw [Pl.root_size]; omega) (by rw [Pl.root_size]; omega))
      unfold Pl.nodeL at hj
      simp only [hj, Option.bind_some]
      refine Ev.bind (ih _ (by have := Pl.take_lt h2; omega) (l.take (Pl.half l.length)) rfl (by have := Pl.take_lt h2; omega) (small_take hs)) ?_
      refine Ev.bind (ih _ (by have := Pl.drop_lt h2; omega) (l.drop (Pl.half l.length)) rfl (by have := Pl.drop_lt h2; omega) (small_drop hs)) ?_
      simp only [if_pos (show (Pl.textsP (l.take (Pl.half l.length))).length + (Pl.textsP (l.drop (Pl.half l.length))).length < 8796093022208 by omega), Option.bind_some]
      simp only [if_pos (show (Pl.textsP (l.take (Pl.half l.length)) ++ Pl.textsP (l.drop (Pl.half l.length))).length + List.length [Pl.joined [(⟨#[110, 111, 100, 101]⟩ : ByteArray), Pl.rootP (l.take (Pl.half l.length)), Pl.rootP (l.drop (Pl.half l.length))]] < 8796093022208 by rw [List.length_append]; simp only [List.length_singleton]; omega)]
      exact evE (Ev.now _) (Pl.texts_two h2).symm
    · match l, h2, hs with
      | [], _, _ =>
        refine evS ?_
        simp only [customhouseref02_Texts.f, if_pos (show (([] : List ByteArray).length : Int) = 0 from rfl), jE _ few_empty, Option.bind_some]
        exact evE (Ev.now _) Pl.texts_nil.symm
      | [x], _, hs =>
        have hj := jE (Pl.leafL x) (few_leaf x (hs x (by simp)))
        unfold Pl.leafL at hj
        refine evS ?_
        simp only [customhouseref02_Texts.f, if_neg (show ¬ (([x] : List ByteArray).length : Int) = 0 by simp), if_pos (show (([x] : List ByteArray).length : Int) = 1 from rfl), if_pos (show (0 : Int) < (([x] : List ByteArray).length : Int) by simp), show rdOf ByteArray.empty [x] 0 = x from rfl, hj, Option.bind_some]
        exact evE (Ev.now _) (Pl.texts_one x).symm
      | _ :: _ :: _, h2, _ => exact absurd (by simp) h2
theorem Pl.texts_small : ∀ (n : Nat) (l : List ByteArray), l.length = n → (∀ x ∈ l, x.size ≤ 1000) → ∀ t ∈ Pl.textsP l, t.size ≤ 140737488355328 := by
  intro n
  induction n using Nat.strongRecOn with
  | ind n ih =>
    intro l hl hs t ht
    by_cases h2 : 2 ≤ l.length
    · rw [Pl.texts_two h2] at ht
      simp only [List.mem_append, List.mem_singleton] at ht
      rcases ht with (ht | ht) | ht
      · exact ih _ (by have := Pl.take_lt h2; omega) (l.take (Pl.half l.length)) rfl (small_take hs) t ht
      · exact ih _ (by have := Pl.drop_lt h2; omega) (l.drop (Pl.half l.length)) rfl (small_drop hs) t ht
      · rw [ht]; exact (Pl.few_caps (few_node _ _ (by rw [Pl.root_size]; omega) (by rw [Pl.root_size]; omega)) (by omega)).2.2
    · match l, h2, hs with
      | [], _, _ =>
        rw [Pl.texts_nil, List.mem_singleton] at ht
        rw [ht]; exact (Pl.few_caps few_empty (by omega)).2.2
      | [x], _, hs =>
        rw [Pl.texts_one, List.mem_singleton] at ht
        rw [ht]; exact (Pl.few_caps (few_leaf x (hs x (by simp))) (by omega)).2.2
      | _ :: _ :: _, h2, _ => exact absurd (by simp) h2

/-! ### Shown -/
theorem getD_mapsum (l : List ByteArray) (i : Nat) (h : i < l.length) : (l.map Pl.sum).getD i ByteArray.empty = Pl.sum (l.getD i ByteArray.empty) := by
  rw [List.getD_eq_getElem?_getD, List.getD_eq_getElem?_getD, List.getElem?_map, List.getElem?_eq_getElem h]; rfl
/-- Two places of a list with different texts and one digest. -/
def Pl.Bad (l : List ByteArray) (i k : Nat) : Prop := k < i ∧ i < l.length ∧ Pl.sum (l.getD i ByteArray.empty) = Pl.sum (l.getD k ByteArray.empty) ∧ l.getD i ByteArray.empty ≠ l.getD k ByteArray.empty
theorem Pl.Coll.bad {l : List ByteArray} (h : Pl.Coll l) : ∃ i k, Pl.Bad l i k := by
  obtain ⟨a, ha, b, hb, h1, h2⟩ := h
  obtain ⟨i, hi, rfl⟩ := List.getElem_of_mem ha
  obtain ⟨k, hk, rfl⟩ := List.getElem_of_mem hb
  have g : ∀ j, (hj : j < l.length) → l.getD j ByteArray.empty = l[j] := fun j hj => by rw [List.getD_eq_getElem?_getD, List.getElem?_eq_getElem hj]; rfl
  rcases Nat.lt_trichotomy i k with h | h | h
  · exact ⟨k, i, h, hk, by rw [g k hk, g i hi, h1], by rw [g k hk, g i hi]; exact h2.symm⟩
  · subst h; exact absurd rfl h2
  · exact ⟨i, k, h, hi, by rw [g k hk, g i hi, h1], by rw [g k hk, g i hi]; exact h2⟩
theorem shown_l2 (l : List ByteArray) (hl : l.length ≤ 1000000) (i : Nat) (hi : i < l.length) (H : (∃ i' k', i + 1 ≤ i' ∧ Pl.Bad l i' k') → Ev (fun j => customhouseref02_Shown.l1 j l (l.map Pl.sum) ((i + 1 : Nat) : Int)) true) :
    ∀ (d k : Nat), k + d = i → (∃ i' k', (i + 1 ≤ i' ∨ (i' = i ∧ k ≤ k')) ∧ Pl.Bad l i' k') → Ev (fun j => customhouseref02_Shown.l2 j l (l.map Pl.sum) (i : Int) (k : Int)) true := by
  intro d
  induction d with
  | zero =>
    rintro k hk ⟨i', k', hc, hb⟩
    refine evS ?_
    have e1 : wrap64 ((i : Int) + 1) = ((i + 1 : Nat) : Int) := by rw [w64_id] <;> omega
    simp only [customhouseref02_Shown.l2, if_neg (show ¬ (k : Int) < (i : Int) by omega), e1]
    refine H ⟨i', k', ?_, hb⟩
    rcases hc with hc | ⟨rfl, hc⟩
    · exact hc
    · exact absurd hb.1 (by omega)
  | succ d ih =>
    rintro k hk ⟨i', k', hc, hb⟩
    refine evS ?_
    have e1 : wrap64 ((k : Int) + 1) = ((k + 1 : Nat) : Int) := by rw [w64_id] <;> omega
    have hm : (l.map Pl.sum).length = l.length := by simp
    have r1 : rdOf ByteArray.empty (l.map Pl.sum) (i : Int) = Pl.sum (l.getD i ByteArray.empty) := getD_mapsum l i hi
    have r2 : rdOf ByteArray.empty (l.map Pl.sum) (k : Int) = Pl.sum (l.getD k ByteArray.empty) := getD_mapsum l k (by omega)
    have r3 : rdOf ByteArray.empty l (i : Int) = l.getD i ByteArray.empty := rfl
    have r4 : rdOf ByteArray.empty l (k : Int) = l.getD k ByteArray.empty := rfl
    simp only [customhouseref02_Shown.l2, if_pos (show (k : Int) < (i : Int) by omega), if_pos (show (0 : Int) ≤ (i : Int) by omega), hm, if_pos (show (i : Int) < (l.length : Int) by omega), if_pos (show (0 : Int) ≤ (k : Int) by omega), if_pos (show (k : Int) < (l.length : Int) by omega), r1, r2, r3, r4, e1, Pl.toL_iff]
    have next : ¬ (i' = i ∧ k' = k) → Ev (fun j => customhouseref02_Shown.l2 j l (l.map Pl.sum) (i : Int) ((k + 1 : Nat) : Int)) true := fun hne => ih (k + 1) (by omega) ⟨i', k', by omega, hb⟩
    by_cases c1 : Pl.sum (l.getD i ByteArray.empty) = Pl.sum (l.getD k ByteArray.empty)
    · simp only [if_pos c1]
      by_cases c2 : l.getD i ByteArray.empty = l.getD k ByteArray.empty
      · simp only [if_pos c2]
        exact next (by rintro ⟨rfl, rfl⟩; exact hb.2.2.2 c2)
      · simp only [if_neg c2]
        exact Ev.now _
    · simp only [if_neg c1]
      exact next (by rintro ⟨rfl, rfl⟩; exact c1 hb.2.2.1)
theorem shown_l1 (l : List ByteArray) (hl : l.length ≤ 1000000) : ∀ (d i : Nat), i + d = l.length → (∃ i' k', i ≤ i' ∧ Pl.Bad l i' k') → Ev (fun j => customhouseref02_Shown.l1 j l (l.map Pl.sum) (i : Int)) true := by
  intro d
  induction d with
  | zero =>
    rintro i hi ⟨i', k', hc, hb⟩
    exact absurd hb.2.1 (by omega)
  | succ d ih =>
    rintro i hi ⟨i', k', hc, hb⟩
    refine evS ?_
    simp only [customhouseref02_Shown.l1, if_pos (show (i : Int) < (l.length : Int) by omega)]
    exact shown_l2 l hl i (by omega) (fun h => ih (i + 1) (by omega) h) i 0 (by omega) ⟨i', k', by omega, hb⟩
theorem shown_l0 (l : List ByteArray) (hl : l.length ≤ 1000000) (hs : ∀ x ∈ l, x.size ≤ 140737488355328) (H : Ev (fun j => customhouseref02_Shown.l1 j l (l.map Pl.sum) 0) true) :
    ∀ (d i : Nat) (out : List ByteArray), i + d = l.length → out = (l.map Pl.sum).take i → Ev (fun j => customhouseref02_Shown.l0 j l out (i : Int)) true := by
  intro d
  induction d with
  | zero =>
    rintro i out hi rfl
    refine evS ?_
    simp only [customhouseref02_Shown.l0, if_neg (show ¬ (i : Int) < (l.length : Int) by omega)]
    rw [List.take_of_length_le (by simp; omega)]
    exact H
  | succ d ih =>
    rintro i out hi rfl
    refine evS ?_
    have e1 : wrap64 ((i : Int) + 1) = ((i + 1 : Nat) : Int) := by rw [w64_id] <;> omega
    have hlt : i < l.length := by omega
    have r1 : rdOf ByteArray.empty l (i : Int) = l[i] := by
      show l.getD i _ = _
      rw [List.getD_eq_getElem?_getD, List.getElem?_eq_getElem hlt]; rfl
    simp only [customhouseref02_Shown.l0, if_pos (show (i : Int) < (l.length : Int) by omega), if_pos (show (0 : Int) ≤ (i : Int) by omega), r1, e1]
    refine Ev.bind (refSumE _ (by have := hs l[i] (List.getElem_mem hlt); omega)) ?_
    simp only [if_pos (show ((l.map Pl.sum).take i).length < 8796093022208 by simp; omega)]
    refine ih (i + 1) _ (by omega) ?_
    rw [List.take_succ_eq_append_getElem (by simpa using hlt), List.getElem_map]
theorem shownE (l : List ByteArray) (hl : l.length ≤ 1000000) (hs : ∀ x ∈ l, x.size ≤ 140737488355328) (h : Pl.Coll l) : Ev (fun k => customhouseref02_Shown.f k l) true := by
  obtain ⟨i, k, hb⟩ := h.bad
  unfold customhouseref02_Shown.f
  exact shown_l0 l hl hs (shown_l1 l hl l.length 0 (by omega) ⟨i, k, by omega, hb⟩) l.length 0 [] (by omega) rfl
end Go.Proofs.YtdlipbfcadmhjaaDoor
