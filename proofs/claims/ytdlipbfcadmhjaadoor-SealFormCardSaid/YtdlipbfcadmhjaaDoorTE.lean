/- tree, plain: what Root, Path, Link and the reference functions answer. -/
import Derived.Test.YtdlipbfcadmhjaaDoorTM
import Derived.Test.YtdlipbfcadmhjaaDoorQ2
import Derived.Test.YtdlipbfcadmhjaaDoorPG2x4
import Derived.Test.YtdlipbfcadmhjaaDoorPG2x5
namespace Go.Proofs.YtdlipbfcadmhjaaDoor
set_option linter.unusedVariables false
set_option linter.unusedSimpArgs false
open Go.RowKit Go.Proofs.YtdlipbfcadmhjaaDoorW.PrintWords Go.Proofs.YtdlipbfcadmhjaaDoorW.PrintMore PG2
theorem few_leaf (x : ByteArray) (h : x.size ≤ 1000) : Pl.few (Pl.leafL x) 1000 = true := by
 simp [Pl.few, Pl.leafL, h]; decide
theorem few_empty : Pl.few [(⟨#[101, 109, 112, 116, 121]⟩ : ByteArray)] 1000 = true := by decide
theorem leafLE (x : ByteArray) (h : x.size ≤ 1000) : digest_List.f [(⟨#[108, 101, 97, 102]⟩ : ByteArray), x] = some (Pl.leafP x) := listE (Pl.few_caps (few_leaf x h) (by omega)).2.2
theorem emptyLE : digest_List.f [(⟨#[101, 109, 112, 116, 121]⟩ : ByteArray)] = some Pl.emptyP := listE (Pl.few_caps few_empty (by omega)).2.2
theorem small_take {l : List ByteArray} {n m : Nat} (h : ∀ x ∈ l, x.size ≤ n) : ∀ x ∈ l.take m, x.size ≤ n := fun x hx => h x (List.mem_of_mem_take hx)
theorem small_drop {l : List ByteArray} {n m : Nat} (h : ∀ x ∈ l, x.size ≤ n) : ∀ x ∈ l.drop m, x.size ≤ n := fun x hx => h x (List.mem_of_mem_drop hx)
theorem rootE : ∀ (n : Nat) (l : List ByteArray), l.length = n → n ≤ 1000000 → (∀ x ∈ l, x.size ≤ 1000) → Ev (fun k => tree_Root.f k l) (Pl.rootP l) := by
 intro n
 induction n using Nat.strongRecOn with
 | ind n ih =>
  intro l hl hn hs
  by_cases h2 : 2 ≤ l.length
  ·have hh := Pl.half_spec h2
   refine evS ?_
   simp only [tree_Root.f, if_neg (show ¬ (l.length : Int) = 0 by omega), if_neg (show ¬ (l.length : Int) = 1 by omega)]
   refine Ev.bind (halfE h2 (by omega)) ?_
   simp only [if_pos (show (0 : Int) ≤ ((Pl.half l.length : Nat) : Int) by omega), if_pos (show ((Pl.half l.length : Nat) : Int) ≤ (l.length : Int) by omega), Int.toNat_natCast]
   refine Ev.bind (ih _ (by have := Pl.take_lt h2; omega) (l.take (Pl.half l.length)) rfl (by have := Pl.take_lt h2; omega) (small_take hs)) ?_
   refine Ev.bind (ih _ (by have := Pl.drop_lt h2; omega) (l.drop (Pl.half l.length)) rfl (by have := Pl.drop_lt h2; omega) (small_drop hs)) ?_
   simp only [nodeE _ _ (by rw [Pl.root_size]; omega : (Pl.rootP (l.take (Pl.half l.length))).size ≤ 16) (by rw [Pl.root_size]; omega : (Pl.rootP (l.drop (Pl.half l.length))).size ≤ 16), Option.bind_some]
   exact evE (Ev.now _) (Pl.root_two h2).symm
  ·match l, h2, hs with
   | [], _, _ =>
    refine evS ?_
    simp only [tree_Root.f, if_pos (show (([] : List ByteArray).length : Int) = 0 from rfl), emptyLE, Option.bind_some]
    exact evE (Ev.now _) Pl.root_nil.symm
   | [x], _, hs =>
    refine evS ?_
    simp only [tree_Root.f, if_neg (show ¬ (([x] : List ByteArray).length : Int) = 0 by simp), if_pos (show (([x] : List ByteArray).length : Int) = 1 from rfl), if_pos (show (0 : Int) < (([x] : List ByteArray).length : Int) by simp), show rdOf ByteArray.empty [x] 0 = x from rfl, leafLE x (hs x (by simp)), Option.bind_some]
    exact evE (Ev.now _) (Pl.root_one x).symm
   | _ :: _ :: _, h2, _ => exact absurd (by simp) h2
theorem getD_set_of {x : List ByteArray} {i p : Nat} {v : ByteArray} (hi : i < x.length) : (x.set i v).getD p ByteArray.empty = if p = i then v else x.getD p ByteArray.empty := by
 simp only [List.getD_eq_getElem?_getD, List.getElem?_set]
 by_cases h : i = p
 ·subst h; simp [hi]
 ·rw [if_neg h, if_neg (fun e => h e.symm)]
theorem rev_l0 (r : List ByteArray) : ∀ (d i m : Nat) (x : List ByteArray), i + d = m → m ≤ x.length → x.length ≤ 4611686018427387904 → r.length = x.length →
    (∀ p, p < x.length → r.getD p ByteArray.empty = if i ≤ p ∧ p < m then x.getD (i + m - 1 - p) ByteArray.empty else x.getD p ByteArray.empty) → Ev (fun k => slices_Reverse_string_string.l0 k x (i : Int) ((m : Int) - 1)) r := by
 intro d
 induction d using Nat.strongRecOn with
 | ind d ih =>
  intro i m x hd hm hx hr hs
  by_cases h2 : 2 ≤ d
  ·refine evS ?_
   have e1 : wrap64 ((i : Int) + 1) = ((i + 1 : Nat) : Int) := by rw [w64_id] <;> omega
   have e2 : wrap64 (((m : Int) - 1) - 1) = ((m - 1 : Nat) : Int) - 1 := by rw [w64_id] <;> omega
   have e3 : ((m : Int) - 1).toNat = m - 1 := by omega
   have g1 : rdOf ByteArray.empty x ((m : Int) - 1) = x.getD (m - 1) ByteArray.empty := by unfold rdOf; rw [e3]
   have g2 : rdOf ByteArray.empty x (i : Int) = x.getD i ByteArray.empty := rfl
   simp only [slices_Reverse_string_string.l0, if_pos (show (i : Int) < (m : Int) - 1 by omega), if_pos (show (0 : Int) ≤ (m : Int) - 1 by omega), if_pos (show (m : Int) - 1 < (x.length : Int) by omega), if_pos (show (0 : Int) ≤ (i : Int) by omega), if_pos (show (i : Int) < (x.length : Int) by omega), e1, e2, e3, Int.toNat_natCast, g1, g2]
   refine ih (d - 2) (by omega) (i + 1) (m - 1) _ (by omega) (by simp; omega) (by simpa using hx) (by simpa using hr) fun p hp => ?_
   simp only [List.length_set] at hp
   rw [hs p hp]
   have s1 : ∀ q, ((x.set i (x.getD (m - 1) ByteArray.empty)).set (m - 1) (x.getD i ByteArray.empty)).getD q ByteArray.empty = if q = m - 1 then x.getD i ByteArray.empty else if q = i then x.getD (m - 1) ByteArray.empty else x.getD q ByteArray.empty := fun q => by
    rw [getD_set_of (by simp; omega), getD_set_of (by omega)]
   rw [s1, s1]
   by_cases c1 : i + 1 ≤ p ∧ p < m - 1
   ·rw [if_pos (by omega : i ≤ p ∧ p < m), if_pos c1, if_neg (by omega), if_neg (by omega), show i + 1 + (m - 1) - 1 - p = i + m - 1 - p by omega]
   ·rw [if_neg c1]
    by_cases c2 : p = m - 1
    ·rw [if_pos c2, if_pos (by omega), show i + m - 1 - p = i by omega]
    ·rw [if_neg c2]
     by_cases c3 : p = i
     ·rw [if_pos c3, if_pos (by omega), show i + m - 1 - p = m - 1 by omega]
     ·rw [if_neg c3, if_neg (by omega)]
  ·refine evS ?_
   simp only [slices_Reverse_string_string.l0, if_neg (show ¬ (i : Int) < (m : Int) - 1 by omega)]
   refine evE (Ev.now _) ?_
   refine List.ext_getElem hr.symm fun p h1 h2' => ?_
   have := hs p h1
   rw [List.getD_eq_getElem?_getD, List.getElem?_eq_getElem h2', Option.getD_some] at this
   rw [this]
   split
   ·rw [show i + m - 1 - p = p by omega, List.getD_eq_getElem?_getD, List.getElem?_eq_getElem h1]; rfl
   ·rw [List.getD_eq_getElem?_getD, List.getElem?_eq_getElem h1]; rfl
theorem revE (x : List ByteArray) (h : x.length ≤ 4611686018427387904) : Ev (fun k => slices_Reverse_string_string.f k x) x.reverse := by
 unfold slices_Reverse_string_string.f
 rw [show wrap64 ((x.length : Int) - 1) = (x.length : Int) - 1 by rw [w64_id] <;> omega]
 refine rev_l0 x.reverse x.length 0 x.length x (by omega) (Nat.le_refl _) h (by simp) fun p hp => ?_
 rw [if_pos (by omega), List.getD_eq_getElem?_getD, List.getD_eq_getElem?_getD, List.getElem?_reverse hp, show 0 + x.length - 1 - p = x.length - 1 - p by omega]
theorem path_l0 : ∀ (n : Nat) (l : List ByteArray) (i : Nat) (out : List ByteArray), l.length = n → i < n → out.length + n ≤ 1000000 → (∀ x ∈ l, x.size ≤ 1000) → Ev (fun k => tree_Path.l0 k l (i : Int) out) ((out ++ Pl.sibs l i).reverse, 0) := by
 intro n
 induction n using Nat.strongRecOn with
 | ind n ih =>
  intro l i out hl hi ho hs
  by_cases h2 : 2 ≤ l.length
  ·have hh := Pl.half_spec h2
   refine evS ?_
   simp only [tree_Path.l0, if_pos (show (l.length : Int) > 1 by omega)]
   refine Ev.bind (halfE h2 (by omega)) ?_
   simp only [if_pos (show (0 : Int) ≤ ((Pl.half l.length : Nat) : Int) by omega), if_pos (show ((Pl.half l.length : Nat) : Int) ≤ (l.length : Int) by omega), Int.toNat_natCast]
   by_cases hc : i < Pl.half l.length
   ·simp only [if_pos (show (i : Int) < ((Pl.half l.length : Nat) : Int) by omega)]
    refine Ev.bind (rootE _ (l.drop (Pl.half l.length)) rfl (by have := Pl.drop_lt h2; omega) (small_drop hs)) ?_
    simp only [if_pos (show out.length < 8796093022208 by omega)]
    rw [Pl.sibs_left h2 hc, show out ++ Pl.rootP (l.drop (Pl.half l.length)) :: Pl.sibs (l.take (Pl.half l.length)) i = (out ++ [Pl.rootP (l.drop (Pl.half l.length))]) ++ Pl.sibs (l.take (Pl.half l.length)) i by simp]
    exact ih _ (by omega) (l.take (Pl.half l.length)) i _ (Pl.take_len h2) hc (by simp; omega) (small_take hs)
   ·simp only [if_neg (show ¬ (i : Int) < ((Pl.half l.length : Nat) : Int) by omega)]
    refine Ev.bind (rootE _ (l.take (Pl.half l.length)) rfl (by have := Pl.take_lt h2; omega) (small_take hs)) ?_
    have e1 : wrap64 ((i : Int) - ((Pl.half l.length : Nat) : Int)) = ((i - Pl.half l.length : Nat) : Int) := by rw [w64_id] <;> omega
    simp only [if_pos (show out.length < 8796093022208 by omega), e1]
    rw [Pl.sibs_right h2 hc, show out ++ Pl.rootP (l.take (Pl.half l.length)) :: Pl.sibs (l.drop (Pl.half l.length)) (i - Pl.half l.length) = (out ++ [Pl.rootP (l.take (Pl.half l.length))]) ++ Pl.sibs (l.drop (Pl.half l.length)) (i - Pl.half l.length) by simp]
    exact ih (l.length - Pl.half l.length) (by omega) (l.drop (Pl.half l.length)) (i - Pl.half l.length) _ (by simp) (by omega) (by simp; omega) (small_drop hs)
  ·refine evS ?_
   simp only [tree_Path.l0, if_neg (show ¬ (l.length : Int) > 1 by omega)]
   rw [Pl.sibs_end h2, List.append_nil]
   refine Ev.bind (revE out (by omega)) ?_
   exact Ev.now _
theorem pathE (l : List ByteArray) (i : Nat) (hi : i < l.length) (hn : l.length ≤ 1000000) (hs : ∀ x ∈ l, x.size ≤ 1000) : Ev (fun k => tree_Path.f k l (i : Int)) (Pl.pathP l i, 0) := by
 unfold tree_Path.f
 simp only [if_neg (show ¬ (i : Int) < 0 by omega), decide_eq_false (show ¬ (i : Int) ≥ (l.length : Int) by omega)]
 refine evS ?_
 simp only [tree_Path.j0, Bool.false_eq_true, if_false]
 have h := path_l0 l.length l i [] rfl hi (by simpa using hn) hs
 rw [List.nil_append] at h
 exact h
end Go.Proofs.YtdlipbfcadmhjaaDoor
