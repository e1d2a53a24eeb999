/- Texts of this claim, in one file. -/
import Derived.Test.YtdlipbfcadmhjaaGreatDoorY23
import Derived.Test.YtdlipbfcadmhjaaGreatDoorPG3x4
import Derived.Test.YtdlipbfcadmhjaaGreatDoorPG3x5
import Derived.Test.YtdlipbfcadmhjaaGreatDoorPG3x23
import Derived.Test.YtdlipbfcadmhjaaGreatDoorY20
import Derived.Test.YtdlipbfcadmhjaaGreatDoorPG3x24
import Derived.Test.YtdlipbfcadmhjaaGreatDoorPG3x2
import Derived.Test.YtdlipbfcadmhjaaGreatDoorSVe
set_option linter.unusedSimpArgs false
set_option linter.unusedVariables false
namespace Go.Proofs.YtdlipbfcadmhjaaGreatDoor
open Go.RowKit Go.Proofs.YtdlipbfcadmhjaaGreatDoorW.PrintWords Go.Proofs.YtdlipbfcadmhjaaGreatDoorW.PrintMore PG3
theorem few_leaf (x : ByteArray) (h : x.size ≤ 1000) : Pl.few (Pl.leafL x) 1000 = true := by
 simp [Pl.few, Pl.leafL, h]; decide
theorem few_node (a b : ByteArray) (ha : a.size ≤ 1000) (hb : b.size ≤ 1000) : Pl.few (Pl.nodeL a b) 1000 = true := by
 simp [Pl.few, Pl.nodeL, ha, hb]; decide
theorem few_empty : Pl.few [(⟨#[101, 109, 112, 116, 121]⟩ : ByteArray)] 1000 = true := by decide
theorem leafLE (x : ByteArray) (h : x.size ≤ 1000) : digest_List.f [(⟨#[108, 101, 97, 102]⟩ : ByteArray), x] = some (Pl.leafP x) := listE (Pl.few_caps (few_leaf x h) (by omega)).2.2
theorem emptyLE : digest_List.f [(⟨#[101, 109, 112, 116, 121]⟩ : ByteArray)] = some Pl.emptyP := listE (Pl.few_caps few_empty (by omega)).2.2
theorem small_take {l : List ByteArray} {n m : Nat} (h : ∀ x ∈ l, x.size ≤ n) : ∀ x ∈ l.take m, x.size ≤ n := fun x hx => h x (List.mem_of_mem_take hx)
theorem small_drop {l : List ByteArray} {n m : Nat} (h : ∀ x ∈ l, x.size ≤ n) : ∀ x ∈ l.drop m, x.size ≤ n := fun x hx => h x (List.mem_of_mem_drop hx)
theorem rootE : ∀ (n : Nat) (l : List ByteArray), l.length = n → n ≤ 1000000 → (∀ x ∈ l, x.size ≤ 1000) → Ev (fun k => tree_Root.f k l) (Pl.rootP l) := by
 intro n
 induction n using Nat.strongRecOn with
 | ind n ih =>
  intro l hl hn hs
  by_cases h2 : 2 ≤ l.length
  ·have hh := Pl.half_spec h2
   refine evS ?_
   simp only [tree_Root.f, if_neg (show ¬ (l.length : Int) = 0 by omega), if_neg (show ¬ (l.length : Int) = 1 by omega)]
   refine Ev.bind (halfE h2 (by omega)) ?_
   simp only [if_pos (show (0 : Int) ≤ ((Pl.half l.length : Nat) : Int) by omega), if_pos (show ((Pl.half l.length : Nat) : Int) ≤ (l.length : Int) by omega), Int.toNat_natCast]
   refine Ev.bind (ih _ (by have := Pl.take_lt h2; omega) (l.take (Pl.half l.length)) rfl (by have := Pl.take_lt h2; omega) (small_take hs)) ?_
   refine Ev.bind (ih _ (by have := Pl.drop_lt h2; omega) (l.drop (Pl.half l.length)) rfl (by have := Pl.drop_lt h2; omega) (small_drop hs)) ?_
   simp only [nodeE _ _ (by rw [Pl.root_size]; omega : (Pl.rootP (l.take (Pl.half l.length))).size ≤ 16) (by rw [Pl.root_size]; omega : (Pl.rootP (l.drop (Pl.half l.length))).size ≤ 16), Option.bind_some]
   exact evE (Ev.now _) (Pl.root_two h2).symm
  ·match l, h2, hs with
   | [], _, _ =>
    refine evS ?_
    simp only [tree_Root.f, if_pos (show (([] : List ByteArray).length : Int) = 0 from rfl), emptyLE, Option.bind_some]
    exact evE (Ev.now _) Pl.root_nil.symm
   | [x], _, hs =>
    refine evS ?_
    simp only [tree_Root.f, if_neg (show ¬ (([x] : List ByteArray).length : Int) = 0 by simp), if_pos (show (([x] : List ByteArray).length : Int) = 1 from rfl), if_pos (show (0 : Int) < (([x] : List ByteArray).length : Int) by simp), show rdOf ByteArray.empty [x] 0 = x from rfl, leafLE x (hs x (by simp)), Option.bind_some]
    exact evE (Ev.now _) (Pl.root_one x).symm
   | _ :: _ :: _, h2, _ => exact absurd (by simp) h2
theorem getD_set_of {x : List ByteArray} {i p : Nat} {v : ByteArray} (hi : i < x.length) : (x.set i v).getD p ByteArray.empty = if p = i then v else x.getD p ByteArray.empty := by
 simp only [List.getD_eq_getElem?_getD, List.getElem?_set]
 by_cases h : i = p
 ·subst h; simp [hi]
 ·rw [if_neg h, if_neg (fun e => h e.symm)]
theorem rev_l0 (r : List ByteArray) : ∀ (d i m : Nat) (x : List ByteArray), i + d = m → m ≤ x.length → x.length ≤ 4611686018427387904 → r.length = x.length →
    (∀ p, p < x.length → r.getD p ByteArray.empty = if i ≤ p ∧ p < m then x.getD (i + m - 1 - p) ByteArray.empty else x.getD p ByteArray.empty) → Ev (fun k => slices_Reverse_string_string.l0 k x (i : Int) ((m : Int) - 1)) r := by
 intro d
 induction d using Nat.strongRecOn with
 | ind d ih =>
  intro i m x hd hm hx hr hs
  by_cases h2 : 2 ≤ d
  ·refine evS ?_
   have e1 : wrap64 ((i : Int) + 1) = ((i + 1 : Nat) : Int) := by rw [w64_id] <;> omega
   have e2 : wrap64 (((m : Int) - 1) - 1) = ((m - 1 : Nat) : Int) - 1 := by rw [w64_id] <;> omega
   have e3 : ((m : Int) - 1).toNat = m - 1 := by omega
   have g1 : rdOf ByteArray.empty x ((m : Int) - 1) = x.getD (m - 1) ByteArray.empty := by unfold rdOf; rw [e3]
   have g2 : rdOf ByteArray.empty x (i : Int) = x.getD i ByteArray.empty := rfl
   simp only [slices_Reverse_string_string.l0, if_pos (show (i : Int) < (m : Int) - 1 by omega), if_pos (show (0 : Int) ≤ (m : Int) - 1 by omega), if_pos (show (m : Int) - 1 < (x.length : Int) by omega), if_pos (show (0 : Int) ≤ (i : Int) by omega), if_pos (show (i : Int) < (x.length : Int) by omega), e1, e2, e3, Int.toNat_natCast, g1, g2]
   refine ih (d - 2) (by omega) (i + 1) (m - 1) _ (by omega) (by simp; omega) (by simpa using hx) (by simpa using hr) fun p hp => ?_
   simp only [List.length_set] at hp
   rw [hs p hp]
   have s1 : ∀ q, ((x.set i (x.getD (m - 1) ByteArray.empty)).set (m - 1) (x.getD i ByteArray.empty)).getD q ByteArray.empty = if q = m - 1 then x.getD i ByteArray.empty else if q = i then x.getD (m - 1) ByteArray.empty else x.getD q ByteArray.empty := fun q => by
    rw [getD_set_of (by simp; omega), getD_set_of (by omega)]
   rw [s1, s1]
   by_cases c1 : i + 1 ≤ p ∧ p < m - 1
   ·rw [if_pos (by omega : i ≤ p ∧ p < m), if_pos c1, if_neg (by omega), if_neg (by omega), show i + 1 + (m - 1) - 1 - p = i + m - 1 - p by omega]
   ·rw [if_neg c1]
    by_cases c2 : p = m - 1
    ·rw [if_pos c2, if_pos (by omega), show i + m - 1 - p = i by omega]
    ·rw [if_neg c2]
     by_cases c3 : p = i
     ·rw [if_pos c3, if_pos (by omega), show i + m - 1 - p = m - 1 by omega]
     ·rw [if_neg c3, if_neg (by omega)]
  ·refine evS ?_
   simp only [slices_Reverse_string_string.l0, if_neg (show ¬ (i : Int) < (m : Int) - 1 by omega)]
   refine evE (Ev.now _) ?_
   refine List.ext_getElem hr.symm fun p h1 h2' => ?_
   have := hs p h1
   rw [List.getD_eq_getElem?_getD, List.getElem?_eq_getElem h2', Option.getD_some] at this
   rw [this]
   split
   ·rw [show i + m - 1 - p = p by omega, List.getD_eq_getElem?_getD, List.getElem?_eq_getElem h1]; rfl
   ·rw [List.getD_eq_getElem?_getD, List.getElem?_eq_getElem h1]; rfl
theorem revE (x : List ByteArray) (h : x.length ≤ 4611686018427387904) : Ev (fun k => slices_Reverse_string_string.f k x) x.reverse := by
 unfold slices_Reverse_string_string.f
 rw [show wrap64 ((x.length : Int) - 1) = (x.length : Int) - 1 by rw [w64_id] <;> omega]
 refine rev_l0 x.reverse x.length 0 x.length x (by omega) (Nat.le_refl _) h (by simp) fun p hp => ?_
 rw [if_pos (by omega), List.getD_eq_getElem?_getD, List.getD_eq_getElem?_getD, List.getElem?_reverse hp, show 0 + x.length - 1 - p = x.length - 1 - p by omega]
theorem path_l0 : ∀ (n : Nat) (l : List ByteArray) (i : Nat) (out : List ByteArray), l.length = n → i < n → out.length + n ≤ 1000000 → (∀ x ∈ l, x.size ≤ 1000) → Ev (fun k => tree_Path.l0 k l (i : Int) out) ((out ++ Pl.sibs l i).reverse, 0) := by
 intro n
 induction n using Nat.strongRecOn with
 | ind n ih =>
  intro l i out hl hi ho hs
  by_cases h2 : 2 ≤ l.length
  ·have hh := Pl.half_spec h2
   refine evS ?_
   simp only [tree_Path.l0, if_pos (show (l.length : Int) > 1 by omega)]
   refine Ev.bind (halfE h2 (by omega)) ?_
   simp only [if_pos (show (0 : Int) ≤ ((Pl.half l.length : Nat) : Int) by omega), if_pos (show ((Pl.half l.length : Nat) : Int) ≤ (l.length : Int) by omega), Int.toNat_natCast]
   by_cases hc : i < Pl.half l.length
   ·simp only [if_pos (show (i : Int) < ((Pl.half l.length : Nat) : Int) by omega)]
    refine Ev.bind (rootE _ (l.drop (Pl.half l.length)) rfl (by have := Pl.drop_lt h2; omega) (small_drop hs)) ?_
    simp only [if_pos (show out.length < 8796093022208 by omega)]
    rw [Pl.sibs_left h2 hc, show out ++ Pl.rootP (l.drop (Pl.half l.length)) :: Pl.sibs (l.take (Pl.half l.length)) i = (out ++ [Pl.rootP (l.drop (Pl.half l.length))]) ++ Pl.sibs (l.take (Pl.half l.length)) i by simp]
    exact ih _ (by omega) (l.take (Pl.half l.length)) i _ (Pl.take_len h2) hc (by simp; omega) (small_take hs)
   ·simp only [if_neg (show ¬ (i : Int) < ((Pl.half l.length : Nat) : Int) by omega)]
    refine Ev.bind (rootE _ (l.take (Pl.half l.length)) rfl (by have := Pl.take_lt h2; omega) (small_take hs)) ?_
    have e1 : wrap64 ((i : Int) - ((Pl.half l.length : Nat) : Int)) = ((i - Pl.half l.length : Nat) : Int) := by rw [w64_id] <;> omega
    simp only [if_pos (show out.length < 8796093022208 by omega), e1]
    rw [Pl.sibs_right h2 hc, show out ++ Pl.rootP (l.take (Pl.half l.length)) :: Pl.sibs (l.drop (Pl.half l.length)) (i - Pl.half l.length) = (out ++ [Pl.rootP (l.take (Pl.half l.length))]) ++ Pl.sibs (l.drop (Pl.half l.length)) (i - Pl.half l.length) by simp]
    exact ih (l.length - Pl.half l.length) (by omega) (l.drop (Pl.half l.length)) (i - Pl.half l.length) _ (by simp) (by omega) (by simp; omega) (small_drop hs)
  ·refine evS ?_
   simp only [tree_Path.l0, if_neg (show ¬ (l.length : Int) > 1 by omega)]
   rw [Pl.sibs_end h2, List.append_nil]
   refine Ev.bind (revE out (by omega)) ?_
   exact Ev.now _
theorem pathE (l : List ByteArray) (i : Nat) (hi : i < l.length) (hn : l.length ≤ 1000000) (hs : ∀ x ∈ l, x.size ≤ 1000) : Ev (fun k => tree_Path.f k l (i : Int)) (Pl.pathP l i, 0) := by
 unfold tree_Path.f
 simp only [if_neg (show ¬ (i : Int) < 0 by omega), decide_eq_false (show ¬ (i : Int) ≥ (l.length : Int) by omega)]
 refine evS ?_
 simp only [tree_Path.j0, Bool.false_eq_true, if_false]
 have h := path_l0 l.length l i [] rfl hi (by simpa using hn) hs
 rw [List.nil_append] at h
 exact h
end Go.Proofs.YtdlipbfcadmhjaaGreatDoor

namespace Go.Proofs.YtdlipbfcadmhjaaGreatDoor
open Go.RowKit Go.Proofs.YtdlipbfcadmhjaaGreatDoorW.PrintWords Go.Proofs.YtdlipbfcadmhjaaGreatDoorW.PrintMore PG3
theorem s_chain_l0 (n : Nat) (hn : n ≤ 1000) : ∀ (m i : Nat) (a : ByteArray), i + m = n → a.size ≤ 140737488355328 → Ev (fun k => digest_Chain.l0 k a (n : Int) (i : Int)) (Pl.chn m a) := by
 intro m
 induction m with
 | zero =>
  intro i a hi _
  refine evS ?_
  simp only [digest_Chain.l0, if_neg (show ¬ (i : Int) < (n : Int) by omega)]
  exact Ev.now _
 | succ m ih =>
  intro i a hi ha
  refine evS ?_
  have e1 : wrap64 ((i : Int) + 1) = ((i + 1 : Nat) : Int) := by rw [w64_id] <;> omega
  simp only [digest_Chain.l0, if_pos (show (i : Int) < (n : Int) by omega), sumE ha, Option.bind_some, e1]
  exact ih (i + 1) (Pl.sum a) (by omega) (by rw [Pl.sum_size]; omega)
theorem s_chainE (a : ByteArray) (n : Int) (ha : a.size ≤ 140737488355328) : Ev (fun k => digest_Chain.f k a n) (Pl.chn (min n 1000).toNat a) := by
 unfold digest_Chain.f
 have e : (mx 0 (mn n 1000)) = (((min n 1000).toNat : Nat) : Int) := by
  unfold mx mn
  split <;> split <;> omega
 rw [e]
 exact s_chain_l0 _ (by omega) _ 0 a (by omega) ha
end Go.Proofs.YtdlipbfcadmhjaaGreatDoor

namespace Go.Proofs.YtdlipbfcadmhjaaGreatDoor
open Go.RowKit Go.Proofs.YtdlipbfcadmhjaaGreatDoorW.PrintWords Go.Proofs.YtdlipbfcadmhjaaGreatDoorW.PrintLast Go.Proofs.YtdlipbfcadmhjaaGreatDoorW.PrintMore PG3
theorem s_half_l0 (n : Nat) (hn : n ≤ 4611686018427387904) : ∀ f k, 1 ≤ k → k < n → Ev (fun j => tree_half.l0 j (n : Int) (k : Int)) ((Pl.halfGo f k n : Nat) : Int) ∨ ¬ n ≤ k * 2 ^ f := by
 intro f
 induction f with
 | zero =>
  intro k h1 h2
  right
  simp; omega
 | succ f ih =>
  intro k h1 h2
  by_cases hc : 2 * k < n
  ·rcases ih (2 * k) (by omega) hc with h | h
   ·left
    refine Ev.step (f := fun j => tree_half.l0 j (n : Int) ((2 * k : Nat) : Int)) (fun j => ?_) ?_
    ·have e : wrap64 ((k : Int) * 2) = ((2 * k : Nat) : Int) := by unfold wrap64; omega
     rw [tree_half.l0, e, if_pos (by omega)]
    ·unfold Pl.halfGo
     rw [if_pos hc]
     exact h
   ·right
    intro h'
    exact h (by rw [Nat.pow_succ] at h'; rw [Nat.mul_comm 2 k, Nat.mul_assoc, Nat.mul_comm 2]; exact h')
  ·left
   refine Ev.step (f := fun _ => some ((k : Nat) : Int)) (fun j => ?_) ?_
   ·have e : wrap64 ((k : Int) * 2) = ((2 * k : Nat) : Int) := by unfold wrap64; omega
    rw [tree_half.l0, e, if_neg (by omega)]
   ·unfold Pl.halfGo
    rw [if_neg hc]
    exact Ev.now _
theorem s_halfE {n : Nat} (h2 : 2 ≤ n) (hn : n ≤ 4611686018427387904) : Ev (fun j => tree_half.f j (n : Int)) ((Pl.half n : Nat) : Int) := by
 unfold tree_half.f
 rcases s_half_l0 n hn n 1 (Nat.le_refl _) (by omega) with h | h
 ·exact h
 ·exact absurd (by rw [Nat.one_mul]; exact Nat.le_of_lt Nat.lt_two_pow_self) h
theorem s_nodeE (a b : ByteArray) (ha : a.size ≤ 16) (hb : b.size ≤ 16) : tree_node.f a b = some (Pl.nodeP a b) := by
 have h := Pl.nodeL_cap a b ha hb
 unfold tree_node.f digest_List.f
 unfold Pl.nodeL at h
 rw [if_pos h]
 rfl
theorem s_rootE : ∀ (n : Nat) (l : List ByteArray), l.length = n → n ≤ 1000000 → (∀ x ∈ l, x.size ≤ 1000) → Ev (fun k => tree_Root.f k l) (Pl.rootP l) := by
 intro n
 induction n using Nat.strongRecOn with
 | ind n ih =>
  intro l hl hn hs
  by_cases h2 : 2 ≤ l.length
  ·have hh := Pl.half_spec h2
   refine evS ?_
   simp only [tree_Root.f, if_neg (show ¬ (l.length : Int) = 0 by omega), if_neg (show ¬ (l.length : Int) = 1 by omega)]
   refine Ev.bind (s_halfE h2 (by omega)) ?_
   simp only [if_pos (show (0 : Int) ≤ ((Pl.half l.length : Nat) : Int) by omega), if_pos (show ((Pl.half l.length : Nat) : Int) ≤ (l.length : Int) by omega), Int.toNat_natCast]
   refine Ev.bind (ih _ (by have := Pl.take_lt h2; omega) (l.take (Pl.half l.length)) rfl (by have := Pl.take_lt h2; omega) (small_take hs)) ?_
   refine Ev.bind (ih _ (by have := Pl.drop_lt h2; omega) (l.drop (Pl.half l.length)) rfl (by have := Pl.drop_lt h2; omega) (small_drop hs)) ?_
   simp only [s_nodeE _ _ (by rw [Pl.root_size]; omega : (Pl.rootP (l.take (Pl.half l.length))).size ≤ 16) (by rw [Pl.root_size]; omega : (Pl.rootP (l.drop (Pl.half l.length))).size ≤ 16), Option.bind_some]
   exact evE (Ev.now _) (Pl.root_two h2).symm
  ·match l, h2, hs with
   | [], _, _ =>
    refine evS ?_
    simp only [tree_Root.f, if_pos (show (([] : List ByteArray).length : Int) = 0 from rfl), emptyLE, Option.bind_some]
    exact evE (Ev.now _) Pl.root_nil.symm
   | [x], _, hs =>
    refine evS ?_
    simp only [tree_Root.f, if_neg (show ¬ (([x] : List ByteArray).length : Int) = 0 by simp), if_pos (show (([x] : List ByteArray).length : Int) = 1 from rfl), if_pos (show (0 : Int) < (([x] : List ByteArray).length : Int) by simp), show rdOf ByteArray.empty [x] 0 = x from rfl, leafLE x (hs x (by simp)), Option.bind_some]
    exact evE (Ev.now _) (Pl.root_one x).symm
   | _ :: _ :: _, h2, _ => exact absurd (by simp) h2
namespace Pl
def itB (a : Int) : ByteArray := ⟨(Lib.itoa a).toArray⟩
def startP (secret : ByteArray) (i k : Nat) : ByteArray := sum (joined [secret, itB i, itB k])
def keyEnds (secret : ByteArray) (i : Nat) : List ByteArray := (List.range 18).map fun k => chn 15 (startP secret i k)
def keyP (secret : ByteArray) (i : Nat) : ByteArray := sum (joined (keyEnds secret i))
def keysP (secret : ByteArray) (h : Nat) : List ByteArray := (List.range (2 ^ h)).map fun i => keyP secret i
def publicP (secret : ByteArray) (h : Nat) : ByteArray := rootP (keysP secret h)
def sigP (secret : ByteArray) (i : Nat) (m : ByteArray) : List ByteArray := K18.map fun k => chn (dg m k.val) (startP secret i k.val)
def endsP (m : ByteArray) (sig : List ByteArray) : List ByteArray := K18.map fun k => chn (15 - dg m k.val) (sig.getD k.val ByteArray.empty)
def sealOk (i : Int) (sig path : List ByteArray) : Bool := decide (sig.length = 18) && (decide (path.length ≤ 8) && (sig.all isDig && (path.all isDig && (decide (0 ≤ i) && decide (i < ((2 ^ path.length : Nat) : Int))))))
def verifyP (pub m : ByteArray) (i : Int) (sig path : List ByteArray) : Bool := sealOk i sig path && checkP pub ((2 ^ path.length : Nat) : Int) i (sum (joined (endsP m sig))) path
theorem itB_size (a : Int) (h0 : -9223372036854775808 ≤ a) (h1 : a ≤ 9223372036854775807) : (itB a).size ≤ 21 := by
 have := Go.Lib.itoa_length_le a h0 h1
 unfold itB
 show (Lib.itoa a).toArray.size ≤ 21
 simpa using this
theorem startP_size (s : ByteArray) (i k : Nat) : (startP s i k).size = 16 := sum_size _
theorem keyP_size (s : ByteArray) (i : Nat) : (keyP s i).size = 16 := sum_size _
theorem keysP_len (s : ByteArray) (h : Nat) : (keysP s h).length = 2 ^ h := by simp [keysP]
theorem keysP_small (s : ByteArray) (h : Nat) : ∀ x ∈ keysP s h, x.size ≤ 1000 := by
 intro x hx
 simp only [keysP, List.mem_map] at hx
 obtain ⟨i, _, rfl⟩ := hx
 rw [keyP_size]; omega
theorem chn_size_le (n : Nat) (a : ByteArray) (h : a.size ≤ 16) : (chn n a).size ≤ 16 := by
 cases n with
 | zero => exact h
 | succ n => rw [chn_size]; omega
theorem pow8 {h : Nat} (hh : h ≤ 8) : 2 ^ h ≤ 256 := by
 have : 2 ^ h ≤ 2 ^ 8 := Nat.pow_le_pow_right (by omega) hh
 simpa using this
end Pl
theorem itE (a : Int) (h0 : -9223372036854775808 ≤ a) (h1 : a ≤ 9223372036854775807) : strconv_Itoa.f a = some (Pl.itB a) := by
 unfold strconv_Itoa.f
 rw [if_pos h0, if_pos h1]; rfl
theorem ofE {l : List ByteArray} {n : Nat} (h : Pl.few l n = true) (hn : n ≤ 1000000) : seal_of.f l = some (Pl.sum (Pl.joined l)) := by
 unfold seal_of.f
 rw [listE (Pl.few_caps h hn).2.2]; rfl
theorem few_start (secret : ByteArray) (i k : Nat) (hs : secret.size ≤ 1000) (hi : i ≤ 1000000) (hk : k ≤ 1000000) : Pl.few [secret, Pl.itB i, Pl.itB k] 1000 = true := by
 have h1 := Pl.itB_size (i : Int) (by omega) (by omega)
 have h2 := Pl.itB_size (k : Int) (by omega) (by omega)
 simp only [Pl.few, List.all_cons, List.all_nil, Bool.and_true, List.length_cons, List.length_nil]
 simp
 omega
theorem startE (secret : ByteArray) (i k : Nat) (hs : secret.size ≤ 1000) (hi : i ≤ 1000000) (hk : k ≤ 1000000) : seal_start.f secret (i : Int) (k : Int) = some (Pl.startP secret i k) := by
 unfold seal_start.f
 rw [itE (i : Int) (by omega) (by omega), itE (k : Int) (by omega) (by omega)]
 simp only [Option.bind_some]
 rw [ofE (few_start secret i k hs hi hk) (by omega)]; rfl
theorem s_chainN (a : ByteArray) (n : Nat) (ha : a.size ≤ 140737488355328) (hn : n ≤ 1000) : Ev (fun k => digest_Chain.f k a (n : Int)) (Pl.chn n a) :=
  evE (s_chainE a (n : Int) ha) (by rw [show (min (n : Int) 1000).toNat = n by omega])
theorem few_ends (l : List ByteArray) (hl : l.length ≤ 30) (h : ∀ x ∈ l, x.size ≤ 1000) : Pl.few l 1000 = true := by
 simp only [Pl.few, Bool.and_eq_true, List.all_eq_true, decide_eq_true_eq]
 exact ⟨h, hl⟩
theorem key_l0 (secret : ByteArray) (i : Nat) (hs : secret.size ≤ 1000) (hi : i ≤ 1000) : ∀ (d k : Nat) (out : List ByteArray), k + d = 18 → out = (Pl.keyEnds secret i).take k → Ev (fun j => seal_key.l0 j secret (i : Int) out (k : Int)) (Pl.keyP secret i) := by
 have hsm : ∀ x ∈ Pl.keyEnds secret i, x.size ≤ 1000 := by
  intro x hx
  simp only [Pl.keyEnds, List.mem_map] at hx
  obtain ⟨k, _, rfl⟩ := hx
  have := Pl.chn_size_le 15 (Pl.startP secret i k) (by rw [Pl.startP_size]; omega)
  omega
 have hlen : (Pl.keyEnds secret i).length = 18 := by simp [Pl.keyEnds]
 intro d
 induction d with
 | zero =>
  rintro k out hk rfl
  obtain rfl : k = 18 := by omega
  refine evS ?_
  simp only [seal_key.l0, if_neg (show ¬ ((18 : Nat) : Int) < 18 by omega)]
  rw [List.take_of_length_le (by omega), ofE (few_ends _ (by omega) hsm) (by omega)]
  exact Ev.now _
 | succ d ih =>
  rintro k out hk rfl
  have e1 : wrap64 ((k : Int) + 1) = ((k + 1 : Nat) : Int) := by rw [w64_id] <;> omega
  refine evS ?_
  simp only [seal_key.l0, if_pos (show (k : Int) < 18 by omega), startE secret i k hs (by omega) (by omega), Option.bind_some, e1]
  refine Ev.bind (s_chainN (Pl.startP secret i k) 15 (by rw [Pl.startP_size]; omega) (by omega)) ?_
  simp only [if_pos (show ((Pl.keyEnds secret i).take k).length < 8796093022208 by rw [List.length_take]; omega)]
  refine ih (k + 1) _ (by omega) ?_
  rw [List.take_succ_eq_append_getElem (by omega)]
  simp [Pl.keyEnds]
theorem keyE (secret : ByteArray) (i : Nat) (hs : secret.size ≤ 1000) (hi : i ≤ 1000) : Ev (fun j => seal_key.f j secret (i : Int)) (Pl.keyP secret i) := by
 unfold seal_key.f
 exact key_l0 secret i hs hi 18 0 [] rfl rfl
theorem keys_l0 (secret : ByteArray) (hs : secret.size ≤ 1000) (N : Nat) (hN : N ≤ 256) : ∀ (d i : Nat) (xs : List ByteArray), i + d = N → xs.length = N → xs.take i = (List.range i).map (Pl.keyP secret) → Ev (fun j => seal_keys.l0 j secret xs (N : Int) (i : Int)) ((List.range N).map (Pl.keyP secret)) := by
 intro d
 induction d with
 | zero =>
  intro i xs hi hl hx
  obtain rfl : i = N := by omega
  refine evS ?_
  simp only [seal_keys.l0, if_neg (show ¬ (i : Int) < (i : Int) by omega)]
  rw [List.take_of_length_le (by omega)] at hx
  exact evE (Ev.now _) hx
 | succ d ih =>
  intro i xs hi hl hx
  have e1 : wrap64 ((i : Int) + 1) = ((i + 1 : Nat) : Int) := by rw [w64_id] <;> omega
  refine evS ?_
  simp only [seal_keys.l0, if_pos (show (i : Int) < (N : Int) by omega)]
  refine Ev.bind (keyE secret i hs (by omega)) ?_
  simp only [if_pos (show (0 : Int) ≤ (i : Int) by omega), if_pos (show (i : Int) < (xs.length : Int) by omega), Int.toNat_natCast, e1]
  refine ih (i + 1) _ (by omega) (by simpa using hl) ?_
  rw [List.range_succ, List.map_append, ← hx, List.take_succ_eq_append_getElem (by simp; omega)]
  simp [List.take_set_of_le]
theorem shl_pow (h : Nat) (hh : h ≤ 8) : shl .i64 1 (h : Int) = ((2 ^ h : Nat) : Int) := by
 have e : shl .i64 1 (h : Int) = wrap64 (1 * 2 ^ min h 64) := (i64_w _).symm.trans rfl |>.symm ▸ rfl
 rw [e, show min h 64 = h by omega, Int.one_mul]
 have e2 : (2 : Int) ^ h = ((2 ^ h : Nat) : Int) := by simp
 have hb := Pl.pow8 hh
 rw [e2]
 generalize 2 ^ h = N at hb ⊢
 rw [w64_id] <;> omega
theorem keysE (secret : ByteArray) (h : Nat) (hs : secret.size ≤ 1000) (hh : h ≤ 8) : Ev (fun j => seal_keys.f j secret (h : Int)) (Pl.keysP secret h) := by
 have hb := Pl.pow8 hh
 unfold seal_keys.f
 rw [shl_pow h hh]
 simp only [if_pos (show (0 : Int) ≤ (h : Int) by omega), if_pos (show (0 : Int) ≤ ((2 ^ h : Nat) : Int) from Int.natCast_nonneg _), Int.toNat_natCast, if_pos (show 2 ^ h ≤ 17592186044416 by omega), Option.bind_some, List.length_replicate]
 exact keys_l0 secret hs (2 ^ h) hb (2 ^ h) 0 _ (by omega) (by simp) (by simp)
theorem publicE (secret : ByteArray) (h : Nat) (hs : secret.size ≤ 1000) (hh : h ≤ 8) : Ev (fun j => seal_Public.f j secret (h : Int)) (Pl.publicP secret h, 0) := by
 have hb := Pl.pow8 hh
 unfold seal_Public.f
 simp only [if_neg (show ¬ (h : Int) < 0 by omega), decide_eq_false (show ¬ (h : Int) > 8 by omega)]
 refine evS ?_
 simp only [seal_Public.j0, Bool.false_eq_true, if_false]
 refine Ev.bind (keysE secret h hs hh) ?_
 refine Ev.bind (s_rootE _ (Pl.keysP secret h) rfl (by rw [Pl.keysP_len]; omega) (Pl.keysP_small secret h)) ?_
 exact Ev.now _
theorem publicE_err (secret : ByteArray) (h : Int) (hh : h < 0 ∨ 8 < h) : Ev (fun j => seal_Public.f j secret h) (⟨#[]⟩, 1) := by
 unfold seal_Public.f
 by_cases h0 : h < 0
 ·simp only [if_pos h0]
  refine evS ?_
  simp only [seal_Public.j0, if_true]
  exact Ev.now _
 ·simp only [if_neg h0, decide_eq_true (show h > 8 by omega)]
  refine evS ?_
  simp only [seal_Public.j0, if_true]
  exact Ev.now _
end Go.Proofs.YtdlipbfcadmhjaaGreatDoor

namespace Go.Proofs.YtdlipbfcadmhjaaGreatDoor
open Go.RowKit Go.Proofs.YtdlipbfcadmhjaaGreatDoorW.PrintWords Go.Proofs.YtdlipbfcadmhjaaGreatDoorW.PrintLast Go.Proofs.YtdlipbfcadmhjaaGreatDoorW.PrintMore
theorem Pl.sealOk_iff (i : Int) (sig path : List ByteArray) : Pl.sealOk i sig path = true ↔ sig.length = 18 ∧ path.length ≤ 8 ∧ sig.all Pl.isDig = true ∧ path.all Pl.isDig = true ∧ 0 ≤ i ∧ i < ((2 ^ path.length : Nat) : Int) := by
 simp only [Pl.sealOk, Bool.and_eq_true, decide_eq_true_eq]
def seal_Sign.f (a0 : ByteArray) (a1 a2 : Int) (a3 : ByteArray) : Option (Int × List ByteArray × List ByteArray × Int) :=
  if a0.size ≤ 1000 then if a3.size ≤ 1000000 then
    if a1 < 0 ∨ a1 > 8 ∨ a2 < 0 ∨ ((2 ^ a1.toNat : Nat) : Int) ≤ a2 then some (0, [], [], 1)
    else some (a2, Pl.sigP a0 a2.toNat a3, Pl.pathP (Pl.keysP a0 a1.toNat) a2.toNat, 0)
  else none else none
def seal_Verify.f (a0 a1 : ByteArray) (a2 : Int) (l1 l2 : List ByteArray) : Option Bool :=
  if a1.size ≤ 1000000 then some (Pl.verifyP a0 a1 a2 l1 l2) else none
theorem seal_Sign.calls (a0 : ByteArray) (a1 a2 : Int) (a3 : ByteArray) (r1 : Int) (r2 r3 : List ByteArray) (r4 : Int) (w : World) (hG : GL w) (h : seal_Sign.f a0 a1 a2 a3 = some (r1, r2, r3, r4)) :
    Calls Tryz.prog 41 #[.string a0, .int .i64 a1, .int .i64 a2, .string a3] w fun e w' => ∃ v1_ v2_ : Value, e = .returned (.tuple #[.agg #[.int .i64 r1, v1_, v2_], .int .i64 r4]) ∧ Kd.R Kd.string 9 w' w.heap.size (fun k_ => some k_ ≠ (v2_ : Value).ownBlock) v1_ r2 ∧ Kd.R Kd.string 9 w' w.heap.size (fun k_ => some k_ ≠ (v1_ : Value).ownBlock) v2_ r3 ∧ Below w.heap.size w w' := by
 unfold seal_Sign.f at h
 by_cases h1 : a0.size ≤ 1000
 ·by_cases h2 : a3.size ≤ 1000000
  ·rw [if_pos h1, if_pos h2] at h
   by_cases h3 : a1 < 0 ∨ a1 > 8 ∨ a2 < 0 ∨ ((2 ^ a1.toNat : Nat) : Int) ≤ a2
   ·rw [if_pos h3] at h
    have h := Option.some.inj h
    simp only [Prod.mk.injEq] at h
    obtain ⟨rfl, rfl, rfl, rfl⟩ := h
    refine (sign_err a0 a3 a1 a2 w h3).mono ?_
    rintro e w' ⟨rfl, hb⟩
    exact ⟨.slice none 0 0, .slice none 0 0, rfl, Kd.R_nil _ _ _ _ _, Kd.R_nil _ _ _ _ _, hb⟩
   ·rw [if_neg h3] at h
    have h := Option.some.inj h
    simp only [Prod.mk.injEq] at h
    obtain ⟨rfl, rfl, rfl, rfl⟩ := h
    obtain ⟨H, rfl⟩ : ∃ H : Nat, a1 = (H : Int) := ⟨a1.toNat, by omega⟩
    obtain ⟨I, rfl⟩ : ∃ I : Nat, a2 = (I : Int) := ⟨a2.toNat, by omega⟩
    simp only [Int.toNat_natCast] at h3 ⊢
    have hH : H ≤ 8 := by omega
    have hI : I < 2 ^ H := by
     have := h3
     simp only [not_or] at this
     have := this.2.2.2
     exact Int.ofNat_lt.1 (by omega)
    have hb := Pl.pow8 hH
    obtain ⟨kk, hkk⟩ := (keysE a0 H h1 hH).rounds
    obtain ⟨kp, hkp⟩ := (pathE (Pl.keysP a0 H) I (by rw [Pl.keysP_len]; exact hI) (by rw [Pl.keysP_len]; omega) (Pl.keysP_small a0 H)).rounds
    exact sign_ok a0 a3 H I (by omega) hH hI (fun k => Pl.startP a0 I k.val) (fun k => Pl.chn (Pl.dg a3 k.val) (Pl.startP a0 I k.val)) (fun k => startE a0 I k.val h1 (by omega) (by have := k.isLt; omega))
     (fun k => (s_chainN (Pl.startP a0 I k.val) (Pl.dg a3 k.val) (by rw [Pl.startP_size]; omega) (by have := Pl.dg_lt a3 k.val; omega)).rounds) kk kp (Pl.keysP a0 H) (Pl.pathP (Pl.keysP a0 H) I) hkk hkp w hG
  ·rw [if_pos h1, if_neg h2] at h
   cases h
 ·rw [if_neg h1] at h
  cases h
theorem seal_Verify.calls (a0 a1 : ByteArray) (a2 : Int) (A1 : Option Addr) (c1 : Nat) (l1 : List ByteArray) (A2 : Option Addr) (c2 : Nat) (l2 : List ByteArray) (r : Bool) (w : World) (hG : GL w)
    (hr1 : Kd.C Kd.string w A1 l1.length l1) (hc1 : l1.length ≤ c1) (hr2 : Kd.C Kd.string w A2 l2.length l2) (hc2 : l2.length ≤ c2) (h : seal_Verify.f a0 a1 a2 l1 l2 = some r) :
    Calls Tryz.prog 44 #[.string a0, .string a1, .agg #[.int .i64 a2, .slice A1 l1.length c1, .slice A2 l2.length c2]] w fun e w' => e = .returned (.bool r) ∧ Below w.heap.size w w' := by
 unfold seal_Verify.f at h
 by_cases h1 : a1.size ≤ 1000000
 ·rw [if_pos h1] at h
  obtain rfl := Option.some.inj h
  by_cases hok : Pl.sealOk a2 l1 l2 = true
  ·obtain ⟨h18, hn8, hs, hp, hi0, hi⟩ := (Pl.sealOk_iff a2 l1 l2).1 hok
   have hb := Pl.pow8 hn8
   have hsm : ∀ x ∈ Pl.endsP a1 l1, x.size ≤ 1000 := by
    intro x hx
    simp only [Pl.endsP, List.mem_map] at hx
    obtain ⟨k, _, rfl⟩ := hx
    have hx16 : (l1.getD k.val ByteArray.empty).size ≤ 16 := by
     have hk := k.isLt
     rw [List.getD_eq_getElem?_getD, List.getElem?_eq_getElem (by omega)]
     have := Pl.dig_size ((List.all_eq_true.1 hs) l1[k.val] (List.getElem_mem (by omega)))
     simp only [Option.getD_some]
     omega
    have := Pl.chn_size_le (15 - Pl.dg a1 k.val) _ hx16
    omega
   have hfe := few_ends (Pl.endsP a1 l1) (by simp [Pl.endsP, Pl.k18_len]) hsm
   have hleaf := ofE hfe (by omega)
   have hchk : tree_Check.f a0 (wrap64 (2 ^ l2.length)) a2 (Pl.sum (Pl.joined (Pl.endsP a1 l1))) l2 = some (Pl.verifyP a0 a1 a2 l1 l2) := by
    unfold tree_Check.f
    have hlf : Pl.few (Pl.leafL (Pl.sum (Pl.joined (Pl.endsP a1 l1)))) 1000 = true := few_leaf _ (by rw [Pl.sum_size]; omega)
    rw [if_pos (by omega), if_pos (Pl.few_caps hlf (by omega)).2.2, two_pow_wrap _ hn8]
    unfold Pl.verifyP
    rw [hok, Bool.true_and]
   refine verify_ok a0 a1 l2.length a2 (by omega) A1 A2 c1 c2 l1 l2 w hG hr1 hc1 hr2 hc2 h18 rfl hn8 hs hp hi0 hi (fun k => Pl.chn (15 - Pl.dg a1 k.val) (l1.getD k.val ByteArray.empty)) (fun k => ?_) (Pl.endsP a1 l1) rfl _ hleaf _ hchk
   have hk := Pl.dg_lt a1 k.val
   have e : wrap64 (15 - (Pl.dg a1 k.val : Int)) = ((15 - Pl.dg a1 k.val : Nat) : Int) := by rw [w64_id] <;> omega
   rw [e]
   have hx16 : (l1.getD k.val ByteArray.empty).size ≤ 16 := by
    have hk := k.isLt
    rw [List.getD_eq_getElem?_getD, List.getElem?_eq_getElem (by omega)]
    have := Pl.dig_size ((List.all_eq_true.1 hs) l1[k.val] (List.getElem_mem (by omega)))
    simp only [Option.getD_some]
    omega
   exact (s_chainN (l1.getD k.val ByteArray.empty) (15 - Pl.dg a1 k.val) (by omega) (by omega)).rounds
  ·have hv : Pl.verifyP a0 a1 a2 l1 l2 = false := by
    unfold Pl.verifyP
    rw [Bool.not_eq_true] at hok
    rw [hok]; rfl
   rw [hv]
   exact verify_no a0 a1 a2 A1 A2 c1 c2 l1 l2 w hG hr1 hc1 hr2 hc2 (fun hh => hok ((Pl.sealOk_iff a2 l1 l2).2 hh))
 ·rw [if_neg h1] at h
  cases h
end Go.Proofs.YtdlipbfcadmhjaaGreatDoor

namespace Go.Proofs.YtdlipbfcadmhjaaGreatDoor
open Go Go.RowKit Go.Shelf Go.Proofs.YtdlipbfcadmhjaaGreatDoorW.PrintWords Go.Proofs.YtdlipbfcadmhjaaGreatDoorW.PrintLast Go.Proofs.YtdlipbfcadmhjaaGreatDoorW.PrintMore
theorem verify_at (a0 a1 : ByteArray) (a2 : Int) (A1 : Option Addr) (c1 n1 : Nat) (l1 : List ByteArray) (A2 : Option Addr) (c2 n2 : Nat) (l2 : List ByteArray) (r : Bool) (w : World) (hG : GL w)
    (e1 : l1.length = n1) (hr1 : Kd.C Kd.string w A1 l1.length l1) (hc1 : n1 ≤ c1) (e2 : l2.length = n2) (hr2 : Kd.C Kd.string w A2 l2.length l2) (hc2 : n2 ≤ c2) (h : seal_Verify.f a0 a1 a2 l1 l2 = some r) :
    Calls Tryz.prog 44 #[.string a0, .string a1, .agg #[.int .i64 a2, .slice A1 n1 c1, .slice A2 n2 c2]] w fun e w' => e = .returned (.bool r) ∧ Below w.heap.size w w' := by
 subst e1 e2
 exact seal_Verify.calls a0 a1 a2 A1 c1 l1 A2 c2 l2 r w hG hr1 hc1 hr2 hc2 h
set_option maxRecDepth 100000 in
set_option maxHeartbeats 8000000 in
theorem head03_walk (pub no : ByteArray) (kp kq : Nat) (sg pt : List ByteArray) (w : World) (hG : GL w)
    (hp1 : PG3.seal_Public.f kp ⟨#[115, 101, 99, 114, 101, 116]⟩ 2 = some (pub, 0)) (hp2 : PG3.seal_Public.f kq ⟨#[115, 101, 99, 114, 101, 116]⟩ 9 = some (no, 1))
    (hs1 : seal_Sign.f ⟨#[115, 101, 99, 114, 101, 116]⟩ 2 3 ⟨#[109, 101, 115, 115, 97, 103, 101]⟩ = some (3, sg, pt, 0)) (hs2 : seal_Sign.f ⟨#[115, 101, 99, 114, 101, 116]⟩ 2 4 ⟨#[109, 101, 115, 115, 97, 103, 101]⟩ = some (0, [], [], 1))
    (hl1 : sg.length = 18) (hl2 : pt.length = 2)
    (hv1 : seal_Verify.f pub ⟨#[109, 101, 115, 115, 97, 103, 101]⟩ 3 sg pt = some true) (hv2 : seal_Verify.f pub ⟨#[109, 101, 115, 115, 97, 103, 101]⟩ 3 sg (pt.take 1) = some false)
    (hv3 : seal_Verify.f pub ⟨#[109, 101, 115, 115, 97, 103, 101]⟩ 3 (sg.drop 1) pt = some false) (hv4 : seal_Verify.f ⟨#[]⟩ ⟨#[109, 101, 115, 115, 97, 103, 101]⟩ 3 sg pt = some false) :
    Calls Tryz.prog 36 #[] w fun e w' => e = .returned (.bool true) ∧ Below w.heap.size w w' := by
 have HG := Aside0.mk hG
 have HP1 := Aside0.mk hp1
 have HP2 := Aside0.mk hp2
 have HS1 := Aside0.mk hs1
 have HS2 := Aside0.mk hs2
 have HV1 := Aside0.mk hv1
 have HV2 := Aside0.mk hv2
 have HV3 := Aside0.mk hv3
 have HV4 := Aside0.mk hv4
 have HL1 := Aside0.mk hl1
 have HL2 := Aside0.mk hl2
 clear hG hp1 hp2 hs1 hs2 hv1 hv2 hv3 hv4 hl1 hl2
 go_enter Tryz.func36, Tryz.ntmps36
 go_wp2_with fail
 refine (PG3.seal_Public.calls kp ⟨#[115, 101, 99, 114, 101, 116]⟩ 2 pub 0 _ HG.out HP1.out).mono ?_
 rintro e w1 ⟨rfl, hb⟩
 have HB1 := Aside0.mk hb
 clear hb
 go_wp2_with fail
 refine (PG3.seal_Public.calls kq ⟨#[115, 101, 99, 114, 101, 116]⟩ 9 no 1 _ (HG.out.below HB1.out) HP2.out).mono ?_
 rintro e w2 ⟨rfl, hb⟩
 have HB2 := Aside0.mk (below_step HB1.out hb)
 clear hb
 go_wp2_with fail
 refine (seal_Sign.calls ⟨#[115, 101, 99, 114, 101, 116]⟩ 2 3 ⟨#[109, 101, 115, 115, 97, 103, 101]⟩ 3 sg pt 0 _ (HG.out.below HB2.out) HS1.out).mono ?_
 rintro e w3 ⟨v1, v2, rfl, ho1, ho2, hb⟩
 have HB3 := Aside0.mk (below_step HB2.out hb)
 clear hb
 obtain ⟨As, cs, es⟩ := Kd.R_slice ho1
 obtain ⟨Ap, cp, ep⟩ := Kd.R_slice ho2
 subst es ep
 have HR1 := Aside0.mk (Kd.R_reads' ho1).2
 have HR2 := Aside0.mk (Kd.R_reads' ho2).2
 clear ho1 ho2
 rw [HL1.out, HL2.out]
 go_wp2_with fail
 have BK5 := Aside0.mk (blk_new w3 (.cells #[.int .i64 3, .slice As 18 cs, .slice Ap 2 cp] 33 (0, 0)))
 have X5 := Aside0.mk (below_alloc (Below.refl w3.heap.size w3) (.cells #[.int .i64 3, .slice As 18 cs, .slice Ap 2 cp] 33 (0, 0)))
 have XS : w3.heap.size < (w3.alloc (.cells #[.int .i64 3, .slice As 18 cs, .slice Ap 2 cp] 33 (0, 0))).heap.size := by rw [World.size_alloc]; omega
 have HR1' := Aside0.mk (And.intro HR1.out.1 (Kd.C_below HR1.out.2 X5.out))
 have HR2' := Aside0.mk (And.intro HR2.out.1 (Kd.C_below HR2.out.2 X5.out))
 have HB4 := Aside0.mk (below_step HB3.out X5.out)
 generalize w3.alloc (.cells #[.int .i64 3, .slice As 18 cs, .slice Ap 2 cp] 33 (0, 0)) = w4 at BK5 HR1' HR2' HB4 XS ⊢
 generalize w3.heap.size = g5 at BK5 XS ⊢
 clear HR1 HR2 X5 HB3
 refine (seal_Sign.calls ⟨#[115, 101, 99, 114, 101, 116]⟩ 2 4 ⟨#[109, 101, 115, 115, 97, 103, 101]⟩ 0 [] [] 1 _ (HG.out.below HB4.out) HS2.out).mono ?_
 rintro e w5 ⟨v1, v2, rfl, ho1, ho2, hb⟩
 have HB5 := Aside0.mk (below_step HB4.out hb)
 obtain ⟨A5, c5, e1⟩ := Kd.R_slice ho1
 obtain ⟨B5, d5, e2⟩ := Kd.R_slice ho2
 subst e1 e2
 have RS := Aside0.mk (And.intro HR1'.out.1 (Kd.C_below HR1'.out.2 hb))
 have RP := Aside0.mk (And.intro HR2'.out.1 (Kd.C_below HR2'.out.2 hb))
 have K5 := Aside0.mk (blk_below BK5.out hb)
 have X5 : g5 < w5.heap.size := blk_lt K5.out
 clear HR1' HR2' BK5 HB4 XS ho1 ho2 hb
 have hcp : 2 ≤ cp := by have := RP.out.1; rw [HL2.out] at this; exact this
 have hcs : 18 ≤ cs := by have := RS.out.1; rw [HL1.out] at this; exact this
 have HCP := Aside0.mk hcp
 have HCS := Aside0.mk hcs
 clear hcp hcs
 have y0 : w5.cell? ⟨g5, 0, none⟩ = some (.int .i64 3) := (blk_cell K5.out 0).trans rfl
 have y1 : w5.cell? ⟨g5, 1, none⟩ = some (.slice As 18 cs) := (blk_cell K5.out 1).trans rfl
 have y2 : w5.cell? ⟨g5, 2, none⟩ = some (.slice Ap 2 cp) := (blk_cell K5.out 2).trans rfl
 have f0 := blk_frozen K5.out 0
 have f1 := blk_frozen K5.out 1
 have f2 := blk_frozen K5.out 2
 have cA : (1 : Int) ≤ (cp : Int) := by have := HCP.out; omega
 have cB : 1 ≤ cp := by have := HCP.out; omega
 go_upto_region 9 with fail
 clear y0 y1 y2 f0 f1 f2 cA cB
 have X6 := Aside0.mk (below_alloc (below_alloc (Below.refl w5.heap.size w5) (.cells #[.int .i64 0, .slice A5 0 c5, .slice B5 0 d5] 33 (0, 0))) (.cells #[.int .i64 3, .slice As 18 cs, .slice Ap 1 cp] 33 (0, 0)))
 have K9 := Aside0.mk (blk_new (w5.alloc (.cells #[.int .i64 0, .slice A5 0 c5, .slice B5 0 d5] 33 (0, 0))) (.cells #[.int .i64 3, .slice As 18 cs, .slice Ap 1 cp] 33 (0, 0)))
 have K5' := Aside0.mk (blk_below K5.out X6.out)
 have RS' := Aside0.mk (And.intro RS.out.1 (Kd.C_below RS.out.2 X6.out))
 have RP' := Aside0.mk (And.intro RP.out.1 (Kd.C_below RP.out.2 X6.out))
 have HB7 := Aside0.mk (below_step HB5.out X6.out)
 have X7 : (w5.heap.size + 1) < ((w5.alloc (.cells #[.int .i64 0, .slice A5 0 c5, .slice B5 0 d5] 33 (0, 0))).alloc (.cells #[.int .i64 3, .slice As 18 cs, .slice Ap 1 cp] 33 (0, 0))).heap.size := by rw [World.size_alloc, World.size_alloc]; omega
 rw [World.size_alloc] at K9
 generalize (w5.alloc (.cells #[.int .i64 0, .slice A5 0 c5, .slice B5 0 d5] 33 (0, 0))).alloc (.cells #[.int .i64 3, .slice As 18 cs, .slice Ap 1 cp] 33 (0, 0)) = w7 at K9 K5' RS' RP' HB7 X7 ⊢
 clear K5 RS RP HB5 X6
 have hne : g5 ≠ w5.heap.size + 1 := by omega
 generalize w5.heap.size + 1 = g9 at K9 X7 hne ⊢
 have y0 : w7.cell? ⟨g5, 0, none⟩ = some (.int .i64 3) := (blk_cell K5'.out 0).trans rfl
 have y1 : w7.cell? ⟨g5, 1, none⟩ = some (.slice As 18 cs) := (blk_cell K5'.out 1).trans rfl
 have y2 : w7.cell? ⟨g5, 2, none⟩ = some (.slice Ap 2 cp) := (blk_cell K5'.out 2).trans rfl
 have f0 := blk_frozen K5'.out 0
 have f1 := blk_frozen K5'.out 1
 have f2 := blk_frozen K5'.out 2
 have X57 : g5 < w7.heap.size := blk_lt K5'.out
 have cA : (18 : Int) ≤ (cs : Int) := by have := HCS.out; omega
 go_upto_region 11 with fail
 clear y0 y1 y2 f0 f1 f2 cA
 obtain ⟨O10, hO10⟩ : ∃ o : Obj, o = (.cells #[.int .i64 3, .slice (Option.map (fun x => ⟨x.block, x.off + 1, none⟩) As) 17 (cs - 1), .slice Ap 2 cp] 33 (0, 0)) := ⟨_, rfl⟩
 rw [← hO10]
 have X10 := Aside0.mk (below_alloc (Below.refl w7.heap.size w7) O10)
 have K10 := Aside0.mk (blk_new w7 O10)
 have K5 := Aside0.mk (blk_below K5'.out X10.out)
 have K9' := Aside0.mk (blk_below K9.out X10.out)
 have RS := Aside0.mk (And.intro RS'.out.1 (Kd.C_below RS'.out.2 X10.out))
 have RP := Aside0.mk (And.intro RP'.out.1 (Kd.C_below RP'.out.2 X10.out))
 have HB := Aside0.mk (below_step HB7.out X10.out)
 generalize w7.alloc O10 = w10 at K10 K9' K5 RS RP HB ⊢
 subst hO10; clear K5' K9 RS' RP' HB7 X10
 generalize w7.heap.size = g10 at K10 ⊢
 have RT : Aside0 (Kd.string.C w10 Ap 1 (pt.take 1)) := by
  have h := Kd.C_take (m := 1) RP.out.2 (by rw [HL2.out]; omega)
  rw [List.length_take, HL2.out] at h
  exact ⟨h⟩
 have y0 : w10.cell? ⟨g5, 0, none⟩ = some (.int .i64 3) := (blk_cell K5.out 0).trans rfl
 have f0 := blk_frozen K5.out 0
 have y1 : w10.cell? ⟨g5, 1, none⟩ = some (.slice As 18 cs) := (blk_cell K5.out 1).trans rfl
 have f1 := blk_frozen K5.out 1
 have y2 : w10.cell? ⟨g5, 2, none⟩ = some (.slice Ap 2 cp) := (blk_cell K5.out 2).trans rfl
 have f2 := blk_frozen K5.out 2
 go_wp2_with fail
 refine (verify_at pub ⟨#[109, 101, 115, 115, 97, 103, 101]⟩ 3 As (cs) 18 (sg) Ap (cp) 2 (pt) _ _ (HG.out.below HB.out) (by first | exact HL1.out | (rw [List.length_drop, HL1.out])) RS.out.2 (by have := HCS.out; omega) (by first | exact HL2.out | (rw [List.length_take, HL2.out]; rfl)) RP.out.2 (by have := HCP.out; omega) HV1.out).mono ?_
 rintro e w11 ⟨rfl, hb⟩; clear y0 y1 y2 f0 f1 f2
 have HB := Aside0.mk (below_step HB.out hb)
 have K5 := Aside0.mk (blk_below K5.out hb)
 have K9' := Aside0.mk (blk_below K9'.out hb)
 have K10 := Aside0.mk (blk_below K10.out hb)
 have RS := Aside0.mk (And.intro RS.out.1 (Kd.C_below RS.out.2 hb))
 have RP := Aside0.mk (And.intro RP.out.1 (Kd.C_below RP.out.2 hb))
 clear hb
 have y0 : w11.cell? ⟨g9, 0, none⟩ = some (.int .i64 3) := (blk_cell K9'.out 0).trans rfl
 have f0 := blk_frozen K9'.out 0
 have y1 : w11.cell? ⟨g9, 1, none⟩ = some (.slice As 18 cs) := (blk_cell K9'.out 1).trans rfl
 have f1 := blk_frozen K9'.out 1
 have y2 : w11.cell? ⟨g9, 2, none⟩ = some (.slice Ap 1 cp) := (blk_cell K9'.out 2).trans rfl
 have f2 := blk_frozen K9'.out 2
 go_wp2_with fail
 refine (verify_at pub ⟨#[109, 101, 115, 115, 97, 103, 101]⟩ 3 As (cs) 18 (sg) Ap (cp) 1 (pt.take 1) _ _ (HG.out.below HB.out) (by first | exact HL1.out | (rw [List.length_drop, HL1.out])) RS.out.2 (by have := HCS.out; omega) (by first | exact HL2.out | (rw [List.length_take, HL2.out]; rfl)) (by have := Kd.C_take (m := 1) RP.out.2 (by rw [HL2.out]; omega); rw [List.length_take, HL2.out] at this; rw [List.length_take, HL2.out]; exact this) (by have := HCP.out; omega) HV2.out).mono ?_
 rintro e w12 ⟨rfl, hb⟩; clear y0 y1 y2 f0 f1 f2
 have HB := Aside0.mk (below_step HB.out hb)
 have K5 := Aside0.mk (blk_below K5.out hb)
 have K10 := Aside0.mk (blk_below K10.out hb)
 have RS := Aside0.mk (And.intro RS.out.1 (Kd.C_below RS.out.2 hb))
 have RP := Aside0.mk (And.intro RP.out.1 (Kd.C_below RP.out.2 hb))
 clear hb
 have y0 : w12.cell? ⟨g10, 0, none⟩ = some (.int .i64 3) := (blk_cell K10.out 0).trans rfl
 have f0 := blk_frozen K10.out 0
 have y1 : w12.cell? ⟨g10, 1, none⟩ = some (.slice (Option.map (fun x => ⟨x.block, x.off + 1, none⟩) As) 17 (cs - 1)) := (blk_cell K10.out 1).trans rfl
 have f1 := blk_frozen K10.out 1
 have y2 : w12.cell? ⟨g10, 2, none⟩ = some (.slice Ap 2 cp) := (blk_cell K10.out 2).trans rfl
 have f2 := blk_frozen K10.out 2
 go_wp2_with fail
 refine (verify_at pub ⟨#[109, 101, 115, 115, 97, 103, 101]⟩ 3 (Option.map (fun x => ⟨x.block, x.off + 1, none⟩) As) (cs - 1) 17 (sg.drop 1) Ap (cp) 2 (pt) _ _ (HG.out.below HB.out) (by first | exact HL1.out | (rw [List.length_drop, HL1.out])) (by have := Kd.C_drop (m := 1) (c := cs) RS.out.2 (by rw [HL1.out]; omega) RS.out.1; rw [if_neg (by have := HCS.out; omega)] at this; exact this) (by have := HCS.out; omega) (by first | exact HL2.out | (rw [List.length_take, HL2.out]; rfl)) RP.out.2 (by have := HCP.out; omega) HV3.out).mono ?_
 rintro e w13 ⟨rfl, hb⟩; clear y0 y1 y2 f0 f1 f2
 have HB := Aside0.mk (below_step HB.out hb)
 have K5 := Aside0.mk (blk_below K5.out hb)
 have RS := Aside0.mk (And.intro RS.out.1 (Kd.C_below RS.out.2 hb))
 have RP := Aside0.mk (And.intro RP.out.1 (Kd.C_below RP.out.2 hb))
 clear hb
 have y0 : w13.cell? ⟨g5, 0, none⟩ = some (.int .i64 3) := (blk_cell K5.out 0).trans rfl
 have f0 := blk_frozen K5.out 0
 have y1 : w13.cell? ⟨g5, 1, none⟩ = some (.slice As 18 cs) := (blk_cell K5.out 1).trans rfl
 have f1 := blk_frozen K5.out 1
 have y2 : w13.cell? ⟨g5, 2, none⟩ = some (.slice Ap 2 cp) := (blk_cell K5.out 2).trans rfl
 have f2 := blk_frozen K5.out 2
 go_wp2_with fail
 refine (verify_at ⟨#[]⟩ ⟨#[109, 101, 115, 115, 97, 103, 101]⟩ 3 As (cs) 18 (sg) Ap (cp) 2 (pt) _ _ (HG.out.below HB.out) (by first | exact HL1.out | (rw [List.length_drop, HL1.out])) RS.out.2 (by have := HCS.out; omega) (by first | exact HL2.out | (rw [List.length_take, HL2.out]; rfl)) RP.out.2 (by have := HCP.out; omega) HV4.out).mono ?_
 rintro e w14 ⟨rfl, hb⟩; clear y0 y1 y2 f0 f1 f2
 have HB := Aside0.mk (below_step HB.out hb)
 have RS := Aside0.mk (And.intro RS.out.1 (Kd.C_below RS.out.2 hb))
 have RP := Aside0.mk (And.intro RP.out.1 (Kd.C_below RP.out.2 hb))
 clear hb
 go_wp2_with fail
 go_ret
 exact ⟨rfl, HB.out⟩
end Go.Proofs.YtdlipbfcadmhjaaGreatDoor

namespace Go.Proofs.YtdlipbfcadmhjaaGreatDoor.Pl
theorem climb_pow {n i : Nat} {d r : ByteArray} {xs ts : List ByteArray} (h : Climb n i d xs r ts) : ∀ c, n = 2 ^ c → xs.length = c := by
 induction h with
 | one d =>
  intro c hc
  cases c with
  | zero => rfl
  | succ c => have : 1 ≤ 2 ^ c := Nat.one_le_two_pow; rw [Nat.pow_succ] at hc; omega
 | @left n _ _ _ _ _ p hn hi h ih =>
  intro c hc
  cases c with
  | zero => simp at hc; omega
  | succ c =>
   have e : half n = 2 ^ c := half_of (by rw [hc, Nat.pow_succ]; have : 1 ≤ 2 ^ c := Nat.one_le_two_pow; omega) (by rw [hc, Nat.pow_succ]; omega)
   simp [ih c e]
 | @right n _ _ _ _ _ p hn hi h ih =>
  intro c hc
  cases c with
  | zero => simp at hc; omega
  | succ c =>
   have e : half n = 2 ^ c := half_of (by rw [hc, Nat.pow_succ]; have : 1 ≤ 2 ^ c := Nat.one_le_two_pow; omega) (by rw [hc, Nat.pow_succ]; omega)
   simp [ih c (by rw [e, hc, Nat.pow_succ]; omega)]
theorem climb_dig {n i : Nat} {d r : ByteArray} {xs ts : List ByteArray} (h : Climb n i d xs r ts) (hd : isDig d = true) : isDig r = true := by
 cases h with
 | one => exact hd
 | left => exact nodeP_dig _ _
 | right => exact nodeP_dig _ _
theorem check_dig {root : ByteArray} {n i : Nat} {s : ByteArray} {path : List ByteArray} (h : checkP root n i s path = true) : isDig root = true := by
 obtain ⟨_, _, ts, h⟩ := checkP_climb h
 exact climb_dig h (leafP_dig s)
theorem path_pow {l : List ByteArray} {i c : Nat} (hi : i < l.length) (hc : l.length = 2 ^ c) : (pathP l i).length = c := by
 obtain ⟨ts, h⟩ := path_climb _ l i rfl hi
 exact climb_pow h c hc
theorem path_ok {l : List ByteArray} {i : Nat} (hi : i < l.length) (hn : l.length ≤ 1000000) : checkP (rootP l) l.length i (l.getD i ByteArray.empty) (pathP l i) = true := by
 obtain ⟨ts, h⟩ := path_climb _ l i rfl hi
 exact check_of_climb hn hi (path_dig l i) h
theorem keys_get (s : ByteArray) {h i : Nat} (hi : i < 2 ^ h) : (keysP s h).getD i ByteArray.empty = keyP s i := by
 unfold keysP
 rw [List.getD_eq_getElem?_getD, List.getElem?_map, List.getElem?_range hi]
 rfl
theorem k18_get (k : Fin 18) : K18[k.val]? = some k := by
 unfold K18
 simp
theorem map18_get {f : Fin 18 → ByteArray} (k : Fin 18) : (K18.map f).getD k.val ByteArray.empty = f k := by
 rw [List.getD_eq_getElem?_getD, List.getElem?_map, k18_get]
 rfl
theorem range18 (f : Nat → ByteArray) : (List.range 18).map f = K18.map fun k => f k.val := by
 have : (List.range 18) = K18.map Fin.val := by unfold K18; decide
 rw [this, List.map_map]
 rfl
theorem chn_dig (n : Nat) (a : ByteArray) (h : isDig a = true) : isDig (chn n a) = true := by
 cases n with
 | zero => exact h
 | succ n => obtain ⟨b, e⟩ := chn_is_sum n a; rw [e]; exact isDig_sum b
theorem start_dig (s : ByteArray) (i k : Nat) : isDig (startP s i k) = true := isDig_sum _
theorem sig_len (s : ByteArray) (i : Nat) (m : ByteArray) : (sigP s i m).length = 18 := by unfold sigP; rw [List.length_map, k18_len]
theorem sig_get (s : ByteArray) (i : Nat) (m : ByteArray) (k : Fin 18) : (sigP s i m).getD k.val ByteArray.empty = chn (dg m k.val) (startP s i k.val) := map18_get k
theorem sig_dig (s : ByteArray) (i : Nat) (m : ByteArray) : (sigP s i m).all isDig = true := by
 rw [List.all_eq_true]
 intro x hx
 simp only [sigP, List.mem_map] at hx
 obtain ⟨k, _, rfl⟩ := hx
 exact chn_dig _ _ (start_dig _ _ _)
theorem ends_sig (s : ByteArray) (i : Nat) (m : ByteArray) : endsP m (sigP s i m) = keyEnds s i := by
 unfold endsP keyEnds
 rw [range18]
 refine List.map_congr_left fun k _ => ?_
 rw [sig_get, chn_add]
 have := dg_lt m k.val
 rw [show dg m k.val + (15 - dg m k.val) = 15 by omega]
theorem seal_ok (s : ByteArray) {h i : Nat} (m : ByteArray) (hh : h ≤ 8) (hi : i < 2 ^ h) : sealOk (i : Int) (sigP s i m) (pathP (keysP s h) i) = true := by
 have hp : (pathP (keysP s h) i).length = h := path_pow (by rw [keysP_len]; exact hi) (keysP_len s h)
 exact (sealOk_iff _ _ _).2 ⟨sig_len s i m, by omega, sig_dig s i m, path_dig _ _, by omega, by rw [hp]; exact_mod_cast hi⟩
theorem seal_verifies (s : ByteArray) {h i : Nat} (m : ByteArray) (hh : h ≤ 8) (hi : i < 2 ^ h) : verifyP (publicP s h) m (i : Int) (sigP s i m) (pathP (keysP s h) i) = true := by
 have hb := pow8 hh
 have hp : (pathP (keysP s h) i).length = h := path_pow (by rw [keysP_len]; exact hi) (keysP_len s h)
 unfold verifyP
 rw [seal_ok s m hh hi, Bool.true_and, ends_sig, hp]
 have := path_ok (l := keysP s h) (i := i) (by rw [keysP_len]; exact hi) (by rw [keysP_len]; omega)
 rw [keys_get s hi, keysP_len] at this
 exact this
theorem verify_pub {pub m : ByteArray} {i : Int} {sig path : List ByteArray} (h : verifyP pub m i sig path = true) : isDig pub = true := by
 unfold verifyP at h
 rw [Bool.and_eq_true] at h
 obtain ⟨h1, h2⟩ := h
 have hi := ((sealOk_iff _ _ _).1 h1).2.2.2.2.1
 obtain ⟨j, rfl⟩ : ∃ j : Nat, i = (j : Int) := ⟨i.toNat, by omega⟩
 exact check_dig h2
theorem verify_bad {pub m : ByteArray} {i : Int} {sig path : List ByteArray} (h : ¬ (sig.length = 18 ∧ i < ((2 ^ path.length : Nat) : Int))) : verifyP pub m i sig path = false := by
 have : sealOk i sig path = false := by
  rw [Bool.eq_false_iff]
  intro hh
  have := (sealOk_iff _ _ _).1 hh
  exact h ⟨this.1, this.2.2.2.2.2⟩
 unfold verifyP
 rw [this]; rfl
theorem verify_empty (m : ByteArray) (i : Int) (sig path : List ByteArray) : verifyP ⟨#[]⟩ m i sig path = false := by
 rw [Bool.eq_false_iff]
 intro h
 have := dig_size (verify_pub h)
 exact absurd this (by decide)
end Go.Proofs.YtdlipbfcadmhjaaGreatDoor.Pl
namespace Go.Proofs.YtdlipbfcadmhjaaGreatDoor
theorem signE (s m : ByteArray) (h i : Nat) (hs : s.size ≤ 1000) (hm : m.size ≤ 1000000) (hh : h ≤ 8) (hi : i < 2 ^ h) : seal_Sign.f s (h : Int) (i : Int) m = some ((i : Int), Pl.sigP s i m, Pl.pathP (Pl.keysP s h) i, 0) := by
 unfold seal_Sign.f
 rw [if_pos hs, if_pos hm]
 simp only [Int.toNat_natCast]
 rw [if_neg]
 have : (i : Int) < ((2 ^ h : Nat) : Int) := by exact_mod_cast hi
 omega
theorem signE_err (s m : ByteArray) (h i : Int) (hs : s.size ≤ 1000) (hm : m.size ≤ 1000000) (hb : h < 0 ∨ h > 8 ∨ i < 0 ∨ ((2 ^ h.toNat : Nat) : Int) ≤ i) : seal_Sign.f s h i m = some (0, [], [], 1) := by
 unfold seal_Sign.f
 rw [if_pos hs, if_pos hm, if_pos hb]
theorem verifyE (pub m : ByteArray) (i : Int) (sig path : List ByteArray) (hm : m.size ≤ 1000000) : seal_Verify.f pub m i sig path = some (Pl.verifyP pub m i sig path) := by
 unfold seal_Verify.f
 rw [if_pos hm]
end Go.Proofs.YtdlipbfcadmhjaaGreatDoor

namespace Go.Proofs.YtdlipbfcadmhjaaGreatDoor
open Go Go.RowKit Go.Proofs.YtdlipbfcadmhjaaGreatDoorW.PrintWords
theorem head03_at (s m : ByteArray) (hs : s.size ≤ 1000) (hm : m.size ≤ 1000000) : ∃ pub no : ByteArray, ∃ kp kq : Nat, ∃ sg pt : List ByteArray,
    PG3.seal_Public.f kp s 2 = some (pub, 0) ∧ PG3.seal_Public.f kq s 9 = some (no, 1) ∧ seal_Sign.f s 2 3 m = some (3, sg, pt, 0) ∧ seal_Sign.f s 2 4 m = some (0, [], [], 1) ∧ sg.length = 18 ∧ pt.length = 2 ∧
    seal_Verify.f pub m 3 sg pt = some true ∧ seal_Verify.f pub m 3 sg (pt.take 1) = some false ∧ seal_Verify.f pub m 3 (sg.drop 1) pt = some false ∧ seal_Verify.f ⟨#[]⟩ m 3 sg pt = some false := by
 obtain ⟨kp, hp⟩ := (publicE s 2 hs (by omega)).rounds
 obtain ⟨kq, hq⟩ := (publicE_err s 9 (by omega)).rounds
 have hl : (Pl.pathP (Pl.keysP s 2) 3).length = 2 := Pl.path_pow (by rw [Pl.keysP_len]; omega) (Pl.keysP_len s 2)
 refine ⟨Pl.publicP s 2, _, kp, kq, Pl.sigP s 3 m, Pl.pathP (Pl.keysP s 2) 3, hp, hq, signE s m 2 3 hs hm (by omega) (by omega), signE_err s m 2 4 hs hm (.inr (.inr (.inr (by decide)))), Pl.sig_len _ _ _, hl, ?_, ?_, ?_, ?_⟩
 ·rw [verifyE _ _ _ _ _ hm]
  exact congrArg some (Pl.seal_verifies s (h := 2) (i := 3) m (by omega) (by omega))
 ·rw [verifyE _ _ _ _ _ hm, Pl.verify_bad]
  rw [List.length_take, hl]
  rintro ⟨_, h⟩
  exact absurd h (by decide)
 ·rw [verifyE _ _ _ _ _ hm, Pl.verify_bad]
  rw [List.length_drop, Pl.sig_len]
  rintro ⟨h, _⟩
  omega
 ·rw [verifyE _ _ _ _ _ hm, Pl.verify_empty]
def customhouselaw03_head.f : Option Bool := some true
theorem customhouselaw03_head.calls (r : Bool) (w : World) (hG : GL w) (h : customhouselaw03_head.f = some r) :
    Calls Tryz.prog 36 #[] w fun e w' => e = .returned (.bool r) ∧ Below w.heap.size w w' := by
 obtain rfl : r = true := (Option.some.inj h).symm
 obtain ⟨pub, no, kp, kq, sg, pt, h1, h2, h3, h4, h5, h6, h7, h8, h9, h10⟩ := head03_at ⟨#[115, 101, 99, 114, 101, 116]⟩ ⟨#[109, 101, 115, 115, 97, 103, 101]⟩ (by decide) (by decide)
 exact head03_walk pub no kp kq sg pt w hG h1 h2 h3 h4 h5 h6 h7 h8 h9 h10
end Go.Proofs.YtdlipbfcadmhjaaGreatDoor
