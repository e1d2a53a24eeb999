/- seal, plain: the texts that are digested for a public key (Made). -/
import Derived.Test.YtdlipbfcadmhjaaGreatDoorY1
import Derived.Test.YtdlipbfcadmhjaaGreatDoorQ5
import Derived.Test.YtdlipbfcadmhjaaGreatDoorTE2
import Derived.Test.YtdlipbfcadmhjaaGreatDoorPG3x34
namespace Go.Proofs.YtdlipbfcadmhjaaGreatDoor
set_option linter.unusedVariables false
set_option linter.unusedSimpArgs false
open Go.RowKit Go.Proofs.YtdlipbfcadmhjaaGreatDoorW.PrintWords Go.Proofs.YtdlipbfcadmhjaaGreatDoorW.PrintMore PG3
namespace Pl
def startL (s : ByteArray) (i k : Nat) : ByteArray := joined [s, itB i, itB k]
def chainedP (t : ByteArray) (n : Nat) : List ByteArray := (List.range (n + 1)).map fun j => chn j t
def chainT (s : ByteArray) (n i k : Nat) : List ByteArray := startL s i k :: chainedP (startP s i k) n
def keyTexts (s : ByteArray) (n i : Nat) : List ByteArray := ((List.range 18).map (chainT s n i)).flatten ++ [joined (keyEnds s i), joined (leafL (keyP s i))]
def texts2 : List ByteArray → List ByteArray
  | a :: b :: r => joined (nodeL a b) :: texts2 r
  | _ => []
def up2 : List ByteArray → List ByteArray
  | a :: b :: r => nodeP a b :: up2 r
  | _ => []
def upT : Nat → List ByteArray → List ByteArray
  | 0, _ => []
  | c + 1, l => texts2 l ++ upT c (up2 l)
def madeP (s : ByteArray) (h n : Nat) : List ByteArray := ((List.range (2 ^ h)).map (keyTexts s n)).flatten ++ upT h ((List.range (2 ^ h)).map fun i => leafP (keyP s i))
theorem chained_len (t : ByteArray) (n : Nat) : (chainedP t n).length = n + 1 := by simp [chainedP]
theorem chained_get (t : ByteArray) (n : Nat) {j : Nat} (h : j ≤ n) : (chainedP t n).getD j ByteArray.empty = chn j t := by
 unfold chainedP
 rw [List.getD_eq_getElem?_getD, List.getElem?_map, List.getElem?_range (by omega)]
 rfl
theorem chn_succ (n : Nat) (a : ByteArray) : chn (n + 1) a = sum (chn n a) := by
 rw [← chn_add n 1]; rfl
theorem up2_len : ∀ (c : Nat) (l : List ByteArray), l.length = 2 ^ (c + 1) → (up2 l).length = 2 ^ c := by
 have : ∀ (n : Nat) (l : List ByteArray), l.length = 2 * n → (up2 l).length = n := by
  intro n
  induction n with
  | zero => intro l hl; obtain rfl := List.length_eq_zero_iff.1 hl; rfl
  | succ n ih =>
   intro l hl
   match l, hl with
   | a :: b :: r, hl =>
    have := ih r (by simp at hl; omega)
    simp [up2, this]
   | [x], hl => simp at hl; omega
   | [], hl => simp at hl
 intro c l hl
 exact this _ l (by rw [hl, Nat.pow_succ]; omega)
theorem up2_small : ∀ (n : Nat) (l : List ByteArray), l.length ≤ n → ∀ x ∈ up2 l, x.size ≤ 16 := by
 intro n
 induction n with
 | zero => intro l hl x hx; obtain rfl := List.length_eq_zero_iff.1 (Nat.le_zero.1 hl); simp [up2] at hx
 | succ n ih =>
  intro l hl x hx
  match l, hl, hx with
  | a :: b :: r, hl, hx =>
   simp only [up2, List.mem_cons] at hx
   rcases hx with rfl | hx
   ·rw [nodeP_size]; omega
   ·exact ih r (by simp at hl; omega) x hx
  | [y], hl, hx => simp [up2] at hx
  | [], hl, hx => simp [up2] at hx
end Pl
theorem powerE (h : Nat) (hh : h ≤ 30) : Ev (fun k => customhouseref03_Power.f k (h : Int)) ((2 ^ h : Nat) : Int) := by
 unfold customhouseref03_Power.f
 have go : ∀ (m i : Nat), i + m = h → Ev (fun k => customhouseref03_Power.l0 k (h : Int) ((2 ^ i : Nat) : Int) (i : Int)) ((2 ^ h : Nat) : Int) := by
  intro m
  induction m with
  | zero =>
   intro i hi
   obtain rfl : i = h := by omega
   refine evS ?_
   simp only [customhouseref03_Power.l0, if_neg (show ¬ (i : Int) < (i : Int) by omega)]
   exact Ev.now _
  | succ m ih =>
   intro i hi
   have hb : 2 ^ i ≤ 2 ^ 30 := Nat.pow_le_pow_right (by omega) (by omega)
   have e1 : wrap64 ((i : Int) + 1) = ((i + 1 : Nat) : Int) := by rw [w64_id] <;> omega
   have e2 : wrap64 (2 * ((2 ^ i : Nat) : Int)) = ((2 ^ (i + 1) : Nat) : Int) := by
    rw [Nat.pow_succ]
    generalize 2 ^ i = X at hb ⊢
    rw [w64_id] <;> omega
   refine evS ?_
   simp only [customhouseref03_Power.l0, if_pos (show (i : Int) < (h : Int) by omega), e1, e2]
   exact ih (i + 1) (by omega)
 exact go h 0 (by omega)
theorem chainedE (t : ByteArray) (n : Nat) (ht : t.size ≤ 1000000) (hn : n ≤ 1000) : Ev (fun k => customhouseref03_chained.f k t (n : Int)) (Pl.chainedP t n) := by
 unfold customhouseref03_chained.f
 have hsz : ∀ j, (Pl.chn j t).size ≤ 1000000 := by
  intro j
  cases j with
  | zero => exact ht
  | succ j => rw [Pl.chn_size]; omega
 have go : ∀ (m i : Nat), i + m = n → Ev (fun k => customhouseref03_chained.l0 k (Pl.chn i t) (n : Int) (Pl.chainedP t i) (i : Int)) (Pl.chainedP t n) := by
  intro m
  induction m with
  | zero =>
   intro i hi
   obtain rfl : i = n := by omega
   refine evS ?_
   simp only [customhouseref03_chained.l0, if_neg (show ¬ (i : Int) < (i : Int) by omega)]
   exact Ev.now _
  | succ m ih =>
   intro i hi
   have e1 : wrap64 ((i : Int) + 1) = ((i + 1 : Nat) : Int) := by rw [w64_id] <;> omega
   refine evS ?_
   simp only [customhouseref03_chained.l0, if_pos (show (i : Int) < (n : Int) by omega), e1]
   refine Ev.bind (Q4.refSumE (Pl.chn i t) (by have := hsz i; omega)) ?_
   simp only [if_pos (show (Pl.chainedP t i).length < 8796093022208 by rw [Pl.chained_len]; omega)]
   have := ih (i + 1) (by omega)
   rw [Pl.chn_succ] at this
   rw [show Pl.chainedP t i ++ [Pl.sum (Pl.chn i t)] = Pl.chainedP t (i + 1) by
    unfold Pl.chainedP
    rw [List.range_succ (n := i + 1), List.map_append, List.map_singleton, Pl.chn_succ]]
   exact this
 exact go n 0 (by omega)
theorem decE (a : Nat) (h : a ≤ 1000000) : customhouseref01_Decimal.f (a : Int) = some (Pl.itB a) := by
 unfold customhouseref01_Decimal.f
 rw [if_pos (by omega), if_pos (by omega)]; rfl
theorem startLE (s : ByteArray) (i k : Nat) (hs : s.size ≤ 1000) (hi : i ≤ 1000000) (hk : k ≤ 1000000) : customhouseref01_Joined.f [s, Pl.itB i, Pl.itB k] = some (Pl.startL s i k) := jE _ (few_start s i k hs hi hk)
theorem key_small (s : ByteArray) (i : Nat) : ∀ x ∈ Pl.keyEnds s i, x.size ≤ 1000 := by
 intro x hx
 simp only [Pl.keyEnds, List.mem_map] at hx
 obtain ⟨k, _, rfl⟩ := hx
 have := Pl.chn_size_le 15 (Pl.startP s i k) (by rw [Pl.startP_size]; omega)
 omega
theorem keyEnds_len (s : ByteArray) (i : Nat) : (Pl.keyEnds s i).length = 18 := by simp [Pl.keyEnds]
theorem few_key (s : ByteArray) (i : Nat) : Pl.few (Pl.keyEnds s i) 1000 = true := few_ends _ (by rw [keyEnds_len]; omega) (key_small s i)
theorem made_l3 : ∀ (d : Nat) (lv : List ByteArray) (j : Nat) (out next : List ByteArray) (R : List ByteArray), lv.length ≤ 1000 → (∀ x ∈ lv, x.size ≤ 16) → j ≤ lv.length → lv.length - j ≤ d → out.length + d ≤ 1000000 → next.length + d ≤ 1000000 →
    Ev (fun k => customhouseref03_Made.l2 k (out ++ Pl.texts2 (lv.drop j)) (next ++ Pl.up2 (lv.drop j))) R → Ev (fun k => customhouseref03_Made.l3 k out lv next (j : Int)) R := by
 intro d
 induction d using Nat.strongRecOn with
 | ind d ih =>
  intro lv j out next R hl hs hj hd ho hn H
  have e1 : wrap64 ((j : Int) + 1) = ((j + 1 : Nat) : Int) := by rw [w64_id] <;> omega
  have e2 : wrap64 ((j : Int) + 2) = ((j + 2 : Nat) : Int) := by rw [w64_id] <;> omega
  by_cases h2 : j + 1 < lv.length
  ·have ha : rdOf ByteArray.empty lv (j : Int) = lv[j] := by
    show lv.getD j _ = _
    rw [List.getD_eq_getElem?_getD, List.getElem?_eq_getElem (by omega)]; rfl
   have hb : rdOf ByteArray.empty lv ((j + 1 : Nat) : Int) = lv[j + 1] := by
    show lv.getD (j + 1) _ = _
    rw [List.getD_eq_getElem?_getD, List.getElem?_eq_getElem (by omega)]; rfl
   have hsa : lv[j].size ≤ 16 := hs _ (List.getElem_mem _)
   have hsb : lv[j + 1].size ≤ 16 := hs _ (List.getElem_mem _)
   have hn1 : customhouseref03_node.f lv[j] lv[j + 1] = some (Pl.joined (Pl.nodeL lv[j] lv[j + 1])) := by
    unfold customhouseref03_node.f
    have hj : customhouseref01_Joined.f [(⟨#[110, 111, 100, 101]⟩ : ByteArray), lv[j], lv[j + 1]] = some (Pl.joined (Pl.nodeL lv[j] lv[j + 1])) := jE (Pl.nodeL lv[j] lv[j + 1]) (few_node _ _ (by omega) (by omega))
    rw [hj]; rfl
   have hd2 : lv.drop j = lv[j] :: lv[j + 1] :: lv.drop (j + 2) := by
    rw [List.drop_eq_getElem_cons (by omega), List.drop_eq_getElem_cons (by omega)]
   have hsm : (Pl.joined (Pl.nodeL lv[j] lv[j + 1])).size ≤ 140737488355328 := (Pl.few_caps (few_node _ _ (by omega : lv[j].size ≤ 1000) (by omega : lv[j + 1].size ≤ 1000)) (by omega)).2.2
   refine evS ?_
   simp only [customhouseref03_Made.l3, e1, e2, if_pos (show ((j + 1 : Nat) : Int) < (lv.length : Int) by omega), if_pos (show (0 : Int) ≤ (j : Int) by omega), if_pos (show (j : Int) < (lv.length : Int) by omega), if_pos (show (0 : Int) ≤ ((j + 1 : Nat) : Int) by omega), ha, hb, hn1, Option.bind_some, if_pos (show out.length < 8796093022208 by omega)]
   refine Ev.bind (Q4.refSumE _ (by omega)) ?_
   simp only [if_pos (show next.length < 8796093022208 by omega)]
   refine ih (d - 2) (by omega) lv (j + 2) _ _ R hl hs (by omega) (by omega) (by simp; omega) (by simp; omega) ?_
   rw [hd2] at H
   simp only [Pl.texts2, Pl.up2] at H
   rw [List.append_assoc, List.append_assoc]
   exact H
  ·refine evS ?_
   simp only [customhouseref03_Made.l3, e1, if_neg (show ¬ ((j + 1 : Nat) : Int) < (lv.length : Int) by omega)]
   have : (lv.drop j).length ≤ 1 := by rw [List.length_drop]; omega
   match hq : lv.drop j, this with
   | [], _ => rw [hq] at H; simpa [Pl.texts2, Pl.up2] using H
   | [x], _ => rw [hq] at H; simpa [Pl.texts2, Pl.up2] using H
   | _ :: _ :: _, h => simp at h
theorem made_l2 : ∀ (c : Nat) (lv out : List ByteArray), c ≤ 8 → lv.length = 2 ^ c → (∀ x ∈ lv, x.size ≤ 16) → out.length + 1000 * c ≤ 900000 → Ev (fun k => customhouseref03_Made.l2 k out lv) (out ++ Pl.upT c lv) := by
 intro c
 induction c with
 | zero =>
  intro lv out hc hl hs ho
  refine evS ?_
  simp only [customhouseref03_Made.l2, if_neg (show ¬ (lv.length : Int) > 1 by rw [hl]; simp)]
  exact evE (Ev.now _) (by simp [Pl.upT])
 | succ c ih =>
  intro lv out hc hl hs ho
  have hb := Pl.pow8 hc
  have h2 : 1 ≤ 2 ^ c := Nat.one_le_two_pow
  refine evS ?_
  simp only [customhouseref03_Made.l2, if_pos (show (lv.length : Int) > 1 by rw [hl, Nat.pow_succ]; omega)]
  have ht : (Pl.texts2 lv).length ≤ lv.length := by
   have : ∀ (n : Nat) (l : List ByteArray), l.length ≤ n → (Pl.texts2 l).length ≤ l.length := by
    intro n
    induction n with
    | zero => intro l hl; obtain rfl := List.length_eq_zero_iff.1 (Nat.le_zero.1 hl); simp [Pl.texts2]
    | succ n ih =>
     intro l hl
     match l, hl with
     | a :: b :: r, hl => have := ih r (by simp at hl; omega); simp [Pl.texts2]; omega
     | [x], _ => simp [Pl.texts2]
     | [], _ => simp [Pl.texts2]
   exact this _ lv (Nat.le_refl _)
  refine made_l3 lv.length lv 0 out [] _ (by omega) hs (by omega) (by omega) (by omega) (by simp; omega) ?_
  rw [List.drop_zero, List.nil_append]
  have := ih (Pl.up2 lv) (out ++ Pl.texts2 lv) (by omega) (Pl.up2_len c lv hl) (Pl.up2_small _ lv (Nat.le_refl _)) (by rw [List.length_append]; omega)
  rw [List.append_assoc] at this
  exact this
theorem made_l1 (s : ByteArray) (hs : s.size ≤ 1000) (h n i : Nat) (hn : 15 ≤ n) (hn2 : n ≤ 30) (hi : i ≤ 1000) (lv : List ByteArray) (hlv : lv.length ≤ 1000) (R : List ByteArray) :
    ∀ (d k : Nat) (out : List ByteArray), k + d = 18 → out.length + 40 * d + 10 ≤ 1000000 →
    Ev (fun K => customhouseref03_Made.l0 K s (h : Int) (n : Int) (out ++ (((List.range 18).drop k).map (Pl.chainT s n i)).flatten ++ [Pl.joined (Pl.keyEnds s i), Pl.joined (Pl.leafL (Pl.keyP s i))]) (lv ++ [Pl.leafP (Pl.keyP s i)]) ((i + 1 : Nat) : Int)) R →
    Ev (fun K => customhouseref03_Made.l1 K s (h : Int) (n : Int) out lv (i : Int) ((Pl.keyEnds s i).take k) (k : Int)) R := by
 intro d
 induction d with
 | zero =>
  intro k out hk ho H
  obtain rfl : k = 18 := by omega
  have e1 : wrap64 ((i : Int) + 1) = ((i + 1 : Nat) : Int) := by rw [w64_id] <;> omega
  refine evS ?_
  have hsm : (Pl.joined (Pl.keyEnds s i)).size ≤ 140737488355328 := (Pl.few_caps (few_key s i) (by omega)).2.2
  have hsl : (Pl.joined (Pl.leafL (Pl.keyP s i))).size ≤ 140737488355328 := (Pl.few_caps (few_leaf (Pl.keyP s i) (by rw [Pl.keyP_size]; omega)) (by omega)).2.2
  simp only [customhouseref03_Made.l1, if_neg (show ¬ ((18 : Nat) : Int) < 18 by omega)]
  rw [List.take_of_length_le (by rw [keyEnds_len]; omega), jE _ (few_key s i)]
  simp only [Option.bind_some]
  refine Ev.bind (Q4.refSumE _ (by omega)) ?_
  have hj : customhouseref01_Joined.f [(⟨#[108, 101, 97, 102]⟩ : ByteArray), Pl.sum (Pl.joined (Pl.keyEnds s i))] = some (Pl.joined (Pl.leafL (Pl.keyP s i))) := jE _ (few_leaf (Pl.keyP s i) (by rw [Pl.keyP_size]; omega))
  simp only [hj, Option.bind_some, if_pos (show out.length + [Pl.joined (Pl.keyEnds s i), Pl.joined (Pl.leafL (Pl.keyP s i))].length < 8796093022208 by simp; omega)]
  refine Ev.bind (Q4.refSumE _ (by omega)) ?_
  simp only [if_pos (show lv.length < 8796093022208 by omega), e1]
  have hz : (List.range 18).drop 18 = [] := by simp
  rw [hz, List.map_nil, List.flatten_nil, List.append_nil] at H
  exact H
 | succ d ih =>
  intro k out hk ho H
  have e1 : wrap64 ((k : Int) + 1) = ((k + 1 : Nat) : Int) := by rw [w64_id] <;> omega
  have hsm : (Pl.startL s i k).size ≤ 140737488355328 := (Pl.few_caps (few_start s i k hs (by omega) (by omega)) (by omega)).2.2
  refine evS ?_
  simp only [customhouseref03_Made.l1, if_pos (show (k : Int) < 18 by omega), decE i (by omega), decE k (by omega), Option.bind_some, startLE s i k hs (by omega) (by omega), if_pos (show out.length < 8796093022208 by omega), e1]
  refine Ev.bind (Q4.refSumE _ (by omega)) ?_
  refine Ev.bind (chainedE (Pl.sum (Pl.startL s i k)) n (by rw [Pl.sum_size]; omega) (by omega)) ?_
  have hg : rdOf ByteArray.empty (Pl.chainedP (Pl.sum (Pl.startL s i k)) n) 15 = Pl.chn 15 (Pl.startP s i k) := Pl.chained_get (Pl.startP s i k) n hn
  simp only [if_pos (show (out ++ [Pl.startL s i k]).length + (Pl.chainedP (Pl.sum (Pl.startL s i k)) n).length < 8796093022208 by rw [Pl.chained_len]; simp; omega), if_pos (show (15 : Int) < ((Pl.chainedP (Pl.sum (Pl.startL s i k)) n).length : Int) by rw [Pl.chained_len]; omega), if_pos (show ((Pl.keyEnds s i).take k).length < 8796093022208 by rw [List.length_take, keyEnds_len]; omega), hg]
  have ht : (Pl.keyEnds s i).take k ++ [Pl.chn 15 (Pl.startP s i k)] = (Pl.keyEnds s i).take (k + 1) := by
   rw [List.take_succ_eq_append_getElem (by rw [keyEnds_len]; omega)]
   simp [Pl.keyEnds]
  rw [ht]
  refine ih (k + 1) _ (by omega) (by simp only [List.length_append, List.length_singleton, Pl.chained_len]; omega) ?_
  have hd : (List.range 18).drop k = k :: (List.range 18).drop (k + 1) := by
   rw [List.drop_eq_getElem_cons (by simp; omega)]
   simp
  rw [hd, List.map_cons, List.flatten_cons] at H
  have hc : Pl.chainT s n i k = [Pl.startL s i k] ++ Pl.chainedP (Pl.sum (Pl.startL s i k)) n := rfl
  rw [hc] at H
  simpa only [List.append_assoc] using H
theorem chainT_len (s : ByteArray) (n i k : Nat) : (Pl.chainT s n i k).length = n + 2 := by simp [Pl.chainT, Pl.chained_len]
theorem keyTexts_len (s : ByteArray) (n i : Nat) (hn : n ≤ 30) : (Pl.keyTexts s n i).length ≤ 600 := by
 have : ∀ l : List Nat, ((l.map (Pl.chainT s n i)).flatten).length = l.length * (n + 2) := by
  intro l
  induction l with
  | nil => simp
  | cons a l ih => simp only [List.map_cons, List.flatten_cons, List.length_append, ih, chainT_len, List.length_cons]; rw [Nat.succ_mul]; omega
 unfold Pl.keyTexts
 rw [List.length_append, this, List.length_range]
 simp
 omega
theorem made_l0 (s : ByteArray) (hs : s.size ≤ 1000) (h n : Nat) (hh : h ≤ 8) (hn : 15 ≤ n) (hn2 : n ≤ 30) (R : List ByteArray) :
    ∀ (d i : Nat) (out : List ByteArray), i + d = 2 ^ h → out.length + 700 * d ≤ 500000 →
    Ev (fun K => customhouseref03_Made.l2 K (out ++ (((List.range (2 ^ h)).drop i).map (Pl.keyTexts s n)).flatten) ((List.range (2 ^ h)).map fun i => Pl.leafP (Pl.keyP s i))) R →
    Ev (fun K => customhouseref03_Made.l0 K s (h : Int) (n : Int) out ((List.range i).map fun i => Pl.leafP (Pl.keyP s i)) (i : Int)) R := by
 intro d
 have hb := Pl.pow8 hh
 induction d with
 | zero =>
  intro i out hi ho H
  obtain rfl : i = 2 ^ h := by omega
  refine evS ?_
  simp only [customhouseref03_Made.l0]
  refine Ev.bind (powerE h (by omega)) ?_
  simp only [if_neg (show ¬ ((2 ^ h : Nat) : Int) < ((2 ^ h : Nat) : Int) by omega)]
  have hz : (List.range (2 ^ h)).drop (2 ^ h) = [] := List.drop_of_length_le (by rw [List.length_range]; exact Nat.le_refl _)
  rw [hz, List.map_nil, List.flatten_nil, List.append_nil] at H
  exact H
 | succ d ih =>
  intro i out hi ho H
  refine evS ?_
  simp only [customhouseref03_Made.l0]
  refine Ev.bind (powerE h (by omega)) ?_
  simp only [if_pos (show (i : Int) < ((2 ^ h : Nat) : Int) by omega)]
  have ho' : out.length + 700 * d + 700 ≤ 500000 := by rw [Nat.add_assoc, ← Nat.mul_succ]; exact ho
  clear ho
  have q1 : out.length + 730 ≤ 1000000 := by omega
  have q2 : i ≤ 1000 := by omega
  have q3 : ((List.range i).map fun i => Pl.leafP (Pl.keyP s i)).length ≤ 1000 := by rw [List.length_map, List.length_range]; exact q2
  have q4 := made_l1 s hs h n i hn hn2 q2 _ q3 R 18 0 out rfl q1
  rw [List.take_zero] at q4
  refine q4 ?_
  have hl := keyTexts_len s n i hn2
  have := ih (i + 1) (out ++ Pl.keyTexts s n i) (by omega) (by rw [List.length_append]; omega) (by
   have hd : (List.range (2 ^ h)).drop i = i :: (List.range (2 ^ h)).drop (i + 1) := by
    rw [List.drop_eq_getElem_cons (by rw [List.length_range]; omega), List.getElem_range]
   rw [hd, List.map_cons, List.flatten_cons, ← List.append_assoc] at H
   exact H)
  rw [List.range_succ, List.map_append, List.map_singleton] at this
  rw [List.drop_zero, List.append_assoc]
  exact this
theorem madeE (s : ByteArray) (hs : s.size ≤ 1000) (h n : Nat) (hh : h ≤ 8) (hn : 15 ≤ n) (hn2 : n ≤ 30) : Ev (fun K => customhouseref03_Made.f K s (h : Int) (n : Int)) (Pl.madeP s h n) := by
 have hb := Pl.pow8 hh
 unfold customhouseref03_Made.f
 refine made_l0 s hs h n hh hn hn2 _ (2 ^ h) 0 [] (by omega) (by show 0 + 700 * 2 ^ h ≤ 500000; generalize 2 ^ h = N at hb ⊢; omega) ?_
 rw [List.drop_zero, List.nil_append]
 have hl : ((List.range (2 ^ h)).map (Pl.keyTexts s n)).flatten.length ≤ 2 ^ h * 600 := by
  have : ∀ l : List Nat, ((l.map (Pl.keyTexts s n)).flatten).length ≤ l.length * 600 := by
   intro l
   induction l with
   | nil => simp
   | cons a l ih => have := keyTexts_len s n a hn2; simp only [List.map_cons, List.flatten_cons, List.length_append, List.length_cons]; omega
  have := this (List.range (2 ^ h))
  rwa [List.length_range] at this
 refine made_l2 h _ _ hh (by rw [List.length_map, List.length_range]) (by
  intro x hx
  simp only [List.mem_map] at hx
  obtain ⟨i, _, rfl⟩ := hx
  show (Pl.sum _).size ≤ 16
  rw [Pl.sum_size]; omega) (by omega)
end Go.Proofs.YtdlipbfcadmhjaaGreatDoor
