/- Texts of this claim, in one file. -/
import Derived.Test.YtdlipbfcadmhjaaGreatDoorY12
import Derived.Test.YtdlipbfcadmhjaaGreatDoorY8
import Derived.Test.YtdlipbfcadmhjaaGreatDoorPG3x34
set_option linter.unusedSimpArgs false
set_option linter.unusedVariables false
namespace Go.Proofs.YtdlipbfcadmhjaaGreatDoor
open Go.RowKit Go.Proofs.YtdlipbfcadmhjaaGreatDoorW.PrintWords Go.Proofs.YtdlipbfcadmhjaaGreatDoorW.PrintMore PG3
namespace Pl
def startL (s : ByteArray) (i k : Nat) : ByteArray := joined [s, itB i, itB k]
def chainedP (t : ByteArray) (n : Nat) : List ByteArray := (List.range (n + 1)).map fun j => chn j t
def chainT (s : ByteArray) (n i k : Nat) : List ByteArray := startL s i k :: chainedP (startP s i k) n
def keyTexts (s : ByteArray) (n i : Nat) : List ByteArray := ((List.range 18).map (chainT s n i)).flatten ++ [joined (keyEnds s i), joined (leafL (keyP s i))]
def texts2 : List ByteArray → List ByteArray
  | a :: b :: r => joined (nodeL a b) :: texts2 r
  | _ => []
def up2 : List ByteArray → List ByteArray
  | a :: b :: r => nodeP a b :: up2 r
  | _ => []
def upT : Nat → List ByteArray → List ByteArray
  | 0, _ => []
  | c + 1, l => texts2 l ++ upT c (up2 l)
def madeP (s : ByteArray) (h n : Nat) : List ByteArray := ((List.range (2 ^ h)).map (keyTexts s n)).flatten ++ upT h ((List.range (2 ^ h)).map fun i => leafP (keyP s i))
theorem chained_len (t : ByteArray) (n : Nat) : (chainedP t n).length = n + 1 := by simp [chainedP]
theorem chained_get (t : ByteArray) (n : Nat) {j : Nat} (h : j ≤ n) : (chainedP t n).getD j ByteArray.empty = chn j t := by
 unfold chainedP
 rw [List.getD_eq_getElem?_getD, List.getElem?_map, List.getElem?_range (by omega)]
 rfl
theorem chn_succ (n : Nat) (a : ByteArray) : chn (n + 1) a = sum (chn n a) := by
 rw [← chn_add n 1]; rfl
theorem up2_len : ∀ (c : Nat) (l : List ByteArray), l.length = 2 ^ (c + 1) → (up2 l).length = 2 ^ c := by
 have : ∀ (n : Nat) (l : List ByteArray), l.length = 2 * n → (up2 l).length = n := by
  intro n
  induction n with
  | zero => intro l hl; obtain rfl := List.length_eq_zero_iff.1 hl; rfl
  | succ n ih =>
   intro l hl
   match l, hl with
   | a :: b :: r, hl =>
    have := ih r (by simp at hl; omega)
    simp [up2, this]
   | [x], hl => simp at hl; omega
   | [], hl => simp at hl
 intro c l hl
 exact this _ l (by rw [hl, Nat.pow_succ]; omega)
theorem up2_small : ∀ (n : Nat) (l : List ByteArray), l.length ≤ n → ∀ x ∈ up2 l, x.size ≤ 16 := by
 intro n
 induction n with
 | zero => intro l hl x hx; obtain rfl := List.length_eq_zero_iff.1 (Nat.le_zero.1 hl); simp [up2] at hx
 | succ n ih =>
  intro l hl x hx
  match l, hl, hx with
  | a :: b :: r, hl, hx =>
   simp only [up2, List.mem_cons] at hx
   rcases hx with rfl | hx
   ·rw [nodeP_size]; omega
   ·exact ih r (by simp at hl; omega) x hx
  | [y], hl, hx => simp [up2] at hx
  | [], hl, hx => simp [up2] at hx
end Pl
theorem powerE (h : Nat) (hh : h ≤ 30) : Ev (fun k => customhouseref03_Power.f k (h : Int)) ((2 ^ h : Nat) : Int) := by
 unfold customhouseref03_Power.f
 have go : ∀ (m i : Nat), i + m = h → Ev (fun k => customhouseref03_Power.l0 k (h : Int) ((2 ^ i : Nat) : Int) (i : Int)) ((2 ^ h : Nat) : Int) := by
  intro m
  induction m with
  | zero =>
   intro i hi
   obtain rfl : i = h := by omega
   refine evS ?_
   simp only [customhouseref03_Power.l0, if_neg (show ¬ (i : Int) < (i : Int) by omega)]
   exact Ev.now _
  | succ m ih =>
   intro i hi
   have hb : 2 ^ i ≤ 2 ^ 30 := Nat.pow_le_pow_right (by omega) (by omega)
   have e1 : wrap64 ((i : Int) + 1) = ((i + 1 : Nat) : Int) := by rw [w64_id] <;> omega
   have e2 : wrap64 (2 * ((2 ^ i : Nat) : Int)) = ((2 ^ (i + 1) : Nat) : Int) := by
    rw [Nat.pow_succ]
    generalize 2 ^ i = X at hb ⊢
    rw [w64_id] <;> omega
   refine evS ?_
   simp only [customhouseref03_Power.l0, if_pos (show (i : Int) < (h : Int) by omega), e1, e2]
   exact ih (i + 1) (by omega)
 exact go h 0 (by omega)
theorem chainedE (t : ByteArray) (n : Nat) (ht : t.size ≤ 1000000) (hn : n ≤ 1000) : Ev (fun k => customhouseref03_chained.f k t (n : Int)) (Pl.chainedP t n) := by
 unfold customhouseref03_chained.f
 have hsz : ∀ j, (Pl.chn j t).size ≤ 1000000 := by
  intro j
  cases j with
  | zero => exact ht
  | succ j => rw [Pl.chn_size]; omega
 have go : ∀ (m i : Nat), i + m = n → Ev (fun k => customhouseref03_chained.l0 k (Pl.chn i t) (n : Int) (Pl.chainedP t i) (i : Int)) (Pl.chainedP t n) := by
  intro m
  induction m with
  | zero =>
   intro i hi
   obtain rfl : i = n := by omega
   refine evS ?_
   simp only [customhouseref03_chained.l0, if_neg (show ¬ (i : Int) < (i : Int) by omega)]
   exact Ev.now _
  | succ m ih =>
   intro i hi
   have e1 : wrap64 ((i : Int) + 1) = ((i + 1 : Nat) : Int) := by rw [w64_id] <;> omega
   refine evS ?_
   simp only [customhouseref03_chained.l0, if_pos (show (i : Int) < (n : Int) by omega), e1]
   refine Ev.bind (Q4.refSumE (Pl.chn i t) (by have := hsz i; omega)) ?_
   simp only [if_pos (show (Pl.chainedP t i).length < 8796093022208 by rw [Pl.chained_len]; omega)]
   have := ih (i + 1) (by omega)
   rw [Pl.chn_succ] at this
   rw [show Pl.chainedP t i ++ [Pl.sum (Pl.chn i t)] = Pl.chainedP t (i + 1) by
    unfold Pl.chainedP
    rw [List.range_succ (n := i + 1), List.map_append, List.map_singleton, Pl.chn_succ]]
   exact this
 exact go n 0 (by omega)
theorem decE (a : Nat) (h : a ≤ 1000000) : customhouseref01_Decimal.f (a : Int) = some (Pl.itB a) := by
 unfold customhouseref01_Decimal.f
 rw [if_pos (by omega), if_pos (by omega)]; rfl
theorem startLE (s : ByteArray) (i k : Nat) (hs : s.size ≤ 1000) (hi : i ≤ 1000000) (hk : k ≤ 1000000) : customhouseref01_Joined.f [s, Pl.itB i, Pl.itB k] = some (Pl.startL s i k) := jE _ (few_start s i k hs hi hk)
theorem key_small (s : ByteArray) (i : Nat) : ∀ x ∈ Pl.keyEnds s i, x.size ≤ 1000 := by
 intro x hx
 simp only [Pl.keyEnds, List.mem_map] at hx
 obtain ⟨k, _, rfl⟩ := hx
 have := Pl.chn_size_le 15 (Pl.startP s i k) (by rw [Pl.startP_size]; omega)
 omega
theorem keyEnds_len (s : ByteArray) (i : Nat) : (Pl.keyEnds s i).length = 18 := by simp [Pl.keyEnds]
theorem few_key (s : ByteArray) (i : Nat) : Pl.few (Pl.keyEnds s i) 1000 = true := few_ends _ (by rw [keyEnds_len]; omega) (key_small s i)
theorem made_l3 : ∀ (d : Nat) (lv : List ByteArray) (j : Nat) (out next : List ByteArray) (R : List ByteArray), lv.length ≤ 1000 → (∀ x ∈ lv, x.size ≤ 16) → j ≤ lv.length → lv.length - j ≤ d → out.length + d ≤ 1000000 → next.length + d ≤ 1000000 →
    Ev (fun k => customhouseref03_Made.l2 k (out ++ Pl.texts2 (lv.drop j)) (next ++ Pl.up2 (lv.drop j))) R → Ev (fun k => customhouseref03_Made.l3 k out lv next (j : Int)) R := by
 intro d
 induction d using Nat.strongRecOn with
 | ind d ih =>
  intro lv j out next R hl hs hj hd ho hn H
  have e1 : wrap64 ((j : Int) + 1) = ((j + 1 : Nat) : Int) := by rw [w64_id] <;> omega
  have e2 : wrap64 ((j : Int) + 2) = ((j + 2 : Nat) : Int) := by rw [w64_id] <;> omega
  by_cases h2 : j + 1 < lv.length
  ·have ha : rdOf ByteArray.empty lv (j : Int) = lv[j] := by
    show lv.getD j _ = _
    rw [List.getD_eq_getElem?_getD, List.getElem?_eq_getElem (by omega)]; rfl
   have hb : rdOf ByteArray.empty lv ((j + 1 : Nat) : Int) = lv[j + 1] := by
    show lv.getD (j + 1) _ = _
    rw [List.getD_eq_getElem?_getD, List.getElem?_eq_getElem (by omega)]; rfl
   have hsa : lv[j].size ≤ 16 := hs _ (List.getElem_mem _)
   have hsb : lv[j + 1].size ≤ 16 := hs _ (List.getElem_mem _)
   have hn1 : customhouseref03_node.f lv[j] lv[j + 1] = some (Pl.joined (Pl.nodeL lv[j] lv[j + 1])) := by
    unfold customhouseref03_node.f
    have hj : customhouseref01_Joined.f [(⟨#[110, 111, 100, 101]⟩ : ByteArray), lv[j], lv[j + 1]] = some (Pl.joined (Pl.nodeL lv[j] lv[j + 1])) := jE (Pl.nodeL lv[j] lv[j + 1]) (few_node _ _ (by omega) (by omega))
    rw [hj]; rfl
   have hd2 : lv.drop j = lv[j] :: lv[j + 1] :: lv.drop (j + 2) := by
    rw [List.drop_eq_getElem_cons (by omega), List.drop_eq_getElem_cons (by omega)]
   have hsm : (Pl.joined (Pl.nodeL lv[j] lv[j + 1])).size ≤ 140737488355328 := (Pl.few_caps (few_node _ _ (by omega : lv[j].size ≤ 1000) (by omega : lv[j + 1].size ≤ 1000)) (by omega)).2.2
   refine evS ?_
   simp only [customhouseref03_Made.l3, e1, e2, if_pos (show ((j + 1 : Nat) : Int) < (lv.length : Int) by omega), if_pos (show (0 : Int) ≤ (j : Int) by omega), if_pos (show (j : Int) < (lv.length : Int) by omega), if_pos (show (0 : Int) ≤ ((j + 1 : Nat) : Int) by omega), ha, hb, hn1, Option.bind_some, if_pos (show out.length < 8796093022208 by omega)]
   refine Ev.bind (Q4.refSumE _ (by omega)) ?_
   simp only [if_pos (show next.length < 8796093022208 by omega)]
   refine ih (d - 2) (by omega) lv (j + 2) _ _ R hl hs (by omega) (by omega) (by simp; omega) (by simp; omega) ?_
   rw [hd2] at H
   simp only [Pl.texts2, Pl.up2] at H
   rw [List.append_assoc, List.append_assoc]
   exact H
  ·refine evS ?_
   simp only [customhouseref03_Made.l3, e1, if_neg (show ¬ ((j + 1 : Nat) : Int) < (lv.length : Int) by omega)]
   have : (lv.drop j).length ≤ 1 := by rw [List.length_drop]; omega
   match hq : lv.drop j, this with
   | [], _ => rw [hq] at H; simpa [Pl.texts2, Pl.up2] using H
   | [x], _ => rw [hq] at H; simpa [Pl.texts2, Pl.up2] using H
   | _ :: _ :: _, h => simp at h
theorem made_l2 : ∀ (c : Nat) (lv out : List ByteArray), c ≤ 8 → lv.length = 2 ^ c → (∀ x ∈ lv, x.size ≤ 16) → out.length + 1000 * c ≤ 900000 → Ev (fun k => customhouseref03_Made.l2 k out lv) (out ++ Pl.upT c lv) := by
 intro c
 induction c with
 | zero =>
  intro lv out hc hl hs ho
  refine evS ?_
  simp only [customhouseref03_Made.l2, if_neg (show ¬ (lv.length : Int) > 1 by rw [hl]; simp)]
  exact evE (Ev.now _) (by simp [Pl.upT])
 | succ c ih =>
  intro lv out hc hl hs ho
  have hb := Pl.pow8 hc
  have h2 : 1 ≤ 2 ^ c := Nat.one_le_two_pow
  refine evS ?_
  simp only [customhouseref03_Made.l2, if_pos (show (lv.length : Int) > 1 by rw [hl, Nat.pow_succ]; omega)]
  have ht : (Pl.texts2 lv).length ≤ lv.length := by
   have : ∀ (n : Nat) (l : List ByteArray), l.length ≤ n → (Pl.texts2 l).length ≤ l.length := by
    intro n
    induction n with
    | zero => intro l hl; obtain rfl := List.length_eq_zero_iff.1 (Nat.le_zero.1 hl); simp [Pl.texts2]
    | succ n ih =>
     intro l hl
     match l, hl with
     | a :: b :: r, hl => have := ih r (by simp at hl; omega); simp [Pl.texts2]; omega
     | [x], _ => simp [Pl.texts2]
     | [], _ => simp [Pl.texts2]
   exact this _ lv (Nat.le_refl _)
  refine made_l3 lv.length lv 0 out [] _ (by omega) hs (by omega) (by omega) (by omega) (by simp; omega) ?_
  rw [List.drop_zero, List.nil_append]
  have := ih (Pl.up2 lv) (out ++ Pl.texts2 lv) (by omega) (Pl.up2_len c lv hl) (Pl.up2_small _ lv (Nat.le_refl _)) (by rw [List.length_append]; omega)
  rw [List.append_assoc] at this
  exact this
theorem made_l1 (s : ByteArray) (hs : s.size ≤ 1000) (h n i : Nat) (hn : 15 ≤ n) (hn2 : n ≤ 30) (hi : i ≤ 1000) (lv : List ByteArray) (hlv : lv.length ≤ 1000) (R : List ByteArray) :
    ∀ (d k : Nat) (out : List ByteArray), k + d = 18 → out.length + 40 * d + 10 ≤ 1000000 →
    Ev (fun K => customhouseref03_Made.l0 K s (h : Int) (n : Int) (out ++ (((List.range 18).drop k).map (Pl.chainT s n i)).flatten ++ [Pl.joined (Pl.keyEnds s i), Pl.joined (Pl.leafL (Pl.keyP s i))]) (lv ++ [Pl.leafP (Pl.keyP s i)]) ((i + 1 : Nat) : Int)) R →
    Ev (fun K => customhouseref03_Made.l1 K s (h : Int) (n : Int) out lv (i : Int) ((Pl.keyEnds s i).take k) (k : Int)) R := by
 intro d
 induction d with
 | zero =>
  intro k out hk ho H
  obtain rfl : k = 18 := by omega
  have e1 : wrap64 ((i : Int) + 1) = ((i + 1 : Nat) : Int) := by rw [w64_id] <;> omega
  refine evS ?_
  have hsm : (Pl.joined (Pl.keyEnds s i)).size ≤ 140737488355328 := (Pl.few_caps (few_key s i) (by omega)).2.2
  have hsl : (Pl.joined (Pl.leafL (Pl.keyP s i))).size ≤ 140737488355328 := (Pl.few_caps (few_leaf (Pl.keyP s i) (by rw [Pl.keyP_size]; omega)) (by omega)).2.2
  simp only [customhouseref03_Made.l1, if_neg (show ¬ ((18 : Nat) : Int) < 18 by omega)]
  rw [List.take_of_length_le (by rw [keyEnds_len]; omega), jE _ (few_key s i)]
  simp only [Option.bind_some]
  refine Ev.bind (Q4.refSumE _ (by omega)) ?_
  have hj : customhouseref01_Joined.f [(⟨#[108, 101, 97, 102]⟩ : ByteArray), Pl.sum (Pl.joined (Pl.keyEnds s i))] = some (Pl.joined (Pl.leafL (Pl.keyP s i))) := jE _ (few_leaf (Pl.keyP s i) (by rw [Pl.keyP_size]; omega))
  simp only [hj, Option.bind_some, if_pos (show out.length + [Pl.joined (Pl.keyEnds s i), Pl.joined (Pl.leafL (Pl.keyP s i))].length < 8796093022208 by simp; omega)]
  refine Ev.bind (Q4.refSumE _ (by omega)) ?_
  simp only [if_pos (show lv.length < 8796093022208 by omega), e1]
  have hz : (List.range 18).drop 18 = [] := by simp
  rw [hz, List.map_nil, List.flatten_nil, List.append_nil] at H
  exact H
 | succ d ih =>
  intro k out hk ho H
  have e1 : wrap64 ((k : Int) + 1) = ((k + 1 : Nat) : Int) := by rw [w64_id] <;> omega
  have hsm : (Pl.startL s i k).size ≤ 140737488355328 := (Pl.few_caps (few_start s i k hs (by omega) (by omega)) (by omega)).2.2
  refine evS ?_
  simp only [customhouseref03_Made.l1, if_pos (show (k : Int) < 18 by omega), decE i (by omega), decE k (by omega), Option.bind_some, startLE s i k hs (by omega) (by omega), if_pos (show out.length < 8796093022208 by omega), e1]
  refine Ev.bind (Q4.refSumE _ (by omega)) ?_
  refine Ev.bind (chainedE (Pl.sum (Pl.startL s i k)) n (by rw [Pl.sum_size]; omega) (by omega)) ?_
  have hg : rdOf ByteArray.empty (Pl.chainedP (Pl.sum (Pl.startL s i k)) n) 15 = Pl.chn 15 (Pl.startP s i k) := Pl.chained_get (Pl.startP s i k) n hn
  simp only [if_pos (show (out ++ [Pl.startL s i k]).length + (Pl.chainedP (Pl.sum (Pl.startL s i k)) n).length < 8796093022208 by rw [Pl.chained_len]; simp; omega), if_pos (show (15 : Int) < ((Pl.chainedP (Pl.sum (Pl.startL s i k)) n).length : Int) by rw [Pl.chained_len]; omega), if_pos (show ((Pl.keyEnds s i).take k).length < 8796093022208 by rw [List.length_take, keyEnds_len]; omega), hg]
  have ht : (Pl.keyEnds s i).take k ++ [Pl.chn 15 (Pl.startP s i k)] = (Pl.keyEnds s i).take (k + 1) := by
   rw [List.take_succ_eq_append_getElem (by rw [keyEnds_len]; omega)]
   simp [Pl.keyEnds]
  rw [ht]
  refine ih (k + 1) _ (by omega) (by simp only [List.length_append, List.length_singleton, Pl.chained_len]; omega) ?_
  have hd : (List.range 18).drop k = k :: (List.range 18).drop (k + 1) := by
   rw [List.drop_eq_getElem_cons (by simp; omega)]
   simp
  rw [hd, List.map_cons, List.flatten_cons] at H
  have hc : Pl.chainT s n i k = [Pl.startL s i k] ++ Pl.chainedP (Pl.sum (Pl.startL s i k)) n := rfl
  rw [hc] at H
  simpa only [List.append_assoc] using H
theorem chainT_len (s : ByteArray) (n i k : Nat) : (Pl.chainT s n i k).length = n + 2 := by simp [Pl.chainT, Pl.chained_len]
theorem keyTexts_len (s : ByteArray) (n i : Nat) (hn : n ≤ 30) : (Pl.keyTexts s n i).length ≤ 600 := by
 have : ∀ l : List Nat, ((l.map (Pl.chainT s n i)).flatten).length = l.length * (n + 2) := by
  intro l
  induction l with
  | nil => simp
  | cons a l ih => simp only [List.map_cons, List.flatten_cons, List.length_append, ih, chainT_len, List.length_cons]; rw [Nat.succ_mul]; omega
 unfold Pl.keyTexts
 rw [List.length_append, this, List.length_range]
 simp
 omega
theorem made_l0 (s : ByteArray) (hs : s.size ≤ 1000) (h n : Nat) (hh : h ≤ 8) (hn : 15 ≤ n) (hn2 : n ≤ 30) (R : List ByteArray) :
    ∀ (d i : Nat) (out : List ByteArray), i + d = 2 ^ h → out.length + 700 * d ≤ 500000 →
    Ev (fun K => customhouseref03_Made.l2 K (out ++ (((List.range (2 ^ h)).drop i).map (Pl.keyTexts s n)).flatten) ((List.range (2 ^ h)).map fun i => Pl.leafP (Pl.keyP s i))) R →
    Ev (fun K => customhouseref03_Made.l0 K s (h : Int) (n : Int) out ((List.range i).map fun i => Pl.leafP (Pl.keyP s i)) (i : Int)) R := by
 intro d
 have hb := Pl.pow8 hh
 induction d with
 | zero =>
  intro i out hi ho H
  obtain rfl : i = 2 ^ h := by omega
  refine evS ?_
  simp only [customhouseref03_Made.l0]
  refine Ev.bind (powerE h (by omega)) ?_
  simp only [if_neg (show ¬ ((2 ^ h : Nat) : Int) < ((2 ^ h : Nat) : Int) by omega)]
  have hz : (List.range (2 ^ h)).drop (2 ^ h) = [] := List.drop_of_length_le (by rw [List.length_range]; exact Nat.le_refl _)
  rw [hz, List.map_nil, List.flatten_nil, List.append_nil] at H
  exact H
 | succ d ih =>
  intro i out hi ho H
  refine evS ?_
  simp only [customhouseref03_Made.l0]
  refine Ev.bind (powerE h (by omega)) ?_
  simp only [if_pos (show (i : Int) < ((2 ^ h : Nat) : Int) by omega)]
  have ho' : out.length + 700 * d + 700 ≤ 500000 := by rw [Nat.add_assoc, ← Nat.mul_succ]; exact ho
  clear ho
  have q1 : out.length + 730 ≤ 1000000 := by omega
  have q2 : i ≤ 1000 := by omega
  have q3 : ((List.range i).map fun i => Pl.leafP (Pl.keyP s i)).length ≤ 1000 := by rw [List.length_map, List.length_range]; exact q2
  have q4 := made_l1 s hs h n i hn hn2 q2 _ q3 R 18 0 out rfl q1
  rw [List.take_zero] at q4
  refine q4 ?_
  have hl := keyTexts_len s n i hn2
  have := ih (i + 1) (out ++ Pl.keyTexts s n i) (by omega) (by rw [List.length_append]; omega) (by
   have hd : (List.range (2 ^ h)).drop i = i :: (List.range (2 ^ h)).drop (i + 1) := by
    rw [List.drop_eq_getElem_cons (by rw [List.length_range]; omega), List.getElem_range]
   rw [hd, List.map_cons, List.flatten_cons, ← List.append_assoc] at H
   exact H)
  rw [List.range_succ, List.map_append, List.map_singleton] at this
  rw [List.drop_zero, List.append_assoc]
  exact this
theorem madeE (s : ByteArray) (hs : s.size ≤ 1000) (h n : Nat) (hh : h ≤ 8) (hn : 15 ≤ n) (hn2 : n ≤ 30) : Ev (fun K => customhouseref03_Made.f K s (h : Int) (n : Int)) (Pl.madeP s h n) := by
 have hb := Pl.pow8 hh
 unfold customhouseref03_Made.f
 refine made_l0 s hs h n hh hn hn2 _ (2 ^ h) 0 [] (by omega) (by show 0 + 700 * 2 ^ h ≤ 500000; generalize 2 ^ h = N at hb ⊢; omega) ?_
 rw [List.drop_zero, List.nil_append]
 have hl : ((List.range (2 ^ h)).map (Pl.keyTexts s n)).flatten.length ≤ 2 ^ h * 600 := by
  have : ∀ l : List Nat, ((l.map (Pl.keyTexts s n)).flatten).length ≤ l.length * 600 := by
   intro l
   induction l with
   | nil => simp
   | cons a l ih => have := keyTexts_len s n a hn2; simp only [List.map_cons, List.flatten_cons, List.length_append, List.length_cons]; omega
  have := this (List.range (2 ^ h))
  rwa [List.length_range] at this
 refine made_l2 h _ _ hh (by rw [List.length_map, List.length_range]) (by
  intro x hx
  simp only [List.mem_map] at hx
  obtain ⟨i, _, rfl⟩ := hx
  show (Pl.sum _).size ≤ 16
  rw [Pl.sum_size]; omega) (by omega)
end Go.Proofs.YtdlipbfcadmhjaaGreatDoor

namespace Go.Proofs.YtdlipbfcadmhjaaGreatDoor.Pl
theorem mem_chained (t : ByteArray) {j n : Nat} (h : j ≤ n) : chn j t ∈ chainedP t n := by
 unfold chainedP
 exact List.mem_map.2 ⟨j, List.mem_range.2 (by omega), rfl⟩
theorem chain_bind : ∀ (n : Nat) (a b : ByteArray), chn n a = chn n b → a = b ∨ Coll (chainedP a n ++ chainedP b n) := by
 intro n
 induction n with
 | zero => intro a b h; exact .inl h
 | succ n ih =>
  intro a b h
  rw [chn_succ, chn_succ] at h
  rcases Coll.of (L := chainedP a (n + 1) ++ chainedP b (n + 1)) (List.mem_append_left _ (mem_chained a (by omega))) (List.mem_append_right _ (mem_chained b (by omega))) h with e | e
  ·rcases ih a b e with e | e
   ·exact .inl e
   ·refine .inr (e.mono fun x hx => ?_)
    simp only [chainedP, List.mem_append, List.mem_map, List.mem_range] at hx ⊢
    rcases hx with ⟨j, hj, rfl⟩ | ⟨j, hj, rfl⟩
    ·exact .inl ⟨j, by omega, rfl⟩
    ·exact .inr ⟨j, by omega, rfl⟩
  ·exact .inr e
theorem made_key (s : ByteArray) {h n i : Nat} (hi : i < 2 ^ h) {x : ByteArray} (hx : x ∈ keyTexts s n i) : x ∈ madeP s h n := by
 unfold madeP
 exact List.mem_append_left _ (List.mem_flatten.2 ⟨_, List.mem_map.2 ⟨i, List.mem_range.2 hi, rfl⟩, hx⟩)
theorem made_chain (s : ByteArray) {h n i k : Nat} (hi : i < 2 ^ h) (hk : k < 18) {x : ByteArray} (hx : x ∈ chainT s n i k) : x ∈ madeP s h n := by
 refine made_key s hi ?_
 unfold keyTexts
 exact List.mem_append_left _ (List.mem_flatten.2 ⟨_, List.mem_map.2 ⟨k, List.mem_range.2 hk, rfl⟩, hx⟩)
theorem made_start (s : ByteArray) {h n i k : Nat} (hi : i < 2 ^ h) (hk : k < 18) : startL s i k ∈ madeP s h n := made_chain s hi hk (by unfold chainT; exact List.mem_cons_self)
theorem made_link (s : ByteArray) {h n i k : Nat} (hi : i < 2 ^ h) (hk : k < 18) {x : ByteArray} (hx : x ∈ chainedP (startP s i k) n) : x ∈ madeP s h n := made_chain s hi hk (by unfold chainT; exact List.mem_cons_of_mem _ hx)
theorem made_ends (s : ByteArray) {h n i : Nat} (hi : i < 2 ^ h) : joined (keyEnds s i) ∈ madeP s h n := made_key s hi (by unfold keyTexts; exact List.mem_append_right _ (by simp))
theorem made_leaf (s : ByteArray) {h n i : Nat} (hi : i < 2 ^ h) : joined (leafL (keyP s i)) ∈ madeP s h n := made_key s hi (by unfold keyTexts; exact List.mem_append_right _ (by simp))
theorem made_up (s : ByteArray) {h n : Nat} {x : ByteArray} (hx : x ∈ upT h ((List.range (2 ^ h)).map fun i => leafP (keyP s i))) : x ∈ madeP s h n := by
 unfold madeP
 exact List.mem_append_right _ hx
theorem roots_pair (a b : ByteArray) : rootP [a, b] = nodeP (leafP a) (leafP b) := by
 rw [root_two (l := [a, b]) (by simp), show half ([a, b] : List ByteArray).length = 1 from rfl]
 show nodeP (rootP [a]) (rootP [b]) = _
 rw [root_one, root_one]
theorem texts_pair (a b : ByteArray) : textsP [a, b] = [joined (leafL a), joined (leafL b), joined (nodeL (leafP a) (leafP b))] := by
 rw [texts_two (l := [a, b]) (by simp), show half ([a, b] : List ByteArray).length = 1 from rfl]
 show textsP [a] ++ textsP [b] ++ [joined (nodeL (rootP [a]) (rootP [b]))] = _
 rw [texts_one, texts_one, root_one, root_one]
 rfl
theorem texts_four (a b c d : ByteArray) : textsP [a, b, c, d] = textsP [a, b] ++ textsP [c, d] ++ [joined (nodeL (rootP [a, b]) (rootP [c, d]))] := by
 rw [texts_two (l := [a, b, c, d]) (by simp), show half ([a, b, c, d] : List ByteArray).length = 2 from rfl]
 rfl
theorem made_texts (s : ByteArray) {h n : Nat} (hh : h ≤ 2) {x : ByteArray} (hx : x ∈ textsP (keysP s h)) : x ∈ madeP s h n := by
 match h, hh, hx with
 | 0, _, hx =>
  rw [show keysP s 0 = [keyP s 0] from rfl, texts_one, List.mem_singleton] at hx
  rw [hx]
  exact made_leaf s (by omega)
 | 1, _, hx =>
  rw [show keysP s 1 = [keyP s 0, keyP s 1] from rfl, texts_pair] at hx
  simp only [List.mem_cons, List.not_mem_nil, or_false] at hx
  rcases hx with rfl | rfl | rfl
  ·exact made_leaf s (by omega)
  ·exact made_leaf s (by omega)
  ·refine made_up s ?_
   rw [show ((List.range (2 ^ 1)).map fun i => leafP (keyP s i)) = [leafP (keyP s 0), leafP (keyP s 1)] from rfl]
   simp [upT, texts2]
 | 2, _, hx =>
  rw [show keysP s 2 = [keyP s 0, keyP s 1, keyP s 2, keyP s 3] from rfl, texts_four, texts_pair, texts_pair, roots_pair, roots_pair] at hx
  simp only [List.mem_append, List.mem_cons, List.not_mem_nil, or_false] at hx
  have hu : ∀ {x : ByteArray}, x ∈ upT 2 [leafP (keyP s 0), leafP (keyP s 1), leafP (keyP s 2), leafP (keyP s 3)] → x ∈ madeP s 2 n := fun hx => made_up s (by rw [show ((List.range (2 ^ 2)).map fun i => leafP (keyP s i)) = [leafP (keyP s 0), leafP (keyP s 1), leafP (keyP s 2), leafP (keyP s 3)] from rfl]; exact hx)
  rcases hx with ((rfl | rfl | rfl) | (rfl | rfl | rfl)) | rfl
  ·exact made_leaf s (by omega)
  ·exact made_leaf s (by omega)
  ·exact hu (by simp [upT, texts2, up2])
  ·exact made_leaf s (by omega)
  ·exact made_leaf s (by omega)
  ·exact hu (by simp [upT, texts2, up2])
  ·exact hu (by simp [upT, texts2, up2])
theorem texts2_size : ∀ (n : Nat) (l : List ByteArray), l.length ≤ n → (∀ y ∈ l, y.size ≤ 16) → (texts2 l).length ≤ l.length ∧ ∀ x ∈ texts2 l, x.size ≤ 140737488355328 := by
 intro n
 induction n with
 | zero => intro l hl _; obtain rfl := List.length_eq_zero_iff.1 (Nat.le_zero.1 hl); simp [texts2]
 | succ n ih =>
  intro l hl hs
  match l, hl, hs with
  | a :: b :: r, hl, hs =>
   obtain ⟨h1, h2⟩ := ih r (by simp at hl; omega) (fun y hy => hs y (by simp [hy]))
   refine ⟨by simp [texts2]; omega, fun x hx => ?_⟩
   simp only [texts2, List.mem_cons] at hx
   rcases hx with rfl | hx
   ·exact nodeL_cap a b (hs a (by simp)) (hs b (by simp))
   ·exact h2 x hx
  | [y], _, _ => simp [texts2]
  | [], _, _ => simp [texts2]
theorem up2_le : ∀ (n : Nat) (l : List ByteArray), l.length ≤ n → (up2 l).length ≤ l.length := by
 intro n
 induction n with
 | zero => intro l hl; obtain rfl := List.length_eq_zero_iff.1 (Nat.le_zero.1 hl); simp [up2]
 | succ n ih =>
  intro l hl
  match l, hl with
  | a :: b :: r, hl => have := ih r (by simp at hl; omega); simp [up2]; omega
  | [y], _ => simp [up2]
  | [], _ => simp [up2]
theorem upT_size : ∀ (c : Nat) (l : List ByteArray), (∀ y ∈ l, y.size ≤ 16) → (upT c l).length ≤ c * l.length ∧ ∀ x ∈ upT c l, x.size ≤ 140737488355328 := by
 intro c
 induction c with
 | zero => intro l _; simp [upT]
 | succ c ih =>
  intro l hs
  obtain ⟨h1, h2⟩ := texts2_size _ l (Nat.le_refl _) hs
  obtain ⟨h3, h4⟩ := ih (up2 l) (up2_small _ l (Nat.le_refl _))
  have h5 := up2_le _ l (Nat.le_refl _)
  have h6 : c * (up2 l).length ≤ c * l.length := Nat.mul_le_mul_left _ h5
  refine ⟨by rw [upT, List.length_append, Nat.succ_mul]; omega, fun x hx => ?_⟩
  rw [upT, List.mem_append] at hx
  rcases hx with hx | hx
  ·exact h2 x hx
  ·exact h4 x hx
theorem made_small (s : ByteArray) (hs : s.size ≤ 1000) {h n : Nat} (hh : h ≤ 8) (hn : n ≤ 30) : (madeP s h n).length ≤ 400000 ∧ ∀ x ∈ madeP s h n, x.size ≤ 140737488355328 := by
 have hb := pow8 hh
 have hl16 : ∀ y ∈ ((List.range (2 ^ h)).map fun i => leafP (keyP s i)), y.size ≤ 16 := by
  intro x hx
  simp only [List.mem_map] at hx
  obtain ⟨i, _, rfl⟩ := hx
  show (sum _).size ≤ 16
  rw [sum_size]; omega
 obtain ⟨h1, h2⟩ := upT_size h _ hl16
 rw [List.length_map, List.length_range] at h1
 have h3 : ((List.range (2 ^ h)).map (keyTexts s n)).flatten.length ≤ 2 ^ h * 600 := by
  have : ∀ l : List Nat, ((l.map (keyTexts s n)).flatten).length ≤ l.length * 600 := by
   intro l
   induction l with
   | nil => simp
   | cons a l ih => have := keyTexts_len s n a hn; simp only [List.map_cons, List.flatten_cons, List.length_append, List.length_cons]; omega
  have := this (List.range (2 ^ h))
  rwa [List.length_range] at this
 have h4 : h * 2 ^ h ≤ 8 * 256 := Nat.mul_le_mul hh hb
 refine ⟨by unfold madeP; rw [List.length_append]; omega, fun x hx => ?_⟩
 unfold madeP at hx
 rw [List.mem_append] at hx
 rcases hx with hx | hx
 ·obtain ⟨l, hl, hx⟩ := List.mem_flatten.1 hx
  obtain ⟨i, hi, rfl⟩ := List.mem_map.1 hl
  have hi := List.mem_range.1 hi
  unfold keyTexts at hx
  rw [List.mem_append] at hx
  rcases hx with hx | hx
  ·obtain ⟨l, hl, hx⟩ := List.mem_flatten.1 hx
   obtain ⟨k, hk, rfl⟩ := List.mem_map.1 hl
   have hk := List.mem_range.1 hk
   unfold chainT at hx
   rcases List.mem_cons.1 hx with rfl | hx
   ·exact (few_caps (few_start s i k hs (by omega) (by omega)) (by omega)).2.2
   ·unfold chainedP at hx
    obtain ⟨j, _, rfl⟩ := List.mem_map.1 hx
    have := chn_size_le j (startP s i k) (by rw [startP_size]; omega)
    omega
  ·simp only [List.mem_cons, List.not_mem_nil, or_false] at hx
   rcases hx with rfl | rfl
   ·exact (few_caps (few_key s i) (by omega)).2.2
   ·exact (few_caps (few_leaf (keyP s i) (by rw [keyP_size]; omega)) (by omega)).2.2
 ·exact h2 x hx
end Go.Proofs.YtdlipbfcadmhjaaGreatDoor.Pl

namespace Go.Proofs.YtdlipbfcadmhjaaGreatDoor.Pl
open Go.Lib
def stepText (i : Nat) (d p : ByteArray) : ByteArray := if i % 2 = 1 then joined (nodeL p d) else joined (nodeL d p)
def foldF : Nat → ByteArray → List ByteArray → ByteArray
  | _, d, [] => d
  | i, d, p :: r => foldF (i / 2) (sum (stepText i d p)) r
def foldT : Nat → ByteArray → List ByteArray → List ByteArray
  | _, _, [] => []
  | i, d, p :: r => stepText i d p :: foldT (i / 2) (sum (stepText i d p)) r
theorem foldF_snoc : ∀ (xs : List ByteArray) (i : Nat) (d p : ByteArray), foldF i d (xs ++ [p]) = sum (stepText (i / 2 ^ xs.length) (foldF i d xs) p)
  | [], i, d, p => by simp [foldF]
  | x :: xs, i, d, p => by
    rw [List.cons_append, foldF, foldF_snoc xs, foldF, List.length_cons, Nat.pow_succ, Nat.mul_comm (2 ^ _) 2, Nat.div_div_eq_div_mul]
theorem foldT_snoc : ∀ (xs : List ByteArray) (i : Nat) (d p : ByteArray), foldT i d (xs ++ [p]) = foldT i d xs ++ [stepText (i / 2 ^ xs.length) (foldF i d xs) p]
  | [], i, d, p => by simp [foldT, foldF]
  | x :: xs, i, d, p => by
    rw [List.cons_append, foldT, foldT_snoc xs, foldT, foldF, List.length_cons, Nat.pow_succ, Nat.mul_comm (2 ^ _) 2, Nat.div_div_eq_div_mul]
    rfl
theorem step_add (c i : Nat) (d p : ByteArray) : stepText (2 ^ (c + 1) + i) d p = stepText i d p := by
 unfold stepText
 rw [show (2 ^ (c + 1) + i) % 2 = i % 2 by rw [Nat.pow_succ]; omega]
theorem fold_add : ∀ (xs : List ByteArray) (c i : Nat) (d : ByteArray), xs.length ≤ c → foldF (2 ^ c + i) d xs = foldF i d xs ∧ foldT (2 ^ c + i) d xs = foldT i d xs
  | [], _, _, _, _ => ⟨rfl, rfl⟩
  | x :: xs, 0, _, _, h => by simp at h
  | x :: xs, c + 1, i, d, h => by
    have e : (2 ^ (c + 1) + i) / 2 = 2 ^ c + i / 2 := by rw [Nat.pow_succ]; omega
    have := fold_add xs c (i / 2) (sum (stepText i d x)) (by simpa using h)
    rw [foldF, foldF, foldT, foldT, step_add, e, this.1, this.2]
    exact ⟨rfl, rfl⟩
theorem climb_fold {n i : Nat} {d r : ByteArray} {xs ts : List ByteArray} (h : Climb n i d xs r ts) : ∀ c, n = 2 ^ c → i < n → xs.length = c ∧ r = foldF i d xs ∧ ts = foldT i d xs := by
 induction h with
 | one d =>
  intro c hc _
  cases c with
  | zero => exact ⟨rfl, rfl, rfl⟩
  | succ c => have : 1 ≤ 2 ^ c := Nat.one_le_two_pow; rw [Nat.pow_succ] at hc; omega
 | @left n i _ _ xs _ p hn hi h ih =>
  intro c hc hin
  cases c with
  | zero => simp at hc; omega
  | succ c =>
   have e : half n = 2 ^ c := half_of (by rw [hc, Nat.pow_succ]; have : 1 ≤ 2 ^ c := Nat.one_le_two_pow; omega) (by rw [hc, Nat.pow_succ]; omega)
   obtain ⟨h1, h2, h3⟩ := ih c e hi
   have e0 : i / 2 ^ xs.length = 0 := by rw [h1]; exact Nat.div_eq_of_lt (by omega)
   refine ⟨by simp [h1], ?_, ?_⟩
   ·rw [foldF_snoc, e0, ← h2]; rfl
   ·rw [foldT_snoc, e0, ← h2, ← h3]; rfl
 | @right n i _ _ xs _ p hn hi h ih =>
  intro c hc hin
  cases c with
  | zero => simp at hc; omega
  | succ c =>
   have e : half n = 2 ^ c := half_of (by rw [hc, Nat.pow_succ]; have : 1 ≤ 2 ^ c := Nat.one_le_two_pow; omega) (by rw [hc, Nat.pow_succ]; omega)
   have hn2 : n = 2 ^ c + 2 ^ c := by rw [hc, Nat.pow_succ]; omega
   obtain ⟨h1, h2, h3⟩ := ih c (by omega) (by omega)
   have ei : i = 2 ^ c + (i - half n) := by omega
   have e1 : i / 2 ^ xs.length = 1 := by
    rw [h1]
    have hp : 0 < 2 ^ c := Nat.one_le_two_pow
    exact (Nat.div_eq_iff hp).2 (by omega)
   obtain ⟨f1, f2⟩ := fold_add xs c (i - half n) _ (by omega)
   rw [← ei] at f1 f2
   refine ⟨by simp [h1], ?_, ?_⟩
   ·rw [foldF_snoc, e1, f1, ← h2]; rfl
   ·rw [foldT_snoc, e1, f1, f2, ← h2, ← h3]; rfl
theorem leaf_node {a b c : ByteArray} (h : joined (leafL a) = joined (nodeL b c)) : False := by
 have := joined_iff.1 h
 simp [leafL, nodeL] at this
theorem path_two {l : List ByteArray} {i : Nat} (h : 2 ≤ l.length) (hi : i < half l.length) : pathP l i = pathP (l.take (half l.length)) i ++ [rootP (l.drop (half l.length))] := by
 unfold pathP
 rw [sibs_left h hi, List.reverse_cons]
theorem path_two' {l : List ByteArray} {i : Nat} (h : 2 ≤ l.length) (hi : ¬ i < half l.length) : pathP l i = pathP (l.drop (half l.length)) (i - half l.length) ++ [rootP (l.take (half l.length))] := by
 unfold pathP
 rw [sibs_right h hi, List.reverse_cons]
theorem climb_tree {n i : Nat} {d r : ByteArray} {xs ts : List ByteArray} (h : Climb n i d xs r ts) : ∀ (c t : Nat) (l : List ByteArray) (s : ByteArray), n = 2 ^ c → l.length = 2 ^ t → d = leafP s → r = rootP l →
    (c = t ∧ l[i]? = some s ∧ xs = pathP l i) ∨ Coll (textsP l ++ joined (leafL s) :: ts) := by
 induction h with
 | one d =>
  intro c t l s hc hl hd hr
  have hc0 : c = 0 := by
   cases c with
   | zero => rfl
   | succ c => have : 1 ≤ 2 ^ c := Nat.one_le_two_pow; rw [Nat.pow_succ] at hc; omega
  subst hc0
  by_cases h2 : 2 ≤ l.length
  ·rw [hd, root_two h2] at hr
   rcases Coll.of (L := textsP l ++ joined (leafL s) :: []) (a := joined (leafL s)) (b := joined (nodeL _ _)) (by simp) (List.mem_append_left _ (texts_own h2)) hr with e | e
   ·exact (leaf_node e).elim
   ·exact .inr e
  ·have h1 : l.length = 1 := by have : 1 ≤ 2 ^ t := Nat.one_le_two_pow; omega
   have ht : t = 0 := by
    cases t with
    | zero => rfl
    | succ t => have : 1 ≤ 2 ^ t := Nat.one_le_two_pow; rw [Nat.pow_succ] at hl; omega
   subst ht
   match l, h1 with
   | [x], _ =>
    rw [hd, root_one] at hr
    rcases Coll.of (L := textsP [x] ++ joined (leafL s) :: []) (a := joined (leafL s)) (b := joined (leafL x)) (by simp) (by rw [texts_one]; simp) hr with e | e
    ·refine .inl ⟨rfl, ?_, ?_⟩
     ·rw [leaf_inj e]; rfl
     ·unfold pathP; rw [sibs_end (by simp)]; rfl
    ·exact .inr e
 | @left n i d r xs ts p hn hi h ih =>
  intro c t l s hc hl hd hr
  by_cases h2 : 2 ≤ l.length
  ·have hs := half_spec h2
   rw [root_two h2] at hr
   rcases Coll.of (L := textsP l ++ joined (leafL s) :: (ts ++ [joined (nodeL r p)])) (a := joined (nodeL r p)) (b := joined (nodeL _ _)) (by simp) (List.mem_append_left _ (texts_own h2)) hr with e | e
   ·obtain ⟨e1, e2⟩ := node_inj e
    cases c with
    | zero => simp at hc; omega
    | succ c =>
     cases t with
     | zero => simp at hl; omega
     | succ t =>
      have p1 : 1 ≤ 2 ^ c := Nat.one_le_two_pow
      have p2 : 1 ≤ 2 ^ t := Nat.one_le_two_pow
      have ec : half n = 2 ^ c := half_of (by rw [hc, Nat.pow_succ]; omega) (by rw [hc, Nat.pow_succ]; omega)
      have et : half l.length = 2 ^ t := half_of (by rw [hl, Nat.pow_succ]; omega) (by rw [hl, Nat.pow_succ]; omega)
      rcases ih c t (l.take (half l.length)) s ec (by rw [take_len h2, et]) hd e1 with ⟨f0, f1, f2⟩ | f
      ·subst f0
       have hil : i < half l.length := by omega
       refine .inl ⟨rfl, ?_, ?_⟩
       ·rw [List.getElem?_take, if_pos hil] at f1
        exact f1
       ·rw [path_two h2 hil, ← f2, e2]
      ·right
       refine f.mono fun x hx => ?_
       rcases List.mem_append.1 hx with hx | hx
       ·exact List.mem_append_left _ (texts_take h2 hx)
       ·simp only [List.mem_append, List.mem_cons] at hx ⊢
        rcases hx with hx | hx <;> simp [hx]
   ·exact .inr e
  ·have h1 : l.length = 1 := by have : 1 ≤ 2 ^ t := Nat.one_le_two_pow; omega
   match l, h1 with
   | [x], _ =>
    rw [root_one] at hr
    rcases Coll.of (L := textsP [x] ++ joined (leafL s) :: (ts ++ [joined (nodeL r p)])) (a := joined (nodeL r p)) (b := joined (leafL x)) (by simp) (by rw [texts_one]; simp) hr with e | e
    ·exact (leaf_node e.symm).elim
    ·exact .inr e
 | @right n i d r xs ts p hn hi h ih =>
  intro c t l s hc hl hd hr
  by_cases h2 : 2 ≤ l.length
  ·have hs := half_spec h2
   rw [root_two h2] at hr
   rcases Coll.of (L := textsP l ++ joined (leafL s) :: (ts ++ [joined (nodeL p r)])) (a := joined (nodeL p r)) (b := joined (nodeL _ _)) (by simp) (List.mem_append_left _ (texts_own h2)) hr with e | e
   ·obtain ⟨e2, e1⟩ := node_inj e
    cases c with
    | zero => simp at hc; omega
    | succ c =>
     cases t with
     | zero => simp at hl; omega
     | succ t =>
      have p1 : 1 ≤ 2 ^ c := Nat.one_le_two_pow
      have p2 : 1 ≤ 2 ^ t := Nat.one_le_two_pow
      have ec : half n = 2 ^ c := half_of (by rw [hc, Nat.pow_succ]; omega) (by rw [hc, Nat.pow_succ]; omega)
      have et : half l.length = 2 ^ t := half_of (by rw [hl, Nat.pow_succ]; omega) (by rw [hl, Nat.pow_succ]; omega)
      have hc2 : n = 2 ^ c + 2 ^ c := by rw [hc, Nat.pow_succ]; omega
      have hl2 : l.length = 2 ^ t + 2 ^ t := by rw [hl, Nat.pow_succ]; omega
      rcases ih c t (l.drop (half l.length)) s (by omega) (by rw [List.length_drop]; omega) hd e1 with ⟨f0, f1, f2⟩ | f
      ·subst f0
       have hil : ¬ i < half l.length := by omega
       have ehl : half n = half l.length := by omega
       refine .inl ⟨rfl, ?_, ?_⟩
       ·rw [List.getElem?_drop, show half l.length + (i - half n) = i by omega] at f1
        exact f1
       ·rw [path_two' h2 hil, e2, f2, ehl]
      ·right
       refine f.mono fun x hx => ?_
       rcases List.mem_append.1 hx with hx | hx
       ·exact List.mem_append_left _ (texts_drop h2 hx)
       ·simp only [List.mem_append, List.mem_cons] at hx ⊢
        rcases hx with hx | hx <;> simp [hx]
   ·exact .inr e
  ·have h1 : l.length = 1 := by have : 1 ≤ 2 ^ t := Nat.one_le_two_pow; omega
   match l, h1 with
   | [x], _ =>
    rw [root_one] at hr
    rcases Coll.of (L := textsP [x] ++ joined (leafL s) :: (ts ++ [joined (nodeL p r)])) (a := joined (nodeL p r)) (b := joined (leafL x)) (by simp) (by rw [texts_one]; simp) hr with e | e
    ·exact (leaf_node e.symm).elim
    ·exact .inr e
def checkedT (m : ByteArray) (sig : List ByteArray) (k : Fin 18) : List ByteArray := chainedP (sig.getD k.val ByteArray.empty) (15 - dg m k.val)
def sealKey (m : ByteArray) (sig : List ByteArray) : ByteArray := sum (joined (endsP m sig))
def checkedP (m : ByteArray) (i : Nat) (sig path : List ByteArray) : List ByteArray :=
  (K18.map (checkedT m sig)).flatten ++ [joined (endsP m sig), joined (leafL (sealKey m sig))] ++ foldT i (leafP (sealKey m sig)) path
theorem checked_chain (m : ByteArray) (i : Nat) (sig path : List ByteArray) (k : Fin 18) {x : ByteArray} (hx : x ∈ chainedP (sig.getD k.val ByteArray.empty) (15 - dg m k.val)) : x ∈ checkedP m i sig path := by
 unfold checkedP
 refine List.mem_append_left _ (List.mem_append_left _ (List.mem_flatten.2 ⟨_, List.mem_map.2 ⟨k, ?_, rfl⟩, hx⟩))
 unfold K18
 exact List.mem_finRange k
theorem checked_ends (m : ByteArray) (i : Nat) (sig path : List ByteArray) : joined (endsP m sig) ∈ checkedP m i sig path := by
 unfold checkedP
 exact List.mem_append_left _ (List.mem_append_right _ (by simp))
theorem checked_leaf (m : ByteArray) (i : Nat) (sig path : List ByteArray) : joined (leafL (sealKey m sig)) ∈ checkedP m i sig path := by
 unfold checkedP
 exact List.mem_append_left _ (List.mem_append_right _ (by simp))
theorem checked_fold (m : ByteArray) (i : Nat) (sig path : List ByteArray) {x : ByteArray} (hx : x ∈ foldT i (leafP (sealKey m sig)) path) : x ∈ checkedP m i sig path := by
 unfold checkedP
 exact List.mem_append_right _ hx
theorem chained_le (t : ByteArray) {a b : Nat} (h : a ≤ b) {x : ByteArray} (hx : x ∈ chainedP t a) : x ∈ chainedP t b := by
 simp only [chainedP, List.mem_map, List.mem_range] at hx ⊢
 obtain ⟨j, hj, rfl⟩ := hx
 exact ⟨j, by omega, rfl⟩
theorem chained_at (t : ByteArray) {a b c : Nat} (h : a + b ≤ c) {x : ByteArray} (hx : x ∈ chainedP (chn a t) b) : x ∈ chainedP t c := by
 simp only [chainedP, List.mem_map, List.mem_range] at hx ⊢
 obtain ⟨j, hj, rfl⟩ := hx
 exact ⟨a + j, by omega, (chn_add a j t).symm⟩
theorem verify_key {s m : ByteArray} {h n : Nat} {i : Int} {sig path : List ByteArray} (hh : h ≤ 2) (hv : verifyP (publicP s h) m i sig path = true) :
    (sig.length = 18 ∧ path.length ≤ 8) ∧ ∃ j : Nat, i = (j : Int) ∧ ((j < 2 ^ h ∧ path = pathP (keysP s h) j ∧ keyP s j = sealKey m sig) ∨ Coll (madeP s h n ++ checkedP m j sig path)) := by
 unfold verifyP at hv
 rw [Bool.and_eq_true] at hv
 obtain ⟨hok, hc⟩ := hv
 obtain ⟨h18, hn8, hs, hp, hi0, hi⟩ := (sealOk_iff _ _ _).1 hok
 obtain ⟨j, rfl⟩ : ∃ j : Nat, i = (j : Int) := ⟨i.toNat, by omega⟩
 refine ⟨⟨h18, hn8⟩, j, rfl, ?_⟩
 obtain ⟨hj, _, ts, hcl⟩ := checkP_climb hc
 obtain ⟨_, _, ets⟩ := climb_fold hcl _ rfl hj
 rcases climb_tree hcl path.length h (keysP s h) (sealKey m sig) rfl (keysP_len s h) rfl rfl with ⟨e1, e2, e3⟩ | e
 ·left
  have hjh : j < 2 ^ h := by
   have := (List.getElem?_eq_some_iff.1 e2).1
   rwa [keysP_len] at this
  refine ⟨hjh, e3, ?_⟩
  have := keys_get s hjh
  rw [List.getD_eq_getElem?_getD, e2] at this
  exact this.symm
 ·right
  refine e.mono fun x hx => ?_
  simp only [List.mem_append, List.mem_cons] at hx
  rcases hx with hx | rfl | hx
  ·exact List.mem_append_left _ (made_texts s hh hx)
  ·exact List.mem_append_right _ (checked_leaf m j sig path)
  ·rw [ets] at hx
   exact List.mem_append_right _ (checked_fold m j sig path hx)
theorem ends_get (m : ByteArray) (sig : List ByteArray) (k : Fin 18) : (endsP m sig).getD k.val ByteArray.empty = chn (15 - dg m k.val) (sig.getD k.val ByteArray.empty) := map18_get k
theorem key_get (s : ByteArray) (i : Nat) (k : Fin 18) : (keyEnds s i).getD k.val ByteArray.empty = chn 15 (startP s i k.val) := by
 unfold keyEnds
 rw [range18]
 exact map18_get k
theorem verify_ends {s m : ByteArray} {h n : Nat} {i : Int} {sig path : List ByteArray} (hh : h ≤ 2) (hv : verifyP (publicP s h) m i sig path = true) :
    (sig.length = 18 ∧ path.length ≤ 8) ∧ ∃ j : Nat, i = (j : Int) ∧ ((j < 2 ^ h ∧ path = pathP (keysP s h) j ∧ ∀ k : Fin 18, chn 15 (startP s j k.val) = chn (15 - dg m k.val) (sig.getD k.val ByteArray.empty)) ∨ Coll (madeP s h n ++ checkedP m j sig path)) := by
 obtain ⟨hl, j, rfl, e⟩ := verify_key (n := n) hh hv
 refine ⟨hl, j, rfl, ?_⟩
 rcases e with ⟨hj, hp, hk⟩ | e
 ·rcases Coll.of (L := madeP s h n ++ checkedP m j sig path) (List.mem_append_left _ (made_ends s hj)) (List.mem_append_right _ (checked_ends m j sig path)) hk with f | f
  ·refine .inl ⟨hj, hp, fun k => ?_⟩
   have f := joined_iff.1 f
   rw [← ends_get, ← key_get, f]
  ·exact .inr f
 ·exact .inr e
theorem sig_ext {sig tau : List ByteArray} (h1 : sig.length = 18) (h2 : tau.length = 18) (h : ∀ k : Fin 18, sig.getD k.val ByteArray.empty = tau.getD k.val ByteArray.empty) : sig = tau := by
 refine List.ext_getElem (by omega) fun p hp hq => ?_
 have := h ⟨p, by omega⟩
 rw [List.getD_eq_getElem?_getD, List.getElem?_eq_getElem hp, List.getD_eq_getElem?_getD, List.getElem?_eq_getElem hq] at this
 exact this
theorem sound_coll {s m : ByteArray} {h n : Nat} {i : Int} {sig path : List ByteArray} (hn : 15 ≤ n) (hh : h ≤ 2) (hv : verifyP (publicP s h) m i sig path = true) :
    (sig.length = 18 ∧ path.length ≤ 8) ∧ ∃ j : Nat, i = (j : Int) ∧ ((j < 2 ^ h ∧ path = pathP (keysP s h) j ∧ sig = sigP s j m) ∨ Coll (madeP s h n ++ checkedP m j sig path)) := by
 obtain ⟨hl, j, rfl, e⟩ := verify_ends (n := n) hh hv
 refine ⟨hl, j, rfl, ?_⟩
 rcases e with ⟨hj, hp, hk⟩ | e
 ·by_cases hC : Coll (madeP s h n ++ checkedP m j sig path)
  ·exact .inr hC
  ·refine .inl ⟨hj, hp, sig_ext hl.1 (sig_len s j m) fun k => ?_⟩
   rw [sig_get]
   have hk := hk k
   have hd := dg_lt m k.val
   rw [show 15 = dg m k.val + (15 - dg m k.val) by omega, ← chn_add, show dg m k.val + (15 - dg m k.val) - dg m k.val = 15 - dg m k.val by omega] at hk
   rcases chain_bind _ _ _ hk with f | f
   ·exact f.symm
   ·refine (hC (f.mono fun x hx => ?_)).elim
    rcases List.mem_append.1 hx with hx | hx
    ·exact List.mem_append_left _ (made_link s hj k.isLt (chained_at _ (by omega) hx))
    ·exact List.mem_append_right _ (checked_chain m j sig path k hx)
 ·exact .inr e
theorem dg_ext {m o : ByteArray} (h : ∀ k : Fin 18, dg m k.val = dg o k.val) : sum m = sum o := by
 apply data_inj
 refine List.ext_getElem (by rw [dataLen, dataLen, sum_size, sum_size]) fun p hp hq => ?_
 have hp16 : p < 16 := by rw [dataLen, sum_size] at hp; exact hp
 have h1 := sum_get m p hp16
 have h2 := sum_get o p hp16
 have hk := h ⟨p, by omega⟩
 simp only [dg_dig m hp16, dg_dig o hp16] at hk
 rw [List.getD_eq_getElem?_getD, List.getElem?_eq_getElem hp] at h1
 rw [List.getD_eq_getElem?_getD, List.getElem?_eq_getElem hq] at h2
 simp only [Option.getD_some] at h1 h2
 rw [h1, h2, hk]
theorem joined_58 (x : ByteArray) (l : List ByteArray) : isDig (joined (x :: l)) = false := by
 rw [Bool.eq_false_iff]
 intro h
 unfold isDig at h
 rw [Bool.and_eq_true] at h
 have := h.2
 rw [joined_data, List.all_eq_true] at this
 have := this 58 (by simp [joinedL])
 exact absurd this (by decide)
theorem cycle_coll (s : ByteArray) {h n i k : Nat} (hi : i < 2 ^ h) (hk : k < 18) {a b : Nat} (hab : a < b) (hbn : b ≤ n) (e : chn a (startP s i k) = chn b (startP s i k)) : Coll (madeP s h n) := by
 rw [show b = (b - a) + a by omega, ← chn_add] at e
 rcases chain_bind a _ _ e with f | f
 ·obtain ⟨c, hc⟩ : ∃ c, b - a = c + 1 := ⟨b - a - 1, by omega⟩
  rw [hc, chn_succ] at f
  rcases Coll.of (L := madeP s h n) (a := startL s i k) (b := chn c (startP s i k)) (made_start s hi hk) (made_link s hi hk (mem_chained _ (by omega))) f with g | g
  ·have d1 : isDig (startL s i k) = false := joined_58 _ _
   rw [g, chn_dig _ _ (start_dig s i k)] at d1
   cases d1
  ·exact g
 ·refine f.mono fun x hx => ?_
  rcases List.mem_append.1 hx with hx | hx
  ·exact made_link s hi hk (chained_le _ (by omega) hx)
  ·exact made_link s hi hk (chained_at _ (by omega) hx)
theorem binds_coll {s m o : ByteArray} {h i n : Nat} (hn : 30 ≤ n) (hh : h ≤ 2) (hne : sum m ≠ sum o) (hv : verifyP (publicP s h) o (i : Int) (sigP s i m) (pathP (keysP s h) i) = true) :
    Coll (madeP s h n ++ checkedP o i (sigP s i m) (pathP (keysP s h) i)) := by
 obtain ⟨_, j, ej, e⟩ := verify_ends (n := n) hh hv
 obtain rfl : i = j := Int.ofNat.inj ej
 rcases e with ⟨hj, _, hk⟩ | e
 ·by_cases hall : ∀ k : Fin 18, dg m k.val = dg o k.val
  ·exact absurd (dg_ext hall) hne
  ·obtain ⟨k, hk0⟩ := Classical.not_forall.1 hall
   have hk := hk k
   rw [sig_get, chn_add] at hk
   have d1 := dg_lt m k.val
   have d2 := dg_lt o k.val
   have hC : Coll (madeP s h n) := by
    rcases Nat.lt_or_gt_of_ne (show 15 ≠ dg m k.val + (15 - dg o k.val) by omega) with g | g
    ·exact cycle_coll s hj k.isLt g (by omega) hk
    ·exact cycle_coll s hj k.isLt g (by omega) hk.symm
   exact hC.mono fun x hx => List.mem_append_left _ hx
 ·exact e
end Go.Proofs.YtdlipbfcadmhjaaGreatDoor.Pl
