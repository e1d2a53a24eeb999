/- seal, plain: what Made holds, what binds, and the law SealSecrets, in one text. -/
import Derived.Test.YtdlipbfcadmhjaaDoorKS
import Derived.Test.YtdlipbfcadmhjaaDoorQ5
import Derived.Test.YtdlipbfcadmhjaaDoorTE2
import Derived.Test.YtdlipbfcadmhjaaDoorPG3x10
import Derived.Test.YtdlipbfcadmhjaaDoorPG3x11
set_option linter.unusedSimpArgs false
set_option linter.unusedVariables false
namespace Go.Proofs.YtdlipbfcadmhjaaDoor
open Go.RowKit Go.Proofs.YtdlipbfcadmhjaaDoorW.PrintWords Go.Proofs.YtdlipbfcadmhjaaDoorW.PrintMore PG3
namespace Pl
def startL (s : ByteArray) (i k : Nat) : ByteArray := joined [s, itB i, itB k]
def chainedP (t : ByteArray) (n : Nat) : List ByteArray := (List.range (n + 1)).map fun j => chn j t
def chainT (s : ByteArray) (n i k : Nat) : List ByteArray := startL s i k :: chainedP (startP s i k) n
def keyTexts (s : ByteArray) (n i : Nat) : List ByteArray := ((List.range 18).map (chainT s n i)).flatten ++ [joined (keyEnds s i), joined (leafL (keyP s i))]
def texts2 : List ByteArray → List ByteArray
  | a :: b :: r => joined (nodeL a b) :: texts2 r
  | _ => []
def up2 : List ByteArray → List ByteArray
  | a :: b :: r => nodeP a b :: up2 r
  | _ => []
def upT : Nat → List ByteArray → List ByteArray
  | 0, _ => []
  | c + 1, l => texts2 l ++ upT c (up2 l)
def madeP (s : ByteArray) (h n : Nat) : List ByteArray := ((List.range (2 ^ h)).map (keyTexts s n)).flatten ++ upT h ((List.range (2 ^ h)).map fun i => leafP (keyP s i))
theorem chained_len (t : ByteArray) (n : Nat) : (chainedP t n).length = n + 1 := by simp [chainedP]
theorem chained_get (t : ByteArray) (n : Nat) {j : Nat} (h : j ≤ n) : (chainedP t n).getD j ByteArray.empty = chn j t := by
  unfold chainedP
  rw [List.getD_eq_getElem?_getD, List.getElem?_map, List.getElem?_range (by omega)]
  rfl
theorem chn_succ (n : Nat) (a : ByteArray) : chn (n + 1) a = sum (chn n a) := by
  rw [← chn_add n 1]; rfl
theorem up2_len : ∀ (c : Nat) (l : List ByteArray), l.length = 2 ^ (c + 1) → (up2 l).length = 2 ^ c := by
  have : ∀ (n : Nat) (l : List ByteArray), l.length = 2 * n → (up2 l).length = n := by
    intro n
    induction n with
    | zero => intro l hl; obtain rfl := List.length_eq_zero_iff.1 hl; rfl
    | succ n ih =>
      intro l hl
      match l, hl with
      | a :: b :: r, hl =>
        have := ih r (by simp at hl; omega)
        simp [up2, this]
      | [x], hl => simp at hl; omega
      | [], hl => simp at hl
  intro c l hl
  exact this _ l (by rw [hl, Nat.pow_succ]; omega)
theorem up2_small : ∀ (n : Nat) (l : List ByteArray), l.length ≤ n → ∀ x ∈ up2 l, x.size ≤ 16 := by
  intro n
  induction n with
  | zero => intro l hl x hx; obtain rfl := List.length_eq_zero_iff.1 (Nat.le_zero.1 hl); simp [up2] at hx
  | succ n ih =>
    intro l hl x hx
    match l, hl, hx with
    | a :: b :: r, hl, hx =>
      simp only [up2, List.mem_cons] at hx
      rcases hx with rfl | hx
      · rw [nodeP_size]; omega
      · exact ih r (by simp at hl; omega) x hx
    | [y], hl, hx => simp [up2] at hx
    | [], hl, hx => simp [up2] at hx
end Pl
theorem powerE (h : Nat) (hh : h ≤ 30) : Ev (fun k => customhouseref03_Power.f k (h : Int)) ((2 ^ h : Nat) : Int) := by
  unfold customhouseref03_Power.f
  have go : ∀ (m i : Nat), i + m = h → Ev (fun k => customhouseref03_Power.l0 k (h : Int) ((2 ^ i : Nat) : Int) (i : Int)) ((2 ^ h : Nat) : Int) := by
    intro m
    induction m with
    | zero =>
      intro i hi
      obtain rfl : i = h := by omega
      refine evS ?_
      simp only [customhouseref03_Power.l0, if_neg (show ¬ (i : Int) < (i : Int) by omega)]
      exact Ev.now _
    | succ m ih =>
      intro i hi
      have hb : 2 ^ i ≤ 2 ^ 30 := Nat.pow_le_pow_right (by omega) (by omega)
      have e1 : wrap64 ((i : Int) + 1) = ((i + 1 : Nat) : Int) := by rw [w64_id] <;> omega
      have e2 : wrap64 (2 * ((2 ^ i : Nat) : Int)) = ((2 ^ (i + 1) : Nat) : Int) := by
        rw [Nat.pow_succ]
        generalize 2 ^ i = X at hb ⊢
        rw [w64_id] <;> omega
      refine evS ?_
      simp only [customhouseref03_Power.l0, if_pos (show (i : Int) < (h : Int) by omega), e1, e2]
      exact ih (i + 1) (by omega)
  exact go h 0 (by omega)
theorem chainedE (t : ByteArray) (n : Nat) (ht : t.size ≤ 1000000) (hn : n ≤ 1000) : Ev (fun k => customhouseref03_chained.f k t (n : Int)) (Pl.chainedP t n) := by
  unfold customhouseref03_chained.f
  have hsz : ∀ j, (Pl.chn j t).size ≤ 1000000 := by
    intro j
    cases j with
    | zero => exact ht
    | succ j => rw [Pl.chn_size]; omega
  have go : ∀ (m i : Nat), i + m = n → Ev (fun k => customhouseref03_chained.l0 k (Pl.chn i t) (n : Int) (Pl.chainedP t i) (i : Int)) (Pl.chainedP t n) := by
    intro m
    induction m with
    | zero =>
      intro i hi
      obtain rfl : i = n := by omega
      refine evS ?_
      simp only [customhouseref03_chained.l0, if_neg (show ¬ (i : Int) < (i : Int) by omega)]
      exact Ev.now _
    | succ m ih =>
      intro i hi
      have e1 : wrap64 ((i : Int) + 1) = ((i + 1 : Nat) : Int) := by rw [w64_id] <;> omega
      refine evS ?_
      simp only [customhouseref03_chained.l0, if_pos (show (i : Int) < (n : Int) by omega), e1]
      refine Ev.bind (Q4.refSumE (Pl.chn i t) (by have := hsz i; omega)) ?_
      simp only [if_pos (show (Pl.chainedP t i).length < 8796093022208 by rw [Pl.chained_len]; omega)]
      have := ih (i + 1) (by omega)
      rw [Pl.chn_succ] at this
      rw [show Pl.chainedP t i ++ [Pl.sum (Pl.chn i t)] = Pl.chainedP t (i + 1) by
        unfold Pl.chainedP
        rw [List.range_succ (n := i + 1), List.map_append, List.map_singleton, Pl.chn_succ]]
      exact this
  exact go n 0 (by omega)
theorem decE (a : Nat) (h : a ≤ 1000000) : customhouseref01_Decimal.f (a : Int) = some (Pl.itB a) := by
  unfold customhouseref01_Decimal.f
  rw [if_pos (by omega), if_pos (by omega)]; rfl
theorem startLE (s : ByteArray) (i k : Nat) (hs : s.size ≤ 1000) (hi : i ≤ 1000000) (hk : k ≤ 1000000) : customhouseref01_Joined.f [s, Pl.itB i, Pl.itB k] = some (Pl.startL s i k) := jE _ (few_start s i k hs hi hk)
theorem key_small (s : ByteArray) (i : Nat) : ∀ x ∈ Pl.keyEnds s i, x.size ≤ 1000 := by
  intro x hx
  simp only [Pl.keyEnds, List.mem_map] at hx
  obtain ⟨k, _, rfl⟩ := hx
  have := Pl.chn_size_le 15 (Pl.startP s i k) (by rw [Pl.startP_size]; omega)
  omega
theorem keyEnds_len (s : ByteArray) (i : Nat) : (Pl.keyEnds s i).length = 18 := by simp [Pl.keyEnds]
theorem few_key (s : ByteArray) (i : Nat) : Pl.few (Pl.keyEnds s i) 1000 = true := few_ends _ (by rw [keyEnds_len]; omega) (key_small s i)
theorem made_l3 : ∀ (d : Nat) (lv : List ByteArray) (j : Nat) (out next : List ByteArray) (R : List ByteArray), lv.length ≤ 1000 → (∀ x ∈ lv, x.size ≤ 16) → j ≤ lv.length → lv.length - j ≤ d → out.length + d ≤ 1000000 → next.length + d ≤ 1000000 →
    Ev (fun k => customhouseref03_Made.l2 k (out ++ Pl.texts2 (lv.drop j)) (next ++ Pl.up2 (lv.drop j))) R → Ev (fun k => customhouseref03_Made.l3 k out lv next (j : Int)) R := by
  intro d
  induction d using Nat.strongRecOn with
  | ind d ih =>
    intro lv j out next R hl hs hj hd ho hn H
    have e1 : wrap64 ((j : Int) + 1) = ((j + 1 : Nat) : Int) := by rw [w64_id] <;> omega
    have e2 : wrap64 ((j : Int) + 2) = ((j + 2 : Nat) : Int) := by rw [w64_id] <;> omega
    by_cases h2 : j + 1 < lv.length
    · have ha : rdOf ByteArray.empty lv (j : Int) = lv[j] := by
        show lv.getD j _ = _
        rw [List.getD_eq_getElem?_getD, List.getElem?_eq_getElem (by omega)]; rfl
      have hb : rdOf ByteArray.empty lv ((j + 1 : Nat) : Int) = lv[j + 1] := by
        show lv.getD (j + 1) _ = _
        rw [List.getD_eq_getElem?_getD, List.getElem?_eq_getElem (by omega)]; rfl
      have hsa : lv[j].size ≤ 16 := hs _ (List.getElem_mem _)
      have hsb : lv[j + 1].size ≤ 16 := hs _ (List.getElem_mem _)
      have hn1 : customhouseref03_node.f lv[j] lv[j + 1] = some (Pl.joined (Pl.nodeL lv[j] lv[j + 1])) := by
        unfold customhouseref03_node.f
        have hj : customhouseref01_Joined.f [(⟨#[110, 111, 100, 101]⟩ : ByteArray), lv[j], lv[j + 1]] = some (Pl.joined (Pl.nodeL lv[j] lv[j + 1])) := jE (Pl.nodeL lv[j] lv[j + 1]) (few_node _ _ (by omega) (by omega))
        rw [hj]; rfl
      have hd2 : lv.drop j = lv[j] :: lv[j + 1] :: lv.drop (j + 2) := by
        rw [List.drop_eq_getElem_cons (by omega), List.drop_eq_getElem_cons (by omega)]
      have hsm : (Pl.joined (Pl.nodeL lv[j] lv[j + 1])).size ≤ 140737488355328 := (Pl.few_caps (few_node _ _ (by omega : lv[j].size ≤ 1000) (by omega : lv[j + 1].size ≤ 1000)) (by omega)).2.2
      refine evS ?_
      simp only [customhouseref03_Made.l3, e1, e2, if_pos (show ((j + 1 : Nat) : Int) < (lv.length : Int) by omega), if_pos (show (0 : Int) ≤ (j : Int) by omega), if_pos (show (j : Int) < (lv.length : Int) by omega), if_pos (show (0 : Int) ≤ ((j + 1 : Nat) : Int) by omega), ha, hb, hn1, Option.bind_some, if_pos (show out.length < 8796093022208 by omega)]
      refine Ev.bind (Q4.refSumE _ (by omega)) ?_
      simp only [if_pos (show next.length < 8796093022208 by omega)]
      refine ih (d - 2) (by omega) lv (j + 2) _ _ R hl hs (by omega) (by omega) (by simp; omega) (by simp; omega) ?_
      rw [hd2] at H
      simp only [Pl.texts2, Pl.up2] at H
      rw [List.append_assoc, List.append_assoc]
      exact H
    · refine evS ?_
      simp only [customhouseref03_Made.l3, e1, if_neg (show ¬ ((j + 1 : Nat) : Int) < (lv.length : Int) by omega)]
      have : (lv.drop j).length ≤ 1 := by rw [List.length_drop]; omega
      match hq : lv.drop j, this with
      | [], _ => rw [hq] at H; simpa [Pl.texts2, Pl.up2] using H
      | [x], _ => rw [hq] at H; simpa [Pl.texts2, Pl.up2] using H
      | _ :: _ :: _, h => simp at h
theorem made_l2 : ∀ (c : Nat) (lv out : List ByteArray), c ≤ 8 → lv.length = 2 ^ c → (∀ x ∈ lv, x.size ≤ 16) → out.length + 1000 * c ≤ 900000 → Ev (fun k => customhouseref03_Made.l2 k out lv) (out ++ Pl.upT c lv) := by
  intro c
  induction c with
  | zero =>
    intro lv out hc hl hs ho
    refine evS ?_
    simp only [customhouseref03_Made.l2, if_neg (show ¬ (lv.length : Int) > 1 by rw [hl]; simp)]
    exact evE (Ev.now _) (by simp [Pl.upT])
  | succ c ih =>
    intro lv out hc hl hs ho
    have hb := Pl.pow8 hc
    have h2 : 1 ≤ 2 ^ c := Nat.one_le_two_pow
    refine evS ?_
    simp only [customhouseref03_Made.l2, if_pos (show (lv.length : Int) > 1 by rw [hl, Nat.pow_succ]; omega)]
    have ht : (Pl.texts2 lv).length ≤ lv.length := by
      have : ∀ (n : Nat) (l : List ByteArray), l.length ≤ n → (Pl.texts2 l).length ≤ l.length := by
        intro n
        induction n with
        | zero => intro l hl; obtain rfl := List.length_eq_zero_iff.1 (Nat.le_zero.1 hl); simp [Pl.texts2]
        | succ n ih =>
          intro l hl
          match l, hl with
          | a :: b :: r, hl => have := ih r (by simp at hl; omega); simp [Pl.texts2]; omega
          | [x], _ => simp [Pl.texts2]
          | [], _ => simp [Pl.texts2]
      exact this _ lv (Nat.le_refl _)
    refine made_l3 lv.length lv 0 out [] _ (by omega) hs (by omega) (by omega) (by omega) (by simp; omega) ?_
    rw [List.drop_zero, List.nil_append]
    have := ih (Pl.up2 lv) (out ++ Pl.texts2 lv) (by omega) (Pl.up2_len c lv hl) (Pl.up2_small _ lv (Nat.le_refl _)) (by rw [List.length_append]; omega)
    rw [List.append_assoc] at this
    exact this
theorem made_l1 (s : ByteArray) (hs : s.size ≤ 1000) (h n i : Nat) (hn : 15 ≤ n) (hn2 : n ≤ 30) (hi : i ≤ 1000) (lv : List ByteArray) (hlv : lv.length ≤ 1000) (R : List ByteArray) :
    ∀ (d k : Nat) (out : List ByteArray), k + d = 18 → out.length + 40 * d + 10 ≤ 1000000 →
    Ev (fun K => customhouseref03_Made.l0 K s (h : Int) (n : Int) (out ++ (((List.range 18).drop k).map (Pl.chainT s n i)).flatten ++ [Pl.joined (Pl.keyEnds s i), Pl.joined (Pl.leafL (Pl.keyP s i))]) (lv ++ [Pl.leafP (Pl.keyP s i)]) ((i + 1 : Nat) : Int)) R →
    Ev (fun K => customhouseref03_Made.l1 K s (h : Int) (n : Int) out lv (i : Int) ((Pl.keyEnds s i).take k) (k : Int)) R := by
  intro d
  induction d with
  | zero =>
    intro k out hk ho H
    obtain rfl : k = 18 := by omega
    have e1 : wrap64 ((i : Int) + 1) = ((i + 1 : Nat) : Int) := by rw [w64_id] <;> omega
    refine evS ?_
    have hsm : (Pl.joined (Pl.keyEnds s i)).size ≤ 140737488355328 := (Pl.few_caps (few_key s i) (by omega)).2.2
    have hsl : (Pl.joined (Pl.leafL (Pl.keyP s i))).size ≤ 140737488355328 := (Pl.few_caps (few_leaf (Pl.keyP s i) (by rw [Pl.keyP_size]; omega)) (by omega)).2.2
    simp only [customhouseref03_Made.l1, if_neg (show ¬ ((18 : Nat) : Int) < 18 by omega)]
    rw [List.take_of_length_le (by rw [keyEnds_len]; omega), jE _ (few_key s i)]
    simp only [Option.bind_some]
    refine Ev.bind (Q4.refSumE _ (by omega)) ?_
    have hj : customhouseref01_Joined.f [(⟨#[108, 101, 97, 102]⟩ : ByteArray), Pl.sum (Pl.joined (Pl.keyEnds s i))] = some (Pl.joined (Pl.leafL (Pl.keyP s i))) := jE _ (few_leaf (Pl.keyP s i) (by rw [Pl.keyP_size]; omega))
    simp only [hj, Option.bind_some, if_pos (show out.length + [Pl.joined (Pl.keyEnds s i), Pl.joined (Pl.leafL (Pl.keyP s i))].length < 8796093022208 by simp; omega)]
    refine Ev.bind (Q4.refSumE _ (by omega)) ?_
    simp only [if_pos (show lv.length < 8796093022208 by omega), e1]
    have hz : (List.range 18).drop 18 = [] := by simp
    rw [hz, List.map_nil, List.flatten_nil, List.append_nil] at H
    exact H
  | succ d ih =>
    intro k out hk ho H
    have e1 : wrap64 ((k : Int) + 1) = ((k + 1 : Nat) : Int) := by rw [w64_id] <;> omega
    have hsm : (Pl.startL s i k).size ≤ 140737488355328 := (Pl.few_caps (few_start s i k hs (by omega) (by omega)) (by omega)).2.2
    refine evS ?_
    simp only [customhouseref03_Made.l1, if_pos (show (k : Int) < 18 by omega), decE i (by omega), decE k (by omega), Option.bind_some, startLE s i k hs (by omega) (by omega), if_pos (show out.length < 8796093022208 by omega), e1]
    refine Ev.bind (Q4.refSumE _ (by omega)) ?_
    refine Ev.bind (chainedE (Pl.sum (Pl.startL s i k)) n (by rw [Pl.sum_size]; omega) (by omega)) ?_
    have hg : rdOf ByteArray.empty (Pl.chainedP (Pl.sum (Pl.startL s i k)) n) 15 = Pl.chn 15 (Pl.startP s i k) := Pl.chained_get (Pl.startP s i k) n hn
    simp only [if_pos (show (out ++ [Pl.startL s i k]).length + (Pl.chainedP (Pl.sum (Pl.startL s i k)) n).length < 8796093022208 by rw [Pl.chained_len]; simp; omega), if_pos (show (15 : Int) < ((Pl.chainedP (Pl.sum (Pl.startL s i k)) n).length : Int) by rw [Pl.chained_len]; omega), if_pos (show ((Pl.keyEnds s i).take k).length < 8796093022208 by rw [List.length_take, keyEnds_len]; omega), hg]
    have ht : (Pl.keyEnds s i).take k ++ [Pl.chn 15 (Pl.startP s i k)] = (Pl.keyEnds s i).take (k + 1) := by
      rw [List.take_succ_eq_append_getElem (by rw [keyEnds_len]; omega)]
      simp [Pl.keyEnds]
    rw [ht]
    refine ih (k + 1) _ (by omega) (by simp only [List.length_append, List.length_singleton, Pl.chained_len]; omega) ?_
    have hd : (List.range 18).drop k = k :: (List.range 18).drop (k + 1) := by
      rw [List.drop_eq_getElem_cons (by simp; omega)]
      simp
    rw [hd, List.map_cons, List.flatten_cons] at H
    have hc : Pl.chainT s n i k = [Pl.startL s i k] ++ Pl.chainedP (Pl.sum (Pl.startL s i k)) n := rfl
    rw [hc] at H
    simpa only [List.append_assoc] using H
theorem chainT_len (s : ByteArray) (n i k : Nat) : (Pl.chainT s n i k).length = n + 2 := by simp [Pl.chainT, Pl.chained_len]
theorem keyTexts_len (s : ByteArray) (n i : Nat) (hn : n ≤ 30) : (Pl.keyTexts s n i).length ≤ 600 := by
  have : ∀ l : List Nat, ((l.map (Pl.chainT s n i)).flatten).length = l.length * (n + 2) := by
    intro l
    induction l with
    | nil => simp
    | cons a l ih => simp only [List.map_cons, List.flatten_cons, List.length_append, ih, chainT_len, List.length_cons]; rw [Nat.succ_mul]; omega
  unfold Pl.keyTexts
  rw [List.length_append, this, List.length_range]
  simp
  omega
theorem made_l0 (s : ByteArray) (hs : s.size ≤ 1000) (h n : Nat) (hh : h ≤ 8) (hn : 15 ≤ n) (hn2 : n ≤ 30) (R : List ByteArray) :
    ∀ (d i : Nat) (out : List ByteArray), i + d = 2 ^ h → out.length + 700 * d ≤ 500000 →
    Ev (fun K => customhouseref03_Made.l2 K (out ++ (((List.range (2 ^ h)).drop i).map (Pl.keyTexts s n)).flatten) ((List.range (2 ^ h)).map fun i => Pl.leafP (Pl.keyP s i))) R →
    Ev (fun K => customhouseref03_Made.l0 K s (h : Int) (n : Int) out ((List.range i).map fun i => Pl.leafP (Pl.keyP s i)) (i : Int)) R := by
  intro d
  have hb := Pl.pow8 hh
  induction d with
  | zero =>
    intro i out hi ho H
    obtain rfl : i = 2 ^ h := by omega
    refine evS ?_
    simp only [customhouseref03_Made.l0]
    refine Ev.bind (powerE h (by omega)) ?_
    simp only [if_neg (show ¬ ((2 ^ h : Nat) : Int) < ((2 ^ h : Nat) : Int) by omega)]
    have hz : (List.range (2 ^ h)).drop (2 ^ h) = [] := List.drop_of_length_le (by rw [List.length_range]; exact Nat.le_refl _)
    rw [hz, List.map_nil, List.flatten_nil, List.append_nil] at H
    exact H
  | succ d ih =>
    intro i out hi ho H
    refine evS ?_
    simp only [customhouseref03_Made.l0]
    refine Ev.bind (powerE h (by omega)) ?_
    simp only [if_pos (show (i : Int) < ((2 ^ h : Nat) : Int) by omega)]
    have ho' : out.length + 700 * d + 700 ≤ 500000 := by rw [Nat.add_assoc, ← Nat.mul_succ]; exact ho
    clear ho
    have q1 : out.length + 730 ≤ 1000000 := by omega
    have q2 : i ≤ 1000 := by omega
    have q3 : ((List.range i).map fun i => Pl.leafP (Pl.keyP s i)).length ≤ 1000 := by rw [List.length_map, List.length_range]; exact q2
    have q4 := made_l1 s hs h n i hn hn2 q2 _ q3 R 18 0 out rfl q1
    rw [List.take_zero] at q4
    refine q4 ?_
    have hl := keyTexts_len s n i hn2
    have := ih (i + 1) (out ++ Pl.keyTexts s n i) (by omega) (by rw [List.length_append]; omega) (by
      have hd : (List.range (2 ^ h)).drop i = i :: (List.range (2 ^ h)).drop (i + 1) := by
        rw [List.drop_eq_getElem_cons (by rw [List.length_range]; omega), List.getElem_range]
      rw [hd, List.map_cons, List.flatten_cons, ← List.append_assoc] at H
      exact H)
    rw [List.range_succ, List.map_append, List.map_singleton] at this
    rw [List.drop_zero, List.append_assoc]
    exact this
theorem madeE (s : ByteArray) (hs : s.size ≤ 1000) (h n : Nat) (hh : h ≤ 8) (hn : 15 ≤ n) (hn2 : n ≤ 30) : Ev (fun K => customhouseref03_Made.f K s (h : Int) (n : Int)) (Pl.madeP s h n) := by
  have hb := Pl.pow8 hh
  unfold customhouseref03_Made.f
  refine made_l0 s hs h n hh hn hn2 _ (2 ^ h) 0 [] (by omega) (by show 0 + 700 * 2 ^ h ≤ 500000; generalize 2 ^ h = N at hb ⊢; omega) ?_
  rw [List.drop_zero, List.nil_append]
  have hl : ((List.range (2 ^ h)).map (Pl.keyTexts s n)).flatten.length ≤ 2 ^ h * 600 := by
    have : ∀ l : List Nat, ((l.map (Pl.keyTexts s n)).flatten).length ≤ l.length * 600 := by
      intro l
      induction l with
      | nil => simp
      | cons a l ih => have := keyTexts_len s n a hn2; simp only [List.map_cons, List.flatten_cons, List.length_append, List.length_cons]; omega
    have := this (List.range (2 ^ h))
    rwa [List.length_range] at this
  refine made_l2 h _ _ hh (by rw [List.length_map, List.length_range]) (by
    intro x hx
    simp only [List.mem_map] at hx
    obtain ⟨i, _, rfl⟩ := hx
    show (Pl.sum _).size ≤ 16
    rw [Pl.sum_size]; omega) (by omega)
end Go.Proofs.YtdlipbfcadmhjaaDoor

namespace Go.Proofs.YtdlipbfcadmhjaaDoor.Pl
theorem mem_chained (t : ByteArray) {j n : Nat} (h : j ≤ n) : chn j t ∈ chainedP t n := by
  unfold chainedP
  exact List.mem_map.2 ⟨j, List.mem_range.2 (by omega), rfl⟩
theorem chain_bind : ∀ (n : Nat) (a b : ByteArray), chn n a = chn n b → a = b ∨ Coll (chainedP a n ++ chainedP b n) := by
  intro n
  induction n with
  | zero => intro a b h; exact .inl h
  | succ n ih =>
    intro a b h
    rw [chn_succ, chn_succ] at h
    rcases Coll.of (L := chainedP a (n + 1) ++ chainedP b (n + 1)) (List.mem_append_left _ (mem_chained a (by omega))) (List.mem_append_right _ (mem_chained b (by omega))) h with e | e
    · rcases ih a b e with e | e
      · exact .inl e
      · refine .inr (e.mono fun x hx => ?_)
        simp only [chainedP, List.mem_append, List.mem_map, List.mem_range] at hx ⊢
        rcases hx with ⟨j, hj, rfl⟩ | ⟨j, hj, rfl⟩
        · exact .inl ⟨j, by omega, rfl⟩
        · exact .inr ⟨j, by omega, rfl⟩
    · exact .inr e
theorem climb_det {n i : Nat} {d r r' : ByteArray} {xs ts ys us : List ByteArray} (h : Climb n i d xs r ts) : Climb n i d ys r' us → xs = ys → r = r' ∧ ts = us := by
  intro h'
  induction h generalizing r' ys us with
  | one d =>
    intro e
    cases h' with
    | one => exact ⟨rfl, rfl⟩
    | left p hn => omega
    | right p hn => omega
  | left p hn hi h ih =>
    intro e
    cases h' with
    | one => omega
    | left p' hn' hi' h' =>
      obtain ⟨e1, e2⟩ := List.append_inj' e rfl
      cases e2
      obtain ⟨rfl, rfl⟩ := ih h' e1
      exact ⟨rfl, rfl⟩
    | right p' hn' hi' h' => exact absurd hi hi'
  | right p hn hi h ih =>
    intro e
    cases h' with
    | one => omega
    | left p' hn' hi' h' => exact absurd hi' hi
    | right p' hn' hi' h' =>
      obtain ⟨e1, e2⟩ := List.append_inj' e rfl
      cases e2
      obtain ⟨rfl, rfl⟩ := ih h' e1
      exact ⟨rfl, rfl⟩
/-! ### what Made holds -/
theorem made_key (s : ByteArray) {h n i : Nat} (hi : i < 2 ^ h) {x : ByteArray} (hx : x ∈ keyTexts s n i) : x ∈ madeP s h n := by
  unfold madeP
  exact List.mem_append_left _ (List.mem_flatten.2 ⟨_, List.mem_map.2 ⟨i, List.mem_range.2 hi, rfl⟩, hx⟩)
theorem made_chain (s : ByteArray) {h n i k : Nat} (hi : i < 2 ^ h) (hk : k < 18) {x : ByteArray} (hx : x ∈ chainT s n i k) : x ∈ madeP s h n := by
  refine made_key s hi ?_
  unfold keyTexts
  exact List.mem_append_left _ (List.mem_flatten.2 ⟨_, List.mem_map.2 ⟨k, List.mem_range.2 hk, rfl⟩, hx⟩)
theorem made_start (s : ByteArray) {h n i k : Nat} (hi : i < 2 ^ h) (hk : k < 18) : startL s i k ∈ madeP s h n := made_chain s hi hk (by unfold chainT; exact List.mem_cons_self)
theorem made_link (s : ByteArray) {h n i k : Nat} (hi : i < 2 ^ h) (hk : k < 18) {x : ByteArray} (hx : x ∈ chainedP (startP s i k) n) : x ∈ madeP s h n := made_chain s hi hk (by unfold chainT; exact List.mem_cons_of_mem _ hx)
theorem made_ends (s : ByteArray) {h n i : Nat} (hi : i < 2 ^ h) : joined (keyEnds s i) ∈ madeP s h n := made_key s hi (by unfold keyTexts; exact List.mem_append_right _ (by simp))
theorem made_leaf (s : ByteArray) {h n i : Nat} (hi : i < 2 ^ h) : joined (leafL (keyP s i)) ∈ madeP s h n := made_key s hi (by unfold keyTexts; exact List.mem_append_right _ (by simp))
theorem made_up (s : ByteArray) {h n : Nat} {x : ByteArray} (hx : x ∈ upT h ((List.range (2 ^ h)).map fun i => leafP (keyP s i))) : x ∈ madeP s h n := by
  unfold madeP
  exact List.mem_append_right _ hx
theorem roots_pair (a b : ByteArray) : rootP [a, b] = nodeP (leafP a) (leafP b) := by
  rw [root_two (l := [a, b]) (by simp), show half ([a, b] : List ByteArray).length = 1 from rfl]
  show nodeP (rootP [a]) (rootP [b]) = _
  rw [root_one, root_one]
theorem texts_pair (a b : ByteArray) : textsP [a, b] = [joined (leafL a), joined (leafL b), joined (nodeL (leafP a) (leafP b))] := by
  rw [texts_two (l := [a, b]) (by simp), show half ([a, b] : List ByteArray).length = 1 from rfl]
  show textsP [a] ++ textsP [b] ++ [joined (nodeL (rootP [a]) (rootP [b]))] = _
  rw [texts_one, texts_one, root_one, root_one]
  rfl
theorem texts_four (a b c d : ByteArray) : textsP [a, b, c, d] = textsP [a, b] ++ textsP [c, d] ++ [joined (nodeL (rootP [a, b]) (rootP [c, d]))] := by
  rw [texts_two (l := [a, b, c, d]) (by simp), show half ([a, b, c, d] : List ByteArray).length = 2 from rfl]
  rfl
theorem made_texts (s : ByteArray) {h n : Nat} (hh : h ≤ 2) {x : ByteArray} (hx : x ∈ textsP (keysP s h)) : x ∈ madeP s h n := by
  match h, hh, hx with
  | 0, _, hx =>
    rw [show keysP s 0 = [keyP s 0] from rfl, texts_one, List.mem_singleton] at hx
    rw [hx]
    exact made_leaf s (by omega)
  | 1, _, hx =>
    rw [show keysP s 1 = [keyP s 0, keyP s 1] from rfl, texts_pair] at hx
    simp only [List.mem_cons, List.not_mem_nil, or_false] at hx
    rcases hx with rfl | rfl | rfl
    · exact made_leaf s (by omega)
    · exact made_leaf s (by omega)
    · refine made_up s ?_
      rw [show ((List.range (2 ^ 1)).map fun i => leafP (keyP s i)) = [leafP (keyP s 0), leafP (keyP s 1)] from rfl]
      simp [upT, texts2]
  | 2, _, hx =>
    rw [show keysP s 2 = [keyP s 0, keyP s 1, keyP s 2, keyP s 3] from rfl, texts_four, texts_pair, texts_pair, roots_pair, roots_pair] at hx
    simp only [List.mem_append, List.mem_cons, List.not_mem_nil, or_false] at hx
    have hu : ∀ {x : ByteArray}, x ∈ upT 2 [leafP (keyP s 0), leafP (keyP s 1), leafP (keyP s 2), leafP (keyP s 3)] → x ∈ madeP s 2 n := fun hx => made_up s (by rw [show ((List.range (2 ^ 2)).map fun i => leafP (keyP s i)) = [leafP (keyP s 0), leafP (keyP s 1), leafP (keyP s 2), leafP (keyP s 3)] from rfl]; exact hx)
    rcases hx with ((rfl | rfl | rfl) | (rfl | rfl | rfl)) | rfl
    · exact made_leaf s (by omega)
    · exact made_leaf s (by omega)
    · exact hu (by simp [upT, texts2, up2])
    · exact made_leaf s (by omega)
    · exact made_leaf s (by omega)
    · exact hu (by simp [upT, texts2, up2])
    · exact hu (by simp [upT, texts2, up2])
/-! ### the sizes -/
theorem texts2_size : ∀ (n : Nat) (l : List ByteArray), l.length ≤ n → (∀ y ∈ l, y.size ≤ 16) → (texts2 l).length ≤ l.length ∧ ∀ x ∈ texts2 l, x.size ≤ 140737488355328 := by
  intro n
  induction n with
  | zero => intro l hl _; obtain rfl := List.length_eq_zero_iff.1 (Nat.le_zero.1 hl); simp [texts2]
  | succ n ih =>
    intro l hl hs
    match l, hl, hs with
    | a :: b :: r, hl, hs =>
      obtain ⟨h1, h2⟩ := ih r (by simp at hl; omega) (fun y hy => hs y (by simp [hy]))
      refine ⟨by simp [texts2]; omega, fun x hx => ?_⟩
      simp only [texts2, List.mem_cons] at hx
      rcases hx with rfl | hx
      · exact nodeL_cap a b (hs a (by simp)) (hs b (by simp))
      · exact h2 x hx
    | [y], _, _ => simp [texts2]
    | [], _, _ => simp [texts2]
theorem up2_le : ∀ (n : Nat) (l : List ByteArray), l.length ≤ n → (up2 l).length ≤ l.length := by
  intro n
  induction n with
  | zero => intro l hl; obtain rfl := List.length_eq_zero_iff.1 (Nat.le_zero.1 hl); simp [up2]
  | succ n ih =>
    intro l hl
    match l, hl with
    | a :: b :: r, hl => have := ih r (by simp at hl; omega); simp [up2]; omega
    | [y], _ => simp [up2]
    | [], _ => simp [up2]
theorem upT_size : ∀ (c : Nat) (l : List ByteArray), (∀ y ∈ l, y.size ≤ 16) → (upT c l).length ≤ c * l.length ∧ ∀ x ∈ upT c l, x.size ≤ 140737488355328 := by
  intro c
  induction c with
  | zero => intro l _; simp [upT]
  | succ c ih =>
    intro l hs
    obtain ⟨h1, h2⟩ := texts2_size _ l (Nat.le_refl _) hs
    obtain ⟨h3, h4⟩ := ih (up2 l) (up2_small _ l (Nat.le_refl _))
    have h5 := up2_le _ l (Nat.le_refl _)
    have h6 : c * (up2 l).length ≤ c * l.length := Nat.mul_le_mul_left _ h5
    refine ⟨by rw [upT, List.length_append, Nat.succ_mul]; omega, fun x hx => ?_⟩
    rw [upT, List.mem_append] at hx
    rcases hx with hx | hx
    · exact h2 x hx
    · exact h4 x hx
theorem made_small (s : ByteArray) (hs : s.size ≤ 1000) {h n : Nat} (hh : h ≤ 8) (hn : n ≤ 30) : (madeP s h n).length ≤ 400000 ∧ ∀ x ∈ madeP s h n, x.size ≤ 140737488355328 := by
  have hb := pow8 hh
  have hl16 : ∀ y ∈ ((List.range (2 ^ h)).map fun i => leafP (keyP s i)), y.size ≤ 16 := by
    intro x hx
    simp only [List.mem_map] at hx
    obtain ⟨i, _, rfl⟩ := hx
    show (sum _).size ≤ 16
    rw [sum_size]; omega
  obtain ⟨h1, h2⟩ := upT_size h _ hl16
  rw [List.length_map, List.length_range] at h1
  have h3 : ((List.range (2 ^ h)).map (keyTexts s n)).flatten.length ≤ 2 ^ h * 600 := by
    have : ∀ l : List Nat, ((l.map (keyTexts s n)).flatten).length ≤ l.length * 600 := by
      intro l
      induction l with
      | nil => simp
      | cons a l ih => have := keyTexts_len s n a hn; simp only [List.map_cons, List.flatten_cons, List.length_append, List.length_cons]; omega
    have := this (List.range (2 ^ h))
    rwa [List.length_range] at this
  have h4 : h * 2 ^ h ≤ 8 * 256 := Nat.mul_le_mul hh hb
  refine ⟨by unfold madeP; rw [List.length_append]; omega, fun x hx => ?_⟩
  unfold madeP at hx
  rw [List.mem_append] at hx
  rcases hx with hx | hx
  · obtain ⟨l, hl, hx⟩ := List.mem_flatten.1 hx
    obtain ⟨i, hi, rfl⟩ := List.mem_map.1 hl
    have hi := List.mem_range.1 hi
    unfold keyTexts at hx
    rw [List.mem_append] at hx
    rcases hx with hx | hx
    · obtain ⟨l, hl, hx⟩ := List.mem_flatten.1 hx
      obtain ⟨k, hk, rfl⟩ := List.mem_map.1 hl
      have hk := List.mem_range.1 hk
      unfold chainT at hx
      rcases List.mem_cons.1 hx with rfl | hx
      · exact (few_caps (few_start s i k hs (by omega) (by omega)) (by omega)).2.2
      · unfold chainedP at hx
        obtain ⟨j, _, rfl⟩ := List.mem_map.1 hx
        have := chn_size_le j (startP s i k) (by rw [startP_size]; omega)
        omega
    · simp only [List.mem_cons, List.not_mem_nil, or_false] at hx
      rcases hx with rfl | rfl
      · exact (few_caps (few_key s i) (by omega)).2.2
      · exact (few_caps (few_leaf (keyP s i) (by rw [keyP_size]; omega)) (by omega)).2.2
  · exact h2 x hx
/-! ### secrets -/
theorem start_inj {s o : ByteArray} {i j k m : Nat} (h : startL s i k = startL o j m) : s = o ∧ itB i = itB j ∧ itB k = itB m := by
  have := joined_iff.1 h
  simpa using this
theorem key_bind {s o : ByteArray} {h n i : Nat} (hn : 15 ≤ n) (hi : i < 2 ^ h) (e : keyP s i = keyP o i) : s = o ∨ Coll (madeP s h n ++ madeP o h n) := by
  have hL : ∀ {x : ByteArray}, x ∈ madeP s h n → x ∈ madeP s h n ++ madeP o h n := fun h => List.mem_append_left _ h
  have hR : ∀ {x : ByteArray}, x ∈ madeP o h n → x ∈ madeP s h n ++ madeP o h n := fun h => List.mem_append_right _ h
  rcases Coll.of (hL (made_ends s hi)) (hR (made_ends o hi)) e with e | e
  · have e := joined_iff.1 e
    have e0 : chn 15 (startP s i 0) = chn 15 (startP o i 0) := by
      have : (keyEnds s i).getD 0 ByteArray.empty = (keyEnds o i).getD 0 ByteArray.empty := by rw [e]
      exact this
    rcases chain_bind 15 _ _ e0 with e1 | e1
    · rcases Coll.of (hL (made_start s hi (k := 0) (by omega))) (hR (made_start o hi (k := 0) (by omega))) e1 with e2 | e2
      · exact .inl (start_inj e2).1
      · exact .inr e2
    · refine .inr (e1.mono fun x hx => ?_)
      have up : ∀ {t : ByteArray} {x : ByteArray}, x ∈ chainedP t 15 → x ∈ chainedP t n := by
        intro t x hx
        simp only [chainedP, List.mem_map, List.mem_range] at hx ⊢
        obtain ⟨j, hj, rfl⟩ := hx
        exact ⟨j, by omega, rfl⟩
      rcases List.mem_append.1 hx with hx | hx
      · exact hL (made_link s hi (k := 0) (by omega) (up hx))
      · exact hR (made_link o hi (k := 0) (by omega) (up hx))
  · exact .inr e
theorem secrets_coll {s o m : ByteArray} {h i n : Nat} (hn : 15 ≤ n) (hh : h ≤ 2) (hi : i < 2 ^ h) (hne : s ≠ o) (hv : verifyP (publicP o h) m (i : Int) (sigP s i m) (pathP (keysP s h) i) = true) : Coll (madeP s h n ++ madeP o h n) := by
  have hp : (pathP (keysP s h) i).length = h := path_pow (by rw [keysP_len]; exact hi) (keysP_len s h)
  unfold verifyP at hv
  rw [Bool.and_eq_true, ends_sig, hp] at hv
  obtain ⟨_, _, ts, hc⟩ := checkP_climb hv.2
  obtain ⟨us, hc'⟩ := path_climb _ (keysP s h) i (keysP_len s h) hi
  rw [keys_get s hi] at hc'
  obtain ⟨er, _⟩ := climb_det hc' hc rfl
  rcases roots_bind _ _ _ (keysP_len s h) (keysP_len o h) er with ek | ek
  · have e : keyP s i = keyP o i := by rw [← keys_get s hi, ← keys_get o hi, ek]
    rcases key_bind hn hi e with e | e
    · exact absurd e hne
    · exact e
  · refine ek.mono fun x hx => ?_
    rcases List.mem_append.1 hx with hx | hx
    · exact List.mem_append_left _ (made_texts s hh hx)
    · exact List.mem_append_right _ (made_texts o hh hx)
end Go.Proofs.YtdlipbfcadmhjaaDoor.Pl

namespace Go.Proofs.YtdlipbfcadmhjaaDoor
open Go.RowKit Go.Proofs.YtdlipbfcadmhjaaDoorW.PrintWords Go.Proofs.YtdlipbfcadmhjaaDoorW.PrintMore PG3

theorem ss_j1 (a0 a1 a4 pub : ByteArray) (h : Nat) (i : Int) (sig path : List ByteArray) (v : Bool) (M0 M1 : List ByteArray) (hv : seal_Verify.f pub a4 i sig path = some v)
    (m0 : Ev (fun k => customhouseref03_Made.f k a0 (h : Int) 15) M0) (m1 : Ev (fun k => customhouseref03_Made.f k a1 (h : Int) 15) M1) (hl : M0.length + M1.length ≤ 1000000) (hsh : v = true → Ev (fun k => customhouseref02_Shown.f k (M0 ++ M1)) true) :
    Ev (fun k => customhouselaw03_SealSecrets.j1 k a0 a1 a4 true (h : Int) pub false i sig path) true := by
  refine evS ?_
  simp only [customhouselaw03_SealSecrets.j1, Bool.false_eq_true, if_false, hv, Option.bind_some]
  cases v with
  | false => simp only [Bool.false_eq_true, if_false]; exact Ev.now _
  | true =>
    simp only [if_true]
    refine Ev.bind m0 ?_
    refine Ev.bind m1 ?_
    simp only [if_pos (show M0.length + M1.length < 8796093022208 by omega)]
    refine Ev.bind (hsh rfl) ?_
    exact Ev.now _
theorem ss_j0 (a0 a1 a4 pub : ByteArray) (h i : Nat) (sig path : List ByteArray) (v : Bool) (M0 M1 : List ByteArray) (hp : Ev (fun k => seal_Public.f k a1 (h : Int)) (pub, 0)) (hs : seal_Sign.f a0 (h : Int) (i : Int) a4 = some ((i : Int), sig, path, 0)) (hv : seal_Verify.f pub a4 (i : Int) sig path = some v)
    (m0 : Ev (fun k => customhouseref03_Made.f k a0 (h : Int) 15) M0) (m1 : Ev (fun k => customhouseref03_Made.f k a1 (h : Int) 15) M1) (hl : M0.length + M1.length ≤ 1000000) (hsh : v = true → Ev (fun k => customhouseref02_Shown.f k (M0 ++ M1)) true) :
    Ev (fun k => customhouselaw03_SealSecrets.j0 k a0 a1 a4 true (h : Int) (i : Int) false) true := by
  refine evS ?_
  simp only [customhouselaw03_SealSecrets.j0, Bool.false_eq_true, if_false]
  refine Ev.bind hp ?_
  simp only [hs, Option.bind_some, if_true, show ((0 : Int) != 0) = false from rfl]
  exact ss_j1 a0 a1 a4 pub h (i : Int) sig path v M0 M1 hv m0 m1 hl hsh
theorem Pl.SealSecrets (a0 a1 : ByteArray) (a2 a3 : Int) (a4 : ByteArray) (h0 : a0.size ≤ 9223372036854775807) (h1 : a1.size ≤ 9223372036854775807) (h2 : (Lit.int .u8 a2).wf = true) (h3 : (Lit.int .u8 a3).wf = true) (h4 : a4.size ≤ 9223372036854775807) :
    ∃ k, customhouselaw03_SealSecrets.f k a0 a1 a2 a3 a4 = some true := by
  refine Ev.rounds (g := fun k => customhouselaw03_SealSecrets.f k a0 a1 a2 a3 a4) ?_
  have hsh := short3E [a0, a1, a4] (by simp) (by simp [h0, h1, h4])
  obtain ⟨h, hh, e1⟩ := height_of h2 3 (by omega) (by omega)
  obtain ⟨i, hi, e2⟩ := index_of h3 (2 ^ h) Nat.one_le_two_pow
  have es : shl .i64 1 (h : Int) = ((2 ^ h : Nat) : Int) := shl_pow h (by omega)
  have hpos : ¬ (((2 ^ h : Nat) : Int) = 0) := by have : 1 ≤ 2 ^ h := Nat.one_le_two_pow; omega
  have e1' : Int.tmod (wrap64 a2) 3 = (h : Int) := e1
  unfold customhouselaw03_SealSecrets.f
  simp only [head3, Option.bind_some, e1', es, e2, if_pos (show (0 : Int) ≤ (h : Int) by omega), if_neg hpos]
  refine Ev.bind hsh ?_
  have out : Ev (fun k => customhouselaw03_SealSecrets.j0 k a0 a1 a4 true (h : Int) (i : Int) true) true := by
    refine evS ?_
    simp only [customhouselaw03_SealSecrets.j0, if_true]
    exact Ev.now _
  by_cases hs : ([a0, a1, a4].all fun x => decide (x.size ≤ 300)) = true
  · rw [hs]
    simp only [if_true]
    have hsz : a0.size ≤ 300 ∧ a1.size ≤ 300 ∧ a4.size ≤ 300 := by simpa [and_assoc] using hs
    by_cases he : a0 = a1
    · rw [show (a0.toList == a1.toList) = true by rw [he]; simp]
      exact out
    · rw [show (a0.toList == a1.toList) = false from by rw [Bool.eq_false_iff]; intro hh; exact he (Pl.toL_iff.1 (by simpa using hh))]
      have p0 := Pl.made_small a0 (by omega : a0.size ≤ 1000) (h := h) (n := 15) (by omega) (by omega)
      have p1 := Pl.made_small a1 (by omega : a1.size ≤ 1000) (h := h) (n := 15) (by omega) (by omega)
      refine ss_j0 a0 a1 a4 (Pl.publicP a1 h) h i (Pl.sigP a0 i a4) (Pl.pathP (Pl.keysP a0 h) i) _ (Pl.madeP a0 h 15) (Pl.madeP a1 h 15) (publicE a1 h (by omega) (by omega)) (signE a0 a4 h i (by omega) (by omega) (by omega) hi) (verifyE _ _ _ _ _ (by omega))
        (madeE a0 (by omega) h 15 (by omega) (by omega) (by omega)) (madeE a1 (by omega) h 15 (by omega) (by omega) (by omega)) (by omega) (fun hv => ?_)
      refine Q4.shownE _ (by rw [List.length_append]; omega) (fun x hx => ?_) (Pl.secrets_coll (by omega) (by omega) hi he hv)
      rcases List.mem_append.1 hx with hx | hx
      · exact p0.2 x hx
      · exact p1.2 x hx
  · rw [Bool.not_eq_true] at hs
    rw [hs]
    simp only [Bool.false_eq_true, if_false]
    exact out
end Go.Proofs.YtdlipbfcadmhjaaDoor
