/- Plain: the laws DigestBlock and DigestLists answer true. -/
import Derived.Test.YtdlipbfcadmhjaaDoorP3
namespace Go.Proofs.YtdlipbfcadmhjaaDoor
set_option linter.unusedVariables false
set_option linter.unusedSimpArgs false
open Go.RowKit Go.Proofs.YtdlipbfcadmhjaaDoorW.PrintWords Go.Proofs.YtdlipbfcadmhjaaDoorW.PrintMore PG1

namespace Pl
theorem getD_mid (X A R : List UInt8) (i : Nat) : (X ++ (A ++ R)).getD i 0 = if i < X.length then X.getD i 0 else if i < X.length + A.length then A.getD (i - X.length) 0 else R.getD (i - X.length - A.length) 0 := by
  simp only [List.getD_eq_getElem?_getD, List.getElem?_append]
  split
  · rfl
  · by_cases h : i < X.length + A.length
    · rw [if_pos h, if_pos (by omega)]
    · rw [if_neg h, if_neg (by omega)]
theorem block_core (X A B R : List UInt8) (p n : Nat) (hX : X.length = 8 * p) (hA : A.length = n) (hB : B.length = n) (hn : n ≤ 8) (hlt : 8 * p + n + R.length < 18446744073709551616) :
    sumL (X ++ (A ++ R)) = sumL (X ++ (B ++ R)) ↔ A = B := by
  have hl : (X ++ (A ++ R)).length = (X ++ (B ++ R)).length := by simp [hA, hB]
  have hL : (X ++ (A ++ R)).length = 8 * p + n + R.length := by simp [hX, hA]; omega
  have key : ∀ i, (i < 8 * p ∨ 8 * p + n ≤ i) → (X ++ (A ++ R)).getD i 0 = (X ++ (B ++ R)).getD i 0 := by
    intro i hi
    rw [getD_mid, getD_mid, hX, hA, hB]
    rcases hi with hi | hi
    · rw [if_pos hi, if_pos hi]
    · rw [if_neg (by omega), if_neg (by omega), if_neg (by omega), if_neg (by omega)]
  rw [one_block hl (by rw [hL]; exact hlt) p (by rw [hL]; omega) (fun j hj => blkN_congr fun t ht => key _ (by omega))]
  constructor
  · intro h
    refine getD_eq_of_len (by rw [hA, hB]) fun t ht => ?_
    rw [hA] at ht
    have := blkN_inj h t (by omega)
    rw [getD_mid, getD_mid, hX, hA, hB] at this
    simp only [if_neg (show ¬ 8 * p + t < 8 * p by omega), if_pos (show 8 * p + t < 8 * p + n by omega)] at this
    rwa [show 8 * p + t - 8 * p = t by omega] at this
  · intro h
    rw [h]
theorem two_core {L M : List UInt8} (hl : L.length = M.length) (h16 : L.length ≤ 16) (h8 : 8 ≤ L.length) (hpre : ∀ i, i < 8 → L.getD i 0 = M.getD i 0) : sumL L = sumL M ↔ L = M := by
  have hz : ∀ i, L.length ≤ i → L.getD i 0 = M.getD i 0 := by
    intro i hi
    rw [List.getD_eq_getElem?_getD, List.getD_eq_getElem?_getD, List.getElem?_eq_none hi, List.getElem?_eq_none (by omega)]
  rw [one_block hl (by omega) 1 (by omega) (fun j hj => blkN_congr fun t ht => by
    by_cases h0 : j = 0
    · exact hpre _ (by omega)
    · exact hz _ (by omega))]
  constructor
  · intro h
    refine getD_eq_of_len hl fun i hi => ?_
    by_cases hi8 : i < 8
    · exact hpre i hi8
    · have := blkN_inj h (i - 8) (by omega)
      rwa [show 8 * 1 + (i - 8) = i by omega] at this
  · intro h
    rw [h]
end Pl

theorem block_j0 (a0 A B : ByteArray) (p n : Nat) (hp : p ≤ 255) (hA : A.size = n) (hB : B.size = n) (hn : n ≤ 8) (hs : a0.size ≤ 2000) (hat : 8 * p ≤ a0.size) :
    Ev (fun k => customhouselaw01_DigestBlock.j0 k a0 A B true (n : Int) ((8 * p : Nat) : Int) false) true := by
  have e1 : wrap64 (((8 * p : Nat) : Int) + (n : Int)) = ((8 * p + n : Nat) : Int) := by rw [w64_id] <;> omega
  have e2 : mn ((8 * p + n : Nat) : Int) (a0.size : Int) = ((min (8 * p + n) a0.size : Nat) : Int) := mnN _ _
  have dX : (a0.extract 0 (8 * p)).data.toList = a0.data.toList.take (8 * p) := by rw [Pl.ext_data, List.drop_zero, Nat.sub_zero]
  have lX : (a0.extract 0 (8 * p)).data.toList.length = 8 * p := by rw [dX, List.length_take, Pl.dataLen]; omega
  have sX : (a0.extract 0 (8 * p)).size = 8 * p := by rw [← Pl.dataLen, lX]
  have sR : (a0.extract (min (8 * p + n) a0.size) a0.size).size ≤ 2000 := by
    rw [← Pl.dataLen, Pl.ext_data, List.length_take, List.length_drop, Pl.dataLen]; omega
  have sXA : ∀ C : ByteArray, C.size = n → ((a0.extract 0 (8 * p)) ++ C).size = 8 * p + n := by
    intro C hC
    rw [← Pl.dataLen, ByteArray.data_append, Array.toList_append, List.length_append, lX, Pl.dataLen, hC]
  have sAll : ∀ C : ByteArray, C.size = n → (((a0.extract 0 (8 * p)) ++ C) ++ (a0.extract (min (8 * p + n) a0.size) a0.size)).size ≤ 140737488355328 := by
    intro C hC
    rw [← Pl.dataLen, ByteArray.data_append, Array.toList_append, List.length_append, Pl.dataLen, Pl.dataLen, sXA C hC]; omega
  refine evS ?_
  simp only [customhouselaw01_DigestBlock.j0, Bool.false_eq_true, if_false, if_true, e1, e2, Int.toNat_natCast]
  simp only [if_pos (show (0 : Int) ≤ ((min (8 * p + n) a0.size : Nat) : Int) by omega), if_pos (show ((min (8 * p + n) a0.size : Nat) : Int) ≤ (a0.size : Int) by omega), if_pos (show (0 : Int) ≤ ((8 * p : Nat) : Int) by omega), if_pos (show ((8 * p : Nat) : Int) ≤ (a0.size : Int) by omega),
    if_pos (show (a0.extract 0 (8 * p)).size + A.size ≤ 9223372036854775807 by rw [sX, hA]; omega), if_pos (show (a0.extract 0 (8 * p)).size + B.size ≤ 9223372036854775807 by rw [sX, hB]; omega),
    if_pos (show ((a0.extract 0 (8 * p)) ++ A).size + (a0.extract (min (8 * p + n) a0.size) a0.size).size ≤ 9223372036854775807 by rw [sXA A hA]; omega),
    if_pos (show ((a0.extract 0 (8 * p)) ++ B).size + (a0.extract (min (8 * p + n) a0.size) a0.size).size ≤ 9223372036854775807 by rw [sXA B hB]; omega),
    sumE (sAll A hA), sumE (sAll B hB), Option.bind_some]
  refine evE (Ev.now _) ?_
  rw [beq_iff_eq, Bool.eq_iff_iff, beq_iff_eq, beq_iff_eq, Pl.toL_iff, Pl.toL_iff, Pl.sum_iff]
  simp only [ByteArray.data_append, Array.toList_append, List.append_assoc]
  rw [Pl.block_core _ A.data.toList B.data.toList _ p n lX (by rw [Pl.dataLen, hA]) (by rw [Pl.dataLen, hB]) hn (by rw [Pl.dataLen]; omega)]
  exact ⟨Pl.data_inj, fun h => by rw [h]⟩

theorem block_f (a0 : ByteArray) (a1 : Int) (a2 a3 : ByteArray) (h0 : a0.size ≤ 9223372036854775807) (hr : 0 ≤ a1 ∧ a1 ≤ 255) : Ev (fun k => customhouselaw01_DigestBlock.f k a0 a1 a2 a3) true := by
  unfold customhouselaw01_DigestBlock.f
  refine Ev.bind headE ?_
  have e0 : mn (mn (a2.size : Int) (a3.size : Int)) 8 = ((min (min a2.size a3.size) 8 : Nat) : Int) := by rw [mnN]; exact mnN _ 8
  have z2 : (a2.extract 0 (min (min a2.size a3.size) 8)).size = min (min a2.size a3.size) 8 := by rw [ext_size]; omega
  have z3 : (a3.extract 0 (min (min a2.size a3.size) 8)).size = min (min a2.size a3.size) 8 := by rw [ext_size]; omega
  have ea : wrap64 (8 * wrap64 a1) = ((8 * a1.toNat : Nat) : Int) := by rw [w64_id (x := a1) (by omega) (by omega), w64_id (by omega) (by omega)]; omega
  simp only [e0, ea, if_pos (show (0 : Int) ≤ ((min (min a2.size a3.size) 8 : Nat) : Int) by omega), if_pos (show ((min (min a2.size a3.size) 8 : Nat) : Int) ≤ (a2.size : Int) by omega), if_pos (show ((min (min a2.size a3.size) 8 : Nat) : Int) ≤ (a3.size : Int) by omega), Int.toNat_natCast]
  by_cases hs : (a0.size : Int) > 2000
  · simp only [if_pos hs]
    refine evS ?_
    simp only [customhouselaw01_DigestBlock.j0, if_true]
    exact Ev.now _
  · simp only [if_neg hs]
    by_cases hat : ((8 * a1.toNat : Nat) : Int) > (a0.size : Int)
    · simp only [decide_eq_true hat]
      refine evS ?_
      simp only [customhouselaw01_DigestBlock.j0, if_true]
      exact Ev.now _
    · simp only [decide_eq_false hat]
      exact block_j0 a0 _ _ a1.toNat _ (by omega) z2 z3 (by omega) (by omega) (by omega)
theorem Pl.DigestBlock (a0 : ByteArray) (a1 : Int) (a2 a3 : ByteArray) (h0 : a0.size ≤ 9223372036854775807) (h1 : (Lit.int .u8 a1).wf = true) (h2 : a2.size ≤ 9223372036854775807) (h3 : a3.size ≤ 9223372036854775807) :
    ∃ k, customhouselaw01_DigestBlock.f k a0 a1 a2 a3 = some true := Ev.rounds (g := fun k => customhouselaw01_DigestBlock.f k a0 a1 a2 a3) (block_f a0 a1 a2 a3 h0 (u8_range h1))

/-! ### DigestLists -/
theorem joined_one (s : ByteArray) (h : s.size < 10) : (Pl.joined [s]).data.toList = UInt8.ofNat (48 + s.size) :: 58 :: s.data.toList := by
  have e : Go.Lib.decDigits s.size = [UInt8.ofNat (48 + s.size)] := by rw [Go.Lib.decDigits, dif_pos h]
  rw [Pl.joined_data]
  simp only [Pl.joinedL, Pl.itoa_nat, e, List.append_nil, List.cons_append, List.nil_append]
theorem lists_j2 (x2 x3 : ByteArray) : Ev (fun k => customhouselaw01_DigestLists.j2 k x2 x3 true false) true := by
  generalize hn : min (min x2.size x3.size) 9 = n
  generalize hm : min n 6 = m
  have e0 : mn (mn (x2.size : Int) (x3.size : Int)) 9 = (n : Int) := by rw [mnN, ← hn]; exact mnN _ 9
  have e1 : mn (n : Int) 6 = (m : Int) := by rw [← hm]; exact mnN _ 6
  have sO : (x2.extract 0 n).size = n := by rw [ext_size]; omega
  have dO : (x2.extract 0 n).data.toList = x2.data.toList.take n := by rw [Pl.ext_data, List.drop_zero, Nat.sub_zero]
  have lO : ((x2.extract 0 n).data.toList).length = n := by rw [Pl.dataLen, sO]
  have dP : ((x2.extract 0 n).extract 0 m).data.toList = (x2.extract 0 n).data.toList.take m := by rw [Pl.ext_data, List.drop_zero, Nat.sub_zero]
  have dQ : (x3.extract m n).data.toList = (x3.data.toList.drop m).take (n - m) := Pl.ext_data _ _ _
  have lQ : (x3.extract m n).data.toList.length = n - m := by rw [dQ, List.length_take, List.length_drop, Pl.dataLen]; omega
  have sQ : (x3.extract m n).size = n - m := by rw [← Pl.dataLen, lQ]
  have sP : ((x2.extract 0 n).extract 0 m).size = m := by rw [ext_size, sO]; omega
  have dT : (((x2.extract 0 n).extract 0 m) ++ (x3.extract m n)).data.toList = (x2.extract 0 n).data.toList.take m ++ (x3.extract m n).data.toList := by rw [ByteArray.data_append, Array.toList_append, dP]
  have sT : (((x2.extract 0 n).extract 0 m) ++ (x3.extract m n)).size = n := by
    rw [← Pl.dataLen, dT, List.length_append, List.length_take, lQ, lO]; omega
  generalize hO : x2.extract 0 n = O at *
  generalize hT : (O.extract 0 m) ++ (x3.extract m n) = T at *
  have jO := joined_one O (by omega)
  have jT := joined_one T (by omega)
  have zO : (Pl.joined [O]).size ≤ 140737488355328 := by rw [← Pl.dataLen, jO]; simp only [List.length_cons, lO]; omega
  have zT : (Pl.joined [T]).size ≤ 140737488355328 := by rw [← Pl.dataLen, jT]; simp only [List.length_cons, Pl.dataLen, sT]; omega
  have core : Pl.sum (Pl.joined [O]) = Pl.sum (Pl.joined [T]) ↔ O = T := by
    rw [Pl.sum_iff]
    constructor
    · intro h
      have hall : (Pl.joined [O]).data.toList = (Pl.joined [T]).data.toList := by
        by_cases h7 : n ≤ 6
        · have : m = n := by omega
          have hq : (x3.extract m n).data.toList = [] := List.eq_nil_of_length_eq_zero (by rw [lQ]; omega)
          rw [hq, List.append_nil, List.take_of_length_le (by rw [lO]; omega)] at dT
          rw [jO, jT, dT, sO, sT]
        · have hm6 : m = 6 := by omega
          refine (Pl.two_core (by rw [jO, jT]; simp only [List.length_cons, Pl.dataLen, sO, sT]) (by rw [jO]; simp only [List.length_cons, lO]; omega) (by rw [jO]; simp only [List.length_cons, lO]; omega) (fun i hi => ?_)).1 h
          rw [jO, jT, dT, sO, sT]
          match i, hi with
          | 0, _ => rfl
          | 1, _ => rfl
          | i + 2, hi =>
            simp only [List.getD_cons_succ]
            rw [List.getD_eq_getElem?_getD, List.getD_eq_getElem?_getD, List.getElem?_append_left (by rw [List.length_take, lO]; omega), List.getElem?_take_of_lt (by omega)]
      rw [jO, jT, sO, sT] at hall
      exact Pl.data_inj (List.tail_eq_of_cons_eq (List.tail_eq_of_cons_eq hall))
    · intro h
      rw [h]
  refine evS ?_
  simp only [customhouselaw01_DigestLists.j2, Bool.false_eq_true, if_false, if_true, e0, e1, Int.toNat_natCast, hO, hT, sO, sP, sQ]
  simp only [if_pos (show (0 : Int) ≤ (n : Int) by omega), if_pos (show (n : Int) ≤ (x2.size : Int) by omega), if_pos (show (0 : Int) ≤ (m : Int) by omega), if_pos (show (m : Int) ≤ (n : Int) by omega), if_pos (show (n : Int) ≤ (x3.size : Int) by omega),
    if_pos (show m + (n - m) ≤ 9223372036854775807 by omega), listE zO, listE zT, Option.bind_some]
  refine evE (Ev.now _) ?_
  rw [beq_iff_eq, Bool.eq_iff_iff, beq_iff_eq, beq_iff_eq, Pl.toL_iff, Pl.toL_iff, core]
theorem lists_steps (l m : List ByteArray) (a b t1 t2 d1 d2 : ByteArray) (s : Bool) (s1 : Ev (fun k => customhouseref01_Same.f k l m) s) (j1 : customhouseref01_Joined.f l = some t1) (j2 : customhouseref01_Joined.f m = some t2)
    (g1 : digest_List.f l = some d1) (g2 : digest_List.f m = some d2) (g3 : digest_Sum.f t1 = some d1) (b1 : ((t1.toList == t2.toList) != s) = false) (b2 : (t1.size : Int) ≤ 7 → (t2.size : Int) ≤ 7 → ((d1.toList == d2.toList) != s) = false)
    (J : Ev (fun k => customhouselaw01_DigestLists.j2 k a b true false) true) : Ev (fun k => customhouselaw01_DigestLists.j0 k l m a b true false) true := by
  refine evS ?_
  simp only [customhouselaw01_DigestLists.j0, Bool.false_eq_true, if_false, j1, j2, g1, g3, Option.bind_some, if_true]
  refine Ev.bind s1 ?_
  simp only [b1]
  refine evS ?_
  simp only [customhouselaw01_DigestLists.j1, Bool.false_eq_true, if_false, g1, g2, Option.bind_some]
  by_cases h1 : (t1.size : Int) ≤ 7
  · simp only [if_pos h1]
    by_cases h2 : (t2.size : Int) ≤ 7
    · simp only [if_pos h2]
      refine Ev.bind s1 ?_
      simp only [b2 h1 h2]
      exact J
    · simp only [if_neg h2]
      exact J
  · simp only [if_neg h1]
    exact J
theorem lists_b1 (l m : List ByteArray) : (((Pl.joined l).toList == (Pl.joined m).toList) != decide (l = m)) = false := by
  rw [bne_eq_false_iff_eq, Bool.eq_iff_iff, beq_iff_eq, decide_eq_true_eq, Pl.toL_iff, Pl.joined_iff]
theorem lists_b2 (l m : List ByteArray) (h1 : (Pl.joined l).size ≤ 7) (h2 : (Pl.joined m).size ≤ 7) : (((Pl.sum (Pl.joined l)).toList == (Pl.sum (Pl.joined m)).toList) != decide (l = m)) = false := by
  rw [bne_eq_false_iff_eq, Bool.eq_iff_iff, beq_iff_eq, decide_eq_true_eq, Pl.toL_iff, Pl.sum_short h1 h2, Pl.joined_iff]
theorem lists_j0 (l m : List ByteArray) (a b : ByteArray) (hl : l.length ≤ 9223372036854775807) (f1 : Pl.few l 200 = true) (f2 : Pl.few m 200 = true) : Ev (fun k => customhouselaw01_DigestLists.j0 k l m a b true false) true :=
  lists_steps l m a b _ _ _ _ _ (sameE l m hl) (joinedE f1 (by omega)) (joinedE f2 (by omega)) (listE (Pl.few_caps f1 (by omega)).2.2) (listE (Pl.few_caps f2 (by omega)).2.2) (sumE (Pl.few_caps f1 (by omega)).2.2)
    (lists_b1 l m) (fun h1 h2 => lists_b2 l m (by omega) (by omega)) (lists_j2 a b)
theorem lists_f (l m : List ByteArray) (a b : ByteArray) (hl : l.length ≤ 9223372036854775807) (hm : m.length ≤ 9223372036854775807) : Ev (fun k => customhouselaw01_DigestLists.f k l m a b) true := by
  unfold customhouselaw01_DigestLists.f
  refine Ev.bind headE ?_
  refine Ev.bind (fewE l 200 hl) ?_
  cases f1 : Pl.few l 200 with
  | false =>
    simp only [Bool.false_eq_true, if_false]
    refine evS ?_
    simp only [customhouselaw01_DigestLists.j0, if_true]
    exact Ev.now _
  | true =>
    simp only [if_true]
    refine Ev.bind (fewE m 200 hm) ?_
    cases f2 : Pl.few m 200 with
    | false =>
      simp only [Bool.not_false]
      refine evS ?_
      simp only [customhouselaw01_DigestLists.j0, if_true]
      exact Ev.now _
    | true =>
      simp only [Bool.not_true]
      exact lists_j0 l m a b hl f1 f2
theorem Pl.DigestLists (l m : List ByteArray) (a b : ByteArray) (h0 : l.length ≤ 9223372036854775807) (h0' : ∀ x ∈ l, x.size ≤ 9223372036854775807) (h1 : m.length ≤ 9223372036854775807) (h1' : ∀ x ∈ m, x.size ≤ 9223372036854775807) (h2 : a.size ≤ 9223372036854775807) (h3 : b.size ≤ 9223372036854775807) :
    ∃ k, customhouselaw01_DigestLists.f k l m a b = some true := Ev.rounds (g := fun k => customhouselaw01_DigestLists.f k l m a b) (lists_f l m a b h0 h1)
end Go.Proofs.YtdlipbfcadmhjaaDoor
