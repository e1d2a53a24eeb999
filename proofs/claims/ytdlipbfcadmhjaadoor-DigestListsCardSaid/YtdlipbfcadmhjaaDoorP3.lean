/- Plain: the digest's laws answer true. -/
import Derived.Test.YtdlipbfcadmhjaaDoorP2
import Derived.Test.YtdlipbfcadmhjaaDoorPG1x2
import Derived.Test.YtdlipbfcadmhjaaDoorPG1x3
import Derived.Test.YtdlipbfcadmhjaaDoorPG1x4
import Derived.Test.YtdlipbfcadmhjaaDoorPG1x5
namespace Go.Proofs.YtdlipbfcadmhjaaDoor
set_option linter.unusedVariables false
set_option linter.unusedSimpArgs false
open Go.RowKit Go.Proofs.YtdlipbfcadmhjaaDoorW.PrintWords Go.Proofs.YtdlipbfcadmhjaaDoorW.PrintMore PG1

/-! ### ref01.Is -/
theorem digit_tab : ∀ b : Fin 256, ((customhouseref01_Digit.f 2 (b.val : Int)).elim false fun v => decide (v < 0) == !Pl.hexSet.contains (UInt8.ofNat b.val)) = true := by decide +kernel
theorem digitE (b : UInt8) : ∃ v, Ev (fun k => customhouseref01_Digit.f k (b.toNat : Int)) v ∧ (v < 0 ↔ Pl.hexSet.contains b = false) := by
  have h := digit_tab ⟨b.toNat, b.toNat_lt⟩
  simp only [UInt8.ofNat_toNat] at h
  cases hv : customhouseref01_Digit.f 2 (b.toNat : Int) with
  | none => simp [hv] at h
  | some v =>
    refine ⟨v, Ev.of (k := 2) (fun k => customhouseref01_Digit.mono _ k) hv, ?_⟩
    rw [hv] at h
    simp only [Option.elim, beq_iff_eq] at h
    cases hc : Pl.hexSet.contains b with
    | true => rw [hc] at h; simp at h ⊢; omega
    | false => rw [hc] at h; simp at h ⊢; omega
theorem ref_is_l0 (a : ByteArray) (ha : a.size ≤ 9223372036854775807) : ∀ (m i : Nat), i + m = 16 → i ≤ a.size → Ev (fun k => customhouseref01_Is.l0 k a (i : Int)) (decide (a.size = 16) && (a.data.toList.drop i).all (Pl.hexSet.contains ·)) := by
  have fin : ∀ i : Nat, i ≤ 16 → i ≤ a.size → (i = 16 ∨ i = a.size) → (((a.size : Int) == 16) = (decide (a.size = 16) && (a.data.toList.drop i).all (Pl.hexSet.contains ·))) := by
    intro i h1 h2 h3
    by_cases h : a.size = 16
    · have : i = 16 := by omega
      rw [List.drop_eq_nil_of_le (by rw [Pl.dataLen]; omega), h]; rfl
    · rw [decide_eq_false h, Bool.false_and]
      exact beq_eq_false_iff_ne.2 (by omega)
  intro m
  induction m with
  | zero =>
    intro i hi hs
    refine evS ?_
    have hd : decide ((i : Int) < 16) = false := decide_eq_false (by omega)
    by_cases hc : (i : Int) < (a.size : Int)
    · simp only [customhouseref01_Is.l0, if_pos hc, hd]
      refine evS ?_
      simp only [customhouseref01_Is.j1, Bool.false_eq_true, if_false]
      exact evE (Ev.now _) (fin i (by omega) hs (by omega))
    · simp only [customhouseref01_Is.l0, if_neg hc]
      refine evS ?_
      simp only [customhouseref01_Is.j1, Bool.false_eq_true, if_false]
      exact evE (Ev.now _) (fin i (by omega) hs (by omega))
  | succ m ih =>
    intro i hi hs
    refine evS ?_
    have hd : decide ((i : Int) < 16) = true := decide_eq_true (by omega)
    have e1 : wrap64 ((i : Int) + 1) = ((i + 1 : Nat) : Int) := by rw [w64_id] <;> omega
    by_cases hc : i < a.size
    · simp only [customhouseref01_Is.l0, if_pos (show (i : Int) < (a.size : Int) by omega), hd]
      refine evS ?_
      simp only [customhouseref01_Is.j1, if_true, if_pos (show (0 : Int) ≤ (i : Int) by omega), if_pos (show (i : Int) < (a.size : Int) by omega), getD_at a i hc, e1]
      obtain ⟨v, hv, hn⟩ := digitE (a.data.toList.getD i 0)
      refine Ev.bind hv ?_
      have hl : i < a.data.toList.length := by rw [Pl.dataLen]; exact hc
      have hdr : a.data.toList.drop i = a.data.toList.getD i 0 :: a.data.toList.drop (i + 1) := by
        rw [List.drop_eq_getElem_cons hl, List.getD_eq_getElem?_getD, List.getElem?_eq_getElem hl]; rfl
      by_cases hneg : v < 0
      · simp only [if_pos hneg]
        refine evE (Ev.now _) ?_
        rw [hdr, List.all_cons, hn.1 hneg, Bool.false_and, Bool.and_false]
      · simp only [if_neg hneg]
        have hcon : Pl.hexSet.contains (a.data.toList.getD i 0) = true := by
          cases h : Pl.hexSet.contains (a.data.toList.getD i 0) with
          | true => rfl
          | false => exact absurd (hn.2 h) hneg
        refine evE (ih (i + 1) (by omega) (by omega)) ?_
        rw [hdr, List.all_cons, hcon, Bool.true_and]
    · simp only [customhouseref01_Is.l0, if_neg (show ¬ (i : Int) < (a.size : Int) by omega)]
      refine evS ?_
      simp only [customhouseref01_Is.j1, Bool.false_eq_true, if_false]
      exact evE (Ev.now _) (fin i (by omega) hs (by omega))
theorem refIsE (a : ByteArray) (ha : a.size ≤ 9223372036854775807) : Ev (fun k => customhouseref01_Is.f k a) (Pl.isDig a) := by
  unfold customhouseref01_Is.f
  exact ref_is_l0 a ha 16 0 rfl (by omega)

/-! ### ref01.Same -/
theorem same_l0 (l m : List ByteArray) (hl : l.length = m.length) (hb : l.length ≤ 9223372036854775807) : ∀ (n i : Nat), i + n = l.length → l.take i = m.take i → Ev (fun k => customhouseref01_Same.l0 k l m (i : Int)) (decide (l = m)) := by
  intro n
  induction n with
  | zero =>
    intro i hi ht
    refine evS ?_
    simp only [customhouseref01_Same.l0, if_neg (show ¬ (i : Int) < (l.length : Int) by omega)]
    refine evE (Ev.now _) ?_
    rw [List.take_of_length_le (by omega), List.take_of_length_le (by omega)] at ht
    rw [decide_eq_true ht]
  | succ n ih =>
    intro i hi ht
    refine evS ?_
    have e1 : wrap64 ((i : Int) + 1) = ((i + 1 : Nat) : Int) := by rw [w64_id] <;> omega
    have g1 : rdOf ByteArray.empty l (i : Int) = l[i]'(by omega) := by simp [rdOf, List.getD_eq_getElem?_getD, List.getElem?_eq_getElem (by omega : i < l.length)]
    have g2 : rdOf ByteArray.empty m (i : Int) = m[i]'(by omega) := by simp [rdOf, List.getD_eq_getElem?_getD, List.getElem?_eq_getElem (by omega : i < m.length)]
    simp only [customhouseref01_Same.l0, if_pos (show (i : Int) < (l.length : Int) by omega), if_pos (show (0 : Int) ≤ (i : Int) by omega), if_pos (show (i : Int) < (m.length : Int) by omega), e1]
    by_cases hc : (rdOf ByteArray.empty l (i : Int)).toList = (rdOf ByteArray.empty m (i : Int)).toList
    · simp only [if_pos hc]
      refine ih (i + 1) (by omega) ?_
      rw [Pl.toL_iff, g1, g2] at hc
      rw [List.take_succ_eq_append_getElem (by omega), List.take_succ_eq_append_getElem (by omega), ht, hc]
    · simp only [if_neg hc]
      refine evE (Ev.now _) ?_
      rw [decide_eq_false]
      intro h
      exact hc (by rw [h])
theorem sameE (l m : List ByteArray) (hb : l.length ≤ 9223372036854775807) : Ev (fun k => customhouseref01_Same.f k l m) (decide (l = m)) := by
  unfold customhouseref01_Same.f
  by_cases hc : l.length = m.length
  · simp only [if_pos (show (l.length : Int) = (m.length : Int) by omega)]
    exact same_l0 l m hc hb l.length 0 (by omega) (by simp)
  · simp only [if_neg (show ¬ (l.length : Int) = (m.length : Int) by omega)]
    refine evE (Ev.now _) ?_
    rw [decide_eq_false]
    intro h
    exact hc (by rw [h])

theorem isE (a : ByteArray) : digest_Is.f a = some (Pl.isDig a) := by rw [digest_Is.f]
theorem u8_range {a : Int} (h : (Lit.int .u8 a).wf = true) : 0 ≤ a ∧ a ≤ 255 := by
  simp only [Lit.wf, IntKind.min, IntKind.max, IntKind.signed, IntKind.bits, Bool.and_eq_true, decide_eq_true_eq] at h
  simpa using h
theorem i64_range {a : Int} (h : (Lit.int .i64 a).wf = true) : -9223372036854775808 ≤ a ∧ a ≤ 9223372036854775807 := by
  simp only [Lit.wf, IntKind.min, IntKind.max, IntKind.signed, IntKind.bits, Bool.and_eq_true, decide_eq_true_eq] at h
  simpa using h

/-! ### the laws -/
theorem Pl.DigestMatchesReference (a0 : ByteArray) (l1 : List ByteArray) (a2 : Int) (h0 : a0.size ≤ 9223372036854775807) (h1 : l1.length ≤ 9223372036854775807) (h1' : ∀ x ∈ l1, x.size ≤ 9223372036854775807) (h2 : (Lit.int .i64 a2).wf = true) :
    ∃ k, customhouselaw01_DigestMatchesReference.f k a0 l1 a2 = some true := by
  refine Ev.rounds (g := fun k => customhouselaw01_DigestMatchesReference.f k a0 l1 a2) ?_
  unfold customhouselaw01_DigestMatchesReference.f
  refine Ev.bind headE ?_
  by_cases hs : (a0.size : Int) > 2000
  · simp only [if_pos hs]
    refine evS ?_
    simp only [customhouselaw01_DigestMatchesReference.j0, if_true]
    exact Ev.now _
  · simp only [if_neg hs]
    refine Ev.bind (fewE l1 200 h1) ?_
    refine evS ?_
    cases hf : Pl.few l1 200 with
    | false =>
      simp only [customhouselaw01_DigestMatchesReference.j0, Bool.not_false, if_true]
      exact Ev.now _
    | true =>
      have hsz : a0.size ≤ 140737488355328 := by omega
      simp only [customhouselaw01_DigestMatchesReference.j0, Bool.not_true, Bool.false_eq_true, if_false, if_true, sumE hsz, listE (Pl.few_caps hf (by omega)).2.2, isE, Option.bind_some]
      refine Ev.bind (refSumE a0 (by omega)) ?_
      simp only [if_true]
      refine Ev.bind (refListE hf (by omega)) ?_
      simp only [if_true]
      refine Ev.bind (chainE a0 _ hsz) ?_
      refine Ev.bind (refChainE a0 _ hsz) ?_
      simp only [if_true]
      refine Ev.bind (refIsE a0 h0) ?_
      exact evE (Ev.now _) (beq_self_eq_true _)

theorem Pl.DigestLong (a0 : ByteArray) (a1 : Int) (h0 : a0.size ≤ 9223372036854775807) (h1 : (Lit.int .i64 a1).wf = true) : ∃ k, customhouselaw01_DigestLong.f k a0 a1 = some true := by
  refine Ev.rounds (g := fun k => customhouselaw01_DigestLong.f k a0 a1) ?_
  unfold customhouselaw01_DigestLong.f
  refine Ev.bind headE ?_
  by_cases hs : (a0.size : Int) > 200
  · simp only [if_pos hs]
    refine evS ?_
    simp only [customhouselaw01_DigestLong.j0, if_true]
    exact Ev.now _
  · simp only [if_neg hs]
    refine evS ?_
    by_cases hc : a1 ≤ 1000
    · simp only [customhouselaw01_DigestLong.j0, decide_eq_true hc, if_true]
      exact Ev.now _
    · have hsz : a0.size ≤ 140737488355328 := by omega
      simp only [customhouselaw01_DigestLong.j0, decide_eq_false hc, Bool.false_eq_true, if_false, if_true]
      refine Ev.bind (chainE a0 a1 hsz) ?_
      refine Ev.bind (refChainE a0 1000 hsz) ?_
      refine evE (Ev.now _) ?_
      rw [show (min a1 1000).toNat = (min (1000 : Int) 1000).toNat by omega]
      exact beq_self_eq_true _

theorem form_end (a0 : ByteArray) {a2 : Int} (hr : 0 ≤ a2 ∧ a2 ≤ 255) : Pl.isDig (Pl.chn (min (wrap64 (1 + Int.tmod (wrap64 a2) 30)) 1000).toNat a0) = true := by
  have e : ∃ n, (min (wrap64 (1 + Int.tmod (wrap64 a2) 30)) 1000).toNat = n + 1 := by
    rw [w64_id (x := a2) (by omega) (by omega), Int.tmod_eq_emod_of_nonneg (by omega), w64_id (by omega) (by omega)]
    exact ⟨(a2 % 30).toNat, by omega⟩
  obtain ⟨n, hn⟩ := e
  obtain ⟨b, hb⟩ := Pl.chn_is_sum n a0
  rw [hn, hb]
  exact Pl.isDig_sum b
theorem form_j0 (x0 : ByteArray) (x1 : List ByteArray) (x2 : Int) (s t c : ByteArray) (b : Bool) (h1 : digest_Sum.f x0 = some s) (h2 : digest_Is.f s = some true) (h3 : digest_List.f x1 = some t) (h4 : digest_Is.f t = some true)
    (h5 : Ev (fun k => digest_Chain.f k x0 (wrap64 (1 + (Int.tmod (wrap64 (x2)) 30)))) c) (h6 : digest_Is.f c = some b) : Ev (fun k => customhouselaw01_DigestForm.j0 k x0 x1 x2 true false) b := by
  refine evS ?_
  simp only [customhouselaw01_DigestForm.j0, Bool.false_eq_true, if_false, if_true, h1, h2, h3, h4, Option.bind_some]
  refine Ev.bind h5 ?_
  simp only [h6, Option.bind_some]
  exact Ev.now _
theorem Pl.DigestForm (a0 : ByteArray) (l1 : List ByteArray) (a2 : Int) (h0 : a0.size ≤ 9223372036854775807) (h1 : l1.length ≤ 9223372036854775807) (h1' : ∀ x ∈ l1, x.size ≤ 9223372036854775807) (h2 : (Lit.int .u8 a2).wf = true) :
    ∃ k, customhouselaw01_DigestForm.f k a0 l1 a2 = some true := by
  refine Ev.rounds (g := fun k => customhouselaw01_DigestForm.f k a0 l1 a2) ?_
  unfold customhouselaw01_DigestForm.f
  refine Ev.bind headE ?_
  by_cases hs : (a0.size : Int) > 2000
  · simp only [if_pos hs]
    refine evS ?_
    simp only [customhouselaw01_DigestForm.j0, if_true]
    exact Ev.now _
  · simp only [if_neg hs]
    refine Ev.bind (fewE l1 200 h1) ?_
    cases hf : Pl.few l1 200 with
    | false =>
      refine evS ?_
      simp only [customhouselaw01_DigestForm.j0, Bool.not_false, if_true]
      exact Ev.now _
    | true =>
      have hsz : a0.size ≤ 140737488355328 := by omega
      rw [Bool.not_true]
      exact form_j0 a0 l1 a2 _ _ _ _ (sumE hsz) (by rw [isE, Pl.isDig_sum]) (listE (Pl.few_caps hf (by omega)).2.2) (by rw [isE, Pl.isDig_sum]) (chainE a0 _ hsz) (by rw [isE, form_end a0 (u8_range h2)])

theorem mnN (a b : Nat) : mn (a : Int) (b : Int) = ((min a b : Nat) : Int) := by unfold mn; split <;> omega
theorem ext_size (s : ByteArray) (n : Nat) : (s.extract 0 n).size = min n s.size := by
  rw [← Pl.dataLen, Pl.ext_data, List.drop_zero, List.length_take, Pl.dataLen]; omega
theorem Pl.DigestShort (a0 a1 : ByteArray) (h0 : a0.size ≤ 9223372036854775807) (h1 : a1.size ≤ 9223372036854775807) : ∃ k, customhouselaw01_DigestShort.f k a0 a1 = some true := by
  refine Ev.rounds (g := fun k => customhouselaw01_DigestShort.f k a0 a1) ?_
  unfold customhouselaw01_DigestShort.f
  refine Ev.bind headE ?_
  have e0 : mn (a0.size : Int) 7 = ((min a0.size 7 : Nat) : Int) := mnN a0.size 7
  have e1 : mn (a1.size : Int) 7 = ((min a1.size 7 : Nat) : Int) := mnN a1.size 7
  have z0 : (a0.extract 0 (min a0.size 7)).size ≤ 7 := by rw [ext_size]; omega
  have z1 : (a1.extract 0 (min a1.size 7)).size ≤ 7 := by rw [ext_size]; omega
  simp only [e0, e1, if_pos (show (0 : Int) ≤ ((min a0.size 7 : Nat) : Int) by omega), if_pos (show ((min a0.size 7 : Nat) : Int) ≤ (a0.size : Int) by omega), if_pos (show (0 : Int) ≤ ((min a1.size 7 : Nat) : Int) by omega), if_pos (show ((min a1.size 7 : Nat) : Int) ≤ (a1.size : Int) by omega),
    Int.toNat_natCast, if_true, sumE (Nat.le_trans z0 (by omega)), sumE (Nat.le_trans z1 (by omega)), Option.bind_some]
  refine evE (Ev.now _) ?_
  rw [beq_iff_eq, Bool.eq_iff_iff, beq_iff_eq, beq_iff_eq, Pl.toL_iff, Pl.toL_iff, Pl.sum_short z0 z1]

theorem Pl.DigestChains (a0 : ByteArray) (a1 a2 : Int) (h0 : a0.size ≤ 9223372036854775807) (h1 : (Lit.int .u8 a1).wf = true) (h2 : (Lit.int .u8 a2).wf = true) : ∃ k, customhouselaw01_DigestChains.f k a0 a1 a2 = some true := by
  refine Ev.rounds (g := fun k => customhouselaw01_DigestChains.f k a0 a1 a2) ?_
  unfold customhouselaw01_DigestChains.f
  refine Ev.bind headE ?_
  by_cases hs : (a0.size : Int) > 2000
  · simp only [if_pos hs]
    exact Ev.now _
  · have r1 := u8_range h1
    have r2 := u8_range h2
    have e1 : Int.tmod (wrap64 a1) 51 = ((a1.toNat % 51 : Nat) : Int) := by rw [w64_id (x := a1) (by omega) (by omega), Int.tmod_eq_emod_of_nonneg (by omega)]; omega
    have e2 : Int.tmod (wrap64 a2) 51 = ((a2.toNat % 51 : Nat) : Int) := by rw [w64_id (x := a2) (by omega) (by omega), Int.tmod_eq_emod_of_nonneg (by omega)]; omega
    have e3 : wrap64 (((a1.toNat % 51 : Nat) : Int) + ((a2.toNat % 51 : Nat) : Int)) = ((a1.toNat % 51 + a2.toNat % 51 : Nat) : Int) := by rw [w64_id] <;> omega
    have hsz : a0.size ≤ 140737488355328 := by omega
    simp only [if_neg hs, if_true, e1, e2, e3]
    refine Ev.bind (chainE a0 _ hsz) ?_
    have hsz2 : (Pl.chn (min ((a1.toNat % 51 : Nat) : Int) 1000).toNat a0).size ≤ 140737488355328 := by
      cases (min ((a1.toNat % 51 : Nat) : Int) 1000).toNat with
      | zero => exact hsz
      | succ n => rw [Pl.chn_size]; omega
    refine Ev.bind (chainE _ _ hsz2) ?_
    refine Ev.bind (chainE a0 _ hsz) ?_
    refine evE (Ev.now _) ?_
    rw [Pl.chn_add, beq_iff_eq, Pl.toL_iff]
    congr 1
    omega
end Go.Proofs.YtdlipbfcadmhjaaDoor
