/- SealForm. Nothing is assumed. -/
import Derived.Test.YtdlipbfcadmhjaaDoorKS
import Derived.Test.YtdlipbfcadmhjaaDoorSX
import Derived.Test.YtdlipbfcadmhjaaDoorPG3x12
namespace Go.Proofs.YtdlipbfcadmhjaaDoor
set_option linter.unusedVariables false
set_option linter.unusedSimpArgs false
open Go Go.RowKit Go.Proofs.YtdlipbfcadmhjaaDoorW.PrintWords Go.Proofs.YtdlipbfcadmhjaaDoorW.PrintMore PG3
theorem few3_l1 (i0 : Int) (sig path : List ByteArray) (hs : sig.length ≤ 9223372036854775807) (hp : path.length ≤ 9223372036854775807) : ∀ (d i : Nat), i + d = path.length → i ≤ 30 → (path.take i).all (fun x => decide (x.size ≤ 100)) = true → ∃ r, Ev (fun k => customhouseref03_Few.l1 k (i : Int) i0 sig path) r ∧ (r = true → sig.length ≤ 30 ∧ path.length ≤ 30 ∧ ∀ x ∈ path, x.size ≤ 100) := by
 intro d
 induction d using Nat.strongRecOn with
 | ind d ih =>
  intro i hi h30 ha
  by_cases hlt : i < path.length ∧ i < 30
  ·have hr : rdOf ByteArray.empty path (i : Int) = path[i]'hlt.1 := by
    show path.getD i _ = _
    rw [List.getD_eq_getElem?_getD, List.getElem?_eq_getElem hlt.1]; rfl
   have e1 : wrap64 ((i : Int) + 1) = ((i + 1 : Nat) : Int) := by rw [w64_id] <;> omega
   by_cases hb : (path[i]'hlt.1).size > 100
   ·refine ⟨false, evS (evS ?_), fun h => by cases h⟩
    simp only [customhouseref03_Few.l1, if_pos (show (i : Int) < (path.length : Int) by omega), decide_eq_true (show (i : Int) < 30 by omega), customhouseref03_Few.j3, if_true, if_pos (show (0 : Int) ≤ (i : Int) by omega), hr, if_pos (show ((path[i]'hlt.1).size : Int) > 100 by omega)]
    exact Ev.now _
   ·obtain ⟨r, h1, h2⟩ := ih (d - 1) (by omega) (i + 1) (by omega) (by omega) (by rw [List.take_succ_eq_append_getElem hlt.1, List.all_append, ha]; simp; omega)
    refine ⟨r, evS (evS ?_), h2⟩
    simp only [customhouseref03_Few.l1, if_pos (show (i : Int) < (path.length : Int) by omega), decide_eq_true (show (i : Int) < 30 by omega), customhouseref03_Few.j3, if_true, if_pos (show (0 : Int) ≤ (i : Int) by omega), hr, if_neg (show ¬ ((path[i]'hlt.1).size : Int) > 100 by omega), e1]
    exact h1
  ·have hfin : (if (sig.length : Int) ≤ 30 then some (decide ((path.length : Int) ≤ 30)) else some false) = some (decide (sig.length ≤ 30) && decide (path.length ≤ 30)) := by
    by_cases h : sig.length ≤ 30
    ·rw [if_pos (by omega), decide_eq_true h, Bool.true_and]
     congr 1
     rw [decide_eq_decide]; omega
    ·rw [if_neg (by omega), decide_eq_false h, Bool.false_and]
   refine ⟨decide (sig.length ≤ 30) && decide (path.length ≤ 30), ?_, fun h => ?_⟩
   ·refine evS (evS ?_)
    by_cases hc : (i : Int) < (path.length : Int)
    ·simp only [customhouseref03_Few.l1, if_pos hc, decide_eq_false (show ¬ (i : Int) < 30 by omega), customhouseref03_Few.j3, Bool.false_eq_true, if_false]
     rw [hfin]
     exact Ev.now _
    ·simp only [customhouseref03_Few.l1, if_neg hc, customhouseref03_Few.j3, Bool.false_eq_true, if_false]
     rw [hfin]
     exact Ev.now _
   ·simp only [Bool.and_eq_true, decide_eq_true_eq] at h
    refine ⟨h.1, h.2, fun x hx => ?_⟩
    rw [List.take_of_length_le (by omega)] at ha
    simpa using List.all_eq_true.1 ha x hx
theorem few3_l0 (i0 : Int) (sig path : List ByteArray) (hs : sig.length ≤ 9223372036854775807) (hp : path.length ≤ 9223372036854775807) : ∀ (d i : Nat), i + d = sig.length → i ≤ 30 → (sig.take i).all (fun x => decide (x.size ≤ 100)) = true → ∃ r, Ev (fun k => customhouseref03_Few.l0 k (i : Int) i0 sig path) r ∧ (r = true → (sig.length ≤ 30 ∧ ∀ x ∈ sig, x.size ≤ 100) ∧ path.length ≤ 30 ∧ ∀ x ∈ path, x.size ≤ 100) := by
 intro d
 induction d using Nat.strongRecOn with
 | ind d ih =>
  intro i hi h30 ha
  by_cases hlt : i < sig.length ∧ i < 30
  ·have hr : rdOf ByteArray.empty sig (i : Int) = sig[i]'hlt.1 := by
    show sig.getD i _ = _
    rw [List.getD_eq_getElem?_getD, List.getElem?_eq_getElem hlt.1]; rfl
   have e1 : wrap64 ((i : Int) + 1) = ((i + 1 : Nat) : Int) := by rw [w64_id] <;> omega
   by_cases hb : (sig[i]'hlt.1).size > 100
   ·refine ⟨false, evS (evS ?_), fun h => by cases h⟩
    simp only [customhouseref03_Few.l0, if_pos (show (i : Int) < (sig.length : Int) by omega), decide_eq_true (show (i : Int) < 30 by omega), customhouseref03_Few.j1, if_true, if_pos (show (0 : Int) ≤ (i : Int) by omega), hr, if_pos (show ((sig[i]'hlt.1).size : Int) > 100 by omega)]
    exact Ev.now _
   ·obtain ⟨r, h1, h2⟩ := ih (d - 1) (by omega) (i + 1) (by omega) (by omega) (by rw [List.take_succ_eq_append_getElem hlt.1, List.all_append, ha]; simp; omega)
    refine ⟨r, evS (evS ?_), h2⟩
    simp only [customhouseref03_Few.l0, if_pos (show (i : Int) < (sig.length : Int) by omega), decide_eq_true (show (i : Int) < 30 by omega), customhouseref03_Few.j1, if_true, if_pos (show (0 : Int) ≤ (i : Int) by omega), hr, if_neg (show ¬ ((sig[i]'hlt.1).size : Int) > 100 by omega), e1]
    exact h1
  ·obtain ⟨r, h1, h2⟩ := few3_l1 i0 sig path hs hp path.length 0 (by omega) (by omega) rfl
   refine ⟨r, ?_, fun h => ?_⟩
   ·refine evS (evS ?_)
    by_cases hc : (i : Int) < (sig.length : Int)
    ·simp only [customhouseref03_Few.l0, if_pos hc, decide_eq_false (show ¬ (i : Int) < 30 by omega), customhouseref03_Few.j1, Bool.false_eq_true, if_false]; exact h1
    ·simp only [customhouseref03_Few.l0, if_neg hc, customhouseref03_Few.j1, Bool.false_eq_true, if_false]; exact h1
   ·obtain ⟨a, b, c⟩ := h2 h
    refine ⟨⟨a, fun x hx => ?_⟩, b, c⟩
    rw [List.take_of_length_le (by omega)] at ha
    simpa using List.all_eq_true.1 ha x hx
theorem few3E (i0 : Int) (sig path : List ByteArray) (hs : sig.length ≤ 9223372036854775807) (hp : path.length ≤ 9223372036854775807) : ∃ r, Ev (fun k => customhouseref03_Few.f k i0 sig path) r ∧ (r = true → (sig.length ≤ 30 ∧ ∀ x ∈ sig, x.size ≤ 100) ∧ path.length ≤ 30 ∧ ∀ x ∈ path, x.size ≤ 100) := by
 unfold customhouseref03_Few.f
 exact few3_l0 i0 sig path hs hp sig.length 0 (by omega) (by omega) rfl
theorem Pl.dig_at {l : List ByteArray} (h : l.all Pl.isDig = true) {j : Nat} (hj : j < l.length) : Pl.isDig (rdOf ByteArray.empty l (j : Int)) = true := by
 show Pl.isDig (l.getD j ByteArray.empty) = true
 rw [List.getD_eq_getElem?_getD, List.getElem?_eq_getElem hj]
 exact List.all_eq_true.1 h _ (List.getElem_mem _)
theorem sf_l1 (a0 a1 : ByteArray) (i : Int) (sig path : List ByteArray) (hm : a1.size ≤ 1000000) (h18 : sig.length = 18) (hp8 : path.length ≤ 8) (hp : path.all Pl.isDig = true) (hi0 : 0 ≤ i) (hi : i < ((2 ^ path.length : Nat) : Int)) :
    ∀ (d j : Nat), j + d = path.length → Ev (fun k => customhouselaw03_SealForm.l1 k a0 a1 true (j : Int) i sig path) true := by
 intro d
 induction d with
 | zero =>
  intro j hj
  refine evS ?_
  have e1 : (2 ^ path.length : Nat) ≤ 2 ^ 8 := Nat.pow_le_pow_right (by omega) hp8
  have es : shl .i64 1 (path.length : Int) = ((2 ^ path.length : Nat) : Int) := shl_pow path.length (by omega)
  have b1 : Pl.verifyP a0 a1 i (sig.take 17) path = false := Pl.verify_bad (fun h => by have := h.1; rw [List.length_take] at this; omega)
  have b2 : Pl.verifyP a0 a1 (wrap64 (i + ((2 ^ path.length : Nat) : Int))) sig path = false := Pl.verify_bad (fun h => by have := h.2; rw [w64_id (by omega) (by omega)] at this; omega)
  have b3 : Pl.verifyP a0 a1 (wrap64 (i - ((2 ^ path.length : Nat) : Int))) sig path = false := by
   rw [Bool.eq_false_iff]
   intro hh
   have hok : Pl.sealOk (wrap64 (i - ((2 ^ path.length : Nat) : Int))) sig path = true := by
    unfold Pl.verifyP at hh
    simp only [Bool.and_eq_true] at hh
    exact hh.1
   have := ((Pl.sealOk_iff _ _ _).1 hok).2.2.2.2.1
   rw [w64_id (by omega) (by omega)] at this
   omega
  simp only [customhouselaw03_SealForm.l1, if_neg (show ¬ (j : Int) < (path.length : Int) by omega), if_pos (show (17 : Int) ≤ (sig.length : Int) by omega), if_true, verifyE _ _ _ _ _ hm, Option.bind_some, b1, es, b2, b3, Bool.false_eq_true, if_false, Bool.not_false]
  exact Ev.now _
 | succ d ih =>
  intro j hj
  refine evS ?_
  have e1 : wrap64 ((j : Int) + 1) = ((j + 1 : Nat) : Int) := by rw [w64_id] <;> omega
  simp only [customhouselaw03_SealForm.l1, if_pos (show (j : Int) < (path.length : Int) by omega), if_pos (show (0 : Int) ≤ (j : Int) by omega), e1, isE, Pl.dig_at hp (show j < path.length by omega), Option.bind_some, if_true]
  exact ih (j + 1) (by omega)
theorem sf_l0 (a0 a1 : ByteArray) (i : Int) (sig path : List ByteArray) (hm : a1.size ≤ 1000000) (h18 : sig.length = 18) (hp8 : path.length ≤ 8) (hs : sig.all Pl.isDig = true) (hp : path.all Pl.isDig = true) (hi0 : 0 ≤ i) (hi : i < ((2 ^ path.length : Nat) : Int)) :
    ∀ (d j : Nat), j + d = sig.length → Ev (fun k => customhouselaw03_SealForm.l0 k a0 a1 true (j : Int) i sig path) true := by
 intro d
 induction d with
 | zero =>
  intro j hj
  refine evS ?_
  simp only [customhouselaw03_SealForm.l0, if_neg (show ¬ (j : Int) < (sig.length : Int) by omega)]
  exact sf_l1 a0 a1 i sig path hm h18 hp8 hp hi0 hi path.length 0 (by omega)
 | succ d ih =>
  intro j hj
  refine evS ?_
  have e1 : wrap64 ((j : Int) + 1) = ((j + 1 : Nat) : Int) := by rw [w64_id] <;> omega
  simp only [customhouselaw03_SealForm.l0, if_pos (show (j : Int) < (sig.length : Int) by omega), if_pos (show (0 : Int) ≤ (j : Int) by omega), e1, isE, Pl.dig_at hs (show j < sig.length by omega), Option.bind_some, if_true]
  exact ih (j + 1) (by omega)
theorem sf_core (a0 a1 : ByteArray) (i : Int) (sig path : List ByteArray) (h0 : a0.size ≤ 9223372036854775807) (h1 : a1.size ≤ 9223372036854775807) (hs : sig.length ≤ 9223372036854775807) (hp : path.length ≤ 9223372036854775807) :
    Ev (fun k => PG3.customhouselaw03_SealForm.f k a0 a1 i sig path) true := by
 have hsh := short3E [a0, a1] (by simp) (by simp [h0, h1])
 unfold PG3.customhouselaw03_SealForm.f
 simp only [head3, Option.bind_some]
 refine Ev.bind hsh ?_
 have out : Ev (fun k => customhouselaw03_SealForm.j0 k a0 a1 true true i sig path) true := by
  refine evS ?_
  simp only [customhouselaw03_SealForm.j0, if_true]
  exact Ev.now _
 by_cases hsm : ([a0, a1].all fun x => decide (x.size ≤ 300)) = true
 ·rw [hsm]
  simp only [if_true]
  have hsz : a0.size ≤ 300 ∧ a1.size ≤ 300 := by simpa using hsm
  obtain ⟨r, hr, _⟩ := few3E i sig path hs hp
  refine Ev.bind hr ?_
  cases r with
  | false => exact out
  | true =>
   simp only [if_true, verifyE _ _ _ _ _ (by omega : a1.size ≤ 1000000), Option.bind_some]
   by_cases hv : Pl.verifyP a0 a1 i sig path = true
   ·rw [hv]
    have hok : Pl.sealOk i sig path = true := by
     have hv' := hv
     unfold Pl.verifyP at hv'
     simp only [Bool.and_eq_true] at hv'
     exact hv'.1
    obtain ⟨h18, hn8, hsd, hpd, hi0, hi⟩ := (Pl.sealOk_iff _ _ _).1 hok
    refine evS ?_
    have es : shl .i64 1 (path.length : Int) = ((2 ^ path.length : Nat) : Int) := shl_pow path.length (by omega)
    simp only [customhouselaw03_SealForm.j0, Bool.not_true, Bool.false_eq_true, if_false, if_pos (show (sig.length : Int) = 18 by omega), if_neg (show ¬ (path.length : Int) > 8 by omega), if_neg (show ¬ i < 0 by omega), es, if_neg (show ¬ i ≥ ((2 ^ path.length : Nat) : Int) by omega), isE, Pl.verify_pub hv, Option.bind_some]
    refine evS ?_
    simp only [customhouselaw03_SealForm.j1, Bool.false_eq_true, if_false]
    exact sf_l0 a0 a1 i sig path (by omega) h18 hn8 hsd hpd hi0 hi sig.length 0 (by omega)
   ·rw [Bool.not_eq_true] at hv
    rw [hv]
    exact out
 ·rw [Bool.not_eq_true] at hsm
  rw [hsm]
  simp only [Bool.false_eq_true, if_false]; exact out
def customhouselaw03_SealForm.f (k : Nat) (a0 a1 : ByteArray) (i : Int) (sig path : List ByteArray) : Option Bool :=
  (PG3.customhouselaw03_SealForm.f k a0 a1 i sig path).bind fun b => if b = true then some true else none
theorem customhouselaw03_SealForm.calls (k : Nat) (a0 a1 : ByteArray) (i : Int) (A1 : Option Addr) (c1 : Nat) (l1 : List ByteArray) (A2 : Option Addr) (c2 : Nat) (l2 : List ByteArray) (r : Bool) (w : World) (hG : GL w)
    (hr1 : Kd.C Kd.string w A1 l1.length l1) (hc1 : l1.length ≤ c1) (hr2 : Kd.C Kd.string w A2 l2.length l2) (hc2 : l2.length ≤ c2) (h : Go.Proofs.YtdlipbfcadmhjaaDoor.customhouselaw03_SealForm.f k a0 a1 i l1 l2 = some r) :
    Calls Tryd.prog 17 #[.string a0, .string a1, .agg #[.int .i64 i, .slice A1 l1.length c1, .slice A2 l2.length c2]] w fun e w' => e = .returned (.bool r) ∧ Below w.heap.size w w' := by
 unfold Go.Proofs.YtdlipbfcadmhjaaDoor.customhouselaw03_SealForm.f at h
 cases hf : PG3.customhouselaw03_SealForm.f k a0 a1 i l1 l2 with
 | none => rw [hf] at h; simp at h
 | some b =>
  rw [hf] at h
  cases b with
  | false => simp at h
  | true =>
   obtain rfl : true = r := by simpa using h
   exact PG3.customhouselaw03_SealForm.calls k a0 a1 i A1 c1 l1 A2 c2 l2 true w hG hr1 hc1 hr2 hc2 hf rfl
theorem Pl.SealForm (a0 a1 : ByteArray) (i : Int) (sig path : List ByteArray) (h0 : a0.size ≤ 9223372036854775807) (h1 : a1.size ≤ 9223372036854775807) (_hi : (Lit.int .i64 i).wf = true)
    (hs : sig.length ≤ 9223372036854775807) (_hs' : ∀ x ∈ sig, x.size ≤ 9223372036854775807) (hp : path.length ≤ 9223372036854775807) (_hp' : ∀ x ∈ path, x.size ≤ 9223372036854775807) :
    ∃ k, Go.Proofs.YtdlipbfcadmhjaaDoor.customhouselaw03_SealForm.f k a0 a1 i sig path = some true := by
 obtain ⟨k, hk⟩ := (sf_core a0 a1 i sig path h0 h1 hs hp).rounds
 exact ⟨k, by unfold Go.Proofs.YtdlipbfcadmhjaaDoor.customhouselaw03_SealForm.f; rw [hk]; rfl⟩
end Go.Proofs.YtdlipbfcadmhjaaDoor
