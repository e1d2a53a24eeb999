/- Plain: the law SealVerifies answers true. -/
import Derived.Test.YtdlipbfcadmhjaaDoorKS
import Derived.Test.YtdlipbfcadmhjaaDoorPG3x6
namespace Go.Proofs.YtdlipbfcadmhjaaDoor
set_option linter.unusedVariables false
set_option linter.unusedSimpArgs false
open Go.RowKit Go.Proofs.YtdlipbfcadmhjaaDoorW.PrintWords Go.Proofs.YtdlipbfcadmhjaaDoorW.PrintMore PG3

theorem sv_l1 (x3 pub : ByteArray) (i : Int) (sig path more : List ByteArray) (m0 : Int) (mp : List ByteArray) (hl : path.length ≤ 1000) (h18 : sig.length ≤ 1000) (hp : path.all Pl.isDig = true) (hpub : Pl.isDig pub = true) (hm : more = sig) (hv : seal_Verify.f pub x3 i sig path = some true) :
    ∀ (m j : Nat), j + m = path.length → Ev (fun k => customhouselaw03_SealVerifies.l1 k x3 true pub (j : Int) i sig path m0 more mp) true := by
  intro m
  induction m with
  | zero =>
    intro j hj
    refine evS ?_
    simp only [customhouselaw03_SealVerifies.l1, if_neg (show ¬ (j : Int) < (path.length : Int) by omega), if_true, isE, hpub, Option.bind_some]
    refine Ev.bind (Q4.sameE more sig (by rw [hm]; omega)) ?_
    simp only [decide_eq_true hm, if_true, hv, Option.bind_some]
    exact Ev.now _
  | succ m ih =>
    intro j hj
    refine evS ?_
    have e1 : wrap64 ((j : Int) + 1) = ((j + 1 : Nat) : Int) := by rw [w64_id] <;> omega
    have hd : Pl.isDig (rdOf ByteArray.empty path (j : Int)) = true := by
      show Pl.isDig (path.getD j ByteArray.empty) = true
      rw [List.getD_eq_getElem?_getD, List.getElem?_eq_getElem (by omega)]
      exact List.all_eq_true.1 hp _ (List.getElem_mem _)
    simp only [customhouselaw03_SealVerifies.l1, if_pos (show (j : Int) < (path.length : Int) by omega), if_pos (show (0 : Int) ≤ (j : Int) by omega), e1, isE, hd, Option.bind_some, if_true]
    exact ih (j + 1) (by omega)
theorem sv_l0 (x3 pub : ByteArray) (i : Int) (sig path more : List ByteArray) (m0 : Int) (mp : List ByteArray) (hl : path.length ≤ 1000) (h18 : sig.length ≤ 1000) (hs : sig.all Pl.isDig = true) (hp : path.all Pl.isDig = true) (hpub : Pl.isDig pub = true) (hm : more = sig) (hv : seal_Verify.f pub x3 i sig path = some true) :
    ∀ (m j : Nat), j + m = sig.length → Ev (fun k => customhouselaw03_SealVerifies.l0 k x3 true pub (j : Int) i sig path m0 more mp) true := by
  intro m
  induction m with
  | zero =>
    intro j hj
    refine evS ?_
    simp only [customhouselaw03_SealVerifies.l0, if_neg (show ¬ (j : Int) < (sig.length : Int) by omega)]
    exact sv_l1 x3 pub i sig path more m0 mp hl h18 hp hpub hm hv path.length 0 (by omega)
  | succ m ih =>
    intro j hj
    refine evS ?_
    have e1 : wrap64 ((j : Int) + 1) = ((j + 1 : Nat) : Int) := by rw [w64_id] <;> omega
    have hd : Pl.isDig (rdOf ByteArray.empty sig (j : Int)) = true := by
      show Pl.isDig (sig.getD j ByteArray.empty) = true
      rw [List.getD_eq_getElem?_getD, List.getElem?_eq_getElem (by omega)]
      exact List.all_eq_true.1 hs _ (List.getElem_mem _)
    simp only [customhouselaw03_SealVerifies.l0, if_pos (show (j : Int) < (sig.length : Int) by omega), if_pos (show (0 : Int) ≤ (j : Int) by omega), e1, isE, hd, Option.bind_some, if_true]
    exact ih (j + 1) (by omega)
theorem same3E (i : Int) (l m : List ByteArray) (hl : l.length ≤ 1000) (hm : m.length ≤ 1000) : Ev (fun k => customhouseref03_Same.f k i l m i l m) true := by
  unfold customhouseref03_Same.f
  simp only [if_true]
  refine Ev.bind (Q4.sameE l l (by omega)) ?_
  simp only [decide_true, if_true]
  refine Ev.bind (Q4.sameE m m (by omega)) ?_
  simp only [decide_true]
  exact Ev.now _
theorem sv_core (a0 a3 : ByteArray) (a1 a2 : Int) (h i : Nat) (pub : ByteArray) (sig path mp : List ByteArray) (e1 : Int.tmod (wrap64 a1) 4 = (h : Int)) (hh : h ≤ 3) (e2 : Int.tmod (wrap64 a2) ((2 ^ h : Nat) : Int) = (i : Int))
    (hsh : Ev (fun k => customhouselaw03_short.f k [a0, a3]) true) (hpub : Ev (fun k => seal_Public.f k a0 (h : Int)) (pub, 0)) (hsg : seal_Sign.f a0 (h : Int) (i : Int) a3 = some ((i : Int), sig, path, 0)) (hmo : seal_Sign.f a0 ((h + 1 : Nat) : Int) (i : Int) a3 = some ((i : Int), sig, mp, 0))
    (h18 : sig.length = 18) (hpl : path.length = h) (hs : sig.all Pl.isDig = true) (hp : path.all Pl.isDig = true) (hd : Pl.isDig pub = true) (hv : seal_Verify.f pub a3 (i : Int) sig path = some true) :
    Ev (fun k => customhouselaw03_SealVerifies.f k a0 a1 a2 a3) true := by
  unfold customhouselaw03_SealVerifies.f
  have es : shl .i64 1 (h : Int) = ((2 ^ h : Nat) : Int) := shl_pow h (by omega)
  have ew : wrap64 ((h : Int) + 1) = ((h + 1 : Nat) : Int) := by rw [w64_id] <;> omega
  have hpos : ¬ (((2 ^ h : Nat) : Int) = 0) := by have : 1 ≤ 2 ^ h := Nat.one_le_two_pow; omega
  simp only [head3, Option.bind_some, e1, es, e2, ew, if_pos (show (0 : Int) ≤ (h : Int) by omega), if_neg hpos, hsg, hmo]
  refine Ev.bind hsh ?_
  simp only [if_true]
  refine Ev.bind hpub ?_
  simp only [if_true, if_pos (show (sig.length : Int) = 18 by rw [h18]; rfl), if_pos (show (path.length : Int) = (h : Int) by rw [hpl])]
  refine Ev.bind (same3E (i : Int) sig path (by omega) (by omega)) ?_
  refine evS ?_
  simp only [customhouselaw03_SealVerifies.j0, Bool.not_true, Bool.false_eq_true, if_false]
  exact sv_l0 a3 pub (i : Int) sig path sig _ mp (by omega) (by omega) hs hp hd rfl hv sig.length 0 (by omega)
theorem Pl.SealVerifies (a0 : ByteArray) (a1 a2 : Int) (a3 : ByteArray) (h0 : a0.size ≤ 9223372036854775807) (h1 : (Lit.int .u8 a1).wf = true) (h2 : (Lit.int .u8 a2).wf = true) (h3 : a3.size ≤ 9223372036854775807) :
    ∃ k, customhouselaw03_SealVerifies.f k a0 a1 a2 a3 = some true := by
  refine Ev.rounds (g := fun k => customhouselaw03_SealVerifies.f k a0 a1 a2 a3) ?_
  have hsh := short3E [a0, a3] (by simp) (by simp [h0, h3])
  by_cases hs : ([a0, a3].all fun x => decide (x.size ≤ 300)) = true
  · rw [hs] at hsh
    have hsz : a0.size ≤ 300 ∧ a3.size ≤ 300 := by simpa using hs
    obtain ⟨h, hh, e1⟩ := height_of h1 4 (by omega) (by omega)
    obtain ⟨i, hi, e2⟩ := index_of h2 (2 ^ h) Nat.one_le_two_pow
    have hi' : i < 2 ^ (h + 1) := by rw [Nat.pow_succ]; omega
    have hpub := publicE a0 h (by omega) (by omega)
    have hsg := signE a0 a3 h i (by omega) (by omega) (by omega) hi
    have hmo := signE a0 a3 (h + 1) i (by omega) (by omega) (by omega) hi'
    have hv := verifyE (Pl.publicP a0 h) a3 (i : Int) (Pl.sigP a0 i a3) (Pl.pathP (Pl.keysP a0 h) i) (by omega)
    rw [Pl.seal_verifies a0 a3 (by omega) hi] at hv
    exact sv_core a0 a3 a1 a2 h i _ _ _ _ e1 (by omega) e2 hsh hpub hsg hmo (Pl.sig_len _ _ _) (Pl.path_pow (by rw [Pl.keysP_len]; exact hi) (Pl.keysP_len a0 h)) (Pl.sig_dig _ _ _) (Pl.path_dig _ _) (Pl.root_dig _) hv
  · rw [Bool.not_eq_true] at hs
    rw [hs] at hsh
    unfold customhouselaw03_SealVerifies.f
    simp only [head3, Option.bind_some]
    refine Ev.bind hsh ?_
    simp only [Bool.false_eq_true, if_false]
    exact Ev.now _
end Go.Proofs.YtdlipbfcadmhjaaDoor
