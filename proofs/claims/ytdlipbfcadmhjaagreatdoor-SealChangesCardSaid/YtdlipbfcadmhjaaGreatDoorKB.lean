/- Plain: the laws SealSound and SealBinds answer true. -/
import Derived.Test.YtdlipbfcadmhjaaGreatDoorKE
import Derived.Test.YtdlipbfcadmhjaaGreatDoorPG3x36
import Derived.Test.YtdlipbfcadmhjaaGreatDoorPG3x37
namespace Go.Proofs.YtdlipbfcadmhjaaGreatDoor
set_option linter.unusedVariables false
set_option linter.unusedSimpArgs false
open Go.RowKit Go.Proofs.YtdlipbfcadmhjaaGreatDoorW.PrintWords Go.Proofs.YtdlipbfcadmhjaaGreatDoorW.PrintMore PG3
theorem same3D (i j : Int) (a b c d : List ByteArray) (ha : a.length ≤ 1000) (hb : b.length ≤ 1000) : Ev (fun k => customhouseref03_Same.f k i a b j c d) (decide (i = j) && (decide (a = c) && decide (b = d))) := by
 unfold customhouseref03_Same.f
 by_cases h : i = j
 ·simp only [if_pos h]
  refine Ev.bind (Q4.sameE a c (by omega)) ?_
  by_cases h2 : a = c
  ·simp only [decide_eq_true h2, if_true]
   refine Ev.bind (Q4.sameE b d (by omega)) ?_
   rw [decide_eq_true h]
   exact Ev.now _
  ·simp only [decide_eq_false h2, Bool.false_eq_true, if_false, Bool.false_and, Bool.and_false]
   exact Ev.now _
 ·simp only [if_neg h, decide_eq_false h, Bool.false_and]
  exact Ev.now _
theorem made_checked_shown (s m : ByteArray) (h n j : Nat) (sig path : List ByteArray) (hs : s.size ≤ 1000) (hh : h ≤ 2) (hn : n ≤ 30) (h18 : sig.length = 18) (hl : path.length ≤ 1000) (hp : ∀ x ∈ path, x.size ≤ 1000) (hsg : ∀ x ∈ sig, x.size ≤ 1000) (hc : Pl.Coll (Pl.madeP s h n ++ Pl.checkedP m j sig path)) :
    (Pl.madeP s h n).length + (Pl.checkedP m j sig path).length < 8796093022208 ∧ Ev (fun k => customhouseref02_Shown.f k (Pl.madeP s h n ++ Pl.checkedP m j sig path)) true := by
 have p0 := Pl.made_small s hs (h := h) (n := n) (by omega) hn
 have p1 := Pl.checked_small m j sig path h18 hl hp hsg
 refine ⟨by omega, Q4.shownE _ (by rw [List.length_append]; omega) (fun x hx => ?_) hc⟩
 rcases List.mem_append.1 hx with hx | hx
 ·exact p0.2 x hx
 ·exact p1.2 x hx
theorem ssd_j1 (a0 a2 : ByteArray) (h : Nat) (i : Int) (sig path : List ByteArray) (M0 M1 : List ByteArray) (b : Bool)
    (hsh : b = false → Ev (fun k => customhouseref03_Made.f k a0 (h : Int) 15) M0 ∧ Ev (fun k => customhouseref03_Checked.f k a2 i sig path) M1 ∧ M0.length + M1.length < 8796093022208 ∧ Ev (fun k => customhouseref02_Shown.f k (M0 ++ M1)) true) :
    Ev (fun k => customhouselaw03_SealSound.j1 k a0 a2 true (h : Int) b i sig path) true := by
 refine evS ?_
 cases b with
 | true => simp only [customhouselaw03_SealSound.j1, if_true]; exact Ev.now _
 | false =>
  obtain ⟨m0, m1, hl, hs⟩ := hsh rfl
  simp only [customhouselaw03_SealSound.j1, Bool.false_eq_true, if_false, if_true]
  refine Ev.bind m0 ?_
  refine Ev.bind m1 ?_
  simp only [if_pos hl]
  refine Ev.bind hs ?_
  exact Ev.now _
theorem ssd_j0 (a0 a2 : ByteArray) (h : Nat) (i : Int) (sig path : List ByteArray) (hs : a0.size ≤ 1000) (hm : a2.size ≤ 1000) (hh : h ≤ 2) (hsg : ∀ x ∈ sig, x.size ≤ 1000) (hpt : ∀ x ∈ path, x.size ≤ 1000) (h64 : i ≤ 9223372036854775807) :
    Ev (fun k => customhouselaw03_SealSound.j0 k a0 a2 true (h : Int) false i sig path) true := by
 refine evS ?_
 simp only [customhouselaw03_SealSound.j0, Bool.false_eq_true, if_false]
 refine Ev.bind (publicE a0 h hs (by omega)) ?_
 simp only [if_true, verifyE _ _ _ _ _ (by omega : a2.size ≤ 1000000), Option.bind_some]
 by_cases hv : Pl.verifyP (Pl.publicP a0 h) a2 i sig path = true
 ·simp only [hv, if_true]
  obtain ⟨⟨h18, hn8⟩, j, rfl, hc⟩ := Pl.sound_coll (n := 15) (by omega) hh hv
  have hfin : Pl.Coll (Pl.madeP a0 h 15 ++ Pl.checkedP a2 j sig path) → Ev (fun k => customhouseref03_Made.f k a0 (h : Int) 15) (Pl.madeP a0 h 15) ∧ Ev (fun k => customhouseref03_Checked.f k a2 (j : Int) sig path) (Pl.checkedP a2 j sig path) ∧ (Pl.madeP a0 h 15).length + (Pl.checkedP a2 j sig path).length < 8796093022208 ∧ Ev (fun k => customhouseref02_Shown.f k (Pl.madeP a0 h 15 ++ Pl.checkedP a2 j sig path)) true := by
   intro hc
   obtain ⟨q1, q2⟩ := made_checked_shown a0 a2 h 15 j sig path hs hh (by omega) h18 (by omega) hpt hsg hc
   exact ⟨madeE a0 hs h 15 (by omega) (by omega) (by omega), checkedE a2 (by omega) j sig path h18 (by omega) hpt hsg (by omega), q1, q2⟩
  by_cases hjh : j < 2 ^ h
  ·simp only [signE a0 a2 h j hs (by omega) (by omega) hjh, Option.bind_some, if_true]
   refine Ev.bind (same3D (j : Int) (j : Int) (Pl.sigP a0 j a2) (Pl.pathP (Pl.keysP a0 h) j) sig path (by rw [Pl.sig_len]; omega) (by rw [Pl.path_pow (by rw [Pl.keysP_len]; exact hjh) (Pl.keysP_len a0 h)]; omega)) ?_
   refine ssd_j1 a0 a2 h (j : Int) sig path _ _ _ (fun hb => hfin ?_)
   rcases hc with ⟨_, e1, e2⟩ | hc
   ·rw [e1, e2] at hb
    simp at hb
   ·exact hc
  ·simp only [signE_err a0 a2 (h : Int) (j : Int) hs (by omega) (.inr (.inr (.inr (by rw [Int.toNat_natCast]; exact_mod_cast Nat.not_lt.1 hjh)))), Option.bind_some, if_neg (show ¬ (1 : Int) = 0 by omega)]
   refine ssd_j1 a0 a2 h (j : Int) sig path _ _ _ (fun _ => hfin ?_)
   rcases hc with ⟨e0, _⟩ | hc
   ·exact absurd e0 hjh
   ·exact hc
 ·rw [Bool.not_eq_true] at hv
  simp only [hv, Bool.false_eq_true, if_false]
  exact Ev.now _
theorem Pl.SealSound (a0 : ByteArray) (a1 : Int) (a2 : ByteArray) (i : Int) (sig path : List ByteArray) (h0 : a0.size ≤ 9223372036854775807) (h1 : (Lit.int .u8 a1).wf = true) (h2 : a2.size ≤ 9223372036854775807) (hi : (Lit.int .i64 i).wf = true)
    (hs : sig.length ≤ 9223372036854775807) (_hs' : ∀ x ∈ sig, x.size ≤ 9223372036854775807) (hp : path.length ≤ 9223372036854775807) (_hp' : ∀ x ∈ path, x.size ≤ 9223372036854775807) :
    ∃ k, customhouselaw03_SealSound.f k a0 a1 a2 i sig path = some true := by
 refine Ev.rounds (g := fun k => customhouselaw03_SealSound.f k a0 a1 a2 i sig path) ?_
 have hsh := short3E [a0, a2] (by simp) (by simp [h0, h2])
 obtain ⟨h, hh, e1⟩ := height_of h1 3 (by omega) (by omega)
 have e1' : Int.tmod (wrap64 a1) 3 = (h : Int) := e1
 unfold customhouselaw03_SealSound.f
 simp only [head3, Option.bind_some, e1']
 refine Ev.bind hsh ?_
 have out : Ev (fun k => customhouselaw03_SealSound.j0 k a0 a2 true (h : Int) true i sig path) true := by
  refine evS ?_
  simp only [customhouselaw03_SealSound.j0, if_true]
  exact Ev.now _
 by_cases hsm : ([a0, a2].all fun x => decide (x.size ≤ 300)) = true
 ·rw [hsm]
  simp only [if_true]
  have hsz : a0.size ≤ 300 ∧ a2.size ≤ 300 := by simpa using hsm
  obtain ⟨r, hr, hr2⟩ := few3E i sig path hs hp
  refine Ev.bind hr ?_
  cases r with
  | true =>
   obtain ⟨⟨_, g1⟩, _, g2⟩ := hr2 rfl
   exact ssd_j0 a0 a2 h i sig path (by omega) (by omega) (by omega) (fun x hx => by have := g1 x hx; omega) (fun x hx => by have := g2 x hx; omega) (i64_range hi).2
  | false => exact out
 ·rw [Bool.not_eq_true] at hsm
  rw [hsm]
  simp only [Bool.false_eq_true, if_false]; exact out
theorem sb_j0 (a0 a3 a4 : ByteArray) (h i : Nat) (hs : a0.size ≤ 1000) (hm : a3.size ≤ 1000) (ho : a4.size ≤ 1000) (hh : h ≤ 2) (hi : i < 2 ^ h) (hne : Pl.sum a3 ≠ Pl.sum a4) :
    Ev (fun k => customhouselaw03_SealBinds.j0 k a0 a3 a4 true (h : Int) (i : Int) false) true := by
 have hb := Pl.pow8 (show h ≤ 8 by omega)
 have hpl : (Pl.pathP (Pl.keysP a0 h) i).length = h := Pl.path_pow (by rw [Pl.keysP_len]; exact hi) (Pl.keysP_len a0 h)
 refine evS ?_
 simp only [customhouselaw03_SealBinds.j0, Bool.false_eq_true, if_false]
 refine Ev.bind (publicE a0 h hs (by omega)) ?_
 simp only [signE a0 a3 h i hs (by omega) (by omega) hi, Option.bind_some, if_true, show ((0 : Int) != 0) = false from rfl]
 refine evS ?_
 simp only [customhouselaw03_SealBinds.j1, Bool.false_eq_true, if_false, verifyE _ _ _ _ _ (by omega : a4.size ≤ 1000000), Option.bind_some]
 by_cases hv : Pl.verifyP (Pl.publicP a0 h) a4 (i : Int) (Pl.sigP a0 i a3) (Pl.pathP (Pl.keysP a0 h) i) = true
 ·simp only [hv, if_true]
  have small : ∀ {l : List ByteArray}, l.all Pl.isDig = true → ∀ x ∈ l, x.size ≤ 1000 := fun hl x hx => by
   have := Pl.dig_size (List.all_eq_true.1 hl x hx); omega
  have sp := small (Pl.path_dig (Pl.keysP a0 h) i)
  have ss := small (Pl.sig_dig a0 i a3)
  obtain ⟨q1, q2⟩ := made_checked_shown a0 a4 h 30 i (Pl.sigP a0 i a3) (Pl.pathP (Pl.keysP a0 h) i) hs hh (by omega) (Pl.sig_len _ _ _) (by omega) sp ss (Pl.binds_coll (by omega) hh hne hv)
  refine Ev.bind (madeE a0 hs h 30 (by omega) (by omega) (by omega)) ?_
  refine Ev.bind (checkedE a4 (by omega) i (Pl.sigP a0 i a3) (Pl.pathP (Pl.keysP a0 h) i) (Pl.sig_len _ _ _) (by omega) sp ss (by omega)) ?_
  simp only [if_pos q1]
  refine Ev.bind q2 ?_
  exact Ev.now _
 ·rw [Bool.not_eq_true] at hv
  simp only [hv, Bool.false_eq_true, if_false]
  exact Ev.now _
theorem Pl.SealBinds (a0 : ByteArray) (a1 a2 : Int) (a3 a4 : ByteArray) (h0 : a0.size ≤ 9223372036854775807) (h1 : (Lit.int .u8 a1).wf = true) (h2 : (Lit.int .u8 a2).wf = true) (h3 : a3.size ≤ 9223372036854775807) (h4 : a4.size ≤ 9223372036854775807) :
    ∃ k, customhouselaw03_SealBinds.f k a0 a1 a2 a3 a4 = some true := by
 refine Ev.rounds (g := fun k => customhouselaw03_SealBinds.f k a0 a1 a2 a3 a4) ?_
 have hsh := short3E [a0, a3, a4] (by simp) (by simp [h0, h3, h4])
 obtain ⟨h, hh, e1⟩ := height_of h1 3 (by omega) (by omega)
 obtain ⟨i, hi, e2⟩ := index_of h2 (2 ^ h) Nat.one_le_two_pow
 have es : shl .i64 1 (h : Int) = ((2 ^ h : Nat) : Int) := shl_pow h (by omega)
 have hpos : ¬ (((2 ^ h : Nat) : Int) = 0) := by have : 1 ≤ 2 ^ h := Nat.one_le_two_pow; omega
 have e1' : Int.tmod (wrap64 a1) 3 = (h : Int) := e1
 unfold customhouselaw03_SealBinds.f
 simp only [head3, Option.bind_some, e1', es, e2, if_pos (show (0 : Int) ≤ (h : Int) by omega), if_neg hpos]
 refine Ev.bind hsh ?_
 have out : Ev (fun k => customhouselaw03_SealBinds.j0 k a0 a3 a4 true (h : Int) (i : Int) true) true := by
  refine evS ?_
  simp only [customhouselaw03_SealBinds.j0, if_true]
  exact Ev.now _
 by_cases hs : ([a0, a3, a4].all fun x => decide (x.size ≤ 300)) = true
 ·rw [hs]
  simp only [if_true]
  have hsz : a0.size ≤ 300 ∧ a3.size ≤ 300 ∧ a4.size ≤ 300 := by simpa [and_assoc] using hs
  refine Ev.bind (Q4.refSumE a3 (by omega)) ?_
  refine Ev.bind (Q4.refSumE a4 (by omega)) ?_
  by_cases he : Pl.sum a3 = Pl.sum a4
  ·rw [show ((Pl.sum a3).toList == (Pl.sum a4).toList) = true by rw [he]; simp]
   exact out
  ·rw [show ((Pl.sum a3).toList == (Pl.sum a4).toList) = false from by rw [Bool.eq_false_iff]; intro hh; exact he (Pl.toL_iff.1 (by simpa using hh))]
   exact sb_j0 a0 a3 a4 h i (by omega) (by omega) (by omega) (by omega) hi he
 ·rw [Bool.not_eq_true] at hs
  rw [hs]
  simp only [Bool.false_eq_true, if_false]; exact out
end Go.Proofs.YtdlipbfcadmhjaaGreatDoor
