/- Plain: the law SealChanges answers true. -/
import Derived.Test.YtdlipbfcadmhjaaGreatDoorKW
import Derived.Test.YtdlipbfcadmhjaaGreatDoorKO
namespace Go.Proofs.YtdlipbfcadmhjaaGreatDoor
set_option linter.unusedVariables false
set_option linter.unusedSimpArgs false
open Go Go.RowKit Go.Proofs.YtdlipbfcadmhjaaGreatDoorW.PrintWords Go.Proofs.YtdlipbfcadmhjaaGreatDoorW.PrintMore PG3
theorem Pl.changes_coll {s m : ByteArray} {h i j : Nat} {bs bp : List ByteArray} (hh : h ≤ 2) (hi : i < 2 ^ h) (hor : j = i ∨ bs = Pl.sigP s i m) (hne : ¬ (j = i ∧ bs = Pl.sigP s i m ∧ bp = Pl.pathP (Pl.keysP s h) i)) (hv : Pl.verifyP (Pl.publicP s h) m (j : Int) bs bp = true) :
    Pl.Coll (Pl.madeP s h 15 ++ Pl.checkedP m j bs bp) := by
 obtain ⟨_, j', ej, hc⟩ := Pl.sound_coll (n := 15) (by omega) hh hv
 obtain rfl : j = j' := Int.ofNat.inj ej
 rcases hc with ⟨hj, hp, hs⟩ | hc
 ·by_cases e : j = i
  ·subst e; exact absurd ⟨rfl, hs, hp⟩ hne
  ·rcases hor with e' | hb
   ·exact absurd e' e
   ·have := Pl.index_coll (n := 15) (by omega) hi hj (fun e' => e e'.symm) (hb.symm.trans hs)
    exact this.mono fun x hx => List.mem_append_left _ hx
 ·exact hc
theorem set_small {l : List ByteArray} {x : ByteArray} {n q : Nat} (hl : ∀ y ∈ l, y.size ≤ n) (hx : x.size ≤ n) : ∀ y ∈ l.set q x, y.size ≤ n := by
 intro y hy
 rcases List.mem_or_eq_of_mem_set hy with hy | rfl
 ·exact hl y hy
 ·exact hx
theorem changes_in (a0 a3 a5 : ByteArray) (a1 a2 a4 : Int) (h i q : Nat) (w : World) (hG : GL w) (e1 : Int.tmod (wrap64 a1) 3 = (h : Int)) (hh : h ≤ 2) (e2 : Int.tmod (wrap64 a2) ((2 ^ h : Nat) : Int) = (i : Int)) (hi : i < 2 ^ h) (e4 : Int.tmod (wrap64 a4) ((19 + h : Nat) : Int) = (q : Int)) (hq : q < 19 + h)
    (hs : a0.size ≤ 300) (hm : a3.size ≤ 300) (hx : a5.size ≤ 300) :
    Calls Tryz.prog 8 #[.string a0, .int .u8 a1, .int .u8 a2, .string a3, .int .u8 a4, .string a5] w fun e w' => e = .returned (.bool true) ∧ Below w.heap.size w w' := by
 have hb := Pl.pow8 (show h ≤ 8 by omega)
 have hp1 : 1 ≤ 2 ^ h := Nat.one_le_two_pow
 have hpl : (Pl.pathP (Pl.keysP a0 h) i).length = h := Pl.path_pow (by rw [Pl.keysP_len]; exact hi) (Pl.keysP_len a0 h)
 have hsl : (Pl.sigP a0 i a3).length = 18 := Pl.sig_len _ _ _
 have small : ∀ {l : List ByteArray}, l.all Pl.isDig = true → ∀ x ∈ l, x.size ≤ 1000 := fun hl x hx => by
  have := Pl.dig_size (List.all_eq_true.1 hl x hx); omega
 have sp := small (Pl.path_dig (Pl.keysP a0 h) i)
 have ss := small (Pl.sig_dig a0 i a3)
 obtain ⟨j, bs, bp, hA, hB, hC, hbl, hpl2, hor, hbs, hbp⟩ : ∃ (j : Nat) (bs bp : List ByteArray), (q < 18 → (j : Int) = (i : Int) ∧ bs = (Pl.sigP a0 i a3).set q a5 ∧ bp = Pl.pathP (Pl.keysP a0 h) i) ∧ (18 ≤ q → (q : Int) < 18 + (h : Int) → (j : Int) = (i : Int) ∧ bs = Pl.sigP a0 i a3 ∧ bp = (Pl.pathP (Pl.keysP a0 h) i).set (q - 18) a5) ∧
   ((q : Int) = 18 + (h : Int) → (j : Int) = Int.tmod (wrap64 ((i : Int) + 1)) ((2 ^ h : Nat) : Int) ∧ bs = Pl.sigP a0 i a3 ∧ bp = Pl.pathP (Pl.keysP a0 h) i) ∧ bs.length = 18 ∧ bp.length = h ∧ (j = i ∨ bs = Pl.sigP a0 i a3) ∧ (∀ x ∈ bs, x.size ≤ 1000) ∧ (∀ x ∈ bp, x.size ≤ 1000) ∧ j ≤ 1000 := by
  by_cases c1 : q < 18
  ·exact ⟨i, _, _, fun _ => ⟨rfl, rfl, rfl⟩, fun h => by omega, fun h => by omega, by rw [List.length_set]; exact hsl, hpl, .inl rfl, set_small ss (by omega), sp, by omega⟩
  ·by_cases c2 : q < 18 + h
   ·exact ⟨i, _, _, fun h => by omega, fun _ _ => ⟨rfl, rfl, rfl⟩, fun h => by omega, hsl, by rw [List.length_set]; exact hpl, .inl rfl, ss, set_small sp (by omega), by omega⟩
   ·refine ⟨(i + 1) % 2 ^ h, _, _, fun h => by omega, fun _ h => by omega, fun _ => ⟨?_, rfl, rfl⟩, hsl, hpl, .inr rfl, ss, sp, ?_⟩
    ·rw [w64_id (by omega) (by omega)]
     have := Int.ofNat_tmod (i + 1) (2 ^ h)
     rw [show ((i : Int) + 1) = ((i + 1 : Nat) : Int) by omega]
     exact this
    ·have := Nat.mod_lt (i + 1) (show 0 < 2 ^ h by omega); omega
 obtain ⟨hbp, hj⟩ := hbp
 have hsh := short3E [a0, a3, a5] (by simp) (by intro x hx; simp at hx; rcases hx with rfl | rfl | rfl <;> omega)
 have hall : ([a0, a3, a5].all fun x => decide (x.size ≤ 300)) = true := by simp [hs, hm, hx]
 rw [hall] at hsh
 obtain ⟨kS, hkS⟩ := hsh.rounds
 obtain ⟨kP, hkP⟩ := (publicE a0 h (by omega) (by omega)).rounds
 obtain ⟨kE, hkE⟩ := (same3D (j : Int) (i : Int) bs bp (Pl.sigP a0 i a3) (Pl.pathP (Pl.keysP a0 h) i) (by omega) (by omega)).rounds
 obtain ⟨kM, hkM⟩ := (madeE a0 (by omega) h 15 (by omega) (by omega) (by omega)).rounds
 obtain ⟨kC, hkC⟩ := (checkedE a3 (by omega) j bs bp hbl (by omega) hbp hbs (by omega)).rounds
 obtain ⟨kH, hkH⟩ : ∃ kH, Pl.Coll (Pl.madeP a0 h 15 ++ Pl.checkedP a3 j bs bp) → (Pl.madeP a0 h 15).length + (Pl.checkedP a3 j bs bp).length < 8796093022208 ∧ customhouseref02_Shown.f kH (Pl.madeP a0 h 15 ++ Pl.checkedP a3 j bs bp) = some true := by
  by_cases hc : Pl.Coll (Pl.madeP a0 h 15 ++ Pl.checkedP a3 j bs bp)
  ·obtain ⟨q1, q2⟩ := made_checked_shown a0 a3 h 15 j bs bp (by omega) hh (by omega) hbl (by omega) hbp hbs hc
   obtain ⟨k, hk⟩ := q2.rounds
   exact ⟨k, fun _ => ⟨q1, hk⟩⟩
  ·exact ⟨0, fun h => absurd h hc⟩
 have hsg := signE a0 a3 h i (by omega) (by omega) (by omega) hi
 refine changes_walk kS kP kE kM kC kH a0 a3 a5 a1 a2 a4 (h : Int) ((2 ^ h : Nat) : Int) q (Pl.publicP a0 h) (i : Int) (Pl.sigP a0 i a3) (Pl.pathP (Pl.keysP a0 h) i) (j : Int) bs bp _ (Pl.verifyP (Pl.publicP a0 h) a3 (j : Int) bs bp) (Pl.madeP a0 h 15) (Pl.checkedP a3 j bs bp) w hG
  e1 (by omega) (by omega) (shl_pow h (by omega)) (by omega) ⟨rfl⟩ ⟨hkS⟩ ⟨hkP⟩ ⟨by rw [e2]; exact hsg⟩ (by omega) (by omega) (by have := e4; push_cast at this; exact this) (by omega) ⟨hA⟩ ⟨hB⟩ ⟨hC⟩ ⟨hkE⟩ ⟨fun _ => verifyE _ _ _ _ _ (by omega)⟩ ⟨fun hsm hv => ?_⟩
 obtain ⟨q1, q2⟩ := hkH (Pl.changes_coll hh hi hor (fun ⟨h1, h2, h3⟩ => by
  rw [h1, h2, h3] at hsm
  simp at hsm) hv)
 exact ⟨hkM, hkC, q1, q2⟩
def customhouselaw03_SealChanges.f (_k : Nat) (a0 : ByteArray) (a1 a2 : Int) (a3 : ByteArray) (a4 : Int) (a5 : ByteArray) : Option Bool :=
  if a0.size ≤ 9223372036854775807 ∧ a3.size ≤ 9223372036854775807 ∧ a5.size ≤ 9223372036854775807 ∧ (Lit.int .u8 a1).wf = true ∧ (Lit.int .u8 a2).wf = true ∧ (Lit.int .u8 a4).wf = true then some true else none
theorem customhouselaw03_SealChanges.calls (k : Nat) (a0 : ByteArray) (a1 a2 : Int) (a3 : ByteArray) (a4 : Int) (a5 : ByteArray) (r : Bool) (w : World) (hG : GL w) (h : customhouselaw03_SealChanges.f k a0 a1 a2 a3 a4 a5 = some r) :
    Calls Tryz.prog 8 #[.string a0, .int .u8 a1, .int .u8 a2, .string a3, .int .u8 a4, .string a5] w fun e w' => e = .returned (.bool r) ∧ Below w.heap.size w w' := by
 unfold customhouselaw03_SealChanges.f at h
 by_cases hb : a0.size ≤ 9223372036854775807 ∧ a3.size ≤ 9223372036854775807 ∧ a5.size ≤ 9223372036854775807 ∧ (Lit.int .u8 a1).wf = true ∧ (Lit.int .u8 a2).wf = true ∧ (Lit.int .u8 a4).wf = true
 ·rw [if_pos hb] at h
  obtain rfl := Option.some.inj h
  obtain ⟨h0, h3, h5, h1, h2, h4⟩ := hb
  obtain ⟨H, hh, e1⟩ := height_of h1 3 (by omega) (by omega)
  obtain ⟨i, hi, e2⟩ := index_of h2 (2 ^ H) Nat.one_le_two_pow
  obtain ⟨q, hq, e4⟩ := index_of h4 (19 + H) (by omega)
  by_cases hs : a0.size ≤ 300 ∧ a3.size ≤ 300 ∧ a5.size ≤ 300
  ·exact changes_in a0 a3 a5 a1 a2 a4 H i q w hG e1 (by omega) e2 hi e4 hq hs.1 hs.2.1 hs.2.2
  ·have hsh := short3E [a0, a3, a5] (by simp) (by simp [h0, h3, h5])
   have hall : ([a0, a3, a5].all fun x => decide (x.size ≤ 300)) = false := by
    rw [Bool.eq_false_iff]
    intro hh
    exact hs (by simpa [and_assoc] using hh)
   rw [hall] at hsh
   obtain ⟨kS, hkS⟩ := hsh.rounds
   have hp1 : 1 ≤ 2 ^ H := Nat.one_le_two_pow
   exact changes_out kS a0 a3 a5 a1 a2 a4 (H : Int) ((2 ^ H : Nat) : Int) w hG e1 (by omega) (by omega) (shl_pow H (by omega)) (by omega) ⟨rfl⟩ ⟨hkS⟩
 ·rw [if_neg hb] at h
  cases h
theorem Pl.SealChanges (a0 : ByteArray) (a1 a2 : Int) (a3 : ByteArray) (a4 : Int) (a5 : ByteArray) (h0 : a0.size ≤ 9223372036854775807) (h1 : (Lit.int .u8 a1).wf = true) (h2 : (Lit.int .u8 a2).wf = true) (h3 : a3.size ≤ 9223372036854775807) (h4 : (Lit.int .u8 a4).wf = true) (h5 : a5.size ≤ 9223372036854775807) :
    ∃ k, customhouselaw03_SealChanges.f k a0 a1 a2 a3 a4 a5 = some true := ⟨0, by unfold customhouselaw03_SealChanges.f; rw [if_pos ⟨h0, h3, h5, h1, h2, h4⟩]⟩
end Go.Proofs.YtdlipbfcadmhjaaGreatDoor
