/- seal, plain: a seal verifies. -/
import Derived.Test.YtdlipbfcadmhjaaDoorS4
namespace Go.Proofs.YtdlipbfcadmhjaaDoor.Pl
set_option linter.unusedVariables false
set_option linter.unusedSimpArgs false
theorem climb_pow {n i : Nat} {d r : ByteArray} {xs ts : List ByteArray} (h : Climb n i d xs r ts) : ∀ c, n = 2 ^ c → xs.length = c := by
 induction h with
 | one d =>
  intro c hc
  cases c with
  | zero => rfl
  | succ c => have : 1 ≤ 2 ^ c := Nat.one_le_two_pow; rw [Nat.pow_succ] at hc; omega
 | @left n _ _ _ _ _ p hn hi h ih =>
  intro c hc
  cases c with
  | zero => simp at hc; omega
  | succ c =>
   have e : half n = 2 ^ c := half_of (by rw [hc, Nat.pow_succ]; have : 1 ≤ 2 ^ c := Nat.one_le_two_pow; omega) (by rw [hc, Nat.pow_succ]; omega)
   simp [ih c e]
 | @right n _ _ _ _ _ p hn hi h ih =>
  intro c hc
  cases c with
  | zero => simp at hc; omega
  | succ c =>
   have e : half n = 2 ^ c := half_of (by rw [hc, Nat.pow_succ]; have : 1 ≤ 2 ^ c := Nat.one_le_two_pow; omega) (by rw [hc, Nat.pow_succ]; omega)
   simp [ih c (by rw [e, hc, Nat.pow_succ]; omega)]
theorem climb_dig {n i : Nat} {d r : ByteArray} {xs ts : List ByteArray} (h : Climb n i d xs r ts) (hd : isDig d = true) : isDig r = true := by
 cases h with
 | one => exact hd
 | left => exact nodeP_dig _ _
 | right => exact nodeP_dig _ _
theorem check_dig {root : ByteArray} {n i : Nat} {s : ByteArray} {path : List ByteArray} (h : checkP root n i s path = true) : isDig root = true := by
 obtain ⟨_, _, ts, h⟩ := checkP_climb h
 exact climb_dig h (leafP_dig s)
theorem path_pow {l : List ByteArray} {i c : Nat} (hi : i < l.length) (hc : l.length = 2 ^ c) : (pathP l i).length = c := by
 obtain ⟨ts, h⟩ := path_climb _ l i rfl hi
 exact climb_pow h c hc
theorem path_ok {l : List ByteArray} {i : Nat} (hi : i < l.length) (hn : l.length ≤ 1000000) : checkP (rootP l) l.length i (l.getD i ByteArray.empty) (pathP l i) = true := by
 obtain ⟨ts, h⟩ := path_climb _ l i rfl hi
 exact check_of_climb hn hi (path_dig l i) h
theorem keys_get (s : ByteArray) {h i : Nat} (hi : i < 2 ^ h) : (keysP s h).getD i ByteArray.empty = keyP s i := by
 unfold keysP
 rw [List.getD_eq_getElem?_getD, List.getElem?_map, List.getElem?_range hi]
 rfl
theorem k18_get (k : Fin 18) : K18[k.val]? = some k := by
 unfold K18
 simp
theorem map18_get {f : Fin 18 → ByteArray} (k : Fin 18) : (K18.map f).getD k.val ByteArray.empty = f k := by
 rw [List.getD_eq_getElem?_getD, List.getElem?_map, k18_get]
 rfl
theorem range18 (f : Nat → ByteArray) : (List.range 18).map f = K18.map fun k => f k.val := by
 have : (List.range 18) = K18.map Fin.val := by unfold K18; decide
 rw [this, List.map_map]
 rfl
theorem chn_dig (n : Nat) (a : ByteArray) (h : isDig a = true) : isDig (chn n a) = true := by
 cases n with
 | zero => exact h
 | succ n => obtain ⟨b, e⟩ := chn_is_sum n a; rw [e]; exact isDig_sum b
theorem start_dig (s : ByteArray) (i k : Nat) : isDig (startP s i k) = true := isDig_sum _
theorem sig_len (s : ByteArray) (i : Nat) (m : ByteArray) : (sigP s i m).length = 18 := by unfold sigP; rw [List.length_map, k18_len]
theorem sig_get (s : ByteArray) (i : Nat) (m : ByteArray) (k : Fin 18) : (sigP s i m).getD k.val ByteArray.empty = chn (dg m k.val) (startP s i k.val) := map18_get k
theorem sig_dig (s : ByteArray) (i : Nat) (m : ByteArray) : (sigP s i m).all isDig = true := by
 rw [List.all_eq_true]
 intro x hx
 simp only [sigP, List.mem_map] at hx
 obtain ⟨k, _, rfl⟩ := hx
 exact chn_dig _ _ (start_dig _ _ _)
theorem ends_sig (s : ByteArray) (i : Nat) (m : ByteArray) : endsP m (sigP s i m) = keyEnds s i := by
 unfold endsP keyEnds
 rw [range18]
 refine List.map_congr_left fun k _ => ?_
 rw [sig_get, chn_add]
 have := dg_lt m k.val
 rw [show dg m k.val + (15 - dg m k.val) = 15 by omega]
theorem seal_ok (s : ByteArray) {h i : Nat} (m : ByteArray) (hh : h ≤ 8) (hi : i < 2 ^ h) : sealOk (i : Int) (sigP s i m) (pathP (keysP s h) i) = true := by
 have hp : (pathP (keysP s h) i).length = h := path_pow (by rw [keysP_len]; exact hi) (keysP_len s h)
 exact (sealOk_iff _ _ _).2 ⟨sig_len s i m, by omega, sig_dig s i m, path_dig _ _, by omega, by rw [hp]; exact_mod_cast hi⟩
theorem seal_verifies (s : ByteArray) {h i : Nat} (m : ByteArray) (hh : h ≤ 8) (hi : i < 2 ^ h) : verifyP (publicP s h) m (i : Int) (sigP s i m) (pathP (keysP s h) i) = true := by
 have hb := pow8 hh
 have hp : (pathP (keysP s h) i).length = h := path_pow (by rw [keysP_len]; exact hi) (keysP_len s h)
 unfold verifyP
 rw [seal_ok s m hh hi, Bool.true_and, ends_sig, hp]
 have := path_ok (l := keysP s h) (i := i) (by rw [keysP_len]; exact hi) (by rw [keysP_len]; omega)
 rw [keys_get s hi, keysP_len] at this
 exact this
theorem verify_pub {pub m : ByteArray} {i : Int} {sig path : List ByteArray} (h : verifyP pub m i sig path = true) : isDig pub = true := by
 unfold verifyP at h
 rw [Bool.and_eq_true] at h
 obtain ⟨h1, h2⟩ := h
 have hi := ((sealOk_iff _ _ _).1 h1).2.2.2.2.1
 obtain ⟨j, rfl⟩ : ∃ j : Nat, i = (j : Int) := ⟨i.toNat, by omega⟩
 exact check_dig h2
theorem verify_bad {pub m : ByteArray} {i : Int} {sig path : List ByteArray} (h : ¬ (sig.length = 18 ∧ i < ((2 ^ path.length : Nat) : Int))) : verifyP pub m i sig path = false := by
 have : sealOk i sig path = false := by
  rw [Bool.eq_false_iff]
  intro hh
  have := (sealOk_iff _ _ _).1 hh
  exact h ⟨this.1, this.2.2.2.2.2⟩
 unfold verifyP
 rw [this]; rfl
theorem verify_empty (m : ByteArray) (i : Int) (sig path : List ByteArray) : verifyP ⟨#[]⟩ m i sig path = false := by
 rw [Bool.eq_false_iff]
 intro h
 have := dig_size (verify_pub h)
 exact absurd this (by decide)
end Go.Proofs.YtdlipbfcadmhjaaDoor.Pl
namespace Go.Proofs.YtdlipbfcadmhjaaDoor
theorem signE (s m : ByteArray) (h i : Nat) (hs : s.size ≤ 1000) (hm : m.size ≤ 1000000) (hh : h ≤ 8) (hi : i < 2 ^ h) : seal_Sign.f s (h : Int) (i : Int) m = some ((i : Int), Pl.sigP s i m, Pl.pathP (Pl.keysP s h) i, 0) := by
 unfold seal_Sign.f
 rw [if_pos hs, if_pos hm]
 simp only [Int.toNat_natCast]
 rw [if_neg]
 have : (i : Int) < ((2 ^ h : Nat) : Int) := by exact_mod_cast hi
 omega
theorem signE_err (s m : ByteArray) (h i : Int) (hs : s.size ≤ 1000) (hm : m.size ≤ 1000000) (hb : h < 0 ∨ h > 8 ∨ i < 0 ∨ ((2 ^ h.toNat : Nat) : Int) ≤ i) : seal_Sign.f s h i m = some (0, [], [], 1) := by
 unfold seal_Sign.f
 rw [if_pos hs, if_pos hm, if_pos hb]
theorem verifyE (pub m : ByteArray) (i : Int) (sig path : List ByteArray) (hm : m.size ≤ 1000000) : seal_Verify.f pub m i sig path = some (Pl.verifyP pub m i sig path) := by
 unfold seal_Verify.f
 rw [if_pos hm]
end Go.Proofs.YtdlipbfcadmhjaaDoor
