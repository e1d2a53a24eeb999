/- Plain mathematics of digests: no program, no memory. -/
namespace Go.Proofs.YtdlipbfcadmhjaaDoor.Pl
set_option linter.unusedVariables false
set_option linter.unusedSimpArgs false

/-- Numbers of 64 bits. -/
def W64 : Nat := 18446744073709551616

def mulA (x : Nat) : Nat := x * 2862933555777941757 % 18446744073709551616
def mulB (x : Nat) : Nat := x * 3935559000370003845 % 18446744073709551616
def xs (d x : Nat) : Nat := x ^^^ (x / d)
def mix (x : Nat) : Nat := xs 536870912 (mulB (xs 4294967296 (mulA x)))

theorem xor_lt64 {a b : Nat} (ha : a < 18446744073709551616) (hb : b < 18446744073709551616) : a ^^^ b < 18446744073709551616 := by
  have := Nat.xor_lt_two_pow (n := 64) (x := a) (y := b) (by simpa using ha) (by simpa using hb)
  simpa using this

theorem mulA_lt (x : Nat) : mulA x < 18446744073709551616 := Nat.mod_lt _ (by decide)
theorem mulB_lt (x : Nat) : mulB x < 18446744073709551616 := Nat.mod_lt _ (by decide)
theorem xs_lt {d x : Nat} (h : x < 18446744073709551616) : xs d x < 18446744073709551616 := xor_lt64 h (Nat.lt_of_le_of_lt (Nat.div_le_self _ _) h)
theorem mix_lt (x : Nat) : mix x < 18446744073709551616 := xs_lt (mulB_lt _)

theorem xs_inj (k d : Nat) (hk : 0 < k) (hd0 : d = 2 ^ k) {z w : Nat} (h : xs d z = xs d w) : z = w := by
  subst hd0
  unfold xs at h
  have e : ∀ x : Nat, x / 2 ^ k = x >>> k := fun x => (Nat.shiftRight_eq_div_pow x k).symm
  rw [e, e] at h
  have hd : (z ^^^ w) = (z ^^^ w) >>> k := by
    have hx : (z ^^^ w) >>> k = (z >>> k) ^^^ (w >>> k) := Nat.shiftRight_xor_distrib
    rw [hx]
    have h2 : (z ^^^ z >>> k) ^^^ (w ^^^ w >>> k) = 0 := by rw [h, Nat.xor_self]
    have h3 : (z ^^^ w) ^^^ (z >>> k ^^^ w >>> k) = 0 := by
      rw [← h2]
      ac_rfl
    calc z ^^^ w = (z ^^^ w) ^^^ ((z >>> k ^^^ w >>> k) ^^^ (z >>> k ^^^ w >>> k)) := by rw [Nat.xor_self, Nat.xor_zero]
      _ = ((z ^^^ w) ^^^ (z >>> k ^^^ w >>> k)) ^^^ (z >>> k ^^^ w >>> k) := by ac_rfl
      _ = z >>> k ^^^ w >>> k := by rw [h3, Nat.zero_xor]
  have h0 : z ^^^ w = 0 := by
    rw [Nat.shiftRight_eq_div_pow] at hd
    by_cases hz : z ^^^ w = 0
    · exact hz
    · have : (z ^^^ w) / 2 ^ k < z ^^^ w := Nat.div_lt_self (Nat.pos_of_ne_zero hz) (Nat.one_lt_two_pow (by omega))
      omega
  have : z ^^^ w ^^^ w = 0 ^^^ w := by rw [h0]
  rw [Nat.xor_assoc, Nat.xor_self, Nat.xor_zero, Nat.zero_xor] at this
  exact this

theorem mul_inj (c d : Nat) (hcd : c * d % 18446744073709551616 = 1) {x y : Nat} (hx : x < 18446744073709551616) (hy : y < 18446744073709551616)
    (h : x * c % 18446744073709551616 = y * c % 18446744073709551616) : x = y := by
  have key : ∀ z : Nat, z < 18446744073709551616 → (z * c % 18446744073709551616) * d % 18446744073709551616 = z := by
    intro z hz
    rw [Nat.mul_mod, Nat.mod_mod, ← Nat.mul_mod, Nat.mul_assoc, Nat.mul_mod, hcd, Nat.mul_one, Nat.mod_mod, Nat.mod_eq_of_lt hz]
  rw [← key x hx, ← key y hy, h]

theorem mulA_inj {x y : Nat} (hx : x < 18446744073709551616) (hy : y < 18446744073709551616) (h : mulA x = mulA y) : x = y :=
  mul_inj 2862933555777941757 16133697096952638549 (by decide) hx hy h
theorem mulB_inj {x y : Nat} (hx : x < 18446744073709551616) (hy : y < 18446744073709551616) (h : mulB x = mulB y) : x = y :=
  mul_inj 3935559000370003845 13700500150304694605 (by decide) hx hy h
theorem mix_inj {x y : Nat} (hx : x < 18446744073709551616) (hy : y < 18446744073709551616) (h : mix x = mix y) : x = y :=
  mulA_inj hx hy (xs_inj 32 4294967296 (by decide) (by decide) (mulB_inj (xs_lt (mulA_lt _)) (xs_lt (mulA_lt _)) (xs_inj 29 536870912 (by decide) (by decide) h)))

/-- The number of the block that begins at a place; bytes beyond the end are 0. -/
def blkN (l : List UInt8) (at_ : Nat) : Nat → Nat
  | 0 => 0
  | i + 1 => blkN l at_ i * 256 + (l.getD (at_ + i) 0).toNat
def blk (l : List UInt8) (at_ : Nat) : Nat := blkN l at_ 8
def st0 (n : Nat) : Nat := 2611923443488327891 ^^^ n
/-- The state behind j blocks. -/
def st (l : List UInt8) : Nat → Nat
  | 0 => st0 l.length
  | j + 1 => mix (st l j ^^^ blk l (8 * j))
def final (l : List UInt8) : Nat := st l (l.length / 8 + 1)
/-- A hexadecimal digit. -/
def hexd (n : Nat) : UInt8 := if n < 10 then UInt8.ofNat (48 + n) else UInt8.ofNat (87 + n)
/-- The last j hexadecimal digits of a number, the most significant one first. -/
def hexs : Nat → Nat → List UInt8
  | 0, _ => []
  | j + 1, n => hexs j (n / 16) ++ [hexd (n % 16)]
def sumL (l : List UInt8) : List UInt8 := hexs 16 (final l)
def sum (s : ByteArray) : ByteArray := ⟨(sumL s.data.toList).toArray⟩

theorem blkN_lt (l : List UInt8) (a i : Nat) : blkN l a i < 256 ^ i := by
  induction i with
  | zero => simp [blkN]
  | succ i ih =>
    have : (l.getD (a + i) 0).toNat < 256 := (l.getD (a + i) 0).toNat_lt
    rw [Nat.pow_succ]
    simp only [blkN]
    omega
theorem blk_lt (l : List UInt8) (a : Nat) : blk l a < 18446744073709551616 := by
  have := blkN_lt l a 8
  simpa [blk] using this
theorem blkN_inj {l m : List UInt8} {a b i : Nat} (h : blkN l a i = blkN m b i) : ∀ j, j < i → l.getD (a + j) 0 = m.getD (b + j) 0 := by
  induction i with
  | zero => intro j hj; omega
  | succ i ih =>
    simp only [blkN] at h
    have h1 : (l.getD (a + i) 0).toNat < 256 := (l.getD (a + i) 0).toNat_lt
    have h2 : (m.getD (b + i) 0).toNat < 256 := (m.getD (b + i) 0).toNat_lt
    have e1 : blkN l a i = blkN m b i := by omega
    have e2 : (l.getD (a + i) 0).toNat = (m.getD (b + i) 0).toNat := by omega
    intro j hj
    by_cases hji : j = i
    · subst hji; exact UInt8.toNat_inj.1 e2
    · exact ih e1 j (by omega)
theorem blkN_congr {l m : List UInt8} {a b i : Nat} (h : ∀ j, j < i → l.getD (a + j) 0 = m.getD (b + j) 0) : blkN l a i = blkN m b i := by
  induction i with
  | zero => rfl
  | succ i ih => simp only [blkN]; rw [ih (fun j hj => h j (by omega)), h i (by omega)]

theorem st0_lt {n : Nat} (h : n < 18446744073709551616) : st0 n < 18446744073709551616 := xor_lt64 (by decide) h
theorem st_lt {l : List UInt8} (h : l.length < 18446744073709551616) : ∀ j, st l j < 18446744073709551616
  | 0 => st0_lt h
  | _ + 1 => mix_lt _
theorem final_lt {l : List UInt8} : final l < 18446744073709551616 := by unfold final; exact mix_lt _

theorem hexd_inj {a b : Nat} (ha : a < 16) (hb : b < 16) (h : hexd a = hexd b) : a = b := by
  have key : ∀ x : Fin 16, ∀ y : Fin 16, hexd x.1 = hexd y.1 → x = y := by decide
  exact congrArg Fin.val (key ⟨a, ha⟩ ⟨b, hb⟩ h)
theorem hexs_length (j n : Nat) : (hexs j n).length = j := by
  induction j generalizing n with
  | zero => rfl
  | succ j ih => simp [hexs, ih]
theorem hexs_inj {j a b : Nat} (ha : a < 16 ^ j) (hb : b < 16 ^ j) (h : hexs j a = hexs j b) : a = b := by
  induction j generalizing a b with
  | zero => simp at ha hb; omega
  | succ j ih =>
    simp only [hexs] at h
    have := List.append_inj h (by rw [hexs_length, hexs_length])
    have e1 := ih (a := a / 16) (b := b / 16) (by rw [Nat.pow_succ] at ha; omega) (by rw [Nat.pow_succ] at hb; omega) this.1
    have e2 := hexd_inj (Nat.mod_lt _ (by omega)) (Nat.mod_lt _ (by omega)) (List.singleton_inj.1 this.2)
    omega
theorem sumL_length (l : List UInt8) : (sumL l).length = 16 := hexs_length _ _
theorem final_inj {l m : List UInt8} (h : sumL l = sumL m) : final l = final m :=
  hexs_inj (j := 16) (by simpa using final_lt) (by simpa using final_lt) h
theorem sumL_eq_iff {l m : List UInt8} : sumL l = sumL m ↔ final l = final m := ⟨final_inj, fun h => by unfold sumL; rw [h]⟩

theorem xor_cancel_left {a b c : Nat} (h : a ^^^ b = a ^^^ c) : b = c := by
  have : a ^^^ (a ^^^ b) = a ^^^ (a ^^^ c) := by rw [h]
  rwa [← Nat.xor_assoc, ← Nat.xor_assoc, Nat.xor_self, Nat.zero_xor, Nat.zero_xor] at this
theorem xor_cancel_right {a b c : Nat} (h : b ^^^ a = c ^^^ a) : b = c := xor_cancel_left (by rw [Nat.xor_comm a b, Nat.xor_comm a c]; exact h)

/-- Texts that differ in one block alone have the same digest exactly if that block is the same. -/
theorem st_same {l m : List UInt8} (hl : l.length = m.length) {n : Nat} (h : ∀ j, j < n → blk l (8 * j) = blk m (8 * j)) : st l n = st m n := by
  induction n with
  | zero => simp [st, hl]
  | succ n ih => simp only [st]; rw [ih (fun j hj => h j (by omega)), h n (by omega)]
theorem st_step_ne {l m : List UInt8} (h1 : l.length < 18446744073709551616) (h2 : m.length < 18446744073709551616) {n : Nat} (hb : blk l (8 * n) = blk m (8 * n)) (h : st l n ≠ st m n) : st l (n + 1) ≠ st m (n + 1) := by
  simp only [st]
  intro e
  have := mix_inj (xor_lt64 (st_lt h1 n) (blk_lt _ _)) (xor_lt64 (st_lt h2 n) (blk_lt _ _)) e
  rw [hb] at this
  exact h (xor_cancel_right this)
theorem st_ne_more {l m : List UInt8} (h1 : l.length < 18446744073709551616) (h2 : m.length < 18446744073709551616) {n : Nat} (k : Nat) (hb : ∀ j, n ≤ j → j < n + k → blk l (8 * j) = blk m (8 * j)) (h : st l n ≠ st m n) : st l (n + k) ≠ st m (n + k) := by
  induction k with
  | zero => exact h
  | succ k ih => exact st_step_ne h1 h2 (hb (n + k) (by omega) (by omega)) (ih (fun j a b => hb j a (by omega)))
theorem one_block {l m : List UInt8} (hl : l.length = m.length) (hlt : l.length < 18446744073709551616) (p : Nat) (hp : p ≤ l.length / 8)
    (h : ∀ j, j ≠ p → blk l (8 * j) = blk m (8 * j)) : sumL l = sumL m ↔ blk l (8 * p) = blk m (8 * p) := by
  rw [sumL_eq_iff]
  unfold final
  rw [← hl]
  constructor
  · intro e
    by_cases hb : blk l (8 * p) = blk m (8 * p)
    · exact hb
    · exfalso
      have h0 : st l p = st m p := st_same hl (fun j hj => h j (by omega))
      have h1 : st l (p + 1) ≠ st m (p + 1) := by
        simp only [st]
        intro e
        have := mix_inj (xor_lt64 (st_lt hlt p) (blk_lt _ _)) (xor_lt64 (st_lt (hl ▸ hlt) p) (blk_lt _ _)) e
        rw [h0] at this
        exact hb (xor_cancel_left this)
      have := st_ne_more hlt (hl ▸ hlt) (l.length / 8 - p) (fun j a _ => h j (by omega)) h1
      rw [show p + 1 + (l.length / 8 - p) = l.length / 8 + 1 from by omega] at this
      exact this e
  · intro e
    refine st_same hl (fun j _ => ?_)
    by_cases hj : j = p
    · subst hj; exact e
    · exact h j hj

theorem getD_eq_of_len {l m : List UInt8} (hl : l.length = m.length) (h : ∀ j, j < l.length → l.getD j 0 = m.getD j 0) : l = m := by
  apply List.ext_getElem hl
  intro i h1 h2
  have := h i h1
  simpa [List.getD_eq_getElem?_getD, List.getElem?_eq_getElem h1, List.getElem?_eq_getElem h2] using this

/-- Short texts: the same digest exactly if they are equal. -/
theorem short_inj {l m : List UInt8} (h1 : l.length ≤ 7) (h2 : m.length ≤ 7) : sumL l = sumL m ↔ l = m := by
  constructor
  · intro h
    have e := final_inj h
    unfold final at e
    have d1 : l.length / 8 = 0 := by omega
    have d2 : m.length / 8 = 0 := by omega
    rw [d1, d2] at e
    simp only [st, Nat.mul_zero] at e
    have e := mix_inj (xor_lt64 (st0_lt (by omega)) (blk_lt _ _)) (xor_lt64 (st0_lt (by omega)) (blk_lt _ _)) e
    unfold st0 at e
    rw [Nat.xor_assoc, Nat.xor_assoc] at e
    have e := xor_cancel_left e
    -- the last byte of the block is 0, and the length fits in it
    have z : ∀ (x : List UInt8), x.length ≤ 7 → blk x 0 = blkN x 0 7 * 256 := by
      intro x hx
      have : x.getD (0 + 7) 0 = 0 := by simp [List.getD_eq_getElem?_getD, List.getElem?_eq_none (show x.length ≤ 7 from hx)]
      show blkN x 0 7 * 256 + (x.getD (0 + 7) 0).toNat = _
      rw [this]; simp
    have xo : ∀ (x : List UInt8), x.length ≤ 7 → x.length ^^^ blk x 0 = blkN x 0 7 * 256 + x.length := by
      intro x hx
      rw [z x hx, Nat.xor_comm]
      have hb : x.length < 2 ^ 8 := by omega
      have := Nat.two_pow_add_eq_or_of_lt hb (blkN x 0 7)
      rw [show blkN x 0 7 * 256 = 2 ^ 8 * blkN x 0 7 from by omega]
      rw [this]
      apply Nat.eq_of_testBit_eq
      intro i
      rw [Nat.testBit_xor, Nat.testBit_or]
      by_cases hi : i < 8
      · have : (2 ^ 8 * blkN x 0 7).testBit i = false := by rw [Nat.testBit_two_pow_mul]; simp [show ¬ 8 ≤ i from by omega]
        rw [this]; simp
      · have : x.length.testBit i = false := Nat.testBit_lt_two_pow (Nat.lt_of_lt_of_le hb (Nat.pow_le_pow_right (by omega) (by omega)))
        rw [this]; simp
    rw [xo l h1, xo m h2] at e
    have el : l.length = m.length := by omega
    have eb : blkN l 0 7 = blkN m 0 7 := by omega
    refine getD_eq_of_len el (fun j hj => ?_)
    have := blkN_inj eb j (by omega)
    simpa using this
  · intro h; rw [h]

end Go.Proofs.YtdlipbfcadmhjaaDoor.Pl
