import Derived.Test.YtdlipbfcadmhjaaDoorW7
namespace Go.Proofs.YtdlipbfcadmhjaaDoor
open Go.RowKit Go.Proofs.YtdlipbfcadmhjaaDoorW.PrintWords
set_option linter.unusedVariables false
set_option linter.unusedSimpArgs false

/-- The digits of q, none for 0, ahead of what is held. -/
def Held (n q : Nat) (s : ByteArray) : Prop := (if q = 0 then [] else Lib.decDigits q) ++ s.data.toList = Lib.decDigits n

theorem piece (d : Nat) (h : d < 10) : ((⟨#[48, 49, 50, 51, 52, 53, 54, 55, 56, 57]⟩ : ByteArray).extract d (d + 1)).data.toList = [UInt8.ofNat (48 + d)] := by
  rw [Lib.extract_data]
  have key : ∀ x : Fin 10, (([48, 49, 50, 51, 52, 53, 54, 55, 56, 57] : List UInt8).drop x.1).take (x.1 + 1 - x.1) = [UInt8.ofNat (48 + x.1)] := by decide
  exact key ⟨d, h⟩
theorem dec_step (n : Nat) : Lib.decDigits n = (if n / 10 = 0 then [] else Lib.decDigits (n / 10)) ++ [UInt8.ofNat (48 + n % 10)] := by
  conv => lhs; rw [Lib.decDigits]
  by_cases h : n < 10
  · rw [dif_pos h, if_pos (by omega), Nat.mod_eq_of_lt h]; rfl
  · rw [dif_neg h, if_neg (by omega)]
theorem held_start (n : Nat) : Held n (n / 10) ((⟨#[48, 49, 50, 51, 52, 53, 54, 55, 56, 57]⟩ : ByteArray).extract (n % 10) (n % 10 + 1)) := by
  unfold Held
  rw [piece _ (Nat.mod_lt _ (by omega)), ← dec_step]
theorem held_step {n q : Nat} {s : ByteArray} (h : Held n q s) (hq : 0 < q) : Held n (q / 10) ((⟨#[48, 49, 50, 51, 52, 53, 54, 55, 56, 57]⟩ : ByteArray).extract (q % 10) (q % 10 + 1) ++ s) := by
  unfold Held at h ⊢
  rw [ByteArray.data_append, Array.toList_append, piece _ (Nat.mod_lt _ (by omega)), ← List.append_assoc, ← dec_step]
  rw [if_neg (by omega)] at h
  exact h
theorem dec_size (n : Nat) (hn : n < 18446744073709551616) : (⟨(Lib.decDigits n).toArray⟩ : ByteArray).size ≤ 100 := by
  have h2 : ∀ (k m : Nat), m < 10 ^ (k + 1) → (Lib.decDigits m).length ≤ k + 1 := by
    intro k
    induction k with
    | zero => intro m hm; rw [Lib.decDigits, dif_pos (by omega)]; simp
    | succ k ih =>
      intro m hm
      rw [dec_step, List.length_append]
      by_cases h0 : m / 10 = 0
      · rw [if_pos h0]; simp
      · rw [if_neg h0]
        have := ih (m / 10) (by rw [Nat.pow_succ] at hm; omega)
        simp; omega
  have := h2 19 n (by omega)
  show (Lib.decDigits n).toArray.size ≤ 100
  rw [List.size_toArray]
  omega
theorem held_size {n q : Nat} {s : ByteArray} (h : Held n q s) (hn : n < 18446744073709551616) : s.size ≤ 100 := by
  have h1 : s.data.toList.length ≤ (Lib.decDigits n).length := by rw [← h, List.length_append]; omega
  rw [data_length] at h1
  have h2 : ∀ (k m : Nat), m < 10 ^ (k + 1) → (Lib.decDigits m).length ≤ k + 1 := by
    intro k
    induction k with
    | zero => intro m hm; rw [Lib.decDigits, dif_pos (by omega)]; simp
    | succ k ih =>
      intro m hm
      rw [dec_step, List.length_append]
      by_cases h0 : m / 10 = 0
      · rw [if_pos h0]; simp
      · rw [if_neg h0]
        have := ih (m / 10) (by rw [Nat.pow_succ] at hm; omega)
        simp; omega
  have := h2 19 n (by omega)
  omega

set_option maxRecDepth 100000 in
set_option maxHeartbeats 1000000 in
theorem digits_any (n : Nat) (hn : n < 18446744073709551616) (w : World) :
    Calls Tryd.prog 99 #[.int .u64 (n : Int)] w fun e w' => e = .returned (.string ⟨(Lib.decDigits n).toArray⟩) ∧ w = w' := by
  have hn2 : (n : Int) ≤ 18446744073709551615 := by omega
  go_enter Tryd.func99, Tryd.ntmps99
  go_wp2
  go_loop [0, 3] (fun u s => ∃ (q : Nat) (sb : ByteArray), q ≤ 18446744073709551615 ∧ Hid (Held n q sb) ∧ u = .int .u64 (q : Int) ∧ s = .string sb) (fun u _ => (intOf u).toNat)
  case atStart => exact ⟨n / 10, _, by omega, Lib.hid (held_start n), by go_num, rfl⟩
  case round =>
    obtain ⟨q, sb, hq, Hh, rfl, rfl⟩ := hrel
    have hsz := held_size Hh.out hn
    by_cases hlt : 0 < q
    · have hes : ((⟨#[48, 49, 50, 51, 52, 53, 54, 55, 56, 57]⟩ : ByteArray).extract (q % 10) (q % 10 + 1)).size ≤ 1 := by
        rw [← data_length, piece _ (Nat.mod_lt _ (by omega))]; exact Nat.le_refl _
      go_wp2
      go_round
      case rel => exact ⟨q / 10, _, by omega, Lib.hid (held_step Hh.out hlt), by go_num, rfl⟩
      case measure => simp [intOf]; omega
    · obtain rfl : q = 0 := by omega
      go_wp2
      go_ret
      have h := Hh.out
      unfold Held at h
      rw [if_pos rfl, List.nil_append] at h
      exact ⟨ret_str (a := sb) (by rw [← h]), rfl⟩

set_option maxRecDepth 100000 in
theorem decimal_nonneg (n : Int) (h0 : 0 ≤ n) (h1 : n ≤ 9223372036854775807) (w : World) :
    Calls Tryd.prog 60 #[.int .i64 n] w fun e w' => e = .returned (.string ⟨(Lib.itoa n).toArray⟩) ∧ w = w' := by
  obtain ⟨k, rfl⟩ := Int.eq_ofNat_of_zero_le h0
  have hneg : decide ((k : Int) < 0) = false := by simp
  go_enter Tryd.func60, Tryd.ntmps60
  go_wp2_with fail
  refine (digits_any k (by omega) _).mono ?_
  rintro e w' ⟨rfl, rfl⟩
  go_wp2
  go_ret
  exact ⟨ret_str (by rw [Lib.itoa_nonneg]), rfl⟩
set_option maxRecDepth 100000 in
theorem decimal_neg (k : Nat) (h0 : 1 ≤ k) (h1 : k ≤ 9223372036854775808) (w : World) :
    Calls Tryd.prog 60 #[.int .i64 (-(k : Int))] w fun e w' => e = .returned (.string ⟨(Lib.itoa (-(k : Int))).toArray⟩) ∧ w = w' := by
  have hneg : decide (-(k : Int) < 0) = true := by simp; omega
  have HK := Lib.hid h1
  clear h1
  go_enter Tryd.func60, Tryd.ntmps60
  go_wp2_with fail
  rw [show IntKind.u64.wrap (IntKind.u64.wrap (wrap64 (-wrap64 (-(k : Int) + 1))) + 1) = (k : Int) from by
    have := HK.out
    unfold wrap64
    rw [IntKind.wrap_u64, IntKind.wrap_u64]
    omega]
  refine (digits_any k (by have := HK.out; omega) _).mono ?_
  rintro e w' ⟨rfl, rfl⟩
  have hsz : (⟨(Lib.decDigits k).toArray⟩ : ByteArray).size ≤ 100 := dec_size k (by have := HK.out; omega)
  obtain ⟨z, hz⟩ : ∃ z : ByteArray, (⟨(Lib.decDigits k).toArray⟩ : ByteArray) = z := ⟨_, rfl⟩
  rw [hz] at hsz ⊢
  have Hz := Lib.hid hz
  clear hz
  go_wp2
  go_ret
  refine ⟨ret_str (a := (⟨#[45]⟩ : ByteArray) ++ z) ?_, rfl⟩
  rw [← Hz.out, Lib.itoa_neg k h0]
  apply ByteArray.ext
  simp

def customhouseref01_Decimal.f (a : Int) : Option ByteArray := if -9223372036854775808 ≤ a then if a ≤ 9223372036854775807 then some ⟨(Lib.itoa a).toArray⟩ else none else none
theorem customhouseref01_Decimal.calls (a0 : Int) (r : ByteArray) (w : World) (h : customhouseref01_Decimal.f a0 = some r) :
    Calls Tryd.prog 60 #[.int .i64 a0] w fun e w' => e = .returned (.string r) ∧ Drawn0 w w' := by
  unfold customhouseref01_Decimal.f at h
  by_cases h1 : -9223372036854775808 ≤ a0
  · by_cases h2 : a0 ≤ 9223372036854775807
    · rw [if_pos h1, if_pos h2] at h
      obtain rfl := Option.some.inj h
      by_cases hn : 0 ≤ a0
      · refine (decimal_nonneg a0 hn h2 w).mono ?_
        rintro e w' ⟨rfl, rfl⟩
        exact ⟨rfl, Drawn0.refl _⟩
      · obtain ⟨k, hk⟩ : ∃ k : Nat, a0 = -(k : Int) := ⟨a0.natAbs, by omega⟩
        subst hk
        refine (decimal_neg k (by omega) (by omega) w).mono ?_
        rintro e w' ⟨rfl, rfl⟩
        exact ⟨rfl, Drawn0.refl _⟩
    · rw [if_pos h1, if_neg h2] at h
      cases h
  · rw [if_neg h1] at h
    cases h
end Go.Proofs.YtdlipbfcadmhjaaDoor
