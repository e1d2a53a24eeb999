/- seal, plain: the digits of a message. -/
import Derived.Test.YtdlipbfcadmhjaaDoorP1
namespace Go.Proofs.YtdlipbfcadmhjaaDoor.Pl
set_option linter.unusedVariables false
set_option linter.unusedSimpArgs false
open Go.Lib
theorem hexs_get : ∀ (j n i : Nat), i < j → (hexs j n).getD i 0 = hexd (n / 16 ^ (j - 1 - i) % 16)
  | 0, _, _, h => by omega
  | j + 1, n, i, h => by
    unfold hexs
    by_cases hi : i < j
    · rw [List.getD_eq_getElem?_getD, List.getElem?_append_left (by rw [hexs_length]; exact hi), ← List.getD_eq_getElem?_getD, hexs_get j (n / 16) i hi]
      rw [Nat.div_div_eq_div_mul, Nat.mul_comm, ← Nat.pow_succ, show (j - 1 - i).succ = j + 1 - 1 - i by omega]
    · obtain rfl : i = j := by omega
      rw [List.getD_eq_getElem?_getD, List.getElem?_append_right (by rw [hexs_length]; omega), hexs_length]
      simp
def dig (m : ByteArray) (i : Nat) : Nat := final m.data.toList / 16 ^ (15 - i) % 16
theorem dig_lt (m : ByteArray) (i : Nat) : dig m i < 16 := Nat.mod_lt _ (by omega)
theorem sum_get (m : ByteArray) (i : Nat) (h : i < 16) : (sum m).data.toList.getD i 0 = hexd (dig m i) := by
 rw [sum_data]; exact hexs_get 16 _ i h
def rest (m : ByteArray) : Nat → Nat
  | 0 => 0
  | i + 1 => rest m i + (15 - dig m i)
theorem rest_le (m : ByteArray) : ∀ i, rest m i ≤ 15 * i
  | 0 => Nat.zero_le _
  | i + 1 => by have := rest_le m i; simp only [rest]; omega
def dg (m : ByteArray) (k : Nat) : Nat := if k < 16 then dig m k else if k = 16 then rest m 16 / 16 else rest m 16 % 16
theorem dg_16 (m : ByteArray) : dg m 16 = rest m 16 / 16 := by unfold dg; rw [if_neg (by omega), if_pos rfl]
theorem dg_17 (m : ByteArray) : dg m 17 = rest m 16 % 16 := by unfold dg; rw [if_neg (by omega), if_neg (by omega)]
theorem dg_dig (m : ByteArray) {i : Nat} (h : i < 16) : dg m i = dig m i := by unfold dg; rw [if_pos h]
theorem rest_succ (m : ByteArray) (i : Nat) : rest m (i + 1) = rest m i + (15 - dig m i) := by rw [rest]
theorem dg_lt (m : ByteArray) (k : Nat) : dg m k < 16 := by
 unfold dg
 split
 ·exact dig_lt m k
 ·split
  ·have := rest_le m 16; omega
  ·exact Nat.mod_lt _ (by omega)
theorem idx_hexd (n : Nat) (h : n < 16) : Lib.indexByte hexSet (hexd n) = (n : Int) := by
 have : ∀ n : Fin 16, Lib.indexByte hexSet (hexd n.val) = (n.val : Int) := by decide
 exact this ⟨n, h⟩
def K18 : List (Fin 18) := List.finRange 18
theorem k18_len : K18.length = 18 := by simp [K18]
theorem k18_take (k : Nat) (h : k < 18) : K18.take (k + 1) = K18.take k ++ [⟨k, h⟩] := by
 rw [List.take_succ_eq_append_getElem (by rw [k18_len]; exact h)]
 simp [K18]
theorem k18_all : K18.take 18 = K18 := List.take_of_length_le (by rw [k18_len]; omega)
end Go.Proofs.YtdlipbfcadmhjaaDoor.Pl
