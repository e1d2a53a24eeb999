/- Plain: the joined text tells its list; how long it is; chains; what a digest is made of. -/
import Derived.Test.YtdlipbfcadmhjaaDoorWB
import Derived.Lib.ItoaLen
import Derived.Laws.Strings
import Derived.Lib.Strings
namespace Go.Proofs.YtdlipbfcadmhjaaDoor.Pl
set_option linter.unusedVariables false
set_option linter.unusedSimpArgs false
open Go.Lib
theorem dataLen (s : ByteArray) : s.data.toList.length = s.size := by rw [Array.length_toList]; rfl
theorem data_inj {a b : ByteArray} (h : a.data.toList = b.data.toList) : a = b := by
 cases a; cases b
 simp only [ByteArray.mk.injEq]
 exact Array.toList_inj.1 h
theorem joinedL_le_capN : ∀ l : List ByteArray, (∀ x ∈ l, x.size ≤ 9223372036854775807) → (joinedL l).length ≤ capN l + l.length
  | [], _ => Nat.zero_le _
  | s :: l, h => by
    have h1 := itoa_length_le (s.size : Int) (by omega) (by have := h s (by simp); omega)
    have h2 := joinedL_le_capN l fun x hx => h x (by simp [hx])
    have h3 := dataLen s
    simp only [joinedL, capN, List.length_append, List.length_cons]
    omega
def few (l : List ByteArray) (n : Nat) : Bool := l.all (fun x => decide (x.size ≤ n)) && decide (l.length ≤ 30)
theorem capN_le : ∀ (l : List ByteArray) (n : Nat), (∀ x ∈ l, x.size ≤ n) → capN l ≤ l.length * (n + 21)
  | [], _, _ => Nat.zero_le _
  | s :: l, n, h => by
    have h1 := capN_le l n fun x hx => h x (by simp [hx])
    have h2 := h s (by simp)
    simp only [capN, List.length_cons, Nat.succ_mul]
    omega
theorem few_caps {l : List ByteArray} {n : Nat} (h : few l n = true) (hn : n ≤ 1000000) : capN l ≤ 140737488355328 ∧ (joinedL l).length ≤ 140737488355328 ∧ (joined l).size ≤ 140737488355328 := by
 simp only [few, Bool.and_eq_true, List.all_eq_true, decide_eq_true_eq] at h
 have h1 := capN_le l n h.1
 have h2 := joinedL_le_capN l fun x hx => Nat.le_trans (h.1 x hx) (by omega)
 have h3 : l.length * (n + 21) ≤ 30 * (1000000 + 21) := Nat.mul_le_mul h.2 (by omega)
 rw [joined_size]
 omega
theorem toL (s : ByteArray) : s.toList = s.data.toList := ByteArray.toList_eq s
theorem toL_iff {a b : ByteArray} : a.toList = b.toList ↔ a = b := ⟨fun h => data_inj (by rw [← toL, h, toL]), fun h => by rw [h]⟩
theorem sum_data (a : ByteArray) : (sum a).data.toList = sumL a.data.toList := by simp [sum]
theorem sum_size (a : ByteArray) : (sum a).size = 16 := by rw [← dataLen, sum_data, sumL_length]
theorem ext_data (s : ByteArray) (a b : Nat) : (s.extract a b).data.toList = (s.data.toList.drop a).take (b - a) := by
 exact Go.Lib.extract_data s a b
def chn : Nat → ByteArray → ByteArray
  | 0, a => a
  | n + 1, a => chn n (sum a)
theorem chn_add (n m : Nat) (a : ByteArray) : chn m (chn n a) = chn (n + m) a := by
 induction n generalizing a with
 | zero => simp [chn]
 | succ n ih => rw [Nat.succ_add]; exact ih (sum a)
theorem chn_size (n : Nat) (a : ByteArray) : (chn (n + 1) a).size = 16 := by
 induction n generalizing a with
 | zero => exact sum_size a
 | succ n ih => exact ih (sum a)
theorem chn_is_sum (n : Nat) (a : ByteArray) : ∃ b, chn (n + 1) a = sum b := by
 induction n generalizing a with
 | zero => exact ⟨a, rfl⟩
 | succ n ih => exact ih (sum a)
theorem hexd_mem (n : Nat) (h : n < 16) : hexSet.contains (hexd n) = true := by
 have : ∀ n : Fin 16, hexSet.contains (hexd n.val) = true := by decide
 exact this ⟨n, h⟩
theorem hexs_all (j n : Nat) : (hexs j n).all (hexSet.contains ·) = true := by
 induction j generalizing n with
 | zero => rfl
 | succ j ih => simp only [hexs, List.all_append, ih, List.all_cons, List.all_nil, Bool.and_true, Bool.true_and]; exact hexd_mem _ (by omega)
theorem isDig_sum (a : ByteArray) : isDig (sum a) = true := by
 unfold isDig
 rw [sum_size, sum_data]
 simp only [decide_true, Bool.true_and]
 exact hexs_all _ _
end Go.Proofs.YtdlipbfcadmhjaaDoor.Pl
