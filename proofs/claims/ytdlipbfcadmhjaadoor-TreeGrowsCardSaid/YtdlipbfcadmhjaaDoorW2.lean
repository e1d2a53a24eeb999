import Derived.Test.YtdlipbfcadmhjaaDoorW1
import Derived.Lib.BufferWrite
import Derived.Laws.Rows
import Derived.RegionTactic
namespace Go.Proofs.YtdlipbfcadmhjaaDoor
open Go.RowKit Go.Proofs.YtdlipbfcadmhjaaDoorW.PrintWords
set_option linter.unusedVariables false
set_option linter.unusedSimpArgs false

/-- 'copy(dst, s)', dst a whole row of n cells from its head on: as many of the string's bytes as fit. -/
theorem run_copy_string_all {P : Program} (w : World) (dT sT ty elem : TypeId) (g n : Nat) (s : ByteArray) (cur : Array Value) (t : TypeId)
    (hu : P.underlying dT = some (.slice elem)) (hs : (P.info? elem).map (·.size) = some 1) (hg : w.heap[g]? = some (.cells cur t (0, 0))) (hn : cur.size = n) :
    (Builtin.copy_ #[dT, sT] ty #[.slice (some ⟨g, 0, none⟩) n n, .string s]).run P w =
      .ok (goInt (Nat.min s.size n)) (w.setRow g ((Lib.byteCells s.data.toList).take n ++ cur.toList.drop (Nat.min s.size n)).toArray) := by
  have hl : ((Lib.byteCells s.data.toList).take (Nat.min s.size n)).length = Nat.min s.size n := by
    rw [List.length_take, Lib.byteCells_length, ← Lib.size_eq]
    exact Nat.min_eq_left (Nat.min_le_left _ _)
  have hst := run_storeCells_at P g 0 t ((Lib.byteCells s.data.toList).take (Nat.min s.size n)) 0 cur w hg (by rw [hl]; have := Nat.min_le_right s.size n; simpa [hn] using this)
    (fun v hv => Lib.byteCells_one _ v (List.mem_of_mem_take hv))
  rw [hl] at hst
  simp only [Nat.add_zero, Nat.zero_add, List.take_zero, List.nil_append] at hst
  have htk : List.take (Nat.min s.size n) (List.map (fun b : UInt8 => Value.int IntKind.u8 (b.toNat : Int)) s.data.toList) = (Lib.byteCells s.data.toList).take (Nat.min s.size n) := rfl
  have htn : (Lib.byteCells s.data.toList).take n = (Lib.byteCells s.data.toList).take (Nat.min s.size n) := by
    show _ = List.take (min s.size n) _
    by_cases h : s.size ≤ n
    · rw [Nat.min_eq_left h, List.take_of_length_le (by rw [Lib.byteCells_length, ← Lib.size_eq]; exact h), List.take_of_length_le (by rw [Lib.byteCells_length, ← Lib.size_eq]; exact Nat.le_refl _)]
    · rw [Nat.min_eq_right (by omega)]
  cases hq : P.info? elem with
  | none => simp [hq] at hs
  | some i =>
    simp [Builtin.copy_, run_underlying hu, Builtin.lenOf, Builtin.firstCells, sizeOf, typeInfo, hq]
    rw [htk, hst, htn]
    simp [Result.andThen]
end Go.Proofs.YtdlipbfcadmhjaaDoor
