/- The rows' kit: a seal by value, opened. -/
import Derived.Test.YtdlipbfcadmhjaaDoorGR
import Derived.Lib.SmallJoins
namespace Go.Proofs.YtdlipbfcadmhjaaDoor
set_option linter.unusedVariables false
set_option linter.unusedSimpArgs false
open Go.ChangeShapes Go.WideShapes Go.ChangeAt Go.RowKit Go.Proofs.YtdlipbfcadmhjaaDoorW.PrintWords
theorem trod_slice_some {H : Type} {enc : TypeId × Value → H} {W : World} {n : Nat} {v : Value} {y : DataW H × List MemPlace} (h : DataW.trod enc Tryd.prog W 0 (fun _ => true) true n 22 [v] = some y) :
    ∃ a l c, v = .slice a l c ∧ DataW.Trod enc Tryd.prog W 0 (fun _ => true) true 22 (.slice a l c) y.1 y.2 := by
 obtain ⟨a, l, c, hv⟩ := Joins.slice_form Tryd.underlying22 h
 obtain rfl : v = .slice a l c := by simpa using hv
 exact ⟨a, l, c, rfl, n, by simpa [Value.cells] using h⟩
set_option maxRecDepth 100000 in
theorem open_seal {H : Type} {enc : TypeId × Value → H} {W : World} {r : Reach} {b0 : Nat} {v : Value} {d : DataW H} {ps : List MemPlace} (hv : Value.okWide Tryd.prog W r b0 53 v)
    (h : DataW.Trod enc Tryd.prog W 0 (fun _ => true) true 53 v d ps) :
    ∃ (i : Int) (a1 : Option Addr) (c1 : Nat) (xs : List ByteArray) (a2 : Option Addr) (c2 : Nat) (ys : List ByteArray), v = .agg #[.int .i64 i, .slice a1 xs.length c1, .slice a2 ys.length c2] ∧ (Lit.int .i64 i).wf = true ∧
      (xs.length ≤ c1 ∧ Kd.C Kd.string W a1 xs.length xs ∧ xs.length ≤ 9223372036854775807 ∧ ∀ x ∈ xs, x.size ≤ 9223372036854775807) ∧
      (ys.length ≤ c2 ∧ Kd.C Kd.string W a2 ys.length ys ∧ ys.length ≤ 9223372036854775807 ∧ ∀ x ∈ ys, x.size ≤ 9223372036854775807) := by
 obtain ⟨v0, v1, v2, y0, y1, y2, n, rfl, _, _, h0, h1, h2⟩ := Joins.open_agg3 Tryd.underlying53 (by kernel_rfl) (by kernel_rfl) hv h
 obtain ⟨i, e0, _, wi⟩ := DataW.trod_int Tryd.underlying3 h0
 obtain rfl : v0 = .int .i64 i := by simpa using e0
 obtain ⟨a1, l1, c1, rfl, t1⟩ := trod_slice_some h1
 obtain ⟨a2, l2, c2, rfl, t2⟩ := trod_slice_some h2
 obtain ⟨xs, rfl, hx⟩ := open_row_strs t1
 obtain ⟨ys, rfl, hy⟩ := open_row_strs t2
 exact ⟨i, a1, c1, xs, a2, c2, ys, rfl, wi, hx, hy⟩
end Go.Proofs.YtdlipbfcadmhjaaDoor
