/- Texts of this claim, in one file. -/
import Derived.Test.YtdlipbfcadmhjaaGreatDoorRows
import Derived.Test.YtdlipbfcadmhjaaGreatDoorWB
import Derived.WalkKit
import Derived.ProofKit
import Derived.OpenShut
import Derived.ShutString
import Derived.ChangeOld
import Derived.Below
import Derived.SizedLaws
import Derived.SliceStrings
import Derived.Lay
import Derived.Stop.LaidErr
import Derived.Carry
import Derived.MakeChecks
import Derived.Lib.SmallJoins
set_option linter.unusedSimpArgs false
set_option linter.unusedVariables false
namespace Go.Proofs.YtdlipbfcadmhjaaGreatDoor
open Go.ChangeShapes Go.WideShapes Go.ChangeAt Go.RowKit Go.Proofs.YtdlipbfcadmhjaaGreatDoorW.PrintWords
def laidL : List (String × DataW Unit) := [("math/bits.deBruijn32tab", Rows.laid_math_bits_deBruijn32tab), ("math/bits.deBruijn64tab", Rows.laid_math_bits_deBruijn64tab), ("internal/strconv.uint64pow10", Rows.laid_internal_strconv_uint64pow10), ("unicode/utf8.acceptRanges", Rows.laid_unicode_utf8_acceptRanges), ("unicode/utf8.first", Rows.laid_unicode_utf8_first)]
theorem laidL_plain (w : World) : laidMetH Tryz.prog laidL w = laidMet Tryz.prog laidL w := MakeChecks.laidMetH_plain _ _ _ (by kernel_rfl)
theorem gl_of_laid {W : World} (h : laidMetH Tryz.prog laidL W) : GL W := by
 rw [laidL_plain] at h
 have h2 := laidMet.tail h
 have h3 := laidMet.tail h2
 refine ⟨Lib.tabIs_of_head (zs := Lib.pow10Tab) (k := .u64) (g := 0) (t := 230) (e := 141) (n := 20) (by kernel_rfl) (by kernel_rfl) (by kernel_rfl) (by kernel_rfl) (by kernel_rfl) (by kernel_rfl) h3, ?_⟩
 have hd := Lib.tabIs_of_head (zs := [0, 1, 56, 2, 57, 49, 28, 3, 61, 58, 42, 50, 38, 29, 17, 4, 62, 47, 59, 36, 45, 43, 51, 22, 53, 39, 33, 30, 24, 18, 12, 5, 63, 55, 48, 27, 60, 41, 37, 16, 46, 35, 44, 21, 52, 32, 23, 11, 54, 26, 40, 15, 34, 20, 31, 10, 25, 14, 19, 9, 13, 8, 7, 6]) (k := .u8) (g := 5) (t := 251) (e := 5) (n := 64) (by kernel_rfl) (by kernel_rfl) (by kernel_rfl) (by kernel_rfl) (by kernel_rfl) (by kernel_rfl) h2
 exact Lib.TabIs.cell hd (by kernel_rfl) 15 (by decide)
theorem laidL_witness (os : Os) (args : Array Value) : laidMetH Tryz.prog laidL ((World.laidAll Tryz.prog os laidL).forCall (fun _ _ => 0) ⟨#[], args, []⟩).memory := by
 rw [laidL_plain]
 exact laidMet_laidAll _ (by kernel_rfl) (by kernel_rfl)
theorem own : ownKnob Tryz.prog.godebug = none := by kernel_rfl
theorem laidOut : laidOutB Tryz.prog = true := by kernel_rfl
theorem open_row_strs {H : Type} {enc : TypeId × Value → H} {W : World} {a : Option Addr} {len cap : Nat} {d : DataW H} {ps : List MemPlace}
    (h : DataW.Trod enc Tryz.prog W 0 (fun _ => true) true 30 (.slice a len cap) d ps) :
    ∃ xs : List ByteArray, xs.length = len ∧ len ≤ cap ∧ Kd.C Kd.string W a len xs ∧ len ≤ 9223372036854775807 ∧ ∀ x ∈ xs, x.size ≤ 9223372036854775807 := by
 obtain ⟨fuel, hf⟩ := h
 rcases open_strings (show Tryz.prog.underlying 30 = some (.slice 9) by kernel_rfl) (show Tryz.prog.underlying 9 = some .string by kernel_rfl) (show Tryz.prog.cellsOf 9 = 1 by kernel_rfl) hf with ⟨hcs, _⟩ | ⟨x, l, c, ss, hcs, _, hl, hm, hz, _, hcell, hsz⟩
 ·simp [Value.cells] at hcs
  obtain ⟨rfl, rfl, rfl⟩ := hcs
  exact ⟨[], rfl, Nat.le_refl _, ⟨rfl, by omega, fun h => absurd h (by omega)⟩, by omega, fun x hx => by cases hx⟩
 ·simp [Value.cells] at hcs
  obtain ⟨rfl, rfl, rfl⟩ := hcs
  simp only [if_true] at hz
  have hm' : cap ≤ 9223372036854775807 := hm
  have hL : (ss.take len).length = len := by simp; omega
  refine ⟨ss.take len, hL, hl, ⟨hL, by omega, fun _ => ⟨x, rfl, fun j p hj => ⟨[.string p], rfl, rfl, fun i u hu => ?_⟩⟩⟩, by omega, fun y hy => hsz y (List.mem_of_mem_take hy)⟩
  have hjl : j < len := by have := (List.getElem?_eq_some_iff.1 hj).1; omega
  have hp : ss.getD j ByteArray.empty = p := by
   rw [List.getElem?_take_of_lt hjl] at hj
   simp [List.getD, hj]
  obtain ⟨rfl, rfl⟩ : i = 0 ∧ u = .string p := by
   cases i with
   | zero => simpa using hu.symm
   | succ i => simp at hu
  rw [← hp]
  simpa [Kd.string, Kd.scalar] using hcell j (by omega)
end Go.Proofs.YtdlipbfcadmhjaaGreatDoor

namespace Go.Proofs.YtdlipbfcadmhjaaGreatDoor
open Go.ChangeShapes Go.WideShapes Go.ChangeAt Go.RowKit Go.Proofs.YtdlipbfcadmhjaaGreatDoorW.PrintWords
theorem trod_slice_some {H : Type} {enc : TypeId × Value → H} {W : World} {n : Nat} {v : Value} {y : DataW H × List MemPlace} (h : DataW.trod enc Tryz.prog W 0 (fun _ => true) true n 30 [v] = some y) :
    ∃ a l c, v = .slice a l c ∧ DataW.Trod enc Tryz.prog W 0 (fun _ => true) true 30 (.slice a l c) y.1 y.2 := by
 obtain ⟨a, l, c, hv⟩ := Joins.slice_form Tryz.underlying30 h
 obtain rfl : v = .slice a l c := by simpa using hv
 exact ⟨a, l, c, rfl, n, by simpa [Value.cells] using h⟩
set_option maxRecDepth 100000 in
theorem open_seal {H : Type} {enc : TypeId × Value → H} {W : World} {r : Reach} {b0 : Nat} {v : Value} {d : DataW H} {ps : List MemPlace} (hv : Value.okWide Tryz.prog W r b0 33 v)
    (h : DataW.Trod enc Tryz.prog W 0 (fun _ => true) true 33 v d ps) :
    ∃ (i : Int) (a1 : Option Addr) (c1 : Nat) (xs : List ByteArray) (a2 : Option Addr) (c2 : Nat) (ys : List ByteArray), v = .agg #[.int .i64 i, .slice a1 xs.length c1, .slice a2 ys.length c2] ∧ (Lit.int .i64 i).wf = true ∧
      (xs.length ≤ c1 ∧ Kd.C Kd.string W a1 xs.length xs ∧ xs.length ≤ 9223372036854775807 ∧ ∀ x ∈ xs, x.size ≤ 9223372036854775807) ∧
      (ys.length ≤ c2 ∧ Kd.C Kd.string W a2 ys.length ys ∧ ys.length ≤ 9223372036854775807 ∧ ∀ x ∈ ys, x.size ≤ 9223372036854775807) := by
 obtain ⟨v0, v1, v2, y0, y1, y2, n, rfl, _, _, h0, h1, h2⟩ := Joins.open_agg3 Tryz.underlying33 (by kernel_rfl) (by kernel_rfl) hv h
 obtain ⟨i, e0, _, wi⟩ := DataW.trod_int Tryz.underlying3 h0
 obtain rfl : v0 = .int .i64 i := by simpa using e0
 obtain ⟨a1, l1, c1, rfl, t1⟩ := trod_slice_some h1
 obtain ⟨a2, l2, c2, rfl, t2⟩ := trod_slice_some h2
 obtain ⟨xs, rfl, hx⟩ := open_row_strs t1
 obtain ⟨ys, rfl, hy⟩ := open_row_strs t2
 exact ⟨i, a1, c1, xs, a2, c2, ys, rfl, wi, hx, hy⟩
end Go.Proofs.YtdlipbfcadmhjaaGreatDoor
