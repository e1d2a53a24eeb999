/- The rows' kit: the laid tables' fact out of the row's condition, the witness's world, a slice of strings opened. -/
import Derived.Test.YtdlipbfcadmhjaaDoorRows
import Derived.Test.YtdlipbfcadmhjaaDoorWB
import Derived.WalkKit
import Derived.ProofKit
import Derived.OpenShut
import Derived.ShutString
import Derived.ChangeOld
import Derived.Below
import Derived.SizedLaws
import Derived.SliceStrings
import Derived.Lay
import Derived.Stop.LaidErr
import Derived.Carry
import Derived.MakeChecks
namespace Go.Proofs.YtdlipbfcadmhjaaDoor
set_option linter.unusedVariables false
set_option linter.unusedSimpArgs false
open Go.ChangeShapes Go.WideShapes Go.ChangeAt Go.RowKit Go.Proofs.YtdlipbfcadmhjaaDoorW.PrintWords
def laidL : List (String × DataW Unit) := [("math/bits.deBruijn32tab", Rows.laid_math_bits_deBruijn32tab), ("math/bits.deBruijn64tab", Rows.laid_math_bits_deBruijn64tab), ("internal/strconv.uint64pow10", Rows.laid_internal_strconv_uint64pow10), ("unicode/utf8.acceptRanges", Rows.laid_unicode_utf8_acceptRanges), ("unicode/utf8.first", Rows.laid_unicode_utf8_first)]
theorem laidL_plain (w : World) : laidMetH Tryd.prog laidL w = laidMet Tryd.prog laidL w := MakeChecks.laidMetH_plain _ _ _ (by kernel_rfl)
theorem gl_of_laid {W : World} (h : laidMetH Tryd.prog laidL W) : GL W := by
 rw [laidL_plain] at h
 have h2 := laidMet.tail h
 have h3 := laidMet.tail h2
 refine ⟨Lib.tabIs_of_head (zs := Lib.pow10Tab) (k := .u64) (g := 0) (t := 139) (e := 62) (n := 20) (by kernel_rfl) (by kernel_rfl) (by kernel_rfl) (by kernel_rfl) (by kernel_rfl) (by kernel_rfl) h3, ?_⟩
 have hd := Lib.tabIs_of_head (zs := [0, 1, 56, 2, 57, 49, 28, 3, 61, 58, 42, 50, 38, 29, 17, 4, 62, 47, 59, 36, 45, 43, 51, 22, 53, 39, 33, 30, 24, 18, 12, 5, 63, 55, 48, 27, 60, 41, 37, 16, 46, 35, 44, 21, 52, 32, 23, 11, 54, 26, 40, 15, 34, 20, 31, 10, 25, 14, 19, 9, 13, 8, 7, 6]) (k := .u8) (g := 5) (t := 153) (e := 5) (n := 64) (by kernel_rfl) (by kernel_rfl) (by kernel_rfl) (by kernel_rfl) (by kernel_rfl) (by kernel_rfl) h2
 exact Lib.TabIs.cell hd (by kernel_rfl) 15 (by decide)
theorem laidL_witness (os : Os) (args : Array Value) : laidMetH Tryd.prog laidL ((World.laidAll Tryd.prog os laidL).forCall (fun _ _ => 0) ⟨#[], args, []⟩).memory := by
 rw [laidL_plain]
 exact laidMet_laidAll _ (by kernel_rfl) (by kernel_rfl)
theorem own : ownKnob Tryd.prog.godebug = none := by kernel_rfl
theorem laidOut : laidOutB Tryd.prog = true := by kernel_rfl
theorem open_row_strs {H : Type} {enc : TypeId × Value → H} {W : World} {a : Option Addr} {len cap : Nat} {d : DataW H} {ps : List MemPlace}
    (h : DataW.Trod enc Tryd.prog W 0 (fun _ => true) true 22 (.slice a len cap) d ps) :
    ∃ xs : List ByteArray, xs.length = len ∧ len ≤ cap ∧ Kd.C Kd.string W a len xs ∧ len ≤ 9223372036854775807 ∧ ∀ x ∈ xs, x.size ≤ 9223372036854775807 := by
 obtain ⟨fuel, hf⟩ := h
 rcases open_strings (show Tryd.prog.underlying 22 = some (.slice 9) by kernel_rfl) (show Tryd.prog.underlying 9 = some .string by kernel_rfl) (show Tryd.prog.cellsOf 9 = 1 by kernel_rfl) hf with ⟨hcs, _⟩ | ⟨x, l, c, ss, hcs, _, hl, hm, hz, _, hcell, hsz⟩
 ·simp [Value.cells] at hcs
  obtain ⟨rfl, rfl, rfl⟩ := hcs
  exact ⟨[], rfl, Nat.le_refl _, ⟨rfl, by omega, fun h => absurd h (by omega)⟩, by omega, fun x hx => by cases hx⟩
 ·simp [Value.cells] at hcs
  obtain ⟨rfl, rfl, rfl⟩ := hcs
  simp only [if_true] at hz
  have hm' : cap ≤ 9223372036854775807 := hm
  have hL : (ss.take len).length = len := by simp; omega
  refine ⟨ss.take len, hL, hl, ⟨hL, by omega, fun _ => ⟨x, rfl, fun j p hj => ⟨[.string p], rfl, rfl, fun i u hu => ?_⟩⟩⟩, by omega, fun y hy => hsz y (List.mem_of_mem_take hy)⟩
  have hjl : j < len := by have := (List.getElem?_eq_some_iff.1 hj).1; omega
  have hp : ss.getD j ByteArray.empty = p := by
   rw [List.getElem?_take_of_lt hjl] at hj
   simp [List.getD, hj]
  obtain ⟨rfl, rfl⟩ : i = 0 ∧ u = .string p := by
   cases i with
   | zero => simpa using hu.symm
   | succ i => simp at hu
  rw [← hp]
  simpa [Kd.string, Kd.scalar] using hcell j (by omega)
end Go.Proofs.YtdlipbfcadmhjaaDoor
