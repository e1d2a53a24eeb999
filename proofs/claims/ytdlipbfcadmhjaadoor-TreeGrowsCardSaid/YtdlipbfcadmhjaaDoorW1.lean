import Derived.Test.YtdlipbfcadmhjaaDoorProg
import Derived.Test.YtdlipbfcadmhjaaDoorDig
import Derived.Test.YtdlipbfcadmhjaaDoorWWords
import Derived.WalkKit
import Derived.WalkSpells
import Derived.WalkLawsBesides
import Derived.Outline
import Derived.KernelRfl
import Derived.Lib.Hide
import Derived.Lib.UnsafeStr
import Derived.Laws.BitsAllLaws
namespace Go.Proofs.YtdlipbfcadmhjaaDoor
open Go.RowKit Go.Proofs.YtdlipbfcadmhjaaDoorW.PrintWords
set_option linter.unusedVariables false
set_option linter.unusedSimpArgs false

theorem u64_or_add (a c : Nat) (ha : a < 72057594037927936) (hc : c < 256) :
    bits .or .u64 (IntKind.u64.wrap ((a : Int) * 256)) (IntKind.u64.wrap (c : Int)) = ((a * 256 + c : Nat) : Int) := by
  have h := Nat.two_pow_add_eq_or_of_lt (i := 8) (by omega : c < 2 ^ 8) a
  have e : IntKind.u64.wrap ((a : Int) * 256) = ((2 ^ 8 * a : Nat) : Int) := by rw [IntKind.wrap_u64]; omega
  have e2 : IntKind.u64.wrap (c : Int) = (c : Int) := by rw [IntKind.wrap_u64]; omega
  rw [e, e2, u64_or_nat _ _ (by omega) (by omega), ← h]
  congr 1
  omega
theorem blk_step (bs : List UInt8) (j : Nat) (hj : j < 8) :
    bits .or .u64 (IntKind.u64.wrap ((Pl.blkN bs 0 j : Nat) * 256 : Int)) (IntKind.u64.wrap ((bs[j]?.getD 0).toNat : Int)) = ((Pl.blkN bs 0 (j + 1) : Nat) : Int) := by
  have h1 : Pl.blkN bs 0 j < 256 ^ 7 := Nat.lt_of_lt_of_le (Pl.blkN_lt bs 0 j) (Nat.pow_le_pow_right (by omega) (by omega))
  have h2 : (bs[j]?.getD 0).toNat < 256 := (bs[j]?.getD 0).toNat_lt
  rw [u64_or_add _ _ (by omega) h2]
  simp only [Pl.blkN, List.getD_eq_getElem?_getD, Nat.zero_add]

theorem wrapA (X : Nat) : IntKind.u64.wrap ((X : Int) * 2862933555777941757) = ((Pl.mulA X : Nat) : Int) := by
  rw [IntKind.wrap_u64]; unfold Pl.mulA; omega
theorem wrapB (X : Nat) : IntKind.u64.wrap ((X : Int) * 3935559000370003845) = ((Pl.mulB X : Nat) : Int) := by
  rw [IntKind.wrap_u64]; unfold Pl.mulB; omega
/-- What Go computes is what the plain function says. -/
theorem mixI (X : Nat) :
    bits .xor .u64 (IntKind.u64.wrap (bits .xor .u64 (IntKind.u64.wrap ((X : Int) * 2862933555777941757)) (IntKind.u64.wrap ((X : Int) * 2862933555777941757) / 4294967296) * 3935559000370003845))
      (IntKind.u64.wrap (bits .xor .u64 (IntKind.u64.wrap ((X : Int) * 2862933555777941757)) (IntKind.u64.wrap ((X : Int) * 2862933555777941757) / 4294967296) * 3935559000370003845) / 536870912)
      = ((Pl.mix X : Nat) : Int) := by
  rw [wrapA, show ((4294967296 : Int)) = ((4294967296 : Nat) : Int) from rfl, xorShift_u64 _ 4294967296 (Pl.mulA_lt X), wrapB,
    show ((536870912 : Int)) = ((536870912 : Nat) : Int) from rfl, xorShift_u64 _ 536870912 (Pl.mulB_lt _)]
  rfl

theorem only_alloc {a w : World} {row : Option Nat} (h : a.grownBy w row) (o : Obj) : a.grownBy (w.alloc o) row :=
  ⟨h.os, h.tape, h.output, Nat.le_trans h.size (by simp), fun i hi hne => (Below.heap_alloc w o i (Nat.lt_of_lt_of_le hi h.size)).trans (h.block i hi hne)⟩
theorem only_setCell {a w : World} {g : Nat} (h : a.grownBy w (some g)) {p : Addr} (hp : p.block = g ∨ a.heap.size ≤ p.block) (u : Value) : a.grownBy (w.setCell p u) (some g) :=
  ⟨h.os, h.tape, h.output, by simpa [World.setCell] using h.size, fun i hi hne => (Below.heap_setCell w p u i (by
    rintro rfl
    rcases hp with hp | hp
    · exact hne (by rw [hp])
    · omega)).trans (h.block i hi hne)⟩
theorem only_drewN {a w : World} {row : Option Nat} (h : a.grownBy w row) (n : Nat) : a.grownBy (w.drewN n) row := ⟨h.os, h.tape, h.output, h.size, h.block⟩
theorem only_drew {a w : World} {row : Option Nat} (h : a.grownBy w row) : a.grownBy w.drew row := ⟨h.os, h.tape, h.output, h.size, h.block⟩
theorem only_refl (w : World) (row : Option Nat) : w.grownBy w row := ⟨rfl, rfl, rfl, Nat.le_refl _, fun _ _ _ => rfl⟩

set_option maxHeartbeats 1000000 in
theorem take_any (b : Nat) (x : Nat) (hx : x < 18446744073709551616) (bs : List UInt8) (hl : bs.length = 8) (w : World)
    (hb : w.heap[b]? = some (.cells #[.int .u64 (x : Int)] 63 (0, 0))) :
    Calls Tryd.prog 50 #[.pointer (some ⟨b, 0, none⟩), .agg (Lib.byteCells bs).toArray] w fun e w' =>
      e = .returned (.tuple #[]) ∧ w'.heap[b]? = some (.cells #[.int .u64 ((Pl.mix (x ^^^ Pl.blkN bs 0 8) : Nat) : Int)] 63 (0, 0)) ∧ w.grownBy w' (some b) := by
  have Hl := Lib.hid hl
  have Hb := Lib.hid hb
  have Hx := Lib.hid hx
  clear hl hb hx
  go_enter Tryd.func50, Tryd.ntmps50
  go_wp2
  go_loop [4, 7] (fun n k => ∃ j : Nat, j ≤ 8 ∧ k = .int .i64 j ∧ n = .int .u64 (Pl.blkN bs 0 j : Nat)) (fun _ k => 8 - (intOf k).toNat)
  case atStart => exact ⟨0, by omega, rfl, rfl⟩
  case round =>
    obtain ⟨j, hj, rfl, rfl⟩ := hrel
    by_cases hlt : j < 8
    · have hcell : (w.alloc (Obj.cells (Lib.byteCells bs).toArray 100)).cell? ⟨w.heap.size, j, none⟩ = some (.int .u8 ((bs.getD j 0).toNat : Int)) := by
        rw [World.cell?_alloc_at _ _ _ _ rfl]
        have := Hl.out
        simp [Lib.byteCells, List.getD_eq_getElem?_getD, List.getElem?_eq_getElem (show j < bs.length by omega)]
      have HS := Lib.hid (blk_step bs j hlt)
      go_wp2
      go_round
      case rel => exact ⟨j + 1, by omega, by go_num, by rw [HS.out]⟩
      case measure => simp [intOf]; omega
    · obtain rfl : j = 8 := by omega
      have hb1 := blk_alloc Hb.out (Obj.cells (Lib.byteCells bs).toArray 100)
      have hcb : (w.alloc (Obj.cells (Lib.byteCells bs).toArray 100)).cell? ⟨b, 0, none⟩ = some (.int .u64 (x : Int)) := (blk_cell hb1 0).trans rfl
      have hfb : (w.alloc (Obj.cells (Lib.byteCells bs).toArray 100)).frozen? ⟨b, 0, none⟩ = false := blk_frozen hb1 0
      have Hb1 := Lib.hid hb1
      clear hb1
      clear hlt hj
      go_wp2
      go_end0
      refine ⟨rfl, ?_, ?_⟩
      · rw [blk_set Hb1.out 0]
        rw [u64_xor_nat x _ Hx.out (Nat.lt_of_lt_of_le (Pl.blkN_lt bs 0 8) (by decide)), mixI]
        rfl
      · exact only_setCell (only_alloc (only_refl w _) _) (.inl rfl) _
end Go.Proofs.YtdlipbfcadmhjaaDoor
