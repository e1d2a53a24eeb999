/- Plain digests, joined texts, the shelf's contracts that are used, and the walks of digest, ref01.Joined and ref01.Decimal, in one text. -/
import Derived.Test.YtdlipbfcadmhjaaDoorProg
import Derived.Test.YtdlipbfcadmhjaaDoorWA
import Derived.Lib.LaidTab
import Derived.Shelf.Strconv.Itoa3
import Derived.KernelRfl
import Derived.WalkSmall
import Derived.WalkKit
import Derived.WalkSpells
import Derived.WalkLawsBesides
import Derived.Outline
import Derived.Lib.Hide
import Derived.Lib.UnsafeStr
import Derived.Laws.BitsAllLaws
import Derived.Lib.BufferWrite
import Derived.Laws.Rows
import Derived.RegionTactic
import Derived.Lib.IndexBytes
import Derived.Shelf.Abstract
import Derived.Shelf.Strings.Builder1
import Derived.Shelf.Strings.Trim
import Derived.Shelf.Small.Strs
import Derived.Shelf.LaysM
import Derived.Shelf.Strings.AsciiSet
import Derived.Shelf.Strings.Repeat
import Derived.Shelf.Slices.Clone
import Derived.Shelf.SlicesE.IndexFunc
import Derived.Shelf.Lays
import Derived.Shelf.SlLaysH
import Derived.Shelf.Lays2
import Derived.Lib.ItoaNum
import Derived.Lib.QuietBelow
import Derived.Lib.AppendIntMem
import Derived.Shelf.Strings.SlTrimAscii
set_option linter.unusedSimpArgs false
set_option linter.unusedVariables false
namespace Go.Proofs.YtdlipbfcadmhjaaDoor
open Go.RowKit Go.Proofs.YtdlipbfcadmhjaaDoorW.PrintWords
structure GL (w : World) : Prop where
  pow : Lib.TabIs Tryd.prog w "internal/strconv.uint64pow10" .u64 Lib.pow10Tab
  db : w.cell? ⟨5, 15, none⟩ = some (.int .u8 4)
theorem GL.below {w w' : World} (h : GL w) (hb : Below w.heap.size w w') : GL w' := by
 refine ⟨?_, (hb.cell (World.block_lt_of_cell? w _ h.db)).trans h.db⟩
 have hg : Tryd.prog.globalNamed "internal/strconv.uint64pow10" = some 0 := by kernel_rfl
 have hv := h.pow
 unfold Lib.TabIs at hv ⊢
 refine var?_below hb hg ?_ hv
 unfold World.var? at hv
 simp only [hg, Option.bind_some] at hv
 by_cases hl : 0 < w.heap.size
 ·exact hl
 ·rw [Array.getElem?_eq_none (by omega)] at hv
  cases hv
theorem GL.drewN {w : World} (h : GL w) (n : Nat) : GL (w.drewN n) := ⟨h.pow, h.db⟩
end Go.Proofs.YtdlipbfcadmhjaaDoor

namespace Go.Proofs.YtdlipbfcadmhjaaDoor.Pl
def mulA (x : Nat) : Nat := x * 2862933555777941757 % 18446744073709551616
def mulB (x : Nat) : Nat := x * 3935559000370003845 % 18446744073709551616
def xs (d x : Nat) : Nat := x ^^^ (x / d)
def mix (x : Nat) : Nat := xs 536870912 (mulB (xs 4294967296 (mulA x)))
theorem xor_lt64 {a b : Nat} (ha : a < 18446744073709551616) (hb : b < 18446744073709551616) : a ^^^ b < 18446744073709551616 := by
 have := Nat.xor_lt_two_pow (n := 64) (x := a) (y := b) (by simpa using ha) (by simpa using hb)
 simpa using this
theorem mulA_lt (x : Nat) : mulA x < 18446744073709551616 := Nat.mod_lt _ (by decide)
theorem mulB_lt (x : Nat) : mulB x < 18446744073709551616 := Nat.mod_lt _ (by decide)
theorem xs_lt {d x : Nat} (h : x < 18446744073709551616) : xs d x < 18446744073709551616 := xor_lt64 h (Nat.lt_of_le_of_lt (Nat.div_le_self _ _) h)
theorem mix_lt (x : Nat) : mix x < 18446744073709551616 := xs_lt (mulB_lt _)
def blkN (l : List UInt8) (at_ : Nat) : Nat → Nat
  | 0 => 0
  | i + 1 => blkN l at_ i * 256 + (l.getD (at_ + i) 0).toNat
def blk (l : List UInt8) (at_ : Nat) : Nat := blkN l at_ 8
def st0 (n : Nat) : Nat := 2611923443488327891 ^^^ n
def st (l : List UInt8) : Nat → Nat
  | 0 => st0 l.length
  | j + 1 => mix (st l j ^^^ blk l (8 * j))
def final (l : List UInt8) : Nat := st l (l.length / 8 + 1)
def hexd (n : Nat) : UInt8 := if n < 10 then UInt8.ofNat (48 + n) else UInt8.ofNat (87 + n)
def hexs : Nat → Nat → List UInt8
  | 0, _ => []
  | j + 1, n => hexs j (n / 16) ++ [hexd (n % 16)]
def sumL (l : List UInt8) : List UInt8 := hexs 16 (final l)
def sum (s : ByteArray) : ByteArray := ⟨(sumL s.data.toList).toArray⟩
theorem blkN_lt (l : List UInt8) (a i : Nat) : blkN l a i < 256 ^ i := by
 induction i with
 | zero => simp [blkN]
 | succ i ih =>
  have : (l.getD (a + i) 0).toNat < 256 := (l.getD (a + i) 0).toNat_lt
  rw [Nat.pow_succ]
  simp only [blkN]
  omega
theorem blk_lt (l : List UInt8) (a : Nat) : blk l a < 18446744073709551616 := by
 have := blkN_lt l a 8
 simpa [blk] using this
theorem blkN_congr {l m : List UInt8} {a b i : Nat} (h : ∀ j, j < i → l.getD (a + j) 0 = m.getD (b + j) 0) : blkN l a i = blkN m b i := by
 induction i with
 | zero => rfl
 | succ i ih => simp only [blkN]; rw [ih (fun j hj => h j (by omega)), h i (by omega)]
theorem st0_lt {n : Nat} (h : n < 18446744073709551616) : st0 n < 18446744073709551616 := xor_lt64 (by decide) h
theorem st_lt {l : List UInt8} (h : l.length < 18446744073709551616) : ∀ j, st l j < 18446744073709551616
  | 0 => st0_lt h
  | _ + 1 => mix_lt _
theorem final_lt {l : List UInt8} : final l < 18446744073709551616 := by unfold final; exact mix_lt _
theorem hexs_length (j n : Nat) : (hexs j n).length = j := by
 induction j generalizing n with
 | zero => rfl
 | succ j ih => simp [hexs, ih]
theorem sumL_length (l : List UInt8) : (sumL l).length = 16 := hexs_length _ _
end Go.Proofs.YtdlipbfcadmhjaaDoor.Pl

namespace Go.Proofs.YtdlipbfcadmhjaaDoor
open Go.RowKit Go.Proofs.YtdlipbfcadmhjaaDoorW.PrintWords
theorem u64_or_add (a c : Nat) (ha : a < 72057594037927936) (hc : c < 256) :
    bits .or .u64 (IntKind.u64.wrap ((a : Int) * 256)) (IntKind.u64.wrap (c : Int)) = ((a * 256 + c : Nat) : Int) := by
 have h := Nat.two_pow_add_eq_or_of_lt (i := 8) (by omega : c < 2 ^ 8) a
 have e : IntKind.u64.wrap ((a : Int) * 256) = ((2 ^ 8 * a : Nat) : Int) := by rw [IntKind.wrap_u64]; omega
 have e2 : IntKind.u64.wrap (c : Int) = (c : Int) := by rw [IntKind.wrap_u64]; omega
 rw [e, e2, u64_or_nat _ _ (by omega) (by omega), ← h]
 congr 1
 omega
theorem blk_step (bs : List UInt8) (j : Nat) (hj : j < 8) :
    bits .or .u64 (IntKind.u64.wrap ((Pl.blkN bs 0 j : Nat) * 256 : Int)) (IntKind.u64.wrap ((bs[j]?.getD 0).toNat : Int)) = ((Pl.blkN bs 0 (j + 1) : Nat) : Int) := by
 have h1 : Pl.blkN bs 0 j < 256 ^ 7 := Nat.lt_of_lt_of_le (Pl.blkN_lt bs 0 j) (Nat.pow_le_pow_right (by omega) (by omega))
 have h2 : (bs[j]?.getD 0).toNat < 256 := (bs[j]?.getD 0).toNat_lt
 rw [u64_or_add _ _ (by omega) h2]
 simp only [Pl.blkN, List.getD_eq_getElem?_getD, Nat.zero_add]
theorem wrapA (X : Nat) : IntKind.u64.wrap ((X : Int) * 2862933555777941757) = ((Pl.mulA X : Nat) : Int) := by
 rw [IntKind.wrap_u64]; unfold Pl.mulA; omega
theorem wrapB (X : Nat) : IntKind.u64.wrap ((X : Int) * 3935559000370003845) = ((Pl.mulB X : Nat) : Int) := by
 rw [IntKind.wrap_u64]; unfold Pl.mulB; omega
theorem mixI (X : Nat) :
    bits .xor .u64 (IntKind.u64.wrap (bits .xor .u64 (IntKind.u64.wrap ((X : Int) * 2862933555777941757)) (IntKind.u64.wrap ((X : Int) * 2862933555777941757) / 4294967296) * 3935559000370003845))
      (IntKind.u64.wrap (bits .xor .u64 (IntKind.u64.wrap ((X : Int) * 2862933555777941757)) (IntKind.u64.wrap ((X : Int) * 2862933555777941757) / 4294967296) * 3935559000370003845) / 536870912)
      = ((Pl.mix X : Nat) : Int) := by
 rw [wrapA, show ((4294967296 : Int)) = ((4294967296 : Nat) : Int) from rfl, xorShift_u64 _ 4294967296 (Pl.mulA_lt X), wrapB,
  show ((536870912 : Int)) = ((536870912 : Nat) : Int) from rfl, xorShift_u64 _ 536870912 (Pl.mulB_lt _)]
 rfl
theorem only_alloc {a w : World} {row : Option Nat} (h : a.grownBy w row) (o : Obj) : a.grownBy (w.alloc o) row :=
  ⟨h.os, h.tape, h.output, Nat.le_trans h.size (by simp), fun i hi hne => (Below.heap_alloc w o i (Nat.lt_of_lt_of_le hi h.size)).trans (h.block i hi hne)⟩
theorem only_setCell {a w : World} {g : Nat} (h : a.grownBy w (some g)) {p : Addr} (hp : p.block = g ∨ a.heap.size ≤ p.block) (u : Value) : a.grownBy (w.setCell p u) (some g) :=
  ⟨h.os, h.tape, h.output, by simpa [World.setCell] using h.size, fun i hi hne => (Below.heap_setCell w p u i (by
    rintro rfl
    rcases hp with hp | hp
    · exact hne (by rw [hp])
    · omega)).trans (h.block i hi hne)⟩
theorem only_drew {a w : World} {row : Option Nat} (h : a.grownBy w row) : a.grownBy w.drew row := ⟨h.os, h.tape, h.output, h.size, h.block⟩
theorem only_refl (w : World) (row : Option Nat) : w.grownBy w row := ⟨rfl, rfl, rfl, Nat.le_refl _, fun _ _ _ => rfl⟩
set_option maxHeartbeats 1000000 in
theorem take_any (b : Nat) (x : Nat) (hx : x < 18446744073709551616) (bs : List UInt8) (hl : bs.length = 8) (w : World)
    (hb : w.heap[b]? = some (.cells #[.int .u64 (x : Int)] 63 (0, 0))) :
    Calls Tryd.prog 50 #[.pointer (some ⟨b, 0, none⟩), .agg (Lib.byteCells bs).toArray] w fun e w' =>
      e = .returned (.tuple #[]) ∧ w'.heap[b]? = some (.cells #[.int .u64 ((Pl.mix (x ^^^ Pl.blkN bs 0 8) : Nat) : Int)] 63 (0, 0)) ∧ w.grownBy w' (some b) := by
 have Hl := Lib.hid hl
 have Hb := Lib.hid hb
 have Hx := Lib.hid hx
 clear hl hb hx
 go_enter Tryd.func50, Tryd.ntmps50
 go_wp2
 go_loop [4, 7] (fun n k => ∃ j : Nat, j ≤ 8 ∧ k = .int .i64 j ∧ n = .int .u64 (Pl.blkN bs 0 j : Nat)) (fun _ k => 8 - (intOf k).toNat)
 case atStart => exact ⟨0, by omega, rfl, rfl⟩
 case round =>
  obtain ⟨j, hj, rfl, rfl⟩ := hrel
  by_cases hlt : j < 8
  ·have hcell : (w.alloc (Obj.cells (Lib.byteCells bs).toArray 100)).cell? ⟨w.heap.size, j, none⟩ = some (.int .u8 ((bs.getD j 0).toNat : Int)) := by
    rw [World.cell?_alloc_at _ _ _ _ rfl]
    have := Hl.out
    simp [Lib.byteCells, List.getD_eq_getElem?_getD, List.getElem?_eq_getElem (show j < bs.length by omega)]
   have HS := Lib.hid (blk_step bs j hlt)
   go_wp2
   go_round
   case rel => exact ⟨j + 1, by omega, by go_num, by rw [HS.out]⟩
   case measure => simp [intOf]; omega
  ·obtain rfl : j = 8 := by omega
   have hb1 := blk_alloc Hb.out (Obj.cells (Lib.byteCells bs).toArray 100)
   have hcb : (w.alloc (Obj.cells (Lib.byteCells bs).toArray 100)).cell? ⟨b, 0, none⟩ = some (.int .u64 (x : Int)) := (blk_cell hb1 0).trans rfl
   have hfb : (w.alloc (Obj.cells (Lib.byteCells bs).toArray 100)).frozen? ⟨b, 0, none⟩ = false := blk_frozen hb1 0
   have Hb1 := Lib.hid hb1
   clear hb1; clear hlt hj; go_wp2
   go_end0
   refine ⟨rfl, ?_, ?_⟩
   ·rw [blk_set Hb1.out 0]
    rw [u64_xor_nat x _ Hx.out (Nat.lt_of_lt_of_le (Pl.blkN_lt bs 0 8) (by decide)), mixI]
    rfl
   ·exact only_setCell (only_alloc (only_refl w _) _) (.inl rfl) _
end Go.Proofs.YtdlipbfcadmhjaaDoor

namespace Go.Proofs.YtdlipbfcadmhjaaDoor
open Go.RowKit Go.Proofs.YtdlipbfcadmhjaaDoorW.PrintWords
theorem run_copy_string_all {P : Program} (w : World) (dT sT ty elem : TypeId) (g n : Nat) (s : ByteArray) (cur : Array Value) (t : TypeId)
    (hu : P.underlying dT = some (.slice elem)) (hs : (P.info? elem).map (·.size) = some 1) (hg : w.heap[g]? = some (.cells cur t (0, 0))) (hn : cur.size = n) :
    (Builtin.copy_ #[dT, sT] ty #[.slice (some ⟨g, 0, none⟩) n n, .string s]).run P w =
      .ok (goInt (Nat.min s.size n)) (w.setRow g ((Lib.byteCells s.data.toList).take n ++ cur.toList.drop (Nat.min s.size n)).toArray) := by
 have hl : ((Lib.byteCells s.data.toList).take (Nat.min s.size n)).length = Nat.min s.size n := by
  rw [List.length_take, Lib.byteCells_length, ← Lib.size_eq]
  exact Nat.min_eq_left (Nat.min_le_left _ _)
 have hst := run_storeCells_at P g 0 t ((Lib.byteCells s.data.toList).take (Nat.min s.size n)) 0 cur w hg (by rw [hl]; have := Nat.min_le_right s.size n; simpa [hn] using this)
  (fun v hv => Lib.byteCells_one _ v (List.mem_of_mem_take hv))
 rw [hl] at hst
 simp only [Nat.add_zero, Nat.zero_add, List.take_zero, List.nil_append] at hst
 have htk : List.take (Nat.min s.size n) (List.map (fun b : UInt8 => Value.int IntKind.u8 (b.toNat : Int)) s.data.toList) = (Lib.byteCells s.data.toList).take (Nat.min s.size n) := rfl
 have htn : (Lib.byteCells s.data.toList).take n = (Lib.byteCells s.data.toList).take (Nat.min s.size n) := by
  show _ = List.take (min s.size n) _
  by_cases h : s.size ≤ n
  ·rw [Nat.min_eq_left h, List.take_of_length_le (by rw [Lib.byteCells_length, ← Lib.size_eq]; exact h), List.take_of_length_le (by rw [Lib.byteCells_length, ← Lib.size_eq]; exact Nat.le_refl _)]
  ·rw [Nat.min_eq_right (by omega)]
 cases hq : P.info? elem with
 | none => simp [hq] at hs
 | some i =>
  simp [Builtin.copy_, run_underlying hu, Builtin.lenOf, Builtin.firstCells, sizeOf, typeInfo, hq]
  rw [htk, hst, htn]
  simp [Result.andThen]
end Go.Proofs.YtdlipbfcadmhjaaDoor

namespace Go.Proofs.YtdlipbfcadmhjaaDoor
open Go.RowKit Go.Proofs.YtdlipbfcadmhjaaDoorW.PrintWords
def chunk (l : List UInt8) (a : Nat) : List UInt8 := (List.range 8).map fun i => l.getD (a + i) 0
theorem chunk_length (l : List UInt8) (a : Nat) : (chunk l a).length = 8 := by simp [chunk]
theorem chunk_getD (l : List UInt8) (a j : Nat) (h : j < 8) : (chunk l a).getD j 0 = l.getD (a + j) 0 := by
 simp [chunk, List.getD_eq_getElem?_getD, h]
theorem chunk_blk (l : List UInt8) (a : Nat) : Pl.blkN (chunk l a) 0 8 = Pl.blk l a :=
  Pl.blkN_congr (fun j hj => by rw [Nat.zero_add]; exact chunk_getD l a j hj)
theorem chunk_cells (l : List UInt8) (a : Nat) :
    (Lib.byteCells (l.drop a)).take 8 ++ (List.replicate 8 (Value.int .u8 0)).drop (Nat.min (l.length - a) 8) = Lib.byteCells (chunk l a) := by
 show _ ++ List.drop (min (l.length - a) 8) _ = _
 apply List.ext_getElem?
 intro i
 have hlen : ((Lib.byteCells (l.drop a)).take 8).length = min (l.length - a) 8 := by simp [Lib.byteCells, Nat.min_comm]
 by_cases h : i < min (l.length - a) 8
 ·rw [List.getElem?_append_left (by omega)]
  have h1 : a + i < l.length := by omega
  simp [Lib.byteCells, chunk, List.getElem?_take, show i < 8 by omega, List.getElem?_drop, List.getElem?_eq_getElem h1]
 ·rw [List.getElem?_append_right (by omega), hlen, List.getElem?_drop]
  by_cases h8 : i < 8
  case neg =>
   rw [List.getElem?_eq_none (by rw [List.length_replicate]; omega), List.getElem?_eq_none (by simp [Lib.byteCells, chunk_length]; omega)]
  rw [List.getElem?_replicate, if_pos (by omega)]
  have h1 : l.length ≤ a + i := by omega
  simp [Lib.byteCells, chunk, h8, List.getElem?_eq_none h1]
theorem setRow_far (w : World) (g k : Nat) (cs : Array Value) (h : k ≠ g) : (w.setRow g cs).heap[k]? = w.heap[k]? := by
 simp [World.setRow, Array.getElem?_modify, Ne.symm h]
theorem only_setRow {a w : World} {row : Option Nat} (h : a.grownBy w row) (g : Nat) (hg : a.heap.size ≤ g) (cs : Array Value) : a.grownBy (w.setRow g cs) row :=
  ⟨h.os, h.tape, h.output, by simpa [World.setRow] using h.size, fun i hi hne => (setRow_far w g i cs (by omega)).trans (h.block i hi hne)⟩
theorem only_trans {a b c : World} {row : Option Nat} (h : a.grownBy b row) (k : b.grownBy c row) : a.grownBy c row :=
  ⟨k.os.trans h.os, k.tape.trans h.tape, k.output.trans h.output, Nat.le_trans h.size k.size, fun i hi hne => (k.block i (Nat.lt_of_lt_of_le hi h.size) hne).trans (h.block i hi hne)⟩
set_option maxHeartbeats 1000000 in
theorem blocks_any (b : Nat) (s : ByteArray) (hs : s.size ≤ 4611686018427387904) (w : World)
    (hb : w.heap[b]? = some (.cells #[.int .u64 ((Pl.st0 s.size : Nat) : Int)] 63 (0, 0))) :
    Calls Tryd.prog 49 #[.string s, .func (.func 50) #[.pointer (some ⟨b, 0, none⟩)] #[]] w fun e w' =>
      e = .returned (.tuple #[]) ∧ w'.heap[b]? = some (.cells #[.int .u64 ((Pl.final s.data.toList : Nat) : Int)] 63 (0, 0)) ∧ w.grownBy w' (some b) := by
 have Hb := Lib.hid hb
 clear hb
 go_enter Tryd.func49, Tryd.ntmps49
 go_wp2
 go_loopw [4] (fun k wr => ∃ j : Nat, j ≤ s.size / 8 + 1 ∧ k = .int .i64 ((8 * j : Nat) : Int) ∧ Hid (wr.heap[b]? = some (.cells #[.int .u64 ((Pl.st s.data.toList j : Nat) : Int)] 63 (0, 0))) ∧ Hid (w.grownBy wr (some b))) (fun k _ => s.size + 8 - (intOf k).toNat)
 case atStart => exact ⟨0, by omega, rfl, Hb.out, Lib.hid (only_refl _ _)⟩
 case round =>
  obtain ⟨j, hj, rfl, Hc, Hg⟩ := hrel
  by_cases hlt : 8 * j ≤ s.size
  ·go_wp2_with fail
   have hcp : (Builtin.copy_ #[69, 9] 3 #[.slice (some ⟨wr.heap.size, 0, none⟩) 8 8, .string (s.extract (8 * j) s.size)]).run Tryd.prog ((wr.alloc (.cells #[.int .u8 0, .int .u8 0, .int .u8 0, .int .u8 0, .int .u8 0, .int .u8 0, .int .u8 0, .int .u8 0] 100)).drew)
     = .ok (goInt (Nat.min (s.size - 8 * j) 8)) (((wr.alloc (.cells #[.int .u8 0, .int .u8 0, .int .u8 0, .int .u8 0, .int .u8 0, .int .u8 0, .int .u8 0, .int .u8 0] 100)).drew).setRow wr.heap.size (Lib.byteCells (chunk s.data.toList (8 * j))).toArray) := by
    have hx : (s.extract (8 * j) s.size).data.toList = s.data.toList.drop (8 * j) := by
     rw [Lib.extract_to_end]
    have := run_copy_string_all (P := Tryd.prog) (wr.alloc (.cells #[.int .u8 0, .int .u8 0, .int .u8 0, .int .u8 0, .int .u8 0, .int .u8 0, .int .u8 0, .int .u8 0] 100)).drew 69 9 3 5 wr.heap.size 8 (s.extract (8 * j) s.size) _ 100 Tryd.underlying69 (by kernel_rfl) (blk_new wr _) rfl
    have hz : (s.extract (8 * j) s.size).size = s.size - 8 * j := by simp
    rw [hx, hz] at this
    rw [this]
    have hc := chunk_cells s.data.toList (8 * j)
    rw [data_length] at hc
    rw [← hc]
    rfl
   go_region
   clear hcp
   have Hz := Lib.hid (setRow_heap (wr.alloc (.cells #[.int .u8 0, .int .u8 0, .int .u8 0, .int .u8 0, .int .u8 0, .int .u8 0, .int .u8 0, .int .u8 0] 100)).drew wr.heap.size _ (Lib.byteCells (chunk s.data.toList (8 * j))).toArray 100 (0, 0) (blk_new wr _))
   have e50 := enters_of Tryd.func50 (by kernel_rfl) rfl
   go_wp2_with (refine wpList_load_row rfl 100 (.tmp 5) rfl wr.heap.size rfl 100 (Lib.byteCells (chunk s.data.toList (8 * j))).toArray (0, 0) _ Hz.out Tryd.underlying100 rfl (by rw [show (Lib.byteCells (chunk s.data.toList (8 * j))).toArray.size = 8 from by simp [Lib.byteCells, chunk_length]]; kernel_rfl) ?_)
   have hne : b ≠ wr.heap.size := fun e => by have := blk_lt Hc.out; omega
   have HbW := Lib.hid ((setRow_far (wr.alloc (.cells #[.int .u8 0, .int .u8 0, .int .u8 0, .int .u8 0, .int .u8 0, .int .u8 0, .int .u8 0, .int .u8 0] 100)).drew wr.heap.size b (Lib.byteCells (chunk s.data.toList (8 * j))).toArray hne).trans (blk_alloc Hc.out _))
   have HgW := Lib.hid (only_setRow (only_drew (only_alloc Hg.out (.cells #[.int .u8 0, .int .u8 0, .int .u8 0, .int .u8 0, .int .u8 0, .int .u8 0, .int .u8 0, .int .u8 0] 100))) wr.heap.size Hg.out.size (Lib.byteCells (chunk s.data.toList (8 * j))).toArray)
   clear hne
   refine (take_any b (Pl.st s.data.toList j) (Pl.st_lt (by rw [data_length]; omega) j) (chunk s.data.toList (8 * j)) (chunk_length _ _) _ (by exact HbW.out)).mono ?_
   rintro e w1 ⟨rfl, hb1, hg1⟩
   have Hb1 := Lib.hid hb1
   have Hg1 := Lib.hid (only_trans HgW.out hg1)
   clear hb1 hg1; go_wp2
   go_roundw
   case rel => exact ⟨j + 1, by omega, by go_num, by rw [chunk_blk] at Hb1; exact Hb1, Hg1⟩
   case measure => simp [intOf]; omega
  ·have hj1 : j = s.size / 8 + 1 := by omega
   have Hj := Lib.hid hj1
   clear hj1; go_wp2
   go_end0
   refine ⟨rfl, ?_, Hg.out⟩
   have := Hc.out
   rw [Hj.out] at this
   unfold Pl.final
   rw [data_length]
   exact this
end Go.Proofs.YtdlipbfcadmhjaaDoor

namespace Go.Proofs.YtdlipbfcadmhjaaDoor
open Go.RowKit Go.Proofs.YtdlipbfcadmhjaaDoorW.PrintWords
theorem ispow_any (w : World) : Calls Tryd.prog 128 #[.int .i64 16] w fun e w' => e = .returned (.bool true) ∧ w = w' := by
 go_enter Tryd.func128, Tryd.ntmps128
 go_wp2; go_ret
 exact ⟨by congr 1, rfl⟩
theorem tz_key : IntKind.u64.wrap (bits BinOp.and IntKind.u64 16 (IntKind.u64.wrap (-16)) * 285870213051353865) / 288230376151711744 = 15 := by kernel_rfl
set_option maxHeartbeats 1000000 in
theorem tz64_any (w : World) (h : GL w) : Calls Tryd.prog 136 #[.int .u64 16] w fun e w' => e = .returned (.int .i64 4) ∧ w = w' := by
 have hc := h.db; have key := tz_key
 go_enter Tryd.func136, Tryd.ntmps136
 go_wp2_with (simp only [key])
 go_ret
 exact ⟨rfl, rfl⟩
set_option maxHeartbeats 1000000 in
theorem tz_any (w : World) (h : GL w) : Calls Tryd.prog 129 #[.int .u64 16] w fun e w' => e = .returned (.int .i64 4) ∧ w = w' := by
 have H := Lib.hid h
 clear h
 go_enter Tryd.func129, Tryd.ntmps129
 go_wp2_with (go_at_call 136; refine (tz64_any _ H.out).mono ?_; rintro e w' ⟨rfl, rfl⟩)
 go_ret
 exact ⟨rfl, rfl⟩
theorem and15 (q : Nat) (h : q < 18446744073709551616) : bits BinOp.and IntKind.u64 (q : Int) 15 = ((q % 16 : Nat) : Int) := by
 rw [show (15 : Int) = ((15 : Nat) : Int) from rfl, u64_and_nat q 15 h (by decide), show (15 : Nat) = 2 ^ 4 - 1 from rfl, Nat.and_two_pow_sub_one_eq_mod]
def Tail (n j : Nat) (o : Option Obj) : Prop := ∃ cur : Array Value, o = some (.cells cur 140 (0, 0)) ∧ cur.size = 65 ∧ cur.toList.drop (65 - j) = Lib.byteCells (Pl.hexs j n)
theorem tail_zero (n : Nat) {o : Option Obj} (cs : Array Value) (h : o = some (.cells cs 140 (0, 0))) (hs : cs.size = 65) : Tail n 0 o :=
  ⟨cs, h, hs, by rw [List.drop_of_length_le (by simp [hs])]; rfl⟩
theorem hexs_cons (j n : Nat) : Pl.hexs (j + 1) n = Pl.hexd (n / 16 ^ j % 16) :: Pl.hexs j n := by
 induction j generalizing n with
 | zero => simp [Pl.hexs]
 | succ j ih =>
  rw [Pl.hexs, ih, Nat.div_div_eq_div_mul, Nat.mul_comm 16, ← Nat.pow_succ]
  rfl
theorem digit_at (r : Nat) (h : r < 36) (h2 : r < 16) (hh) : ((⟨#[48, 49, 50, 51, 52, 53, 54, 55, 56, 57, 97, 98, 99, 100, 101, 102, 103, 104, 105, 106, 107, 108, 109, 110, 111, 112, 113, 114, 115, 116, 117, 118, 119, 120, 121, 122]⟩ : ByteArray)[r]'hh) = Pl.hexd r := by
 have key : ∀ x : Fin 16, ((⟨#[48, 49, 50, 51, 52, 53, 54, 55, 56, 57, 97, 98, 99, 100, 101, 102, 103, 104, 105, 106, 107, 108, 109, 110, 111, 112, 113, 114, 115, 116, 117, 118, 119, 120, 121, 122]⟩ : ByteArray).data.toList.getD x.1 0) = Pl.hexd x.1 := by decide
 have := key ⟨r, h2⟩
 rw [← this]
 show (#[48, 49, 50, 51, 52, 53, 54, 55, 56, 57, 97, 98, 99, 100, 101, 102, 103, 104, 105, 106, 107, 108, 109, 110, 111, 112, 113, 114, 115, 116, 117, 118, 119, 120, 121, 122] : Array UInt8)[r]'_ = _
 rw [← Array.getElem_toList, List.getD_eq_getElem?_getD, List.getElem?_eq_getElem (by simpa using h)]
 rfl
theorem tail_step {n j q : Nat} {w : World} {g : Nat} {cur : Array Value} (hj : j ≤ 64) (hcur : w.heap[g]? = some (.cells cur 140 (0, 0))) (hs : cur.size = 65)
    (ht : cur.toList.drop (65 - j) = Lib.byteCells (Pl.hexs j n)) (hq : n / 16 ^ j = q) {v : Value} (hv : v = .int .u8 ((Pl.hexd (q % 16)).toNat : Int)) :
    Tail n (j + 1) ((w.setCell ⟨g, 65 - j - 1, none⟩ v).heap[g]?) := by
 refine ⟨cur.setIfInBounds (65 - j - 1) v, blk_set hcur _ _, by simp [hs], ?_⟩
 rw [hexs_cons, hq, hv, Array.toList_setIfInBounds, show 65 - (j + 1) = 65 - j - 1 from by omega]
 rw [List.drop_set, if_neg (by omega), Nat.sub_self]
 have hd : List.drop (65 - j - 1) cur.toList = cur.toList[65 - j - 1]'(by simp [hs]; omega) :: List.drop (65 - j) cur.toList := by
  rw [List.drop_eq_getElem_cons (by simp [hs]; omega), show 65 - j - 1 + 1 = 65 - j from by omega]
 rw [hd, List.set_cons_zero, ht]
 simp [Lib.byteCells]
theorem slice65 (g p : Nat) (hp : p < 65) (w : World) :
    (Instr.sliceAt 140 (.pointer (some ⟨g, 0, none⟩)) (some (.int .i64 (p : Int))) none none).run Tryd.prog w = .ok (.slice (some ⟨g, p, none⟩) (65 - p) (65 - p)) w := by
 have hal : Tryd.prog.arrayLen 140 = 65 := by kernel_rfl
 have hel : Tryd.prog.elem 140 = 5 := by kernel_rfl
 rw [run_sliceAt_array_l (P := Tryd.prog) w 140 ⟨g, 0, none⟩ (by rw [hal, hel]; exact Tryd.underlying140) .i64 p (by omega) (by rw [hal]; omega), hal, hel, Tryd.sizeOf5]
 simp only [Result.andThen, slicedAt, Int.toNat_natCast, Nat.mul_one]
 rw [if_neg (by omega), add_at, Nat.zero_add]
theorem conv65 {n j : Nat} {g : Nat} {w : World} (hj : j ≤ 64) (ht : Tail n (j + 1) (w.heap[g]?)) :
    (convert 69 9 (.slice (some ⟨g, 65 - j - 1, none⟩) (j + 1) (j + 1))).run Tryd.prog w = .ok (.string ⟨(Pl.hexs (j + 1) n).toArray⟩) w := by
 obtain ⟨cur, hc, hs, htl⟩ := ht
 rw [run_convert_bytes_arg (P := Tryd.prog) w 69 5 Tryd.underlying69 Tryd.underlying5 g (65 - j - 1) (j + 1) (j + 1) ((Pl.hexs (j + 1) n).map fun b => (b.toNat : Int)) (by rw [List.length_map, Pl.hexs_length])
  (fun i hi => by
   rw [blk_cell hc]
   have h1 : cur.toList[65 - j - 1 + i]? = (Lib.byteCells (Pl.hexs (j + 1) n))[i]? := by rw [← htl, List.getElem?_drop]; congr 1
   rw [← Array.getElem?_toList, h1]
   have hl : i < (Pl.hexs (j + 1) n).length := by rw [Pl.hexs_length]; exact hi
   simp [Lib.byteCells, List.getD_eq_getElem?_getD, List.getElem?_eq_getElem hl]) 9 Tryd.underlying9]
 congr 2
 unfold strOfNums
 congr 1
 rw [List.map_map]
 congr 1
 refine (List.map_congr_left (fun b _ => ?_)).trans (List.map_id _)
 simp
set_option maxRecDepth 100000 in
set_option maxHeartbeats 1000000 in
theorem formatBits_any (n : Nat) (hn : n < 18446744073709551616) (w : World) (h : GL w) :
    Calls Tryd.prog 112 #[.slice none 0 0, .int .u64 (n : Int), .int .i64 16, .bool false, .bool false] w fun e w' =>
      ∃ m, m ≤ 15 ∧ n < 16 ^ (m + 1) ∧ e = .returned (.tuple #[.slice none 0 0, .string ⟨(Pl.hexs (m + 1) n).toArray⟩]) ∧ Below w.heap.size w w' := by
 have H := Lib.hid (h.below ((Below.refl _ _).alloc (Nat.le_refl _) (.cells (Array.replicate 65 (.int .u8 0)) 140)))
 clear h
 go_enter Tryd.func112, Tryd.ntmps112
 go_wp2_with (first | (go_at_call 128; refine (ispow_any _).mono ?_; rintro e w' ⟨rfl, rfl⟩) | (go_at_call 129; refine (tz_any _ (by exact H.out)).mono ?_; rintro e w' ⟨rfl, rfl⟩))
 go_loopw [1, 13] (fun u i wr => ∃ j q : Nat, j ≤ 15 ∧ Hid (n / 16 ^ j = q) ∧ u = .int .u64 (q : Int) ∧ i = .int .i64 ((65 - j : Nat) : Int) ∧ Hid (Tail n j (wr.heap[w.heap.size]?)) ∧ Hid (Below w.heap.size w wr)) (fun u _ _ => (intOf u).toNat)
 case atStart => exact ⟨0, n, by omega, Lib.hid (by simp), rfl, rfl, Lib.hid (tail_zero n Tryd.zeroCells140 (blk_new w _) (by kernel_rfl)), Lib.hid ((Below.refl _ _).alloc (Nat.le_refl _) _)⟩
 case round =>
  obtain ⟨j, q, hj, Hq, rfl, rfl, Ht, Hb⟩ := hrel
  by_cases hlt : 16 ≤ q
  ·have hq64 : q < 18446744073709551616 := by rw [← Hq.out]; exact Nat.lt_of_le_of_lt (Nat.div_le_self _ _) hn
   have hand : bits BinOp.and IntKind.u64 (q : Int) 15 = ((q % 16 : Nat) : Int) := and15 q hq64
   have hj2 : j ≤ 14 := by
    by_cases h15 : j = 15
    ·subst h15; have h1 := Hq.out
     have : n / 16 ^ 15 < 16 := by rw [Nat.div_lt_iff_lt_mul (by decide)]; exact hn
     omega
    ·omega
   have hm : q % 16 < 16 := Nat.mod_lt _ (by omega)
   clear hq64
   obtain ⟨r, hr⟩ : ∃ r, q % 16 = r := ⟨_, rfl⟩
   rw [hr] at hand hm
   have Hr := Lib.hid hr
   clear hr
   obtain ⟨cur, hcur, hsz, htl⟩ := Ht.out
   obtain ⟨v0, hcell⟩ : ∃ v0, wr.cell? ⟨w.heap.size, 65 - j - 1, none⟩ = some v0 :=
    ⟨cur[65 - j - 1]'(by omega), (blk_cell hcur _).trans (Array.getElem?_eq_getElem _)⟩
   have hfz : wr.frozen? ⟨w.heap.size, 65 - j - 1, none⟩ = false := blk_frozen hcur _
   have Hcur := Lib.hid hcur
   have Hsz := Lib.hid hsz
   have Htl := Lib.hid htl
   clear hcur hsz htl; go_wp2
   go_roundw
   case rel =>
    refine ⟨j + 1, q / 16, by omega, Lib.hid (by rw [← Hq.out, Nat.div_div_eq_div_mul, Nat.pow_succ]), by go_num, by go_num, ?_, Lib.hid (Hb.out.setCell (Nat.le_refl _) _)⟩
    exact Lib.hid (tail_step (by omega) Hcur.out Hsz.out Htl.out Hq.out (by congr 3; rw [digit_at r (by omega) hm, Hr.out]))
   case measure => simp [intOf]; omega
  ·obtain ⟨cur, hcur, hsz, htl⟩ := Ht.out
   obtain ⟨v0, hcell⟩ : ∃ v0, wr.cell? ⟨w.heap.size, 65 - j - 1, none⟩ = some v0 :=
    ⟨cur[65 - j - 1]'(by omega), (blk_cell hcur _).trans (Array.getElem?_eq_getElem _)⟩
   have hfz : wr.frozen? ⟨w.heap.size, 65 - j - 1, none⟩ = false := blk_frozen hcur _
   have Hcur := Lib.hid hcur
   have Hsz := Lib.hid hsz
   have Htl := Lib.hid htl
   clear hcur hsz htl
   have hq16 : q < 16 := by omega
   have hsl : ∀ W : World, (Instr.sliceAt 140 (.pointer (some ⟨w.heap.size, 0, none⟩)) (some (.int .i64 (((65 - j : Nat) : Int) - 1))) none none).run Tryd.prog W = .ok (.slice (some ⟨w.heap.size, 65 - j - 1, none⟩) (j + 1) (j + 1)) W := fun W => by
    have := slice65 w.heap.size (65 - j - 1) (by omega) W
    rw [show ((65 - j - 1 : Nat) : Int) = ((65 - j : Nat) : Int) - 1 from by omega, show 65 - (65 - j - 1) = j + 1 from by omega] at this
    exact this
   go_wp2
   rw [conv65 (n := n) (by omega) (tail_step (by omega) Hcur.out Hsz.out Htl.out Hq.out (by congr 3; rw [digit_at q (by omega) hq16, Nat.mod_eq_of_lt hq16]))]
   go_wp2
   go_ret2
   refine ⟨j, hj, ?_, rfl, Hb.out.setCell (Nat.le_refl _) _⟩
   have h1 := Hq.out
   rw [Nat.pow_succ]
   have := Nat.div_add_mod n (16 ^ j)
   have hlt2 : n < 16 ^ j * (q + 1) := by rw [← h1]; exact Nat.lt_mul_div_succ n (Nat.pos_of_ne_zero (by simp))
   exact Nat.lt_of_lt_of_le hlt2 (Nat.mul_le_mul_left _ (by omega))
end Go.Proofs.YtdlipbfcadmhjaaDoor

namespace Go.Proofs
open Go.Shelf
def Tryd.lays169_ren : Go.Shelf.Ren := ⟨fun | 169 => 57 | n => n, fun | 70 => 68 | 9 => 9 | 0 => 0 | 72 => 71 | 37 => 69 | 127 => 107 | 3 => 3 | 5 => 5 | n => n, fun | n => n⟩
theorem Tryd.lays169 : Go.Proofs.Lays.n169 Tryd.prog Tryd.lays169_ren := {
  mixed := by kernel_rfl
  f169 := Tryd.func57.trans (congrArg some (by kernel_rfl))
  t0 := Tryd.underlying0
  a0 := Tryd.isAgg0
  z0 := Tryd.sizeOf0
  v0 := Tryd.zeroValue0
  t3 := Tryd.underlying3
  a3 := Tryd.isAgg3
  z3 := Tryd.sizeOf3
  v3 := Tryd.zeroValue3
  t9 := Tryd.underlying9
  a9 := Tryd.isAgg9
  z9 := Tryd.sizeOf9
  v9 := Tryd.zeroValue9
  t37 := Tryd.underlying69
  a37 := Tryd.isAgg69
  z37 := Tryd.sizeOf69
  v37 := Tryd.zeroValue69
  t70 := Tryd.underlying68
  a70 := Tryd.isAgg68
  z70 := Tryd.sizeOf68
  v70 := Tryd.zeroValue68
  t72 := Tryd.underlying71
  a72 := Tryd.isAgg71
  z72 := Tryd.sizeOf71
  v72 := Tryd.zeroValue71
  t127 := Tryd.underlying107
  a127 := Tryd.isAgg107
  z127 := Tryd.sizeOf107
  v127 := Tryd.zeroValue107 }
theorem Tryd.Builder_Extra_169 : Builder.Extra Tryd.prog Tryd.lays169_ren := {
  sizeBuilder := by kernel_rfl
  liesBuilder := by kernel_rfl
  t5 := Tryd.underlying5
  a5 := Tryd.isAgg5
  z5 := Tryd.sizeOf5
  v5 := Tryd.zeroValue5
  infoByte := by kernel_rfl
  cellsByte := by kernel_rfl
  sizeByte := by kernel_rfl
  neB5 := by decide }
open Go.RowKit in
theorem Tryd.Builder_String_any (B b : Nat) (l : List UInt8) (w : World) (h : Lib.IsBuilder 71 5 B b (Lib.byteCells l) w) (hBw : B ≤ w.heap.size) :
    Calls Tryd.prog 57 #[.pointer (some ⟨b, 0, none⟩)] w fun e w' => e = .returned (.string ⟨l.toArray⟩) ∧ Below B w w' := Any.Builder_String_any Tryd.lays169 Tryd.Builder_Extra_169 B b l w h hBw
def Tryd.lays167_ren : Go.Shelf.Ren := ⟨fun | 167 => 56 | 240 => 90 | 276 => 117 | n => n, fun | 0 => 0 | 4 => 4 | 5 => 5 | 9 => 9 | 20 => 20 | 37 => 69 | 70 => 68 | 72 => 71 | 75 => 73 | 80 => 78 | 164 => 130 | n => n, fun | n => n⟩
theorem Tryd.lays167 : Go.Proofs.Lays.n167 Tryd.prog Tryd.lays167_ren := {
  mixed := by kernel_rfl
  f167 := Tryd.func56.trans (congrArg some (by kernel_rfl))
  f240 := Tryd.func90.trans (congrArg some (by kernel_rfl))
  f276 := Tryd.func117.trans (congrArg some (by kernel_rfl))
  t0 := Tryd.underlying0
  a0 := Tryd.isAgg0
  z0 := Tryd.sizeOf0
  v0 := Tryd.zeroValue0
  t4 := Tryd.underlying4
  a4 := Tryd.isAgg4
  z4 := Tryd.sizeOf4
  v4 := Tryd.zeroValue4
  t5 := Tryd.underlying5
  a5 := Tryd.isAgg5
  z5 := Tryd.sizeOf5
  v5 := Tryd.zeroValue5
  t9 := Tryd.underlying9
  a9 := Tryd.isAgg9
  z9 := Tryd.sizeOf9
  v9 := Tryd.zeroValue9
  t20 := Tryd.underlying20
  a20 := Tryd.isAgg20
  z20 := Tryd.sizeOf20
  v20 := Tryd.zeroValue20
  t37 := Tryd.underlying69
  a37 := Tryd.isAgg69
  z37 := Tryd.sizeOf69
  v37 := Tryd.zeroValue69
  t70 := Tryd.underlying68
  a70 := Tryd.isAgg68
  z70 := Tryd.sizeOf68
  v70 := Tryd.zeroValue68
  t72 := Tryd.underlying71
  a72 := Tryd.isAgg71
  z72 := Tryd.sizeOf71
  v72 := Tryd.zeroValue71
  t75 := Tryd.underlying73
  a75 := Tryd.isAgg73
  z75 := Tryd.sizeOf73
  v75 := Tryd.zeroValue73
  t164 := Tryd.underlying130
  a164 := Tryd.isAgg130
  z164 := Tryd.sizeOf130
  v164 := Tryd.zeroValue130 }
theorem Tryd.Builder_Extra_167 : Builder.Extra Tryd.prog Tryd.lays167_ren := {
  sizeBuilder := by kernel_rfl
  liesBuilder := by kernel_rfl
  t5 := Tryd.underlying5
  a5 := Tryd.isAgg5
  z5 := Tryd.sizeOf5
  v5 := Tryd.zeroValue5
  infoByte := by kernel_rfl
  cellsByte := by kernel_rfl
  sizeByte := by kernel_rfl
  neB5 := by decide }
open Go.RowKit in
theorem Tryd.Builder_WriteByte (B b : Nat) (bs : List Value) (c : Int) (w : World) (h : Lib.IsBuilder 71 5 B b bs w) (hlen : bs.length + 1 ≤ 140737488355328) (hBw : B ≤ w.heap.size) :
    Calls Tryd.prog 56 #[.pointer (some ⟨b, 0, none⟩), .int .u8 c] w fun e w' => e = .returned .nilIface ∧ (Lib.BuilderAt 71 5 B b (.pointer (some ⟨b, 0, none⟩)) (bs ++ [.int .u8 c]) w' ∧ Below B w w') := Any.Builder_WriteByte Tryd.lays167 Tryd.Builder_Extra_167 B b bs c w h hlen hBw
def Tryd.lays166_ren : Go.Shelf.Ren := ⟨fun | 166 => 54 | 240 => 90 | 276 => 117 | n => n, fun | 0 => 0 | 3 => 3 | 4 => 4 | 5 => 5 | 9 => 9 | 20 => 20 | 37 => 69 | 70 => 68 | 72 => 71 | 75 => 73 | 80 => 78 | 164 => 130 | n => n, fun | n => n⟩
theorem Tryd.lays166 : Go.Proofs.Lays.n166 Tryd.prog Tryd.lays166_ren := {
  mixed := by kernel_rfl
  f166 := Tryd.func54.trans (congrArg some (by kernel_rfl))
  f240 := Tryd.func90.trans (congrArg some (by kernel_rfl))
  f276 := Tryd.func117.trans (congrArg some (by kernel_rfl))
  t0 := Tryd.underlying0
  a0 := Tryd.isAgg0
  z0 := Tryd.sizeOf0
  v0 := Tryd.zeroValue0
  t3 := Tryd.underlying3
  a3 := Tryd.isAgg3
  z3 := Tryd.sizeOf3
  v3 := Tryd.zeroValue3
  t4 := Tryd.underlying4
  a4 := Tryd.isAgg4
  z4 := Tryd.sizeOf4
  v4 := Tryd.zeroValue4
  t9 := Tryd.underlying9
  a9 := Tryd.isAgg9
  z9 := Tryd.sizeOf9
  v9 := Tryd.zeroValue9
  t20 := Tryd.underlying20
  a20 := Tryd.isAgg20
  z20 := Tryd.sizeOf20
  v20 := Tryd.zeroValue20
  t37 := Tryd.underlying69
  a37 := Tryd.isAgg69
  z37 := Tryd.sizeOf69
  v37 := Tryd.zeroValue69
  t70 := Tryd.underlying68
  a70 := Tryd.isAgg68
  z70 := Tryd.sizeOf68
  v70 := Tryd.zeroValue68
  t72 := Tryd.underlying71
  a72 := Tryd.isAgg71
  z72 := Tryd.sizeOf71
  v72 := Tryd.zeroValue71
  t75 := Tryd.underlying73
  a75 := Tryd.isAgg73
  z75 := Tryd.sizeOf73
  v75 := Tryd.zeroValue73
  t164 := Tryd.underlying130
  a164 := Tryd.isAgg130
  z164 := Tryd.sizeOf130
  v164 := Tryd.zeroValue130 }
theorem Tryd.Builder_Extra_166 : Builder.Extra Tryd.prog Tryd.lays166_ren := {
  sizeBuilder := by kernel_rfl
  liesBuilder := by kernel_rfl
  t5 := Tryd.underlying5
  a5 := Tryd.isAgg5
  z5 := Tryd.sizeOf5
  v5 := Tryd.zeroValue5
  infoByte := by kernel_rfl
  cellsByte := by kernel_rfl
  sizeByte := by kernel_rfl
  neB5 := by decide }
open Go.RowKit in
theorem Tryd.Builder_WriteString (B b : Nat) (bs : List Value) (s : ByteArray) (w : World) (h : Lib.IsBuilder 71 5 B b bs w) (hlen : bs.length + s.size ≤ 140737488355328) (hBw : B ≤ w.heap.size) :
    Calls Tryd.prog 54 #[.pointer (some ⟨b, 0, none⟩), .string s] w fun e w' => e = .returned (.tuple #[.int .i64 s.size, .nilIface]) ∧ (Lib.BuilderAt 71 5 B b (.pointer (some ⟨b, 0, none⟩)) (bs ++ Lib.strCells s) w' ∧ Below B w w') := Any.Builder_WriteString Tryd.lays166 Tryd.Builder_Extra_166 B b bs s w h hlen hBw
def Tryd.lays160_ren : Go.Shelf.Ren := ⟨fun | 160 => 58 | 232 => 93 | 231 => 92 | 227 => 94 | 234 => 96 | 233 => 95 | 236 => 98 | 235 => 97 | 228 => 119 | 271 => 122 | 151 => 121 | 197 => 120 | 120 => 133 | 152 => 132 | 260 => 131 | 137 => 107 | 119 => 137 | 224 => 138 | 225 => 139 | 217 => 124 | 266 => 134 | n => n, fun | 9 => 9 | 4 => 4 | 3 => 3 | 5 => 5 | 117 => 111 | 116 => 110 | 0 => 0 | 124 => 114 | 21 => 21 | 105 => 134 | 46 => 102 | 119 => 146 | 139 => 149 | 138 => 148 | n => n, fun | 3 => 2 | 4 => 3 | n => n⟩
theorem Tryd.lays160 : Go.Proofs.Lays.n160 Tryd.prog Tryd.lays160_ren := {
  mixed := by kernel_rfl
  f119 := Tryd.func137.trans (congrArg some (by kernel_rfl))
  f120 := Tryd.func133.trans (congrArg some (by kernel_rfl))
  f137 := Tryd.func107.trans (congrArg some (by kernel_rfl))
  f151 := Tryd.func121.trans (congrArg some (by kernel_rfl))
  f152 := Tryd.func132.trans (congrArg some (by kernel_rfl))
  f160 := Tryd.func58.trans (congrArg some (by kernel_rfl))
  f197 := Tryd.func120.trans (congrArg some (by kernel_rfl))
  f217 := Tryd.func124.trans (congrArg some (by kernel_rfl))
  f224 := Tryd.func138.trans (congrArg some (by kernel_rfl))
  f225 := Tryd.func139.trans (congrArg some (by kernel_rfl))
  f227 := Tryd.func94.trans (congrArg some (by kernel_rfl))
  f228 := Tryd.func119.trans (congrArg some (by kernel_rfl))
  f231 := Tryd.func92.trans (congrArg some (by kernel_rfl))
  f232 := Tryd.func93.trans (congrArg some (by kernel_rfl))
  f233 := Tryd.func95.trans (congrArg some (by kernel_rfl))
  f234 := Tryd.func96.trans (congrArg some (by kernel_rfl))
  f235 := Tryd.func97.trans (congrArg some (by kernel_rfl))
  f236 := Tryd.func98.trans (congrArg some (by kernel_rfl))
  f260 := Tryd.func131.trans (congrArg some (by kernel_rfl))
  f266 := Tryd.func134.trans (congrArg some (by kernel_rfl))
  f271 := Tryd.func122.trans (congrArg some (by kernel_rfl))
  t0 := Tryd.underlying0
  a0 := Tryd.isAgg0
  z0 := Tryd.sizeOf0
  v0 := Tryd.zeroValue0
  t3 := Tryd.underlying3
  a3 := Tryd.isAgg3
  z3 := Tryd.sizeOf3
  v3 := Tryd.zeroValue3
  t4 := Tryd.underlying4
  a4 := Tryd.isAgg4
  z4 := Tryd.sizeOf4
  v4 := Tryd.zeroValue4
  t5 := Tryd.underlying5
  a5 := Tryd.isAgg5
  z5 := Tryd.sizeOf5
  v5 := Tryd.zeroValue5
  t9 := Tryd.underlying9
  a9 := Tryd.isAgg9
  z9 := Tryd.sizeOf9
  v9 := Tryd.zeroValue9
  t21 := Tryd.underlying21
  a21 := Tryd.isAgg21
  z21 := Tryd.sizeOf21
  v21 := Tryd.zeroValue21
  t46 := Tryd.underlying102
  a46 := Tryd.isAgg102
  z46 := Tryd.sizeOf102
  v46 := Tryd.zeroValue102
  t105 := Tryd.underlying134
  a105 := Tryd.isAgg134
  z105 := Tryd.sizeOf134
  v105 := Tryd.zeroValue134
  t116 := Tryd.underlying110
  a116 := Tryd.isAgg110
  z116 := Tryd.sizeOf110
  t117 := Tryd.underlying111
  a117 := Tryd.isAgg111
  z117 := Tryd.sizeOf111
  v117 := Tryd.zeroValue111
  t119 := Tryd.underlying146
  a119 := Tryd.isAgg146
  z119 := Tryd.sizeOf146
  t124 := Tryd.underlying114
  a124 := Tryd.isAgg114
  z124 := Tryd.sizeOf114
  v124 := Tryd.zeroValue114
  t138 := Tryd.underlying148
  a138 := Tryd.isAgg148
  z138 := Tryd.sizeOf148
  v138 := Tryd.zeroValue148
  t139 := Tryd.underlying149
  a139 := Tryd.isAgg149
  z139 := Tryd.sizeOf149
  v139 := Tryd.zeroValue149
  g3 := by kernel_rfl
  g4 := by kernel_rfl }
def Tryd.lays137_ren : Go.Shelf.Ren := ⟨fun | 137 => 107 | 217 => 124 | 266 => 134 | n => n, fun | 9 => 9 | 5 => 5 | 3 => 3 | n => n, fun | n => n⟩
theorem Tryd.lays137 : Go.Proofs.Lays.n137 Tryd.prog Tryd.lays137_ren := {
  mixed := by kernel_rfl
  f137 := Tryd.func107.trans (congrArg some (by kernel_rfl))
  f217 := Tryd.func124.trans (congrArg some (by kernel_rfl))
  f266 := Tryd.func134.trans (congrArg some (by kernel_rfl))
  t3 := Tryd.underlying3
  a3 := Tryd.isAgg3
  z3 := Tryd.sizeOf3
  v3 := Tryd.zeroValue3
  t5 := Tryd.underlying5
  a5 := Tryd.isAgg5
  z5 := Tryd.sizeOf5
  v5 := Tryd.zeroValue5
  t9 := Tryd.underlying9
  a9 := Tryd.isAgg9
  z9 := Tryd.sizeOf9
  v9 := Tryd.zeroValue9 }
open Go.RowKit in
theorem Tryd.strings_IndexByte (s : ByteArray) (c : Int) (w : World) :
    Calls Tryd.prog 107 #[.string s, .int .u8 c] w fun e w' => e = .returned (.int .i64 (Lib.indexByte s.data.toList c.toNat.toUInt8)) ∧ w' = w := Any.strings_IndexByte Tryd.lays137 s c w
def Tryd.laysM171_ren : Go.Shelf.Ren := ⟨fun | 171 => 55 | 243 => 91 | 246 => 118 | 283 => 109 | 284 => 110 | 285 => 111 | 286 => 112 | 129 => 126 | 317 => 125 | 318 => 127 | 319 => 128 | 320 => 129 | 337 => 135 | 338 => 136 | n => n, fun | 3 => 3 | 9 => 9 | 2 => 2 | 4 => 4 | 171 => 120 | 0 => 0 | 53 => 62 | 37 => 69 | 5 => 5 | 173 => 123 | 212 => 139 | 51 => 125 | 20 => 20 | 213 => 140 | 46 => 102 | 232 => 152 | 233 => 153 | n => n, fun | 17 => 0 | 18 => 4 | 19 => 5 | n => n⟩
theorem Tryd.laysM171 : Go.Proofs.LaysM.n171 Tryd.prog Tryd.laysM171_ren := {
  mixed := by kernel_rfl
  f129 := Tryd.func126.trans (congrArg some (by kernel_rfl))
  f171 := Tryd.func55.trans (congrArg some (by kernel_rfl))
  f243 := Tryd.func91.trans (congrArg some (by kernel_rfl))
  f246 := Tryd.func118.trans (congrArg some (by kernel_rfl))
  f283 := Tryd.func109.trans (congrArg some (by kernel_rfl))
  f284 := Tryd.func110.trans (congrArg some (by kernel_rfl))
  f285 := Tryd.func111.trans (congrArg some (by kernel_rfl))
  f286 := Tryd.func112.trans (congrArg some (by kernel_rfl))
  f317 := Tryd.func125.trans (congrArg some (by kernel_rfl))
  f318 := Tryd.func127.trans (congrArg some (by kernel_rfl))
  f319 := Tryd.func128.trans (congrArg some (by kernel_rfl))
  f320 := Tryd.func129.trans (congrArg some (by kernel_rfl))
  f337 := Tryd.func135.trans (congrArg some (by kernel_rfl))
  f338 := Tryd.func136.trans (congrArg some (by kernel_rfl))
  t0 := Tryd.underlying0
  a0 := Tryd.isAgg0
  z0 := Tryd.sizeOf0
  v0 := Tryd.zeroValue0
  t2 := Tryd.underlying2
  a2 := Tryd.isAgg2
  z2 := Tryd.sizeOf2
  v2 := Tryd.zeroValue2
  t3 := Tryd.underlying3
  a3 := Tryd.isAgg3
  z3 := Tryd.sizeOf3
  v3 := Tryd.zeroValue3
  t4 := Tryd.underlying4
  a4 := Tryd.isAgg4
  z4 := Tryd.sizeOf4
  v4 := Tryd.zeroValue4
  t5 := Tryd.underlying5
  a5 := Tryd.isAgg5
  z5 := Tryd.sizeOf5
  v5 := Tryd.zeroValue5
  t9 := Tryd.underlying9
  a9 := Tryd.isAgg9
  z9 := Tryd.sizeOf9
  v9 := Tryd.zeroValue9
  t20 := Tryd.underlying20
  a20 := Tryd.isAgg20
  z20 := Tryd.sizeOf20
  v20 := Tryd.zeroValue20
  t37 := Tryd.underlying69
  a37 := Tryd.isAgg69
  z37 := Tryd.sizeOf69
  v37 := Tryd.zeroValue69
  t46 := Tryd.underlying102
  a46 := Tryd.isAgg102
  z46 := Tryd.sizeOf102
  v46 := Tryd.zeroValue102
  t51 := Tryd.underlying125
  a51 := Tryd.isAgg125
  z51 := Tryd.sizeOf125
  v51 := Tryd.zeroValue125
  t53 := Tryd.underlying62
  a53 := Tryd.isAgg62
  z53 := Tryd.sizeOf62
  v53 := Tryd.zeroValue62
  t171 := Tryd.underlying120
  a171 := Tryd.isAgg120
  z171 := Tryd.sizeOf120
  v171 := Tryd.zeroValue120
  t173 := Tryd.underlying123
  a173 := Tryd.isAgg123
  z173 := Tryd.sizeOf123
  v173 := Tryd.zeroValue123
  t212 := Tryd.underlying139
  a212 := Tryd.isAgg139
  z212 := Tryd.sizeOf139
  v212 := Tryd.zeroValue139
  t213 := Tryd.underlying140
  a213 := Tryd.isAgg140
  z213 := Tryd.sizeOf140
  t232 := Tryd.underlying152
  a232 := Tryd.isAgg152
  z232 := Tryd.sizeOf152
  v232 := Tryd.zeroValue152
  t233 := Tryd.underlying153
  a233 := Tryd.isAgg153
  z233 := Tryd.sizeOf153
  v233 := Tryd.zeroValue153
  g17 := by kernel_rfl
  g18 := by kernel_rfl
  g19 := by kernel_rfl
  i0 := by kernel_rfl
  i2 := by kernel_rfl
  i3 := by kernel_rfl
  i4 := by kernel_rfl
  i5 := by kernel_rfl
  i9 := by kernel_rfl
  i20 := by kernel_rfl
  i37 := by kernel_rfl
  i46 := by kernel_rfl
  i51 := by kernel_rfl
  i53 := by kernel_rfl
  i171 := by kernel_rfl
  i173 := by kernel_rfl
  i212 := by kernel_rfl
  i232 := by kernel_rfl
  i233 := by kernel_rfl
  m17 := by kernel_rfl
  m18 := by kernel_rfl
  m19 := by kernel_rfl }
open Go.RowKit Go.Sort Go.Lib in
theorem Tryd.strconv_Itoa (n : Int) (h0 : -9223372036854775808 ≤ n) (h1 : n ≤ 9223372036854775807) (w : World) (htab : Lib.TabIs Tryd.prog w "internal/strconv.uint64pow10" .u64 Lib.pow10Tab) :
    Calls Tryd.prog 55 #[.int .i64 n] w fun e w' => e = .returned (.string ⟨(Lib.itoa n).toArray⟩) ∧ ∃ k os, w' = grow (w.drewN k) os := Any.strconv_Itoa Tryd.laysM171 n h0 h1 w htab
def Tryd.lays105_ren : Go.Shelf.Ren := ⟨fun | 105 => 52 | 212 => 86 | 99 => 87 | 165 => 88 | 166 => 54 | 170 => 89 | 169 => 57 | 263 => 113 | 264 => 114 | 206 => 115 | 240 => 90 | 241 => 116 | 276 => 117 | 277 => 130 | n => n, fun | 9 => 9 | 3 => 3 | 4 => 4 | 20 => 20 | 0 => 0 | 46 => 102 | 109 => 103 | 5 => 5 | 72 => 71 | 76 => 74 | 51 => 125 | 146 => 126 | 53 => 62 | 148 => 128 | 70 => 68 | 37 => 69 | 75 => 73 | 127 => 107 | 164 => 130 | 80 => 78 | n => n, fun | n => n⟩
theorem Tryd.lays105 : Go.Proofs.Lays.n105 Tryd.prog Tryd.lays105_ren := {
  mixed := by kernel_rfl
  f99 := Tryd.func87.trans (congrArg some (by kernel_rfl))
  f105 := Tryd.func52.trans (congrArg some (by kernel_rfl))
  f165 := Tryd.func88.trans (congrArg some (by kernel_rfl))
  f166 := Tryd.func54.trans (congrArg some (by kernel_rfl))
  f169 := Tryd.func57.trans (congrArg some (by kernel_rfl))
  f170 := Tryd.func89.trans (congrArg some (by kernel_rfl))
  f206 := Tryd.func115.trans (congrArg some (by kernel_rfl))
  f212 := Tryd.func86.trans (congrArg some (by kernel_rfl))
  f240 := Tryd.func90.trans (congrArg some (by kernel_rfl))
  f241 := Tryd.func116.trans (congrArg some (by kernel_rfl))
  f263 := Tryd.func113.trans (congrArg some (by kernel_rfl))
  f264 := Tryd.func114.trans (congrArg some (by kernel_rfl))
  f276 := Tryd.func117.trans (congrArg some (by kernel_rfl))
  f277 := Tryd.func130.trans (congrArg some (by kernel_rfl))
  t0 := Tryd.underlying0
  a0 := Tryd.isAgg0
  z0 := Tryd.sizeOf0
  v0 := Tryd.zeroValue0
  t3 := Tryd.underlying3
  a3 := Tryd.isAgg3
  z3 := Tryd.sizeOf3
  v3 := Tryd.zeroValue3
  t4 := Tryd.underlying4
  a4 := Tryd.isAgg4
  z4 := Tryd.sizeOf4
  v4 := Tryd.zeroValue4
  t5 := Tryd.underlying5
  a5 := Tryd.isAgg5
  z5 := Tryd.sizeOf5
  v5 := Tryd.zeroValue5
  t9 := Tryd.underlying9
  a9 := Tryd.isAgg9
  z9 := Tryd.sizeOf9
  v9 := Tryd.zeroValue9
  t20 := Tryd.underlying20
  a20 := Tryd.isAgg20
  z20 := Tryd.sizeOf20
  v20 := Tryd.zeroValue20
  t37 := Tryd.underlying69
  a37 := Tryd.isAgg69
  z37 := Tryd.sizeOf69
  v37 := Tryd.zeroValue69
  t46 := Tryd.underlying102
  a46 := Tryd.isAgg102
  z46 := Tryd.sizeOf102
  v46 := Tryd.zeroValue102
  t51 := Tryd.underlying125
  a51 := Tryd.isAgg125
  z51 := Tryd.sizeOf125
  v51 := Tryd.zeroValue125
  t53 := Tryd.underlying62
  a53 := Tryd.isAgg62
  z53 := Tryd.sizeOf62
  v53 := Tryd.zeroValue62
  t70 := Tryd.underlying68
  a70 := Tryd.isAgg68
  z70 := Tryd.sizeOf68
  v70 := Tryd.zeroValue68
  t72 := Tryd.underlying71
  a72 := Tryd.isAgg71
  z72 := Tryd.sizeOf71
  v72 := Tryd.zeroValue71
  t75 := Tryd.underlying73
  a75 := Tryd.isAgg73
  z75 := Tryd.sizeOf73
  v75 := Tryd.zeroValue73
  t76 := Tryd.underlying74
  a76 := Tryd.isAgg74
  z76 := Tryd.sizeOf74
  v76 := Tryd.zeroValue74
  t109 := Tryd.underlying103
  a109 := Tryd.isAgg103
  z109 := Tryd.sizeOf103
  v109 := Tryd.zeroValue103
  t127 := Tryd.underlying107
  a127 := Tryd.isAgg107
  z127 := Tryd.sizeOf107
  v127 := Tryd.zeroValue107
  t146 := Tryd.underlying126
  a146 := Tryd.isAgg126
  z146 := Tryd.sizeOf126
  v146 := Tryd.zeroValue126
  t148 := Tryd.underlying128
  a148 := Tryd.isAgg128
  z148 := Tryd.sizeOf128
  v148 := Tryd.zeroValue128
  t164 := Tryd.underlying130
  a164 := Tryd.isAgg130
  z164 := Tryd.sizeOf130
  v164 := Tryd.zeroValue130 }
theorem Tryd.Builder_Extra_105 : Builder.Extra Tryd.prog Tryd.lays105_ren := {
  sizeBuilder := by kernel_rfl
  liesBuilder := by kernel_rfl
  t5 := Tryd.underlying5
  a5 := Tryd.isAgg5
  z5 := Tryd.sizeOf5
  v5 := Tryd.zeroValue5
  infoByte := by kernel_rfl
  cellsByte := by kernel_rfl
  sizeByte := by kernel_rfl
  neB5 := by decide }
open Go.RowKit Go.Lib in
theorem Tryd.strings_Repeat (s : ByteArray) (c : Nat) (w : World) (hc : c ≤ 9223372036854775807) (hlen : s.size * c ≤ 140737488355328) :
    Calls Tryd.prog 52 #[.string s, .int .i64 c] w fun e w' => e = .returned (.string ⟨(Lib.repeatL s.data.toList c).toArray⟩) ∧ Below w.heap.size w w' := Any.strings_Repeat Tryd.lays105 Tryd.Builder_Extra_105 s c w hc hlen
def Tryd.laysNm216_ren : Go.Shelf.Ren := ⟨fun | 16 => 63 | n => n, fun | 24 => 22 | 9 => 9 | 4 => 4 | n => n, fun | n => n⟩
theorem Tryd.laysNm216 : Go.Proofs.Lays2.n16 Tryd.prog Tryd.laysNm216_ren := {
  mixed := by kernel_rfl
  f16 := Tryd.func63.trans (congrArg some (by kernel_rfl))
  t4 := Tryd.underlying4
  a4 := Tryd.isAgg4
  z4 := Tryd.sizeOf4
  v4 := Tryd.zeroValue4
  t9 := Tryd.underlying9
  a9 := Tryd.isAgg9
  z9 := Tryd.sizeOf9
  v9 := Tryd.zeroValue9
  t24 := Tryd.underlying22
  a24 := Tryd.isAgg22
  z24 := Tryd.sizeOf22
  v24 := Tryd.zeroValue22
  i9 := by kernel_rfl }
open Go.RowKit Go.Lib in
theorem Tryd.slices_Clone_string (b off n c : Nat) (zs : List ByteArray) (w : World) (hz : n ≤ zs.length) (hbig : n * 16 ≤ 140737488355328) (hc : ∀ j, j < zs.length → w.cell? ⟨b, off + j, none⟩ = some (.string (zs.getD j ByteArray.empty))) :
    Calls Tryd.prog 63 #[.slice (some ⟨b, off, none⟩) n c] w fun e w' => ∃ v', e = .returned v' ∧ w'.ownsRow w.heap.size 9 1 v' n ((zs.take n).map (Value.string)) ∧ v' ≠ .slice none 0 0 ∧ Below w.heap.size w w' := Any.slices_Clone_string Tryd.laysNm216 b off n c zs w hz hbig hc
open Go.RowKit Go.Lib in
theorem Tryd.slices_Clone_string_nil (n c : Nat) (w : World) :
    Calls Tryd.prog 63 #[.slice none n c] w fun e w' => e = .returned (.slice none 0 0) ∧ w' = w := Any.slices_Clone_string_nil Tryd.laysNm216 n c w
open Go.RowKit Go.Lib in
theorem Tryd.slices_Clone_string_zero (a : Addr) (c : Nat) (w : World) :
    Calls Tryd.prog 63 #[.slice (some a) 0 c] w fun e w' => ∃ v', e = .returned v' ∧ w'.ownsRow w.heap.size 9 1 v' 0 [] ∧ v' ≠ .slice none 0 0 ∧ Below w.heap.size w w' := Any.slices_Clone_string_zero Tryd.laysNm216 a c w
end Go.Proofs

namespace Go.Proofs.YtdlipbfcadmhjaaDoor
open Go.RowKit Go.Proofs.YtdlipbfcadmhjaaDoorW.PrintWords
theorem formatUintI_any (n : Nat) (hn : n < 18446744073709551616) (w : World) (h : GL w) :
    Calls Tryd.prog 85 #[.int .u64 (n : Int), .int .i64 16] w fun e w' =>
      ∃ m, m ≤ 15 ∧ n < 16 ^ (m + 1) ∧ e = .returned (.string ⟨(Pl.hexs (m + 1) n).toArray⟩) ∧ Below w.heap.size w w' := by
 have H := Lib.hid h
 have Hn := Lib.hid hn
 clear h hn
 go_enter Tryd.func85, Tryd.ntmps85
 go_wp2_with fail
 refine (formatBits_any n Hn.out _ (by exact H.out)).mono ?_
 rintro e w' ⟨m, hm, hmn, rfl, hb⟩
 have Hm := Lib.hid hmn
 have Hb := Lib.hid hb
 clear hmn hb; go_wp2; go_ret
 exact ⟨m, hm, Hm.out, rfl, Hb.out⟩
theorem formatUint_any (n : Nat) (hn : n < 18446744073709551616) (w : World) (h : GL w) :
    Calls Tryd.prog 51 #[.int .u64 (n : Int), .int .i64 16] w fun e w' =>
      ∃ m, m ≤ 15 ∧ n < 16 ^ (m + 1) ∧ e = .returned (.string ⟨(Pl.hexs (m + 1) n).toArray⟩) ∧ Below w.heap.size w w' := by
 have H := Lib.hid h
 have Hn := Lib.hid hn
 clear h hn
 go_enter Tryd.func51, Tryd.ntmps51
 go_wp2_with fail
 refine (formatUintI_any n Hn.out _ (by exact H.out)).mono ?_
 rintro e w' ⟨m, hm, hmn, rfl, hb⟩
 have Hm := Lib.hid hmn
 have Hb := Lib.hid hb
 clear hmn hb; go_wp2; go_ret
 exact ⟨m, hm, Hm.out, rfl, Hb.out⟩
theorem hexs_pad (k m n : Nat) (h : n < 16 ^ m) : Pl.hexs (k + m) n = List.replicate k 48 ++ Pl.hexs m n := by
 induction k with
 | zero => simp
 | succ k ih =>
  rw [show k + 1 + m = (k + m) + 1 from by omega, hexs_cons, ih]
  have : n / 16 ^ (k + m) = 0 := Nat.div_eq_of_lt (Nat.lt_of_lt_of_le h (Nat.pow_le_pow_right (by omega) (by omega)))
  rw [this]
  rfl
theorem ret_str {a b : ByteArray} (h : a = b) : Ending.returned (.string a) = .returned (.string b) := by rw [h]
theorem rep48 (k : Nat) : Lib.repeatL [48] k = List.replicate k 48 := by
 induction k with
 | zero => rfl
 | succ k ih => simp_all [Lib.repeatL, List.replicate_succ]
set_option maxRecDepth 100000 in
set_option maxHeartbeats 1000000 in
theorem sum_any (s : ByteArray) (hs : s.size ≤ 4611686018427387904) (w : World) (h : GL w) :
    Calls Tryd.prog 20 #[.string s] w fun e w' => e = .returned (.string (Pl.sum s)) ∧ Below w.heap.size w w' := by
 have H := Lib.hid h
 clear h
 have hmf : ∀ (fn : Fn) (first cap : Array Value) (w : World), (Instr.makeFunc fn first cap).run Tryd.prog w = .ok (.func fn first cap) w := fun _ _ _ _ => rfl
 have hx : bits BinOp.xor IntKind.u64 2611923443488327891 (IntKind.u64.wrap (s.size : Int)) = ((Pl.st0 s.size : Nat) : Int) := by
  rw [show IntKind.u64.wrap (s.size : Int) = (s.size : Int) from by rw [IntKind.wrap_u64]; omega]
  exact u64_xor_nat 2611923443488327891 s.size (by decide) (by omega)
 have Hs := Lib.hid hs
 clear hs
 go_enter Tryd.func20, Tryd.ntmps20
 go_wp2_with fail
 refine (blocks_any w.heap.size s Hs.out _ (by exact blk_new w _)).mono ?_
 rintro e w1 ⟨rfl, hb1, hg1⟩
 have hsz : w.heap.size < w1.heap.size := by have := hg1.size; simp at this; omega
 have hc1 : w1.cell? ⟨w.heap.size, 0, none⟩ = some (.int .u64 ((Pl.final s.data.toList : Nat) : Int)) := (blk_cell hb1 0).trans rfl
 have Hbel := Lib.hid (((Below.refl w.heap.size w).alloc (Nat.le_refl _) (.cells #[.int .u64 ((Pl.st0 s.size : Nat) : Int)] 63)).grown hg1 (by simp) (fun k hk => by cases hk; exact Nat.le_refl _))
 have Hg1 := Lib.hid (H.out.below Hbel.out)
 clear hb1 hg1
 go_wp2_with fail
 refine (formatUint_any (Pl.final s.data.toList) Pl.final_lt _ (by exact Hg1.out)).mono ?_
 rintro e w2 ⟨m, hm, hmn, rfl, hb2⟩
 have Hm := Lib.hid hmn
 have Hb2 := Lib.hid (Hbel.out.trans (hb2.mono (by omega)))
 have hl : (⟨(Pl.hexs (m + 1) (Pl.final s.data.toList)).toArray⟩ : ByteArray).size = m + 1 := by
  show (Pl.hexs (m + 1) (Pl.final s.data.toList)).toArray.size = _
  rw [List.size_toArray, Pl.hexs_length]
 obtain ⟨o, ho⟩ : ∃ o : ByteArray, (⟨(Pl.hexs (m + 1) (Pl.final s.data.toList)).toArray⟩ : ByteArray) = o := ⟨_, rfl⟩
 rw [ho] at hl ⊢
 have Ho := Lib.hid ho
 clear hmn hb2 ho hc1
 go_wp2_with fail
 rw [show (16 : Int) - ((m : Int) + 1) = ((15 - m : Nat) : Int) from by omega]
 refine (Tryd.strings_Repeat ⟨#[48]⟩ (15 - m) _ (by omega) (by show 1 * (15 - m) ≤ _; omega)).mono ?_
 rintro e w3 ⟨rfl, hb3⟩
 have Hb3 := Lib.hid (Hb2.out.trans (hb3.mono (by have := Hb2.out.size; omega)))
 clear hb3
 have hrl : (Lib.repeatL [48] (15 - m)) = List.replicate (15 - m) 48 := rep48 _
 obtain ⟨z, hz⟩ : ∃ z : ByteArray, (⟨(Lib.repeatL (⟨#[48]⟩ : ByteArray).data.toList (15 - m)).toArray⟩ : ByteArray) = z := ⟨_, rfl⟩
 have hzl : z.size = 15 - m := by
  rw [← hz]
  show (Lib.repeatL [48] (15 - m)).toArray.size = _
  rw [List.size_toArray, hrl, List.length_replicate]
 rw [hz]
 have Hz := Lib.hid hz
 have Hrl := Lib.hid hrl
 clear hz hrl; go_wp2; go_ret
 refine ⟨ret_str (a := z ++ o) ?_, Hb3.out⟩
 rw [← Hz.out, ← Ho.out]
 unfold Pl.sum Pl.sumL
 have hp := hexs_pad (15 - m) (m + 1) (Pl.final s.data.toList) Hm.out
 rw [show 15 - m + (m + 1) = 16 from by omega] at hp
 rw [hp, ← Hrl.out]
 apply ByteArray.ext
 simp
end Go.Proofs.YtdlipbfcadmhjaaDoor

namespace Go.Proofs.YtdlipbfcadmhjaaDoor.Pl
def joinedL : List ByteArray → List UInt8
  | [] => []
  | s :: l => Go.Lib.itoa (s.size : Int) ++ (58 :: s.data.toList) ++ joinedL l
def joined (l : List ByteArray) : ByteArray := ⟨(joinedL l).toArray⟩
theorem joinedL_append (l m : List ByteArray) : joinedL (l ++ m) = joinedL l ++ joinedL m := by
 induction l with
 | nil => rfl
 | cons s l ih => simp [joinedL, ih]
theorem joined_size (l : List ByteArray) : (joined l).size = (joinedL l).length := by
 show (joinedL l).toArray.size = _
 simp
theorem joinedL_take (l : List ByteArray) (k : Nat) : (joinedL (l.take k)).length ≤ (joinedL l).length := by
 conv => rhs; rw [← List.take_append_drop k l, joinedL_append, List.length_append]
 omega
theorem joinedL_take_succ (l : List ByteArray) (k : Nat) (h : k < l.length) :
    joinedL (l.take (k + 1)) = joinedL (l.take k) ++ (Go.Lib.itoa ((l.getD k ByteArray.empty).size : Int) ++ (58 :: (l.getD k ByteArray.empty).data.toList)) := by
 rw [List.take_succ_eq_append_getElem h, joinedL_append]
 simp [joinedL, List.getD_eq_getElem?_getD, List.getElem?_eq_getElem h]
end Go.Proofs.YtdlipbfcadmhjaaDoor.Pl

namespace Go.Proofs.YtdlipbfcadmhjaaDoor
open Go.RowKit Go.Proofs.YtdlipbfcadmhjaaDoorW.PrintWords
theorem builder_below {T e : TypeId} {B b : Nat} {bs : List Value} {W w1 : World} (h : Lib.IsBuilder T e B b bs W) (hb : Below W.heap.size W w1) : Lib.IsBuilder T e B b bs w1 := by
 rcases h with ⟨hB, v, hbk, ho, hne⟩ | ⟨hB, v, hbk, ho, hne⟩
 ·exact .inl ⟨hB, v, blk_below hbk hb, pw_own_below ho hb, hne⟩
 ·exact .inr ⟨hB, v, blk_below hbk hb, pw_own_below ho hb, hne⟩
def digest_List.f (l : List ByteArray) : Option ByteArray := if (Pl.joined l).size ≤ 140737488355328 then some (Pl.sum (Pl.joined l)) else none
set_option maxRecDepth 100000 in
set_option maxHeartbeats 2000000 in
theorem list_any (A0 : Option Addr) (c0 : Nat) (l0 : List ByteArray) (w : World) (hG : GL w) (hr0 : Kd.C Kd.string w A0 l0.length l0) (hc0 : l0.length ≤ c0)
    (hj : (Pl.joinedL l0).length ≤ 140737488355328) :
    Calls Tryd.prog 22 #[.slice A0 l0.length c0] w fun e w' => e = .returned (.string (Pl.sum (Pl.joined l0))) ∧ Below w.heap.size w w' := by
 have HG := Lib.hid hG
 have HR := Lib.hid hr0
 have HJ := Lib.hid hj
 have hmax := Kd.C_max hr0
 clear hG hr0 hc0 hj
 go_enter Tryd.func22, Tryd.ntmps22
 go_wp2_with fail
 go_loopw [8] (fun i wr => ∃ k : Nat, k ≤ l0.length ∧ i = .int .i64 (k : Int) ∧ Hid (Lib.IsBuilder 71 5 w.heap.size w.heap.size (Lib.byteCells (Pl.joinedL (l0.take k))) wr) ∧ Hid (Below w.heap.size w wr)) (fun i _ => l0.length - (intOf i).toNat)
 case atStart => exact ⟨0, Nat.zero_le _, rfl, Lib.hid (Lib.fresh_isBuilder _ _ w), Lib.hid ((Below.refl _ _).alloc (Nat.le_refl _) _)⟩
 case round =>
  obtain ⟨k, hk, rfl, HI, HB⟩ := hrel
  by_cases hlt : k < l0.length
  ·obtain ⟨ad, rfl, hc⟩ := Kd.at_string HR.out (k : Int) (by omega) (by omega)
   rw [Int.toNat_natCast] at hc
   have hcw := (HB.out.cell (World.block_lt_of_cell? w _ hc)).trans hc
   have hs : (rdOf ByteArray.empty l0 (k : Int)) = l0.getD k ByteArray.empty := by simp [rdOf]
   rw [hs] at hcw
   obtain ⟨s, hse⟩ : ∃ s, l0.getD k ByteArray.empty = s := ⟨_, rfl⟩
   rw [hse] at hcw
   have hstep := Pl.joinedL_take_succ l0 k hlt
   rw [hse] at hstep
   have hlen := Pl.joinedL_take l0 (k + 1)
   rw [hstep] at hlen
   have Hstep := Lib.hid hstep
   have Hlen := Lib.hid hlen
   clear hc hs hse hstep hlen
   have hsz : s.size ≤ 140737488355328 := by
    have h1 := HJ.out; have h2 := Hlen.out
    simp only [List.length_append, List.length_cons, data_length] at h2
    omega
   have hlt1 : w.heap.size < wr.heap.size := by
    rcases HI.out with ⟨_, v, hbk, _⟩ | ⟨_, v, hbk, _⟩ <;> exact blk_lt hbk
   go_wp2_with fail
   refine (Tryd.strconv_Itoa (s.size : Int) (by omega) (by omega) _ (by exact (HG.out.below HB.out).pow)).mono ?_
   rintro e w1 ⟨rfl, kk, os, hw⟩
   have hb1 : Below wr.heap.size wr w1 := by rw [hw]; exact Lib.below_grow _ _ (Nat.le_refl _) kk os
   have hi1 := builder_below HI.out hb1
   have hb1' := below_then HB.out (Nat.le_of_lt hlt1) hb1
   have hs1 := hb1.size
   have HI1 := Lib.hid hi1
   have HB1 := Lib.hid hb1'
   have Hw := Lib.hid hw
   clear hw hi1 hb1' hb1
   go_wp2_with fail
   refine (Tryd.Builder_WriteString w.heap.size w.heap.size _ ⟨(Lib.itoa (s.size : Int)).toArray⟩ _ HI1.out (by
    have h1 := HJ.out; have h2 := Hlen.out
    simp only [List.length_append, List.length_cons] at h2
    rw [Lib.byteCells_length]
    show _ + (Lib.itoa (s.size : Int)).toArray.size ≤ _
    rw [List.size_toArray]
    omega) (by exact HB1.out.size)).mono ?_
   rintro e w2 ⟨rfl, hi2, hb2⟩
   have HI2 := Lib.hid (Or.inr hi2 : Lib.IsBuilder 71 5 w.heap.size w.heap.size _ w2)
   have HB2 := Lib.hid (HB1.out.trans hb2)
   clear hi2 hb2
   go_wp2_with fail
   refine (Tryd.Builder_WriteByte w.heap.size w.heap.size _ 58 _ HI2.out (by
    have h1 := HJ.out; have h2 := Hlen.out
    simp only [List.length_append, List.length_cons] at h2
    rw [List.length_append, Lib.byteCells_length, Lib.strCells_toArray, Lib.byteCells_length]
    omega) (by exact HB2.out.size)).mono ?_
   rintro e w3 ⟨rfl, hi3, hb3⟩
   have HI3 := Lib.hid (Or.inr hi3 : Lib.IsBuilder 71 5 w.heap.size w.heap.size _ w3)
   have HB3 := Lib.hid (HB2.out.trans hb3)
   clear hi3 hb3
   go_wp2_with fail
   refine (Tryd.Builder_WriteString w.heap.size w.heap.size _ s _ HI3.out (by
    have h1 := HJ.out; have h2 := Hlen.out
    simp only [List.length_append, List.length_cons, data_length] at h2
    rw [List.length_append, List.length_append, Lib.byteCells_length, Lib.strCells_toArray, Lib.byteCells_length]
    simp only [List.length_cons, List.length_nil]
    omega) (by exact HB3.out.size)).mono ?_
   rintro e w4 ⟨rfl, hi4, hb4⟩
   have HI4 := Lib.hid (Or.inr hi4 : Lib.IsBuilder 71 5 w.heap.size w.heap.size _ w4)
   have HB4 := Lib.hid (HB3.out.trans hb4)
   clear hi4 hb4; go_wp2
   go_roundw
   case rel =>
    refine ⟨k + 1, by omega, by go_num, ?_, HB4⟩
    have h := HI4.out
    rw [Lib.strCells_toArray, Lib.strCells_eq] at h
    refine Lib.hid ?_
    rw [Hstep.out]
    have e : Lib.byteCells (Pl.joinedL (l0.take k) ++ (Lib.itoa (s.size : Int) ++ 58 :: s.data.toList)) = Lib.byteCells (Pl.joinedL (l0.take k)) ++ Lib.byteCells (Lib.itoa (s.size : Int)) ++ [Value.int .u8 58] ++ Lib.byteCells s.data.toList := by
     simp [Lib.byteCells]
    rw [e]
    exact h
   case measure => simp [intOf]; omega
  ·obtain rfl : k = l0.length := by omega
   rw [List.take_length] at HI
   go_wp2_with fail
   refine (Tryd.Builder_String_any w.heap.size w.heap.size _ _ HI.out (by exact HB.out.size)).mono ?_
   rintro e w1 ⟨rfl, hb1⟩
   have HB1 := Lib.hid (HB.out.trans hb1)
   clear hb1
   go_wp2_with fail
   refine (sum_any ⟨(Pl.joinedL l0).toArray⟩ (by have := HJ.out; show (Pl.joinedL l0).toArray.size ≤ _; rw [List.size_toArray]; omega) _ (by exact HG.out.below HB1.out)).mono ?_
   rintro e w2 ⟨rfl, hb2⟩
   have HB2 := Lib.hid (below_then HB1.out HB1.out.size hb2)
   clear hb2; go_wp2; go_ret
   exact ⟨rfl, HB2.out⟩
theorem digest_List.calls (A0 : Option Addr) (c0 : Nat) (l0 : List ByteArray) (r : ByteArray) (w : World) (hG : GL w) (hr0 : Kd.C Kd.string w A0 l0.length l0) (hc0 : l0.length ≤ c0) (h : digest_List.f l0 = some r) :
    Calls Tryd.prog 22 #[.slice A0 l0.length c0] w fun e w' => e = .returned (.string r) ∧ Below w.heap.size w w' := by
 unfold digest_List.f at h
 by_cases hc : (Pl.joined l0).size ≤ 140737488355328
 ·rw [if_pos hc] at h
  obtain rfl := Option.some.inj h
  exact list_any A0 c0 l0 w hG hr0 hc0 (by rw [← Pl.joined_size]; exact hc)
 ·rw [if_neg hc] at h
  cases h
def digest_Sum.f (a : ByteArray) : Option ByteArray := if a.size ≤ 140737488355328 then some (Pl.sum a) else none
theorem digest_Sum.calls (a0 : ByteArray) (r : ByteArray) (w : World) (hG : GL w) (h : digest_Sum.f a0 = some r) :
    Calls Tryd.prog 20 #[.string a0] w fun e w' => e = .returned (.string r) ∧ Below w.heap.size w w' := by
 unfold digest_Sum.f at h
 by_cases hc : a0.size ≤ 140737488355328
 ·rw [if_pos hc] at h
  obtain rfl := Option.some.inj h
  exact sum_any a0 (by omega) w hG
 ·rw [if_neg hc] at h
  cases h
end Go.Proofs.YtdlipbfcadmhjaaDoor

namespace Go.Proofs.YtdlipbfcadmhjaaDoor
open Go.RowKit Go.Proofs.YtdlipbfcadmhjaaDoorW.PrintWords
namespace Pl
def hexSet : List UInt8 := [48, 49, 50, 51, 52, 53, 54, 55, 56, 57, 97, 98, 99, 100, 101, 102]
def isDig (s : ByteArray) : Bool := decide (s.size = 16) && s.data.toList.all (hexSet.contains ·)
end Pl
theorem dropWhile_nil {α : Type} (p : α → Bool) (l : List α) : l.dropWhile p = [] ↔ l.all p = true := by
 induction l with
 | nil => simp
 | cons x l ih =>
  by_cases h : p x = true
  ·simp [List.dropWhile_cons, h, ih]
  ·simp [List.dropWhile_cons, h]
theorem trim_nil (l cs : List UInt8) : Lib.trimS l cs = [] ↔ l.all (cs.contains ·) = true := by
 unfold Lib.trimS Lib.trimLeftS Lib.trimRightS
 constructor
 ·intro h
  rw [dropWhile_nil] at h
  by_cases hall : l.all (cs.contains ·) = true
  ·exact hall
  ·exfalso
   have hne : List.dropWhile (cs.contains ·) l.reverse ≠ [] := by
    intro e
    rw [dropWhile_nil, List.all_reverse] at e
    exact hall e
   have hhd := List.head_dropWhile_not (cs.contains ·) hne
   rw [List.all_reverse, List.all_eq_true] at h
   have := h _ (List.head_mem hne)
   simp_all
 ·intro h
  have : List.dropWhile (cs.contains ·) l.reverse = [] := by rw [dropWhile_nil, List.all_reverse]; exact h
  rw [this]; rfl
theorem trim_any (s : ByteArray) (w : World) (hs : s.size ≤ 9223372036854775807) :
    Calls Tryd.prog 58 #[.string s, .string ⟨#[48, 49, 50, 51, 52, 53, 54, 55, 56, 57, 97, 98, 99, 100, 101, 102]⟩] w fun e w' => e = .returned (.string ⟨(Lib.trimS s.data.toList Pl.hexSet).toArray⟩) ∧ Below w.heap.size w w' :=
  Any.strings_Trim_laid Tryd.lays160 (by kernel_rfl) s ⟨#[48, 49, 50, 51, 52, 53, 54, 55, 56, 57, 97, 98, 99, 100, 101, 102]⟩ w hs (by decide) (ascii_of_all (by decide))
theorem is_yes (s : ByteArray) (w : World) (h16 : s.size = 16) :
    Calls Tryd.prog 26 #[.string s] w fun e w' => e = .returned (.bool (s.data.toList.all (Pl.hexSet.contains ·))) ∧ Below w.heap.size w w' := by
 have hb : ((s.size : Int) == 16) = true := by rw [h16]; rfl
 have H16 := Lib.hid h16
 clear h16
 go_enter Tryd.func26, Tryd.ntmps26
 go_wp2_with fail
 refine (trim_any s _ (by have := H16.out; omega)).mono ?_
 rintro e w1 ⟨rfl, hb1⟩
 have HB := Lib.hid hb1
 clear hb1
 obtain ⟨t, ht⟩ : ∃ t, Lib.trimS s.data.toList Pl.hexSet = t := ⟨_, rfl⟩
 rw [ht]
 have HT := Lib.hid ht
 clear ht; go_wp2; go_ret
 refine ⟨?_, HB.out⟩
 have e : t.isEmpty = s.data.toList.all (Pl.hexSet.contains ·) := by
  rw [← HT.out, Bool.eq_iff_iff, List.isEmpty_iff, trim_nil]
 show Ending.returned (.bool t.isEmpty) = _
 rw [e]
theorem is_no (s : ByteArray) (w : World) (h16 : s.size ≠ 16) :
    Calls Tryd.prog 26 #[.string s] w fun e w' => e = .returned (.bool false) ∧ Below w.heap.size w w' := by
 have hb : ((s.size : Int) == 16) = false := by rw [beq_eq_false_iff_ne]; omega
 clear h16
 go_enter Tryd.func26, Tryd.ntmps26
 go_wp2; go_ret
 exact ⟨rfl, Below.refl _ _⟩
def digest_Is.f (a : ByteArray) : Option Bool := some (Pl.isDig a)
theorem digest_Is.calls (a0 : ByteArray) (r : Bool) (w : World) (hG : GL w) (h : digest_Is.f a0 = some r) :
    Calls Tryd.prog 26 #[.string a0] w fun e w' => e = .returned (.bool r) ∧ Below w.heap.size w w' := by
 unfold digest_Is.f Pl.isDig at h
 obtain rfl := Option.some.inj h
 by_cases h16 : a0.size = 16
 ·refine (is_yes a0 w h16).mono ?_
  rintro e w' ⟨rfl, hb⟩
  exact ⟨by simp [h16], hb⟩
 ·refine (is_no a0 w h16).mono ?_
  rintro e w' ⟨rfl, hb⟩
  exact ⟨by simp [h16], hb⟩
def strconv_Itoa.f (a : Int) : Option ByteArray := if -9223372036854775808 ≤ a then if a ≤ 9223372036854775807 then some ⟨(Lib.itoa a).toArray⟩ else none else none
theorem strconv_Itoa.calls (a0 : Int) (r : ByteArray) (w : World) (hG : GL w) (h : strconv_Itoa.f a0 = some r) :
    Calls Tryd.prog 55 #[.int .i64 a0] w fun e w' => e = .returned (.string r) ∧ Below w.heap.size w w' := by
 unfold strconv_Itoa.f at h
 by_cases h1 : -9223372036854775808 ≤ a0
 ·by_cases h2 : a0 ≤ 9223372036854775807
  ·rw [if_pos h1, if_pos h2] at h
   obtain rfl := Option.some.inj h
   refine (Tryd.strconv_Itoa a0 h1 h2 w hG.pow).mono ?_
   rintro e w' ⟨rfl, k, os, rfl⟩
   exact ⟨rfl, Lib.below_grow _ _ (Nat.le_refl _) k os⟩
  ·rw [if_pos h1, if_neg h2] at h
   cases h
 ·rw [if_neg h1] at h
  cases h
end Go.Proofs.YtdlipbfcadmhjaaDoor

namespace Go.Proofs.YtdlipbfcadmhjaaDoor
open Go.RowKit Go.Proofs.YtdlipbfcadmhjaaDoorW.PrintWords
def Held (n q : Nat) (s : ByteArray) : Prop := (if q = 0 then [] else Lib.decDigits q) ++ s.data.toList = Lib.decDigits n
theorem piece (d : Nat) (h : d < 10) : ((⟨#[48, 49, 50, 51, 52, 53, 54, 55, 56, 57]⟩ : ByteArray).extract d (d + 1)).data.toList = [UInt8.ofNat (48 + d)] := by
 rw [Lib.extract_data]
 have key : ∀ x : Fin 10, (([48, 49, 50, 51, 52, 53, 54, 55, 56, 57] : List UInt8).drop x.1).take (x.1 + 1 - x.1) = [UInt8.ofNat (48 + x.1)] := by decide
 exact key ⟨d, h⟩
theorem dec_step (n : Nat) : Lib.decDigits n = (if n / 10 = 0 then [] else Lib.decDigits (n / 10)) ++ [UInt8.ofNat (48 + n % 10)] := by
 conv => lhs; rw [Lib.decDigits]
 by_cases h : n < 10
 ·rw [dif_pos h, if_pos (by omega), Nat.mod_eq_of_lt h]; rfl
 ·rw [dif_neg h, if_neg (by omega)]
theorem held_start (n : Nat) : Held n (n / 10) ((⟨#[48, 49, 50, 51, 52, 53, 54, 55, 56, 57]⟩ : ByteArray).extract (n % 10) (n % 10 + 1)) := by
 unfold Held
 rw [piece _ (Nat.mod_lt _ (by omega)), ← dec_step]
theorem held_step {n q : Nat} {s : ByteArray} (h : Held n q s) (hq : 0 < q) : Held n (q / 10) ((⟨#[48, 49, 50, 51, 52, 53, 54, 55, 56, 57]⟩ : ByteArray).extract (q % 10) (q % 10 + 1) ++ s) := by
 unfold Held at h ⊢
 rw [ByteArray.data_append, Array.toList_append, piece _ (Nat.mod_lt _ (by omega)), ← List.append_assoc, ← dec_step]
 rw [if_neg (by omega)] at h
 exact h
theorem dec_size (n : Nat) (hn : n < 18446744073709551616) : (⟨(Lib.decDigits n).toArray⟩ : ByteArray).size ≤ 100 := by
 have h2 : ∀ (k m : Nat), m < 10 ^ (k + 1) → (Lib.decDigits m).length ≤ k + 1 := by
  intro k
  induction k with
  | zero => intro m hm; rw [Lib.decDigits, dif_pos (by omega)]; simp
  | succ k ih =>
   intro m hm
   rw [dec_step, List.length_append]
   by_cases h0 : m / 10 = 0
   ·rw [if_pos h0]; simp
   ·rw [if_neg h0]
    have := ih (m / 10) (by rw [Nat.pow_succ] at hm; omega)
    simp; omega
 have := h2 19 n (by omega)
 show (Lib.decDigits n).toArray.size ≤ 100
 rw [List.size_toArray]
 omega
theorem held_size {n q : Nat} {s : ByteArray} (h : Held n q s) (hn : n < 18446744073709551616) : s.size ≤ 100 := by
 have h1 : s.data.toList.length ≤ (Lib.decDigits n).length := by rw [← h, List.length_append]; omega
 rw [data_length] at h1
 have h2 : ∀ (k m : Nat), m < 10 ^ (k + 1) → (Lib.decDigits m).length ≤ k + 1 := by
  intro k
  induction k with
  | zero => intro m hm; rw [Lib.decDigits, dif_pos (by omega)]; simp
  | succ k ih =>
   intro m hm
   rw [dec_step, List.length_append]
   by_cases h0 : m / 10 = 0
   ·rw [if_pos h0]; simp
   ·rw [if_neg h0]
    have := ih (m / 10) (by rw [Nat.pow_succ] at hm; omega)
    simp; omega
 have := h2 19 n (by omega)
 omega
set_option maxRecDepth 100000 in
set_option maxHeartbeats 1000000 in
theorem digits_any (n : Nat) (hn : n < 18446744073709551616) (w : World) :
    Calls Tryd.prog 99 #[.int .u64 (n : Int)] w fun e w' => e = .returned (.string ⟨(Lib.decDigits n).toArray⟩) ∧ w = w' := by
 have hn2 : (n : Int) ≤ 18446744073709551615 := by omega
 go_enter Tryd.func99, Tryd.ntmps99
 go_wp2
 go_loop [0, 3] (fun u s => ∃ (q : Nat) (sb : ByteArray), q ≤ 18446744073709551615 ∧ Hid (Held n q sb) ∧ u = .int .u64 (q : Int) ∧ s = .string sb) (fun u _ => (intOf u).toNat)
 case atStart => exact ⟨n / 10, _, by omega, Lib.hid (held_start n), by go_num, rfl⟩
 case round =>
  obtain ⟨q, sb, hq, Hh, rfl, rfl⟩ := hrel
  have hsz := held_size Hh.out hn
  by_cases hlt : 0 < q
  ·have hes : ((⟨#[48, 49, 50, 51, 52, 53, 54, 55, 56, 57]⟩ : ByteArray).extract (q % 10) (q % 10 + 1)).size ≤ 1 := by
    rw [← data_length, piece _ (Nat.mod_lt _ (by omega))]; exact Nat.le_refl _
   go_wp2
   go_round
   case rel => exact ⟨q / 10, _, by omega, Lib.hid (held_step Hh.out hlt), by go_num, rfl⟩
   case measure => simp [intOf]; omega
  ·obtain rfl : q = 0 := by omega
   go_wp2; go_ret; have h := Hh.out
   unfold Held at h
   rw [if_pos rfl, List.nil_append] at h
   exact ⟨ret_str (a := sb) (by rw [← h]), rfl⟩
set_option maxRecDepth 100000 in
theorem decimal_nonneg (n : Int) (h0 : 0 ≤ n) (h1 : n ≤ 9223372036854775807) (w : World) :
    Calls Tryd.prog 60 #[.int .i64 n] w fun e w' => e = .returned (.string ⟨(Lib.itoa n).toArray⟩) ∧ w = w' := by
 obtain ⟨k, rfl⟩ := Int.eq_ofNat_of_zero_le h0
 have hneg : decide ((k : Int) < 0) = false := by simp
 go_enter Tryd.func60, Tryd.ntmps60
 go_wp2_with fail
 refine (digits_any k (by omega) _).mono ?_
 rintro e w' ⟨rfl, rfl⟩; go_wp2; go_ret
 exact ⟨ret_str (by rw [Lib.itoa_nonneg]), rfl⟩
set_option maxRecDepth 100000 in
theorem decimal_neg (k : Nat) (h0 : 1 ≤ k) (h1 : k ≤ 9223372036854775808) (w : World) :
    Calls Tryd.prog 60 #[.int .i64 (-(k : Int))] w fun e w' => e = .returned (.string ⟨(Lib.itoa (-(k : Int))).toArray⟩) ∧ w = w' := by
 have hneg : decide (-(k : Int) < 0) = true := by simp; omega
 have HK := Lib.hid h1
 clear h1
 go_enter Tryd.func60, Tryd.ntmps60
 go_wp2_with fail
 rw [show IntKind.u64.wrap (IntKind.u64.wrap (wrap64 (-wrap64 (-(k : Int) + 1))) + 1) = (k : Int) from by
  have := HK.out
  unfold wrap64
  rw [IntKind.wrap_u64, IntKind.wrap_u64]
  omega]
 refine (digits_any k (by have := HK.out; omega) _).mono ?_
 rintro e w' ⟨rfl, rfl⟩
 have hsz : (⟨(Lib.decDigits k).toArray⟩ : ByteArray).size ≤ 100 := dec_size k (by have := HK.out; omega)
 obtain ⟨z, hz⟩ : ∃ z : ByteArray, (⟨(Lib.decDigits k).toArray⟩ : ByteArray) = z := ⟨_, rfl⟩
 rw [hz] at hsz ⊢
 have Hz := Lib.hid hz
 clear hz; go_wp2; go_ret
 refine ⟨ret_str (a := (⟨#[45]⟩ : ByteArray) ++ z) ?_, rfl⟩
 rw [← Hz.out, Lib.itoa_neg k h0]
 apply ByteArray.ext
 simp
def customhouseref01_Decimal.f (a : Int) : Option ByteArray := if -9223372036854775808 ≤ a then if a ≤ 9223372036854775807 then some ⟨(Lib.itoa a).toArray⟩ else none else none
theorem customhouseref01_Decimal.calls (a0 : Int) (r : ByteArray) (w : World) (h : customhouseref01_Decimal.f a0 = some r) :
    Calls Tryd.prog 60 #[.int .i64 a0] w fun e w' => e = .returned (.string r) ∧ Drawn0 w w' := by
 unfold customhouseref01_Decimal.f at h
 by_cases h1 : -9223372036854775808 ≤ a0
 ·by_cases h2 : a0 ≤ 9223372036854775807
  ·rw [if_pos h1, if_pos h2] at h
   obtain rfl := Option.some.inj h
   by_cases hn : 0 ≤ a0
   ·refine (decimal_nonneg a0 hn h2 w).mono ?_
    rintro e w' ⟨rfl, rfl⟩
    exact ⟨rfl, Drawn0.refl _⟩
   ·obtain ⟨k, hk⟩ : ∃ k : Nat, a0 = -(k : Int) := ⟨a0.natAbs, by omega⟩
    subst hk
    refine (decimal_neg k (by omega) (by omega) w).mono ?_
    rintro e w' ⟨rfl, rfl⟩
    exact ⟨rfl, Drawn0.refl _⟩
  ·rw [if_pos h1, if_neg h2] at h
   cases h
 ·rw [if_neg h1] at h
  cases h
end Go.Proofs.YtdlipbfcadmhjaaDoor

namespace Go.Proofs.YtdlipbfcadmhjaaDoor
open Go.RowKit Go.Proofs.YtdlipbfcadmhjaaDoorW.PrintWords
namespace Pl
def capN : List ByteArray → Nat
  | [] => 0
  | s :: l => s.size + 21 + capN l
theorem capN_append (l m : List ByteArray) : capN (l ++ m) = capN l + capN m := by
 induction l with
 | nil => simp [capN]
 | cons s l ih => simp only [List.cons_append, capN, ih]; omega
theorem capN_take (l : List ByteArray) (k : Nat) : capN (l.take k) ≤ capN l := by
 conv => rhs; rw [← List.take_append_drop k l, capN_append]
 omega
theorem capN_take_succ (l : List ByteArray) (k : Nat) (h : k < l.length) : capN (l.take (k + 1)) = capN (l.take k) + ((l.getD k ByteArray.empty).size + 21) := by
 rw [List.take_succ_eq_append_getElem h, capN_append]
 simp [capN, List.getD_eq_getElem?_getD, List.getElem?_eq_getElem h]
end Pl
def numL (l : List UInt8) : List Int := l.map fun b => (b.toNat : Int)
theorem numL_append (l m : List UInt8) : numL (l ++ m) = numL l ++ numL m := by simp [numL]
theorem numL_length (l : List UInt8) : (numL l).length = l.length := by simp [numL]
theorem run_make_cap {P : Program} (t e : TypeId) (i : TypeInfo) (z : Value) (ht : P.underlying t = some (.slice e)) (hi : P.info? e = some i) (hz : i.zero = some z) (h1 : i.size = 1) (h2 : i.bytes = 1)
    (c : Nat) (hb : c ≤ 281474976710656) (w : World) :
    (Instr.makeSlice t (.int .i64 0) (.int .i64 (c : Int))).run P w = .ok (.slice (some ⟨w.heap.size, 0, none⟩) 0 c) (w.alloc (.cells (madeCells z.cells c) e)) := by
 have hr := run_make (P := P) w t e i z ht hi hz .i64 .i64 (0 : Int) (c : Int) (by omega) (by omega) (by rw [h2]; omega) (by omega)
 simp only [Int.toNat_natCast, h1, Nat.mul_one] at hr
 exact hr
set_option maxRecDepth 100000 in
set_option maxHeartbeats 4000000 in
theorem joined_any (A0 : Option Addr) (c0 : Nat) (l0 : List ByteArray) (w : World) (hr0 : Kd.C Kd.string w A0 l0.length l0) (hc0 : l0.length ≤ c0)
    (hcap : Pl.capN l0 ≤ 140737488355328) (hj : (Pl.joinedL l0).length ≤ 140737488355328) :
    Calls Tryd.prog 28 #[.slice A0 l0.length c0] w fun e w' => e = .returned (.string (Pl.joined l0)) ∧ Below w.heap.size w w' := by
 have HR := Lib.hid hr0
 have HJ := Lib.hid hj
 have HC := Lib.hid hcap
 have hmax := Kd.C_max hr0
 clear hr0 hc0 hj hcap
 go_enter Tryd.func28, Tryd.ntmps28
 go_wp2
 go_loop [3, 4] (fun n i => ∃ k : Nat, k ≤ l0.length ∧ i = .int .i64 (k : Int) ∧ n = .int .i64 (Pl.capN (l0.take k) : Int)) (fun _ i => l0.length - (intOf i).toNat)
 case atStart => exact ⟨0, Nat.zero_le _, rfl, rfl⟩
 case round =>
  obtain ⟨k, hk, rfl, rfl⟩ := hrel
  have hcb : Pl.capN (l0.take k) ≤ 140737488355328 := Nat.le_trans (Pl.capN_take _ _) HC.out
  by_cases hlt : k < l0.length
  ·obtain ⟨ad, rfl, hc⟩ := Kd.at_string HR.out (k : Int) (by omega) (by omega)
   rw [Int.toNat_natCast] at hc
   have hs : (rdOf ByteArray.empty l0 (k : Int)) = l0.getD k ByteArray.empty := by simp [rdOf]
   rw [hs] at hc
   have hstep := Pl.capN_take_succ l0 k hlt
   have hle := Pl.capN_take l0 (k + 1)
   obtain ⟨s, hse⟩ : ∃ s, l0.getD k ByteArray.empty = s := ⟨_, rfl⟩
   rw [hse] at hc hstep
   have hsb : Pl.capN (l0.take k) + (s.size + 21) ≤ 140737488355328 := by have := HC.out; omega
   obtain ⟨cn, hcn⟩ : ∃ cn, Pl.capN (l0.take k) = cn := ⟨_, rfl⟩
   rw [hcn] at hsb hcb hstep
   rw [hcn]
   have Hstep := Lib.hid hstep
   clear hstep hse hs hle hcn; go_wp2
   go_round
   case rel => exact ⟨k + 1, by omega, by go_num, by rw [Hstep.out]; go_num⟩
   case measure => simp [intOf]; omega
  ·obtain rfl : k = l0.length := by omega
   rw [List.take_length] at hcb ⊢
   obtain ⟨cn, hcn⟩ : ∃ cn, Pl.capN l0 = cn := ⟨_, rfl⟩
   rw [hcn] at hcb ⊢
   obtain ⟨i0, hi, hz0, hz1, hz2⟩ := info_parts (show (Tryd.prog.info? 5).map (fun i => (i.zero, i.size, i.bytes)) = some (some (.int .u8 0), 1, 1) from by kernel_rfl)
   have hmk := fun W => run_make_cap (P := Tryd.prog) 69 5 i0 (.int .u8 0) Tryd.underlying69 hi hz0 hz1 hz2 cn (by omega) W
   clear hlt hk hcn
   have hinfo5 : (Tryd.prog.info? 5).map (fun i => (i.zero, i.size, i.bytes)) = some (some (.int .u8 0), 1, 1) := by kernel_rfl
   have Hinfo5 := Lib.hid hinfo5
   have Hmk := Lib.hid hmk
   clear hinfo5 hi hz0 hz1 hz2
   have hown0 : (w.alloc (.cells (madeCells (Value.int .u8 0).cells cn) 5)).ownsRow w.heap.size 5 1 (.slice (some ⟨w.heap.size, 0, none⟩) 0 cn) (numL (Pl.joinedL (l0.take 0))).length (nums .u8 (numL (Pl.joinedL (l0.take 0)))) := by
    have := own_take (own_made_of (enc := Value.int .u8) (d := (0 : Int)) w w.heap.size 5 cn (Nat.le_refl _) (by omega)) (Nat.zero_le cn)
    simpa [numL, nums, Pl.joinedL, Value.cells] using this
   have Hown0 := Lib.hid hown0
   clear hown0
   go_wp2_with fail
   clear hmk
   go_loopw [5, 6] (fun v i wr => ∃ k : Nat, k ≤ l0.length ∧ i = .int .i64 (k : Int) ∧ Hid (wr.ownsRow w.heap.size 5 1 v (numL (Pl.joinedL (l0.take k))).length (nums .u8 (numL (Pl.joinedL (l0.take k))))) ∧ Hid (Below w.heap.size w wr)) (fun _ i _ => l0.length - (intOf i).toNat)
   case atStart => exact ⟨0, Nat.zero_le _, rfl, Hown0, Lib.hid ((Below.refl _ _).alloc (Nat.le_refl _) _)⟩
   case round =>
    obtain ⟨k, hk, rfl, HO, HB⟩ := hrel
    by_cases hlt : k < l0.length
    ·obtain ⟨ad, rfl, hc⟩ := Kd.at_string HR.out (k : Int) (by omega) (by omega)
     rw [Int.toNat_natCast] at hc
     have hcw := (HB.out.cell (World.block_lt_of_cell? w _ hc)).trans hc
     have hs : (rdOf ByteArray.empty l0 (k : Int)) = l0.getD k ByteArray.empty := by simp [rdOf]
     rw [hs] at hcw
     obtain ⟨s, hse⟩ : ∃ s, l0.getD k ByteArray.empty = s := ⟨_, rfl⟩
     rw [hse] at hcw
     have hstep := Pl.joinedL_take_succ l0 k hlt
     rw [hse] at hstep
     have hlen := Pl.joinedL_take l0 (k + 1)
     rw [hstep] at hlen
     have hsz : s.size ≤ 140737488355328 := by
      have h1 := HJ.out
      simp only [List.length_append, List.length_cons, data_length] at hlen
      omega
     have Hstep := Lib.hid hstep
     have Hlen := Lib.hid hlen
     rw [hs, hse] at hc
     have Hc := Lib.hid hc
     clear hc hs hse hstep hlen
     have hl1 : (numL (Pl.joinedL (l0.take k))).length + (⟨(Lib.itoa (s.size : Int)).toArray⟩ : ByteArray).size ≤ 140737488355328 := by
      have h1 := HJ.out; have h2 := Hlen.out
      simp only [List.length_append, List.length_cons] at h2
      rw [numL_length]
      show _ + (Lib.itoa (s.size : Int)).toArray.size ≤ _
      rw [List.size_toArray]
      omega
     have hl2 : (numL (Pl.joinedL (l0.take k)) ++ bytesOf (⟨(Lib.itoa (s.size : Int)).toArray⟩ : ByteArray)).length + 1 ≤ 140737488355328 := by
      have h1 := HJ.out; have h2 := Hlen.out
      simp only [List.length_append, List.length_cons] at h2
      rw [List.length_append, numL_length, bytesOf_length]
      show _ + (Lib.itoa (s.size : Int)).toArray.size + 1 ≤ _
      rw [List.size_toArray]
      omega
     have hl3 : (numL (Pl.joinedL (l0.take k)) ++ bytesOf (⟨(Lib.itoa (s.size : Int)).toArray⟩ : ByteArray) ++ [58]).length + s.size ≤ 140737488355328 := by
      have h1 := HJ.out; have h2 := Hlen.out
      simp only [List.length_append, List.length_cons, data_length] at h2
      rw [List.length_append, List.length_append, numL_length, bytesOf_length]
      show _ + (Lib.itoa (s.size : Int)).toArray.size + 1 + _ ≤ _
      rw [List.size_toArray]
      omega
     obtain ⟨dz, hdz⟩ : ∃ dz : ByteArray, (⟨(Lib.itoa (s.size : Int)).toArray⟩ : ByteArray) = dz := ⟨_, rfl⟩
     have hdec := fun W => customhouseref01_Decimal.calls (s.size : Int) _ W (show customhouseref01_Decimal.f (s.size : Int) = some ⟨(Lib.itoa (s.size : Int)).toArray⟩ from by unfold customhouseref01_Decimal.f; rw [if_pos (by omega), if_pos (by omega)])
     rw [hdz] at hl1 hl2 hl3 hdec
     obtain ⟨xs, hxs⟩ : ∃ xs : List Int, numL (Pl.joinedL (l0.take k)) = xs := ⟨_, rfl⟩
     rw [hxs] at HO hl1 hl2 hl3
     have Hl1 := Lib.hid hl1
     have Hl2 := Lib.hid hl2
     have Hl3 := Lib.hid hl3
     have Hdec := Lib.hid hdec
     have Hdz := Lib.hid hdz
     have Hxs := Lib.hid hxs
     clear hl1 hl2 hl3 hdec hdz hxs
     go_wp2_with fail
     refine (Hdec.out _).mono ?_
     rintro e w' ⟨rfl, ⟨nd, rfl⟩⟩
     go_wp2_with (first
      | (at_builtin; refine print_append_str (w0 := w) w.heap.size (by rfl) (.tmp 29) (.tmp 35) 69 9 5 (by rfl) Tryd.underlying69 Tryd.underlying9 Hinfo5.out u5 xs dz (by rfl) (by rfl) (pw_own_drewN HO.out nd) (pw_below_drewN HB.out nd) (by exact HB.out.size) Hl1.out ?_; intro v1 w1 ho1 hb1 hg1; have HO1 := Lib.hid ho1; have HB1 := Lib.hid hb1; clear ho1 hb1 hg1)
      | (at_builtin; refine print_append_num (w0 := w) w.heap.size (by rfl) (.tmp 37) (.tmp 38) 69 5 .u8 1 (by rfl) Tryd.underlying69 Hinfo5.out (by decide) v1 (xs ++ bytesOf dz) 58 (by rfl) (by rfl) HO1.out HB1.out (by exact HB1.out.size) (by have := Hl2.out; omega) ?_; intro v2 w2 ho2 hb2 hg2 _; have HO2 := Lib.hid ho2; have HB2 := Lib.hid hb2; have hcw2 := (HB2.out.cell (World.block_lt_of_cell? w _ Hc.out)).trans Hc.out; clear ho2 hb2 hg2)
      | (at_builtin; refine print_append_str (w0 := w) w.heap.size (by rfl) (.tmp 40) (.tmp 44) 69 9 5 (by rfl) Tryd.underlying69 Tryd.underlying9 Hinfo5.out v2 (xs ++ bytesOf dz ++ [58]) s (by rfl) (by rfl) HO2.out HB2.out (by exact HB2.out.size) Hl3.out ?_; intro v3 w3 ho3 hb3 hg3; have HO3 := Lib.hid ho3; have HB3 := Lib.hid hb3; clear ho3 hb3 hg3))
     go_roundw
     case rel =>
      refine ⟨k + 1, by omega, by go_num, ?_, HB3⟩
      have e : numL (Pl.joinedL (l0.take (k + 1))) = xs ++ bytesOf dz ++ [58] ++ bytesOf s := by
       rw [Hstep.out, numL_append, Hxs.out, ← Hdz.out]
       simp [numL, bytesOf]
      rw [e]
      exact HO3
     case measure => simp [intOf]; omega
    ·obtain rfl : k = l0.length := by omega
     rw [List.take_length] at HO
     have hcv := own_string (P := Tryd.prog) (src := 69) (dst := 9) (e := 5) Tryd.underlying69 Tryd.underlying5 Tryd.underlying9 HO.out
     go_wp2; go_ret
     refine ⟨ret_str (a := strOfNums (numL (Pl.joinedL l0))) ?_, HB.out⟩
     unfold strOfNums numL Pl.joined
     congr 2
     rw [List.map_map]
     refine (List.map_congr_left (fun b _ => ?_)).trans (List.map_id _)
     simp
def customhouseref01_Joined.f (l : List ByteArray) : Option ByteArray := if Pl.capN l ≤ 140737488355328 then if (Pl.joinedL l).length ≤ 140737488355328 then some (Pl.joined l) else none else none
theorem customhouseref01_Joined.calls (A0 : Option Addr) (c0 : Nat) (l0 : List ByteArray) (r : ByteArray) (w : World) (hr0 : Kd.C Kd.string w A0 l0.length l0) (hc0 : l0.length ≤ c0) (h : customhouseref01_Joined.f l0 = some r) :
    Calls Tryd.prog 28 #[.slice A0 l0.length c0] w fun e w' => e = .returned (.string r) ∧ Below w.heap.size w w' := by
 unfold customhouseref01_Joined.f at h
 by_cases h1 : Pl.capN l0 ≤ 140737488355328
 ·by_cases h2 : (Pl.joinedL l0).length ≤ 140737488355328
  ·rw [if_pos h1, if_pos h2] at h
   obtain rfl := Option.some.inj h
   exact joined_any A0 c0 l0 w hr0 hc0 h1 h2
  ·rw [if_pos h1, if_neg h2] at h
   cases h
 ·rw [if_neg h1] at h
  cases h
end Go.Proofs.YtdlipbfcadmhjaaDoor
