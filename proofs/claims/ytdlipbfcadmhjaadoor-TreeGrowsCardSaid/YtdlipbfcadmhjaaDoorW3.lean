import Derived.Test.YtdlipbfcadmhjaaDoorW2
import Derived.Lib.IndexBytes
import Derived.Shelf.Abstract
namespace Go.Proofs.YtdlipbfcadmhjaaDoor
open Go.RowKit Go.Proofs.YtdlipbfcadmhjaaDoorW.PrintWords
set_option linter.unusedVariables false
set_option linter.unusedSimpArgs false

def chunk (l : List UInt8) (a : Nat) : List UInt8 := (List.range 8).map fun i => l.getD (a + i) 0
theorem chunk_length (l : List UInt8) (a : Nat) : (chunk l a).length = 8 := by simp [chunk]
theorem chunk_getD (l : List UInt8) (a j : Nat) (h : j < 8) : (chunk l a).getD j 0 = l.getD (a + j) 0 := by
  simp [chunk, List.getD_eq_getElem?_getD, h]
theorem chunk_blk (l : List UInt8) (a : Nat) : Pl.blkN (chunk l a) 0 8 = Pl.blk l a :=
  Pl.blkN_congr (fun j hj => by rw [Nat.zero_add]; exact chunk_getD l a j hj)
theorem chunk_cells (l : List UInt8) (a : Nat) :
    (Lib.byteCells (l.drop a)).take 8 ++ (List.replicate 8 (Value.int .u8 0)).drop (Nat.min (l.length - a) 8) = Lib.byteCells (chunk l a) := by
  show _ ++ List.drop (min (l.length - a) 8) _ = _
  apply List.ext_getElem?
  intro i
  have hlen : ((Lib.byteCells (l.drop a)).take 8).length = min (l.length - a) 8 := by simp [Lib.byteCells, Nat.min_comm]
  by_cases h : i < min (l.length - a) 8
  · rw [List.getElem?_append_left (by omega)]
    have h1 : a + i < l.length := by omega
    simp [Lib.byteCells, chunk, List.getElem?_take, show i < 8 by omega, List.getElem?_drop, List.getElem?_eq_getElem h1]
  · rw [List.getElem?_append_right (by omega), hlen, List.getElem?_drop]
    by_cases h8 : i < 8
    case neg =>
      rw [List.getElem?_eq_none (by rw [List.length_replicate]; omega), List.getElem?_eq_none (by simp [Lib.byteCells, chunk_length]; omega)]
    rw [List.getElem?_replicate, if_pos (by omega)]
    have h1 : l.length ≤ a + i := by omega
    simp [Lib.byteCells, chunk, h8, List.getElem?_eq_none h1]

theorem setRow_far (w : World) (g k : Nat) (cs : Array Value) (h : k ≠ g) : (w.setRow g cs).heap[k]? = w.heap[k]? := by
  simp [World.setRow, Array.getElem?_modify, Ne.symm h]
theorem only_setRow {a w : World} {row : Option Nat} (h : a.grownBy w row) (g : Nat) (hg : a.heap.size ≤ g) (cs : Array Value) : a.grownBy (w.setRow g cs) row :=
  ⟨h.os, h.tape, h.output, by simpa [World.setRow] using h.size, fun i hi hne => (setRow_far w g i cs (by omega)).trans (h.block i hi hne)⟩
theorem only_trans {a b c : World} {row : Option Nat} (h : a.grownBy b row) (k : b.grownBy c row) : a.grownBy c row :=
  ⟨k.os.trans h.os, k.tape.trans h.tape, k.output.trans h.output, Nat.le_trans h.size k.size, fun i hi hne => (k.block i (Nat.lt_of_lt_of_le hi h.size) hne).trans (h.block i hi hne)⟩

set_option maxHeartbeats 1000000 in
theorem blocks_any (b : Nat) (s : ByteArray) (hs : s.size ≤ 4611686018427387904) (w : World)
    (hb : w.heap[b]? = some (.cells #[.int .u64 ((Pl.st0 s.size : Nat) : Int)] 63 (0, 0))) :
    Calls Tryd.prog 49 #[.string s, .func (.func 50) #[.pointer (some ⟨b, 0, none⟩)] #[]] w fun e w' =>
      e = .returned (.tuple #[]) ∧ w'.heap[b]? = some (.cells #[.int .u64 ((Pl.final s.data.toList : Nat) : Int)] 63 (0, 0)) ∧ w.grownBy w' (some b) := by
  have Hb := Lib.hid hb
  clear hb
  go_enter Tryd.func49, Tryd.ntmps49
  go_wp2
  go_loopw [4] (fun k wr => ∃ j : Nat, j ≤ s.size / 8 + 1 ∧ k = .int .i64 ((8 * j : Nat) : Int) ∧ Hid (wr.heap[b]? = some (.cells #[.int .u64 ((Pl.st s.data.toList j : Nat) : Int)] 63 (0, 0))) ∧ Hid (w.grownBy wr (some b))) (fun k _ => s.size + 8 - (intOf k).toNat)
  case atStart => exact ⟨0, by omega, rfl, Hb.out, Lib.hid (only_refl _ _)⟩
  case round =>
    obtain ⟨j, hj, rfl, Hc, Hg⟩ := hrel
    by_cases hlt : 8 * j ≤ s.size
    · go_wp2_with fail
      have hcp : (Builtin.copy_ #[69, 9] 3 #[.slice (some ⟨wr.heap.size, 0, none⟩) 8 8, .string (s.extract (8 * j) s.size)]).run Tryd.prog ((wr.alloc (.cells #[.int .u8 0, .int .u8 0, .int .u8 0, .int .u8 0, .int .u8 0, .int .u8 0, .int .u8 0, .int .u8 0] 100)).drew)
          = .ok (goInt (Nat.min (s.size - 8 * j) 8)) (((wr.alloc (.cells #[.int .u8 0, .int .u8 0, .int .u8 0, .int .u8 0, .int .u8 0, .int .u8 0, .int .u8 0, .int .u8 0] 100)).drew).setRow wr.heap.size (Lib.byteCells (chunk s.data.toList (8 * j))).toArray) := by
        have hx : (s.extract (8 * j) s.size).data.toList = s.data.toList.drop (8 * j) := by
          rw [Lib.extract_to_end]
        have := run_copy_string_all (P := Tryd.prog) (wr.alloc (.cells #[.int .u8 0, .int .u8 0, .int .u8 0, .int .u8 0, .int .u8 0, .int .u8 0, .int .u8 0, .int .u8 0] 100)).drew 69 9 3 5 wr.heap.size 8 (s.extract (8 * j) s.size) _ 100 Tryd.underlying69 (by kernel_rfl) (blk_new wr _) rfl
        have hz : (s.extract (8 * j) s.size).size = s.size - 8 * j := by simp
        rw [hx, hz] at this
        rw [this]
        have hc := chunk_cells s.data.toList (8 * j)
        rw [data_length] at hc
        rw [← hc]
        rfl
      go_region
      clear hcp
      have Hz := Lib.hid (setRow_heap (wr.alloc (.cells #[.int .u8 0, .int .u8 0, .int .u8 0, .int .u8 0, .int .u8 0, .int .u8 0, .int .u8 0, .int .u8 0] 100)).drew wr.heap.size _ (Lib.byteCells (chunk s.data.toList (8 * j))).toArray 100 (0, 0) (blk_new wr _))
      have e50 := enters_of Tryd.func50 (by kernel_rfl) rfl
      go_wp2_with (refine wpList_load_row rfl 100 (.tmp 5) rfl wr.heap.size rfl 100 (Lib.byteCells (chunk s.data.toList (8 * j))).toArray (0, 0) _ Hz.out Tryd.underlying100 rfl (by rw [show (Lib.byteCells (chunk s.data.toList (8 * j))).toArray.size = 8 from by simp [Lib.byteCells, chunk_length]]; kernel_rfl) ?_)
      have hne : b ≠ wr.heap.size := fun e => by have := blk_lt Hc.out; omega
      have HbW := Lib.hid ((setRow_far (wr.alloc (.cells #[.int .u8 0, .int .u8 0, .int .u8 0, .int .u8 0, .int .u8 0, .int .u8 0, .int .u8 0, .int .u8 0] 100)).drew wr.heap.size b (Lib.byteCells (chunk s.data.toList (8 * j))).toArray hne).trans (blk_alloc Hc.out _))
      have HgW := Lib.hid (only_setRow (only_drew (only_alloc Hg.out (.cells #[.int .u8 0, .int .u8 0, .int .u8 0, .int .u8 0, .int .u8 0, .int .u8 0, .int .u8 0, .int .u8 0] 100))) wr.heap.size Hg.out.size (Lib.byteCells (chunk s.data.toList (8 * j))).toArray)
      clear hne
      refine (take_any b (Pl.st s.data.toList j) (Pl.st_lt (by rw [data_length]; omega) j) (chunk s.data.toList (8 * j)) (chunk_length _ _) _ (by exact HbW.out)).mono ?_
      rintro e w1 ⟨rfl, hb1, hg1⟩
      have Hb1 := Lib.hid hb1
      have Hg1 := Lib.hid (only_trans HgW.out hg1)
      clear hb1 hg1
      go_wp2
      go_roundw
      case rel => exact ⟨j + 1, by omega, by go_num, by rw [chunk_blk] at Hb1; exact Hb1, Hg1⟩
      case measure => simp [intOf]; omega
    · have hj1 : j = s.size / 8 + 1 := by omega
      have Hj := Lib.hid hj1
      clear hj1
      go_wp2
      go_end0
      refine ⟨rfl, ?_, Hg.out⟩
      have := Hc.out
      rw [Hj.out] at this
      unfold Pl.final
      rw [data_length]
      exact this
end Go.Proofs.YtdlipbfcadmhjaaDoor
