/- Texts of this claim, in one file. -/
import Derived.Test.YtdlipbfcadmhjaaGreatDoorWB
import Derived.Shelf.Abstract
set_option linter.unusedSimpArgs false
set_option linter.unusedVariables false
namespace Go.Proofs.YtdlipbfcadmhjaaGreatDoor
open Go.RowKit Go.Proofs.YtdlipbfcadmhjaaGreatDoorW.PrintWords

/-- The strings that a list's value leads to; they lie in none of two blocks. -/
def RowAt (w : World) (L P : Nat) (A : Option Addr) (xs : List ByteArray) : Prop :=
  xs = [] ∨ ∃ b off, A = some ⟨b, off, none⟩ ∧ b ≠ L ∧ b ≠ P ∧ b < w.heap.size ∧ ∀ j, j < xs.length → w.cell? ⟨b, off + j, none⟩ = some (.string (xs.getD j ByteArray.empty))

set_option maxHeartbeats 1000000 in
theorem pop_nil (w : World) (L c : Nat) (A : Option Addr) (hL : w.heap[L]? = some (.cells #[.slice A 0 c] 120 (0, 0))) :
    Calls Tryz.prog 156 #[.pointer (some ⟨L, 0, none⟩)] w fun e w' => e = .returned (.string ByteArray.empty) ∧ w = w' := by
  have hc : w.cell? ⟨L, 0, none⟩ = some (.slice A 0 c) := (blk_cell hL 0).trans rfl
  have hf : w.frozen? ⟨L, 0, none⟩ = false := blk_frozen hL 0
  go_enter Tryz.func156, Tryz.ntmps156
  go_wp2
  go_ret
  exact ⟨rfl, rfl⟩

set_option maxHeartbeats 2000000 in
theorem pop_some (w : World) (L n c b off : Nat) (x : ByteArray) (hn : n < 9223372036854775807) (hcap : n + 1 ≤ c) (hc63 : c ≤ 9223372036854775807) (hL : w.heap[L]? = some (.cells #[.slice (some ⟨b, off, none⟩) (n + 1) c] 120 (0, 0)))
    (hx : w.cell? ⟨b, off + n, none⟩ = some (.string x)) :
    Calls Tryz.prog 156 #[.pointer (some ⟨L, 0, none⟩)] w fun e w' => e = .returned (.string x) ∧ w' = ((w.setCell ⟨L, 0, none⟩ (.slice (some ⟨b, off, none⟩) n c)).drew).drew := by
  have hc : w.cell? ⟨L, 0, none⟩ = some (.slice (some ⟨b, off, none⟩) (n + 1) c) := (blk_cell hL 0).trans rfl
  have hf : w.frozen? ⟨L, 0, none⟩ = false := blk_frozen hL 0
  have hLs := blk_set hL 0
  have e1 : wrap64 (((n + 1 : Nat) : Int) - 1) = (n : Int) := by unfold wrap64; omega
  have e2 : wrap64 (((n : Int) + 1) - 1) = (n : Int) := by unfold wrap64; omega
  go_enter Tryz.func156, Tryz.ntmps156
  go_wp2
  go_region
  go_wp2
  go_region
  go_wp2
  go_ret
  exact ⟨rfl, rfl⟩

theorem far_set {o : Obj} (w : World) (L P k : Nat) (u : Value) (h : P ≠ L) (hP : w.heap[P]? = some o) : (w.setCell ⟨L, k, none⟩ u).heap[P]? = some o :=
  (Below.heap_setCell w ⟨L, k, none⟩ u P h).trans hP
set_option maxHeartbeats 2000000 in
theorem next_nil (w : World) (L P c : Nat) (A : Option Addr) (s : Bool) (hL : w.heap[L]? = some (.cells #[.slice A 0 c] 120 (0, 0))) (hP : w.heap[P]? = some (.cells #[.pointer (some ⟨L, 0, none⟩), .bool s] 124 (0, 0))) :
    Calls Tryz.prog 94 #[.pointer (some ⟨P, 0, none⟩)] w fun e w' => e = .returned (.string ByteArray.empty) ∧ w' = w.setCell ⟨P, 1, none⟩ (.bool true) := by
  have hc0 : w.cell? ⟨P, 0, none⟩ = some (.pointer (some ⟨L, 0, none⟩)) := (blk_cell hP 0).trans rfl
  have hc1 : w.cell? ⟨P, 1, none⟩ = some (.bool s) := (blk_cell hP 1).trans rfl
  have hf0 : w.frozen? ⟨P, 0, none⟩ = false := blk_frozen hP 0
  have hf1 : w.frozen? ⟨P, 1, none⟩ = false := blk_frozen hP 1
  go_enter Tryz.func94, Tryz.ntmps94
  go_wp2_with fail
  refine (pop_nil w L c A hL).mono ?_
  rintro e w' ⟨rfl, rfl⟩
  cases s with
  | true =>
    go_wp2
    go_ret
    exact ⟨rfl, rfl⟩
  | false =>
    go_wp2
    go_ret
    exact ⟨rfl, rfl⟩

set_option maxHeartbeats 2000000 in
theorem next_some (w : World) (L P n c b off : Nat) (x : ByteArray) (s : Bool) (hPL : P ≠ L) (hn : n < 9223372036854775807) (hcap : n + 1 ≤ c) (hc63 : c ≤ 9223372036854775807) (hL : w.heap[L]? = some (.cells #[.slice (some ⟨b, off, none⟩) (n + 1) c] 120 (0, 0)))
    (hP : w.heap[P]? = some (.cells #[.pointer (some ⟨L, 0, none⟩), .bool s] 124 (0, 0))) (hx : w.cell? ⟨b, off + n, none⟩ = some (.string x)) :
    Calls Tryz.prog 94 #[.pointer (some ⟨P, 0, none⟩)] w fun e w' => e = .returned (.string x) ∧ w' = (((w.setCell ⟨L, 0, none⟩ (.slice (some ⟨b, off, none⟩) n c)).drew).drew).setCell ⟨P, 1, none⟩ (.bool (s || x.toList.isEmpty)) := by
  have hP0 := hP
  have hc0 : w.cell? ⟨P, 0, none⟩ = some (.pointer (some ⟨L, 0, none⟩)) := (blk_cell hP 0).trans rfl
  obtain ⟨w1, hw1⟩ : ∃ w1, w1 = (((w.setCell ⟨L, 0, none⟩ (.slice (some ⟨b, off, none⟩) n c)).drew).drew) := ⟨_, rfl⟩
  have hP1 : w1.heap[P]? = some (.cells #[.pointer (some ⟨L, 0, none⟩), .bool s] 124 (0, 0)) := by rw [hw1]; exact far_set w L P 0 _ hPL hP
  have hc1 : w1.cell? ⟨P, 1, none⟩ = some (.bool s) := (blk_cell hP1 1).trans rfl
  have hf1 : w1.frozen? ⟨P, 1, none⟩ = false := blk_frozen hP1 1
  rw [← hw1]
  go_enter Tryz.func94, Tryz.ntmps94
  go_wp2_with fail
  refine (pop_some w L n c b off x hn hcap hc63 hL hx).mono ?_
  rintro e w' ⟨rfl, hw'⟩
  rw [← hw1] at hw'
  subst hw'
  clear hw1 hc0 hP hP0 hL hx
  cases s with
  | true =>
    go_wp2
    go_ret
    exact ⟨rfl, rfl⟩
  | false =>
    go_wp2
    go_ret
    refine ⟨rfl, ?_⟩
    rfl
end Go.Proofs.YtdlipbfcadmhjaaGreatDoor

namespace Go.Proofs.YtdlipbfcadmhjaaGreatDoor
open Go.RowKit Go.Proofs.YtdlipbfcadmhjaaGreatDoorW.PrintWords

theorem odd1_any (s : ByteArray) (w : World) (hG : GL w) :
    Calls Tryz.prog 113 #[.string s] w fun e w' => e = .returned (.bool (!Pl.isDig s)) ∧ Below w.heap.size w w' := by
  go_enter Tryz.func113, Tryz.ntmps113
  go_wp2_with fail
  refine (digest_Is.calls s _ w hG rfl).mono ?_
  rintro e w1 ⟨rfl, hb1⟩
  have HB := Lib.hid hb1
  clear hb1 hG
  go_wp2
  go_ret
  exact ⟨rfl, HB.out⟩

set_option maxHeartbeats 4000000 in
theorem oddIndex_any (A : Option Addr) (c : Nat) (xs : List ByteArray) (w : World) (hG : GL w) (hr : Kd.C Kd.string w A xs.length xs) (hc : xs.length ≤ c) :
    Calls Tryz.prog 162 #[.slice A xs.length c, .func (.func 113) #[] #[]] w fun e w' => ∃ r : Int, e = .returned (.int .i64 r) ∧ (0 ≤ r ↔ xs.all Pl.isDig = false) ∧ Below w.heap.size w w' := by
  have hlen := hr.2.1
  have HG := Lib.hid hG
  have HR := Lib.hid hr
  clear hr hG
  have eF := enters_of Tryz.func113 (by kernel_rfl) rfl
  go_enter Tryz.func162, Tryz.ntmps162
  go_wp2_with fail
  go_loopw [8] (fun v8 wr => ∃ j : Nat, j ≤ xs.length ∧ v8 = .int .i64 (j : Int) ∧ Hid ((xs.take j).all Pl.isDig = true) ∧ Hid (Below w.heap.size w wr)) (fun v8 _ => xs.length - (intOf v8).toNat)
  case atStart => exact ⟨0, by omega, rfl, Lib.hid rfl, Lib.hid (Below.refl _ _)⟩
  case round =>
    obtain ⟨j, hj, rfl, HA, HB⟩ := hrel
    by_cases hlt : j < xs.length
    · obtain ⟨ad, cs, hA, hcs, hk, hcell⟩ := HR.out.get_ ByteArray.empty (j : Int) (by omega) (by omega)
      obtain rfl : cs = [.string (xs.getD j ByteArray.empty)] := hk
      subst hA
      have hw : w.cell? (ad.add j) = some (.string (xs.getD j ByteArray.empty)) := by
        have := hcell 0 _ rfl
        simpa [Kd.string, Kd.scalar] using this
      have hx : wr.cell? (ad.add j) = some (.string (xs.getD j ByteArray.empty)) := (HB.out.cell (World.block_lt_of_cell? w _ hw)).trans hw
      clear hw
      go_wp2_with fail
      refine (odd1_any _ wr (GL.below HG.out HB.out)).mono ?_
      rintro e w1 ⟨rfl, hb1⟩
      have HB1 := Lib.hid (HB.out.trans (hb1.mono HB.out.size))
      have hdr : xs.take (j + 1) = xs.take j ++ [xs[j]] := List.take_succ_eq_append_getElem hlt
      clear hb1
      cases hd : Pl.isDig xs[j] with
      | true =>
        have HT : Hid ((xs.take (j + 1)).all Pl.isDig = true) := Lib.hid (by rw [hdr, List.all_append, HA.out]; simp [hd])
        clear hdr hx hcell hcs
        go_wp2
        go_roundw
        case rel => exact ⟨j + 1, by omega, by go_num, HT, HB1⟩
        case measure => simp [intOf]; omega
      | false =>
        have HT : Hid (xs.all Pl.isDig = false) := Lib.hid (by
          rw [← Bool.not_eq_true]; intro h
          rw [List.all_eq_true] at h
          have := h xs[j] (List.getElem_mem hlt)
          rw [hd] at this; cases this)
        clear hdr hx hcell hcs
        go_wp2
        go_ret
        exact ⟨(j : Int), rfl, ⟨fun _ => HT.out, fun _ => by omega⟩, HB1.out⟩
    · obtain rfl : j = xs.length := by omega
      have HT : Hid (xs.all Pl.isDig = true) := Lib.hid (by have := HA.out; rwa [List.take_length] at this)
      go_wp2
      go_ret
      exact ⟨-1, rfl, ⟨fun h => absurd h (by omega), fun h => by rw [HT.out] at h; cases h⟩, HB.out⟩

theorem oddContains_any (A : Option Addr) (c : Nat) (xs : List ByteArray) (w : World) (hG : GL w) (hr : Kd.C Kd.string w A xs.length xs) (hc : xs.length ≤ c) :
    Calls Tryz.prog 112 #[.slice A xs.length c, .func (.func 113) #[] #[]] w fun e w' => e = .returned (.bool (!xs.all Pl.isDig)) ∧ Below w.heap.size w w' := by
  go_enter Tryz.func112, Tryz.ntmps112
  go_wp2_with fail
  refine (oddIndex_any A c xs w hG hr hc).mono ?_
  rintro e w1 ⟨r, rfl, hr1, hb1⟩
  have HB := Lib.hid hb1
  have HQ : Hid (decide (r ≥ 0) = !xs.all Pl.isDig) := Lib.hid (by
    cases h : xs.all Pl.isDig with
    | false => rw [decide_eq_true (hr1.2 h)]; rfl
    | true => rw [decide_eq_false (fun h0 => by have := hr1.1 h0; rw [h] at this; cases this)]; rfl)
  clear hb1 hr1 hG hr hc
  go_wp2
  go_ret
  refine ⟨?_, HB.out⟩
  show Ending.returned (.bool (decide (0 ≤ r))) = _
  rw [← HQ.out]

theorem odd_any (A : Option Addr) (c : Nat) (xs : List ByteArray) (w : World) (hG : GL w) (hr : Kd.C Kd.string w A xs.length xs) (hc : xs.length ≤ c) :
    Calls Tryz.prog 111 #[.slice A xs.length c] w fun e w' => e = .returned (.bool (!xs.all Pl.isDig)) ∧ Below w.heap.size w w' := by
  go_enter Tryz.func111, Tryz.ntmps111
  go_wp2_with fail
  refine (oddContains_any A c xs w hG hr hc).mono ?_
  rintro e w1 ⟨rfl, hb1⟩
  have HB := Lib.hid hb1
  clear hb1 hG hr hc
  go_wp2
  go_ret
  exact ⟨rfl, HB.out⟩
end Go.Proofs.YtdlipbfcadmhjaaGreatDoor
