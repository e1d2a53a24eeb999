/- Texts of this claim, in one file. -/
import Derived.Test.YtdlipbfcadmhjaaGreatDoorWB
import Derived.Shelf.Abstract
import Derived.Test.YtdlipbfcadmhjaaGreatDoorY20
import Derived.Test.YtdlipbfcadmhjaaGreatDoorPG3x1
import Derived.Deep.RegionWith
import Derived.Laws.EntriesVeiled
set_option linter.unusedSimpArgs false
set_option linter.unusedVariables false
namespace Go.Proofs.YtdlipbfcadmhjaaGreatDoor
open Go.RowKit Go.Proofs.YtdlipbfcadmhjaaGreatDoorW.PrintWords
def RowAt (w : World) (L P : Nat) (A : Option Addr) (xs : List ByteArray) : Prop :=
  xs = [] ∨ ∃ b off, A = some ⟨b, off, none⟩ ∧ b ≠ L ∧ b ≠ P ∧ b < w.heap.size ∧ ∀ j, j < xs.length → w.cell? ⟨b, off + j, none⟩ = some (.string (xs.getD j ByteArray.empty))
set_option maxHeartbeats 1000000 in
theorem pop_nil (w : World) (L c : Nat) (A : Option Addr) (hL : w.heap[L]? = some (.cells #[.slice A 0 c] 120 (0, 0))) :
    Calls Tryz.prog 156 #[.pointer (some ⟨L, 0, none⟩)] w fun e w' => e = .returned (.string ByteArray.empty) ∧ w = w' := by
 have hc : w.cell? ⟨L, 0, none⟩ = some (.slice A 0 c) := (blk_cell hL 0).trans rfl
 have hf : w.frozen? ⟨L, 0, none⟩ = false := blk_frozen hL 0
 go_enter Tryz.func156, Tryz.ntmps156
 go_wp2; go_ret
 exact ⟨rfl, rfl⟩
set_option maxHeartbeats 2000000 in
theorem pop_some (w : World) (L n c b off : Nat) (x : ByteArray) (hn : n < 9223372036854775807) (hcap : n + 1 ≤ c) (hc63 : c ≤ 9223372036854775807) (hL : w.heap[L]? = some (.cells #[.slice (some ⟨b, off, none⟩) (n + 1) c] 120 (0, 0)))
    (hx : w.cell? ⟨b, off + n, none⟩ = some (.string x)) :
    Calls Tryz.prog 156 #[.pointer (some ⟨L, 0, none⟩)] w fun e w' => e = .returned (.string x) ∧ w' = ((w.setCell ⟨L, 0, none⟩ (.slice (some ⟨b, off, none⟩) n c)).drew).drew := by
 have hc : w.cell? ⟨L, 0, none⟩ = some (.slice (some ⟨b, off, none⟩) (n + 1) c) := (blk_cell hL 0).trans rfl
 have hf : w.frozen? ⟨L, 0, none⟩ = false := blk_frozen hL 0
 have hLs := blk_set hL 0
 have e1 : wrap64 (((n + 1 : Nat) : Int) - 1) = (n : Int) := by unfold wrap64; omega
 have e2 : wrap64 (((n : Int) + 1) - 1) = (n : Int) := by unfold wrap64; omega
 go_enter Tryz.func156, Tryz.ntmps156
 go_wp2
 go_region
 go_wp2
 go_region
 go_wp2; go_ret
 exact ⟨rfl, rfl⟩
theorem far_set {o : Obj} (w : World) (L P k : Nat) (u : Value) (h : P ≠ L) (hP : w.heap[P]? = some o) : (w.setCell ⟨L, k, none⟩ u).heap[P]? = some o :=
  (Below.heap_setCell w ⟨L, k, none⟩ u P h).trans hP
set_option maxHeartbeats 2000000 in
theorem next_nil (w : World) (L P c : Nat) (A : Option Addr) (s : Bool) (hL : w.heap[L]? = some (.cells #[.slice A 0 c] 120 (0, 0))) (hP : w.heap[P]? = some (.cells #[.pointer (some ⟨L, 0, none⟩), .bool s] 124 (0, 0))) :
    Calls Tryz.prog 94 #[.pointer (some ⟨P, 0, none⟩)] w fun e w' => e = .returned (.string ByteArray.empty) ∧ w' = w.setCell ⟨P, 1, none⟩ (.bool true) := by
 have hc0 : w.cell? ⟨P, 0, none⟩ = some (.pointer (some ⟨L, 0, none⟩)) := (blk_cell hP 0).trans rfl
 have hc1 : w.cell? ⟨P, 1, none⟩ = some (.bool s) := (blk_cell hP 1).trans rfl
 have hf0 : w.frozen? ⟨P, 0, none⟩ = false := blk_frozen hP 0
 have hf1 : w.frozen? ⟨P, 1, none⟩ = false := blk_frozen hP 1
 go_enter Tryz.func94, Tryz.ntmps94
 go_wp2_with fail
 refine (pop_nil w L c A hL).mono ?_
 rintro e w' ⟨rfl, rfl⟩
 cases s with
 | true =>
  go_wp2; go_ret
  exact ⟨rfl, rfl⟩
 | false =>
  go_wp2; go_ret
  exact ⟨rfl, rfl⟩
set_option maxHeartbeats 2000000 in
theorem next_some (w : World) (L P n c b off : Nat) (x : ByteArray) (s : Bool) (hPL : P ≠ L) (hn : n < 9223372036854775807) (hcap : n + 1 ≤ c) (hc63 : c ≤ 9223372036854775807) (hL : w.heap[L]? = some (.cells #[.slice (some ⟨b, off, none⟩) (n + 1) c] 120 (0, 0)))
    (hP : w.heap[P]? = some (.cells #[.pointer (some ⟨L, 0, none⟩), .bool s] 124 (0, 0))) (hx : w.cell? ⟨b, off + n, none⟩ = some (.string x)) :
    Calls Tryz.prog 94 #[.pointer (some ⟨P, 0, none⟩)] w fun e w' => e = .returned (.string x) ∧ w' = (((w.setCell ⟨L, 0, none⟩ (.slice (some ⟨b, off, none⟩) n c)).drew).drew).setCell ⟨P, 1, none⟩ (.bool (s || x.toList.isEmpty)) := by
 have hP0 := hP
 have hc0 : w.cell? ⟨P, 0, none⟩ = some (.pointer (some ⟨L, 0, none⟩)) := (blk_cell hP 0).trans rfl
 obtain ⟨w1, hw1⟩ : ∃ w1, w1 = (((w.setCell ⟨L, 0, none⟩ (.slice (some ⟨b, off, none⟩) n c)).drew).drew) := ⟨_, rfl⟩
 have hP1 : w1.heap[P]? = some (.cells #[.pointer (some ⟨L, 0, none⟩), .bool s] 124 (0, 0)) := by rw [hw1]; exact far_set w L P 0 _ hPL hP
 have hc1 : w1.cell? ⟨P, 1, none⟩ = some (.bool s) := (blk_cell hP1 1).trans rfl
 have hf1 : w1.frozen? ⟨P, 1, none⟩ = false := blk_frozen hP1 1
 rw [← hw1]
 go_enter Tryz.func94, Tryz.ntmps94
 go_wp2_with fail
 refine (pop_some w L n c b off x hn hcap hc63 hL hx).mono ?_
 rintro e w' ⟨rfl, hw'⟩
 rw [← hw1] at hw'
 subst hw'
 clear hw1 hc0 hP hP0 hL hx
 cases s with
 | true =>
  go_wp2; go_ret
  exact ⟨rfl, rfl⟩
 | false =>
  go_wp2; go_ret
  refine ⟨rfl, ?_⟩
  rfl
end Go.Proofs.YtdlipbfcadmhjaaGreatDoor

namespace Go.Proofs.YtdlipbfcadmhjaaGreatDoor
open Go.RowKit Go.Proofs.YtdlipbfcadmhjaaGreatDoorW.PrintWords
theorem odd1_any (s : ByteArray) (w : World) (hG : GL w) :
    Calls Tryz.prog 113 #[.string s] w fun e w' => e = .returned (.bool (!Pl.isDig s)) ∧ Below w.heap.size w w' := by
 go_enter Tryz.func113, Tryz.ntmps113
 go_wp2_with fail
 refine (digest_Is.calls s _ w hG rfl).mono ?_
 rintro e w1 ⟨rfl, hb1⟩
 have HB := Lib.hid hb1
 clear hb1 hG; go_wp2; go_ret
 exact ⟨rfl, HB.out⟩
set_option maxHeartbeats 4000000 in
theorem oddIndex_any (A : Option Addr) (c : Nat) (xs : List ByteArray) (w : World) (hG : GL w) (hr : Kd.C Kd.string w A xs.length xs) (hc : xs.length ≤ c) :
    Calls Tryz.prog 162 #[.slice A xs.length c, .func (.func 113) #[] #[]] w fun e w' => ∃ r : Int, e = .returned (.int .i64 r) ∧ (0 ≤ r ↔ xs.all Pl.isDig = false) ∧ Below w.heap.size w w' := by
 have hlen := hr.2.1
 have HG := Lib.hid hG
 have HR := Lib.hid hr
 clear hr hG
 have eF := enters_of Tryz.func113 (by kernel_rfl) rfl
 go_enter Tryz.func162, Tryz.ntmps162
 go_wp2_with fail
 go_loopw [8] (fun v8 wr => ∃ j : Nat, j ≤ xs.length ∧ v8 = .int .i64 (j : Int) ∧ Hid ((xs.take j).all Pl.isDig = true) ∧ Hid (Below w.heap.size w wr)) (fun v8 _ => xs.length - (intOf v8).toNat)
 case atStart => exact ⟨0, by omega, rfl, Lib.hid rfl, Lib.hid (Below.refl _ _)⟩
 case round =>
  obtain ⟨j, hj, rfl, HA, HB⟩ := hrel
  by_cases hlt : j < xs.length
  ·obtain ⟨ad, cs, hA, hcs, hk, hcell⟩ := HR.out.get_ ByteArray.empty (j : Int) (by omega) (by omega)
   obtain rfl : cs = [.string (xs.getD j ByteArray.empty)] := hk
   subst hA
   have hw : w.cell? (ad.add j) = some (.string (xs.getD j ByteArray.empty)) := by
    have := hcell 0 _ rfl
    simpa [Kd.string, Kd.scalar] using this
   have hx : wr.cell? (ad.add j) = some (.string (xs.getD j ByteArray.empty)) := (HB.out.cell (World.block_lt_of_cell? w _ hw)).trans hw
   clear hw
   go_wp2_with fail
   refine (odd1_any _ wr (GL.below HG.out HB.out)).mono ?_
   rintro e w1 ⟨rfl, hb1⟩
   have HB1 := Lib.hid (HB.out.trans (hb1.mono HB.out.size))
   have hdr : xs.take (j + 1) = xs.take j ++ [xs[j]] := List.take_succ_eq_append_getElem hlt
   clear hb1
   cases hd : Pl.isDig xs[j] with
   | true =>
    have HT : Hid ((xs.take (j + 1)).all Pl.isDig = true) := Lib.hid (by rw [hdr, List.all_append, HA.out]; simp [hd])
    clear hdr hx hcell hcs; go_wp2
    go_roundw
    case rel => exact ⟨j + 1, by omega, by go_num, HT, HB1⟩
    case measure => simp [intOf]; omega
   | false =>
    have HT : Hid (xs.all Pl.isDig = false) := Lib.hid (by
     rw [← Bool.not_eq_true]; intro h
     rw [List.all_eq_true] at h
     have := h xs[j] (List.getElem_mem hlt)
     rw [hd] at this; cases this)
    clear hdr hx hcell hcs; go_wp2; go_ret
    exact ⟨(j : Int), rfl, ⟨fun _ => HT.out, fun _ => by omega⟩, HB1.out⟩
  ·obtain rfl : j = xs.length := by omega
   have HT : Hid (xs.all Pl.isDig = true) := Lib.hid (by have := HA.out; rwa [List.take_length] at this)
   go_wp2; go_ret
   exact ⟨-1, rfl, ⟨fun h => absurd h (by omega), fun h => by rw [HT.out] at h; cases h⟩, HB.out⟩
theorem oddContains_any (A : Option Addr) (c : Nat) (xs : List ByteArray) (w : World) (hG : GL w) (hr : Kd.C Kd.string w A xs.length xs) (hc : xs.length ≤ c) :
    Calls Tryz.prog 112 #[.slice A xs.length c, .func (.func 113) #[] #[]] w fun e w' => e = .returned (.bool (!xs.all Pl.isDig)) ∧ Below w.heap.size w w' := by
 go_enter Tryz.func112, Tryz.ntmps112
 go_wp2_with fail
 refine (oddIndex_any A c xs w hG hr hc).mono ?_
 rintro e w1 ⟨r, rfl, hr1, hb1⟩
 have HB := Lib.hid hb1
 have HQ : Hid (decide (r ≥ 0) = !xs.all Pl.isDig) := Lib.hid (by
  cases h : xs.all Pl.isDig with
  | false => rw [decide_eq_true (hr1.2 h)]; rfl
  | true => rw [decide_eq_false (fun h0 => by have := hr1.1 h0; rw [h] at this; cases this)]; rfl)
 clear hb1 hr1 hG hr hc; go_wp2; go_ret
 refine ⟨?_, HB.out⟩
 show Ending.returned (.bool (decide (0 ≤ r))) = _
 rw [← HQ.out]
theorem odd_any (A : Option Addr) (c : Nat) (xs : List ByteArray) (w : World) (hG : GL w) (hr : Kd.C Kd.string w A xs.length xs) (hc : xs.length ≤ c) :
    Calls Tryz.prog 111 #[.slice A xs.length c] w fun e w' => e = .returned (.bool (!xs.all Pl.isDig)) ∧ Below w.heap.size w w' := by
 go_enter Tryz.func111, Tryz.ntmps111
 go_wp2_with fail
 refine (oddContains_any A c xs w hG hr hc).mono ?_
 rintro e w1 ⟨rfl, hb1⟩
 have HB := Lib.hid hb1
 clear hb1 hG hr hc; go_wp2; go_ret
 exact ⟨rfl, HB.out⟩
end Go.Proofs.YtdlipbfcadmhjaaGreatDoor

namespace Go.Proofs.YtdlipbfcadmhjaaGreatDoor
open Go.RowKit Go.Proofs.YtdlipbfcadmhjaaGreatDoorW.PrintWords
set_option maxHeartbeats 2000000 in
theorem done_any (w : World) (L P n c : Nat) (A : Option Addr) (s : Bool) (hL : w.heap[L]? = some (.cells #[.slice A n c] 120 (0, 0)))
    (hP : w.heap[P]? = some (.cells #[.pointer (some ⟨L, 0, none⟩), .bool s] 124 (0, 0))) :
    Calls Tryz.prog 95 #[.pointer (some ⟨P, 0, none⟩)] w fun e w' => e = .returned (.bool (!s && decide (n = 0))) ∧ w = w' := by
 have hc0 : w.cell? ⟨P, 0, none⟩ = some (.pointer (some ⟨L, 0, none⟩)) := (blk_cell hP 0).trans rfl
 have hc1 : w.cell? ⟨P, 1, none⟩ = some (.bool s) := (blk_cell hP 1).trans rfl
 have hcL : w.cell? ⟨L, 0, none⟩ = some (.slice A n c) := (blk_cell hL 0).trans rfl
 cases s with
 | true =>
  go_enter Tryz.func95, Tryz.ntmps95
  go_wp2; go_ret
  exact ⟨rfl, rfl⟩
 | false =>
  have e : ((n : Int) == 0) = decide (n = 0) := by rw [Bool.eq_iff_iff, beq_iff_eq, decide_eq_true_eq]; omega
  go_enter Tryz.func95, Tryz.ntmps95
  go_wp2; go_ret
  exact ⟨by first | rfl | simp [e], rfl⟩
theorem proper1_any (s : ByteArray) (w : World) (hG : GL w) :
    Calls Tryz.prog 155 #[.string s] w fun e w' => e = .returned (.bool (!Pl.isDig s)) ∧ Below w.heap.size w w' := by
 go_enter Tryz.func155, Tryz.ntmps155
 go_wp2_with fail
 refine (digest_Is.calls s _ w hG rfl).mono ?_
 rintro e w1 ⟨rfl, hb1⟩
 have HB := Lib.hid hb1
 clear hb1 hG; go_wp2; go_ret
 exact ⟨rfl, HB.out⟩
set_option maxHeartbeats 4000000 in
theorem indexFunc_any (A : Option Addr) (c : Nat) (xs : List ByteArray) (w : World) (hG : GL w) (hr : Kd.C Kd.string w A xs.length xs) (hc : xs.length ≤ c) :
    Calls Tryz.prog 190 #[.slice A xs.length c, .func (.func 155) #[] #[]] w fun e w' => ∃ r : Int, e = .returned (.int .i64 r) ∧ (0 ≤ r ↔ xs.all Pl.isDig = false) ∧ Below w.heap.size w w' := by
 have hlen := hr.2.1
 have HG := Lib.hid hG
 have HR := Lib.hid hr
 clear hr hG
 have eF := enters_of Tryz.func155 (by kernel_rfl) rfl
 go_enter Tryz.func190, Tryz.ntmps190
 go_wp2_with fail
 go_loopw [8] (fun v8 wr => ∃ j : Nat, j ≤ xs.length ∧ v8 = .int .i64 (j : Int) ∧ Hid ((xs.take j).all Pl.isDig = true) ∧ Hid (Below w.heap.size w wr)) (fun v8 _ => xs.length - (intOf v8).toNat)
 case atStart => exact ⟨0, by omega, rfl, Lib.hid rfl, Lib.hid (Below.refl _ _)⟩
 case round =>
  obtain ⟨j, hj, rfl, HA, HB⟩ := hrel
  by_cases hlt : j < xs.length
  ·obtain ⟨ad, cs, hA, hcs, hk, hcell⟩ := HR.out.get_ ByteArray.empty (j : Int) (by omega) (by omega)
   obtain rfl : cs = [.string (xs.getD j ByteArray.empty)] := hk
   subst hA
   have hw : w.cell? (ad.add j) = some (.string (xs.getD j ByteArray.empty)) := by
    have := hcell 0 _ rfl
    simpa [Kd.string, Kd.scalar] using this
   have hx : wr.cell? (ad.add j) = some (.string (xs.getD j ByteArray.empty)) := (HB.out.cell (World.block_lt_of_cell? w _ hw)).trans hw
   clear hw
   go_wp2_with fail
   refine (proper1_any _ wr (GL.below HG.out HB.out)).mono ?_
   rintro e w1 ⟨rfl, hb1⟩
   have HB1 := Lib.hid (HB.out.trans (hb1.mono HB.out.size))
   have hdr : xs.take (j + 1) = xs.take j ++ [xs[j]] := List.take_succ_eq_append_getElem hlt
   clear hb1
   cases hd : Pl.isDig xs[j] with
   | true =>
    have HT : Hid ((xs.take (j + 1)).all Pl.isDig = true) := Lib.hid (by rw [hdr, List.all_append, HA.out]; simp [hd])
    clear hdr hx hcell hcs; go_wp2
    go_roundw
    case rel => exact ⟨j + 1, by omega, by go_num, HT, HB1⟩
    case measure => simp [intOf]; omega
   | false =>
    have HT : Hid (xs.all Pl.isDig = false) := Lib.hid (by
     rw [← Bool.not_eq_true]; intro h
     rw [List.all_eq_true] at h
     have := h xs[j] (List.getElem_mem hlt)
     rw [hd] at this; cases this)
    clear hdr hx hcell hcs; go_wp2; go_ret
    exact ⟨(j : Int), rfl, ⟨fun _ => HT.out, fun _ => by omega⟩, HB1.out⟩
  ·obtain rfl : j = xs.length := by omega
   have HT : Hid (xs.all Pl.isDig = true) := Lib.hid (by have := HA.out; rwa [List.take_length] at this)
   go_wp2; go_ret
   exact ⟨-1, rfl, ⟨fun h => absurd h (by omega), fun h => by rw [HT.out] at h; cases h⟩, HB.out⟩
theorem containsFunc_any (A : Option Addr) (c : Nat) (xs : List ByteArray) (w : World) (hG : GL w) (hr : Kd.C Kd.string w A xs.length xs) (hc : xs.length ≤ c) :
    Calls Tryz.prog 154 #[.slice A xs.length c, .func (.func 155) #[] #[]] w fun e w' => e = .returned (.bool (!xs.all Pl.isDig)) ∧ Below w.heap.size w w' := by
 go_enter Tryz.func154, Tryz.ntmps154
 go_wp2_with fail
 refine (indexFunc_any A c xs w hG hr hc).mono ?_
 rintro e w1 ⟨r, rfl, hr1, hb1⟩
 have HB := Lib.hid hb1
 have HQ : Hid (decide (r ≥ 0) = !xs.all Pl.isDig) := Lib.hid (by
  cases h : xs.all Pl.isDig with
  | false => rw [decide_eq_true (hr1.2 h)]; rfl
  | true => rw [decide_eq_false (fun h0 => by have := hr1.1 h0; rw [h] at this; cases this)]; rfl)
 clear hb1 hr1 hG hr hc; go_wp2; go_ret
 refine ⟨?_, HB.out⟩
 show Ending.returned (.bool (decide (0 ≤ r))) = _
 rw [← HQ.out]
theorem proper_any (A : Option Addr) (c : Nat) (xs : List ByteArray) (w : World) (hG : GL w) (hr : Kd.C Kd.string w A xs.length xs) (hc : xs.length ≤ c) :
    Calls Tryz.prog 92 #[.slice A xs.length c] w fun e w' => e = .returned (.bool (xs.all Pl.isDig)) ∧ Below w.heap.size w w' := by
 go_enter Tryz.func92, Tryz.ntmps92
 go_wp2_with fail
 refine (containsFunc_any A c xs w hG hr hc).mono ?_
 rintro e w1 ⟨rfl, hb1⟩
 have HB := Lib.hid hb1
 clear hb1 hG hr hc; go_wp2; go_ret
 exact ⟨rfl, HB.out⟩
end Go.Proofs.YtdlipbfcadmhjaaGreatDoor

namespace Go.Proofs.YtdlipbfcadmhjaaGreatDoor
open Go.RowKit Go.Proofs.YtdlipbfcadmhjaaGreatDoorW.PrintWords Go.Proofs.YtdlipbfcadmhjaaGreatDoorW.PrintMore PG3
namespace Pl
def halfGo : Nat → Nat → Nat → Nat
  | 0, k, _ => k
  | f + 1, k, n => if 2 * k < n then halfGo f (2 * k) n else k
def half (n : Nat) : Nat := halfGo n 1 n
theorem halfGo_spec : ∀ f k n, 1 ≤ k → k < n → n ≤ k * 2 ^ f → k ≤ halfGo f k n ∧ halfGo f k n < n ∧ n ≤ 2 * halfGo f k n
  | 0, k, n, h1, h2, h3 => by simp at h3; omega
  | f + 1, k, n, h1, h2, h3 => by
    unfold halfGo
    split
    · rename_i h
      obtain ⟨a, b, c⟩ := halfGo_spec f (2 * k) n (by omega) h (by rw [Nat.pow_succ] at h3; rw [Nat.mul_comm 2 k, Nat.mul_assoc, Nat.mul_comm 2]; exact h3)
      exact ⟨by omega, b, c⟩
    · omega
theorem half_spec {n : Nat} (h : 2 ≤ n) : 1 ≤ half n ∧ half n < n ∧ n ≤ 2 * half n :=
  halfGo_spec n 1 n (Nat.le_refl _) (by omega) (by rw [Nat.one_mul]; exact Nat.le_of_lt Nat.lt_two_pow_self)
def nodeL (a b : ByteArray) : List ByteArray := [⟨#[110, 111, 100, 101]⟩, a, b]
def nodeP (a b : ByteArray) : ByteArray := sum (joined (nodeL a b))
def leafL (s : ByteArray) : List ByteArray := [⟨#[108, 101, 97, 102]⟩, s]
def leafP (s : ByteArray) : ByteArray := sum (joined (leafL s))
def nextP (xs : List ByteArray) (s : Bool) : ByteArray × List ByteArray × Bool :=
  match xs.getLast? with
  | none => (ByteArray.empty, [], true)
  | some x => (x, xs.dropLast, s || x.toList.isEmpty)
def upP : Nat → Nat → Nat → ByteArray → List ByteArray → Bool → ByteArray × List ByteArray × Bool
  | 0, _, _, d, xs, s => (d, xs, s)
  | f + 1, n, i, d, xs, s =>
    if n = 1 then (d, xs, s) else
      let p := nextP xs s
      if i < half n then
        let q := upP f (half n) i d p.2.1 p.2.2
        (nodeP q.1 p.1, q.2)
      else
        let q := upP f (n - half n) (i - half n) d p.2.1 p.2.2
        (nodeP p.1 q.1, q.2)
def checkP (root : ByteArray) (n i : Int) (leaf : ByteArray) (path : List ByteArray) : Bool :=
  if n > 1000000 ∨ i < 0 ∨ i ≥ n ∨ path.all isDig = false then false else
    let q := upP n.toNat n.toNat i.toNat (leafP leaf) path false
    q.1.toList == root.toList && (!q.2.2 && q.2.1.isEmpty)
theorem nodeL_cap (a b : ByteArray) (ha : a.size ≤ 16) (hb : b.size ≤ 16) : (joined (nodeL a b)).size ≤ 140737488355328 := by
 refine (few_caps (l := nodeL a b) (n := 16) ?_ (by omega)).2.2
 simp only [few, nodeL, List.all_cons, List.all_nil, Bool.and_true, List.length_cons, List.length_nil]
 simp [ha, hb]
 decide
end Pl
theorem half_l0 (n : Nat) (hn : n ≤ 4611686018427387904) : ∀ f k, 1 ≤ k → k < n → Ev (fun j => tree_half.l0 j (n : Int) (k : Int)) ((Pl.halfGo f k n : Nat) : Int) ∨ ¬ n ≤ k * 2 ^ f := by
 intro f
 induction f with
 | zero =>
  intro k h1 h2
  right
  simp; omega
 | succ f ih =>
  intro k h1 h2
  by_cases hc : 2 * k < n
  ·rcases ih (2 * k) (by omega) hc with h | h
   ·left
    refine Ev.step (f := fun j => tree_half.l0 j (n : Int) ((2 * k : Nat) : Int)) (fun j => ?_) ?_
    ·have e : wrap64 ((k : Int) * 2) = ((2 * k : Nat) : Int) := by unfold wrap64; omega
     rw [tree_half.l0, e, if_pos (by omega)]
    ·unfold Pl.halfGo
     rw [if_pos hc]
     exact h
   ·right
    intro h'
    exact h (by rw [Nat.pow_succ] at h'; rw [Nat.mul_comm 2 k, Nat.mul_assoc, Nat.mul_comm 2]; exact h')
  ·left
   refine Ev.step (f := fun _ => some ((k : Nat) : Int)) (fun j => ?_) ?_
   ·have e : wrap64 ((k : Int) * 2) = ((2 * k : Nat) : Int) := by unfold wrap64; omega
    rw [tree_half.l0, e, if_neg (by omega)]
   ·unfold Pl.halfGo
    rw [if_neg hc]
    exact Ev.now _
theorem halfE {n : Nat} (h2 : 2 ≤ n) (hn : n ≤ 4611686018427387904) : Ev (fun j => tree_half.f j (n : Int)) ((Pl.half n : Nat) : Int) := by
 unfold tree_half.f
 rcases half_l0 n hn n 1 (Nat.le_refl _) (by omega) with h | h
 ·exact h
 ·exact absurd (by rw [Nat.one_mul]; exact Nat.le_of_lt Nat.lt_two_pow_self) h
theorem nodeE (a b : ByteArray) (ha : a.size ≤ 16) (hb : b.size ≤ 16) : tree_node.f a b = some (Pl.nodeP a b) := by
 have h := Pl.nodeL_cap a b ha hb
 unfold tree_node.f digest_List.f
 unfold Pl.nodeL at h
 rw [if_pos h]
 rfl
theorem half_any (n : Nat) (h2 : 2 ≤ n) (hn : n ≤ 1000000) (w : World) : Calls Tryz.prog 83 #[.int .i64 (n : Int)] w fun e w' => e = .returned (.int .i64 ((Pl.half n : Nat) : Int)) ∧ Drawn0 w w' := by
 obtain ⟨k, hk⟩ := (halfE h2 (by omega)).rounds
 exact tree_half.calls k _ _ w hk
theorem node_any (a b : ByteArray) (ha : a.size ≤ 16) (hb : b.size ≤ 16) (w : World) (hG : GL w) : Calls Tryz.prog 87 #[.string a, .string b] w fun e w' => e = .returned (.string (Pl.nodeP a b)) ∧ Below w.heap.size w w' :=
  tree_node.calls a b _ w hG (nodeE a b ha hb)
theorem nodeP_size (a b : ByteArray) : (Pl.nodeP a b).size = 16 := Pl.sum_size _
end Go.Proofs.YtdlipbfcadmhjaaGreatDoor

namespace Go.Proofs.YtdlipbfcadmhjaaGreatDoor
open Go.RowKit Go.Proofs.YtdlipbfcadmhjaaGreatDoorW.PrintWords Go.Proofs.YtdlipbfcadmhjaaGreatDoorW.PrintMore PG3
structure CkInv (F tU : Nat) (w0 w : World) (base X S V U L : Nat) (leaf : ByteArray) (A : Option Addr) (c : Nat) (xs : List ByteArray) (s : Bool) : Prop where
  hX : w.heap[X]? = some (.cells #[.string leaf] 9 (0, 0))
  hS : w.heap[S]? = some (.cells #[.pointer (some ⟨L, 0, none⟩), .bool s] 124 (0, 0))
  hV : w.heap[V]? = some (.cells #[.pointer (some ⟨S, 0, none⟩)] 121 (0, 0))
  hU : w.heap[U]? = some (.cells #[.func (.func F) #[] #[.pointer (some ⟨X, 0, none⟩), .pointer (some ⟨V, 0, none⟩), .pointer (some ⟨U, 0, none⟩)]] tU (0, 0))
  hL : w.heap[L]? = some (.cells #[.slice A xs.length c] 120 (0, 0))
  row : RowAt w L S A xs
  cap : xs.length ≤ c
  c63 : c ≤ 9223372036854775807
  SL : S ≠ L
  XS : X ≠ S
  XL : X ≠ L
  VS : V ≠ S
  VL : V ≠ L
  US : U ≠ S
  UL : U ≠ L
  bS : base ≤ S
  bL : base ≤ L
  bw : base ≤ w.heap.size
  B : Below base w0 w
theorem RowAt.keep {w w' : World} {L S : Nat} {A : Option Addr} {xs : List ByteArray} (h : RowAt w L S A xs) (hs : w.heap.size ≤ w'.heap.size) (hb : ∀ k, k < w.heap.size → k ≠ L → k ≠ S → w'.heap[k]? = w.heap[k]?) : RowAt w' L S A xs := by
 rcases h with h | ⟨b, off, rfl, h1, h2, h3, h4⟩
 ·exact .inl h
 ·exact .inr ⟨b, off, rfl, h1, h2, Nat.lt_of_lt_of_le h3 hs, fun j hj => (World.cell?_of_block (a := ⟨b, off + j, none⟩) (hb b h3 h1 h2)).trans (h4 j hj)⟩
theorem CkInv.below {F tU : Nat} {w0 w w' : World} {base X S V U L : Nat} {leaf : ByteArray} {A : Option Addr} {c : Nat} {xs : List ByteArray} {s : Bool} (h : CkInv F tU w0 w base X S V U L leaf A c xs s) (hb : Below w.heap.size w w') : CkInv F tU w0 w' base X S V U L leaf A c xs s :=
  have k : ∀ {b : Nat} {o : Obj}, w.heap[b]? = some o → w'.heap[b]? = some o := fun {b o} hh => (hb.block b (blk_lt hh)).trans hh
  { h with hX := k h.hX, hS := k h.hS, hV := k h.hV, hU := k h.hU, hL := k h.hL, row := h.row.keep hb.size (fun b h1 _ _ => hb.block b h1), bw := Nat.le_trans h.bw hb.size, B := h.B.trans (hb.mono h.bw) }
theorem CkInv.drawn {F tU : Nat} {w0 w : World} {base X S V U L : Nat} {leaf : ByteArray} {A : Option Addr} {c : Nat} {xs : List ByteArray} {s : Bool} (h : CkInv F tU w0 w base X S V U L leaf A c xs s) (n : Nat) : CkInv F tU w0 (w.drewN n) base X S V U L leaf A c xs s :=
  { h with row := h.row.keep (Nat.le_refl _) (fun _ _ _ _ => rfl), B := pw_below_drewN h.B n }
theorem CkInv.next0 {F tU : Nat} {w0 w : World} {base X S V U L : Nat} {leaf : ByteArray} {A : Option Addr} {c : Nat} {s : Bool} (h : CkInv F tU w0 w base X S V U L leaf A c [] s) : CkInv F tU w0 (w.setCell ⟨S, 1, none⟩ (.bool true)) base X S V U L leaf A c [] true :=
  have k : ∀ {b : Nat} {o : Obj}, b ≠ S → w.heap[b]? = some o → (w.setCell ⟨S, 1, none⟩ (.bool true)).heap[b]? = some o := fun hne hh => far_set w S _ 1 _ hne hh
  { h with hX := k h.XS h.hX, hS := blk_set h.hS 1 _, hV := k h.VS h.hV, hU := k h.US h.hU, hL := k h.SL.symm h.hL, row := .inl rfl, bw := by simpa [World.setCell] using h.bw, B := h.B.trans ⟨rfl, rfl, rfl, by simp [World.setCell], fun i hi => Below.heap_setCell w _ _ i (by have := h.bS; show i ≠ S; omega)⟩ }
theorem CkInv.next1 {F tU : Nat} {w0 w : World} {base X S V U L b off : Nat} {leaf : ByteArray} {c : Nat} {xs : List ByteArray} {x : ByteArray} {s t : Bool} (h : CkInv F tU w0 w base X S V U L leaf (some ⟨b, off, none⟩) c (xs ++ [x]) s) :
    CkInv F tU w0 ((((w.setCell ⟨L, 0, none⟩ (.slice (some ⟨b, off, none⟩) xs.length c)).drew).drew).setCell ⟨S, 1, none⟩ (.bool t)) base X S V U L leaf (some ⟨b, off, none⟩) c xs t := by
 have hw : w.heap.size ≤ ((((w.setCell ⟨L, 0, none⟩ (.slice (some ⟨b, off, none⟩) xs.length c)).drew).drew).setCell ⟨S, 1, none⟩ (.bool t)).heap.size := by simp [World.setCell, World.drew]
 have k0 : ∀ b', b' ≠ L → b' ≠ S → ((((w.setCell ⟨L, 0, none⟩ (.slice (some ⟨b, off, none⟩) xs.length c)).drew).drew).setCell ⟨S, 1, none⟩ (.bool t)).heap[b']? = w.heap[b']? := fun b' h1 h2 =>
  (Below.heap_setCell ((w.setCell ⟨L, 0, none⟩ (.slice (some ⟨b, off, none⟩) xs.length c)).drew).drew ⟨S, 1, none⟩ (.bool t) b' h2).trans (Below.heap_setCell w ⟨L, 0, none⟩ _ b' h1)
 have k : ∀ {b' : Nat} {o : Obj}, b' ≠ L → b' ≠ S → w.heap[b']? = some o → ((((w.setCell ⟨L, 0, none⟩ (.slice (some ⟨b, off, none⟩) xs.length c)).drew).drew).setCell ⟨S, 1, none⟩ (.bool t)).heap[b']? = some o := fun h1 h2 hh => (k0 _ h1 h2).trans hh
 have hlen := h.cap
 simp only [List.length_append, List.length_cons, List.length_nil] at hlen
 have hS1 : (((w.setCell ⟨L, 0, none⟩ (.slice (some ⟨b, off, none⟩) xs.length c)).drew).drew).heap[S]? = some (.cells #[.pointer (some ⟨L, 0, none⟩), .bool s] 124 (0, 0)) := far_set w L S 0 _ h.SL h.hS
 refine { hX := k h.XL h.XS h.hX, hS := blk_set hS1 1 _, hV := k h.VL h.VS h.hV, hU := k h.UL h.US h.hU, hL := ?_, row := ?_, cap := by omega, c63 := h.c63, SL := h.SL, XS := h.XS, XL := h.XL, VS := h.VS, VL := h.VL, US := h.US, UL := h.UL, bS := h.bS, bL := h.bL, bw := Nat.le_trans h.bw hw, B := ?_ }
 ·exact far_set _ S L 1 _ h.SL.symm (blk_set h.hL 0 _)
 ·rcases h.row with hr | ⟨b1, o1, he, h1, h2, h3, h4⟩
  ·simp at hr
  ·injection he with he
   injection he with he1 he2
   subst he1; subst he2
   refine .inr ⟨b, off, rfl, h1, h2, Nat.lt_of_lt_of_le h3 hw, fun j hj => ?_⟩
   have := h4 j (by simp; omega)
   rw [List.getD_eq_getElem?_getD, List.getElem?_append_left hj, ← List.getD_eq_getElem?_getD] at this
   exact (World.cell?_of_block (a := ⟨b, off + j, none⟩) (k0 b h1 h2)).trans this
 ·refine h.B.trans ⟨rfl, rfl, rfl, hw, fun i hi => k0 i ?_ ?_⟩
  ·have := h.bL; omega
  ·have := h.bS; omega
end Go.Proofs.YtdlipbfcadmhjaaGreatDoor

namespace Go.Proofs.YtdlipbfcadmhjaaGreatDoor
open Go.RowKit Go.Proofs.YtdlipbfcadmhjaaGreatDoorW.PrintWords Go.Proofs.YtdlipbfcadmhjaaGreatDoorW.PrintMore PG3
theorem C_two (w : World) (a b : ByteArray) : Kd.C Kd.string (w.alloc (.cells #[.string a, .string b] 9)) (some ⟨w.heap.size, 0, none⟩) 2 [a, b] := by
 refine ⟨rfl, by omega, fun _ => ⟨⟨w.heap.size, 0, none⟩, rfl, fun j p hj => ⟨[.string p], rfl, rfl, fun i u hu => ?_⟩⟩⟩
 obtain ⟨rfl, rfl⟩ : i = 0 ∧ u = .string p := by
  cases i with
  | zero => simpa using hu.symm
  | succ i => simp at hu
 have hnew := blk_new w (.cells #[.string a, .string b] 9)
 match j, hj with
 | 0, hj => exact (blk_cell hnew 0).trans (congrArg (fun z => some (Value.string z)) (by simpa using hj))
 | 1, hj => exact (blk_cell hnew 1).trans (congrArg (fun z => some (Value.string z)) (by simpa using hj))
theorem CkInv.drew {F tU : Nat} {w0 w : World} {base X S V U L : Nat} {leaf : ByteArray} {A : Option Addr} {c : Nat} {xs : List ByteArray} {s : Bool} (h : CkInv F tU w0 w base X S V U L leaf A c xs s) : CkInv F tU w0 w.drew base X S V U L leaf A c xs s :=
  { h with row := h.row.keep (Nat.le_refl _) (fun _ _ _ _ => rfl), B := below_drew1 h.B }
theorem nextP_nil (s : Bool) : Pl.nextP [] s = (ByteArray.empty, [], true) := rfl
theorem nextP_snoc (xs : List ByteArray) (x : ByteArray) (s : Bool) : Pl.nextP (xs ++ [x]) s = (x, xs, s || x.toList.isEmpty) := by
 simp [Pl.nextP]
theorem next_any {F tU : Nat} {w0 w : World} {base X S V U L : Nat} {leaf : ByteArray} {A : Option Addr} {c : Nat} {xs : List ByteArray} {s : Bool} (h : CkInv F tU w0 w base X S V U L leaf A c xs s) :
    Calls Tryz.prog 94 #[.pointer (some ⟨S, 0, none⟩)] w fun e w' => e = .returned (.string (Pl.nextP xs s).1) ∧ CkInv F tU w0 w' base X S V U L leaf A c (Pl.nextP xs s).2.1 (Pl.nextP xs s).2.2 := by
 rcases List.eq_nil_or_concat xs with rfl | ⟨ys, x, rfl⟩
 ·refine (next_nil w L S c A s h.hL h.hS).mono ?_
  rintro e w' ⟨rfl, rfl⟩
  exact ⟨rfl, h.next0⟩
 ·rw [List.concat_eq_append] at h ⊢
  rw [nextP_snoc]
  rcases h.row with hr | ⟨b, off, rfl, h1, h2, h3, h4⟩
  ·simp at hr
  ·have hcap := h.cap
   simp only [List.length_append, List.length_cons, List.length_nil] at hcap
   have h63 := h.c63
   have hx := h4 ys.length (by simp)
   have hL := h.hL
   simp only [List.length_append, List.length_cons, List.length_nil] at hL
   refine (next_some w L S ys.length c b off x s h.SL (by omega) hcap h63 hL h.hS (by simpa using hx)).mono ?_
   rintro e w' ⟨rfl, rfl⟩
   exact ⟨rfl, h.next1⟩
theorem nextP_size (xs : List ByteArray) (s : Bool) (h : ∀ x ∈ xs, x.size ≤ 16) : (Pl.nextP xs s).1.size ≤ 16 ∧ ∀ x ∈ (Pl.nextP xs s).2.1, x.size ≤ 16 := by
 rcases List.eq_nil_or_concat xs with rfl | ⟨ys, x, rfl⟩
 ·rw [nextP_nil]
  exact ⟨by decide, fun x hx => by cases hx⟩
 ·rw [List.concat_eq_append] at h ⊢
  rw [nextP_snoc]
  exact ⟨h x (by simp), fun y hy => h y (by simp [hy])⟩
theorem upP_size : ∀ (f n i : Nat) (d : ByteArray) (xs : List ByteArray) (s : Bool), d.size ≤ 16 → (∀ x ∈ xs, x.size ≤ 16) → (Pl.upP f n i d xs s).1.size ≤ 16 ∧ ∀ x ∈ (Pl.upP f n i d xs s).2.1, x.size ≤ 16
  | 0, _, _, _, _, _, hd, hx => ⟨hd, hx⟩
  | f + 1, n, i, d, xs, s, hd, hx => by
    have hn := nextP_size xs s hx
    unfold Pl.upP
    split
    · exact ⟨hd, hx⟩
    · simp only
      split
      · exact ⟨by rw [nodeP_size]; omega, (upP_size f _ _ d _ _ hd hn.2).2⟩
      · exact ⟨by rw [nodeP_size]; omega, (upP_size f _ _ d _ _ hd hn.2).2⟩
set_option maxHeartbeats 4000000 in
theorem up_any {w0 : World} {base X S V U L : Nat} {leaf : ByteArray} {A : Option Addr} {c : Nat} (hG : GL w0) (hb : base = w0.heap.size) (hj : (Pl.joined (Pl.leafL leaf)).size ≤ 140737488355328) :
    ∀ (f n i : Nat) (w : World) (xs : List ByteArray) (s : Bool), n ≤ f → 1 ≤ n → n ≤ 1000000 → i < n → (∀ x ∈ xs, x.size ≤ 16) → CkInv 93 125 w0 w base X S V U L leaf A c xs s →
      Calls Tryz.prog 93 #[.int .i64 (n : Int), .int .i64 (i : Int), .pointer (some ⟨X, 0, none⟩), .pointer (some ⟨V, 0, none⟩), .pointer (some ⟨U, 0, none⟩)] w fun e w' =>
        e = .returned (.string (Pl.upP f n i (Pl.leafP leaf) xs s).1) ∧ CkInv 93 125 w0 w' base X S V U L leaf A c (Pl.upP f n i (Pl.leafP leaf) xs s).2.1 (Pl.upP f n i (Pl.leafP leaf) xs s).2.2 := by
 intro f
 induction f with
 | zero => intro n i w xs s h1 h2; omega
 | succ f ih =>
  intro n i w xs s hnf hn1 hnm hin hxs hI
  have hcX : w.cell? ⟨X, 0, none⟩ = some (.string leaf) := (blk_cell hI.hX 0).trans rfl
  have hcV : w.cell? ⟨V, 0, none⟩ = some (.pointer (some ⟨S, 0, none⟩)) := (blk_cell hI.hV 0).trans rfl
  by_cases h1 : n = 1
  ·subst h1
   have hGw : GL w := GL.below hG (by rw [← hb]; exact hI.B)
   have HI := Lib.hid hI
   clear hI
   have HGw := Lib.hid hGw
   clear hGw
   go_enter Tryz.func93, Tryz.ntmps93
   go_wp2_with fail
   refine (digest_List.calls _ 2 (Pl.leafL leaf) (Pl.leafP leaf) _ (GL.below HGw.out (below_alloc (Below.refl _ _) _)) (C_two w _ leaf) (Nat.le_refl 2) (by unfold digest_List.f; rw [if_pos hj]; rfl)).mono ?_
   rintro e w1 ⟨rfl, hb1⟩
   have HB := Lib.hid ((below_alloc (Below.refl _ _) _).trans (hb1.mono (by simp)))
   clear hb1; go_wp2; go_ret
   refine ⟨?_, ?_⟩
   ·rfl
   ·exact HI.out.below HB.out
  ·have hs := Pl.half_spec (by omega : 2 ≤ n)
   have hp := nextP_size xs s hxs
   have hd : (Pl.leafP leaf).size ≤ 16 := by unfold Pl.leafP; rw [Pl.sum_size]; omega
   have HI := Lib.hid hI
   clear hI
   by_cases hik : i < Pl.half n
   ·have hu : Pl.upP (f + 1) n i (Pl.leafP leaf) xs s = (Pl.nodeP (Pl.upP f (Pl.half n) i (Pl.leafP leaf) (Pl.nextP xs s).2.1 (Pl.nextP xs s).2.2).1 (Pl.nextP xs s).1, (Pl.upP f (Pl.half n) i (Pl.leafP leaf) (Pl.nextP xs s).2.1 (Pl.nextP xs s).2.2).2) := by
     rw [Pl.upP, if_neg h1]; simp only [if_pos hik]
    rw [hu]
    have hz := upP_size f (Pl.half n) i (Pl.leafP leaf) (Pl.nextP xs s).2.1 (Pl.nextP xs s).2.2 hd hp.2
    generalize hP : Pl.nextP xs s = p at hp hz
    have HP := Lib.hid hP
    generalize hQ : Pl.upP f (Pl.half n) i (Pl.leafP leaf) p.2.1 p.2.2 = q at hz
    have HQ := Lib.hid hQ
    clear hu hP hQ
    go_enter Tryz.func93, Tryz.ntmps93
    go_wp2_with fail
    go_region_with (first
     | (go_at_call 83; refine (half_any n ?_ ?_ _).mono ?_; omega; omega; rintro e w' ⟨rfl, nd, rfl⟩)
     | (go_at_call 94; refine (next_any (F := 93) (tU := 125) (w0 := w0) (base := base) (X := X) (V := V) (U := U) (leaf := leaf) (A := A) (c := c) (xs := xs) (s := s) (L := L) ?_).mono ?_; (repeat (first | exact HI.out | apply CkInv.drawn | apply CkInv.drew)); rintro e w' ⟨rfl, hI1⟩))
    all_goals
     have hcU := (blk_cell hI1.hU 0).trans rfl
     rw [HP.out] at hI1
     have HI1 := Lib.hid hI1
     clear hI1
     go_wp2_with fail
     try rw [HP.out]
     refine (ih (Pl.half n) (i) _ p.2.1 p.2.2 (by omega) (by omega) (by omega) (by omega) hp.2 HI1.out).mono ?_
     rintro e w2 ⟨rfl, hI2⟩
     rw [HQ.out] at hI2 ⊢
     have hGw : GL w2 := GL.below hG (by rw [← hb]; exact hI2.B)
     have HI2 := Lib.hid hI2
     clear hI2
     go_wp2_with fail
     refine (node_any q.1 p.1 (by first | exact hz.1 | exact hp.1) (by first | exact hz.1 | exact hp.1) w2 hGw).mono ?_
     rintro e w3 ⟨rfl, hb3⟩
     have HI3 := Lib.hid (HI2.out.below hb3)
     clear hb3 hGw; go_wp2; go_ret
     exact ⟨rfl, HI3.out⟩
   ·have hu : Pl.upP (f + 1) n i (Pl.leafP leaf) xs s = (Pl.nodeP (Pl.nextP xs s).1 (Pl.upP f (n - Pl.half n) (i - Pl.half n) (Pl.leafP leaf) (Pl.nextP xs s).2.1 (Pl.nextP xs s).2.2).1, (Pl.upP f (n - Pl.half n) (i - Pl.half n) (Pl.leafP leaf) (Pl.nextP xs s).2.1 (Pl.nextP xs s).2.2).2) := by
     rw [Pl.upP, if_neg h1]; simp only [if_neg hik]
    rw [hu]
    have e1 : wrap64 ((n : Int) - (Pl.half n : Int)) = ((n - Pl.half n : Nat) : Int) := by unfold wrap64; omega
    have e2 : wrap64 ((i : Int) - (Pl.half n : Int)) = ((i - Pl.half n : Nat) : Int) := by unfold wrap64; omega
    have F1 := Lib.hid (show (n : Int) - (Pl.half n : Int) = ((n - Pl.half n : Nat) : Int) by omega)
    have F2 := Lib.hid (show (i : Int) - (Pl.half n : Int) = ((i - Pl.half n : Nat) : Int) by omega)
    have E1 := Lib.hid e1
    have E2 := Lib.hid e2
    clear e1 e2
    have hz := upP_size f (n - Pl.half n) (i - Pl.half n) (Pl.leafP leaf) (Pl.nextP xs s).2.1 (Pl.nextP xs s).2.2 hd hp.2
    generalize hP : Pl.nextP xs s = p at hp hz
    have HP := Lib.hid hP
    generalize hQ : Pl.upP f (n - Pl.half n) (i - Pl.half n) (Pl.leafP leaf) p.2.1 p.2.2 = q at hz
    have HQ := Lib.hid hQ
    clear hu hP hQ
    go_enter Tryz.func93, Tryz.ntmps93
    go_wp2_with fail
    go_region_with (first
     | (go_at_call 83; refine (half_any n ?_ ?_ _).mono ?_; omega; omega; rintro e w' ⟨rfl, nd, rfl⟩)
     | (go_at_call 94; refine (next_any (F := 93) (tU := 125) (w0 := w0) (base := base) (X := X) (V := V) (U := U) (leaf := leaf) (A := A) (c := c) (xs := xs) (s := s) (L := L) ?_).mono ?_; (repeat (first | exact HI.out | apply CkInv.drawn | apply CkInv.drew)); rintro e w' ⟨rfl, hI1⟩))
    all_goals
     have hcU := (blk_cell hI1.hU 0).trans rfl
     rw [HP.out] at hI1
     have HI1 := Lib.hid hI1
     clear hI1
     go_wp2_with fail
     try rw [HP.out]
     first | rw [E1.out, E2.out] | rw [F1.out, F2.out] | trace_state
     refine (ih (n - Pl.half n) (i - Pl.half n) _ p.2.1 p.2.2 (by omega) (by omega) (by omega) (by omega) hp.2 HI1.out).mono ?_
     rintro e w2 ⟨rfl, hI2⟩
     rw [HQ.out] at hI2 ⊢
     have hGw : GL w2 := GL.below hG (by rw [← hb]; exact hI2.B)
     have HI2 := Lib.hid hI2
     clear hI2
     go_wp2_with fail
     refine (node_any p.1 q.1 (by first | exact hz.1 | exact hp.1) (by first | exact hz.1 | exact hp.1) w2 hGw).mono ?_
     rintro e w3 ⟨rfl, hb3⟩
     have HI3 := Lib.hid (HI2.out.below hb3)
     clear hb3 hGw; go_wp2; go_ret
     exact ⟨rfl, HI3.out⟩
end Go.Proofs.YtdlipbfcadmhjaaGreatDoor

namespace Go.Proofs.YtdlipbfcadmhjaaGreatDoor
open Go.RowKit Go.Proofs.YtdlipbfcadmhjaaGreatDoorW.PrintWords Go.Proofs.YtdlipbfcadmhjaaGreatDoorW.PrintMore PG3
theorem C_plain {w : World} {A : Option Addr} {xs : List ByteArray} (h : Kd.C Kd.string w A xs.length xs) (hn : 0 < xs.length) :
    ∃ b off, A = some ⟨b, off, none⟩ ∧ ∀ j, j < xs.length → w.cell? ⟨b, off + j, none⟩ = some (.string (xs.getD j ByteArray.empty)) := by
 obtain ⟨ad, rfl, hc⟩ := h.2.2 hn
 have key : ∀ j, j < xs.length → w.cell? (ad.add j) = some (.string (xs.getD j ByteArray.empty)) := by
  intro j hj
  obtain ⟨c, hl, hk, hcell⟩ := hc j _ (List.getElem?_eq_getElem hj)
  obtain rfl : c = [.string xs[j]] := hk
  have := hcell 0 _ rfl
  rw [List.getD_eq_getElem?_getD, List.getElem?_eq_getElem hj]
  simpa [Kd.string, Kd.scalar] using this
 have hsp : ad.spot = none := by
  have := key 0 hn
  simp only [Addr.add, if_true] at this
  unfold World.cell? at this
  cases hs : ad.spot with
  | none => rfl
  | some k =>
   rw [hs] at this
   simp only [Option.isSome_some, if_true] at this
   split at this <;> cases this
 obtain ⟨b, off, sp⟩ := ad
 simp only at hsp
 subst hsp
 refine ⟨b, off, rfl, fun j hj => ?_⟩
 have := key j hj
 by_cases h0 : j = 0
 ·subst h0
  simpa [Addr.add] using this
 ·simpa [Addr.add, h0] using this
theorem clone_any (A : Option Addr) (c : Nat) (xs : List ByteArray) (w : World) (hr : Kd.C Kd.string w A xs.length xs) (hbig : xs.length * 16 ≤ 140737488355328) :
    Calls Tryz.prog 63 #[.slice A xs.length c] w fun e w' => ∃ A' c', e = .returned (.slice A' xs.length c') ∧ xs.length ≤ c' ∧ c' ≤ 9223372036854775807 ∧
      (xs = [] ∨ ∃ b off, A' = some ⟨b, off, none⟩ ∧ w.heap.size ≤ b ∧ b < w'.heap.size ∧ ∀ j, j < xs.length → w'.cell? ⟨b, off + j, none⟩ = some (.string (xs.getD j ByteArray.empty))) ∧ Below w.heap.size w w' := by
 by_cases hn : 0 < xs.length
 ·obtain ⟨b, off, rfl, hc⟩ := C_plain hr hn
  refine (Tryz.slices_Clone_string b off xs.length c xs w (Nat.le_refl _) hbig hc).mono ?_
  rintro e w' ⟨v', rfl, ho, _, hb⟩
  rw [List.take_length] at ho
  obtain ⟨_, ⟨_, h0⟩ | ⟨g, cap, cur, rfl, hg, hheap, hcap, h63, hsz, htake⟩⟩ := ho
  ·omega
  ·refine ⟨_, cap, rfl, hcap, h63, .inr ⟨g, 0, rfl, hg, blk_lt hheap, fun j hj => ?_⟩, hb⟩
   rw [Nat.zero_add]
   refine (blk_cell hheap j).trans ?_
   have e : (cur.toList.take (xs.length * 1))[j]? = some (.string (xs.getD j ByteArray.empty)) := by
    rw [htake, List.getElem?_map, List.getD_eq_getElem?_getD, List.getElem?_eq_getElem hj]; rfl
   rw [List.getElem?_take_of_lt (by omega)] at e
   simpa using e
 ·obtain rfl : xs = [] := List.eq_nil_of_length_eq_zero (by omega)
  cases A with
  | none =>
   refine (Tryz.slices_Clone_string_nil 0 c w).mono ?_
   rintro e w' ⟨rfl, rfl⟩
   exact ⟨none, 0, rfl, Nat.le_refl _, by omega, .inl rfl, Below.refl _ _⟩
  | some a =>
   refine (Tryz.slices_Clone_string_zero a c w).mono ?_
   rintro e w' ⟨v', rfl, ho, _, hb⟩
   obtain ⟨_, ⟨rfl, _⟩ | ⟨g, cap, cur, rfl, hg, hheap, hcap, h63, hsz, htake⟩⟩ := ho
   ·exact ⟨none, 0, rfl, Nat.le_refl _, by omega, .inl rfl, hb⟩
   ·exact ⟨_, cap, rfl, hcap, h63, .inl rfl, hb⟩
end Go.Proofs.YtdlipbfcadmhjaaGreatDoor

namespace Go.Proofs.YtdlipbfcadmhjaaGreatDoor
open Go.RowKit Go.Proofs.YtdlipbfcadmhjaaGreatDoorW.PrintWords Go.Proofs.YtdlipbfcadmhjaaGreatDoorW.PrintMore PG3
theorem C_of_row {w : World} {A : Option Addr} {xs : List ByteArray} (hl : xs.length ≤ 9223372036854775807) (h : xs = [] ∨ ∃ b off, A = some ⟨b, off, none⟩ ∧ ∀ j, j < xs.length → w.cell? ⟨b, off + j, none⟩ = some (.string (xs.getD j ByteArray.empty))) : Kd.C Kd.string w A xs.length xs := by
 refine ⟨rfl, hl, fun hn => ?_⟩
 rcases h with rfl | ⟨b, off, rfl, h⟩
 ·simp at hn
 ·refine ⟨_, rfl, fun j p hj => ⟨[.string p], rfl, rfl, fun i u hu => ?_⟩⟩
  have hjl : j < xs.length := (List.getElem?_eq_some_iff.1 hj).1
  obtain ⟨rfl, rfl⟩ : i = 0 ∧ u = .string p := by
   cases i with
   | zero => simpa using hu.symm
   | succ i => simp at hu
  have hp : xs.getD j ByteArray.empty = p := by rw [List.getD_eq_getElem?_getD, hj]; rfl
  have := h j hjl
  rw [hp] at this
  by_cases h0 : j = 0
  ·subst h0
   simpa [Addr.add, Kd.string, Kd.scalar] using this
  ·simpa [Addr.add, h0, Kd.string, Kd.scalar] using this
theorem alloc_size (w : World) (o : Obj) : (w.alloc o).heap.size = w.heap.size + 1 := Array.size_push _
def ckW (F tU : Nat) (w w1 w2 : World) : World :=
  (((w2.alloc (.cells #[.pointer (some ⟨w1.heap.size, 0, none⟩), .bool false] 124)).alloc (.cells #[.pointer (some ⟨w2.heap.size, 0, none⟩)] 121)).alloc
    (.cells #[.func (.func F) #[] #[.pointer (some ⟨w.heap.size, 0, none⟩), .pointer (some ⟨w2.heap.size + 1, 0, none⟩), .pointer (some ⟨w2.heap.size + 1 + 1, 0, none⟩)]] tU))
theorem ck_make (F tU : Nat) (w w1 w2 : World) (leaf : ByteArray) (A1 : Option Addr) (c1 : Nat) (xs : List ByteArray) (hb1 : Below (w.alloc (.cells #[.string leaf] 9)).heap.size (w.alloc (.cells #[.string leaf] 9)) w1)
    (hrow : xs = [] ∨ ∃ b off, A1 = some ⟨b, off, none⟩ ∧ (w.alloc (.cells #[.string leaf] 9)).heap.size ≤ b ∧ b < w1.heap.size ∧ ∀ j, j < xs.length → w1.cell? ⟨b, off + j, none⟩ = some (.string (xs.getD j ByteArray.empty)))
    (hb2 : Below (w1.alloc (.cells #[.slice A1 xs.length c1] 120)).heap.size (w1.alloc (.cells #[.slice A1 xs.length c1] 120)) w2) (hc1 : xs.length ≤ c1) (h63 : c1 ≤ 9223372036854775807) :
    CkInv F tU w (ckW F tU w w1 w2) w.heap.size w.heap.size w2.heap.size (w2.heap.size + 1) (w2.heap.size + 1 + 1) w1.heap.size leaf A1 c1 xs false := by
 have s1 := hb1.size; have s2 := hb2.size
 rw [alloc_size] at s1 s2
 have k2 : ∀ b, b < w2.heap.size → (ckW F tU w w1 w2).heap[b]? = w2.heap[b]? := by
  intro b hb
  unfold ckW
  refine (Below.heap_alloc _ _ b (by rw [alloc_size, alloc_size]; omega)).trans ?_
  refine (Below.heap_alloc _ _ b (by rw [alloc_size]; omega)).trans ?_
  exact Below.heap_alloc _ _ b hb
 have k1 : ∀ b, b < w1.heap.size → (ckW F tU w w1 w2).heap[b]? = w1.heap[b]? := fun b hb =>
  (k2 b (by omega)).trans ((hb2.block b (by rw [alloc_size]; omega)).trans (Below.heap_alloc w1 _ b hb))
 have k0 : ∀ b, b < w.heap.size → (ckW F tU w w1 w2).heap[b]? = w.heap[b]? := fun b hb =>
  (k1 b (by omega)).trans ((hb1.block b (by rw [alloc_size]; omega)).trans (Below.heap_alloc w _ b hb))
 have sz : (ckW F tU w w1 w2).heap.size = w2.heap.size + 1 + 1 + 1 := by
  unfold ckW
  rw [alloc_size, alloc_size, alloc_size]
 refine { hX := ?_, hS := ?_, hV := ?_, hU := ?_, hL := ?_, row := ?_, cap := hc1, c63 := h63, SL := by omega, XS := by omega, XL := by omega, VS := by omega, VL := by omega, US := by omega, UL := by omega, bS := by omega, bL := by omega, bw := by rw [sz]; omega, B := ⟨?_, ?_, ?_, by rw [sz]; omega, k0⟩ }
 ·exact (k1 _ (by omega)).trans ((hb1.block _ (by rw [alloc_size]; omega)).trans (blk_new w _))
 ·unfold ckW
  refine (Below.heap_alloc _ _ w2.heap.size (by rw [alloc_size, alloc_size]; omega)).trans ?_
  refine (Below.heap_alloc _ _ w2.heap.size (by rw [alloc_size]; omega)).trans ?_
  exact blk_new w2 _
 ·unfold ckW
  refine (Below.heap_alloc _ _ (w2.heap.size + 1) (by rw [alloc_size, alloc_size]; omega)).trans ?_
  have := blk_new (w2.alloc (.cells #[.pointer (some ⟨w1.heap.size, 0, none⟩), .bool false] 124)) (.cells #[.pointer (some ⟨w2.heap.size, 0, none⟩)] 121)
  rw [alloc_size] at this
  exact this
 ·unfold ckW
  have := blk_new ((w2.alloc (.cells #[.pointer (some ⟨w1.heap.size, 0, none⟩), .bool false] 124)).alloc (.cells #[.pointer (some ⟨w2.heap.size, 0, none⟩)] 121)) (.cells #[.func (.func F) #[] #[.pointer (some ⟨w.heap.size, 0, none⟩), .pointer (some ⟨w2.heap.size + 1, 0, none⟩), .pointer (some ⟨w2.heap.size + 1 + 1, 0, none⟩)]] tU)
  rw [alloc_size, alloc_size] at this
  exact this
 ·exact (k2 _ (by omega)).trans ((hb2.block _ (by rw [alloc_size]; omega)).trans (blk_new w1 _))
 ·rcases hrow with h | ⟨b, off, rfl, hlo, hlt, h⟩
  ·exact .inl h
  ·rw [alloc_size] at hlo
   exact .inr ⟨b, off, rfl, by omega, by omega, by rw [sz]; omega, fun j hj => (World.cell?_of_block (a := ⟨b, off + j, none⟩) (k1 b hlt)).trans (h j hj)⟩
 ·exact (show (ckW F tU w w1 w2).os = w2.os from rfl).trans (hb2.os.trans hb1.os)
 ·exact (show (ckW F tU w w1 w2).tape = w2.tape from rfl).trans (hb2.tape.trans hb1.tape)
 ·exact (show (ckW F tU w w1 w2).output = w2.output from rfl).trans (hb2.output.trans hb1.output)
set_option maxHeartbeats 4000000 in
theorem check_go (root : ByteArray) (n i : Int) (leaf : ByteArray) (A : Option Addr) (c : Nat) (xs : List ByteArray) (w : World) (hG : GL w) (hr : Kd.C Kd.string w A xs.length xs) (hc : xs.length ≤ c)
    (hbig : xs.length * 16 ≤ 140737488355328) (hj : (Pl.joined (Pl.leafL leaf)).size ≤ 140737488355328) (hn : n ≤ 1000000) (h0 : 0 ≤ i) (hi : i < n) (hall : xs.all Pl.isDig = true) :
    Calls Tryz.prog 32 #[.string root, .int .i64 n, .int .i64 i, .string leaf, .slice A xs.length c] w fun e w' => e = .returned (.bool (Pl.checkP root n i leaf xs)) ∧ Below w.heap.size w w' := by
 obtain ⟨n', rfl⟩ : ∃ m : Nat, n = (m : Int) := ⟨n.toNat, by omega⟩
 obtain ⟨i', rfl⟩ : ∃ m : Nat, i = (m : Int) := ⟨i.toNat, by omega⟩
 have hq : Pl.checkP root (n' : Int) (i' : Int) leaf xs = ((Pl.upP n' n' i' (Pl.leafP leaf) xs false).1.toList == root.toList && (!(Pl.upP n' n' i' (Pl.leafP leaf) xs false).2.2 && (Pl.upP n' n' i' (Pl.leafP leaf) xs false).2.1.isEmpty)) := by
  unfold Pl.checkP
  rw [if_neg (by rw [hall]; simp; omega)]
  rfl
 rw [hq]
 obtain ⟨q, hQ⟩ : ∃ q, Pl.upP n' n' i' (Pl.leafP leaf) xs false = q := ⟨_, rfl⟩
 rw [hQ]
 have HQ := Lib.hid hQ
 clear hq hQ
 have HG := Lib.hid hG
 have HR := Lib.hid hr
 have HA := Lib.hid hall
 have HJ := Lib.hid hj
 clear hG hr hall hj
 go_enter Tryz.func32, Tryz.ntmps32
 go_wp2_with fail
 refine (clone_any A c xs _ (Kd.C_below HR.out (below_alloc (Below.refl _ _) _)) hbig).mono ?_
 rintro e w1 ⟨A1, c1, rfl, hc1, h63, hrow, hb1⟩
 have HB1 := Lib.hid hb1
 have HROW := Lib.hid hrow
 clear hb1 hrow
 have hcA : Kd.C Kd.string (w1.alloc (.cells #[.slice A1 xs.length c1] 120)) A1 xs.length xs := C_of_row (by omega) (by
  rcases HROW.out with h | ⟨b, off, rfl, _, hlt, h⟩
  ·exact .inl h
  ·exact .inr ⟨b, off, rfl, fun j hj => (World.cell?_of_block (a := ⟨b, off + j, none⟩) (Below.heap_alloc w1 _ b hlt)).trans (h j hj)⟩)
 have HCA := Lib.hid hcA
 clear hcA
 go_wp2_with fail
 refine (proper_any A1 c1 xs _ (GL.below HG.out (below_alloc (below_step (below_alloc (Below.refl _ _) _) HB1.out) _)) HCA.out hc1).mono ?_
 rintro e w2 ⟨rfl, hb2⟩
 have HB2 := Lib.hid hb2
 clear hb2
 rw [HA.out]
 have hU3 := blk_new ((w2.alloc (.cells #[.pointer (some ⟨w1.heap.size, 0, none⟩), .bool false] 124)).alloc (.cells #[.pointer (some ⟨w2.heap.size, 0, none⟩)] 121)) (.cells #[.nilFunc] 125)
 rw [alloc_size, alloc_size] at hU3
 have hfU := blk_frozen hU3 0
 have hcU0 := (blk_cell hU3 0).trans (show _ = some Value.nilFunc from rfl)
 have hIv := ck_make 93 125 w w1 w2 leaf A1 c1 xs HB1.out HROW.out HB2.out hc1 h63
 unfold ckW at hIv
 have HIv := Lib.hid hIv
 clear hIv hU3
 have hx16 : ∀ x ∈ xs, x.size ≤ 16 := fun x hx => by
  have := (List.all_eq_true.1 HA.out) x hx
  unfold Pl.isDig at this
  rw [Bool.and_eq_true, decide_eq_true_eq] at this
  omega
 have hgo := up_any (w0 := w) (base := w.heap.size) HG.out rfl HJ.out n' n' i' _ xs false (Nat.le_refl _) (by omega) (by omega) (by omega) hx16 HIv.out
 rw [HQ.out] at hgo
 have HGO := Lib.hid hgo
 clear hgo hx16
 go_wp2_with fail
 refine HGO.out.mono ?_
 rintro e w4 ⟨rfl, hI4⟩
 have hcV4 := (blk_cell hI4.hV 0).trans (show _ = some (Value.pointer (some ⟨w2.heap.size, 0, none⟩)) from rfl)
 have HI4 := Lib.hid hI4
 clear hI4
 cases hroot : q.1.toList == root.toList with
 | true =>
  have hem : q.2.1.isEmpty = decide (q.2.1 = []) := by cases q.2.1 <;> simp
  have HEM := Lib.hid hem
  clear hem
  go_wp2_with fail
  refine (done_any w4 w1.heap.size w2.heap.size q.2.1.length c1 A1 q.2.2 HI4.out.hL HI4.out.hS).mono ?_
  rintro e w5 ⟨rfl, rfl⟩; go_wp2; go_ret
  refine ⟨?_, HI4.out.B⟩
  rw [hroot, HEM.out]
  rfl
 | false =>
  go_wp2; go_ret
  refine ⟨?_, HI4.out.B⟩
  rw [hroot]
  rfl
theorem checkP_no {root : ByteArray} {n i : Int} {leaf : ByteArray} {xs : List ByteArray} (h : n > 1000000 ∨ i < 0 ∨ i ≥ n ∨ xs.all Pl.isDig = false) : Pl.checkP root n i leaf xs = false := by
 unfold Pl.checkP
 rw [if_pos h]
set_option maxHeartbeats 4000000 in
theorem check_any (root : ByteArray) (n i : Int) (leaf : ByteArray) (A : Option Addr) (c : Nat) (xs : List ByteArray) (w : World) (hG : GL w) (hr : Kd.C Kd.string w A xs.length xs) (hc : xs.length ≤ c)
    (hbig : xs.length * 16 ≤ 140737488355328) (hj : (Pl.joined (Pl.leafL leaf)).size ≤ 140737488355328) :
    Calls Tryz.prog 32 #[.string root, .int .i64 n, .int .i64 i, .string leaf, .slice A xs.length c] w fun e w' => e = .returned (.bool (Pl.checkP root n i leaf xs)) ∧ Below w.heap.size w w' := by
 by_cases h : n > 1000000 ∨ (n ≤ 1000000 ∧ i < 0) ∨ (n ≤ 1000000 ∧ 0 ≤ i ∧ i ≥ n)
 ·rw [checkP_no (by omega)]
  have HR := Lib.hid hr
  clear hr
  go_enter Tryz.func32, Tryz.ntmps32
  go_wp2_with fail
  refine (clone_any A c xs _ (Kd.C_below HR.out (below_alloc (Below.refl _ _) _)) hbig).mono ?_
  rintro e w1 ⟨A1, c1, rfl, hc1, h63, hrow, hb1⟩
  have HB1 := Lib.hid (below_alloc (below_step (below_alloc (Below.refl w.heap.size w) (.cells #[.string leaf] 9)) hb1) (.cells #[.slice A1 xs.length c1] 120))
  clear hb1 hrow
  rcases h with h | ⟨h, h'⟩ | ⟨h, h', h''⟩
  ·go_wp2; go_ret
   exact ⟨rfl, HB1.out⟩
  ·go_wp2; go_ret
   exact ⟨rfl, HB1.out⟩
  ·go_wp2; go_ret
   exact ⟨rfl, HB1.out⟩
 ·by_cases hall : xs.all Pl.isDig = true
  ·exact check_go root n i leaf A c xs w hG hr hc hbig hj (by omega) (by omega) (by omega) hall
  ·have hall' : xs.all Pl.isDig = false := by simpa using hall
   rw [checkP_no (.inr (.inr (.inr hall')))]
   have HG := Lib.hid hG
   have HR := Lib.hid hr
   have HA := Lib.hid hall'
   have hn : n ≤ 1000000 := by omega
   have h0 : 0 ≤ i := by omega
   have hi : i < n := by omega
   clear hG hr hall hall' h hj
   go_enter Tryz.func32, Tryz.ntmps32
   go_wp2_with fail
   refine (clone_any A c xs _ (Kd.C_below HR.out (below_alloc (Below.refl _ _) _)) hbig).mono ?_
   rintro e w1 ⟨A1, c1, rfl, hc1, h63, hrow, hb1⟩
   have HB1 := Lib.hid hb1
   have hcA : Kd.C Kd.string (w1.alloc (.cells #[.slice A1 xs.length c1] 120)) A1 xs.length xs := C_of_row (by omega) (by
    rcases hrow with h | ⟨b, off, rfl, _, hlt, h⟩
    ·exact .inl h
    ·exact .inr ⟨b, off, rfl, fun j hj => (World.cell?_of_block (a := ⟨b, off + j, none⟩) (Below.heap_alloc w1 _ b hlt)).trans (h j hj)⟩)
   have HCA := Lib.hid hcA
   clear hcA hb1 hrow
   go_wp2_with fail
   refine (proper_any A1 c1 xs _ (GL.below HG.out (below_alloc (below_step (below_alloc (Below.refl _ _) _) HB1.out) _)) HCA.out hc1).mono ?_
   rintro e w2 ⟨rfl, hb2⟩
   have HB2 := Lib.hid (below_step (below_alloc (below_step (below_alloc (Below.refl w.heap.size w) (.cells #[.string leaf] 9)) HB1.out) (.cells #[.slice A1 xs.length c1] 120)) hb2)
   clear hb2
   rw [HA.out]
   go_wp2; go_ret
   exact ⟨rfl, HB2.out⟩
def tree_Check.f (root : ByteArray) (n i : Int) (leaf : ByteArray) (xs : List ByteArray) : Option Bool :=
  if xs.length * 16 ≤ 140737488355328 then if (Pl.joined (Pl.leafL leaf)).size ≤ 140737488355328 then some (Pl.checkP root n i leaf xs) else none else none
theorem tree_Check.calls (a0 : ByteArray) (a1 a2 : Int) (a3 : ByteArray) (A4 : Option Addr) (c4 : Nat) (l4 : List ByteArray) (r : Bool) (w : World) (hG : GL w) (hr4 : Kd.C Kd.string w A4 l4.length l4) (hc4 : l4.length ≤ c4) (h : tree_Check.f a0 a1 a2 a3 l4 = some r) :
    Calls Tryz.prog 32 #[.string a0, .int .i64 a1, .int .i64 a2, .string a3, .slice A4 l4.length c4] w fun e w' => e = .returned (.bool r) ∧ Below w.heap.size w w' := by
 unfold tree_Check.f at h
 by_cases h1 : l4.length * 16 ≤ 140737488355328
 ·by_cases h2 : (Pl.joined (Pl.leafL a3)).size ≤ 140737488355328
  ·rw [if_pos h1, if_pos h2] at h
   obtain rfl := Option.some.inj h
   exact check_any a0 a1 a2 a3 A4 c4 l4 w hG hr4 hc4 h1 h2
  ·rw [if_pos h1, if_neg h2] at h
   cases h
 ·rw [if_neg h1] at h
  cases h
end Go.Proofs.YtdlipbfcadmhjaaGreatDoor
