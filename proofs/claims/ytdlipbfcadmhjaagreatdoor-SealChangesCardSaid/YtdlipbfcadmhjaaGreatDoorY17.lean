/- Texts of this claim, in one file. -/
import Derived.Test.YtdlipbfcadmhjaaGreatDoorWB
import Derived.Shelf.Abstract
import Derived.Test.YtdlipbfcadmhjaaGreatDoorY16
import Derived.Test.YtdlipbfcadmhjaaGreatDoorPG3x1
set_option linter.unusedSimpArgs false
set_option linter.unusedVariables false
namespace Go.Proofs.YtdlipbfcadmhjaaGreatDoor
open Go.RowKit Go.Proofs.YtdlipbfcadmhjaaGreatDoorW.PrintWords
def RowAt (w : World) (L P : Nat) (A : Option Addr) (xs : List ByteArray) : Prop :=
  xs = [] ∨ ∃ b off, A = some ⟨b, off, none⟩ ∧ b ≠ L ∧ b ≠ P ∧ b < w.heap.size ∧ ∀ j, j < xs.length → w.cell? ⟨b, off + j, none⟩ = some (.string (xs.getD j ByteArray.empty))
set_option maxHeartbeats 1000000 in
theorem pop_nil (w : World) (L c : Nat) (A : Option Addr) (hL : w.heap[L]? = some (.cells #[.slice A 0 c] 120 (0, 0))) :
    Calls Tryz.prog 156 #[.pointer (some ⟨L, 0, none⟩)] w fun e w' => e = .returned (.string ByteArray.empty) ∧ w = w' := by
 have hc : w.cell? ⟨L, 0, none⟩ = some (.slice A 0 c) := (blk_cell hL 0).trans rfl
 have hf : w.frozen? ⟨L, 0, none⟩ = false := blk_frozen hL 0
 go_enter Tryz.func156, Tryz.ntmps156
 go_wp2; go_ret
 exact ⟨rfl, rfl⟩
set_option maxHeartbeats 2000000 in
theorem pop_some (w : World) (L n c b off : Nat) (x : ByteArray) (hn : n < 9223372036854775807) (hcap : n + 1 ≤ c) (hc63 : c ≤ 9223372036854775807) (hL : w.heap[L]? = some (.cells #[.slice (some ⟨b, off, none⟩) (n + 1) c] 120 (0, 0)))
    (hx : w.cell? ⟨b, off + n, none⟩ = some (.string x)) :
    Calls Tryz.prog 156 #[.pointer (some ⟨L, 0, none⟩)] w fun e w' => e = .returned (.string x) ∧ w' = ((w.setCell ⟨L, 0, none⟩ (.slice (some ⟨b, off, none⟩) n c)).drew).drew := by
 have hc : w.cell? ⟨L, 0, none⟩ = some (.slice (some ⟨b, off, none⟩) (n + 1) c) := (blk_cell hL 0).trans rfl
 have hf : w.frozen? ⟨L, 0, none⟩ = false := blk_frozen hL 0
 have hLs := blk_set hL 0
 have e1 : wrap64 (((n + 1 : Nat) : Int) - 1) = (n : Int) := by unfold wrap64; omega
 have e2 : wrap64 (((n : Int) + 1) - 1) = (n : Int) := by unfold wrap64; omega
 go_enter Tryz.func156, Tryz.ntmps156
 go_wp2
 go_region
 go_wp2
 go_region
 go_wp2; go_ret
 exact ⟨rfl, rfl⟩
theorem far_set {o : Obj} (w : World) (L P k : Nat) (u : Value) (h : P ≠ L) (hP : w.heap[P]? = some o) : (w.setCell ⟨L, k, none⟩ u).heap[P]? = some o :=
  (Below.heap_setCell w ⟨L, k, none⟩ u P h).trans hP
set_option maxHeartbeats 2000000 in
theorem next_nil (w : World) (L P c : Nat) (A : Option Addr) (s : Bool) (hL : w.heap[L]? = some (.cells #[.slice A 0 c] 120 (0, 0))) (hP : w.heap[P]? = some (.cells #[.pointer (some ⟨L, 0, none⟩), .bool s] 124 (0, 0))) :
    Calls Tryz.prog 94 #[.pointer (some ⟨P, 0, none⟩)] w fun e w' => e = .returned (.string ByteArray.empty) ∧ w' = w.setCell ⟨P, 1, none⟩ (.bool true) := by
 have hc0 : w.cell? ⟨P, 0, none⟩ = some (.pointer (some ⟨L, 0, none⟩)) := (blk_cell hP 0).trans rfl
 have hc1 : w.cell? ⟨P, 1, none⟩ = some (.bool s) := (blk_cell hP 1).trans rfl
 have hf0 : w.frozen? ⟨P, 0, none⟩ = false := blk_frozen hP 0
 have hf1 : w.frozen? ⟨P, 1, none⟩ = false := blk_frozen hP 1
 go_enter Tryz.func94, Tryz.ntmps94
 go_wp2_with fail
 refine (pop_nil w L c A hL).mono ?_
 rintro e w' ⟨rfl, rfl⟩
 cases s with
 | true =>
  go_wp2; go_ret
  exact ⟨rfl, rfl⟩
 | false =>
  go_wp2; go_ret
  exact ⟨rfl, rfl⟩
set_option maxHeartbeats 2000000 in
theorem next_some (w : World) (L P n c b off : Nat) (x : ByteArray) (s : Bool) (hPL : P ≠ L) (hn : n < 9223372036854775807) (hcap : n + 1 ≤ c) (hc63 : c ≤ 9223372036854775807) (hL : w.heap[L]? = some (.cells #[.slice (some ⟨b, off, none⟩) (n + 1) c] 120 (0, 0)))
    (hP : w.heap[P]? = some (.cells #[.pointer (some ⟨L, 0, none⟩), .bool s] 124 (0, 0))) (hx : w.cell? ⟨b, off + n, none⟩ = some (.string x)) :
    Calls Tryz.prog 94 #[.pointer (some ⟨P, 0, none⟩)] w fun e w' => e = .returned (.string x) ∧ w' = (((w.setCell ⟨L, 0, none⟩ (.slice (some ⟨b, off, none⟩) n c)).drew).drew).setCell ⟨P, 1, none⟩ (.bool (s || x.toList.isEmpty)) := by
 have hP0 := hP
 have hc0 : w.cell? ⟨P, 0, none⟩ = some (.pointer (some ⟨L, 0, none⟩)) := (blk_cell hP 0).trans rfl
 obtain ⟨w1, hw1⟩ : ∃ w1, w1 = (((w.setCell ⟨L, 0, none⟩ (.slice (some ⟨b, off, none⟩) n c)).drew).drew) := ⟨_, rfl⟩
 have hP1 : w1.heap[P]? = some (.cells #[.pointer (some ⟨L, 0, none⟩), .bool s] 124 (0, 0)) := by rw [hw1]; exact far_set w L P 0 _ hPL hP
 have hc1 : w1.cell? ⟨P, 1, none⟩ = some (.bool s) := (blk_cell hP1 1).trans rfl
 have hf1 : w1.frozen? ⟨P, 1, none⟩ = false := blk_frozen hP1 1
 rw [← hw1]
 go_enter Tryz.func94, Tryz.ntmps94
 go_wp2_with fail
 refine (pop_some w L n c b off x hn hcap hc63 hL hx).mono ?_
 rintro e w' ⟨rfl, hw'⟩
 rw [← hw1] at hw'
 subst hw'
 clear hw1 hc0 hP hP0 hL hx
 cases s with
 | true =>
  go_wp2; go_ret
  exact ⟨rfl, rfl⟩
 | false =>
  go_wp2; go_ret
  refine ⟨rfl, ?_⟩
  rfl
end Go.Proofs.YtdlipbfcadmhjaaGreatDoor

namespace Go.Proofs.YtdlipbfcadmhjaaGreatDoor
open Go.RowKit Go.Proofs.YtdlipbfcadmhjaaGreatDoorW.PrintWords
theorem odd1_any (s : ByteArray) (w : World) (hG : GL w) :
    Calls Tryz.prog 113 #[.string s] w fun e w' => e = .returned (.bool (!Pl.isDig s)) ∧ Below w.heap.size w w' := by
 go_enter Tryz.func113, Tryz.ntmps113
 go_wp2_with fail
 refine (digest_Is.calls s _ w hG rfl).mono ?_
 rintro e w1 ⟨rfl, hb1⟩
 have HB := Lib.hid hb1
 clear hb1 hG; go_wp2; go_ret
 exact ⟨rfl, HB.out⟩
set_option maxHeartbeats 4000000 in
theorem oddIndex_any (A : Option Addr) (c : Nat) (xs : List ByteArray) (w : World) (hG : GL w) (hr : Kd.C Kd.string w A xs.length xs) (hc : xs.length ≤ c) :
    Calls Tryz.prog 162 #[.slice A xs.length c, .func (.func 113) #[] #[]] w fun e w' => ∃ r : Int, e = .returned (.int .i64 r) ∧ (0 ≤ r ↔ xs.all Pl.isDig = false) ∧ Below w.heap.size w w' := by
 have hlen := hr.2.1
 have HG := Lib.hid hG
 have HR := Lib.hid hr
 clear hr hG
 have eF := enters_of Tryz.func113 (by kernel_rfl) rfl
 go_enter Tryz.func162, Tryz.ntmps162
 go_wp2_with fail
 go_loopw [8] (fun v8 wr => ∃ j : Nat, j ≤ xs.length ∧ v8 = .int .i64 (j : Int) ∧ Hid ((xs.take j).all Pl.isDig = true) ∧ Hid (Below w.heap.size w wr)) (fun v8 _ => xs.length - (intOf v8).toNat)
 case atStart => exact ⟨0, by omega, rfl, Lib.hid rfl, Lib.hid (Below.refl _ _)⟩
 case round =>
  obtain ⟨j, hj, rfl, HA, HB⟩ := hrel
  by_cases hlt : j < xs.length
  ·obtain ⟨ad, cs, hA, hcs, hk, hcell⟩ := HR.out.get_ ByteArray.empty (j : Int) (by omega) (by omega)
   obtain rfl : cs = [.string (xs.getD j ByteArray.empty)] := hk
   subst hA
   have hw : w.cell? (ad.add j) = some (.string (xs.getD j ByteArray.empty)) := by
    have := hcell 0 _ rfl
    simpa [Kd.string, Kd.scalar] using this
   have hx : wr.cell? (ad.add j) = some (.string (xs.getD j ByteArray.empty)) := (HB.out.cell (World.block_lt_of_cell? w _ hw)).trans hw
   clear hw
   go_wp2_with fail
   refine (odd1_any _ wr (GL.below HG.out HB.out)).mono ?_
   rintro e w1 ⟨rfl, hb1⟩
   have HB1 := Lib.hid (HB.out.trans (hb1.mono HB.out.size))
   have hdr : xs.take (j + 1) = xs.take j ++ [xs[j]] := List.take_succ_eq_append_getElem hlt
   clear hb1
   cases hd : Pl.isDig xs[j] with
   | true =>
    have HT : Hid ((xs.take (j + 1)).all Pl.isDig = true) := Lib.hid (by rw [hdr, List.all_append, HA.out]; simp [hd])
    clear hdr hx hcell hcs; go_wp2
    go_roundw
    case rel => exact ⟨j + 1, by omega, by go_num, HT, HB1⟩
    case measure => simp [intOf]; omega
   | false =>
    have HT : Hid (xs.all Pl.isDig = false) := Lib.hid (by
     rw [← Bool.not_eq_true]; intro h
     rw [List.all_eq_true] at h
     have := h xs[j] (List.getElem_mem hlt)
     rw [hd] at this; cases this)
    clear hdr hx hcell hcs; go_wp2; go_ret
    exact ⟨(j : Int), rfl, ⟨fun _ => HT.out, fun _ => by omega⟩, HB1.out⟩
  ·obtain rfl : j = xs.length := by omega
   have HT : Hid (xs.all Pl.isDig = true) := Lib.hid (by have := HA.out; rwa [List.take_length] at this)
   go_wp2; go_ret
   exact ⟨-1, rfl, ⟨fun h => absurd h (by omega), fun h => by rw [HT.out] at h; cases h⟩, HB.out⟩
theorem oddContains_any (A : Option Addr) (c : Nat) (xs : List ByteArray) (w : World) (hG : GL w) (hr : Kd.C Kd.string w A xs.length xs) (hc : xs.length ≤ c) :
    Calls Tryz.prog 112 #[.slice A xs.length c, .func (.func 113) #[] #[]] w fun e w' => e = .returned (.bool (!xs.all Pl.isDig)) ∧ Below w.heap.size w w' := by
 go_enter Tryz.func112, Tryz.ntmps112
 go_wp2_with fail
 refine (oddIndex_any A c xs w hG hr hc).mono ?_
 rintro e w1 ⟨r, rfl, hr1, hb1⟩
 have HB := Lib.hid hb1
 have HQ : Hid (decide (r ≥ 0) = !xs.all Pl.isDig) := Lib.hid (by
  cases h : xs.all Pl.isDig with
  | false => rw [decide_eq_true (hr1.2 h)]; rfl
  | true => rw [decide_eq_false (fun h0 => by have := hr1.1 h0; rw [h] at this; cases this)]; rfl)
 clear hb1 hr1 hG hr hc; go_wp2; go_ret
 refine ⟨?_, HB.out⟩
 show Ending.returned (.bool (decide (0 ≤ r))) = _
 rw [← HQ.out]
theorem odd_any (A : Option Addr) (c : Nat) (xs : List ByteArray) (w : World) (hG : GL w) (hr : Kd.C Kd.string w A xs.length xs) (hc : xs.length ≤ c) :
    Calls Tryz.prog 111 #[.slice A xs.length c] w fun e w' => e = .returned (.bool (!xs.all Pl.isDig)) ∧ Below w.heap.size w w' := by
 go_enter Tryz.func111, Tryz.ntmps111
 go_wp2_with fail
 refine (oddContains_any A c xs w hG hr hc).mono ?_
 rintro e w1 ⟨rfl, hb1⟩
 have HB := Lib.hid hb1
 clear hb1 hG hr hc; go_wp2; go_ret
 exact ⟨rfl, HB.out⟩
end Go.Proofs.YtdlipbfcadmhjaaGreatDoor

namespace Go.Proofs.YtdlipbfcadmhjaaGreatDoor
open Go.RowKit Go.Proofs.YtdlipbfcadmhjaaGreatDoorW.PrintWords
set_option maxHeartbeats 2000000 in
theorem done_any (w : World) (L P n c : Nat) (A : Option Addr) (s : Bool) (hL : w.heap[L]? = some (.cells #[.slice A n c] 120 (0, 0)))
    (hP : w.heap[P]? = some (.cells #[.pointer (some ⟨L, 0, none⟩), .bool s] 124 (0, 0))) :
    Calls Tryz.prog 95 #[.pointer (some ⟨P, 0, none⟩)] w fun e w' => e = .returned (.bool (!s && decide (n = 0))) ∧ w = w' := by
 have hc0 : w.cell? ⟨P, 0, none⟩ = some (.pointer (some ⟨L, 0, none⟩)) := (blk_cell hP 0).trans rfl
 have hc1 : w.cell? ⟨P, 1, none⟩ = some (.bool s) := (blk_cell hP 1).trans rfl
 have hcL : w.cell? ⟨L, 0, none⟩ = some (.slice A n c) := (blk_cell hL 0).trans rfl
 cases s with
 | true =>
  go_enter Tryz.func95, Tryz.ntmps95
  go_wp2; go_ret
  exact ⟨rfl, rfl⟩
 | false =>
  have e : ((n : Int) == 0) = decide (n = 0) := by rw [Bool.eq_iff_iff, beq_iff_eq, decide_eq_true_eq]; omega
  go_enter Tryz.func95, Tryz.ntmps95
  go_wp2; go_ret
  exact ⟨by first | rfl | simp [e], rfl⟩
theorem proper1_any (s : ByteArray) (w : World) (hG : GL w) :
    Calls Tryz.prog 155 #[.string s] w fun e w' => e = .returned (.bool (!Pl.isDig s)) ∧ Below w.heap.size w w' := by
 go_enter Tryz.func155, Tryz.ntmps155
 go_wp2_with fail
 refine (digest_Is.calls s _ w hG rfl).mono ?_
 rintro e w1 ⟨rfl, hb1⟩
 have HB := Lib.hid hb1
 clear hb1 hG; go_wp2; go_ret
 exact ⟨rfl, HB.out⟩
set_option maxHeartbeats 4000000 in
theorem indexFunc_any (A : Option Addr) (c : Nat) (xs : List ByteArray) (w : World) (hG : GL w) (hr : Kd.C Kd.string w A xs.length xs) (hc : xs.length ≤ c) :
    Calls Tryz.prog 190 #[.slice A xs.length c, .func (.func 155) #[] #[]] w fun e w' => ∃ r : Int, e = .returned (.int .i64 r) ∧ (0 ≤ r ↔ xs.all Pl.isDig = false) ∧ Below w.heap.size w w' := by
 have hlen := hr.2.1
 have HG := Lib.hid hG
 have HR := Lib.hid hr
 clear hr hG
 have eF := enters_of Tryz.func155 (by kernel_rfl) rfl
 go_enter Tryz.func190, Tryz.ntmps190
 go_wp2_with fail
 go_loopw [8] (fun v8 wr => ∃ j : Nat, j ≤ xs.length ∧ v8 = .int .i64 (j : Int) ∧ Hid ((xs.take j).all Pl.isDig = true) ∧ Hid (Below w.heap.size w wr)) (fun v8 _ => xs.length - (intOf v8).toNat)
 case atStart => exact ⟨0, by omega, rfl, Lib.hid rfl, Lib.hid (Below.refl _ _)⟩
 case round =>
  obtain ⟨j, hj, rfl, HA, HB⟩ := hrel
  by_cases hlt : j < xs.length
  ·obtain ⟨ad, cs, hA, hcs, hk, hcell⟩ := HR.out.get_ ByteArray.empty (j : Int) (by omega) (by omega)
   obtain rfl : cs = [.string (xs.getD j ByteArray.empty)] := hk
   subst hA
   have hw : w.cell? (ad.add j) = some (.string (xs.getD j ByteArray.empty)) := by
    have := hcell 0 _ rfl
    simpa [Kd.string, Kd.scalar] using this
   have hx : wr.cell? (ad.add j) = some (.string (xs.getD j ByteArray.empty)) := (HB.out.cell (World.block_lt_of_cell? w _ hw)).trans hw
   clear hw
   go_wp2_with fail
   refine (proper1_any _ wr (GL.below HG.out HB.out)).mono ?_
   rintro e w1 ⟨rfl, hb1⟩
   have HB1 := Lib.hid (HB.out.trans (hb1.mono HB.out.size))
   have hdr : xs.take (j + 1) = xs.take j ++ [xs[j]] := List.take_succ_eq_append_getElem hlt
   clear hb1
   cases hd : Pl.isDig xs[j] with
   | true =>
    have HT : Hid ((xs.take (j + 1)).all Pl.isDig = true) := Lib.hid (by rw [hdr, List.all_append, HA.out]; simp [hd])
    clear hdr hx hcell hcs; go_wp2
    go_roundw
    case rel => exact ⟨j + 1, by omega, by go_num, HT, HB1⟩
    case measure => simp [intOf]; omega
   | false =>
    have HT : Hid (xs.all Pl.isDig = false) := Lib.hid (by
     rw [← Bool.not_eq_true]; intro h
     rw [List.all_eq_true] at h
     have := h xs[j] (List.getElem_mem hlt)
     rw [hd] at this; cases this)
    clear hdr hx hcell hcs; go_wp2; go_ret
    exact ⟨(j : Int), rfl, ⟨fun _ => HT.out, fun _ => by omega⟩, HB1.out⟩
  ·obtain rfl : j = xs.length := by omega
   have HT : Hid (xs.all Pl.isDig = true) := Lib.hid (by have := HA.out; rwa [List.take_length] at this)
   go_wp2; go_ret
   exact ⟨-1, rfl, ⟨fun h => absurd h (by omega), fun h => by rw [HT.out] at h; cases h⟩, HB.out⟩
theorem containsFunc_any (A : Option Addr) (c : Nat) (xs : List ByteArray) (w : World) (hG : GL w) (hr : Kd.C Kd.string w A xs.length xs) (hc : xs.length ≤ c) :
    Calls Tryz.prog 154 #[.slice A xs.length c, .func (.func 155) #[] #[]] w fun e w' => e = .returned (.bool (!xs.all Pl.isDig)) ∧ Below w.heap.size w w' := by
 go_enter Tryz.func154, Tryz.ntmps154
 go_wp2_with fail
 refine (indexFunc_any A c xs w hG hr hc).mono ?_
 rintro e w1 ⟨r, rfl, hr1, hb1⟩
 have HB := Lib.hid hb1
 have HQ : Hid (decide (r ≥ 0) = !xs.all Pl.isDig) := Lib.hid (by
  cases h : xs.all Pl.isDig with
  | false => rw [decide_eq_true (hr1.2 h)]; rfl
  | true => rw [decide_eq_false (fun h0 => by have := hr1.1 h0; rw [h] at this; cases this)]; rfl)
 clear hb1 hr1 hG hr hc; go_wp2; go_ret
 refine ⟨?_, HB.out⟩
 show Ending.returned (.bool (decide (0 ≤ r))) = _
 rw [← HQ.out]
theorem proper_any (A : Option Addr) (c : Nat) (xs : List ByteArray) (w : World) (hG : GL w) (hr : Kd.C Kd.string w A xs.length xs) (hc : xs.length ≤ c) :
    Calls Tryz.prog 92 #[.slice A xs.length c] w fun e w' => e = .returned (.bool (xs.all Pl.isDig)) ∧ Below w.heap.size w w' := by
 go_enter Tryz.func92, Tryz.ntmps92
 go_wp2_with fail
 refine (containsFunc_any A c xs w hG hr hc).mono ?_
 rintro e w1 ⟨rfl, hb1⟩
 have HB := Lib.hid hb1
 clear hb1 hG hr hc; go_wp2; go_ret
 exact ⟨rfl, HB.out⟩
end Go.Proofs.YtdlipbfcadmhjaaGreatDoor

namespace Go.Proofs.YtdlipbfcadmhjaaGreatDoor
open Go.RowKit Go.Proofs.YtdlipbfcadmhjaaGreatDoorW.PrintWords Go.Proofs.YtdlipbfcadmhjaaGreatDoorW.PrintMore PG3
namespace Pl
def halfGo : Nat → Nat → Nat → Nat
  | 0, k, _ => k
  | f + 1, k, n => if 2 * k < n then halfGo f (2 * k) n else k
def half (n : Nat) : Nat := halfGo n 1 n
theorem halfGo_spec : ∀ f k n, 1 ≤ k → k < n → n ≤ k * 2 ^ f → k ≤ halfGo f k n ∧ halfGo f k n < n ∧ n ≤ 2 * halfGo f k n
  | 0, k, n, h1, h2, h3 => by simp at h3; omega
  | f + 1, k, n, h1, h2, h3 => by
    unfold halfGo
    split
    · rename_i h
      obtain ⟨a, b, c⟩ := halfGo_spec f (2 * k) n (by omega) h (by rw [Nat.pow_succ] at h3; rw [Nat.mul_comm 2 k, Nat.mul_assoc, Nat.mul_comm 2]; exact h3)
      exact ⟨by omega, b, c⟩
    · omega
theorem half_spec {n : Nat} (h : 2 ≤ n) : 1 ≤ half n ∧ half n < n ∧ n ≤ 2 * half n :=
  halfGo_spec n 1 n (Nat.le_refl _) (by omega) (by rw [Nat.one_mul]; exact Nat.le_of_lt Nat.lt_two_pow_self)
def nodeL (a b : ByteArray) : List ByteArray := [⟨#[110, 111, 100, 101]⟩, a, b]
def nodeP (a b : ByteArray) : ByteArray := sum (joined (nodeL a b))
def leafL (s : ByteArray) : List ByteArray := [⟨#[108, 101, 97, 102]⟩, s]
def leafP (s : ByteArray) : ByteArray := sum (joined (leafL s))
def nextP (xs : List ByteArray) (s : Bool) : ByteArray × List ByteArray × Bool :=
  match xs.getLast? with
  | none => (ByteArray.empty, [], true)
  | some x => (x, xs.dropLast, s || x.toList.isEmpty)
def upP : Nat → Nat → Nat → ByteArray → List ByteArray → Bool → ByteArray × List ByteArray × Bool
  | 0, _, _, d, xs, s => (d, xs, s)
  | f + 1, n, i, d, xs, s =>
    if n = 1 then (d, xs, s) else
      let p := nextP xs s
      if i < half n then
        let q := upP f (half n) i d p.2.1 p.2.2
        (nodeP q.1 p.1, q.2)
      else
        let q := upP f (n - half n) (i - half n) d p.2.1 p.2.2
        (nodeP p.1 q.1, q.2)
def checkP (root : ByteArray) (n i : Int) (leaf : ByteArray) (path : List ByteArray) : Bool :=
  if n > 1000000 ∨ i < 0 ∨ i ≥ n ∨ path.all isDig = false then false else
    let q := upP n.toNat n.toNat i.toNat (leafP leaf) path false
    q.1.toList == root.toList && (!q.2.2 && q.2.1.isEmpty)
theorem nodeL_cap (a b : ByteArray) (ha : a.size ≤ 16) (hb : b.size ≤ 16) : (joined (nodeL a b)).size ≤ 140737488355328 := by
 refine (few_caps (l := nodeL a b) (n := 16) ?_ (by omega)).2.2
 simp only [few, nodeL, List.all_cons, List.all_nil, Bool.and_true, List.length_cons, List.length_nil]
 simp [ha, hb]
 decide
end Pl
theorem half_l0 (n : Nat) (hn : n ≤ 4611686018427387904) : ∀ f k, 1 ≤ k → k < n → Ev (fun j => tree_half.l0 j (n : Int) (k : Int)) ((Pl.halfGo f k n : Nat) : Int) ∨ ¬ n ≤ k * 2 ^ f := by
 intro f
 induction f with
 | zero =>
  intro k h1 h2
  right
  simp; omega
 | succ f ih =>
  intro k h1 h2
  by_cases hc : 2 * k < n
  ·rcases ih (2 * k) (by omega) hc with h | h
   ·left
    refine Ev.step (f := fun j => tree_half.l0 j (n : Int) ((2 * k : Nat) : Int)) (fun j => ?_) ?_
    ·have e : wrap64 ((k : Int) * 2) = ((2 * k : Nat) : Int) := by unfold wrap64; omega
     rw [tree_half.l0, e, if_pos (by omega)]
    ·unfold Pl.halfGo
     rw [if_pos hc]
     exact h
   ·right
    intro h'
    exact h (by rw [Nat.pow_succ] at h'; rw [Nat.mul_comm 2 k, Nat.mul_assoc, Nat.mul_comm 2]; exact h')
  ·left
   refine Ev.step (f := fun _ => some ((k : Nat) : Int)) (fun j => ?_) ?_
   ·have e : wrap64 ((k : Int) * 2) = ((2 * k : Nat) : Int) := by unfold wrap64; omega
    rw [tree_half.l0, e, if_neg (by omega)]
   ·unfold Pl.halfGo
    rw [if_neg hc]
    exact Ev.now _
theorem halfE {n : Nat} (h2 : 2 ≤ n) (hn : n ≤ 4611686018427387904) : Ev (fun j => tree_half.f j (n : Int)) ((Pl.half n : Nat) : Int) := by
 unfold tree_half.f
 rcases half_l0 n hn n 1 (Nat.le_refl _) (by omega) with h | h
 ·exact h
 ·exact absurd (by rw [Nat.one_mul]; exact Nat.le_of_lt Nat.lt_two_pow_self) h
theorem nodeE (a b : ByteArray) (ha : a.size ≤ 16) (hb : b.size ≤ 16) : tree_node.f a b = some (Pl.nodeP a b) := by
 have h := Pl.nodeL_cap a b ha hb
 unfold tree_node.f digest_List.f
 unfold Pl.nodeL at h
 rw [if_pos h]
 rfl
theorem half_any (n : Nat) (h2 : 2 ≤ n) (hn : n ≤ 1000000) (w : World) : Calls Tryz.prog 83 #[.int .i64 (n : Int)] w fun e w' => e = .returned (.int .i64 ((Pl.half n : Nat) : Int)) ∧ Drawn0 w w' := by
 obtain ⟨k, hk⟩ := (halfE h2 (by omega)).rounds
 exact tree_half.calls k _ _ w hk
theorem node_any (a b : ByteArray) (ha : a.size ≤ 16) (hb : b.size ≤ 16) (w : World) (hG : GL w) : Calls Tryz.prog 87 #[.string a, .string b] w fun e w' => e = .returned (.string (Pl.nodeP a b)) ∧ Below w.heap.size w w' :=
  tree_node.calls a b _ w hG (nodeE a b ha hb)
theorem nodeP_size (a b : ByteArray) : (Pl.nodeP a b).size = 16 := Pl.sum_size _
end Go.Proofs.YtdlipbfcadmhjaaGreatDoor

namespace Go.Proofs.YtdlipbfcadmhjaaGreatDoor
open Go.RowKit Go.Proofs.YtdlipbfcadmhjaaGreatDoorW.PrintWords Go.Proofs.YtdlipbfcadmhjaaGreatDoorW.PrintMore PG3
structure CkInv (F tU : Nat) (w0 w : World) (base X S V U L : Nat) (leaf : ByteArray) (A : Option Addr) (c : Nat) (xs : List ByteArray) (s : Bool) : Prop where
  hX : w.heap[X]? = some (.cells #[.string leaf] 9 (0, 0))
  hS : w.heap[S]? = some (.cells #[.pointer (some ⟨L, 0, none⟩), .bool s] 124 (0, 0))
  hV : w.heap[V]? = some (.cells #[.pointer (some ⟨S, 0, none⟩)] 121 (0, 0))
  hU : w.heap[U]? = some (.cells #[.func (.func F) #[] #[.pointer (some ⟨X, 0, none⟩), .pointer (some ⟨V, 0, none⟩), .pointer (some ⟨U, 0, none⟩)]] tU (0, 0))
  hL : w.heap[L]? = some (.cells #[.slice A xs.length c] 120 (0, 0))
  row : RowAt w L S A xs
  cap : xs.length ≤ c
  c63 : c ≤ 9223372036854775807
  SL : S ≠ L
  XS : X ≠ S
  XL : X ≠ L
  VS : V ≠ S
  VL : V ≠ L
  US : U ≠ S
  UL : U ≠ L
  bS : base ≤ S
  bL : base ≤ L
  bw : base ≤ w.heap.size
  B : Below base w0 w
theorem RowAt.keep {w w' : World} {L S : Nat} {A : Option Addr} {xs : List ByteArray} (h : RowAt w L S A xs) (hs : w.heap.size ≤ w'.heap.size) (hb : ∀ k, k < w.heap.size → k ≠ L → k ≠ S → w'.heap[k]? = w.heap[k]?) : RowAt w' L S A xs := by
 rcases h with h | ⟨b, off, rfl, h1, h2, h3, h4⟩
 ·exact .inl h
 ·exact .inr ⟨b, off, rfl, h1, h2, Nat.lt_of_lt_of_le h3 hs, fun j hj => (World.cell?_of_block (a := ⟨b, off + j, none⟩) (hb b h3 h1 h2)).trans (h4 j hj)⟩
theorem CkInv.below {F tU : Nat} {w0 w w' : World} {base X S V U L : Nat} {leaf : ByteArray} {A : Option Addr} {c : Nat} {xs : List ByteArray} {s : Bool} (h : CkInv F tU w0 w base X S V U L leaf A c xs s) (hb : Below w.heap.size w w') : CkInv F tU w0 w' base X S V U L leaf A c xs s :=
  have k : ∀ {b : Nat} {o : Obj}, w.heap[b]? = some o → w'.heap[b]? = some o := fun {b o} hh => (hb.block b (blk_lt hh)).trans hh
  { h with hX := k h.hX, hS := k h.hS, hV := k h.hV, hU := k h.hU, hL := k h.hL, row := h.row.keep hb.size (fun b h1 _ _ => hb.block b h1), bw := Nat.le_trans h.bw hb.size, B := h.B.trans (hb.mono h.bw) }
theorem CkInv.drawn {F tU : Nat} {w0 w : World} {base X S V U L : Nat} {leaf : ByteArray} {A : Option Addr} {c : Nat} {xs : List ByteArray} {s : Bool} (h : CkInv F tU w0 w base X S V U L leaf A c xs s) (n : Nat) : CkInv F tU w0 (w.drewN n) base X S V U L leaf A c xs s :=
  { h with row := h.row.keep (Nat.le_refl _) (fun _ _ _ _ => rfl), B := pw_below_drewN h.B n }
theorem CkInv.next0 {F tU : Nat} {w0 w : World} {base X S V U L : Nat} {leaf : ByteArray} {A : Option Addr} {c : Nat} {s : Bool} (h : CkInv F tU w0 w base X S V U L leaf A c [] s) : CkInv F tU w0 (w.setCell ⟨S, 1, none⟩ (.bool true)) base X S V U L leaf A c [] true :=
  have k : ∀ {b : Nat} {o : Obj}, b ≠ S → w.heap[b]? = some o → (w.setCell ⟨S, 1, none⟩ (.bool true)).heap[b]? = some o := fun hne hh => far_set w S _ 1 _ hne hh
  { h with hX := k h.XS h.hX, hS := blk_set h.hS 1 _, hV := k h.VS h.hV, hU := k h.US h.hU, hL := k h.SL.symm h.hL, row := .inl rfl, bw := by simpa [World.setCell] using h.bw, B := h.B.trans ⟨rfl, rfl, rfl, by simp [World.setCell], fun i hi => Below.heap_setCell w _ _ i (by have := h.bS; show i ≠ S; omega)⟩ }
theorem CkInv.next1 {F tU : Nat} {w0 w : World} {base X S V U L b off : Nat} {leaf : ByteArray} {c : Nat} {xs : List ByteArray} {x : ByteArray} {s t : Bool} (h : CkInv F tU w0 w base X S V U L leaf (some ⟨b, off, none⟩) c (xs ++ [x]) s) :
    CkInv F tU w0 ((((w.setCell ⟨L, 0, none⟩ (.slice (some ⟨b, off, none⟩) xs.length c)).drew).drew).setCell ⟨S, 1, none⟩ (.bool t)) base X S V U L leaf (some ⟨b, off, none⟩) c xs t := by
 have hw : w.heap.size ≤ ((((w.setCell ⟨L, 0, none⟩ (.slice (some ⟨b, off, none⟩) xs.length c)).drew).drew).setCell ⟨S, 1, none⟩ (.bool t)).heap.size := by simp [World.setCell, World.drew]
 have k0 : ∀ b', b' ≠ L → b' ≠ S → ((((w.setCell ⟨L, 0, none⟩ (.slice (some ⟨b, off, none⟩) xs.length c)).drew).drew).setCell ⟨S, 1, none⟩ (.bool t)).heap[b']? = w.heap[b']? := fun b' h1 h2 =>
  (Below.heap_setCell ((w.setCell ⟨L, 0, none⟩ (.slice (some ⟨b, off, none⟩) xs.length c)).drew).drew ⟨S, 1, none⟩ (.bool t) b' h2).trans (Below.heap_setCell w ⟨L, 0, none⟩ _ b' h1)
 have k : ∀ {b' : Nat} {o : Obj}, b' ≠ L → b' ≠ S → w.heap[b']? = some o → ((((w.setCell ⟨L, 0, none⟩ (.slice (some ⟨b, off, none⟩) xs.length c)).drew).drew).setCell ⟨S, 1, none⟩ (.bool t)).heap[b']? = some o := fun h1 h2 hh => (k0 _ h1 h2).trans hh
 have hlen := h.cap
 simp only [List.length_append, List.length_cons, List.length_nil] at hlen
 have hS1 : (((w.setCell ⟨L, 0, none⟩ (.slice (some ⟨b, off, none⟩) xs.length c)).drew).drew).heap[S]? = some (.cells #[.pointer (some ⟨L, 0, none⟩), .bool s] 124 (0, 0)) := far_set w L S 0 _ h.SL h.hS
 refine { hX := k h.XL h.XS h.hX, hS := blk_set hS1 1 _, hV := k h.VL h.VS h.hV, hU := k h.UL h.US h.hU, hL := ?_, row := ?_, cap := by omega, c63 := h.c63, SL := h.SL, XS := h.XS, XL := h.XL, VS := h.VS, VL := h.VL, US := h.US, UL := h.UL, bS := h.bS, bL := h.bL, bw := Nat.le_trans h.bw hw, B := ?_ }
 ·exact far_set _ S L 1 _ h.SL.symm (blk_set h.hL 0 _)
 ·rcases h.row with hr | ⟨b1, o1, he, h1, h2, h3, h4⟩
  ·simp at hr
  ·injection he with he
   injection he with he1 he2
   subst he1; subst he2
   refine .inr ⟨b, off, rfl, h1, h2, Nat.lt_of_lt_of_le h3 hw, fun j hj => ?_⟩
   have := h4 j (by simp; omega)
   rw [List.getD_eq_getElem?_getD, List.getElem?_append_left hj, ← List.getD_eq_getElem?_getD] at this
   exact (World.cell?_of_block (a := ⟨b, off + j, none⟩) (k0 b h1 h2)).trans this
 ·refine h.B.trans ⟨rfl, rfl, rfl, hw, fun i hi => k0 i ?_ ?_⟩
  ·have := h.bL; omega
  ·have := h.bS; omega
end Go.Proofs.YtdlipbfcadmhjaaGreatDoor
