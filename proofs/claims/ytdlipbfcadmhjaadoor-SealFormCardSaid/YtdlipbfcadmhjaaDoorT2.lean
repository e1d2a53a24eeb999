/- tree: done, proper. -/
import Derived.Test.YtdlipbfcadmhjaaDoorT1
import Derived.Shelf.Abstract
namespace Go.Proofs.YtdlipbfcadmhjaaDoor
set_option linter.unusedVariables false
set_option linter.unusedSimpArgs false
open Go.RowKit Go.Proofs.YtdlipbfcadmhjaaDoorW.PrintWords
set_option maxHeartbeats 2000000 in
theorem done_any (w : World) (L P n c : Nat) (A : Option Addr) (s : Bool) (hL : w.heap[L]? = some (.cells #[.slice A n c] 83 (0, 0)))
    (hP : w.heap[P]? = some (.cells #[.pointer (some ⟨L, 0, none⟩), .bool s] 87 (0, 0))) :
    Calls Tryd.prog 68 #[.pointer (some ⟨P, 0, none⟩)] w fun e w' => e = .returned (.bool (!s && decide (n = 0))) ∧ w = w' := by
 have hc0 : w.cell? ⟨P, 0, none⟩ = some (.pointer (some ⟨L, 0, none⟩)) := (blk_cell hP 0).trans rfl
 have hc1 : w.cell? ⟨P, 1, none⟩ = some (.bool s) := (blk_cell hP 1).trans rfl
 have hcL : w.cell? ⟨L, 0, none⟩ = some (.slice A n c) := (blk_cell hL 0).trans rfl
 cases s with
 | true =>
  go_enter Tryd.func68, Tryd.ntmps68
  go_wp2; go_ret
  exact ⟨rfl, rfl⟩
 | false =>
  have e : ((n : Int) == 0) = decide (n = 0) := by rw [Bool.eq_iff_iff, beq_iff_eq, decide_eq_true_eq]; omega
  go_enter Tryd.func68, Tryd.ntmps68
  go_wp2; go_ret
  exact ⟨by first | rfl | simp [e], rfl⟩
theorem proper1_any (s : ByteArray) (w : World) (hG : GL w) :
    Calls Tryd.prog 101 #[.string s] w fun e w' => e = .returned (.bool (!Pl.isDig s)) ∧ Below w.heap.size w w' := by
 go_enter Tryd.func101, Tryd.ntmps101
 go_wp2_with fail
 refine (digest_Is.calls s _ w hG rfl).mono ?_
 rintro e w1 ⟨rfl, hb1⟩
 have HB := Lib.hid hb1
 clear hb1 hG; go_wp2; go_ret
 exact ⟨rfl, HB.out⟩
set_option maxHeartbeats 4000000 in
theorem indexFunc_any (A : Option Addr) (c : Nat) (xs : List ByteArray) (w : World) (hG : GL w) (hr : Kd.C Kd.string w A xs.length xs) (hc : xs.length ≤ c) :
    Calls Tryd.prog 123 #[.slice A xs.length c, .func (.func 101) #[] #[]] w fun e w' => ∃ r : Int, e = .returned (.int .i64 r) ∧ (0 ≤ r ↔ xs.all Pl.isDig = false) ∧ Below w.heap.size w w' := by
 have hlen := hr.2.1
 have HG := Lib.hid hG
 have HR := Lib.hid hr
 clear hr hG
 have eF := enters_of Tryd.func101 (by kernel_rfl) rfl
 go_enter Tryd.func123, Tryd.ntmps123
 go_wp2_with fail
 go_loopw [8] (fun v8 wr => ∃ j : Nat, j ≤ xs.length ∧ v8 = .int .i64 (j : Int) ∧ Hid ((xs.take j).all Pl.isDig = true) ∧ Hid (Below w.heap.size w wr)) (fun v8 _ => xs.length - (intOf v8).toNat)
 case atStart => exact ⟨0, by omega, rfl, Lib.hid rfl, Lib.hid (Below.refl _ _)⟩
 case round =>
  obtain ⟨j, hj, rfl, HA, HB⟩ := hrel
  by_cases hlt : j < xs.length
  ·obtain ⟨ad, cs, hA, hcs, hk, hcell⟩ := HR.out.get_ ByteArray.empty (j : Int) (by omega) (by omega)
   obtain rfl : cs = [.string (xs.getD j ByteArray.empty)] := hk
   subst hA
   have hw : w.cell? (ad.add j) = some (.string (xs.getD j ByteArray.empty)) := by
    have := hcell 0 _ rfl
    simpa [Kd.string, Kd.scalar] using this
   have hx : wr.cell? (ad.add j) = some (.string (xs.getD j ByteArray.empty)) := (HB.out.cell (World.block_lt_of_cell? w _ hw)).trans hw
   clear hw
   go_wp2_with fail
   refine (proper1_any _ wr (GL.below HG.out HB.out)).mono ?_
   rintro e w1 ⟨rfl, hb1⟩
   have HB1 := Lib.hid (HB.out.trans (hb1.mono HB.out.size))
   have hdr : xs.take (j + 1) = xs.take j ++ [xs[j]] := List.take_succ_eq_append_getElem hlt
   clear hb1
   cases hd : Pl.isDig xs[j] with
   | true =>
    have HT : Hid ((xs.take (j + 1)).all Pl.isDig = true) := Lib.hid (by rw [hdr, List.all_append, HA.out]; simp [hd])
    clear hdr hx hcell hcs; go_wp2
    go_roundw
    case rel => exact ⟨j + 1, by omega, by go_num, HT, HB1⟩
    case measure => simp [intOf]; omega
   | false =>
    have HT : Hid (xs.all Pl.isDig = false) := Lib.hid (by
     rw [← Bool.not_eq_true]; intro h
     rw [List.all_eq_true] at h
     have := h xs[j] (List.getElem_mem hlt)
     rw [hd] at this; cases this)
    clear hdr hx hcell hcs; go_wp2; go_ret
    exact ⟨(j : Int), rfl, ⟨fun _ => HT.out, fun _ => by omega⟩, HB1.out⟩
  ·obtain rfl : j = xs.length := by omega
   have HT : Hid (xs.all Pl.isDig = true) := Lib.hid (by have := HA.out; rwa [List.take_length] at this)
   go_wp2; go_ret
   exact ⟨-1, rfl, ⟨fun h => absurd h (by omega), fun h => by rw [HT.out] at h; cases h⟩, HB.out⟩
theorem containsFunc_any (A : Option Addr) (c : Nat) (xs : List ByteArray) (w : World) (hG : GL w) (hr : Kd.C Kd.string w A xs.length xs) (hc : xs.length ≤ c) :
    Calls Tryd.prog 100 #[.slice A xs.length c, .func (.func 101) #[] #[]] w fun e w' => e = .returned (.bool (!xs.all Pl.isDig)) ∧ Below w.heap.size w w' := by
 go_enter Tryd.func100, Tryd.ntmps100
 go_wp2_with fail
 refine (indexFunc_any A c xs w hG hr hc).mono ?_
 rintro e w1 ⟨r, rfl, hr1, hb1⟩
 have HB := Lib.hid hb1
 have HQ : Hid (decide (r ≥ 0) = !xs.all Pl.isDig) := Lib.hid (by
  cases h : xs.all Pl.isDig with
  | false => rw [decide_eq_true (hr1.2 h)]; rfl
  | true => rw [decide_eq_false (fun h0 => by have := hr1.1 h0; rw [h] at this; cases this)]; rfl)
 clear hb1 hr1 hG hr hc; go_wp2; go_ret
 refine ⟨?_, HB.out⟩
 show Ending.returned (.bool (decide (0 ≤ r))) = _
 rw [← HQ.out]
theorem proper_any (A : Option Addr) (c : Nat) (xs : List ByteArray) (w : World) (hG : GL w) (hr : Kd.C Kd.string w A xs.length xs) (hc : xs.length ≤ c) :
    Calls Tryd.prog 64 #[.slice A xs.length c] w fun e w' => e = .returned (.bool (xs.all Pl.isDig)) ∧ Below w.heap.size w w' := by
 go_enter Tryd.func64, Tryd.ntmps64
 go_wp2_with fail
 refine (containsFunc_any A c xs w hG hr hc).mono ?_
 rintro e w1 ⟨rfl, hb1⟩
 have HB := Lib.hid hb1
 clear hb1 hG hr hc; go_wp2; go_ret
 exact ⟨rfl, HB.out⟩
end Go.Proofs.YtdlipbfcadmhjaaDoor
