/- tree: a list of digests that is taken from its end: pop, next, done, proper. -/
import Derived.Test.YtdlipbfcadmhjaaDoorWB
namespace Go.Proofs.YtdlipbfcadmhjaaDoor
set_option linter.unusedVariables false
set_option linter.unusedSimpArgs false
open Go.RowKit Go.Proofs.YtdlipbfcadmhjaaDoorW.PrintWords
def RowAt (w : World) (L P : Nat) (A : Option Addr) (xs : List ByteArray) : Prop :=
  xs = [] ∨ ∃ b off, A = some ⟨b, off, none⟩ ∧ b ≠ L ∧ b ≠ P ∧ b < w.heap.size ∧ ∀ j, j < xs.length → w.cell? ⟨b, off + j, none⟩ = some (.string (xs.getD j ByteArray.empty))
set_option maxHeartbeats 1000000 in
theorem pop_nil (w : World) (L c : Nat) (A : Option Addr) (hL : w.heap[L]? = some (.cells #[.slice A 0 c] 83 (0, 0))) :
    Calls Tryd.prog 102 #[.pointer (some ⟨L, 0, none⟩)] w fun e w' => e = .returned (.string ByteArray.empty) ∧ w = w' := by
 have hc : w.cell? ⟨L, 0, none⟩ = some (.slice A 0 c) := (blk_cell hL 0).trans rfl
 have hf : w.frozen? ⟨L, 0, none⟩ = false := blk_frozen hL 0
 go_enter Tryd.func102, Tryd.ntmps102
 go_wp2; go_ret
 exact ⟨rfl, rfl⟩
set_option maxHeartbeats 2000000 in
theorem pop_some (w : World) (L n c b off : Nat) (x : ByteArray) (hn : n < 9223372036854775807) (hcap : n + 1 ≤ c) (hc63 : c ≤ 9223372036854775807) (hL : w.heap[L]? = some (.cells #[.slice (some ⟨b, off, none⟩) (n + 1) c] 83 (0, 0)))
    (hx : w.cell? ⟨b, off + n, none⟩ = some (.string x)) :
    Calls Tryd.prog 102 #[.pointer (some ⟨L, 0, none⟩)] w fun e w' => e = .returned (.string x) ∧ w' = ((w.setCell ⟨L, 0, none⟩ (.slice (some ⟨b, off, none⟩) n c)).drew).drew := by
 have hc : w.cell? ⟨L, 0, none⟩ = some (.slice (some ⟨b, off, none⟩) (n + 1) c) := (blk_cell hL 0).trans rfl
 have hf : w.frozen? ⟨L, 0, none⟩ = false := blk_frozen hL 0
 have hLs := blk_set hL 0
 have e1 : wrap64 (((n + 1 : Nat) : Int) - 1) = (n : Int) := by unfold wrap64; omega
 have e2 : wrap64 (((n : Int) + 1) - 1) = (n : Int) := by unfold wrap64; omega
 go_enter Tryd.func102, Tryd.ntmps102
 go_wp2
 go_region
 go_wp2
 go_region
 go_wp2; go_ret
 exact ⟨rfl, rfl⟩
theorem far_set {o : Obj} (w : World) (L P k : Nat) (u : Value) (h : P ≠ L) (hP : w.heap[P]? = some o) : (w.setCell ⟨L, k, none⟩ u).heap[P]? = some o :=
  (Below.heap_setCell w ⟨L, k, none⟩ u P h).trans hP
set_option maxHeartbeats 2000000 in
theorem next_nil (w : World) (L P c : Nat) (A : Option Addr) (s : Bool) (hL : w.heap[L]? = some (.cells #[.slice A 0 c] 83 (0, 0))) (hP : w.heap[P]? = some (.cells #[.pointer (some ⟨L, 0, none⟩), .bool s] 87 (0, 0))) :
    Calls Tryd.prog 66 #[.pointer (some ⟨P, 0, none⟩)] w fun e w' => e = .returned (.string ByteArray.empty) ∧ w' = w.setCell ⟨P, 1, none⟩ (.bool true) := by
 have hc0 : w.cell? ⟨P, 0, none⟩ = some (.pointer (some ⟨L, 0, none⟩)) := (blk_cell hP 0).trans rfl
 have hc1 : w.cell? ⟨P, 1, none⟩ = some (.bool s) := (blk_cell hP 1).trans rfl
 have hf0 : w.frozen? ⟨P, 0, none⟩ = false := blk_frozen hP 0
 have hf1 : w.frozen? ⟨P, 1, none⟩ = false := blk_frozen hP 1
 go_enter Tryd.func66, Tryd.ntmps66
 go_wp2_with fail
 refine (pop_nil w L c A hL).mono ?_
 rintro e w' ⟨rfl, rfl⟩
 cases s with
 | true =>
  go_wp2; go_ret
  exact ⟨rfl, rfl⟩
 | false =>
  go_wp2; go_ret
  exact ⟨rfl, rfl⟩
set_option maxHeartbeats 2000000 in
theorem next_some (w : World) (L P n c b off : Nat) (x : ByteArray) (s : Bool) (hPL : P ≠ L) (hn : n < 9223372036854775807) (hcap : n + 1 ≤ c) (hc63 : c ≤ 9223372036854775807) (hL : w.heap[L]? = some (.cells #[.slice (some ⟨b, off, none⟩) (n + 1) c] 83 (0, 0)))
    (hP : w.heap[P]? = some (.cells #[.pointer (some ⟨L, 0, none⟩), .bool s] 87 (0, 0))) (hx : w.cell? ⟨b, off + n, none⟩ = some (.string x)) :
    Calls Tryd.prog 66 #[.pointer (some ⟨P, 0, none⟩)] w fun e w' => e = .returned (.string x) ∧ w' = (((w.setCell ⟨L, 0, none⟩ (.slice (some ⟨b, off, none⟩) n c)).drew).drew).setCell ⟨P, 1, none⟩ (.bool (s || x.toList.isEmpty)) := by
 have hP0 := hP
 have hc0 : w.cell? ⟨P, 0, none⟩ = some (.pointer (some ⟨L, 0, none⟩)) := (blk_cell hP 0).trans rfl
 obtain ⟨w1, hw1⟩ : ∃ w1, w1 = (((w.setCell ⟨L, 0, none⟩ (.slice (some ⟨b, off, none⟩) n c)).drew).drew) := ⟨_, rfl⟩
 have hP1 : w1.heap[P]? = some (.cells #[.pointer (some ⟨L, 0, none⟩), .bool s] 87 (0, 0)) := by rw [hw1]; exact far_set w L P 0 _ hPL hP
 have hc1 : w1.cell? ⟨P, 1, none⟩ = some (.bool s) := (blk_cell hP1 1).trans rfl
 have hf1 : w1.frozen? ⟨P, 1, none⟩ = false := blk_frozen hP1 1
 rw [← hw1]
 go_enter Tryd.func66, Tryd.ntmps66
 go_wp2_with fail
 refine (pop_some w L n c b off x hn hcap hc63 hL hx).mono ?_
 rintro e w' ⟨rfl, hw'⟩
 rw [← hw1] at hw'
 subst hw'
 clear hw1 hc0 hP hP0 hL hx
 cases s with
 | true =>
  go_wp2; go_ret
  exact ⟨rfl, rfl⟩
 | false =>
  go_wp2; go_ret
  refine ⟨rfl, ?_⟩
  rfl
end Go.Proofs.YtdlipbfcadmhjaaDoor
