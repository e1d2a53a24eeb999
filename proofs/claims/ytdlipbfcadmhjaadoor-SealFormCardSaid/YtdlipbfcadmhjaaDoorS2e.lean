/- seal.Sign, where it refuses. -/
import Derived.Test.YtdlipbfcadmhjaaDoorS2
namespace Go.Proofs.YtdlipbfcadmhjaaDoor
set_option linter.unusedVariables false
set_option linter.unusedSimpArgs false
open Go Go.RowKit Go.Shelf Go.Proofs.YtdlipbfcadmhjaaDoorW.PrintWords Go.Proofs.YtdlipbfcadmhjaaDoorW.PrintLast Go.Proofs.YtdlipbfcadmhjaaDoorW.PrintMore
set_option maxRecDepth 100000 in
set_option maxHeartbeats 8000000 in
theorem sign_err (secret message : ByteArray) (a1 a2 : Int) (w : World) (hc : a1 < 0 ∨ a1 > 8 ∨ a2 < 0 ∨ ((2 ^ a1.toNat : Nat) : Int) ≤ a2) : Calls Tryd.prog 44 #[.string secret, .int .i64 a1, .int .i64 a2, .string message] w fun e w' =>
    e = .returned (.tuple #[.agg #[.int .i64 0, .slice none 0 0, .slice none 0 0], .int .i64 1]) ∧ Below w.heap.size w w' := by
 refine calls_of_wp_marks Tryd.func44 rfl ?_
 simp only [Tryd.ntmps44, List.size_toArray, List.length_cons, List.length_nil, Nat.reduceAdd, Nat.reduceSub, Array.replicate_succ, Array.replicate_zero, List.push_toArray, List.append_toArray, List.nil_append, List.cons_append]
 have HC := Lib.hid hc
 clear hc
 go_wp2_with fail
 have B2 : (((w.alloc (Obj.cells #[Value.string secret] 9)).alloc (Obj.cells #[Value.int IntKind.i64 a2] 3)).alloc (Obj.cells #[Value.int IntKind.i64 0, Value.slice none 0 0, Value.slice none 0 0] 53)).heap[w.heap.size + 1]? = some (.cells #[.int .i64 a2] 3 (0, 0)) := blk_alloc (by have := blk_new (w.alloc (Obj.cells #[Value.string secret] 9)) (.cells #[.int .i64 a2] 3 (0, 0)); rwa [World.size_alloc] at this) _
 have B3 : (((w.alloc (Obj.cells #[Value.string secret] 9)).alloc (Obj.cells #[Value.int IntKind.i64 a2] 3)).alloc (Obj.cells #[Value.int IntKind.i64 0, Value.slice none 0 0, Value.slice none 0 0] 53)).heap[w.heap.size + 1 + 1]? = some (.cells #[.int .i64 0, .slice none 0 0, .slice none 0 0] 53 (0, 0)) := by
  have := blk_new ((w.alloc (Obj.cells #[Value.string secret] 9)).alloc (Obj.cells #[Value.int IntKind.i64 a2] 3)) (.cells #[.int .i64 0, .slice none 0 0, .slice none 0 0] 53 (0, 0)); rwa [World.size_alloc, World.size_alloc] at this
 have HB : Below w.heap.size w (((w.alloc (Obj.cells #[Value.string secret] 9)).alloc (Obj.cells #[Value.int IntKind.i64 a2] 3)).alloc (Obj.cells #[Value.int IntKind.i64 0, Value.slice none 0 0, Value.slice none 0 0] 53)) := below_alloc (below_alloc (below_alloc (Below.refl _ _) _) _) _
 generalize (((w.alloc (Obj.cells #[Value.string secret] 9)).alloc (Obj.cells #[Value.int IntKind.i64 a2] 3)).alloc (Obj.cells #[Value.int IntKind.i64 0, Value.slice none 0 0, Value.slice none 0 0] 53)) = w3 at B2 B3 HB ⊢
 have hc2 : w3.cell? ⟨w.heap.size + 1, 0, none⟩ = some (.int .i64 a2) := (blk_cell B2 0).trans rfl
 have fin : ∀ (nq : Nat) (tmps : Array Value), tmps.getD 8 undef = .pointer (some ⟨w.heap.size + 1 + 1, 0, none⟩) → tmps.getD 9 undef = .int .i64 1 → bodyPostM Fence.wide 3 Tryd.prog Tryd.f44 (fun e w' => e = .returned (.tuple #[.agg #[.int .i64 0, .slice none 0 0, .slice none 0 0], .int .i64 1]) ∧ Below w.heap.size w w') Exit.ret { tmps := tmps, defers := [] }
   ((((w3.drewN nq).setCell ⟨w.heap.size + 1 + 1, 0, none⟩ (.int .i64 0)).setCell ⟨w.heap.size + 1 + 1, 1, none⟩ (.slice none 0 0)).setCell ⟨w.heap.size + 1 + 1, 2, none⟩ (.slice none 0 0)) := by
  intro nq tmps h8 h9
  refine postM_ret (results_ct rfl tmps _ (w.heap.size + 1 + 1) 53 #[.int .i64 0, .slice none 0 0, .slice none 0 0] (0, 0) _ h8 (blk_put (blk_put (blk_put (blk_drewN B3 nq) 0 _ rfl) 1 _ rfl) 2 _ rfl) Tryd.underlying53 rfl (by kernel_rfl)) rfl ⟨by rw [h9], ?_⟩
  exact below_set (below_set (below_set (pw_below_drewN HB nq) (by omega)) (by omega)) (by omega)
 have FIN := Lib.hid fin
 clear fin
 have stage : ∀ nq : Nat, (w3.drewN nq).heap[w.heap.size + 1 + 1]? = some (.cells #[.int .i64 0, .slice none 0 0, .slice none 0 0] 53 (0, 0)) := fun nq => blk_drewN B3 nq
 have ST := Lib.hid stage
 clear stage B2 B3 HB
 by_cases h1 : a1 < 0
 ·have c1 : decide (a1 < 0) = true := decide_eq_true h1
  clear h1
  go_quiet (fail)
  have f0 := blk_frozen (ST.out nq) 0
  have f1 := blk_frozen (ST.out nq) 1
  have f2 := blk_frozen (ST.out nq) 2
  have y0 := (blk_cell (ST.out nq) 0).trans rfl
  have y1 := (blk_cell (ST.out nq) 1).trans rfl
  have y2 := (blk_cell (ST.out nq) 2).trans rfl
  go_wp2
  exact FIN.out _ _ rfl rfl
 ·have c1 : decide (a1 < 0) = false := decide_eq_false h1
  by_cases h2 : a1 > 8
  ·have c2 : decide (a1 > 8) = true := decide_eq_true h2
   clear h1 h2
   go_quiet (fail)
   have f0 := blk_frozen (ST.out nq) 0
   have f1 := blk_frozen (ST.out nq) 1
   have f2 := blk_frozen (ST.out nq) 2
   have y0 := (blk_cell (ST.out nq) 0).trans rfl
   have y1 := (blk_cell (ST.out nq) 1).trans rfl
   have y2 := (blk_cell (ST.out nq) 2).trans rfl
   go_wp2
   exact FIN.out _ _ rfl rfl
  ·have c2 : decide (a1 > 8) = false := decide_eq_false h2
   by_cases h3 : a2 < 0
   ·have c3 : decide (a2 < 0) = true := decide_eq_true h3
    clear h1 h2 h3
    go_quiet (fail)
    have f0 := blk_frozen (ST.out nq) 0
    have f1 := blk_frozen (ST.out nq) 1
    have f2 := blk_frozen (ST.out nq) 2
    have y0 := (blk_cell (ST.out nq) 0).trans rfl
    have y1 := (blk_cell (ST.out nq) 1).trans rfl
    have y2 := (blk_cell (ST.out nq) 2).trans rfl
    go_wp2
    exact FIN.out _ _ rfl rfl
   ·have c3 : decide (a2 < 0) = false := decide_eq_false h3
    obtain ⟨h, rfl⟩ : ∃ h : Nat, a1 = (h : Int) := ⟨a1.toNat, by omega⟩
    have h4 : ((2 ^ h : Nat) : Int) ≤ a2 := by
     rcases HC.out with hh | hh | hh | hh
     ·omega
     ·omega
     ·omega
     ·simpa using hh
    have c4 : decide (wrap64 (2 ^ h) ≤ a2) = true := decide_eq_true (by rw [two_pow_wrap h (by omega)]; exact h4)
    have hh : h ≤ 8 := by omega
    clear h1 h2 h3 h4 HC
    go_quiet (fail)
    have f0 := blk_frozen (ST.out nq) 0
    have f1 := blk_frozen (ST.out nq) 1
    have f2 := blk_frozen (ST.out nq) 2
    have y0 := (blk_cell (ST.out nq) 0).trans rfl
    have y1 := (blk_cell (ST.out nq) 1).trans rfl
    have y2 := (blk_cell (ST.out nq) 2).trans rfl
    go_wp2
    exact FIN.out _ _ rfl rfl
end Go.Proofs.YtdlipbfcadmhjaaDoor
