/- seal.Verify, where it refuses. -/
import Derived.Test.YtdlipbfcadmhjaaDoorSV
namespace Go.Proofs.YtdlipbfcadmhjaaDoor
set_option linter.unusedVariables false
set_option linter.unusedSimpArgs false
open Go Go.RowKit Go.Shelf Go.Proofs.YtdlipbfcadmhjaaDoorW.PrintWords Go.Proofs.YtdlipbfcadmhjaaDoorW.PrintLast Go.Proofs.YtdlipbfcadmhjaaDoorW.PrintMore
set_option maxRecDepth 100000 in
set_option maxHeartbeats 8000000 in
theorem verify_no0 (pub message : ByteArray) (i : Int) (A1 A2 : Option Addr) (c1 c2 : Nat) (sig path : List ByteArray) (w : World) (hG : GL w)
    (hr1 : Kd.C Kd.string w A1 sig.length sig) (hc1 : sig.length ≤ c1) (hr2 : Kd.C Kd.string w A2 path.length path) (hc2 : path.length ≤ c2) (b0 : ((sig.length : Nat) : Int) ≠ 18) :
    Calls Tryd.prog 46 #[.string pub, .string message, .agg #[.int .i64 i, .slice A1 sig.length c1, .slice A2 path.length c2]] w fun e w' => e = .returned (.bool false) ∧ Below w.heap.size w w' := by
 refine calls_of_wp_marks Tryd.func46 rfl ?_
 simp only [Tryd.ntmps46, List.size_toArray, List.length_cons, List.length_nil, Nat.reduceAdd, Nat.reduceSub, Array.replicate_succ, Array.replicate_zero, List.push_toArray, List.append_toArray, List.nil_append, List.cons_append]
 have HG := Lib.hid hG
 have HR1 := Lib.hid hr1
 have HR2 := Lib.hid hr2
 clear hG hr1 hr2
 have b1 : ((((sig.length : Nat) : Int) == 18)) = false := beq_eq_false_iff_ne.2 b0
 have b2 : ((((sig.length : Nat) : Int) != 18)) = true := bne_iff_ne.2 b0
 have b3 : decide (((sig.length : Nat) : Int) = 18) = false := decide_eq_false b0
 go_wp2_with fail
 have BK := Lib.hid (blk_new w (.cells #[.int .i64 i, .slice A1 sig.length c1, .slice A2 path.length c2] 53 (0, 0)))
 have HB := Lib.hid (below_alloc (Below.refl w.heap.size w) (.cells #[.int .i64 i, .slice A1 sig.length c1, .slice A2 path.length c2] 53 (0, 0)))
 generalize w.alloc (.cells #[.int .i64 i, .slice A1 sig.length c1, .slice A2 path.length c2] 53) = w1 at BK HB ⊢
 refine wp_only ?_
 refine start_ (n := 32) (S := fun w' => w'.cell? ⟨w.heap.size, 0, none⟩ = some (.int .i64 i) ∧ w'.cell? ⟨w.heap.size, 1, none⟩ = some (.slice A1 sig.length c1) ∧ w'.cell? ⟨w.heap.size, 2, none⟩ = some (.slice A2 path.length c2)) (ds := [])
  (fT 0 32) (by kernel_rfl) rfl rfl ⟨(blk_cell BK.out 0).trans rfl, (blk_cell BK.out 1).trans rfl, (blk_cell BK.out 2).trans rfl⟩ (fun hHeld => ?_)
 have BK1 := Lib.hid (blk_drew BK.out)
 have HB1 := Lib.hid (below_drew1 HB.out)
 clear BK HB; have BK := BK1; have HB := HB1; clear BK1 HB1
 generalize hWd : w1.drew = w2 at BK HB hHeld ⊢
 clear hWd
 refine pure_ (i := 0) (N := some 15) (v := ?_) (a' := ?_) (fT 1 32) rfl rfl (by kernel_rfl) (fun _ _ _ h => h) (Or.inl ⟨by rfl, ?_⟩) ?_ ?_
 rotate_left
 ·intro w'; go_simp; with_reducible rfl
 rotate_left
 ·simp only [Act.put, sq1, sq2, sq3, i64_w, i32_w]; rfl
 refine take_ (i := 1) (N := some 16) (v := ?_) (a' := ?_) (fT 2 32) rfl rfl (by kernel_rfl) (fun _ _ _ h => h) (Or.inl ⟨by rfl, ?_⟩) hHeld ?_ ?_
 rotate_left
 ·rintro w' ⟨s0, s1, s2⟩; go_simp; with_reducible rfl
 rotate_left
 ·simp only [Act.put, sq1, sq2, sq3, i64_w, i32_w]; rfl
 refine pure_ (i := 2) (N := some 17) (v := ?_) (a' := ?_) (fT 3 32) rfl rfl (by kernel_rfl) (fun _ _ _ h => h) (Or.inl ⟨by rfl, ?_⟩) ?_ ?_
 rotate_left
 ·intro w'; go_simp; with_reducible rfl
 rotate_left
 ·simp only [Act.put, sq1, sq2, sq3, i64_w, i32_w]; rfl
 refine pure_ (i := 3) (N := some 18) (v := ?_) (a' := ?_) (fT 4 32) rfl rfl (by kernel_rfl) (fun _ _ _ h => h) (Or.inl ⟨by rfl, ?_⟩) ?_ ?_
 rotate_left
 ·intro w'; go_simp; with_reducible rfl
 rotate_left
 ·simp only [Act.put, sq1, sq2, sq3, i64_w, i32_w]; rfl
 refine pure_ (i := 4) (N := some 19) (v := ?_) (a' := ?_) (fT 5 32) rfl rfl (by kernel_rfl) (fun _ _ _ h => h) (Or.inl ⟨by rfl, ?_⟩) ?_ ?_
 rotate_left
 ·intro w'; go_simp; with_reducible rfl
 rotate_left
 ·simp only [Act.put, sq1, sq2, sq3, i64_w, i32_w]; rfl
 refine pure_ (i := 5) (N := some 20) (v := undef) (a' := ?_) (fT 6 32) rfl rfl (by kernel_rfl) (fun _ _ _ h => h) (Or.inr ⟨by rfl, by rfl⟩) ?_ ?_
 rotate_left
 ·simp only [Act.put, sq1, sq2, sq3, i64_w, i32_w]; rfl
 refine pure_ (i := 6) (N := some 21) (v := undef) (a' := ?_) (fT 7 32) rfl rfl (by kernel_rfl) (fun _ _ _ h => h) (Or.inr ⟨by rfl, by rfl⟩) ?_ ?_
 rotate_left
 ·simp only [Act.put, sq1, sq2, sq3, i64_w, i32_w]; rfl
 refine pure_ (i := 7) (N := some 22) (v := ?_) (a' := ?_) (fT 8 32) rfl rfl (by kernel_rfl) (fun _ _ _ h => h) (Or.inl ⟨by rfl, ?_⟩) ?_ ?_
 rotate_left
 ·intro w'; go_simp; with_reducible rfl
 rotate_left
 ·simp only [Act.put, sq1, sq2, sq3, i64_w, i32_w]; rfl
 refine pure_ (i := 8) (N := some 23) (v := ?_) (a' := ?_) (fT 9 32) rfl rfl (by kernel_rfl) (fun _ _ _ h => h) (Or.inl ⟨by rfl, ?_⟩) ?_ ?_
 rotate_left
 ·intro w'; go_simp; with_reducible rfl
 rotate_left
 ·simp only [Act.put, sq1, sq2, sq3, i64_w, i32_w]; rfl
 refine pure_ (i := 9) (N := some 24) (v := undef) (a' := ?_) (fT 10 32) rfl rfl (by kernel_rfl) (fun _ _ _ h => h) (Or.inr ⟨by rfl, by rfl⟩) ?_ ?_
 rotate_left
 ·simp only [Act.put, sq1, sq2, sq3, i64_w, i32_w]; rfl
 refine pure_ (i := 10) (N := some 25) (v := undef) (a' := ?_) (fT 11 32) rfl rfl (by kernel_rfl) (fun _ _ _ h => h) (Or.inr ⟨by rfl, by rfl⟩) ?_ ?_
 rotate_left
 ·simp only [Act.put, sq1, sq2, sq3, i64_w, i32_w]; rfl
 refine pure_ (i := 11) (N := some 26) (v := undef) (a' := ?_) (fT 12 32) rfl rfl (by kernel_rfl) (fun _ _ _ h => h) (Or.inr ⟨by rfl, by rfl⟩) ?_ ?_
 rotate_left
 ·simp only [Act.put, sq1, sq2, sq3, i64_w, i32_w]; rfl
 refine pure_ (i := 12) (N := some 27) (v := undef) (a' := ?_) (fT 13 32) rfl rfl (by kernel_rfl) (fun _ _ _ h => h) (Or.inr ⟨by rfl, by rfl⟩) ?_ ?_
 rotate_left
 ·simp only [Act.put, sq1, sq2, sq3, i64_w, i32_w]; rfl
 refine pure_ (i := 13) (N := some 28) (v := ?_) (a' := ?_) (fT 14 32) rfl rfl (by kernel_rfl) (fun _ _ _ h => h) (Or.inl ⟨by rfl, ?_⟩) ?_ ?_
 rotate_left
 ·intro w'; go_simp; with_reducible rfl
 rotate_left
 ·simp only [Act.put, sq1, sq2, sq3, i64_w, i32_w]; rfl
 refine pure_ (i := 14) (N := some 29) (v := ?_) (a' := ?_) (fT 15 32) rfl rfl (by kernel_rfl) (fun _ _ _ h => h) (Or.inl ⟨by rfl, ?_⟩) ?_ ?_
 rotate_left
 ·intro w'; go_simp; with_reducible rfl
 rotate_left
 ·simp only [Act.put, sq1, sq2, sq3, i64_w, i32_w]; rfl
 refine pure_ (i := 15) (N := some 30) (v := undef) (a' := ?_) (fT 16 32) rfl rfl (by kernel_rfl) (fun _ _ _ h => h) (Or.inr ⟨by rfl, by rfl⟩) ?_ ?_
 rotate_left
 ·simp only [Act.put, sq1, sq2, sq3, i64_w, i32_w]; rfl
 refine pure_ (i := 16) (N := some 31) (v := undef) (a' := ?_) (fT 17 32) rfl rfl (by kernel_rfl) (fun _ _ _ h => h) (Or.inr ⟨by rfl, by rfl⟩) ?_ ?_
 rotate_left
 ·simp only [Act.put, sq1, sq2, sq3, i64_w, i32_w]; rfl
 refine pure_ (i := 17) (N := some 32) (v := undef) (a' := ?_) (fT 18 32) rfl rfl (by kernel_rfl) (fun _ _ _ h => h) (Or.inr ⟨by rfl, by rfl⟩) ?_ ?_
 rotate_left
 ·simp only [Act.put, sq1, sq2, sq3, i64_w, i32_w]; rfl
 refine pure_ (i := 18) (N := some 33) (v := undef) (a' := ?_) (fT 19 32) rfl rfl (by kernel_rfl) (fun _ _ _ h => h) (Or.inr ⟨by rfl, by rfl⟩) ?_ ?_
 rotate_left
 ·simp only [Act.put, sq1, sq2, sq3, i64_w, i32_w]; rfl
 refine pure_ (i := 19) (N := some 34) (v := ?_) (a' := ?_) (fT 20 32) rfl rfl (by kernel_rfl) (fun _ _ _ h => h) (Or.inl ⟨by rfl, ?_⟩) ?_ ?_
 rotate_left
 ·intro w'; go_simp; with_reducible rfl
 rotate_left
 ·simp only [Act.put, sq1, sq2, sq3, i64_w, i32_w]; rfl
 refine pure_ (i := 20) (N := some 35) (v := ?_) (a' := ?_) (fT 21 32) rfl rfl (by kernel_rfl) (fun _ _ _ h => h) (Or.inl ⟨by rfl, ?_⟩) ?_ ?_
 rotate_left
 ·intro w'; go_simp; with_reducible rfl
 rotate_left
 ·simp only [Act.put, sq1, sq2, sq3, i64_w, i32_w]; rfl
 refine pure_ (i := 21) (N := some 36) (v := undef) (a' := ?_) (fT 22 32) rfl rfl (by kernel_rfl) (fun _ _ _ h => h) (Or.inr ⟨by rfl, by rfl⟩) ?_ ?_
 rotate_left
 ·simp only [Act.put, sq1, sq2, sq3, i64_w, i32_w]; rfl
 refine pure_ (i := 22) (N := some 37) (v := undef) (a' := ?_) (fT 23 32) rfl rfl (by kernel_rfl) (fun _ _ _ h => h) (Or.inr ⟨by rfl, by rfl⟩) ?_ ?_
 rotate_left
 ·simp only [Act.put, sq1, sq2, sq3, i64_w, i32_w]; rfl
 refine pure_ (i := 23) (N := some 38) (v := undef) (a' := ?_) (fT 24 32) rfl rfl (by kernel_rfl) (fun _ _ _ h => h) (Or.inr ⟨by rfl, by rfl⟩) ?_ ?_
 rotate_left
 ·simp only [Act.put, sq1, sq2, sq3, i64_w, i32_w]; rfl
 refine pure_ (i := 24) (N := some 39) (v := ?_) (a' := ?_) (fT 25 32) rfl rfl (by kernel_rfl) (fun _ _ _ h => h) (Or.inl ⟨by rfl, ?_⟩) ?_ ?_
 rotate_left
 ·intro w'; go_simp; with_reducible rfl
 rotate_left
 ·simp only [Act.put, sq1, sq2, sq3, i64_w, i32_w]; rfl
 refine pure_ (i := 25) (N := some 40) (v := ?_) (a' := ?_) (fT 26 32) rfl rfl (by kernel_rfl) (fun _ _ _ h => h) (Or.inl ⟨by rfl, ?_⟩) ?_ ?_
 rotate_left
 ·intro w'; go_simp; with_reducible rfl
 rotate_left
 ·simp only [Act.put, sq1, sq2, sq3, i64_w, i32_w]; rfl
 refine pure_ (i := 26) (N := some 41) (v := undef) (a' := ?_) (fT 27 32) rfl rfl (by kernel_rfl) (fun _ _ _ h => h) (Or.inr ⟨by rfl, by rfl⟩) ?_ ?_
 rotate_left
 ·simp only [Act.put, sq1, sq2, sq3, i64_w, i32_w]; rfl
 refine pure_ (i := 27) (N := some 42) (v := undef) (a' := ?_) (fT 28 32) rfl rfl (by kernel_rfl) (fun _ _ _ h => h) (Or.inr ⟨by rfl, by rfl⟩) ?_ ?_
 rotate_left
 ·simp only [Act.put, sq1, sq2, sq3, i64_w, i32_w]; rfl
 refine pure_ (i := 28) (N := some 43) (v := undef) (a' := ?_) (fT 29 32) rfl rfl (by kernel_rfl) (fun _ _ _ h => h) (Or.inr ⟨by rfl, by rfl⟩) ?_ ?_
 rotate_left
 ·simp only [Act.put, sq1, sq2, sq3, i64_w, i32_w]; rfl
 refine pure_ (i := 29) (N := some 44) (v := undef) (a' := ?_) (fT 30 32) rfl rfl (by kernel_rfl) (fun _ _ _ h => h) (Or.inr ⟨by rfl, by rfl⟩) ?_ ?_
 rotate_left
 ·simp only [Act.put, sq1, sq2, sq3, i64_w, i32_w]; rfl
 refine pure_ (i := 30) (N := some 45) (v := undef) (a' := ?_) (fT 31 32) rfl rfl (by kernel_rfl) (fun _ _ _ h => h) (Or.inr ⟨by rfl, by rfl⟩) ?_ ?_
 rotate_left
 ·simp only [Act.put, sq1, sq2, sq3, i64_w, i32_w]; rfl
 refine pure_ (i := 31) (N := some 46) (v := ?_) (a' := ?_) (fT 32 32) rfl rfl (by kernel_rfl) (fun _ _ _ h => h) (Or.inl ⟨by rfl, ?_⟩) ?_ ?_
 rotate_left
 ·intro w'; go_simp; with_reducible rfl
 rotate_left
 ·simp only [Act.put, sq1, sq2, sq3, i64_w, i32_w]; rfl
 refine done_ (by kernel_rfl) (only_of ?_)
 go_wp2
 exact postM_ret (results_tmp rfl _ _ _) rfl ⟨rfl, HB.out⟩
set_option maxRecDepth 100000 in
set_option maxHeartbeats 8000000 in
theorem verify_no1 (pub message : ByteArray) (i : Int) (A1 A2 : Option Addr) (c1 c2 : Nat) (sig path : List ByteArray) (w : World) (hG : GL w)
    (hr1 : Kd.C Kd.string w A1 sig.length sig) (hc1 : sig.length ≤ c1) (hr2 : Kd.C Kd.string w A2 path.length path) (hc2 : path.length ≤ c2) (e18 : ((sig.length : Nat) : Int) = 18) (d1 : decide ((path.length : Int) > 8) = true) :
    Calls Tryd.prog 46 #[.string pub, .string message, .agg #[.int .i64 i, .slice A1 sig.length c1, .slice A2 path.length c2]] w fun e w' => e = .returned (.bool false) ∧ Below w.heap.size w w' := by
 refine calls_of_wp_marks Tryd.func46 rfl ?_
 simp only [Tryd.ntmps46, List.size_toArray, List.length_cons, List.length_nil, Nat.reduceAdd, Nat.reduceSub, Array.replicate_succ, Array.replicate_zero, List.push_toArray, List.append_toArray, List.nil_append, List.cons_append]
 have HG := Lib.hid hG
 have HR1 := Lib.hid hr1
 have HR2 := Lib.hid hr2
 clear hG hr1 hr2
 go_wp2_with fail
 have BK := Lib.hid (blk_new w (.cells #[.int .i64 i, .slice A1 sig.length c1, .slice A2 path.length c2] 53 (0, 0)))
 have HB := Lib.hid (below_alloc (Below.refl w.heap.size w) (.cells #[.int .i64 i, .slice A1 sig.length c1, .slice A2 path.length c2] 53 (0, 0)))
 generalize w.alloc (.cells #[.int .i64 i, .slice A1 sig.length c1, .slice A2 path.length c2] 53) = w1 at BK HB ⊢
 refine wp_only ?_
 refine start_ (n := 32) (S := fun w' => w'.cell? ⟨w.heap.size, 0, none⟩ = some (.int .i64 i) ∧ w'.cell? ⟨w.heap.size, 1, none⟩ = some (.slice A1 sig.length c1) ∧ w'.cell? ⟨w.heap.size, 2, none⟩ = some (.slice A2 path.length c2)) (ds := [])
  (fT 0 32) (by kernel_rfl) rfl rfl ⟨(blk_cell BK.out 0).trans rfl, (blk_cell BK.out 1).trans rfl, (blk_cell BK.out 2).trans rfl⟩ (fun hHeld => ?_)
 have BK1 := Lib.hid (blk_drew BK.out)
 have HB1 := Lib.hid (below_drew1 HB.out)
 clear BK HB; have BK := BK1; have HB := HB1; clear BK1 HB1
 generalize hWd : w1.drew = w2 at BK HB hHeld ⊢
 clear hWd
 refine pure_ (i := 0) (N := some 15) (v := ?_) (a' := ?_) (fT 1 32) rfl rfl (by kernel_rfl) (fun _ _ _ h => h) (Or.inl ⟨by rfl, ?_⟩) ?_ ?_
 rotate_left
 ·intro w'; go_simp; with_reducible rfl
 rotate_left
 ·simp only [Act.put, sq1, sq2, sq3, i64_w, i32_w]; rfl
 refine take_ (i := 1) (N := some 16) (v := ?_) (a' := ?_) (fT 2 32) rfl rfl (by kernel_rfl) (fun _ _ _ h => h) (Or.inl ⟨by rfl, ?_⟩) hHeld ?_ ?_
 rotate_left
 ·rintro w' ⟨s0, s1, s2⟩; go_simp; with_reducible rfl
 rotate_left
 ·simp only [Act.put, sq1, sq2, sq3, i64_w, i32_w]; rfl
 refine pure_ (i := 2) (N := some 17) (v := ?_) (a' := ?_) (fT 3 32) rfl rfl (by kernel_rfl) (fun _ _ _ h => h) (Or.inl ⟨by rfl, ?_⟩) ?_ ?_
 rotate_left
 ·intro w'; go_simp; with_reducible rfl
 rotate_left
 ·simp only [Act.put, sq1, sq2, sq3, i64_w, i32_w]; rfl
 refine pure_ (i := 3) (N := some 18) (v := ?_) (a' := ?_) (fT 4 32) rfl rfl (by kernel_rfl) (fun _ _ _ h => h) (Or.inl ⟨by rfl, ?_⟩) ?_ ?_
 rotate_left
 ·intro w'; go_simp; with_reducible rfl
 rotate_left
 ·simp only [Act.put, sq1, sq2, sq3, i64_w, i32_w]; rfl
 refine pure_ (i := 4) (N := some 19) (v := ?_) (a' := ?_) (fT 5 32) rfl rfl (by kernel_rfl) (fun _ _ _ h => h) (Or.inl ⟨by rfl, ?_⟩) ?_ ?_
 rotate_left
 ·intro w'; go_simp; with_reducible rfl
 rotate_left
 ·simp only [Act.put, sq1, sq2, sq3, i64_w, i32_w]; rfl
 refine pure_ (i := 5) (N := some 20) (v := ?_) (a' := ?_) (fT 6 32) rfl rfl (by kernel_rfl) (fun _ _ _ h => h) (Or.inl ⟨by rfl, ?_⟩) ?_ ?_
 rotate_left
 ·intro w'; go_simp; with_reducible rfl
 rotate_left
 ·simp only [Act.put, sq1, sq2, sq3, i64_w, i32_w]; rfl
 refine pure_ (i := 6) (N := some 21) (v := ?_) (a' := ?_) (fT 7 32) rfl rfl (by kernel_rfl) (fun _ _ _ h => h) (Or.inl ⟨by rfl, ?_⟩) ?_ ?_
 rotate_left
 ·intro w'; go_simp; with_reducible rfl
 rotate_left
 ·simp only [Act.put, sq1, sq2, sq3, i64_w, i32_w]; rfl
 refine pure_ (i := 7) (N := some 22) (v := ?_) (a' := ?_) (fT 8 32) rfl rfl (by kernel_rfl) (fun _ _ _ h => h) (Or.inl ⟨by rfl, ?_⟩) ?_ ?_
 rotate_left
 ·intro w'; go_simp; with_reducible rfl
 rotate_left
 ·simp only [Act.put, sq1, sq2, sq3, i64_w, i32_w]; rfl
 refine pure_ (i := 8) (N := some 23) (v := ?_) (a' := ?_) (fT 9 32) rfl rfl (by kernel_rfl) (fun _ _ _ h => h) (Or.inl ⟨by rfl, ?_⟩) ?_ ?_
 rotate_left
 ·intro w'; go_simp; with_reducible rfl
 rotate_left
 ·simp only [Act.put, sq1, sq2, sq3, i64_w, i32_w]; rfl
 refine pure_ (i := 9) (N := some 24) (v := undef) (a' := ?_) (fT 10 32) rfl rfl (by kernel_rfl) (fun _ _ _ h => h) (Or.inr ⟨by rfl, by rfl⟩) ?_ ?_
 rotate_left
 ·simp only [Act.put, sq1, sq2, sq3, i64_w, i32_w]; rfl
 refine pure_ (i := 10) (N := some 25) (v := undef) (a' := ?_) (fT 11 32) rfl rfl (by kernel_rfl) (fun _ _ _ h => h) (Or.inr ⟨by rfl, by rfl⟩) ?_ ?_
 rotate_left
 ·simp only [Act.put, sq1, sq2, sq3, i64_w, i32_w]; rfl
 refine pure_ (i := 11) (N := some 26) (v := undef) (a' := ?_) (fT 12 32) rfl rfl (by kernel_rfl) (fun _ _ _ h => h) (Or.inr ⟨by rfl, by rfl⟩) ?_ ?_
 rotate_left
 ·simp only [Act.put, sq1, sq2, sq3, i64_w, i32_w]; rfl
 refine pure_ (i := 12) (N := some 27) (v := undef) (a' := ?_) (fT 13 32) rfl rfl (by kernel_rfl) (fun _ _ _ h => h) (Or.inr ⟨by rfl, by rfl⟩) ?_ ?_
 rotate_left
 ·simp only [Act.put, sq1, sq2, sq3, i64_w, i32_w]; rfl
 refine pure_ (i := 13) (N := some 28) (v := ?_) (a' := ?_) (fT 14 32) rfl rfl (by kernel_rfl) (fun _ _ _ h => h) (Or.inl ⟨by rfl, ?_⟩) ?_ ?_
 rotate_left
 ·intro w'; go_simp; with_reducible rfl
 rotate_left
 ·simp only [Act.put, sq1, sq2, sq3, i64_w, i32_w]; rfl
 refine pure_ (i := 14) (N := some 29) (v := ?_) (a' := ?_) (fT 15 32) rfl rfl (by kernel_rfl) (fun _ _ _ h => h) (Or.inl ⟨by rfl, ?_⟩) ?_ ?_
 rotate_left
 ·intro w'; go_simp; with_reducible rfl
 rotate_left
 ·simp only [Act.put, sq1, sq2, sq3, i64_w, i32_w]; rfl
 refine pure_ (i := 15) (N := some 30) (v := undef) (a' := ?_) (fT 16 32) rfl rfl (by kernel_rfl) (fun _ _ _ h => h) (Or.inr ⟨by rfl, by rfl⟩) ?_ ?_
 rotate_left
 ·simp only [Act.put, sq1, sq2, sq3, i64_w, i32_w]; rfl
 refine pure_ (i := 16) (N := some 31) (v := undef) (a' := ?_) (fT 17 32) rfl rfl (by kernel_rfl) (fun _ _ _ h => h) (Or.inr ⟨by rfl, by rfl⟩) ?_ ?_
 rotate_left
 ·simp only [Act.put, sq1, sq2, sq3, i64_w, i32_w]; rfl
 refine pure_ (i := 17) (N := some 32) (v := undef) (a' := ?_) (fT 18 32) rfl rfl (by kernel_rfl) (fun _ _ _ h => h) (Or.inr ⟨by rfl, by rfl⟩) ?_ ?_
 rotate_left
 ·simp only [Act.put, sq1, sq2, sq3, i64_w, i32_w]; rfl
 refine pure_ (i := 18) (N := some 33) (v := undef) (a' := ?_) (fT 19 32) rfl rfl (by kernel_rfl) (fun _ _ _ h => h) (Or.inr ⟨by rfl, by rfl⟩) ?_ ?_
 rotate_left
 ·simp only [Act.put, sq1, sq2, sq3, i64_w, i32_w]; rfl
 refine pure_ (i := 19) (N := some 34) (v := ?_) (a' := ?_) (fT 20 32) rfl rfl (by kernel_rfl) (fun _ _ _ h => h) (Or.inl ⟨by rfl, ?_⟩) ?_ ?_
 rotate_left
 ·intro w'; go_simp; with_reducible rfl
 rotate_left
 ·simp only [Act.put, sq1, sq2, sq3, i64_w, i32_w]; rfl
 refine pure_ (i := 20) (N := some 35) (v := ?_) (a' := ?_) (fT 21 32) rfl rfl (by kernel_rfl) (fun _ _ _ h => h) (Or.inl ⟨by rfl, ?_⟩) ?_ ?_
 rotate_left
 ·intro w'; go_simp; with_reducible rfl
 rotate_left
 ·simp only [Act.put, sq1, sq2, sq3, i64_w, i32_w]; rfl
 refine pure_ (i := 21) (N := some 36) (v := undef) (a' := ?_) (fT 22 32) rfl rfl (by kernel_rfl) (fun _ _ _ h => h) (Or.inr ⟨by rfl, by rfl⟩) ?_ ?_
 rotate_left
 ·simp only [Act.put, sq1, sq2, sq3, i64_w, i32_w]; rfl
 refine pure_ (i := 22) (N := some 37) (v := undef) (a' := ?_) (fT 23 32) rfl rfl (by kernel_rfl) (fun _ _ _ h => h) (Or.inr ⟨by rfl, by rfl⟩) ?_ ?_
 rotate_left
 ·simp only [Act.put, sq1, sq2, sq3, i64_w, i32_w]; rfl
 refine pure_ (i := 23) (N := some 38) (v := undef) (a' := ?_) (fT 24 32) rfl rfl (by kernel_rfl) (fun _ _ _ h => h) (Or.inr ⟨by rfl, by rfl⟩) ?_ ?_
 rotate_left
 ·simp only [Act.put, sq1, sq2, sq3, i64_w, i32_w]; rfl
 refine pure_ (i := 24) (N := some 39) (v := ?_) (a' := ?_) (fT 25 32) rfl rfl (by kernel_rfl) (fun _ _ _ h => h) (Or.inl ⟨by rfl, ?_⟩) ?_ ?_
 rotate_left
 ·intro w'; go_simp; with_reducible rfl
 rotate_left
 ·simp only [Act.put, sq1, sq2, sq3, i64_w, i32_w]; rfl
 refine pure_ (i := 25) (N := some 40) (v := ?_) (a' := ?_) (fT 26 32) rfl rfl (by kernel_rfl) (fun _ _ _ h => h) (Or.inl ⟨by rfl, ?_⟩) ?_ ?_
 rotate_left
 ·intro w'; go_simp; with_reducible rfl
 rotate_left
 ·simp only [Act.put, sq1, sq2, sq3, i64_w, i32_w]; rfl
 refine pure_ (i := 26) (N := some 41) (v := undef) (a' := ?_) (fT 27 32) rfl rfl (by kernel_rfl) (fun _ _ _ h => h) (Or.inr ⟨by rfl, by rfl⟩) ?_ ?_
 rotate_left
 ·simp only [Act.put, sq1, sq2, sq3, i64_w, i32_w]; rfl
 refine pure_ (i := 27) (N := some 42) (v := undef) (a' := ?_) (fT 28 32) rfl rfl (by kernel_rfl) (fun _ _ _ h => h) (Or.inr ⟨by rfl, by rfl⟩) ?_ ?_
 rotate_left
 ·simp only [Act.put, sq1, sq2, sq3, i64_w, i32_w]; rfl
 refine pure_ (i := 28) (N := some 43) (v := undef) (a' := ?_) (fT 29 32) rfl rfl (by kernel_rfl) (fun _ _ _ h => h) (Or.inr ⟨by rfl, by rfl⟩) ?_ ?_
 rotate_left
 ·simp only [Act.put, sq1, sq2, sq3, i64_w, i32_w]; rfl
 refine pure_ (i := 29) (N := some 44) (v := undef) (a' := ?_) (fT 30 32) rfl rfl (by kernel_rfl) (fun _ _ _ h => h) (Or.inr ⟨by rfl, by rfl⟩) ?_ ?_
 rotate_left
 ·simp only [Act.put, sq1, sq2, sq3, i64_w, i32_w]; rfl
 refine pure_ (i := 30) (N := some 45) (v := undef) (a' := ?_) (fT 31 32) rfl rfl (by kernel_rfl) (fun _ _ _ h => h) (Or.inr ⟨by rfl, by rfl⟩) ?_ ?_
 rotate_left
 ·simp only [Act.put, sq1, sq2, sq3, i64_w, i32_w]; rfl
 refine pure_ (i := 31) (N := some 46) (v := ?_) (a' := ?_) (fT 32 32) rfl rfl (by kernel_rfl) (fun _ _ _ h => h) (Or.inl ⟨by rfl, ?_⟩) ?_ ?_
 rotate_left
 ·intro w'; go_simp; with_reducible rfl
 rotate_left
 ·simp only [Act.put, sq1, sq2, sq3, i64_w, i32_w]; rfl
 refine done_ (by kernel_rfl) (only_of ?_)
 go_wp2
 exact postM_ret (results_tmp rfl _ _ _) rfl ⟨rfl, HB.out⟩
set_option maxRecDepth 100000 in
set_option maxHeartbeats 8000000 in
theorem verify_no2 (pub message : ByteArray) (i : Int) (A1 A2 : Option Addr) (c1 c2 : Nat) (sig path : List ByteArray) (w : World) (hG : GL w)
    (hr1 : Kd.C Kd.string w A1 sig.length sig) (hc1 : sig.length ≤ c1) (hr2 : Kd.C Kd.string w A2 path.length path) (hc2 : path.length ≤ c2) (e18 : ((sig.length : Nat) : Int) = 18) (d1 : decide ((path.length : Int) > 8) = false) (hd1 : (!sig.all Pl.isDig) = true) :
    Calls Tryd.prog 46 #[.string pub, .string message, .agg #[.int .i64 i, .slice A1 sig.length c1, .slice A2 path.length c2]] w fun e w' => e = .returned (.bool false) ∧ Below w.heap.size w w' := by
 refine calls_of_wp_marks Tryd.func46 rfl ?_
 simp only [Tryd.ntmps46, List.size_toArray, List.length_cons, List.length_nil, Nat.reduceAdd, Nat.reduceSub, Array.replicate_succ, Array.replicate_zero, List.push_toArray, List.append_toArray, List.nil_append, List.cons_append]
 have HG := Lib.hid hG
 have HR1 := Lib.hid hr1
 have HR2 := Lib.hid hr2
 clear hG hr1 hr2
 have HD1 := Lib.hid hd1
 clear hd1
 go_wp2_with fail
 have BK := Lib.hid (blk_new w (.cells #[.int .i64 i, .slice A1 sig.length c1, .slice A2 path.length c2] 53 (0, 0)))
 have HB := Lib.hid (below_alloc (Below.refl w.heap.size w) (.cells #[.int .i64 i, .slice A1 sig.length c1, .slice A2 path.length c2] 53 (0, 0)))
 generalize w.alloc (.cells #[.int .i64 i, .slice A1 sig.length c1, .slice A2 path.length c2] 53) = w1 at BK HB ⊢
 refine wp_only ?_
 refine start_ (n := 32) (S := fun w' => w'.cell? ⟨w.heap.size, 0, none⟩ = some (.int .i64 i) ∧ w'.cell? ⟨w.heap.size, 1, none⟩ = some (.slice A1 sig.length c1) ∧ w'.cell? ⟨w.heap.size, 2, none⟩ = some (.slice A2 path.length c2)) (ds := [])
  (fT 0 32) (by kernel_rfl) rfl rfl ⟨(blk_cell BK.out 0).trans rfl, (blk_cell BK.out 1).trans rfl, (blk_cell BK.out 2).trans rfl⟩ (fun hHeld => ?_)
 have BK1 := Lib.hid (blk_drew BK.out)
 have HB1 := Lib.hid (below_drew1 HB.out)
 clear BK HB; have BK := BK1; have HB := HB1; clear BK1 HB1
 generalize hWd : w1.drew = w2 at BK HB hHeld ⊢
 clear hWd
 refine pure_ (i := 0) (N := some 15) (v := ?_) (a' := ?_) (fT 1 32) rfl rfl (by kernel_rfl) (fun _ _ _ h => h) (Or.inl ⟨by rfl, ?_⟩) ?_ ?_
 rotate_left
 ·intro w'; go_simp; with_reducible rfl
 rotate_left
 ·simp only [Act.put, sq1, sq2, sq3, i64_w, i32_w]; rfl
 refine take_ (i := 1) (N := some 16) (v := ?_) (a' := ?_) (fT 2 32) rfl rfl (by kernel_rfl) (fun _ _ _ h => h) (Or.inl ⟨by rfl, ?_⟩) hHeld ?_ ?_
 rotate_left
 ·rintro w' ⟨s0, s1, s2⟩; go_simp; with_reducible rfl
 rotate_left
 ·simp only [Act.put, sq1, sq2, sq3, i64_w, i32_w]; rfl
 refine pure_ (i := 2) (N := some 17) (v := ?_) (a' := ?_) (fT 3 32) rfl rfl (by kernel_rfl) (fun _ _ _ h => h) (Or.inl ⟨by rfl, ?_⟩) ?_ ?_
 rotate_left
 ·intro w'; go_simp; with_reducible rfl
 rotate_left
 ·simp only [Act.put, sq1, sq2, sq3, i64_w, i32_w]; rfl
 refine pure_ (i := 3) (N := some 18) (v := ?_) (a' := ?_) (fT 4 32) rfl rfl (by kernel_rfl) (fun _ _ _ h => h) (Or.inl ⟨by rfl, ?_⟩) ?_ ?_
 rotate_left
 ·intro w'; go_simp; with_reducible rfl
 rotate_left
 ·simp only [Act.put, sq1, sq2, sq3, i64_w, i32_w]; rfl
 refine pure_ (i := 4) (N := some 19) (v := ?_) (a' := ?_) (fT 5 32) rfl rfl (by kernel_rfl) (fun _ _ _ h => h) (Or.inl ⟨by rfl, ?_⟩) ?_ ?_
 rotate_left
 ·intro w'; go_simp; with_reducible rfl
 rotate_left
 ·simp only [Act.put, sq1, sq2, sq3, i64_w, i32_w]; rfl
 refine pure_ (i := 5) (N := some 20) (v := ?_) (a' := ?_) (fT 6 32) rfl rfl (by kernel_rfl) (fun _ _ _ h => h) (Or.inl ⟨by rfl, ?_⟩) ?_ ?_
 rotate_left
 ·intro w'; go_simp; with_reducible rfl
 rotate_left
 ·simp only [Act.put, sq1, sq2, sq3, i64_w, i32_w]; rfl
 refine pure_ (i := 6) (N := some 21) (v := ?_) (a' := ?_) (fT 7 32) rfl rfl (by kernel_rfl) (fun _ _ _ h => h) (Or.inl ⟨by rfl, ?_⟩) ?_ ?_
 rotate_left
 ·intro w'; go_simp; with_reducible rfl
 rotate_left
 ·simp only [Act.put, sq1, sq2, sq3, i64_w, i32_w]; rfl
 refine pure_ (i := 7) (N := some 22) (v := ?_) (a' := ?_) (fT 8 32) rfl rfl (by kernel_rfl) (fun _ _ _ h => h) (Or.inl ⟨by rfl, ?_⟩) ?_ ?_
 rotate_left
 ·intro w'; go_simp; with_reducible rfl
 rotate_left
 ·simp only [Act.put, sq1, sq2, sq3, i64_w, i32_w]; rfl
 refine pure_ (i := 8) (N := some 23) (v := ?_) (a' := ?_) (fT 9 32) rfl rfl (by kernel_rfl) (fun _ _ _ h => h) (Or.inl ⟨by rfl, ?_⟩) ?_ ?_
 rotate_left
 ·intro w'; go_simp; with_reducible rfl
 rotate_left
 ·simp only [Act.put, sq1, sq2, sq3, i64_w, i32_w]; rfl
 refine pure_ (i := 9) (N := some 24) (v := ?_) (a' := ?_) (fT 10 32) rfl rfl (by kernel_rfl) (fun _ _ _ h => h) (Or.inl ⟨by rfl, ?_⟩) ?_ ?_
 rotate_left
 ·intro w'; go_simp; with_reducible rfl
 rotate_left
 ·simp only [Act.put, sq1, sq2, sq3, i64_w, i32_w]; rfl
 refine pure_ (i := 10) (N := some 25) (v := ?_) (a' := ?_) (fT 11 32) rfl rfl (by kernel_rfl) (fun _ _ _ h => h) (Or.inl ⟨by rfl, ?_⟩) ?_ ?_
 rotate_left
 ·intro w'; go_simp; with_reducible rfl
 rotate_left
 ·simp only [Act.put, sq1, sq2, sq3, i64_w, i32_w]; rfl
 refine take_ (i := 11) (N := some 26) (v := ?_) (a' := ?_) (fT 12 32) rfl rfl (by kernel_rfl) (fun _ _ _ h => h) (Or.inl ⟨by rfl, ?_⟩) hHeld ?_ ?_
 rotate_left
 ·rintro w' ⟨s0, s1, s2⟩; go_simp; with_reducible rfl
 rotate_left
 ·simp only [Act.put, sq1, sq2, sq3, i64_w, i32_w]; rfl
 refine one_ (i := 12) (N := some 27) (fT 13 32) rfl rfl (by kernel_rfl) (by decide) (fun K hK => ?_)
 refine goesV_ Tryd.func78 (by kernel_rfl) rfl #[.slice A1 sig.length c1] (by rfl) rfl rfl rfl (by (try simp only [List.map_toArray, List.map_cons, List.map_nil]); first | done | rfl) ?_
 refine (odd_any A1 c1 sig _ (HG.out.below HB.out) (Kd.C_below HR1.out HB.out) hc1).mono ?_
 rintro e w8 ⟨he, hb⟩
 rw [HD1.out] at he
 subst he
 refine ⟨_, rfl, ?_⟩
 have BK1 := Lib.hid (blk_below BK.out hb)
 have HB1 := Lib.hid (below_step HB.out hb)
 clear BK HB hb; have BK := BK1; have HB := HB1; clear BK1 HB1
 refine hK.out _ _ ⟨(blk_cell BK.out 0).trans rfl, (blk_cell BK.out 1).trans rfl, (blk_cell BK.out 2).trans rfl⟩ (fun hHeld => ?_)
 clear hK K
 refine norm_ (a' := ?_) ?_ ?_
 rotate_left
 ·show Act.put _ (some 27) _ = _
  simp only [Act.put, sq1, sq2, sq3, i64_w, i32_w]; rfl
 refine pure_ (i := 13) (N := some 28) (v := ?_) (a' := ?_) (fT 14 32) rfl rfl (by kernel_rfl) (fun _ _ _ h => h) (Or.inl ⟨by rfl, ?_⟩) ?_ ?_
 rotate_left
 ·intro w'; go_simp; with_reducible rfl
 rotate_left
 ·simp only [Act.put, sq1, sq2, sq3, i64_w, i32_w]; rfl
 refine pure_ (i := 14) (N := some 29) (v := ?_) (a' := ?_) (fT 15 32) rfl rfl (by kernel_rfl) (fun _ _ _ h => h) (Or.inl ⟨by rfl, ?_⟩) ?_ ?_
 rotate_left
 ·intro w'; go_simp; with_reducible rfl
 rotate_left
 ·simp only [Act.put, sq1, sq2, sq3, i64_w, i32_w]; rfl
 refine pure_ (i := 15) (N := some 30) (v := undef) (a' := ?_) (fT 16 32) rfl rfl (by kernel_rfl) (fun _ _ _ h => h) (Or.inr ⟨by rfl, by rfl⟩) ?_ ?_
 rotate_left
 ·simp only [Act.put, sq1, sq2, sq3, i64_w, i32_w]; rfl
 refine pure_ (i := 16) (N := some 31) (v := undef) (a' := ?_) (fT 17 32) rfl rfl (by kernel_rfl) (fun _ _ _ h => h) (Or.inr ⟨by rfl, by rfl⟩) ?_ ?_
 rotate_left
 ·simp only [Act.put, sq1, sq2, sq3, i64_w, i32_w]; rfl
 refine pure_ (i := 17) (N := some 32) (v := undef) (a' := ?_) (fT 18 32) rfl rfl (by kernel_rfl) (fun _ _ _ h => h) (Or.inr ⟨by rfl, by rfl⟩) ?_ ?_
 rotate_left
 ·simp only [Act.put, sq1, sq2, sq3, i64_w, i32_w]; rfl
 refine pure_ (i := 18) (N := some 33) (v := undef) (a' := ?_) (fT 19 32) rfl rfl (by kernel_rfl) (fun _ _ _ h => h) (Or.inr ⟨by rfl, by rfl⟩) ?_ ?_
 rotate_left
 ·simp only [Act.put, sq1, sq2, sq3, i64_w, i32_w]; rfl
 refine pure_ (i := 19) (N := some 34) (v := ?_) (a' := ?_) (fT 20 32) rfl rfl (by kernel_rfl) (fun _ _ _ h => h) (Or.inl ⟨by rfl, ?_⟩) ?_ ?_
 rotate_left
 ·intro w'; go_simp; with_reducible rfl
 rotate_left
 ·simp only [Act.put, sq1, sq2, sq3, i64_w, i32_w]; rfl
 refine pure_ (i := 20) (N := some 35) (v := ?_) (a' := ?_) (fT 21 32) rfl rfl (by kernel_rfl) (fun _ _ _ h => h) (Or.inl ⟨by rfl, ?_⟩) ?_ ?_
 rotate_left
 ·intro w'; go_simp; with_reducible rfl
 rotate_left
 ·simp only [Act.put, sq1, sq2, sq3, i64_w, i32_w]; rfl
 refine pure_ (i := 21) (N := some 36) (v := undef) (a' := ?_) (fT 22 32) rfl rfl (by kernel_rfl) (fun _ _ _ h => h) (Or.inr ⟨by rfl, by rfl⟩) ?_ ?_
 rotate_left
 ·simp only [Act.put, sq1, sq2, sq3, i64_w, i32_w]; rfl
 refine pure_ (i := 22) (N := some 37) (v := undef) (a' := ?_) (fT 23 32) rfl rfl (by kernel_rfl) (fun _ _ _ h => h) (Or.inr ⟨by rfl, by rfl⟩) ?_ ?_
 rotate_left
 ·simp only [Act.put, sq1, sq2, sq3, i64_w, i32_w]; rfl
 refine pure_ (i := 23) (N := some 38) (v := undef) (a' := ?_) (fT 24 32) rfl rfl (by kernel_rfl) (fun _ _ _ h => h) (Or.inr ⟨by rfl, by rfl⟩) ?_ ?_
 rotate_left
 ·simp only [Act.put, sq1, sq2, sq3, i64_w, i32_w]; rfl
 refine pure_ (i := 24) (N := some 39) (v := ?_) (a' := ?_) (fT 25 32) rfl rfl (by kernel_rfl) (fun _ _ _ h => h) (Or.inl ⟨by rfl, ?_⟩) ?_ ?_
 rotate_left
 ·intro w'; go_simp; with_reducible rfl
 rotate_left
 ·simp only [Act.put, sq1, sq2, sq3, i64_w, i32_w]; rfl
 refine pure_ (i := 25) (N := some 40) (v := ?_) (a' := ?_) (fT 26 32) rfl rfl (by kernel_rfl) (fun _ _ _ h => h) (Or.inl ⟨by rfl, ?_⟩) ?_ ?_
 rotate_left
 ·intro w'; go_simp; with_reducible rfl
 rotate_left
 ·simp only [Act.put, sq1, sq2, sq3, i64_w, i32_w]; rfl
 refine pure_ (i := 26) (N := some 41) (v := undef) (a' := ?_) (fT 27 32) rfl rfl (by kernel_rfl) (fun _ _ _ h => h) (Or.inr ⟨by rfl, by rfl⟩) ?_ ?_
 rotate_left
 ·simp only [Act.put, sq1, sq2, sq3, i64_w, i32_w]; rfl
 refine pure_ (i := 27) (N := some 42) (v := undef) (a' := ?_) (fT 28 32) rfl rfl (by kernel_rfl) (fun _ _ _ h => h) (Or.inr ⟨by rfl, by rfl⟩) ?_ ?_
 rotate_left
 ·simp only [Act.put, sq1, sq2, sq3, i64_w, i32_w]; rfl
 refine pure_ (i := 28) (N := some 43) (v := undef) (a' := ?_) (fT 29 32) rfl rfl (by kernel_rfl) (fun _ _ _ h => h) (Or.inr ⟨by rfl, by rfl⟩) ?_ ?_
 rotate_left
 ·simp only [Act.put, sq1, sq2, sq3, i64_w, i32_w]; rfl
 refine pure_ (i := 29) (N := some 44) (v := undef) (a' := ?_) (fT 30 32) rfl rfl (by kernel_rfl) (fun _ _ _ h => h) (Or.inr ⟨by rfl, by rfl⟩) ?_ ?_
 rotate_left
 ·simp only [Act.put, sq1, sq2, sq3, i64_w, i32_w]; rfl
 refine pure_ (i := 30) (N := some 45) (v := undef) (a' := ?_) (fT 31 32) rfl rfl (by kernel_rfl) (fun _ _ _ h => h) (Or.inr ⟨by rfl, by rfl⟩) ?_ ?_
 rotate_left
 ·simp only [Act.put, sq1, sq2, sq3, i64_w, i32_w]; rfl
 refine pure_ (i := 31) (N := some 46) (v := ?_) (a' := ?_) (fT 32 32) rfl rfl (by kernel_rfl) (fun _ _ _ h => h) (Or.inl ⟨by rfl, ?_⟩) ?_ ?_
 rotate_left
 ·intro w'; go_simp; with_reducible rfl
 rotate_left
 ·simp only [Act.put, sq1, sq2, sq3, i64_w, i32_w]; rfl
 refine done_ (by kernel_rfl) (only_of ?_)
 go_wp2
 exact postM_ret (results_tmp rfl _ _ _) rfl ⟨rfl, HB.out⟩
set_option maxRecDepth 100000 in
set_option maxHeartbeats 8000000 in
theorem verify_no3 (pub message : ByteArray) (i : Int) (A1 A2 : Option Addr) (c1 c2 : Nat) (sig path : List ByteArray) (w : World) (hG : GL w)
    (hr1 : Kd.C Kd.string w A1 sig.length sig) (hc1 : sig.length ≤ c1) (hr2 : Kd.C Kd.string w A2 path.length path) (hc2 : path.length ≤ c2) (e18 : ((sig.length : Nat) : Int) = 18) (d1 : decide ((path.length : Int) > 8) = false) (hd1 : (!sig.all Pl.isDig) = false) (hd2 : (!path.all Pl.isDig) = true) :
    Calls Tryd.prog 46 #[.string pub, .string message, .agg #[.int .i64 i, .slice A1 sig.length c1, .slice A2 path.length c2]] w fun e w' => e = .returned (.bool false) ∧ Below w.heap.size w w' := by
 refine calls_of_wp_marks Tryd.func46 rfl ?_
 simp only [Tryd.ntmps46, List.size_toArray, List.length_cons, List.length_nil, Nat.reduceAdd, Nat.reduceSub, Array.replicate_succ, Array.replicate_zero, List.push_toArray, List.append_toArray, List.nil_append, List.cons_append]
 have HG := Lib.hid hG
 have HR1 := Lib.hid hr1
 have HR2 := Lib.hid hr2
 clear hG hr1 hr2
 have HD1 := Lib.hid hd1
 clear hd1
 have HD2 := Lib.hid hd2
 clear hd2
 go_wp2_with fail
 have BK := Lib.hid (blk_new w (.cells #[.int .i64 i, .slice A1 sig.length c1, .slice A2 path.length c2] 53 (0, 0)))
 have HB := Lib.hid (below_alloc (Below.refl w.heap.size w) (.cells #[.int .i64 i, .slice A1 sig.length c1, .slice A2 path.length c2] 53 (0, 0)))
 generalize w.alloc (.cells #[.int .i64 i, .slice A1 sig.length c1, .slice A2 path.length c2] 53) = w1 at BK HB ⊢
 refine wp_only ?_
 refine start_ (n := 32) (S := fun w' => w'.cell? ⟨w.heap.size, 0, none⟩ = some (.int .i64 i) ∧ w'.cell? ⟨w.heap.size, 1, none⟩ = some (.slice A1 sig.length c1) ∧ w'.cell? ⟨w.heap.size, 2, none⟩ = some (.slice A2 path.length c2)) (ds := [])
  (fT 0 32) (by kernel_rfl) rfl rfl ⟨(blk_cell BK.out 0).trans rfl, (blk_cell BK.out 1).trans rfl, (blk_cell BK.out 2).trans rfl⟩ (fun hHeld => ?_)
 have BK1 := Lib.hid (blk_drew BK.out)
 have HB1 := Lib.hid (below_drew1 HB.out)
 clear BK HB; have BK := BK1; have HB := HB1; clear BK1 HB1
 generalize hWd : w1.drew = w2 at BK HB hHeld ⊢
 clear hWd
 refine pure_ (i := 0) (N := some 15) (v := ?_) (a' := ?_) (fT 1 32) rfl rfl (by kernel_rfl) (fun _ _ _ h => h) (Or.inl ⟨by rfl, ?_⟩) ?_ ?_
 rotate_left
 ·intro w'; go_simp; with_reducible rfl
 rotate_left
 ·simp only [Act.put, sq1, sq2, sq3, i64_w, i32_w]; rfl
 refine take_ (i := 1) (N := some 16) (v := ?_) (a' := ?_) (fT 2 32) rfl rfl (by kernel_rfl) (fun _ _ _ h => h) (Or.inl ⟨by rfl, ?_⟩) hHeld ?_ ?_
 rotate_left
 ·rintro w' ⟨s0, s1, s2⟩; go_simp; with_reducible rfl
 rotate_left
 ·simp only [Act.put, sq1, sq2, sq3, i64_w, i32_w]; rfl
 refine pure_ (i := 2) (N := some 17) (v := ?_) (a' := ?_) (fT 3 32) rfl rfl (by kernel_rfl) (fun _ _ _ h => h) (Or.inl ⟨by rfl, ?_⟩) ?_ ?_
 rotate_left
 ·intro w'; go_simp; with_reducible rfl
 rotate_left
 ·simp only [Act.put, sq1, sq2, sq3, i64_w, i32_w]; rfl
 refine pure_ (i := 3) (N := some 18) (v := ?_) (a' := ?_) (fT 4 32) rfl rfl (by kernel_rfl) (fun _ _ _ h => h) (Or.inl ⟨by rfl, ?_⟩) ?_ ?_
 rotate_left
 ·intro w'; go_simp; with_reducible rfl
 rotate_left
 ·simp only [Act.put, sq1, sq2, sq3, i64_w, i32_w]; rfl
 refine pure_ (i := 4) (N := some 19) (v := ?_) (a' := ?_) (fT 5 32) rfl rfl (by kernel_rfl) (fun _ _ _ h => h) (Or.inl ⟨by rfl, ?_⟩) ?_ ?_
 rotate_left
 ·intro w'; go_simp; with_reducible rfl
 rotate_left
 ·simp only [Act.put, sq1, sq2, sq3, i64_w, i32_w]; rfl
 refine pure_ (i := 5) (N := some 20) (v := ?_) (a' := ?_) (fT 6 32) rfl rfl (by kernel_rfl) (fun _ _ _ h => h) (Or.inl ⟨by rfl, ?_⟩) ?_ ?_
 rotate_left
 ·intro w'; go_simp; with_reducible rfl
 rotate_left
 ·simp only [Act.put, sq1, sq2, sq3, i64_w, i32_w]; rfl
 refine pure_ (i := 6) (N := some 21) (v := ?_) (a' := ?_) (fT 7 32) rfl rfl (by kernel_rfl) (fun _ _ _ h => h) (Or.inl ⟨by rfl, ?_⟩) ?_ ?_
 rotate_left
 ·intro w'; go_simp; with_reducible rfl
 rotate_left
 ·simp only [Act.put, sq1, sq2, sq3, i64_w, i32_w]; rfl
 refine pure_ (i := 7) (N := some 22) (v := ?_) (a' := ?_) (fT 8 32) rfl rfl (by kernel_rfl) (fun _ _ _ h => h) (Or.inl ⟨by rfl, ?_⟩) ?_ ?_
 rotate_left
 ·intro w'; go_simp; with_reducible rfl
 rotate_left
 ·simp only [Act.put, sq1, sq2, sq3, i64_w, i32_w]; rfl
 refine pure_ (i := 8) (N := some 23) (v := ?_) (a' := ?_) (fT 9 32) rfl rfl (by kernel_rfl) (fun _ _ _ h => h) (Or.inl ⟨by rfl, ?_⟩) ?_ ?_
 rotate_left
 ·intro w'; go_simp; with_reducible rfl
 rotate_left
 ·simp only [Act.put, sq1, sq2, sq3, i64_w, i32_w]; rfl
 refine pure_ (i := 9) (N := some 24) (v := ?_) (a' := ?_) (fT 10 32) rfl rfl (by kernel_rfl) (fun _ _ _ h => h) (Or.inl ⟨by rfl, ?_⟩) ?_ ?_
 rotate_left
 ·intro w'; go_simp; with_reducible rfl
 rotate_left
 ·simp only [Act.put, sq1, sq2, sq3, i64_w, i32_w]; rfl
 refine pure_ (i := 10) (N := some 25) (v := ?_) (a' := ?_) (fT 11 32) rfl rfl (by kernel_rfl) (fun _ _ _ h => h) (Or.inl ⟨by rfl, ?_⟩) ?_ ?_
 rotate_left
 ·intro w'; go_simp; with_reducible rfl
 rotate_left
 ·simp only [Act.put, sq1, sq2, sq3, i64_w, i32_w]; rfl
 refine take_ (i := 11) (N := some 26) (v := ?_) (a' := ?_) (fT 12 32) rfl rfl (by kernel_rfl) (fun _ _ _ h => h) (Or.inl ⟨by rfl, ?_⟩) hHeld ?_ ?_
 rotate_left
 ·rintro w' ⟨s0, s1, s2⟩; go_simp; with_reducible rfl
 rotate_left
 ·simp only [Act.put, sq1, sq2, sq3, i64_w, i32_w]; rfl
 refine one_ (i := 12) (N := some 27) (fT 13 32) rfl rfl (by kernel_rfl) (by decide) (fun K hK => ?_)
 refine goesV_ Tryd.func78 (by kernel_rfl) rfl #[.slice A1 sig.length c1] (by rfl) rfl rfl rfl (by (try simp only [List.map_toArray, List.map_cons, List.map_nil]); first | done | rfl) ?_
 refine (odd_any A1 c1 sig _ (HG.out.below HB.out) (Kd.C_below HR1.out HB.out) hc1).mono ?_
 rintro e w8 ⟨he, hb⟩
 rw [HD1.out] at he
 subst he
 refine ⟨_, rfl, ?_⟩
 have BK1 := Lib.hid (blk_below BK.out hb)
 have HB1 := Lib.hid (below_step HB.out hb)
 clear BK HB hb; have BK := BK1; have HB := HB1; clear BK1 HB1
 refine hK.out _ _ ⟨(blk_cell BK.out 0).trans rfl, (blk_cell BK.out 1).trans rfl, (blk_cell BK.out 2).trans rfl⟩ (fun hHeld => ?_)
 clear hK K
 refine norm_ (a' := ?_) ?_ ?_
 rotate_left
 ·show Act.put _ (some 27) _ = _
  simp only [Act.put, sq1, sq2, sq3, i64_w, i32_w]; rfl
 refine pure_ (i := 13) (N := some 28) (v := ?_) (a' := ?_) (fT 14 32) rfl rfl (by kernel_rfl) (fun _ _ _ h => h) (Or.inl ⟨by rfl, ?_⟩) ?_ ?_
 rotate_left
 ·intro w'; go_simp; with_reducible rfl
 rotate_left
 ·simp only [Act.put, sq1, sq2, sq3, i64_w, i32_w]; rfl
 refine pure_ (i := 14) (N := some 29) (v := ?_) (a' := ?_) (fT 15 32) rfl rfl (by kernel_rfl) (fun _ _ _ h => h) (Or.inl ⟨by rfl, ?_⟩) ?_ ?_
 rotate_left
 ·intro w'; go_simp; with_reducible rfl
 rotate_left
 ·simp only [Act.put, sq1, sq2, sq3, i64_w, i32_w]; rfl
 refine pure_ (i := 15) (N := some 30) (v := ?_) (a' := ?_) (fT 16 32) rfl rfl (by kernel_rfl) (fun _ _ _ h => h) (Or.inl ⟨by rfl, ?_⟩) ?_ ?_
 rotate_left
 ·intro w'; go_simp; with_reducible rfl
 rotate_left
 ·simp only [Act.put, sq1, sq2, sq3, i64_w, i32_w]; rfl
 refine pure_ (i := 16) (N := some 31) (v := ?_) (a' := ?_) (fT 17 32) rfl rfl (by kernel_rfl) (fun _ _ _ h => h) (Or.inl ⟨by rfl, ?_⟩) ?_ ?_
 rotate_left
 ·intro w'; go_simp; with_reducible rfl
 rotate_left
 ·simp only [Act.put, sq1, sq2, sq3, i64_w, i32_w]; rfl
 refine take_ (i := 17) (N := some 32) (v := ?_) (a' := ?_) (fT 18 32) rfl rfl (by kernel_rfl) (fun _ _ _ h => h) (Or.inl ⟨by rfl, ?_⟩) hHeld ?_ ?_
 rotate_left
 ·rintro w' ⟨s0, s1, s2⟩; go_simp; with_reducible rfl
 rotate_left
 ·simp only [Act.put, sq1, sq2, sq3, i64_w, i32_w]; rfl
 refine one_ (i := 18) (N := some 33) (fT 19 32) rfl rfl (by kernel_rfl) (by decide) (fun K hK => ?_)
 refine goesV_ Tryd.func78 (by kernel_rfl) rfl #[.slice A2 path.length c2] (by rfl) rfl rfl rfl (by (try simp only [List.map_toArray, List.map_cons, List.map_nil]); first | done | rfl) ?_
 refine (odd_any A2 c2 path _ (HG.out.below HB.out) (Kd.C_below HR2.out HB.out) hc2).mono ?_
 rintro e w8 ⟨he, hb⟩
 rw [HD2.out] at he
 subst he
 refine ⟨_, rfl, ?_⟩
 have BK1 := Lib.hid (blk_below BK.out hb)
 have HB1 := Lib.hid (below_step HB.out hb)
 clear BK HB hb; have BK := BK1; have HB := HB1; clear BK1 HB1
 refine hK.out _ _ ⟨(blk_cell BK.out 0).trans rfl, (blk_cell BK.out 1).trans rfl, (blk_cell BK.out 2).trans rfl⟩ (fun hHeld => ?_)
 clear hK K
 refine norm_ (a' := ?_) ?_ ?_
 rotate_left
 ·show Act.put _ (some 33) _ = _
  simp only [Act.put, sq1, sq2, sq3, i64_w, i32_w]; rfl
 refine pure_ (i := 19) (N := some 34) (v := ?_) (a' := ?_) (fT 20 32) rfl rfl (by kernel_rfl) (fun _ _ _ h => h) (Or.inl ⟨by rfl, ?_⟩) ?_ ?_
 rotate_left
 ·intro w'; go_simp; with_reducible rfl
 rotate_left
 ·simp only [Act.put, sq1, sq2, sq3, i64_w, i32_w]; rfl
 refine pure_ (i := 20) (N := some 35) (v := ?_) (a' := ?_) (fT 21 32) rfl rfl (by kernel_rfl) (fun _ _ _ h => h) (Or.inl ⟨by rfl, ?_⟩) ?_ ?_
 rotate_left
 ·intro w'; go_simp; with_reducible rfl
 rotate_left
 ·simp only [Act.put, sq1, sq2, sq3, i64_w, i32_w]; rfl
 refine pure_ (i := 21) (N := some 36) (v := undef) (a' := ?_) (fT 22 32) rfl rfl (by kernel_rfl) (fun _ _ _ h => h) (Or.inr ⟨by rfl, by rfl⟩) ?_ ?_
 rotate_left
 ·simp only [Act.put, sq1, sq2, sq3, i64_w, i32_w]; rfl
 refine pure_ (i := 22) (N := some 37) (v := undef) (a' := ?_) (fT 23 32) rfl rfl (by kernel_rfl) (fun _ _ _ h => h) (Or.inr ⟨by rfl, by rfl⟩) ?_ ?_
 rotate_left
 ·simp only [Act.put, sq1, sq2, sq3, i64_w, i32_w]; rfl
 refine pure_ (i := 23) (N := some 38) (v := undef) (a' := ?_) (fT 24 32) rfl rfl (by kernel_rfl) (fun _ _ _ h => h) (Or.inr ⟨by rfl, by rfl⟩) ?_ ?_
 rotate_left
 ·simp only [Act.put, sq1, sq2, sq3, i64_w, i32_w]; rfl
 refine pure_ (i := 24) (N := some 39) (v := ?_) (a' := ?_) (fT 25 32) rfl rfl (by kernel_rfl) (fun _ _ _ h => h) (Or.inl ⟨by rfl, ?_⟩) ?_ ?_
 rotate_left
 ·intro w'; go_simp; with_reducible rfl
 rotate_left
 ·simp only [Act.put, sq1, sq2, sq3, i64_w, i32_w]; rfl
 refine pure_ (i := 25) (N := some 40) (v := ?_) (a' := ?_) (fT 26 32) rfl rfl (by kernel_rfl) (fun _ _ _ h => h) (Or.inl ⟨by rfl, ?_⟩) ?_ ?_
 rotate_left
 ·intro w'; go_simp; with_reducible rfl
 rotate_left
 ·simp only [Act.put, sq1, sq2, sq3, i64_w, i32_w]; rfl
 refine pure_ (i := 26) (N := some 41) (v := undef) (a' := ?_) (fT 27 32) rfl rfl (by kernel_rfl) (fun _ _ _ h => h) (Or.inr ⟨by rfl, by rfl⟩) ?_ ?_
 rotate_left
 ·simp only [Act.put, sq1, sq2, sq3, i64_w, i32_w]; rfl
 refine pure_ (i := 27) (N := some 42) (v := undef) (a' := ?_) (fT 28 32) rfl rfl (by kernel_rfl) (fun _ _ _ h => h) (Or.inr ⟨by rfl, by rfl⟩) ?_ ?_
 rotate_left
 ·simp only [Act.put, sq1, sq2, sq3, i64_w, i32_w]; rfl
 refine pure_ (i := 28) (N := some 43) (v := undef) (a' := ?_) (fT 29 32) rfl rfl (by kernel_rfl) (fun _ _ _ h => h) (Or.inr ⟨by rfl, by rfl⟩) ?_ ?_
 rotate_left
 ·simp only [Act.put, sq1, sq2, sq3, i64_w, i32_w]; rfl
 refine pure_ (i := 29) (N := some 44) (v := undef) (a' := ?_) (fT 30 32) rfl rfl (by kernel_rfl) (fun _ _ _ h => h) (Or.inr ⟨by rfl, by rfl⟩) ?_ ?_
 rotate_left
 ·simp only [Act.put, sq1, sq2, sq3, i64_w, i32_w]; rfl
 refine pure_ (i := 30) (N := some 45) (v := undef) (a' := ?_) (fT 31 32) rfl rfl (by kernel_rfl) (fun _ _ _ h => h) (Or.inr ⟨by rfl, by rfl⟩) ?_ ?_
 rotate_left
 ·simp only [Act.put, sq1, sq2, sq3, i64_w, i32_w]; rfl
 refine pure_ (i := 31) (N := some 46) (v := ?_) (a' := ?_) (fT 32 32) rfl rfl (by kernel_rfl) (fun _ _ _ h => h) (Or.inl ⟨by rfl, ?_⟩) ?_ ?_
 rotate_left
 ·intro w'; go_simp; with_reducible rfl
 rotate_left
 ·simp only [Act.put, sq1, sq2, sq3, i64_w, i32_w]; rfl
 refine done_ (by kernel_rfl) (only_of ?_)
 go_wp2
 exact postM_ret (results_tmp rfl _ _ _) rfl ⟨rfl, HB.out⟩
set_option maxRecDepth 100000 in
set_option maxHeartbeats 8000000 in
theorem verify_no4 (pub message : ByteArray) (i : Int) (A1 A2 : Option Addr) (c1 c2 : Nat) (sig path : List ByteArray) (w : World) (hG : GL w)
    (hr1 : Kd.C Kd.string w A1 sig.length sig) (hc1 : sig.length ≤ c1) (hr2 : Kd.C Kd.string w A2 path.length path) (hc2 : path.length ≤ c2) (e18 : ((sig.length : Nat) : Int) = 18) (d1 : decide ((path.length : Int) > 8) = false) (hd1 : (!sig.all Pl.isDig) = false) (hd2 : (!path.all Pl.isDig) = false) (d2 : decide (i < 0) = true) :
    Calls Tryd.prog 46 #[.string pub, .string message, .agg #[.int .i64 i, .slice A1 sig.length c1, .slice A2 path.length c2]] w fun e w' => e = .returned (.bool false) ∧ Below w.heap.size w w' := by
 refine calls_of_wp_marks Tryd.func46 rfl ?_
 simp only [Tryd.ntmps46, List.size_toArray, List.length_cons, List.length_nil, Nat.reduceAdd, Nat.reduceSub, Array.replicate_succ, Array.replicate_zero, List.push_toArray, List.append_toArray, List.nil_append, List.cons_append]
 have HG := Lib.hid hG
 have HR1 := Lib.hid hr1
 have HR2 := Lib.hid hr2
 clear hG hr1 hr2
 have HD1 := Lib.hid hd1
 clear hd1
 have HD2 := Lib.hid hd2
 clear hd2
 go_wp2_with fail
 have BK := Lib.hid (blk_new w (.cells #[.int .i64 i, .slice A1 sig.length c1, .slice A2 path.length c2] 53 (0, 0)))
 have HB := Lib.hid (below_alloc (Below.refl w.heap.size w) (.cells #[.int .i64 i, .slice A1 sig.length c1, .slice A2 path.length c2] 53 (0, 0)))
 generalize w.alloc (.cells #[.int .i64 i, .slice A1 sig.length c1, .slice A2 path.length c2] 53) = w1 at BK HB ⊢
 refine wp_only ?_
 refine start_ (n := 32) (S := fun w' => w'.cell? ⟨w.heap.size, 0, none⟩ = some (.int .i64 i) ∧ w'.cell? ⟨w.heap.size, 1, none⟩ = some (.slice A1 sig.length c1) ∧ w'.cell? ⟨w.heap.size, 2, none⟩ = some (.slice A2 path.length c2)) (ds := [])
  (fT 0 32) (by kernel_rfl) rfl rfl ⟨(blk_cell BK.out 0).trans rfl, (blk_cell BK.out 1).trans rfl, (blk_cell BK.out 2).trans rfl⟩ (fun hHeld => ?_)
 have BK1 := Lib.hid (blk_drew BK.out)
 have HB1 := Lib.hid (below_drew1 HB.out)
 clear BK HB; have BK := BK1; have HB := HB1; clear BK1 HB1
 generalize hWd : w1.drew = w2 at BK HB hHeld ⊢
 clear hWd
 refine pure_ (i := 0) (N := some 15) (v := ?_) (a' := ?_) (fT 1 32) rfl rfl (by kernel_rfl) (fun _ _ _ h => h) (Or.inl ⟨by rfl, ?_⟩) ?_ ?_
 rotate_left
 ·intro w'; go_simp; with_reducible rfl
 rotate_left
 ·simp only [Act.put, sq1, sq2, sq3, i64_w, i32_w]; rfl
 refine take_ (i := 1) (N := some 16) (v := ?_) (a' := ?_) (fT 2 32) rfl rfl (by kernel_rfl) (fun _ _ _ h => h) (Or.inl ⟨by rfl, ?_⟩) hHeld ?_ ?_
 rotate_left
 ·rintro w' ⟨s0, s1, s2⟩; go_simp; with_reducible rfl
 rotate_left
 ·simp only [Act.put, sq1, sq2, sq3, i64_w, i32_w]; rfl
 refine pure_ (i := 2) (N := some 17) (v := ?_) (a' := ?_) (fT 3 32) rfl rfl (by kernel_rfl) (fun _ _ _ h => h) (Or.inl ⟨by rfl, ?_⟩) ?_ ?_
 rotate_left
 ·intro w'; go_simp; with_reducible rfl
 rotate_left
 ·simp only [Act.put, sq1, sq2, sq3, i64_w, i32_w]; rfl
 refine pure_ (i := 3) (N := some 18) (v := ?_) (a' := ?_) (fT 4 32) rfl rfl (by kernel_rfl) (fun _ _ _ h => h) (Or.inl ⟨by rfl, ?_⟩) ?_ ?_
 rotate_left
 ·intro w'; go_simp; with_reducible rfl
 rotate_left
 ·simp only [Act.put, sq1, sq2, sq3, i64_w, i32_w]; rfl
 refine pure_ (i := 4) (N := some 19) (v := ?_) (a' := ?_) (fT 5 32) rfl rfl (by kernel_rfl) (fun _ _ _ h => h) (Or.inl ⟨by rfl, ?_⟩) ?_ ?_
 rotate_left
 ·intro w'; go_simp; with_reducible rfl
 rotate_left
 ·simp only [Act.put, sq1, sq2, sq3, i64_w, i32_w]; rfl
 refine pure_ (i := 5) (N := some 20) (v := ?_) (a' := ?_) (fT 6 32) rfl rfl (by kernel_rfl) (fun _ _ _ h => h) (Or.inl ⟨by rfl, ?_⟩) ?_ ?_
 rotate_left
 ·intro w'; go_simp; with_reducible rfl
 rotate_left
 ·simp only [Act.put, sq1, sq2, sq3, i64_w, i32_w]; rfl
 refine pure_ (i := 6) (N := some 21) (v := ?_) (a' := ?_) (fT 7 32) rfl rfl (by kernel_rfl) (fun _ _ _ h => h) (Or.inl ⟨by rfl, ?_⟩) ?_ ?_
 rotate_left
 ·intro w'; go_simp; with_reducible rfl
 rotate_left
 ·simp only [Act.put, sq1, sq2, sq3, i64_w, i32_w]; rfl
 refine pure_ (i := 7) (N := some 22) (v := ?_) (a' := ?_) (fT 8 32) rfl rfl (by kernel_rfl) (fun _ _ _ h => h) (Or.inl ⟨by rfl, ?_⟩) ?_ ?_
 rotate_left
 ·intro w'; go_simp; with_reducible rfl
 rotate_left
 ·simp only [Act.put, sq1, sq2, sq3, i64_w, i32_w]; rfl
 refine pure_ (i := 8) (N := some 23) (v := ?_) (a' := ?_) (fT 9 32) rfl rfl (by kernel_rfl) (fun _ _ _ h => h) (Or.inl ⟨by rfl, ?_⟩) ?_ ?_
 rotate_left
 ·intro w'; go_simp; with_reducible rfl
 rotate_left
 ·simp only [Act.put, sq1, sq2, sq3, i64_w, i32_w]; rfl
 refine pure_ (i := 9) (N := some 24) (v := ?_) (a' := ?_) (fT 10 32) rfl rfl (by kernel_rfl) (fun _ _ _ h => h) (Or.inl ⟨by rfl, ?_⟩) ?_ ?_
 rotate_left
 ·intro w'; go_simp; with_reducible rfl
 rotate_left
 ·simp only [Act.put, sq1, sq2, sq3, i64_w, i32_w]; rfl
 refine pure_ (i := 10) (N := some 25) (v := ?_) (a' := ?_) (fT 11 32) rfl rfl (by kernel_rfl) (fun _ _ _ h => h) (Or.inl ⟨by rfl, ?_⟩) ?_ ?_
 rotate_left
 ·intro w'; go_simp; with_reducible rfl
 rotate_left
 ·simp only [Act.put, sq1, sq2, sq3, i64_w, i32_w]; rfl
 refine take_ (i := 11) (N := some 26) (v := ?_) (a' := ?_) (fT 12 32) rfl rfl (by kernel_rfl) (fun _ _ _ h => h) (Or.inl ⟨by rfl, ?_⟩) hHeld ?_ ?_
 rotate_left
 ·rintro w' ⟨s0, s1, s2⟩; go_simp; with_reducible rfl
 rotate_left
 ·simp only [Act.put, sq1, sq2, sq3, i64_w, i32_w]; rfl
 refine one_ (i := 12) (N := some 27) (fT 13 32) rfl rfl (by kernel_rfl) (by decide) (fun K hK => ?_)
 refine goesV_ Tryd.func78 (by kernel_rfl) rfl #[.slice A1 sig.length c1] (by rfl) rfl rfl rfl (by (try simp only [List.map_toArray, List.map_cons, List.map_nil]); first | done | rfl) ?_
 refine (odd_any A1 c1 sig _ (HG.out.below HB.out) (Kd.C_below HR1.out HB.out) hc1).mono ?_
 rintro e w8 ⟨he, hb⟩
 rw [HD1.out] at he
 subst he
 refine ⟨_, rfl, ?_⟩
 have BK1 := Lib.hid (blk_below BK.out hb)
 have HB1 := Lib.hid (below_step HB.out hb)
 clear BK HB hb; have BK := BK1; have HB := HB1; clear BK1 HB1
 refine hK.out _ _ ⟨(blk_cell BK.out 0).trans rfl, (blk_cell BK.out 1).trans rfl, (blk_cell BK.out 2).trans rfl⟩ (fun hHeld => ?_)
 clear hK K
 refine norm_ (a' := ?_) ?_ ?_
 rotate_left
 ·show Act.put _ (some 27) _ = _
  simp only [Act.put, sq1, sq2, sq3, i64_w, i32_w]; rfl
 refine pure_ (i := 13) (N := some 28) (v := ?_) (a' := ?_) (fT 14 32) rfl rfl (by kernel_rfl) (fun _ _ _ h => h) (Or.inl ⟨by rfl, ?_⟩) ?_ ?_
 rotate_left
 ·intro w'; go_simp; with_reducible rfl
 rotate_left
 ·simp only [Act.put, sq1, sq2, sq3, i64_w, i32_w]; rfl
 refine pure_ (i := 14) (N := some 29) (v := ?_) (a' := ?_) (fT 15 32) rfl rfl (by kernel_rfl) (fun _ _ _ h => h) (Or.inl ⟨by rfl, ?_⟩) ?_ ?_
 rotate_left
 ·intro w'; go_simp; with_reducible rfl
 rotate_left
 ·simp only [Act.put, sq1, sq2, sq3, i64_w, i32_w]; rfl
 refine pure_ (i := 15) (N := some 30) (v := ?_) (a' := ?_) (fT 16 32) rfl rfl (by kernel_rfl) (fun _ _ _ h => h) (Or.inl ⟨by rfl, ?_⟩) ?_ ?_
 rotate_left
 ·intro w'; go_simp; with_reducible rfl
 rotate_left
 ·simp only [Act.put, sq1, sq2, sq3, i64_w, i32_w]; rfl
 refine pure_ (i := 16) (N := some 31) (v := ?_) (a' := ?_) (fT 17 32) rfl rfl (by kernel_rfl) (fun _ _ _ h => h) (Or.inl ⟨by rfl, ?_⟩) ?_ ?_
 rotate_left
 ·intro w'; go_simp; with_reducible rfl
 rotate_left
 ·simp only [Act.put, sq1, sq2, sq3, i64_w, i32_w]; rfl
 refine take_ (i := 17) (N := some 32) (v := ?_) (a' := ?_) (fT 18 32) rfl rfl (by kernel_rfl) (fun _ _ _ h => h) (Or.inl ⟨by rfl, ?_⟩) hHeld ?_ ?_
 rotate_left
 ·rintro w' ⟨s0, s1, s2⟩; go_simp; with_reducible rfl
 rotate_left
 ·simp only [Act.put, sq1, sq2, sq3, i64_w, i32_w]; rfl
 refine one_ (i := 18) (N := some 33) (fT 19 32) rfl rfl (by kernel_rfl) (by decide) (fun K hK => ?_)
 refine goesV_ Tryd.func78 (by kernel_rfl) rfl #[.slice A2 path.length c2] (by rfl) rfl rfl rfl (by (try simp only [List.map_toArray, List.map_cons, List.map_nil]); first | done | rfl) ?_
 refine (odd_any A2 c2 path _ (HG.out.below HB.out) (Kd.C_below HR2.out HB.out) hc2).mono ?_
 rintro e w8 ⟨he, hb⟩
 rw [HD2.out] at he
 subst he
 refine ⟨_, rfl, ?_⟩
 have BK1 := Lib.hid (blk_below BK.out hb)
 have HB1 := Lib.hid (below_step HB.out hb)
 clear BK HB hb; have BK := BK1; have HB := HB1; clear BK1 HB1
 refine hK.out _ _ ⟨(blk_cell BK.out 0).trans rfl, (blk_cell BK.out 1).trans rfl, (blk_cell BK.out 2).trans rfl⟩ (fun hHeld => ?_)
 clear hK K
 refine norm_ (a' := ?_) ?_ ?_
 rotate_left
 ·show Act.put _ (some 33) _ = _
  simp only [Act.put, sq1, sq2, sq3, i64_w, i32_w]; rfl
 refine pure_ (i := 19) (N := some 34) (v := ?_) (a' := ?_) (fT 20 32) rfl rfl (by kernel_rfl) (fun _ _ _ h => h) (Or.inl ⟨by rfl, ?_⟩) ?_ ?_
 rotate_left
 ·intro w'; go_simp; with_reducible rfl
 rotate_left
 ·simp only [Act.put, sq1, sq2, sq3, i64_w, i32_w]; rfl
 refine pure_ (i := 20) (N := some 35) (v := ?_) (a' := ?_) (fT 21 32) rfl rfl (by kernel_rfl) (fun _ _ _ h => h) (Or.inl ⟨by rfl, ?_⟩) ?_ ?_
 rotate_left
 ·intro w'; go_simp; with_reducible rfl
 rotate_left
 ·simp only [Act.put, sq1, sq2, sq3, i64_w, i32_w]; rfl
 refine pure_ (i := 21) (N := some 36) (v := ?_) (a' := ?_) (fT 22 32) rfl rfl (by kernel_rfl) (fun _ _ _ h => h) (Or.inl ⟨by rfl, ?_⟩) ?_ ?_
 rotate_left
 ·intro w'; go_simp; with_reducible rfl
 rotate_left
 ·simp only [Act.put, sq1, sq2, sq3, i64_w, i32_w]; rfl
 refine take_ (i := 22) (N := some 37) (v := ?_) (a' := ?_) (fT 23 32) rfl rfl (by kernel_rfl) (fun _ _ _ h => h) (Or.inl ⟨by rfl, ?_⟩) hHeld ?_ ?_
 rotate_left
 ·rintro w' ⟨s0, s1, s2⟩; go_simp; with_reducible rfl
 rotate_left
 ·simp only [Act.put, sq1, sq2, sq3, i64_w, i32_w]; rfl
 refine pure_ (i := 23) (N := some 38) (v := ?_) (a' := ?_) (fT 24 32) rfl rfl (by kernel_rfl) (fun _ _ _ h => h) (Or.inl ⟨by rfl, ?_⟩) ?_ ?_
 rotate_left
 ·intro w'; go_simp; with_reducible rfl
 rotate_left
 ·simp only [Act.put, sq1, sq2, sq3, i64_w, i32_w]; rfl
 refine pure_ (i := 24) (N := some 39) (v := ?_) (a' := ?_) (fT 25 32) rfl rfl (by kernel_rfl) (fun _ _ _ h => h) (Or.inl ⟨by rfl, ?_⟩) ?_ ?_
 rotate_left
 ·intro w'; go_simp; with_reducible rfl
 rotate_left
 ·simp only [Act.put, sq1, sq2, sq3, i64_w, i32_w]; rfl
 refine pure_ (i := 25) (N := some 40) (v := ?_) (a' := ?_) (fT 26 32) rfl rfl (by kernel_rfl) (fun _ _ _ h => h) (Or.inl ⟨by rfl, ?_⟩) ?_ ?_
 rotate_left
 ·intro w'; go_simp; with_reducible rfl
 rotate_left
 ·simp only [Act.put, sq1, sq2, sq3, i64_w, i32_w]; rfl
 refine pure_ (i := 26) (N := some 41) (v := undef) (a' := ?_) (fT 27 32) rfl rfl (by kernel_rfl) (fun _ _ _ h => h) (Or.inr ⟨by rfl, by rfl⟩) ?_ ?_
 rotate_left
 ·simp only [Act.put, sq1, sq2, sq3, i64_w, i32_w]; rfl
 refine pure_ (i := 27) (N := some 42) (v := undef) (a' := ?_) (fT 28 32) rfl rfl (by kernel_rfl) (fun _ _ _ h => h) (Or.inr ⟨by rfl, by rfl⟩) ?_ ?_
 rotate_left
 ·simp only [Act.put, sq1, sq2, sq3, i64_w, i32_w]; rfl
 refine pure_ (i := 28) (N := some 43) (v := undef) (a' := ?_) (fT 29 32) rfl rfl (by kernel_rfl) (fun _ _ _ h => h) (Or.inr ⟨by rfl, by rfl⟩) ?_ ?_
 rotate_left
 ·simp only [Act.put, sq1, sq2, sq3, i64_w, i32_w]; rfl
 refine pure_ (i := 29) (N := some 44) (v := undef) (a' := ?_) (fT 30 32) rfl rfl (by kernel_rfl) (fun _ _ _ h => h) (Or.inr ⟨by rfl, by rfl⟩) ?_ ?_
 rotate_left
 ·simp only [Act.put, sq1, sq2, sq3, i64_w, i32_w]; rfl
 refine pure_ (i := 30) (N := some 45) (v := undef) (a' := ?_) (fT 31 32) rfl rfl (by kernel_rfl) (fun _ _ _ h => h) (Or.inr ⟨by rfl, by rfl⟩) ?_ ?_
 rotate_left
 ·simp only [Act.put, sq1, sq2, sq3, i64_w, i32_w]; rfl
 refine pure_ (i := 31) (N := some 46) (v := ?_) (a' := ?_) (fT 32 32) rfl rfl (by kernel_rfl) (fun _ _ _ h => h) (Or.inl ⟨by rfl, ?_⟩) ?_ ?_
 rotate_left
 ·intro w'; go_simp; with_reducible rfl
 rotate_left
 ·simp only [Act.put, sq1, sq2, sq3, i64_w, i32_w]; rfl
 refine done_ (by kernel_rfl) (only_of ?_)
 go_wp2
 exact postM_ret (results_tmp rfl _ _ _) rfl ⟨rfl, HB.out⟩
set_option maxRecDepth 100000 in
set_option maxHeartbeats 8000000 in
theorem verify_no5 (pub message : ByteArray) (i : Int) (A1 A2 : Option Addr) (c1 c2 : Nat) (sig path : List ByteArray) (w : World) (hG : GL w)
    (hr1 : Kd.C Kd.string w A1 sig.length sig) (hc1 : sig.length ≤ c1) (hr2 : Kd.C Kd.string w A2 path.length path) (hc2 : path.length ≤ c2) (e18 : ((sig.length : Nat) : Int) = 18) (hn8 : path.length ≤ 8) (d1 : decide ((path.length : Int) > 8) = false) (hd1 : (!sig.all Pl.isDig) = false) (hd2 : (!path.all Pl.isDig) = false) (d2 : decide (i < 0) = false) (d3 : decide (wrap64 (2 ^ path.length) ≤ i) = true) :
    Calls Tryd.prog 46 #[.string pub, .string message, .agg #[.int .i64 i, .slice A1 sig.length c1, .slice A2 path.length c2]] w fun e w' => e = .returned (.bool false) ∧ Below w.heap.size w w' := by
 refine calls_of_wp_marks Tryd.func46 rfl ?_
 simp only [Tryd.ntmps46, List.size_toArray, List.length_cons, List.length_nil, Nat.reduceAdd, Nat.reduceSub, Array.replicate_succ, Array.replicate_zero, List.push_toArray, List.append_toArray, List.nil_append, List.cons_append]
 have HG := Lib.hid hG
 have HR1 := Lib.hid hr1
 have HR2 := Lib.hid hr2
 clear hG hr1 hr2
 have HD1 := Lib.hid hd1
 clear hd1
 have HD2 := Lib.hid hd2
 clear hd2
 go_wp2_with fail
 have BK := Lib.hid (blk_new w (.cells #[.int .i64 i, .slice A1 sig.length c1, .slice A2 path.length c2] 53 (0, 0)))
 have HB := Lib.hid (below_alloc (Below.refl w.heap.size w) (.cells #[.int .i64 i, .slice A1 sig.length c1, .slice A2 path.length c2] 53 (0, 0)))
 generalize w.alloc (.cells #[.int .i64 i, .slice A1 sig.length c1, .slice A2 path.length c2] 53) = w1 at BK HB ⊢
 refine wp_only ?_
 refine start_ (n := 32) (S := fun w' => w'.cell? ⟨w.heap.size, 0, none⟩ = some (.int .i64 i) ∧ w'.cell? ⟨w.heap.size, 1, none⟩ = some (.slice A1 sig.length c1) ∧ w'.cell? ⟨w.heap.size, 2, none⟩ = some (.slice A2 path.length c2)) (ds := [])
  (fT 0 32) (by kernel_rfl) rfl rfl ⟨(blk_cell BK.out 0).trans rfl, (blk_cell BK.out 1).trans rfl, (blk_cell BK.out 2).trans rfl⟩ (fun hHeld => ?_)
 have BK1 := Lib.hid (blk_drew BK.out)
 have HB1 := Lib.hid (below_drew1 HB.out)
 clear BK HB; have BK := BK1; have HB := HB1; clear BK1 HB1
 generalize hWd : w1.drew = w2 at BK HB hHeld ⊢
 clear hWd
 refine pure_ (i := 0) (N := some 15) (v := ?_) (a' := ?_) (fT 1 32) rfl rfl (by kernel_rfl) (fun _ _ _ h => h) (Or.inl ⟨by rfl, ?_⟩) ?_ ?_
 rotate_left
 ·intro w'; go_simp; with_reducible rfl
 rotate_left
 ·simp only [Act.put, sq1, sq2, sq3, i64_w, i32_w]; rfl
 refine take_ (i := 1) (N := some 16) (v := ?_) (a' := ?_) (fT 2 32) rfl rfl (by kernel_rfl) (fun _ _ _ h => h) (Or.inl ⟨by rfl, ?_⟩) hHeld ?_ ?_
 rotate_left
 ·rintro w' ⟨s0, s1, s2⟩; go_simp; with_reducible rfl
 rotate_left
 ·simp only [Act.put, sq1, sq2, sq3, i64_w, i32_w]; rfl
 refine pure_ (i := 2) (N := some 17) (v := ?_) (a' := ?_) (fT 3 32) rfl rfl (by kernel_rfl) (fun _ _ _ h => h) (Or.inl ⟨by rfl, ?_⟩) ?_ ?_
 rotate_left
 ·intro w'; go_simp; with_reducible rfl
 rotate_left
 ·simp only [Act.put, sq1, sq2, sq3, i64_w, i32_w]; rfl
 refine pure_ (i := 3) (N := some 18) (v := ?_) (a' := ?_) (fT 4 32) rfl rfl (by kernel_rfl) (fun _ _ _ h => h) (Or.inl ⟨by rfl, ?_⟩) ?_ ?_
 rotate_left
 ·intro w'; go_simp; with_reducible rfl
 rotate_left
 ·simp only [Act.put, sq1, sq2, sq3, i64_w, i32_w]; rfl
 refine pure_ (i := 4) (N := some 19) (v := ?_) (a' := ?_) (fT 5 32) rfl rfl (by kernel_rfl) (fun _ _ _ h => h) (Or.inl ⟨by rfl, ?_⟩) ?_ ?_
 rotate_left
 ·intro w'; go_simp; with_reducible rfl
 rotate_left
 ·simp only [Act.put, sq1, sq2, sq3, i64_w, i32_w]; rfl
 refine pure_ (i := 5) (N := some 20) (v := ?_) (a' := ?_) (fT 6 32) rfl rfl (by kernel_rfl) (fun _ _ _ h => h) (Or.inl ⟨by rfl, ?_⟩) ?_ ?_
 rotate_left
 ·intro w'; go_simp; with_reducible rfl
 rotate_left
 ·simp only [Act.put, sq1, sq2, sq3, i64_w, i32_w]; rfl
 refine pure_ (i := 6) (N := some 21) (v := ?_) (a' := ?_) (fT 7 32) rfl rfl (by kernel_rfl) (fun _ _ _ h => h) (Or.inl ⟨by rfl, ?_⟩) ?_ ?_
 rotate_left
 ·intro w'; go_simp; with_reducible rfl
 rotate_left
 ·simp only [Act.put, sq1, sq2, sq3, i64_w, i32_w]; rfl
 refine pure_ (i := 7) (N := some 22) (v := ?_) (a' := ?_) (fT 8 32) rfl rfl (by kernel_rfl) (fun _ _ _ h => h) (Or.inl ⟨by rfl, ?_⟩) ?_ ?_
 rotate_left
 ·intro w'; go_simp; with_reducible rfl
 rotate_left
 ·simp only [Act.put, sq1, sq2, sq3, i64_w, i32_w]; rfl
 refine pure_ (i := 8) (N := some 23) (v := ?_) (a' := ?_) (fT 9 32) rfl rfl (by kernel_rfl) (fun _ _ _ h => h) (Or.inl ⟨by rfl, ?_⟩) ?_ ?_
 rotate_left
 ·intro w'; go_simp; with_reducible rfl
 rotate_left
 ·simp only [Act.put, sq1, sq2, sq3, i64_w, i32_w]; rfl
 refine pure_ (i := 9) (N := some 24) (v := ?_) (a' := ?_) (fT 10 32) rfl rfl (by kernel_rfl) (fun _ _ _ h => h) (Or.inl ⟨by rfl, ?_⟩) ?_ ?_
 rotate_left
 ·intro w'; go_simp; with_reducible rfl
 rotate_left
 ·simp only [Act.put, sq1, sq2, sq3, i64_w, i32_w]; rfl
 refine pure_ (i := 10) (N := some 25) (v := ?_) (a' := ?_) (fT 11 32) rfl rfl (by kernel_rfl) (fun _ _ _ h => h) (Or.inl ⟨by rfl, ?_⟩) ?_ ?_
 rotate_left
 ·intro w'; go_simp; with_reducible rfl
 rotate_left
 ·simp only [Act.put, sq1, sq2, sq3, i64_w, i32_w]; rfl
 refine take_ (i := 11) (N := some 26) (v := ?_) (a' := ?_) (fT 12 32) rfl rfl (by kernel_rfl) (fun _ _ _ h => h) (Or.inl ⟨by rfl, ?_⟩) hHeld ?_ ?_
 rotate_left
 ·rintro w' ⟨s0, s1, s2⟩; go_simp; with_reducible rfl
 rotate_left
 ·simp only [Act.put, sq1, sq2, sq3, i64_w, i32_w]; rfl
 refine one_ (i := 12) (N := some 27) (fT 13 32) rfl rfl (by kernel_rfl) (by decide) (fun K hK => ?_)
 refine goesV_ Tryd.func78 (by kernel_rfl) rfl #[.slice A1 sig.length c1] (by rfl) rfl rfl rfl (by (try simp only [List.map_toArray, List.map_cons, List.map_nil]); first | done | rfl) ?_
 refine (odd_any A1 c1 sig _ (HG.out.below HB.out) (Kd.C_below HR1.out HB.out) hc1).mono ?_
 rintro e w8 ⟨he, hb⟩
 rw [HD1.out] at he
 subst he
 refine ⟨_, rfl, ?_⟩
 have BK1 := Lib.hid (blk_below BK.out hb)
 have HB1 := Lib.hid (below_step HB.out hb)
 clear BK HB hb; have BK := BK1; have HB := HB1; clear BK1 HB1
 refine hK.out _ _ ⟨(blk_cell BK.out 0).trans rfl, (blk_cell BK.out 1).trans rfl, (blk_cell BK.out 2).trans rfl⟩ (fun hHeld => ?_)
 clear hK K
 refine norm_ (a' := ?_) ?_ ?_
 rotate_left
 ·show Act.put _ (some 27) _ = _
  simp only [Act.put, sq1, sq2, sq3, i64_w, i32_w]; rfl
 refine pure_ (i := 13) (N := some 28) (v := ?_) (a' := ?_) (fT 14 32) rfl rfl (by kernel_rfl) (fun _ _ _ h => h) (Or.inl ⟨by rfl, ?_⟩) ?_ ?_
 rotate_left
 ·intro w'; go_simp; with_reducible rfl
 rotate_left
 ·simp only [Act.put, sq1, sq2, sq3, i64_w, i32_w]; rfl
 refine pure_ (i := 14) (N := some 29) (v := ?_) (a' := ?_) (fT 15 32) rfl rfl (by kernel_rfl) (fun _ _ _ h => h) (Or.inl ⟨by rfl, ?_⟩) ?_ ?_
 rotate_left
 ·intro w'; go_simp; with_reducible rfl
 rotate_left
 ·simp only [Act.put, sq1, sq2, sq3, i64_w, i32_w]; rfl
 refine pure_ (i := 15) (N := some 30) (v := ?_) (a' := ?_) (fT 16 32) rfl rfl (by kernel_rfl) (fun _ _ _ h => h) (Or.inl ⟨by rfl, ?_⟩) ?_ ?_
 rotate_left
 ·intro w'; go_simp; with_reducible rfl
 rotate_left
 ·simp only [Act.put, sq1, sq2, sq3, i64_w, i32_w]; rfl
 refine pure_ (i := 16) (N := some 31) (v := ?_) (a' := ?_) (fT 17 32) rfl rfl (by kernel_rfl) (fun _ _ _ h => h) (Or.inl ⟨by rfl, ?_⟩) ?_ ?_
 rotate_left
 ·intro w'; go_simp; with_reducible rfl
 rotate_left
 ·simp only [Act.put, sq1, sq2, sq3, i64_w, i32_w]; rfl
 refine take_ (i := 17) (N := some 32) (v := ?_) (a' := ?_) (fT 18 32) rfl rfl (by kernel_rfl) (fun _ _ _ h => h) (Or.inl ⟨by rfl, ?_⟩) hHeld ?_ ?_
 rotate_left
 ·rintro w' ⟨s0, s1, s2⟩; go_simp; with_reducible rfl
 rotate_left
 ·simp only [Act.put, sq1, sq2, sq3, i64_w, i32_w]; rfl
 refine one_ (i := 18) (N := some 33) (fT 19 32) rfl rfl (by kernel_rfl) (by decide) (fun K hK => ?_)
 refine goesV_ Tryd.func78 (by kernel_rfl) rfl #[.slice A2 path.length c2] (by rfl) rfl rfl rfl (by (try simp only [List.map_toArray, List.map_cons, List.map_nil]); first | done | rfl) ?_
 refine (odd_any A2 c2 path _ (HG.out.below HB.out) (Kd.C_below HR2.out HB.out) hc2).mono ?_
 rintro e w8 ⟨he, hb⟩
 rw [HD2.out] at he
 subst he
 refine ⟨_, rfl, ?_⟩
 have BK1 := Lib.hid (blk_below BK.out hb)
 have HB1 := Lib.hid (below_step HB.out hb)
 clear BK HB hb; have BK := BK1; have HB := HB1; clear BK1 HB1
 refine hK.out _ _ ⟨(blk_cell BK.out 0).trans rfl, (blk_cell BK.out 1).trans rfl, (blk_cell BK.out 2).trans rfl⟩ (fun hHeld => ?_)
 clear hK K
 refine norm_ (a' := ?_) ?_ ?_
 rotate_left
 ·show Act.put _ (some 33) _ = _
  simp only [Act.put, sq1, sq2, sq3, i64_w, i32_w]; rfl
 refine pure_ (i := 19) (N := some 34) (v := ?_) (a' := ?_) (fT 20 32) rfl rfl (by kernel_rfl) (fun _ _ _ h => h) (Or.inl ⟨by rfl, ?_⟩) ?_ ?_
 rotate_left
 ·intro w'; go_simp; with_reducible rfl
 rotate_left
 ·simp only [Act.put, sq1, sq2, sq3, i64_w, i32_w]; rfl
 refine pure_ (i := 20) (N := some 35) (v := ?_) (a' := ?_) (fT 21 32) rfl rfl (by kernel_rfl) (fun _ _ _ h => h) (Or.inl ⟨by rfl, ?_⟩) ?_ ?_
 rotate_left
 ·intro w'; go_simp; with_reducible rfl
 rotate_left
 ·simp only [Act.put, sq1, sq2, sq3, i64_w, i32_w]; rfl
 refine pure_ (i := 21) (N := some 36) (v := ?_) (a' := ?_) (fT 22 32) rfl rfl (by kernel_rfl) (fun _ _ _ h => h) (Or.inl ⟨by rfl, ?_⟩) ?_ ?_
 rotate_left
 ·intro w'; go_simp; with_reducible rfl
 rotate_left
 ·simp only [Act.put, sq1, sq2, sq3, i64_w, i32_w]; rfl
 refine take_ (i := 22) (N := some 37) (v := ?_) (a' := ?_) (fT 23 32) rfl rfl (by kernel_rfl) (fun _ _ _ h => h) (Or.inl ⟨by rfl, ?_⟩) hHeld ?_ ?_
 rotate_left
 ·rintro w' ⟨s0, s1, s2⟩; go_simp; with_reducible rfl
 rotate_left
 ·simp only [Act.put, sq1, sq2, sq3, i64_w, i32_w]; rfl
 refine pure_ (i := 23) (N := some 38) (v := ?_) (a' := ?_) (fT 24 32) rfl rfl (by kernel_rfl) (fun _ _ _ h => h) (Or.inl ⟨by rfl, ?_⟩) ?_ ?_
 rotate_left
 ·intro w'; go_simp; with_reducible rfl
 rotate_left
 ·simp only [Act.put, sq1, sq2, sq3, i64_w, i32_w]; rfl
 refine pure_ (i := 24) (N := some 39) (v := ?_) (a' := ?_) (fT 25 32) rfl rfl (by kernel_rfl) (fun _ _ _ h => h) (Or.inl ⟨by rfl, ?_⟩) ?_ ?_
 rotate_left
 ·intro w'; go_simp; with_reducible rfl
 rotate_left
 ·simp only [Act.put, sq1, sq2, sq3, i64_w, i32_w]; rfl
 refine pure_ (i := 25) (N := some 40) (v := ?_) (a' := ?_) (fT 26 32) rfl rfl (by kernel_rfl) (fun _ _ _ h => h) (Or.inl ⟨by rfl, ?_⟩) ?_ ?_
 rotate_left
 ·intro w'; go_simp; with_reducible rfl
 rotate_left
 ·simp only [Act.put, sq1, sq2, sq3, i64_w, i32_w]; rfl
 refine pure_ (i := 26) (N := some 41) (v := ?_) (a' := ?_) (fT 27 32) rfl rfl (by kernel_rfl) (fun _ _ _ h => h) (Or.inl ⟨by rfl, ?_⟩) ?_ ?_
 rotate_left
 ·intro w'; go_simp; with_reducible rfl
 rotate_left
 ·simp only [Act.put, sq1, sq2, sq3, i64_w, i32_w]; rfl
 refine take_ (i := 27) (N := some 42) (v := ?_) (a' := ?_) (fT 28 32) rfl rfl (by kernel_rfl) (fun _ _ _ h => h) (Or.inl ⟨by rfl, ?_⟩) hHeld ?_ ?_
 rotate_left
 ·rintro w' ⟨s0, s1, s2⟩; go_simp; with_reducible rfl
 rotate_left
 ·simp only [Act.put, sq1, sq2, sq3, i64_w, i32_w]; rfl
 refine pure_ (i := 28) (N := some 43) (v := ?_) (a' := ?_) (fT 29 32) rfl rfl (by kernel_rfl) (fun _ _ _ h => h) (Or.inl ⟨by rfl, ?_⟩) ?_ ?_
 rotate_left
 ·intro w'; go_simp; with_reducible rfl
 rotate_left
 ·simp only [Act.put, sq1, sq2, sq3, i64_w, i32_w]; rfl
 refine pure_ (i := 29) (N := some 44) (v := ?_) (a' := ?_) (fT 30 32) rfl rfl (by kernel_rfl) (fun _ _ _ h => h) (Or.inl ⟨by rfl, ?_⟩) ?_ ?_
 rotate_left
 ·intro w'; go_simp; with_reducible rfl
 rotate_left
 ·simp only [Act.put, sq1, sq2, sq3, i64_w, i32_w]; rfl
 refine pure_ (i := 30) (N := some 45) (v := ?_) (a' := ?_) (fT 31 32) rfl rfl (by kernel_rfl) (fun _ _ _ h => h) (Or.inl ⟨by rfl, ?_⟩) ?_ ?_
 rotate_left
 ·intro w'; go_simp; with_reducible rfl
 rotate_left
 ·simp only [Act.put, sq1, sq2, sq3, i64_w, i32_w]; rfl
 refine pure_ (i := 31) (N := some 46) (v := ?_) (a' := ?_) (fT 32 32) rfl rfl (by kernel_rfl) (fun _ _ _ h => h) (Or.inl ⟨by rfl, ?_⟩) ?_ ?_
 rotate_left
 ·intro w'; go_simp; with_reducible rfl
 rotate_left
 ·simp only [Act.put, sq1, sq2, sq3, i64_w, i32_w]; rfl
 refine done_ (by kernel_rfl) (only_of ?_)
 go_wp2
 exact postM_ret (results_tmp rfl _ _ _) rfl ⟨rfl, HB.out⟩
def seal_Verify.ok (pub message : ByteArray) (i : Int) (sig path : List ByteArray) : Prop := sig.length = 18 ∧ path.length ≤ 8 ∧ sig.all Pl.isDig = true ∧ path.all Pl.isDig = true ∧ 0 ≤ i ∧ i < ((2 ^ path.length : Nat) : Int)
theorem verify_no (pub message : ByteArray) (i : Int) (A1 A2 : Option Addr) (c1 c2 : Nat) (sig path : List ByteArray) (w : World) (hG : GL w)
    (hr1 : Kd.C Kd.string w A1 sig.length sig) (hc1 : sig.length ≤ c1) (hr2 : Kd.C Kd.string w A2 path.length path) (hc2 : path.length ≤ c2) (hno : ¬ seal_Verify.ok pub message i sig path) :
    Calls Tryd.prog 46 #[.string pub, .string message, .agg #[.int .i64 i, .slice A1 sig.length c1, .slice A2 path.length c2]] w fun e w' => e = .returned (.bool false) ∧ Below w.heap.size w w' := by
 by_cases h0 : sig.length = 18
 ·have e18 : ((sig.length : Nat) : Int) = 18 := by rw [h0]; rfl
  by_cases h1 : path.length ≤ 8
  ·have d1 : decide ((path.length : Int) > 8) = false := decide_eq_false (by omega)
   cases h2 : sig.all Pl.isDig with
   | false => exact verify_no2 pub message i A1 A2 c1 c2 sig path w hG hr1 hc1 hr2 hc2 e18 d1 (by rw [h2]; rfl)
   | true =>
    cases h3 : path.all Pl.isDig with
    | false => exact verify_no3 pub message i A1 A2 c1 c2 sig path w hG hr1 hc1 hr2 hc2 e18 d1 (by rw [h2]; rfl) (by rw [h3]; rfl)
    | true =>
     by_cases h4 : i < 0
     ·exact verify_no4 pub message i A1 A2 c1 c2 sig path w hG hr1 hc1 hr2 hc2 e18 d1 (by rw [h2]; rfl) (by rw [h3]; rfl) (decide_eq_true h4)
     ·by_cases h5 : ((2 ^ path.length : Nat) : Int) ≤ i
      ·exact verify_no5 pub message i A1 A2 c1 c2 sig path w hG hr1 hc1 hr2 hc2 e18 h1 d1 (by rw [h2]; rfl) (by rw [h3]; rfl) (decide_eq_false h4) (decide_eq_true (by rw [two_pow_wrap _ h1]; exact h5))
      ·exact absurd ⟨h0, h1, h2, h3, by omega, by omega⟩ hno
  ·exact verify_no1 pub message i A1 A2 c1 c2 sig path w hG hr1 hc1 hr2 hc2 e18 (decide_eq_true (by omega))
 ·exact verify_no0 pub message i A1 A2 c1 c2 sig path w hG hr1 hc1 hr2 hc2 (by omega)
end Go.Proofs.YtdlipbfcadmhjaaDoor
