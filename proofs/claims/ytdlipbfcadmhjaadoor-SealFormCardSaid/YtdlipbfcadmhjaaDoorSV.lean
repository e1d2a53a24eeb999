/- seal.Verify. -/
import Derived.Test.YtdlipbfcadmhjaaDoorS2
import Derived.Test.YtdlipbfcadmhjaaDoorS3
import Derived.Test.YtdlipbfcadmhjaaDoorT4d
namespace Go.Proofs.YtdlipbfcadmhjaaDoor
set_option linter.unusedVariables false
set_option linter.unusedSimpArgs false
attribute [local go_sem] Oper.semAt_some
open Go Go.RowKit Go.Shelf Go.Proofs.YtdlipbfcadmhjaaDoorW.PrintWords Go.Proofs.YtdlipbfcadmhjaaDoorW.PrintLast Go.Proofs.YtdlipbfcadmhjaaDoorW.PrintMore
structure VfI (w W : World) (E : Nat) (i : Int) (s1 s2 v : Value) (xs : List ByteArray) : Prop where
  bS : W.heap[w.heap.size]? = some (.cells #[.int .i64 i, s1, s2] 53 (0, 0))
  bE : W.heap[E]? = some (.cells #[v] 22 (0, 0))
  row : Kd.R Kd.string 9 W w.heap.size (fun _ => True) v xs
  B : Below w.heap.size w W
theorem VfI.lt {w W : World} {E : Nat} {i : Int} {s1 s2 v : Value} {xs : List ByteArray} (h : VfI w W E i s1 s2 v xs) : w.heap.size < W.heap.size := blk_lt h.bS
theorem VfI.below {w W W' : World} {E : Nat} {i : Int} {s1 s2 v : Value} {xs : List ByteArray} (h : VfI w W E i s1 s2 v xs) (hb : Below W.heap.size W W') : VfI w W' E i s1 s2 v xs :=
  ⟨blk_below h.bS hb, blk_below h.bE hb, Kd.R_below h.row hb, below_step h.B hb⟩
theorem VfI.drew {w W : World} {E : Nat} {i : Int} {s1 s2 v : Value} {xs : List ByteArray} (h : VfI w W E i s1 s2 v xs) : VfI w W.drew E i s1 s2 v xs :=
  ⟨h.bS, h.bE, Kd.R_drew h.row, below_drew1 h.B⟩
theorem VfI.own {w W W' : World} {E : Nat} {i : Int} {s1 s2 v : Value} {xs : List ByteArray} {row : Option Nat} (h : VfI w W E i s1 s2 v xs) (hg : W.grownBy W' row) (hr : ∀ r, row = some r → w.heap.size ≤ r ∧ ∃ o : Obj, W.heap[r]? = some o ∧ o.isCells = false) : VfI w W' E i s1 s2 v xs := by
 have ne : ∀ {g : Nat} {cs : Array Value} {t : TypeId} {z : Nat × Nat}, W.heap[g]? = some (.cells cs t z) → some g ≠ row := by
  intro g cs t z hc e
  obtain ⟨_, o, ho, hn⟩ := hr g e.symm
  rw [hc] at ho
  cases ho
  cases hn
 refine ⟨blk_grown h.bS hg (ne h.bS), blk_grown h.bE hg (ne h.bE), ?_, h.B.grown hg h.B.size (fun k e => (hr k e).1)⟩
 refine Kd.R_mono (Kd.R_grown (Kd.R_bound h.row) hg ?_) (fun k hk => trivial)
 rintro k ⟨_, _, _, _, _, cells, hc⟩
 exact ne hc
theorem VfI.keeps {w W w1 : World} {E : Nat} {i : Int} {s1 s2 v : Value} {xs : List ByteArray} (h : VfI w W E i s1 s2 v xs) (hg : W.grownBy w1 v.ownBlock) : KeepsOthers W w1 :=
  KeepsOthers.of_grownBy hg (fun j o e ho => by
    obtain ⟨_, _, _, _, _, cells, hc⟩ := (Kd.R_bound h.row).1 j e
    rw [hc] at ho
    cases ho
    rfl)
structure VfA (w W : World) (E : Nat) (i : Int) (s1 s2 v v1 : Value) (xs : List ByteArray) : Prop where
  bS : W.heap[w.heap.size]? = some (.cells #[.int .i64 i, s1, s2] 53 (0, 0))
  bE : W.heap[E]? = some (.cells #[v] 22 (0, 0))
  row : Kd.R Kd.string 9 W w.heap.size (fun _ => True) v1 xs
  B : Below w.heap.size w W
theorem VfI.appended {w W w1 : World} {E : Nat} {i : Int} {s1 s2 v v1 : Value} {xs ys : List ByteArray} (h : VfI w W E i s1 s2 v xs) (ho : Kd.R Kd.string 9 w1 w.heap.size (fun _ => True) v1 ys) (hb : Below w.heap.size w w1) (hg : W.grownBy w1 v.ownBlock) : VfA w w1 E i s1 s2 v v1 ys :=
  ⟨blk_grown h.bS hg (Kd.R_ne h.row h.bS (by decide)), blk_grown h.bE hg (Kd.R_ne h.row h.bE (by decide)), ho, hb⟩
theorem VfA.stored {w W : World} {E : Nat} {i : Int} {s1 s2 v v1 : Value} {xs : List ByteArray} (h : VfA w W E i s1 s2 v v1 xs) (hE : w.heap.size < E) : VfI w (W.setCell ⟨E, 0, none⟩ v1) E i s1 s2 v1 xs :=
  ⟨blk_far h.bS (by show w.heap.size ≠ E; omega) _, blk_put h.bE 0 _ rfl, Kd.R_mono (Kd.R_far (p := ⟨E, 0, none⟩) (Kd.R_types h.row h.bE (by decide)) (fun _ hk => hk.2) v1) (fun _ _ => trivial), below_set h.B (by omega)⟩
set_option maxRecDepth 100000 in
set_option maxHeartbeats 8000000 in
theorem verify_ok (pub message : ByteArray) (n : Nat) (i : Int) (hm : message.size ≤ 4611686018427387904) (A1 A2 : Option Addr) (c1 c2 : Nat) (sig path : List ByteArray) (w : World) (hG : GL w)
    (hr1 : Kd.C Kd.string w A1 sig.length sig) (hc1 : sig.length ≤ c1) (hr2 : Kd.C Kd.string w A2 path.length path) (hc2 : path.length ≤ c2) (h18 : sig.length = 18) (hn : path.length = n) (hn8 : n ≤ 8) (hs : sig.all Pl.isDig = true) (hp : path.all Pl.isDig = true) (hi0 : 0 ≤ i) (hi : i < ((2 ^ n : Nat) : Int)) (ch : Fin 18 → ByteArray) (hch : ∀ k : Fin 18, ∃ K, PG3.digest_Chain.f K (rdOf ByteArray.empty sig ((k.val : Nat) : Int)) (wrap64 (15 - (Pl.dg message k.val : Int))) = some (ch k)) (ends : List ByteArray) (hends : Pl.K18.map ch = ends) (leaf : ByteArray) (hof : PG3.seal_of.f ends = some leaf) (r : Bool) (hchk : tree_Check.f pub (wrap64 (2 ^ n)) i leaf path = some r) :
    Calls Tryd.prog 46 #[.string pub, .string message, .agg #[.int .i64 i, .slice A1 sig.length c1, .slice A2 path.length c2]] w fun e w' => e = .returned (.bool r) ∧ Below w.heap.size w w' := by
 refine calls_of_wp_marks Tryd.func46 rfl ?_
 simp only [Tryd.ntmps46, List.size_toArray, List.length_cons, List.length_nil, Nat.reduceAdd, Nat.reduceSub, Array.replicate_succ, Array.replicate_zero, List.push_toArray, List.append_toArray, List.nil_append, List.cons_append]
 have HG := Lib.hid hG
 have HR1 := Lib.hid hr1
 have HR2 := Lib.hid hr2
 have HD1 : Hid ((!sig.all Pl.isDig) = false) := Lib.hid (by rw [hs]; rfl)
 have HD2 : Hid ((!path.all Pl.isDig) = false) := Lib.hid (by rw [hp]; rfl)
 clear hG hr1 hr2
 have e18 : ((sig.length : Nat) : Int) = 18 := by rw [h18]; rfl
 have en : ((path.length : Nat) : Int) = (n : Int) := by rw [hn]
 have d1 : decide ((n : Int) > 8) = false := decide_eq_false (by omega)
 have d2 : decide (i < 0) = false := decide_eq_false (by omega)
 have d3 : decide (wrap64 (2 ^ n) ≤ i) = false := decide_eq_false (by rw [two_pow_wrap n hn8]; omega)
 have H18 := Lib.hid h18
 have HN := Lib.hid hn
 clear h18 hn
 go_wp2_with fail
 have BK := Lib.hid (blk_new w (.cells #[.int .i64 i, .slice A1 sig.length c1, .slice A2 path.length c2] 53 (0, 0)))
 have HB := Lib.hid (below_alloc (Below.refl w.heap.size w) (.cells #[.int .i64 i, .slice A1 sig.length c1, .slice A2 path.length c2] 53 (0, 0)))
 generalize w.alloc (.cells #[.int .i64 i, .slice A1 sig.length c1, .slice A2 path.length c2] 53) = w1 at BK HB ⊢
 refine wp_only ?_
 refine start_ (n := 32) (S := fun w' => w'.cell? ⟨w.heap.size, 0, none⟩ = some (.int .i64 i) ∧ w'.cell? ⟨w.heap.size, 1, none⟩ = some (.slice A1 sig.length c1) ∧ w'.cell? ⟨w.heap.size, 2, none⟩ = some (.slice A2 path.length c2)) (ds := [])
  (fT 0 32) (by kernel_rfl) rfl rfl ⟨(blk_cell BK.out 0).trans rfl, (blk_cell BK.out 1).trans rfl, (blk_cell BK.out 2).trans rfl⟩ (fun hHeld => ?_)
 have BK1 := Lib.hid (blk_drew BK.out)
 have HB1 := Lib.hid (below_drew1 HB.out)
 clear BK HB; have BK := BK1; have HB := HB1; clear BK1 HB1
 generalize hWd : w1.drew = w2 at BK HB hHeld ⊢
 clear hWd
 refine pure_ (i := 0) (N := some 15) (v := ?_) (a' := ?_) (fT 1 32) rfl rfl (by kernel_rfl) (fun _ _ _ h => h) (Or.inl ⟨by rfl, ?_⟩) ?_ ?_
 rotate_left
 ·intro w'; go_simp; with_reducible rfl
 rotate_left
 ·simp only [Act.put, sq1, sq2, sq3, i64_w, i32_w]; rfl
 refine take_ (i := 1) (N := some 16) (v := ?_) (a' := ?_) (fT 2 32) rfl rfl (by kernel_rfl) (fun _ _ _ h => h) (Or.inl ⟨by rfl, ?_⟩) hHeld ?_ ?_
 rotate_left
 ·rintro w' ⟨s0, s1, s2⟩; go_simp; with_reducible rfl
 rotate_left
 ·simp only [Act.put, sq1, sq2, sq3, i64_w, i32_w]; rfl
 refine pure_ (i := 2) (N := some 17) (v := ?_) (a' := ?_) (fT 3 32) rfl rfl (by kernel_rfl) (fun _ _ _ h => h) (Or.inl ⟨by rfl, ?_⟩) ?_ ?_
 rotate_left
 ·intro w'; go_simp; with_reducible rfl
 rotate_left
 ·simp only [Act.put, sq1, sq2, sq3, i64_w, i32_w]; rfl
 refine pure_ (i := 3) (N := some 18) (v := ?_) (a' := ?_) (fT 4 32) rfl rfl (by kernel_rfl) (fun _ _ _ h => h) (Or.inl ⟨by rfl, ?_⟩) ?_ ?_
 rotate_left
 ·intro w'; go_simp; with_reducible rfl
 rotate_left
 ·simp only [Act.put, sq1, sq2, sq3, i64_w, i32_w]; rfl
 refine pure_ (i := 4) (N := some 19) (v := ?_) (a' := ?_) (fT 5 32) rfl rfl (by kernel_rfl) (fun _ _ _ h => h) (Or.inl ⟨by rfl, ?_⟩) ?_ ?_
 rotate_left
 ·intro w'; go_simp; with_reducible rfl
 rotate_left
 ·simp only [Act.put, sq1, sq2, sq3, i64_w, i32_w]; rfl
 refine pure_ (i := 5) (N := some 20) (v := ?_) (a' := ?_) (fT 6 32) rfl rfl (by kernel_rfl) (fun _ _ _ h => h) (Or.inl ⟨by rfl, ?_⟩) ?_ ?_
 rotate_left
 ·intro w'; go_simp; with_reducible rfl
 rotate_left
 ·simp only [Act.put, sq1, sq2, sq3, i64_w, i32_w]; rfl
 refine pure_ (i := 6) (N := some 21) (v := ?_) (a' := ?_) (fT 7 32) rfl rfl (by kernel_rfl) (fun _ _ _ h => h) (Or.inl ⟨by rfl, ?_⟩) ?_ ?_
 rotate_left
 ·intro w'; go_simp; with_reducible rfl
 rotate_left
 ·simp only [Act.put, sq1, sq2, sq3, i64_w, i32_w]; rfl
 refine pure_ (i := 7) (N := some 22) (v := ?_) (a' := ?_) (fT 8 32) rfl rfl (by kernel_rfl) (fun _ _ _ h => h) (Or.inl ⟨by rfl, ?_⟩) ?_ ?_
 rotate_left
 ·intro w'; go_simp; with_reducible rfl
 rotate_left
 ·simp only [Act.put, sq1, sq2, sq3, i64_w, i32_w]; rfl
 refine pure_ (i := 8) (N := some 23) (v := ?_) (a' := ?_) (fT 9 32) rfl rfl (by kernel_rfl) (fun _ _ _ h => h) (Or.inl ⟨by rfl, ?_⟩) ?_ ?_
 rotate_left
 ·intro w'; go_simp; with_reducible rfl
 rotate_left
 ·simp only [Act.put, sq1, sq2, sq3, i64_w, i32_w]; rfl
 refine pure_ (i := 9) (N := some 24) (v := ?_) (a' := ?_) (fT 10 32) rfl rfl (by kernel_rfl) (fun _ _ _ h => h) (Or.inl ⟨by rfl, ?_⟩) ?_ ?_
 rotate_left
 ·intro w'; go_simp; with_reducible rfl
 rotate_left
 ·simp only [Act.put, sq1, sq2, sq3, i64_w, i32_w]; rfl
 refine pure_ (i := 10) (N := some 25) (v := ?_) (a' := ?_) (fT 11 32) rfl rfl (by kernel_rfl) (fun _ _ _ h => h) (Or.inl ⟨by rfl, ?_⟩) ?_ ?_
 rotate_left
 ·intro w'; go_simp; with_reducible rfl
 rotate_left
 ·simp only [Act.put, sq1, sq2, sq3, i64_w, i32_w]; rfl
 refine take_ (i := 11) (N := some 26) (v := ?_) (a' := ?_) (fT 12 32) rfl rfl (by kernel_rfl) (fun _ _ _ h => h) (Or.inl ⟨by rfl, ?_⟩) hHeld ?_ ?_
 rotate_left
 ·rintro w' ⟨s0, s1, s2⟩; go_simp; with_reducible rfl
 rotate_left
 ·simp only [Act.put, sq1, sq2, sq3, i64_w, i32_w]; rfl
 refine one_ (i := 12) (N := some 27) (fT 13 32) rfl rfl (by kernel_rfl) (by decide) (fun K hK => ?_)
 refine goesV_ Tryd.func78 (by kernel_rfl) rfl #[.slice A1 sig.length c1] (by rfl) rfl rfl rfl (by (try simp only [List.map_toArray, List.map_cons, List.map_nil]); first | done | rfl) ?_
 refine (odd_any A1 c1 sig _ (HG.out.below HB.out) (Kd.C_below HR1.out HB.out) hc1).mono ?_
 rintro e w8 ⟨he, hb⟩
 rw [HD1.out] at he
 subst he
 refine ⟨_, rfl, ?_⟩
 have BK1 := Lib.hid (blk_below BK.out hb)
 have HB1 := Lib.hid (below_step HB.out hb)
 clear BK HB hb; have BK := BK1; have HB := HB1; clear BK1 HB1
 refine hK.out _ _ ⟨(blk_cell BK.out 0).trans rfl, (blk_cell BK.out 1).trans rfl, (blk_cell BK.out 2).trans rfl⟩ (fun hHeld => ?_)
 clear hK K
 refine norm_ (a' := ?_) ?_ ?_
 rotate_left
 ·show Act.put _ (some 27) _ = _
  simp only [Act.put, sq1, sq2, sq3, i64_w, i32_w]; rfl
 refine pure_ (i := 13) (N := some 28) (v := ?_) (a' := ?_) (fT 14 32) rfl rfl (by kernel_rfl) (fun _ _ _ h => h) (Or.inl ⟨by rfl, ?_⟩) ?_ ?_
 rotate_left
 ·intro w'; go_simp; with_reducible rfl
 rotate_left
 ·simp only [Act.put, sq1, sq2, sq3, i64_w, i32_w]; rfl
 refine pure_ (i := 14) (N := some 29) (v := ?_) (a' := ?_) (fT 15 32) rfl rfl (by kernel_rfl) (fun _ _ _ h => h) (Or.inl ⟨by rfl, ?_⟩) ?_ ?_
 rotate_left
 ·intro w'; go_simp; with_reducible rfl
 rotate_left
 ·simp only [Act.put, sq1, sq2, sq3, i64_w, i32_w]; rfl
 refine pure_ (i := 15) (N := some 30) (v := ?_) (a' := ?_) (fT 16 32) rfl rfl (by kernel_rfl) (fun _ _ _ h => h) (Or.inl ⟨by rfl, ?_⟩) ?_ ?_
 rotate_left
 ·intro w'; go_simp; with_reducible rfl
 rotate_left
 ·simp only [Act.put, sq1, sq2, sq3, i64_w, i32_w]; rfl
 refine pure_ (i := 16) (N := some 31) (v := ?_) (a' := ?_) (fT 17 32) rfl rfl (by kernel_rfl) (fun _ _ _ h => h) (Or.inl ⟨by rfl, ?_⟩) ?_ ?_
 rotate_left
 ·intro w'; go_simp; with_reducible rfl
 rotate_left
 ·simp only [Act.put, sq1, sq2, sq3, i64_w, i32_w]; rfl
 refine take_ (i := 17) (N := some 32) (v := ?_) (a' := ?_) (fT 18 32) rfl rfl (by kernel_rfl) (fun _ _ _ h => h) (Or.inl ⟨by rfl, ?_⟩) hHeld ?_ ?_
 rotate_left
 ·rintro w' ⟨s0, s1, s2⟩; go_simp; with_reducible rfl
 rotate_left
 ·simp only [Act.put, sq1, sq2, sq3, i64_w, i32_w]; rfl
 refine one_ (i := 18) (N := some 33) (fT 19 32) rfl rfl (by kernel_rfl) (by decide) (fun K hK => ?_)
 refine goesV_ Tryd.func78 (by kernel_rfl) rfl #[.slice A2 path.length c2] (by rfl) rfl rfl rfl (by (try simp only [List.map_toArray, List.map_cons, List.map_nil]); first | done | rfl) ?_
 refine (odd_any A2 c2 path _ (HG.out.below HB.out) (Kd.C_below HR2.out HB.out) hc2).mono ?_
 rintro e w8 ⟨he, hb⟩
 rw [HD2.out] at he
 subst he
 refine ⟨_, rfl, ?_⟩
 have BK1 := Lib.hid (blk_below BK.out hb)
 have HB1 := Lib.hid (below_step HB.out hb)
 clear BK HB hb; have BK := BK1; have HB := HB1; clear BK1 HB1
 refine hK.out _ _ ⟨(blk_cell BK.out 0).trans rfl, (blk_cell BK.out 1).trans rfl, (blk_cell BK.out 2).trans rfl⟩ (fun hHeld => ?_)
 clear hK K
 refine norm_ (a' := ?_) ?_ ?_
 rotate_left
 ·show Act.put _ (some 33) _ = _
  simp only [Act.put, sq1, sq2, sq3, i64_w, i32_w]; rfl
 refine pure_ (i := 19) (N := some 34) (v := ?_) (a' := ?_) (fT 20 32) rfl rfl (by kernel_rfl) (fun _ _ _ h => h) (Or.inl ⟨by rfl, ?_⟩) ?_ ?_
 rotate_left
 ·intro w'; go_simp; with_reducible rfl
 rotate_left
 ·simp only [Act.put, sq1, sq2, sq3, i64_w, i32_w]; rfl
 refine pure_ (i := 20) (N := some 35) (v := ?_) (a' := ?_) (fT 21 32) rfl rfl (by kernel_rfl) (fun _ _ _ h => h) (Or.inl ⟨by rfl, ?_⟩) ?_ ?_
 rotate_left
 ·intro w'; go_simp; with_reducible rfl
 rotate_left
 ·simp only [Act.put, sq1, sq2, sq3, i64_w, i32_w]; rfl
 refine pure_ (i := 21) (N := some 36) (v := ?_) (a' := ?_) (fT 22 32) rfl rfl (by kernel_rfl) (fun _ _ _ h => h) (Or.inl ⟨by rfl, ?_⟩) ?_ ?_
 rotate_left
 ·intro w'; go_simp; with_reducible rfl
 rotate_left
 ·simp only [Act.put, sq1, sq2, sq3, i64_w, i32_w]; rfl
 refine take_ (i := 22) (N := some 37) (v := ?_) (a' := ?_) (fT 23 32) rfl rfl (by kernel_rfl) (fun _ _ _ h => h) (Or.inl ⟨by rfl, ?_⟩) hHeld ?_ ?_
 rotate_left
 ·rintro w' ⟨s0, s1, s2⟩; go_simp; with_reducible rfl
 rotate_left
 ·simp only [Act.put, sq1, sq2, sq3, i64_w, i32_w]; rfl
 refine pure_ (i := 23) (N := some 38) (v := ?_) (a' := ?_) (fT 24 32) rfl rfl (by kernel_rfl) (fun _ _ _ h => h) (Or.inl ⟨by rfl, ?_⟩) ?_ ?_
 rotate_left
 ·intro w'; go_simp; with_reducible rfl
 rotate_left
 ·simp only [Act.put, sq1, sq2, sq3, i64_w, i32_w]; rfl
 refine pure_ (i := 24) (N := some 39) (v := ?_) (a' := ?_) (fT 25 32) rfl rfl (by kernel_rfl) (fun _ _ _ h => h) (Or.inl ⟨by rfl, ?_⟩) ?_ ?_
 rotate_left
 ·intro w'; go_simp; with_reducible rfl
 rotate_left
 ·simp only [Act.put, sq1, sq2, sq3, i64_w, i32_w]; rfl
 refine pure_ (i := 25) (N := some 40) (v := ?_) (a' := ?_) (fT 26 32) rfl rfl (by kernel_rfl) (fun _ _ _ h => h) (Or.inl ⟨by rfl, ?_⟩) ?_ ?_
 rotate_left
 ·intro w'; go_simp; with_reducible rfl
 rotate_left
 ·simp only [Act.put, sq1, sq2, sq3, i64_w, i32_w]; rfl
 refine pure_ (i := 26) (N := some 41) (v := ?_) (a' := ?_) (fT 27 32) rfl rfl (by kernel_rfl) (fun _ _ _ h => h) (Or.inl ⟨by rfl, ?_⟩) ?_ ?_
 rotate_left
 ·intro w'; go_simp; with_reducible rfl
 rotate_left
 ·simp only [Act.put, sq1, sq2, sq3, i64_w, i32_w]; rfl
 refine take_ (i := 27) (N := some 42) (v := ?_) (a' := ?_) (fT 28 32) rfl rfl (by kernel_rfl) (fun _ _ _ h => h) (Or.inl ⟨by rfl, ?_⟩) hHeld ?_ ?_
 rotate_left
 ·rintro w' ⟨s0, s1, s2⟩; go_simp; with_reducible rfl
 rotate_left
 ·simp only [Act.put, sq1, sq2, sq3, i64_w, i32_w]; rfl
 refine pure_ (i := 28) (N := some 43) (v := ?_) (a' := ?_) (fT 29 32) rfl rfl (by kernel_rfl) (fun _ _ _ h => h) (Or.inl ⟨by rfl, ?_⟩) ?_ ?_
 rotate_left
 ·intro w'; go_simp; with_reducible rfl
 rotate_left
 ·simp only [Act.put, sq1, sq2, sq3, i64_w, i32_w]; rfl
 refine pure_ (i := 29) (N := some 44) (v := ?_) (a' := ?_) (fT 30 32) rfl rfl (by kernel_rfl) (fun _ _ _ h => h) (Or.inl ⟨by rfl, ?_⟩) ?_ ?_
 rotate_left
 ·intro w'; go_simp; with_reducible rfl
 rotate_left
 ·simp only [Act.put, sq1, sq2, sq3, i64_w, i32_w]; rfl
 refine pure_ (i := 30) (N := some 45) (v := ?_) (a' := ?_) (fT 31 32) rfl rfl (by kernel_rfl) (fun _ _ _ h => h) (Or.inl ⟨by rfl, ?_⟩) ?_ ?_
 rotate_left
 ·intro w'; go_simp; with_reducible rfl
 rotate_left
 ·simp only [Act.put, sq1, sq2, sq3, i64_w, i32_w]; rfl
 refine pure_ (i := 31) (N := some 46) (v := ?_) (a' := ?_) (fT 32 32) rfl rfl (by kernel_rfl) (fun _ _ _ h => h) (Or.inl ⟨by rfl, ?_⟩) ?_ ?_
 rotate_left
 ·intro w'; go_simp; with_reducible rfl
 rotate_left
 ·simp only [Act.put, sq1, sq2, sq3, i64_w, i32_w]; rfl
 refine done_ (by kernel_rfl) (only_of ?_)
 have HE := Lib.hid (blk_lt BK.out)
 go_wp2_with fail
 refine (seal_digits_any message _).mono ?_
 rintro e w5 ⟨rfl, rfl⟩
 go_wp2_with fail
 have B5 : ((w8.alloc (.cells #[.slice none 0 0] 22)).alloc (.cells #[.string message] 9)).heap[w8.heap.size + 1]? = some (.cells #[.string message] 9 (0, 0)) := by
  have := blk_new (w8.alloc (.cells #[.slice none 0 0] 22)) (.cells #[.string message] 9 (0, 0)); rwa [World.size_alloc] at this
 have SG0 : VfI w ((w8.alloc (.cells #[.slice none 0 0] 22)).alloc (.cells #[.string message] 9)) w8.heap.size i (.slice A1 sig.length c1) (.slice A2 path.length c2) (.slice none 0 0) [] :=
  ⟨blk_alloc (blk_alloc BK.out _) _, blk_alloc (blk_new w8 _) _, Kd.R_nil _ _ _ _ _, below_alloc (below_alloc HB.out _) _⟩
 clear BK HB hHeld
 generalize ((w8.alloc (.cells #[.slice none 0 0] 22)).alloc (.cells #[.string message] 9)) = w6 at SG0 B5 ⊢
 have hG6 := HG.out.below SG0.B
 refine (wpIn_wide (n := 3)).1 ?_
 refine wpIn_rangeFunc_ownF (F := Fence.wide) (n := 3) rfl (by omega) (gf := 106) (lb := #[.pointer (some ⟨w8.heap.size + 1, 0, none⟩)]) rfl trivial (enters_of Tryd.func106 (by kernel_rfl) rfl)
  (digits_stops message hm (3 - 1) (w8.heap.size + 1) (fun _ _ => True) w6 hG6 ((blk_cell B5 0).trans rfl) (blk_lt B5)) (fun _ _ => trivial) (fun _ _ _ _ _ _ _ _ => trivial) (Below.refl _ _) (fun _ => rfl)
  (fun pre W => ∃ v, VfI w W w8.heap.size i (.slice A1 sig.length c1) (.slice A2 path.length c2) v (pre.map ch)) (fun _ _ _ => False)
  (by
   rintro s A B row ⟨v, hs⟩ hg hr
   exact ⟨v, hs.own hg (fun r e => ⟨Nat.le_trans SG0.B.size (hr r e).1, (hr r e).2⟩)⟩)
  (fun _ _ _ _ _ hs _ _ => hs) ⟨_, SG0⟩
  (fun x => { tmps := #[.string pub, .string message, .agg #[.int .i64 i, .slice A1 sig.length c1, .slice A2 path.length c2], undef, undef, .pointer (some ⟨w.heap.size, 0, none⟩), .bool false, .int .i64 (n : Int), .func (.func 78) #[] #[], .pointer (some ⟨w8.heap.size, 0, none⟩), .int .i64 (x.val : Int), .int .i64 (Pl.dg message x.val : Int), .pointer (some ⟨w.heap.size, 2, none⟩), .slice A2 path.length c2, .int .i64 (n : Int), .pointer (some ⟨w.heap.size, 1, none⟩), .slice A1 sig.length c1, .int .i64 18, .bool false, .bool false, .int .i64 (n : Int), .bool false, .bool false, .bool false, .func (.func 78) #[] #[], .pointer (some ⟨w.heap.size, 1, none⟩), .slice A1 sig.length c1, .bool false, .bool false, .bool false, .func (.func 78) #[] #[], .pointer (some ⟨w.heap.size, 2, none⟩), .slice A2 path.length c2, .bool false, .bool false, .bool false, .pointer (some ⟨w.heap.size, 0, none⟩), .int .i64 i, .bool false, .bool false, .bool false, .pointer (some ⟨w.heap.size, 0, none⟩), .int .i64 i, .int .i64 (n : Int), .int .i64 (wrap64 (2 ^ n)), .bool false, .bool false, .string message, .func (.func 106) #[] #[.pointer (some ⟨w8.heap.size + 1, 0, none⟩)], .int .i64 (x.val : Int), .int .i64 (Pl.dg message x.val : Int), undef, undef, undef, undef, undef, undef, undef, undef, undef, undef, undef, undef, undef, undef, undef, undef, undef, undef, undef, undef, undef], defers := [] }) ?assign ?body ?done ?stop
 case assign =>
  intro l x W K hK
  gi_wp2
  exact hK
 case body =>
  rintro l pre x W ⟨v, hsg⟩ hlt
  obtain ⟨kx, hkx⟩ := hch x
  have KO := Lib.hid (KeepsOthers.drew W)
  have SG := Lib.hid hsg.drew
  clear hsg
  obtain ⟨ad, rfl, hat⟩ := Kd.at_string HR1.out (x.val : Int) (by omega) (by have := H18.out; have := x.isLt; omega)
  rw [Int.toNat_natCast] at hat
  have HAT := Lib.hid hat
  clear hat
  have hx0 : (0 ≤ ((x.val : Nat) : Int)) = True := eq_true (by omega)
  have hx1 : (((x.val : Nat) : Int) < 18) = True := eq_true (by have := x.isLt; omega)
  have hx2 : (((x.val : Nat) : Int) < ((sig.length : Nat) : Int)) = True := eq_true (by have := H18.out; have := x.isLt; omega)
  refine wpIn_block ?_
  refine startR_ (n := 12) (S := fun w' => w'.cell? ⟨w8.heap.size, 0, none⟩ = some v ∧ w'.cell? ⟨w.heap.size, 1, none⟩ = some (.slice (some ad) sig.length c1) ∧ w'.cell? (ad.add x.val) = some (.string (rdOf ByteArray.empty sig ((x.val : Nat) : Int)))) (ds := [10, 11])
   (fT 0 12) (fun ⟨_, _, hh⟩ => hh) (by kernel_rfl) (by kernel_rfl) rfl rfl ⟨(blk_cell SG.out.bE 0).trans rfl, (blk_cell SG.out.bS 1).trans rfl, (SG.out.B.cell (World.block_lt_of_cell? w _ HAT.out)).trans HAT.out⟩ (fun hHeld => ?_)
  generalize hWd : W.drew = w7 at SG KO hHeld ⊢
  clear hWd
  refine pure_ (i := 1) (N := some 52) (v := ?_) (a' := ?_) #[ff,tt,ff,ff,ff,ff,ff,ff,ff,ff,ff,ff] rfl rfl (by kernel_rfl) (fun _ _ _ h => h) (Or.inl ⟨by rfl, ?_⟩) ?_ ?_
  rotate_left
  ·intro w'; go_simp; with_reducible rfl
  rotate_left
  ·simp only [Act.put, sq1, sq2, sq3, i64_w, i32_w]; rfl
  refine pure_ (i := 3) (N := some 54) (v := ?_) (a' := ?_) #[ff,tt,ff,tt,ff,ff,ff,ff,ff,ff,ff,ff] rfl rfl (by kernel_rfl) (fun _ _ _ h => h) (Or.inl ⟨by rfl, ?_⟩) ?_ ?_
  rotate_left
  ·intro w'; go_simp; with_reducible rfl
  rotate_left
  ·simp only [Act.put, sq1, sq2, sq3, i64_w, i32_w]; rfl
  refine pure_ (i := 6) (N := some 57) (v := ?_) (a' := ?_) #[ff,tt,ff,tt,ff,ff,tt,ff,ff,ff,ff,ff] rfl rfl (by kernel_rfl) (fun _ _ _ h => h) (Or.inl ⟨by rfl, ?_⟩) ?_ ?_
  rotate_left
  ·intro w'; go_simp; with_reducible rfl
  rotate_left
  ·simp only [Act.put, sq1, sq2, sq3, i64_w, i32_w]; rfl
  refine pure_ (i := 7) (N := some 58) (v := ?_) (a' := ?_) #[ff,tt,ff,tt,ff,ff,tt,tt,ff,ff,ff,ff] rfl rfl (by kernel_rfl) (fun _ _ _ h => h) (Or.inl ⟨by rfl, ?_⟩) ?_ ?_
  rotate_left
  ·intro w'; go_simp; with_reducible rfl
  rotate_left
  ·simp only [Act.put, sq1, sq2, sq3, i64_w, i32_w]; rfl
  refine take_ (i := 0) (N := some 51) (v := ?_) (a' := ?_) #[tt,tt,ff,tt,ff,ff,tt,tt,ff,ff,ff,ff] rfl rfl (by kernel_rfl) (fun _ _ _ h => h) (Or.inl ⟨by rfl, ?_⟩) hHeld ?_ ?_
  rotate_left
  ·rintro w' ⟨s0, s1, s2⟩; go_simp; with_reducible rfl
  rotate_left
  ·simp only [Act.put, sq1, sq2, sq3, i64_w, i32_w]; rfl
  refine take_ (i := 2) (N := some 53) (v := ?_) (a' := ?_) #[tt,tt,tt,tt,ff,ff,tt,tt,ff,ff,ff,ff] rfl rfl (by kernel_rfl) (fun _ _ _ h => h) (Or.inl ⟨by rfl, ?_⟩) hHeld ?_ ?_
  rotate_left
  ·rintro w' ⟨s0, s1, s2⟩; go_simp; with_reducible rfl
  rotate_left
  ·simp only [Act.put, sq1, sq2, sq3, i64_w, i32_w]; rfl
  refine pure_ (i := 4) (N := some 55) (v := ?_) (a' := ?_) #[tt,tt,tt,tt,tt,ff,tt,tt,ff,ff,ff,ff] rfl rfl (by kernel_rfl) (fun _ _ _ h => h) (Or.inl ⟨by rfl, ?_⟩) ?_ ?_
  rotate_left
  ·intro w'; go_simp; with_reducible rfl
  rotate_left
  ·simp only [Act.put, sq1, sq2, sq3, i64_w, i32_w]; rfl
  refine take_ (i := 5) (N := some 56) (v := ?_) (a' := ?_) (fT 8 12) rfl rfl (by kernel_rfl) (fun _ _ _ h => h) (Or.inl ⟨by rfl, ?_⟩) hHeld ?_ ?_
  rotate_left
  ·rintro w' ⟨s0, s1, s2⟩; go_simp; with_reducible rfl
  rotate_left
  ·simp only [Act.put, sq1, sq2, sq3, i64_w, i32_w]; rfl
  refine one_ (i := 8) (N := some 59) (fT 9 12) rfl rfl (by kernel_rfl) (by decide) (fun K hK => ?_)
  refine goes_ Tryd.func24 (by kernel_rfl) rfl #[.string (rdOf ByteArray.empty sig ((x.val : Nat) : Int)), .int .i64 (wrap64 (15 - (Pl.dg message x.val : Int)))] (by rfl) rfl rfl (by (try simp only [List.map_toArray, List.map_cons, List.map_nil]); first | done | rfl) ?_
  refine (PG3.digest_Chain.calls kx (rdOf ByteArray.empty sig ((x.val : Nat) : Int)) (wrap64 (15 - (Pl.dg message x.val : Int))) (ch x) _ (HG.out.below SG.out.B) hkx).mono ?_
  rintro e w10 ⟨rfl, hb⟩
  refine ⟨_, rfl, ?_⟩
  have SG1 := Lib.hid (SG.out.below hb)
  have KO1 := Lib.hid (KO.out.trans (keeps_below hb))
  clear SG KO hb; have SG := SG1; have KO := KO1; clear SG1 KO1
  refine hK.out _ _ ⟨(blk_cell SG.out.bE 0).trans rfl, (blk_cell SG.out.bS 1).trans rfl, (SG.out.B.cell (World.block_lt_of_cell? w _ HAT.out)).trans HAT.out⟩ (fun hHeld => ?_)
  clear hK K
  refine norm_ (a' := ?_) ?_ ?_
  rotate_left
  ·show Act.put _ (some 59) _ = _
   simp only [Act.put, sq1, sq2, sq3, i64_w, i32_w]; rfl
  refine one_ (i := 9) (N := some 60) (fT 10 12) rfl rfl (by kernel_rfl) (by decide) (fun K hK => ?_)
  refine value_ (w1 := ?_) (v := ?_) (by rfl) rfl ?_ ?_
  rotate_left 2
  ·go_simp
   constructor
   ·rfl
   ·rfl
  refine hK.out _ _ ⟨(blk_cell (blk_alloc SG.out.bE _) 0).trans rfl, (blk_cell (blk_alloc SG.out.bS _) 1).trans rfl, (World.cell?_alloc_lt _ _ _ (World.block_lt_of_cell? _ _ hHeld.2.2)).trans hHeld.2.2⟩ (fun hHeld => ?_)
  clear hK K
  refine norm_ (a' := ?_) ?_ ?_
  rotate_left
  ·show Act.put _ (some 60) _ = _
   simp only [Act.put, sq1, sq2, sq3, i64_w, i32_w]; rfl
  refine last_ (i := 10) (N := some 61) (fT 11 12) rfl rfl (by kernel_rfl) (by decide) (fun K hK => ?_)
  refine Kd.R_append_step Kd.string (w0 := w) w.heap.size (by rfl) (.tmp 51) (.tmp 60) 22 9 (.string ⟨#[]⟩) 16 rfl Tryd.underlying22 PG3.info9 rfl (by decide) (by omega) v (pre.map ch) (ch x) [.string (ch x)] (fun _ => True) (fun _ => False) rfl rfl ?aP (fun _ hk => hk.elim) ?aF SG.out.row SG.out.B SG.out.B.size ?aL ?_
  case aP => exact rfl
  case aF => exact fun _ _ => trivial
  case aL => rw [List.length_map]; omega
  intro v1 w11 ho hb hg hat
  have SG1 := Lib.hid (SG.out.appended ho hb hg)
  have KO1 := Lib.hid (KO.out.trans (SG.out.keeps hg))
  clear ho hb hg hat SG KO
  obtain ⟨Ao, co, eo⟩ := Kd.R_slice SG1.out.row
  subst eo
  refine hK.out _ _ ?_
  clear hK K
  refine norm_ (a' := ?_) ?_ ?_
  rotate_left
  ·show Act.put _ (some 61) _ = _
   simp only [Act.put, sq1, sq2, sq3, i64_w, i32_w]; rfl
  refine last_ (i := 11) (N := none) (fT 12 12) rfl rfl (by kernel_rfl) (by decide) (fun K hK => ?_)
  have hs30 := (blk_cell SG1.out.bE 0).trans rfl
  have hfs30 := blk_frozen SG1.out.bE 0
  refine skip_ (w1 := ?_) (by rfl) rfl ?_ ?_
  rotate_left
  ·go_simp; rfl
  refine hK.out _ _ ?_
  clear hK K
  refine done_ (by kernel_rfl) ?_
  exact ⟨KO1.out.trans (KeepsOthers.setCell _ _ _), trivial, .slice Ao (pre.length + 1) co, by have h9 := SG1.out.stored HE.out; simp only [List.length_append, List.length_map, List.length_singleton] at h9; rw [List.map_append]; exact h9⟩
 case done =>
  rintro D xs W hD rfl ⟨v, hsg⟩ hK
  rw [hends] at hsg
  obtain ⟨Av, cv, rfl⟩ := Kd.R_slice hsg.row
  have SG := Lib.hid hsg.drew
  have KD : Hid (W.drew.heap[D]? = some (.deferred (some []))) := Lib.hid hK
  have HD := Lib.hid (Nat.le_trans SG0.B.size hD)
  clear hsg hK hD
  go_wp2_with fail
  refine wp_only ?_
  refine start_ (n := 11) (S := fun w' => w'.cell? ⟨w8.heap.size, 0, none⟩ = some (.slice Av ends.length cv) ∧ w'.cell? ⟨w.heap.size, 0, none⟩ = some (.int .i64 i) ∧ w'.cell? ⟨w.heap.size, 2, none⟩ = some (.slice A2 path.length c2)) (ds := [])
   #[ff,ff,ff,ff,ff,ff,ff,ff,ff,ff,ff] (by kernel_rfl) rfl rfl ⟨(blk_cell SG.out.bE 0).trans rfl, (blk_cell SG.out.bS 0).trans rfl, (blk_cell SG.out.bS 2).trans rfl⟩ (fun hHeld => ?_)
  generalize hWd : W.drew = w7 at SG KD hHeld ⊢
  clear hWd
  refine pure_ (i := 0) (N := some 62) (v := ?_) (a' := ?_) #[tt,ff,ff,ff,ff,ff,ff,ff,ff,ff,ff] rfl rfl (by kernel_rfl) (fun _ _ _ h => h) (Or.inl ⟨by rfl, ?_⟩) ?_ ?_
  rotate_left
  ·intro w'; go_simp; with_reducible rfl
  rotate_left
  ·simp only [Act.put, sq1, sq2, sq3, i64_w, i32_w]; rfl
  refine pure_ (i := 1) (N := some 63) (v := ?_) (a' := ?_) #[tt,tt,ff,ff,ff,ff,ff,ff,ff,ff,ff] rfl rfl (by kernel_rfl) (fun _ _ _ h => h) (Or.inl ⟨by rfl, ?_⟩) ?_ ?_
  rotate_left
  ·intro w'; go_simp; with_reducible rfl
  rotate_left
  ·simp only [Act.put, sq1, sq2, sq3, i64_w, i32_w]; rfl
  refine pure_ (i := 2) (N := some 64) (v := ?_) (a' := ?_) #[tt,tt,tt,ff,ff,ff,ff,ff,ff,ff,ff] rfl rfl (by kernel_rfl) (fun _ _ _ h => h) (Or.inl ⟨by rfl, ?_⟩) ?_ ?_
  rotate_left
  ·intro w'; go_simp; with_reducible rfl
  rotate_left
  ·simp only [Act.put, sq1, sq2, sq3, i64_w, i32_w]; rfl
  refine pure_ (i := 3) (N := some 65) (v := ?_) (a' := ?_) #[tt,tt,tt,tt,ff,ff,ff,ff,ff,ff,ff] rfl rfl (by kernel_rfl) (fun _ _ _ h => h) (Or.inl ⟨by rfl, ?_⟩) ?_ ?_
  rotate_left
  ·intro w'; go_simp; with_reducible rfl
  rotate_left
  ·simp only [Act.put, sq1, sq2, sq3, i64_w, i32_w]; rfl
  refine pure_ (i := 7) (N := some 69) (v := ?_) (a' := ?_) #[tt,tt,tt,tt,ff,ff,ff,tt,ff,ff,ff] rfl rfl (by kernel_rfl) (fun _ _ _ h => h) (Or.inl ⟨by rfl, ?_⟩) ?_ ?_
  rotate_left
  ·intro w'; go_simp; with_reducible rfl
  rotate_left
  ·simp only [Act.put, sq1, sq2, sq3, i64_w, i32_w]; rfl
  refine take_ (i := 4) (N := some 66) (v := ?_) (a' := ?_) #[tt,tt,tt,tt,tt,ff,ff,tt,ff,ff,ff] rfl rfl (by kernel_rfl) (fun _ _ _ h => h) (Or.inl ⟨by rfl, ?_⟩) hHeld ?_ ?_
  rotate_left
  ·rintro w' ⟨s0, s1, s2⟩; go_simp; with_reducible rfl
  rotate_left
  ·simp only [Act.put, sq1, sq2, sq3, i64_w, i32_w]; rfl
  refine take_ (i := 5) (N := some 67) (v := ?_) (a' := ?_) #[tt,tt,tt,tt,tt,tt,ff,tt,ff,ff,ff] rfl rfl (by kernel_rfl) (fun _ _ _ h => h) (Or.inl ⟨by rfl, ?_⟩) hHeld ?_ ?_
  rotate_left
  ·rintro w' ⟨s0, s1, s2⟩; go_simp; with_reducible rfl
  rotate_left
  ·simp only [Act.put, sq1, sq2, sq3, i64_w, i32_w]; rfl
  refine take_ (i := 8) (N := some 70) (v := ?_) (a' := ?_) #[tt,tt,tt,tt,tt,tt,ff,tt,tt,ff,ff] rfl rfl (by kernel_rfl) (fun _ _ _ h => h) (Or.inl ⟨by rfl, ?_⟩) hHeld ?_ ?_
  rotate_left
  ·rintro w' ⟨s0, s1, s2⟩; go_simp; with_reducible rfl
  rotate_left
  ·simp only [Act.put, sq1, sq2, sq3, i64_w, i32_w]; rfl
  refine one_ (i := 6) (N := some 68) #[tt,tt,tt,tt,tt,tt,tt,tt,tt,ff,ff] rfl rfl (by kernel_rfl) (by decide) (fun K hK => ?_)
  refine goes_ Tryd.func81 (by kernel_rfl) rfl #[.slice Av ends.length cv] (by rfl) rfl rfl (by (try simp only [List.map_toArray, List.map_cons, List.map_nil]); first | done | rfl) ?_
  refine (PG3.seal_of.calls Av cv ends leaf _ (HG.out.below SG.out.B) (Kd.R_reads' SG.out.row).2.2 (Kd.R_reads' SG.out.row).2.1 hof).mono ?_
  rintro e w10 ⟨rfl, hb⟩
  refine ⟨_, rfl, ?_⟩
  have SG1 := Lib.hid (SG.out.below hb)
  have KD1 := Lib.hid (blk_below KD.out hb)
  clear SG KD hb; have SG := SG1; have KD := KD1; clear SG1 KD1
  refine hK.out _ _ ⟨(blk_cell SG.out.bE 0).trans rfl, (blk_cell SG.out.bS 0).trans rfl, (blk_cell SG.out.bS 2).trans rfl⟩ (fun hHeld => ?_)
  clear hK K
  refine norm_ (a' := ?_) ?_ ?_
  rotate_left
  ·show Act.put _ (some 68) _ = _
   simp only [Act.put, sq1, sq2, sq3, i64_w, i32_w]; rfl
  refine one_ (i := 9) (N := some 71) #[tt,tt,tt,tt,tt,tt,tt,tt,tt,tt,ff] rfl rfl (by kernel_rfl) (by decide) (fun K hK => ?_)
  refine goes_ Tryd.func33 (by kernel_rfl) rfl #[.string pub, .int .i64 (wrap64 (2 ^ n)), .int .i64 i, .string leaf, .slice A2 path.length c2] (by rfl) rfl rfl (by (try simp only [List.map_toArray, List.map_cons, List.map_nil]); first | done | rfl) ?_
  refine (tree_Check.calls pub (wrap64 (2 ^ n)) i leaf A2 c2 path r _ (HG.out.below SG.out.B) (Kd.C_below HR2.out SG.out.B) hc2 hchk).mono ?_
  rintro e w12 ⟨rfl, hb⟩
  refine ⟨_, rfl, ?_⟩
  have SG1 := Lib.hid (SG.out.below hb)
  have KD1 := Lib.hid (blk_below KD.out hb)
  clear SG KD hb; have SG := SG1; have KD := KD1; clear SG1 KD1
  refine hK.out _ _ ⟨(blk_cell SG.out.bE 0).trans rfl, (blk_cell SG.out.bS 0).trans rfl, (blk_cell SG.out.bS 2).trans rfl⟩ (fun hHeld => ?_)
  clear hK K
  refine norm_ (a' := ?_) ?_ ?_
  rotate_left
  ·show Act.put _ (some 71) _ = _
   simp only [Act.put, sq1, sq2, sq3, i64_w, i32_w]; rfl
  refine pure_ (i := 10) (N := some 6) (v := ?_) (a' := ?_) #[tt,tt,tt,tt,tt,tt,tt,tt,tt,tt,tt] rfl rfl (by kernel_rfl) (fun _ _ _ h => h) (Or.inl ⟨by rfl, ?_⟩) ?_ ?_
  rotate_left
  ·intro w'; go_simp; with_reducible rfl
  rotate_left
  ·simp only [Act.put, sq1, sq2, sq3, i64_w, i32_w]; rfl
  refine done_ (by kernel_rfl) (only_of ?_)
  go_wp2
  have NC : ∀ {k : Nat} {cells : Array Value} {q : TypeId}, w12.heap[k]? = some (.cells cells q (0, 0)) → some k ≠ some D := by
   intro k cells q hc e
   cases e
   rw [KD.out] at hc
   cases hc
  refine postM_leave (D := D) KD.out rfl (results_tmp rfl _ _ _) ⟨rfl, ?_⟩
  exact SG.out.B.grown (grownBy_putObj' _ _ _) SG.out.B.size (fun k e => by cases e; exact HD.out)
 case stop =>
  rintro D c pre W _ _ hh _
  exact hh.elim
end Go.Proofs.YtdlipbfcadmhjaaDoor
