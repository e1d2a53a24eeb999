/- seal.Sign. -/
import Derived.Test.YtdlipbfcadmhjaaDoorS1
import Derived.Test.YtdlipbfcadmhjaaDoorPG2x4
import Derived.Test.YtdlipbfcadmhjaaDoorPG3x3
import Derived.Test.YtdlipbfcadmhjaaDoorPG3x4
import Derived.Deep.QuietTactic
import Derived.BigQuiet
namespace Go.Proofs.YtdlipbfcadmhjaaDoor
set_option linter.unusedVariables false
set_option linter.unusedSimpArgs false
attribute [local go_sem] Oper.semAt_some
open Go Go.RowKit Go.Shelf Go.Proofs.YtdlipbfcadmhjaaDoorW.PrintWords Go.Proofs.YtdlipbfcadmhjaaDoorW.PrintLast Go.Proofs.YtdlipbfcadmhjaaDoorW.PrintMore
theorem two_pow_wrap (h : Nat) (hh : h ≤ 8) : wrap64 (2 ^ h) = ((2 ^ h : Nat) : Int) := by
 have e : (2 : Int) ^ h = ((2 ^ h : Nat) : Int) := by simp
 have hb : 2 ^ h ≤ 2 ^ 8 := Nat.pow_le_pow_right (by omega) hh
 rw [e]
 generalize 2 ^ h = N at hb ⊢
 have : (2 : Nat) ^ 8 = 256 := rfl
 unfold wrap64
 omega
theorem path_any (k : Nat) (A : Option Addr) (c : Nat) (l : List ByteArray) (i : Nat) (p : List ByteArray) (w : World) (base : Nat) (hG : GL w) (hr : Kd.R Kd.string 9 w base (fun _ => True) (.slice A l.length c) l) (h : PG2.tree_Path.f k l (i : Int) = some (p, 0)) :
    Calls Tryd.prog 32 #[.slice A l.length c, .int .i64 (i : Int)] w fun e w' => ∃ v, e = .returned (.tuple #[v, .int .i64 0]) ∧ Kd.R Kd.string 9 w' w.heap.size (fun k => w.heap.size ≤ k) v p ∧ Below w.heap.size w w' := by
  first
    | (refine (PG2.tree_Path.calls k (fun _ => True) A c l (i : Int) p 0 w hG (Kd.R_V hr) h).mono ?_
       rintro e w' ⟨v, rfl, hp, hb⟩
       exact ⟨v, rfl, hp, hb⟩)
    | (refine (PG2.tree_Path.calls k A c l (i : Int) p 0 w hG (Kd.R_reads' hr).2.2 (Kd.R_reads' hr).2.1 h).mono ?_
       rintro e w' ⟨v, rfl, hp, hb⟩
       exact ⟨v, rfl, hp, hb⟩)
structure SgI (w W : World) (secret : ByteArray) (i : Nat) (v : Value) (xs : List ByteArray) : Prop where
  b1 : W.heap[w.heap.size]? = some (.cells #[.string secret] 9 (0, 0))
  b2 : W.heap[w.heap.size + 1]? = some (.cells #[.int .i64 (i : Int)] 3 (0, 0))
  b3 : W.heap[w.heap.size + 1 + 1]? = some (.cells #[.int .i64 0, .slice none 0 0, .slice none 0 0] 53 (0, 0))
  b4 : W.heap[w.heap.size + 1 + 1 + 1]? = some (.cells #[.int .i64 (i : Int), v, .slice none 0 0] 53 (0, 0))
  row : Kd.R Kd.string 9 W w.heap.size (fun k => k ≠ w.heap.size) v xs
  B : Below w.heap.size w W
theorem SgI.lt {w W : World} {secret : ByteArray} {i : Nat} {v : Value} {xs : List ByteArray} (h : SgI w W secret i v xs) : w.heap.size < W.heap.size := blk_lt h.b1
theorem SgI.below {w W W' : World} {secret : ByteArray} {i : Nat} {v : Value} {xs : List ByteArray} (h : SgI w W secret i v xs) (hb : Below W.heap.size W W') : SgI w W' secret i v xs :=
  ⟨blk_below h.b1 hb, blk_below h.b2 hb, blk_below h.b3 hb, blk_below h.b4 hb, Kd.R_below h.row hb, below_step h.B hb⟩
theorem SgI.drew {w W : World} {secret : ByteArray} {i : Nat} {v : Value} {xs : List ByteArray} (h : SgI w W secret i v xs) : SgI w W.drew secret i v xs :=
  ⟨h.b1, h.b2, h.b3, h.b4, Kd.R_drew h.row, below_drew1 h.B⟩
theorem SgI.own {w W W' : World} {secret : ByteArray} {i : Nat} {v : Value} {xs : List ByteArray} {row : Option Nat} (h : SgI w W secret i v xs) (hg : W.grownBy W' row) (hr : ∀ r, row = some r → w.heap.size ≤ r ∧ ∃ o : Obj, W.heap[r]? = some o ∧ o.isCells = false) : SgI w W' secret i v xs := by
 have ne : ∀ {g : Nat} {cs : Array Value} {t : TypeId} {z : Nat × Nat}, W.heap[g]? = some (.cells cs t z) → some g ≠ row := by
  intro g cs t z hc e
  obtain ⟨_, o, ho, hn⟩ := hr g e.symm
  rw [hc] at ho
  cases ho
  cases hn
 refine ⟨blk_grown h.b1 hg (ne h.b1), blk_grown h.b2 hg (ne h.b2), blk_grown h.b3 hg (ne h.b3), blk_grown h.b4 hg (ne h.b4), ?_, h.B.grown hg h.B.size (fun k e => (hr k e).1)⟩
 refine Kd.R_mono (Kd.R_grown (Kd.R_bound h.row) hg ?_) (fun k hk => hk.1)
 rintro k ⟨_, _, _, _, _, cells, hc⟩
 exact ne hc
theorem keeps_below {W W' : World} (hb : Below W.heap.size W W') : KeepsOthers W W' := KeepsOthers.of_grownBy (grown_of_below hb) (fun j o e _ => by cases e)
theorem SgI.ne {w W : World} {secret : ByteArray} {i : Nat} {v : Value} {xs : List ByteArray} (h : SgI w W secret i v xs) {g : Nat} (hg : v.ownBlock = some g) : g ≠ w.heap.size := h.row.1 g hg
theorem SgI.keeps {w W w1 : World} {secret : ByteArray} {i : Nat} {v : Value} {xs : List ByteArray} (h : SgI w W secret i v xs) (hg : W.grownBy w1 v.ownBlock) : KeepsOthers W w1 :=
  KeepsOthers.of_grownBy hg (fun j o e ho => by
    obtain ⟨_, _, _, _, _, cells, hc⟩ := (Kd.R_bound h.row).1 j e
    rw [hc] at ho
    cases ho
    rfl)
structure SgA (w W : World) (secret : ByteArray) (i : Nat) (v v1 : Value) (xs : List ByteArray) : Prop where
  b1 : W.heap[w.heap.size]? = some (.cells #[.string secret] 9 (0, 0))
  b2 : W.heap[w.heap.size + 1]? = some (.cells #[.int .i64 (i : Int)] 3 (0, 0))
  b3 : W.heap[w.heap.size + 1 + 1]? = some (.cells #[.int .i64 0, .slice none 0 0, .slice none 0 0] 53 (0, 0))
  b4 : W.heap[w.heap.size + 1 + 1 + 1]? = some (.cells #[.int .i64 (i : Int), v, .slice none 0 0] 53 (0, 0))
  row : Kd.R Kd.string 9 W w.heap.size (fun k => k ≠ w.heap.size) v1 xs
  B : Below w.heap.size w W
theorem SgI.appended {w W w1 : World} {secret : ByteArray} {i : Nat} {v v1 : Value} {xs ys : List ByteArray} (h : SgI w W secret i v xs) (ho : Kd.R Kd.string 9 w1 w.heap.size (fun k => k ≠ w.heap.size) v1 ys) (hb : Below w.heap.size w w1) (hg : W.grownBy w1 v.ownBlock) : SgA w w1 secret i v v1 ys :=
  ⟨blk_grown h.b1 hg (fun e => h.ne e.symm rfl), blk_grown h.b2 hg (Kd.R_ne h.row h.b2 (by decide)), blk_grown h.b3 hg (Kd.R_ne h.row h.b3 (by decide)), blk_grown h.b4 hg (Kd.R_ne h.row h.b4 (by decide)), ho, hb⟩
theorem SgA.stored {w W : World} {secret : ByteArray} {i : Nat} {v v1 : Value} {xs : List ByteArray} (h : SgA w W secret i v v1 xs) : SgI w (W.setCell ⟨w.heap.size + 1 + 1 + 1, 1, none⟩ v1) secret i v1 xs :=
  ⟨blk_far h.b1 (by show w.heap.size ≠ w.heap.size + 1 + 1 + 1; omega) _, blk_far h.b2 (by show w.heap.size + 1 ≠ w.heap.size + 1 + 1 + 1; omega) _, blk_far h.b3 (by show w.heap.size + 1 + 1 ≠ w.heap.size + 1 + 1 + 1; omega) _,
    blk_put h.b4 1 _ rfl, Kd.R_mono (Kd.R_far (p := ⟨w.heap.size + 1 + 1 + 1, 1, none⟩) (Kd.R_types h.row h.b4 (by decide)) (fun _ hk => hk.2) v1) (fun _ hk => hk.1), below_set h.B (by omega)⟩
set_option maxRecDepth 100000 in
set_option maxHeartbeats 8000000 in
theorem sign_ok (secret message : ByteArray) (h i : Nat) (hm : message.size ≤ 4611686018427387904) (hh : h ≤ 8) (hi : i < 2 ^ h) (st ch : Fin 18 → ByteArray) (hst : ∀ k : Fin 18, PG3.seal_start.f secret (i : Int) (k.val : Int) = some (st k)) (hch : ∀ k : Fin 18, ∃ K, PG3.digest_Chain.f K (st k) (Pl.dg message k.val : Int) = some (ch k)) (kk kp : Nat) (ks p : List ByteArray) (hks : PG3.seal_keys.f kk secret (h : Int) = some ks) (hp : PG2.tree_Path.f kp ks (i : Int) = some (p, 0)) (w : World) (hG : GL w) : Calls Tryd.prog 44 #[.string secret, .int .i64 (h : Int), .int .i64 (i : Int), .string message] w fun e w' =>
    ∃ v1 v2 : Value, e = .returned (.tuple #[.agg #[.int .i64 (i : Int), v1, v2], .int .i64 0]) ∧ Kd.R Kd.string 9 w' w.heap.size (fun k_ => some k_ ≠ v2.ownBlock) v1 (List.map ch Pl.K18) ∧ Kd.R Kd.string 9 w' w.heap.size (fun k_ => some k_ ≠ v1.ownBlock) v2 p ∧ Below w.heap.size w w' := by
 refine calls_of_wp_marks Tryd.func44 rfl ?_
 simp only [Tryd.ntmps44, List.size_toArray, List.length_cons, List.length_nil, Nat.reduceAdd, Nat.reduceSub, Array.replicate_succ, Array.replicate_zero, List.push_toArray, List.append_toArray, List.nil_append, List.cons_append]
 have c1 : decide ((h : Int) < 0) = false := decide_eq_false (by omega)
 have c2 : decide ((h : Int) > 8) = false := decide_eq_false (by omega)
 have c3 : decide ((i : Int) < 0) = false := decide_eq_false (by omega)
 have c4 : decide (wrap64 (2 ^ h) ≤ (i : Int)) = false := decide_eq_false (by rw [two_pow_wrap h hh]; omega)
 have HG := Lib.hid hG
 clear hG
 go_wp2_with fail
 have B1 : (((w.alloc (Obj.cells #[Value.string secret] 9)).alloc (Obj.cells #[Value.int IntKind.i64 (i : Int)] 3)).alloc (Obj.cells #[Value.int IntKind.i64 0, Value.slice none 0 0, Value.slice none 0 0] 53)).heap[w.heap.size]? = some (.cells #[.string secret] 9 (0, 0)) := blk_alloc (blk_alloc (blk_new w _) _) _
 have B2 : (((w.alloc (Obj.cells #[Value.string secret] 9)).alloc (Obj.cells #[Value.int IntKind.i64 (i : Int)] 3)).alloc (Obj.cells #[Value.int IntKind.i64 0, Value.slice none 0 0, Value.slice none 0 0] 53)).heap[w.heap.size + 1]? = some (.cells #[.int .i64 (i : Int)] 3 (0, 0)) := blk_alloc (by have := blk_new (w.alloc (Obj.cells #[Value.string secret] 9)) (.cells #[.int .i64 (i : Int)] 3 (0, 0)); rwa [World.size_alloc] at this) _
 have B3 : (((w.alloc (Obj.cells #[Value.string secret] 9)).alloc (Obj.cells #[Value.int IntKind.i64 (i : Int)] 3)).alloc (Obj.cells #[Value.int IntKind.i64 0, Value.slice none 0 0, Value.slice none 0 0] 53)).heap[w.heap.size + 1 + 1]? = some (.cells #[.int .i64 0, .slice none 0 0, .slice none 0 0] 53 (0, 0)) := by
  have := blk_new ((w.alloc (Obj.cells #[Value.string secret] 9)).alloc (Obj.cells #[Value.int IntKind.i64 (i : Int)] 3)) (.cells #[.int .i64 0, .slice none 0 0, .slice none 0 0] 53 (0, 0)); rwa [World.size_alloc, World.size_alloc] at this
 have HB : Below w.heap.size w (((w.alloc (Obj.cells #[Value.string secret] 9)).alloc (Obj.cells #[Value.int IntKind.i64 (i : Int)] 3)).alloc (Obj.cells #[Value.int IntKind.i64 0, Value.slice none 0 0, Value.slice none 0 0] 53)) := below_alloc (below_alloc (below_alloc (Below.refl _ _) _) _) _
 have HS3 : (((w.alloc (Obj.cells #[Value.string secret] 9)).alloc (Obj.cells #[Value.int IntKind.i64 (i : Int)] 3)).alloc (Obj.cells #[Value.int IntKind.i64 0, Value.slice none 0 0, Value.slice none 0 0] 53)).heap.size = w.heap.size + 1 + 1 + 1 := by simp [World.size_alloc]
 generalize (((w.alloc (Obj.cells #[Value.string secret] 9)).alloc (Obj.cells #[Value.int IntKind.i64 (i : Int)] 3)).alloc (Obj.cells #[Value.int IntKind.i64 0, Value.slice none 0 0, Value.slice none 0 0] 53)) = w3 at B1 B2 B3 HB HS3 ⊢
 have hc2 : w3.cell? ⟨w.heap.size + 1, 0, none⟩ = some (.int .i64 (i : Int)) := (blk_cell B2 0).trans rfl
 go_quiet (fail)
 have hs3 : w3.heap.size = w.heap.size + 1 + 1 + 1 := HS3
 have B1 := blk_drewN B1 nq
 have B2 := blk_drewN B2 nq
 have B3 := blk_drewN B3 nq
 have HB := pw_below_drewN HB nq
 have hs3 : (w3.drewN nq).heap.size = w.heap.size + 1 + 1 + 1 := hs3
 clear HS3 hc2
 generalize w3.drewN nq = w4 at B1 B2 B3 HB hs3 ⊢
 have hc2 : w4.cell? ⟨w.heap.size + 1, 0, none⟩ = some (.int .i64 (i : Int)) := (blk_cell B2 0).trans rfl
 go_wp2_with fail
 refine (seal_digits_any message _).mono ?_
 rintro e w5 ⟨rfl, rfl⟩
 go_wp2_with fail
 have B4 : ((w4.alloc (Obj.cells #[Value.int IntKind.i64 (i : Int), Value.slice none 0 0, Value.slice none 0 0] 53)).alloc (Obj.cells #[Value.string message] 9)).heap[w.heap.size + 1 + 1 + 1]? = some (.cells #[.int .i64 (i : Int), .slice none 0 0, .slice none 0 0] 53 (0, 0)) :=
  blk_alloc (by have := blk_new w4 (.cells #[.int .i64 (i : Int), .slice none 0 0, .slice none 0 0] 53 (0, 0)); rwa [hs3] at this) _
 have B5 : ((w4.alloc (Obj.cells #[Value.int IntKind.i64 (i : Int), Value.slice none 0 0, Value.slice none 0 0] 53)).alloc (Obj.cells #[Value.string message] 9)).heap[w.heap.size + 1 + 1 + 1 + 1]? = some (.cells #[.string message] 9 (0, 0)) := by
  have := blk_new (w4.alloc (Obj.cells #[Value.int IntKind.i64 (i : Int), Value.slice none 0 0, Value.slice none 0 0] 53)) (.cells #[.string message] 9 (0, 0)); rwa [World.size_alloc, hs3] at this
 have SG0 : SgI w ((w4.alloc (Obj.cells #[Value.int IntKind.i64 (i : Int), Value.slice none 0 0, Value.slice none 0 0] 53)).alloc (Obj.cells #[Value.string message] 9)) secret i (.slice none 0 0) [] :=
  ⟨blk_alloc (blk_alloc B1 _) _, blk_alloc (blk_alloc B2 _) _, blk_alloc (blk_alloc B3 _) _, B4, Kd.R_nil _ _ _ _ _, below_alloc (below_alloc HB _) _⟩
 clear B1 B2 B3 B4 HB hs3 hc2
 generalize ((w4.alloc (Obj.cells #[Value.int IntKind.i64 (i : Int), Value.slice none 0 0, Value.slice none 0 0] 53)).alloc (Obj.cells #[Value.string message] 9)) = w6 at SG0 B5 ⊢
 have hG6 := HG.out.below SG0.B
 refine (wpIn_wide (n := 3)).1 ?_
 refine wpIn_rangeFunc_ownF (F := Fence.wide) (n := 3) rfl (by omega) (gf := 106) (lb := #[.pointer (some ⟨w.heap.size + 1 + 1 + 1 + 1, 0, none⟩)]) rfl trivial (enters_of Tryd.func106 (by kernel_rfl) rfl)
  (digits_stops message hm (3 - 1) (w.heap.size + 1 + 1 + 1 + 1) (fun _ _ => True) w6 hG6 ((blk_cell B5 0).trans rfl) (blk_lt B5)) (fun _ _ => trivial) (fun _ _ _ _ _ _ _ _ => trivial) (Below.refl _ _) (fun _ => rfl)
  (fun pre W => ∃ v, SgI w W secret i v (pre.map ch)) (fun _ _ _ => False)
  (by
   rintro s A B row ⟨v, hs⟩ hg hr
   exact ⟨v, hs.own hg (fun r e => ⟨Nat.le_trans SG0.B.size (hr r e).1, (hr r e).2⟩)⟩)
  (fun _ _ _ _ _ hs _ _ => hs) ⟨_, SG0⟩
  (fun x => { tmps := #[.string secret, .int .i64 (h : Int), .int .i64 (i : Int), .string message, .pointer (some ⟨w.heap.size, 0, none⟩), undef, .pointer (some ⟨w.heap.size + 1, 0, none⟩), undef, .pointer (some ⟨w.heap.size + 1 + 1, 0, none⟩), .int .i64 0, .pointer (some ⟨w.heap.size + 1 + 1 + 1, 0, none⟩), .int .i64 (x.val : Int), .int .i64 (Pl.dg message x.val : Int), .int .i64 (h : Int), .bool false, .bool false, .int .i64 (h : Int), .bool false, .bool false, .bool false, .int .i64 (i : Int), .bool false, .bool false, .bool false, .int .i64 (i : Int), .int .i64 (h : Int), .int .i64 (wrap64 (2 ^ h)), .bool false, .bool false, undef, .int .i64 (i : Int), .agg #[.int .i64 (i : Int), .slice none 0 0, .slice none 0 0], .string message, .func (.func 106) #[] #[.pointer (some ⟨w.heap.size + 1 + 1 + 1 + 1, 0, none⟩)], .int .i64 (x.val : Int), .int .i64 (Pl.dg message x.val : Int), undef, undef, undef, undef, undef, undef, undef, undef, undef, undef, undef, undef, undef, undef, undef, undef, undef, undef, undef, undef, undef], defers := [] }) ?assign ?body ?done ?stop
 case assign =>
  intro l x W K hK
  gi_wp2
  exact hK
 case body =>
  rintro l pre x W ⟨v, hsg⟩ hlt
  obtain ⟨kx, hkx⟩ := hch x
  have KO := Lib.hid (KeepsOthers.drew W)
  have SG := Lib.hid hsg.drew
  clear hsg
  refine wpIn_block ?_
  refine startR_ (n := 12) (S := fun w' => w'.cell? ⟨w.heap.size + 1 + 1 + 1, 1, none⟩ = some v ∧ w'.cell? ⟨w.heap.size, 0, none⟩ = some (.string secret) ∧ w'.cell? ⟨w.heap.size + 1, 0, none⟩ = some (.int .i64 (i : Int))) (ds := [9, 11])
   (fT 0 12) (fun ⟨_, _, hh⟩ => hh) (by kernel_rfl) (by kernel_rfl) rfl rfl ⟨(blk_cell SG.out.b4 1).trans rfl, (blk_cell SG.out.b1 0).trans rfl, (blk_cell SG.out.b2 0).trans rfl⟩ (fun hHeld => ?_)
  generalize hWd : W.drew = w7 at SG KO hHeld ⊢
  clear hWd
  refine pure_ (i := 0) (N := some 36) (v := ?_) (a' := ?_) (fT 1 12) rfl rfl (by kernel_rfl) (fun _ _ _ h => h) (Or.inl ⟨by rfl, ?_⟩) ?_ ?_
  rotate_left
  ·intro w'; go_simp; with_reducible rfl
  rotate_left
  ·simp only [Act.put, sq1, sq2, sq3, i64_w, i32_w]; rfl
  refine pure_ (i := 4) (N := some 40) (v := ?_) (a' := ?_) #[tt,ff,ff,ff,tt,ff,ff,ff,ff,ff,ff,ff] rfl rfl (by kernel_rfl) (fun _ _ _ h => h) (Or.inl ⟨by rfl, ?_⟩) ?_ ?_
  rotate_left
  ·intro w'; go_simp; with_reducible rfl
  rotate_left
  ·simp only [Act.put, sq1, sq2, sq3, i64_w, i32_w]; rfl
  refine pure_ (i := 6) (N := some 42) (v := ?_) (a' := ?_) #[tt,ff,ff,ff,tt,ff,tt,ff,ff,ff,ff,ff] rfl rfl (by kernel_rfl) (fun _ _ _ h => h) (Or.inl ⟨by rfl, ?_⟩) ?_ ?_
  rotate_left
  ·intro w'; go_simp; with_reducible rfl
  rotate_left
  ·simp only [Act.put, sq1, sq2, sq3, i64_w, i32_w]; rfl
  refine take_ (i := 1) (N := some 37) (v := ?_) (a' := ?_) #[tt,tt,ff,ff,tt,ff,tt,ff,ff,ff,ff,ff] rfl rfl (by kernel_rfl) (fun _ _ _ h => h) (Or.inl ⟨by rfl, ?_⟩) hHeld ?_ ?_
  rotate_left
  ·rintro w' ⟨s0, s1, s2⟩; go_simp; with_reducible rfl
  rotate_left
  ·simp only [Act.put, sq1, sq2, sq3, i64_w, i32_w]; rfl
  refine take_ (i := 2) (N := some 38) (v := ?_) (a' := ?_) #[tt,tt,tt,ff,tt,ff,tt,ff,ff,ff,ff,ff] rfl rfl (by kernel_rfl) (fun _ _ _ h => h) (Or.inl ⟨by rfl, ?_⟩) hHeld ?_ ?_
  rotate_left
  ·rintro w' ⟨s0, s1, s2⟩; go_simp; with_reducible rfl
  rotate_left
  ·simp only [Act.put, sq1, sq2, sq3, i64_w, i32_w]; rfl
  refine take_ (i := 3) (N := some 39) (v := ?_) (a' := ?_) #[tt,tt,tt,tt,tt,ff,tt,ff,ff,ff,ff,ff] rfl rfl (by kernel_rfl) (fun _ _ _ h => h) (Or.inl ⟨by rfl, ?_⟩) hHeld ?_ ?_
  rotate_left
  ·rintro w' ⟨s0, s1, s2⟩; go_simp; with_reducible rfl
  rotate_left
  ·simp only [Act.put, sq1, sq2, sq3, i64_w, i32_w]; rfl
  refine one_ (i := 5) (N := some 41) (fT 7 12) rfl rfl (by kernel_rfl) (by decide) (fun K hK => ?_)
  refine goes_ Tryd.func77 (by kernel_rfl) rfl #[.string secret, .int .i64 (i : Int), .int .i64 (x.val : Int)] (by rfl) rfl rfl (by (try simp only [List.map_toArray, List.map_cons, List.map_nil]); first | done | rfl) ?_
  refine (PG3.seal_start.calls secret (i : Int) (x.val : Int) (st x) _ (HG.out.below SG.out.B) (hst x)).mono ?_
  rintro e w8 ⟨rfl, hb⟩
  refine ⟨_, rfl, ?_⟩
  have SG1 := Lib.hid (SG.out.below hb)
  have KO1 := Lib.hid (KO.out.trans (keeps_below hb))
  clear SG KO hb; have SG := SG1; have KO := KO1; clear SG1 KO1
  refine hK.out _ _ ⟨(blk_cell SG.out.b4 1).trans rfl, (blk_cell SG.out.b1 0).trans rfl, (blk_cell SG.out.b2 0).trans rfl⟩ (fun hHeld => ?_)
  clear hK K
  refine norm_ (a' := ?_) ?_ ?_
  rotate_left
  ·show Act.put _ (some 41) _ = _
   simp only [Act.put, sq1, sq2, sq3, i64_w, i32_w]; rfl
  refine one_ (i := 7) (N := some 43) (fT 8 12) rfl rfl (by kernel_rfl) (by decide) (fun K hK => ?_)
  refine goes_ Tryd.func24 (by kernel_rfl) rfl #[.string (st x), .int .i64 (Pl.dg message x.val : Int)] (by rfl) rfl rfl (by (try simp only [List.map_toArray, List.map_cons, List.map_nil]); first | done | rfl) ?_
  refine (PG3.digest_Chain.calls kx (st x) (Pl.dg message x.val : Int) (ch x) _ (HG.out.below SG.out.B) hkx).mono ?_
  rintro e w8 ⟨rfl, hb⟩
  refine ⟨_, rfl, ?_⟩
  have SG1 := Lib.hid (SG.out.below hb)
  have KO1 := Lib.hid (KO.out.trans (keeps_below hb))
  clear SG KO hb; have SG := SG1; have KO := KO1; clear SG1 KO1
  refine hK.out _ _ ⟨(blk_cell SG.out.b4 1).trans rfl, (blk_cell SG.out.b1 0).trans rfl, (blk_cell SG.out.b2 0).trans rfl⟩ (fun hHeld => ?_)
  clear hK K
  refine norm_ (a' := ?_) ?_ ?_
  rotate_left
  ·show Act.put _ (some 43) _ = _
   simp only [Act.put, sq1, sq2, sq3, i64_w, i32_w]; rfl
  refine one_ (i := 8) (N := some 44) (fT 9 12) rfl rfl (by kernel_rfl) (by decide) (fun K hK => ?_)
  refine value_ (w1 := ?_) (v := ?_) (by rfl) rfl ?_ ?_
  rotate_left 2
  ·go_simp
   constructor
   ·rfl
   ·rfl
  refine hK.out _ _ ⟨(blk_cell (blk_alloc SG.out.b4 _) 1).trans rfl, (blk_cell (blk_alloc SG.out.b1 _) 0).trans rfl, (blk_cell (blk_alloc SG.out.b2 _) 0).trans rfl⟩ (fun hHeld => ?_)
  clear hK K
  refine norm_ (a' := ?_) ?_ ?_
  rotate_left
  ·show Act.put _ (some 44) _ = _
   simp only [Act.put, sq1, sq2, sq3, i64_w, i32_w]; rfl
  refine last_ (i := 9) (N := some 45) (fT 10 12) rfl rfl (by kernel_rfl) (by decide) (fun K hK => ?_)
  refine Kd.R_append_step Kd.string (w0 := w) w.heap.size (by rfl) (.tmp 37) (.tmp 44) 22 9 (.string ⟨#[]⟩) 16 rfl Tryd.underlying22 PG3.info9 rfl (by decide) (by omega) v (pre.map ch) (ch x) [.string (ch x)] (fun k => k ≠ w.heap.size) (fun _ => False) rfl rfl ?aP (fun _ hk => hk.elim) ?aF SG.out.row SG.out.B SG.out.B.size ?aL ?_
  case aP => exact rfl
  case aF => exact fun k hk => by have := SG.out.lt; omega
  case aL => rw [List.length_map]; omega
  intro v1 w9 ho hb hg hat
  have SG1 := Lib.hid (SG.out.appended ho hb hg)
  have KO1 := Lib.hid (KO.out.trans (SG.out.keeps hg))
  clear ho hb hg hat SG KO
  obtain ⟨Ao, co, eo⟩ := Kd.R_slice SG1.out.row
  subst eo
  refine hK.out _ _ ?_
  clear hK K
  refine norm_ (a' := ?_) ?_ ?_
  rotate_left
  ·show Act.put _ (some 45) _ = _
   simp only [Act.put, sq1, sq2, sq3, i64_w, i32_w]; rfl
  refine pure_ (i := 10) (N := some 46) (v := ?_) (a' := ?_) (fT 11 12) rfl rfl (by kernel_rfl) (fun _ _ _ h => h) (Or.inl ⟨by rfl, ?_⟩) ?_ ?_
  rotate_left
  ·intro w'; go_simp; with_reducible rfl
  rotate_left
  ·simp only [Act.put, sq1, sq2, sq3, i64_w, i32_w]; rfl
  refine last_ (i := 11) (N := none) (fT 12 12) rfl rfl (by kernel_rfl) (by decide) (fun K hK => ?_)
  have hs30 := (blk_cell SG1.out.b4 1).trans rfl
  have hfs30 := blk_frozen SG1.out.b4 1
  refine skip_ (w1 := ?_) (by rfl) rfl ?_ ?_
  rotate_left
  ·go_simp; rfl
  refine hK.out _ _ ?_
  clear hK K
  refine done_ (by kernel_rfl) ?_
  exact ⟨KO1.out.trans (KeepsOthers.setCell _ _ _), trivial, .slice Ao (pre.length + 1) co, by have h9 := SG1.out.stored; simp only [List.length_append, List.length_map, List.length_singleton] at h9; rw [List.map_append]; exact h9⟩
 case done =>
  rintro D xs W hD rfl ⟨v, hsg⟩ hK
  obtain ⟨Av, cv, rfl⟩ := Kd.R_slice hsg.row
  have SG := Lib.hid hsg.drew
  have KD : Hid (W.drew.heap[D]? = some (.deferred (some []))) := Lib.hid hK
  have HD := Lib.hid (Nat.le_trans SG0.B.size hD)
  clear hsg hK hD
  go_wp2_with fail
  refine wp_only ?_
  refine start_ (n := 10) (S := fun w' => w'.cell? ⟨w.heap.size, 0, none⟩ = some (.string secret) ∧ w'.cell? ⟨w.heap.size + 1, 0, none⟩ = some (.int .i64 (i : Int))) (ds := [9])
   #[ff,ff,ff,ff,ff,ff,ff,ff,ff,ff] (by kernel_rfl) rfl rfl ⟨(blk_cell SG.out.b1 0).trans rfl, (blk_cell SG.out.b2 0).trans rfl⟩ (fun hHeld => ?_)
  generalize hWd : W.drew = w7 at SG KD hHeld ⊢
  clear hWd
  refine pure_ (i := 1) (N := some 49) (v := ?_) (a' := ?_) #[ff,tt,ff,ff,ff,ff,ff,ff,ff,ff] rfl rfl (by kernel_rfl) (fun _ _ _ h => h) (Or.inl ⟨by rfl, ?_⟩) ?_ ?_
  rotate_left
  ·intro w'; go_simp; with_reducible rfl
  rotate_left
  ·simp only [Act.put, sq1, sq2, sq3, i64_w, i32_w]; rfl
  refine take_ (i := 0) (N := some 48) (v := ?_) (a' := ?_) #[tt,tt,ff,ff,ff,ff,ff,ff,ff,ff] rfl rfl (by kernel_rfl) (fun _ _ _ h => h) (Or.inl ⟨by rfl, ?_⟩) hHeld ?_ ?_
  rotate_left
  ·rintro w' ⟨s0, s1⟩; go_simp; with_reducible rfl
  rotate_left
  ·simp only [Act.put, sq1, sq2, sq3, i64_w, i32_w]; rfl
  refine take_ (i := 3) (N := some 51) (v := ?_) (a' := ?_) #[tt,tt,ff,tt,ff,ff,ff,ff,ff,ff] rfl rfl (by kernel_rfl) (fun _ _ _ h => h) (Or.inl ⟨by rfl, ?_⟩) hHeld ?_ ?_
  rotate_left
  ·rintro w' ⟨s0, s1⟩; go_simp; with_reducible rfl
  rotate_left
  ·simp only [Act.put, sq1, sq2, sq3, i64_w, i32_w]; rfl
  refine one_ (i := 2) (N := some 50) #[tt,tt,tt,tt,ff,ff,ff,ff,ff,ff] rfl rfl (by kernel_rfl) (by decide) (fun K hK => ?_)
  refine goes_ Tryd.func75 (by kernel_rfl) rfl #[.string secret, .int .i64 (h : Int)] (by rfl) rfl rfl (by (try simp only [List.map_toArray, List.map_cons, List.map_nil]); first | done | rfl) ?_
  refine (PG3.seal_keys.calls kk secret (h : Int) ks _ (HG.out.below SG.out.B) hks).mono ?_
  rintro e w8 ⟨vk, rfl, hrk, hb⟩
  refine ⟨_, rfl, ?_⟩
  have SG1 := Lib.hid (SG.out.below hb)
  have KD1 := Lib.hid (blk_below KD.out hb)
  obtain ⟨Ak, ck, rfl⟩ := Kd.R_slice hrk
  have RK := Lib.hid hrk
  clear hrk; clear SG KD hb; have SG := SG1; have KD := KD1; clear SG1 KD1
  refine hK.out _ _ ⟨(blk_cell SG.out.b1 0).trans rfl, (blk_cell SG.out.b2 0).trans rfl⟩ (fun hHeld => ?_)
  clear hK K
  refine norm_ (a' := ?_) ?_ ?_
  rotate_left
  ·show Act.put _ (some 50) _ = _
   simp only [Act.put, sq1, sq2, sq3, i64_w, i32_w]; rfl
  refine one_ (i := 4) (N := some 52) #[tt,tt,tt,tt,tt,ff,ff,ff,ff,ff] rfl rfl (by kernel_rfl) (by decide) (fun K hK => ?_)
  refine goes_ Tryd.func32 (by kernel_rfl) rfl #[.slice Ak ks.length ck, .int .i64 (i : Int)] (by rfl) rfl rfl (by (try simp only [List.map_toArray, List.map_cons, List.map_nil]); first | done | rfl) ?_
  refine (path_any kp Ak ck ks i p _ _ (HG.out.below SG.out.B) RK.out hp).mono ?_
  rintro e w9 ⟨vp, rfl, hrp, hb⟩
  refine ⟨_, rfl, ?_⟩
  have SG1 := Lib.hid (SG.out.below hb)
  have KD1 := Lib.hid (blk_below KD.out hb)
  obtain ⟨Ap, cp, rfl⟩ := Kd.R_slice hrp
  have RV := Lib.hid (Kd.R_below (Kd.R_bound SG.out.row) hb)
  have H8 := Lib.hid SG.out.B.size
  have RP := Lib.hid hrp
  clear hrp RK; clear SG KD hb; have SG := SG1; have KD := KD1; clear SG1 KD1
  refine hK.out _ _ ⟨(blk_cell SG.out.b1 0).trans rfl, (blk_cell SG.out.b2 0).trans rfl⟩ (fun hHeld => ?_)
  clear hK K
  refine norm_ (a' := ?_) ?_ ?_
  rotate_left
  ·show Act.put _ (some 52) _ = _
   simp only [Act.put, sq1, sq2, sq3, i64_w, i32_w]; rfl
  refine pure_ (i := 5) (N := some 47) (v := ?_) (a' := ?_) #[tt,tt,tt,tt,tt,tt,ff,ff,ff,ff] rfl rfl (by kernel_rfl) (fun _ _ _ h => h) (Or.inl ⟨by rfl, ?_⟩) ?_ ?_
  rotate_left
  ·intro w'; go_simp; with_reducible rfl
  rotate_left
  ·simp only [Act.put, sq1, sq2, sq3, i64_w, i32_w]; rfl
  refine pure_ (i := 6) (N := some 53) (v := ?_) (a' := ?_) #[tt,tt,tt,tt,tt,tt,tt,ff,ff,ff] rfl rfl (by kernel_rfl) (fun _ _ _ h => h) (Or.inl ⟨by rfl, ?_⟩) ?_ ?_
  rotate_left
  ·intro w'; go_simp; with_reducible rfl
  rotate_left
  ·simp only [Act.put, sq1, sq2, sq3, i64_w, i32_w]; rfl
  refine pure_ (i := 7) (N := some 54) (v := ?_) (a' := ?_) #[tt,tt,tt,tt,tt,tt,tt,tt,ff,ff] rfl rfl (by kernel_rfl) (fun _ _ _ h => h) (Or.inl ⟨by rfl, ?_⟩) ?_ ?_
  rotate_left
  ·intro w'; go_simp; with_reducible rfl
  rotate_left
  ·simp only [Act.put, sq1, sq2, sq3, i64_w, i32_w]; rfl
  refine pure_ (i := 8) (N := some 55) (v := ?_) (a' := ?_) #[tt,tt,tt,tt,tt,tt,tt,tt,tt,ff] rfl rfl (by kernel_rfl) (fun _ _ _ h => h) (Or.inl ⟨by rfl, ?_⟩) ?_ ?_
  rotate_left
  ·intro w'; go_simp; with_reducible rfl
  rotate_left
  ·simp only [Act.put, sq1, sq2, sq3, i64_w, i32_w]; rfl
  refine last_ (i := 9) (N := none) #[tt,tt,tt,tt,tt,tt,tt,tt,tt,tt] rfl rfl (by kernel_rfl) (by decide) (fun K hK => ?_)
  have hs30 := (blk_cell SG.out.b4 2).trans rfl
  have hfs30 := blk_frozen SG.out.b4 2
  refine skip_ (w1 := ?_) (by rfl) rfl ?_ ?_
  rotate_left
  ·go_simp; rfl
  refine hK.out _ _ ?_
  clear hK K
  refine done_ (by kernel_rfl) (only_of ?_)
  have NE : ∀ {g : Nat} {cs : Array Value} {ty : TypeId} {z : Nat × Nat}, w9.heap[g]? = some (.cells cs ty z) → D ≠ g := by
   intro g cs ty z hc e
   rw [← e, KD.out] at hc
   cases hc
  have NE4 := NE SG.out.b4
  have NE3 := NE SG.out.b3
  have KD1 := Lib.hid (obj_far KD.out (p := ⟨w.heap.size + 1 + 1 + 1, 2, none⟩) NE4 (.slice Ap p.length cp))
  have B4 := blk_put (cs' := #[.int .i64 (i : Int), .slice Av (List.map ch Pl.K18).length cv, .slice Ap p.length cp]) SG.out.b4 2 (.slice Ap p.length cp) rfl
  have B3 := blk_far (p := ⟨w.heap.size + 1 + 1 + 1, 2, none⟩) SG.out.b3 (by show w.heap.size + 1 + 1 ≠ w.heap.size + 1 + 1 + 1; omega) (.slice Ap p.length cp)
  have HB := Lib.hid (below_set (j := 2) (v := .slice Ap p.length cp) SG.out.B (show w.heap.size ≤ w.heap.size + 1 + 1 + 1 by omega))
  have RW := Lib.hid (Kd.R_far (p := ⟨w.heap.size + 1 + 1 + 1, 2, none⟩) (Kd.R_types RV.out SG.out.b4 (by decide)) (fun _ hk => hk.2) (.slice Ap p.length cp))
  have RQ := Lib.hid (Kd.R_far (p := ⟨w.heap.size + 1 + 1 + 1, 2, none⟩) (Kd.R_types RP.out SG.out.b4 (by decide)) (fun _ hk => hk.2) (.slice Ap p.length cp))
  have HP := Lib.hid RP.out.1
  clear KD SG hHeld hs30 hfs30 RP RV
  generalize hWe : w9.setCell ⟨w.heap.size + 1 + 1 + 1, 2, none⟩ (.slice Ap p.length cp) = w10 at KD1 B4 B3 HB RW RQ ⊢
  clear hWe
  have z0 := (blk_cell B4 0).trans rfl
  have z1 := (blk_cell B4 1).trans rfl
  have z2 := (blk_cell B4 2).trans rfl
  have f0 := blk_frozen B3 0
  have f1 := blk_frozen B3 1
  have f2 := blk_frozen B3 2
  have y0 := (blk_cell B3 0).trans rfl
  have y1 := (blk_cell B3 1).trans rfl
  have y2 := (blk_cell B3 2).trans rfl
  go_wp2
  have hl18 : (List.map ch Pl.K18).length = Pl.K18.length := by rw [List.length_map]
  rw [hl18] at RW
  have RW1 := Kd.R_far (p := ⟨w.heap.size + 1 + 1, 2, none⟩) (Kd.R_far (p := ⟨w.heap.size + 1 + 1, 1, none⟩) (Kd.R_far (p := ⟨w.heap.size + 1 + 1, 0, none⟩) (Kd.R_types RW.out B3 (by decide)) (fun _ hk => hk.2) (.int .i64 (i : Int))) (fun _ hk => hk.2) (.slice Av Pl.K18.length cv)) (fun _ hk => hk.2) (.slice Ap p.length cp)
  have RQ1 := Kd.R_far (p := ⟨w.heap.size + 1 + 1, 2, none⟩) (Kd.R_far (p := ⟨w.heap.size + 1 + 1, 1, none⟩) (Kd.R_far (p := ⟨w.heap.size + 1 + 1, 0, none⟩) (Kd.R_types RQ.out B3 (by decide)) (fun _ hk => hk.2) (.int .i64 (i : Int))) (fun _ hk => hk.2) (.slice Av Pl.K18.length cv)) (fun _ hk => hk.2) (.slice Ap p.length cp)
  have KD2 := obj_far (obj_far (obj_far KD1.out (p := ⟨w.heap.size + 1 + 1, 0, none⟩) NE3 (.int .i64 (i : Int))) (p := ⟨w.heap.size + 1 + 1, 1, none⟩) NE3 (.slice Av Pl.K18.length cv)) (p := ⟨w.heap.size + 1 + 1, 2, none⟩) NE3 (.slice Ap p.length cp)
  have B5 := blk_put (cs' := #[.int .i64 (i : Int), .slice Av Pl.K18.length cv, .slice Ap p.length cp]) (blk_put (cs' := #[.int .i64 (i : Int), .slice Av Pl.K18.length cv, .slice none 0 0]) (blk_put (cs' := #[.int .i64 (i : Int), .slice none 0 0, .slice none 0 0]) B3 0 (.int .i64 (i : Int)) rfl) 1 (.slice Av Pl.K18.length cv) rfl) 2 (.slice Ap p.length cp) rfl
  have HB2 := below_set (j := 2) (v := .slice Ap p.length cp) (below_set (j := 1) (v := .slice Av Pl.K18.length cv) (below_set (j := 0) (v := .int .i64 (i : Int)) HB.out (show w.heap.size ≤ w.heap.size + 1 + 1 by omega)) (show w.heap.size ≤ w.heap.size + 1 + 1 by omega)) (show w.heap.size ≤ w.heap.size + 1 + 1 by omega)
  clear RW RQ KD1 HB z0 z1 z2 f0 f1 f2 y0 y1 y2 B3 B4
  generalize ((w10.setCell ⟨w.heap.size + 1 + 1, 0, none⟩ (.int .i64 (i : Int))).setCell ⟨w.heap.size + 1 + 1, 1, none⟩ (.slice Av Pl.K18.length cv)).setCell ⟨w.heap.size + 1 + 1, 2, none⟩ (.slice Ap p.length cp) = w11 at RW1 RQ1 KD2 B5 HB2 ⊢
  have NC : ∀ {k : Nat} {cells : Array Value} {q : TypeId}, w11.heap[k]? = some (.cells cells q (0, 0)) → some k ≠ some D := by
   intro k cells q hc e
   cases e
   rw [KD2] at hc
   cases hc
  refine postM_leave (D := D) KD2 rfl (results_ct rfl _ _ (w.heap.size + 1 + 1) 53 #[.int .i64 (i : Int), .slice Av Pl.K18.length cv, .slice Ap p.length cp] (0, 0) _ rfl (obj_put B5 NE3) Tryd.underlying53 rfl (by kernel_rfl)) ⟨.slice Av Pl.K18.length cv, .slice Ap p.length cp, rfl, ?_, ?_, ?_⟩
  ·refine Kd.R_mono (Kd.R_grown (Kd.R_bound RW1) (grownBy_putObj' _ _ _) (fun k hk => by obtain ⟨_, _, _, _, _, cells, hc⟩ := hk; exact NC hc)) (fun k hk e => ?_)
   have h1 := hk.1.1.1.2.2.1
   have h2 := HP.out k e.symm
   omega
  ·refine Kd.R_mono (Kd.R_grown (Kd.R_bound (Kd.R_lower RQ1 H8.out)) (grownBy_putObj' _ _ _) (fun k hk => by obtain ⟨_, _, _, _, _, cells, hc⟩ := hk; exact NC hc)) (fun k hk e => ?_)
   have h1 := RW1.1 k e.symm
   have h2 := hk.1.1.1; have h3 := h1.1.1.2.2.1
   omega
  ·exact HB2.grown (grownBy_putObj' _ _ _) HB2.size (fun k e => by cases e; exact HD.out)
 case stop =>
  rintro D c pre W _ _ hh _
  exact hh.elim
end Go.Proofs.YtdlipbfcadmhjaaDoor
