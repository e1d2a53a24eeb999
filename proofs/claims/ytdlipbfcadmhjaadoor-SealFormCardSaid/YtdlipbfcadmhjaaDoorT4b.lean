/- tree.Check: the closure that climbs a path. -/
import Derived.Test.YtdlipbfcadmhjaaDoorT4
import Derived.Deep.RegionWith
namespace Go.Proofs.YtdlipbfcadmhjaaDoor
set_option linter.unusedVariables false
set_option linter.unusedSimpArgs false
open Go.RowKit Go.Proofs.YtdlipbfcadmhjaaDoorW.PrintWords Go.Proofs.YtdlipbfcadmhjaaDoorW.PrintMore PG2
theorem C_two (w : World) (a b : ByteArray) : Kd.C Kd.string (w.alloc (.cells #[.string a, .string b] 9)) (some ⟨w.heap.size, 0, none⟩) 2 [a, b] := by
 refine ⟨rfl, by omega, fun _ => ⟨⟨w.heap.size, 0, none⟩, rfl, fun j p hj => ⟨[.string p], rfl, rfl, fun i u hu => ?_⟩⟩⟩
 obtain ⟨rfl, rfl⟩ : i = 0 ∧ u = .string p := by
  cases i with
  | zero => simpa using hu.symm
  | succ i => simp at hu
 have hnew := blk_new w (.cells #[.string a, .string b] 9)
 match j, hj with
 | 0, hj => exact (blk_cell hnew 0).trans (congrArg (fun z => some (Value.string z)) (by simpa using hj))
 | 1, hj => exact (blk_cell hnew 1).trans (congrArg (fun z => some (Value.string z)) (by simpa using hj))
theorem CkInv.drew {F tU : Nat} {w0 w : World} {base X S V U L : Nat} {leaf : ByteArray} {A : Option Addr} {c : Nat} {xs : List ByteArray} {s : Bool} (h : CkInv F tU w0 w base X S V U L leaf A c xs s) : CkInv F tU w0 w.drew base X S V U L leaf A c xs s :=
  { h with row := h.row.keep (Nat.le_refl _) (fun _ _ _ _ => rfl), B := below_drew1 h.B }
theorem nextP_nil (s : Bool) : Pl.nextP [] s = (ByteArray.empty, [], true) := rfl
theorem nextP_snoc (xs : List ByteArray) (x : ByteArray) (s : Bool) : Pl.nextP (xs ++ [x]) s = (x, xs, s || x.toList.isEmpty) := by
 simp [Pl.nextP]
theorem next_any {F tU : Nat} {w0 w : World} {base X S V U L : Nat} {leaf : ByteArray} {A : Option Addr} {c : Nat} {xs : List ByteArray} {s : Bool} (h : CkInv F tU w0 w base X S V U L leaf A c xs s) :
    Calls Tryd.prog 66 #[.pointer (some ⟨S, 0, none⟩)] w fun e w' => e = .returned (.string (Pl.nextP xs s).1) ∧ CkInv F tU w0 w' base X S V U L leaf A c (Pl.nextP xs s).2.1 (Pl.nextP xs s).2.2 := by
 rcases List.eq_nil_or_concat xs with rfl | ⟨ys, x, rfl⟩
 ·refine (next_nil w L S c A s h.hL h.hS).mono ?_
  rintro e w' ⟨rfl, rfl⟩
  exact ⟨rfl, h.next0⟩
 ·rw [List.concat_eq_append] at h ⊢
  rw [nextP_snoc]
  rcases h.row with hr | ⟨b, off, rfl, h1, h2, h3, h4⟩
  ·simp at hr
  ·have hcap := h.cap
   simp only [List.length_append, List.length_cons, List.length_nil] at hcap
   have h63 := h.c63
   have hx := h4 ys.length (by simp)
   have hL := h.hL
   simp only [List.length_append, List.length_cons, List.length_nil] at hL
   refine (next_some w L S ys.length c b off x s h.SL (by omega) hcap h63 hL h.hS (by simpa using hx)).mono ?_
   rintro e w' ⟨rfl, rfl⟩
   exact ⟨rfl, h.next1⟩
theorem nextP_size (xs : List ByteArray) (s : Bool) (h : ∀ x ∈ xs, x.size ≤ 16) : (Pl.nextP xs s).1.size ≤ 16 ∧ ∀ x ∈ (Pl.nextP xs s).2.1, x.size ≤ 16 := by
 rcases List.eq_nil_or_concat xs with rfl | ⟨ys, x, rfl⟩
 ·rw [nextP_nil]
  exact ⟨by decide, fun x hx => by cases hx⟩
 ·rw [List.concat_eq_append] at h ⊢
  rw [nextP_snoc]
  exact ⟨h x (by simp), fun y hy => h y (by simp [hy])⟩
theorem upP_size : ∀ (f n i : Nat) (d : ByteArray) (xs : List ByteArray) (s : Bool), d.size ≤ 16 → (∀ x ∈ xs, x.size ≤ 16) → (Pl.upP f n i d xs s).1.size ≤ 16 ∧ ∀ x ∈ (Pl.upP f n i d xs s).2.1, x.size ≤ 16
  | 0, _, _, _, _, _, hd, hx => ⟨hd, hx⟩
  | f + 1, n, i, d, xs, s, hd, hx => by
    have hn := nextP_size xs s hx
    unfold Pl.upP
    split
    · exact ⟨hd, hx⟩
    · simp only
      split
      · exact ⟨by rw [nodeP_size]; omega, (upP_size f _ _ d _ _ hd hn.2).2⟩
      · exact ⟨by rw [nodeP_size]; omega, (upP_size f _ _ d _ _ hd hn.2).2⟩
set_option maxHeartbeats 4000000 in
theorem up_any {w0 : World} {base X S V U L : Nat} {leaf : ByteArray} {A : Option Addr} {c : Nat} (hG : GL w0) (hb : base = w0.heap.size) (hj : (Pl.joined (Pl.leafL leaf)).size ≤ 140737488355328) :
    ∀ (f n i : Nat) (w : World) (xs : List ByteArray) (s : Bool), n ≤ f → 1 ≤ n → n ≤ 1000000 → i < n → (∀ x ∈ xs, x.size ≤ 16) → CkInv 65 88 w0 w base X S V U L leaf A c xs s →
      Calls Tryd.prog 65 #[.int .i64 (n : Int), .int .i64 (i : Int), .pointer (some ⟨X, 0, none⟩), .pointer (some ⟨V, 0, none⟩), .pointer (some ⟨U, 0, none⟩)] w fun e w' =>
        e = .returned (.string (Pl.upP f n i (Pl.leafP leaf) xs s).1) ∧ CkInv 65 88 w0 w' base X S V U L leaf A c (Pl.upP f n i (Pl.leafP leaf) xs s).2.1 (Pl.upP f n i (Pl.leafP leaf) xs s).2.2 := by
 intro f
 induction f with
 | zero => intro n i w xs s h1 h2; omega
 | succ f ih =>
  intro n i w xs s hnf hn1 hnm hin hxs hI
  have hcX : w.cell? ⟨X, 0, none⟩ = some (.string leaf) := (blk_cell hI.hX 0).trans rfl
  have hcV : w.cell? ⟨V, 0, none⟩ = some (.pointer (some ⟨S, 0, none⟩)) := (blk_cell hI.hV 0).trans rfl
  by_cases h1 : n = 1
  ·subst h1
   have hGw : GL w := GL.below hG (by rw [← hb]; exact hI.B)
   have HI := Lib.hid hI
   clear hI
   have HGw := Lib.hid hGw
   clear hGw
   go_enter Tryd.func65, Tryd.ntmps65
   go_wp2_with fail
   refine (digest_List.calls _ 2 (Pl.leafL leaf) (Pl.leafP leaf) _ (GL.below HGw.out (below_alloc (Below.refl _ _) _)) (C_two w _ leaf) (Nat.le_refl 2) (by unfold digest_List.f; rw [if_pos hj]; rfl)).mono ?_
   rintro e w1 ⟨rfl, hb1⟩
   have HB := Lib.hid ((below_alloc (Below.refl _ _) _).trans (hb1.mono (by simp)))
   clear hb1; go_wp2; go_ret
   refine ⟨?_, ?_⟩
   ·rfl
   ·exact HI.out.below HB.out
  ·have hs := Pl.half_spec (by omega : 2 ≤ n)
   have hp := nextP_size xs s hxs
   have hd : (Pl.leafP leaf).size ≤ 16 := by unfold Pl.leafP; rw [Pl.sum_size]; omega
   have HI := Lib.hid hI
   clear hI
   by_cases hik : i < Pl.half n
   ·have hu : Pl.upP (f + 1) n i (Pl.leafP leaf) xs s = (Pl.nodeP (Pl.upP f (Pl.half n) i (Pl.leafP leaf) (Pl.nextP xs s).2.1 (Pl.nextP xs s).2.2).1 (Pl.nextP xs s).1, (Pl.upP f (Pl.half n) i (Pl.leafP leaf) (Pl.nextP xs s).2.1 (Pl.nextP xs s).2.2).2) := by
     rw [Pl.upP, if_neg h1]; simp only [if_pos hik]
    rw [hu]
    have hz := upP_size f (Pl.half n) i (Pl.leafP leaf) (Pl.nextP xs s).2.1 (Pl.nextP xs s).2.2 hd hp.2
    generalize hP : Pl.nextP xs s = p at hp hz
    have HP := Lib.hid hP
    generalize hQ : Pl.upP f (Pl.half n) i (Pl.leafP leaf) p.2.1 p.2.2 = q at hz
    have HQ := Lib.hid hQ
    clear hu hP hQ
    go_enter Tryd.func65, Tryd.ntmps65
    go_wp2_with fail
    go_region_with (first
     | (go_at_call 61; refine (half_any n ?_ ?_ _).mono ?_; omega; omega; rintro e w' ⟨rfl, nd, rfl⟩)
     | (go_at_call 66; refine (next_any (F := 65) (tU := 88) (w0 := w0) (base := base) (X := X) (V := V) (U := U) (leaf := leaf) (A := A) (c := c) (xs := xs) (s := s) (L := L) ?_).mono ?_; (repeat (first | exact HI.out | apply CkInv.drawn | apply CkInv.drew)); rintro e w' ⟨rfl, hI1⟩))
    all_goals
     have hcU := (blk_cell hI1.hU 0).trans rfl
     rw [HP.out] at hI1
     have HI1 := Lib.hid hI1
     clear hI1
     go_wp2_with fail
     try rw [HP.out]
     refine (ih (Pl.half n) (i) _ p.2.1 p.2.2 (by omega) (by omega) (by omega) (by omega) hp.2 HI1.out).mono ?_
     rintro e w2 ⟨rfl, hI2⟩
     rw [HQ.out] at hI2 ⊢
     have hGw : GL w2 := GL.below hG (by rw [← hb]; exact hI2.B)
     have HI2 := Lib.hid hI2
     clear hI2
     go_wp2_with fail
     refine (node_any q.1 p.1 (by first | exact hz.1 | exact hp.1) (by first | exact hz.1 | exact hp.1) w2 hGw).mono ?_
     rintro e w3 ⟨rfl, hb3⟩
     have HI3 := Lib.hid (HI2.out.below hb3)
     clear hb3 hGw; go_wp2; go_ret
     exact ⟨rfl, HI3.out⟩
   ·have hu : Pl.upP (f + 1) n i (Pl.leafP leaf) xs s = (Pl.nodeP (Pl.nextP xs s).1 (Pl.upP f (n - Pl.half n) (i - Pl.half n) (Pl.leafP leaf) (Pl.nextP xs s).2.1 (Pl.nextP xs s).2.2).1, (Pl.upP f (n - Pl.half n) (i - Pl.half n) (Pl.leafP leaf) (Pl.nextP xs s).2.1 (Pl.nextP xs s).2.2).2) := by
     rw [Pl.upP, if_neg h1]; simp only [if_neg hik]
    rw [hu]
    have e1 : wrap64 ((n : Int) - (Pl.half n : Int)) = ((n - Pl.half n : Nat) : Int) := by unfold wrap64; omega
    have e2 : wrap64 ((i : Int) - (Pl.half n : Int)) = ((i - Pl.half n : Nat) : Int) := by unfold wrap64; omega
    have F1 := Lib.hid (show (n : Int) - (Pl.half n : Int) = ((n - Pl.half n : Nat) : Int) by omega)
    have F2 := Lib.hid (show (i : Int) - (Pl.half n : Int) = ((i - Pl.half n : Nat) : Int) by omega)
    have E1 := Lib.hid e1
    have E2 := Lib.hid e2
    clear e1 e2
    have hz := upP_size f (n - Pl.half n) (i - Pl.half n) (Pl.leafP leaf) (Pl.nextP xs s).2.1 (Pl.nextP xs s).2.2 hd hp.2
    generalize hP : Pl.nextP xs s = p at hp hz
    have HP := Lib.hid hP
    generalize hQ : Pl.upP f (n - Pl.half n) (i - Pl.half n) (Pl.leafP leaf) p.2.1 p.2.2 = q at hz
    have HQ := Lib.hid hQ
    clear hu hP hQ
    go_enter Tryd.func65, Tryd.ntmps65
    go_wp2_with fail
    go_region_with (first
     | (go_at_call 61; refine (half_any n ?_ ?_ _).mono ?_; omega; omega; rintro e w' ⟨rfl, nd, rfl⟩)
     | (go_at_call 66; refine (next_any (F := 65) (tU := 88) (w0 := w0) (base := base) (X := X) (V := V) (U := U) (leaf := leaf) (A := A) (c := c) (xs := xs) (s := s) (L := L) ?_).mono ?_; (repeat (first | exact HI.out | apply CkInv.drawn | apply CkInv.drew)); rintro e w' ⟨rfl, hI1⟩))
    all_goals
     have hcU := (blk_cell hI1.hU 0).trans rfl
     rw [HP.out] at hI1
     have HI1 := Lib.hid hI1
     clear hI1
     go_wp2_with fail
     try rw [HP.out]
     first | rw [E1.out, E2.out] | rw [F1.out, F2.out] | trace_state
     refine (ih (n - Pl.half n) (i - Pl.half n) _ p.2.1 p.2.2 (by omega) (by omega) (by omega) (by omega) hp.2 HI1.out).mono ?_
     rintro e w2 ⟨rfl, hI2⟩
     rw [HQ.out] at hI2 ⊢
     have hGw : GL w2 := GL.below hG (by rw [← hb]; exact hI2.B)
     have HI2 := Lib.hid hI2
     clear hI2
     go_wp2_with fail
     refine (node_any p.1 q.1 (by first | exact hz.1 | exact hp.1) (by first | exact hz.1 | exact hp.1) w2 hGw).mono ?_
     rintro e w3 ⟨rfl, hb3⟩
     have HI3 := Lib.hid (HI2.out.below hb3)
     clear hb3 hGw; go_wp2; go_ret
     exact ⟨rfl, HI3.out⟩
end Go.Proofs.YtdlipbfcadmhjaaDoor
