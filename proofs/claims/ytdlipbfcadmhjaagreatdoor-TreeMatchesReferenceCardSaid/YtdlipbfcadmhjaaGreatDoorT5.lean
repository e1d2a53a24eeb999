/- tree.Extends: the closure that climbs a link. -/
import Derived.Test.YtdlipbfcadmhjaaGreatDoorT4d
namespace Go.Proofs.YtdlipbfcadmhjaaGreatDoor
set_option linter.unusedVariables false
set_option linter.unusedSimpArgs false
open Go.RowKit Go.Proofs.YtdlipbfcadmhjaaGreatDoorW.PrintWords Go.Proofs.YtdlipbfcadmhjaaGreatDoorW.PrintMore PG2

/-- The two roots that a link leads to; what is left of the link; was something missing? -/
def Pl.bothP : Nat → Nat → Nat → Bool → ByteArray → List ByteArray → Bool → ByteArray × ByteArray × List ByteArray × Bool
  | 0, _, _, _, old, xs, s => (old, old, xs, s)
  | f + 1, n, m, whole, old, xs, s =>
    if m = n then
      if whole then (old, old, xs, s) else ((Pl.nextP xs s).1, (Pl.nextP xs s).1, (Pl.nextP xs s).2)
    else if m ≤ Pl.half n then
      let q := Pl.bothP f (Pl.half n) m whole old (Pl.nextP xs s).2.1 (Pl.nextP xs s).2.2
      (q.1, Pl.nodeP q.2.1 (Pl.nextP xs s).1, q.2.2)
    else
      let q := Pl.bothP f (n - Pl.half n) (m - Pl.half n) false old (Pl.nextP xs s).2.1 (Pl.nextP xs s).2.2
      (Pl.nodeP (Pl.nextP xs s).1 q.1, Pl.nodeP (Pl.nextP xs s).1 q.2.1, q.2.2)
theorem bothP_size : ∀ (f n m : Nat) (wh : Bool) (old : ByteArray) (xs : List ByteArray) (s : Bool), old.size ≤ 16 → (∀ x ∈ xs, x.size ≤ 16) →
    (Pl.bothP f n m wh old xs s).1.size ≤ 16 ∧ (Pl.bothP f n m wh old xs s).2.1.size ≤ 16 ∧ ∀ x ∈ (Pl.bothP f n m wh old xs s).2.2.1, x.size ≤ 16
  | 0, _, _, _, _, _, _, hd, hx => ⟨hd, hd, hx⟩
  | f + 1, n, m, wh, old, xs, s, hd, hx => by
    have hn := nextP_size xs s hx
    unfold Pl.bothP
    split
    · split
      · exact ⟨hd, hd, hx⟩
      · exact ⟨hn.1, hn.1, hn.2⟩
    · split
      · have h := bothP_size f (Pl.half n) m wh old _ (Pl.nextP xs s).2.2 hd hn.2
        exact ⟨h.1, by rw [nodeP_size]; omega, h.2.2⟩
      · have h := bothP_size f (n - Pl.half n) (m - Pl.half n) false old _ (Pl.nextP xs s).2.2 hd hn.2
        exact ⟨by rw [nodeP_size]; omega, by rw [nodeP_size]; omega, h.2.2⟩

set_option maxHeartbeats 8000000 in
theorem both_any {w0 : World} {base X S V U L : Nat} {old : ByteArray} {A : Option Addr} {c : Nat} (hG : GL w0) (hb : base = w0.heap.size) (hold : old.size ≤ 16) :
    ∀ (f n m : Nat) (wh : Bool) (w : World) (xs : List ByteArray) (s : Bool), n ≤ f → 1 ≤ m → m ≤ n → n ≤ 1000000 → (∀ x ∈ xs, x.size ≤ 16) → CkInv 99 128 w0 w base X S V U L old A c xs s →
      Calls Tryz.prog 99 #[.int .i64 (n : Int), .int .i64 (m : Int), .bool wh, .pointer (some ⟨X, 0, none⟩), .pointer (some ⟨V, 0, none⟩), .pointer (some ⟨U, 0, none⟩)] w fun e w' =>
        e = .returned (.tuple #[.string (Pl.bothP f n m wh old xs s).1, .string (Pl.bothP f n m wh old xs s).2.1]) ∧ CkInv 99 128 w0 w' base X S V U L old A c (Pl.bothP f n m wh old xs s).2.2.1 (Pl.bothP f n m wh old xs s).2.2.2 := by
  intro f
  induction f with
  | zero => intro n m wh w xs s h1 h2; omega
  | succ f ih =>
    intro n m wh w xs s hnf hm1 hmn hnm hxs hI
    have hcX : w.cell? ⟨X, 0, none⟩ = some (.string old) := (blk_cell hI.hX 0).trans rfl
    have hcV : w.cell? ⟨V, 0, none⟩ = some (.pointer (some ⟨S, 0, none⟩)) := (blk_cell hI.hV 0).trans rfl
    have hp := nextP_size xs s hxs
    by_cases h1 : m = n
    · subst h1
      have heq : ((m : Int) == (m : Int)) = true := beq_self_eq_true _
      cases wh with
      | true =>
        rw [show Pl.bothP (f + 1) m m true old xs s = (old, old, xs, s) by rw [Pl.bothP, if_pos rfl, if_pos rfl]]
        have HI := Lib.hid hI
        clear hI
        go_enter Tryz.func99, Tryz.ntmps99
        go_wp2
        go_region
        go_wp2
        go_ret2
        exact ⟨rfl, HI.out.drew⟩
      | false =>
        rw [show Pl.bothP (f + 1) m m false old xs s = ((Pl.nextP xs s).1, (Pl.nextP xs s).1, (Pl.nextP xs s).2) by rw [Pl.bothP, if_pos rfl, if_neg (by simp)]]
        have HI := Lib.hid hI
        clear hI
        go_enter Tryz.func99, Tryz.ntmps99
        go_wp2_with fail
        refine (next_any (F := 99) (tU := 128) (w0 := w0) (base := base) (X := X) (V := V) (U := U) (leaf := old) (A := A) (c := c) (xs := xs) (s := s) (L := L) HI.out).mono ?_
        rintro e w1 ⟨rfl, hI1⟩
        have HI1 := Lib.hid hI1
        clear hI1
        go_wp2
        go_ret2
        exact ⟨rfl, HI1.out⟩
    · have hs := Pl.half_spec (by omega : 2 ≤ n)
      have hne : ((m : Int) == (n : Int)) = false := beq_eq_false_iff_ne.2 (by omega)
      have HI := Lib.hid hI
      clear hI
      by_cases hmk : m ≤ Pl.half n
      · skip
        have hu : Pl.bothP (f + 1) n m wh old xs s = ((Pl.bothP f (Pl.half n) m wh old (Pl.nextP xs s).2.1 (Pl.nextP xs s).2.2).1, Pl.nodeP (Pl.bothP f (Pl.half n) m wh old (Pl.nextP xs s).2.1 (Pl.nextP xs s).2.2).2.1 (Pl.nextP xs s).1, (Pl.bothP f (Pl.half n) m wh old (Pl.nextP xs s).2.1 (Pl.nextP xs s).2.2).2.2) := by
          rw [Pl.bothP, if_neg h1]; simp only [if_pos hmk]
        rw [hu]
        have hz := bothP_size f (Pl.half n) m wh old (Pl.nextP xs s).2.1 (Pl.nextP xs s).2.2 hold hp.2
        generalize hP : Pl.nextP xs s = p at hp hz
        have HP := Lib.hid hP
        generalize hQ : Pl.bothP f (Pl.half n) m wh old p.2.1 p.2.2 = q at hz
        have HQ := Lib.hid hQ
        clear hu hP hQ
        go_enter Tryz.func99, Tryz.ntmps99
        go_wp2_with fail
        go_region_with (first
          | (go_at_call 83; refine (half_any n ?_ ?_ _).mono ?_; omega; omega; rintro e w' ⟨rfl, nd, rfl⟩)
          | (go_at_call 94; refine (next_any (F := 99) (tU := 128) (w0 := w0) (base := base) (X := X) (V := V) (U := U) (leaf := old) (A := A) (c := c) (xs := xs) (s := s) (L := L) ?_).mono ?_; (repeat (first | exact HI.out | apply CkInv.drawn | apply CkInv.drew)); rintro e w' ⟨rfl, hI1⟩))
        all_goals
          have hcU := (blk_cell hI1.hU 0).trans rfl
          rw [HP.out] at hI1
          have HI1 := Lib.hid hI1
          clear hI1
          go_wp2_with fail
          try rw [HP.out]
          refine (ih (Pl.half n) (m) wh _ p.2.1 p.2.2 (by omega) (by omega) (by omega) (by omega) hp.2 HI1.out).mono ?_
          rintro e w2 ⟨rfl, hI2⟩
          rw [HQ.out] at hI2 ⊢
          have hGw : GL w2 := GL.below hG (by rw [← hb]; exact hI2.B)
          have HI2 := Lib.hid hI2
          clear hI2
          go_wp2_with fail
          refine (node_any q.2.1 p.1 hz.2.1 hp.1 w2 hGw).mono ?_
          rintro e w3 ⟨rfl, hb3⟩
          have HI3 := Lib.hid (HI2.out.below hb3)
          clear hb3 hGw
          go_wp2
          go_ret2
          exact ⟨rfl, HI3.out⟩
      · skip
        have F1 := Lib.hid (show (n : Int) - (Pl.half n : Int) = ((n - Pl.half n : Nat) : Int) by omega)
        have F2 := Lib.hid (show (m : Int) - (Pl.half n : Int) = ((m - Pl.half n : Nat) : Int) by omega)
        have E1 := Lib.hid (show wrap64 ((n : Int) - (Pl.half n : Int)) = ((n - Pl.half n : Nat) : Int) by unfold wrap64; omega)
        have E2 := Lib.hid (show wrap64 ((m : Int) - (Pl.half n : Int)) = ((m - Pl.half n : Nat) : Int) by unfold wrap64; omega)
        have hu : Pl.bothP (f + 1) n m wh old xs s = (Pl.nodeP (Pl.nextP xs s).1 (Pl.bothP f (n - Pl.half n) (m - Pl.half n) false old (Pl.nextP xs s).2.1 (Pl.nextP xs s).2.2).1, Pl.nodeP (Pl.nextP xs s).1 (Pl.bothP f (n - Pl.half n) (m - Pl.half n) false old (Pl.nextP xs s).2.1 (Pl.nextP xs s).2.2).2.1, (Pl.bothP f (n - Pl.half n) (m - Pl.half n) false old (Pl.nextP xs s).2.1 (Pl.nextP xs s).2.2).2.2) := by
          rw [Pl.bothP, if_neg h1]; simp only [if_neg hmk]
        rw [hu]
        have hz := bothP_size f (n - Pl.half n) (m - Pl.half n) false old (Pl.nextP xs s).2.1 (Pl.nextP xs s).2.2 hold hp.2
        generalize hP : Pl.nextP xs s = p at hp hz
        have HP := Lib.hid hP
        generalize hQ : Pl.bothP f (n - Pl.half n) (m - Pl.half n) false old p.2.1 p.2.2 = q at hz
        have HQ := Lib.hid hQ
        clear hu hP hQ
        go_enter Tryz.func99, Tryz.ntmps99
        go_wp2_with fail
        go_region_with (first
          | (go_at_call 83; refine (half_any n ?_ ?_ _).mono ?_; omega; omega; rintro e w' ⟨rfl, nd, rfl⟩)
          | (go_at_call 94; refine (next_any (F := 99) (tU := 128) (w0 := w0) (base := base) (X := X) (V := V) (U := U) (leaf := old) (A := A) (c := c) (xs := xs) (s := s) (L := L) ?_).mono ?_; (repeat (first | exact HI.out | apply CkInv.drawn | apply CkInv.drew)); rintro e w' ⟨rfl, hI1⟩))
        all_goals
          have hcU := (blk_cell hI1.hU 0).trans rfl
          rw [HP.out] at hI1
          have HI1 := Lib.hid hI1
          clear hI1
          go_wp2_with fail
          try rw [HP.out]
          first | rw [E1.out, E2.out] | rw [F1.out, F2.out] | skip
          refine (ih (n - Pl.half n) (m - Pl.half n) false _ p.2.1 p.2.2 (by omega) (by omega) (by omega) (by omega) hp.2 HI1.out).mono ?_
          rintro e w2 ⟨rfl, hI2⟩
          rw [HQ.out] at hI2 ⊢
          have hGw : GL w2 := GL.below hG (by rw [← hb]; exact hI2.B)
          have HI2 := Lib.hid hI2
          clear hI2
          go_wp2_with fail
          refine (node_any p.1 q.1 hp.1 hz.1 w2 hGw).mono ?_
          rintro e w3 ⟨rfl, hb3⟩
          have hI3 := HI2.out.below hb3
          have hGw3 : GL w3 := GL.below hG (by rw [← hb]; exact hI3.B)
          have HI3 := Lib.hid hI3
          clear hb3 hGw hI3
          go_wp2_with fail
          refine (node_any p.1 q.2.1 hp.1 hz.2.1 w3 hGw3).mono ?_
          rintro e w4 ⟨rfl, hb4⟩
          have HI4 := Lib.hid (HI3.out.below hb4)
          clear hb4 hGw3
          go_wp2
          go_ret2
          exact ⟨rfl, HI4.out⟩
end Go.Proofs.YtdlipbfcadmhjaaGreatDoor
