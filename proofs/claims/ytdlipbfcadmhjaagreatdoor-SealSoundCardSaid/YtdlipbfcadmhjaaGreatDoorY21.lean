/- Texts of this claim, in one file. -/
import Derived.Test.YtdlipbfcadmhjaaGreatDoorY19
import Derived.Deep.RegionWith
import Derived.Test.YtdlipbfcadmhjaaGreatDoorWB
import Derived.Laws.EntriesVeiled
set_option linter.unusedSimpArgs false
set_option linter.unusedVariables false
namespace Go.Proofs.YtdlipbfcadmhjaaGreatDoor
open Go.RowKit Go.Proofs.YtdlipbfcadmhjaaGreatDoorW.PrintWords Go.Proofs.YtdlipbfcadmhjaaGreatDoorW.PrintMore PG2

theorem C_two (w : World) (a b : ByteArray) : Kd.C Kd.string (w.alloc (.cells #[.string a, .string b] 9)) (some ⟨w.heap.size, 0, none⟩) 2 [a, b] := by
  refine ⟨rfl, by omega, fun _ => ⟨⟨w.heap.size, 0, none⟩, rfl, fun j p hj => ⟨[.string p], rfl, rfl, fun i u hu => ?_⟩⟩⟩
  obtain ⟨rfl, rfl⟩ : i = 0 ∧ u = .string p := by
    cases i with
    | zero => simpa using hu.symm
    | succ i => simp at hu
  have hnew := blk_new w (.cells #[.string a, .string b] 9)
  match j, hj with
  | 0, hj => exact (blk_cell hnew 0).trans (congrArg (fun z => some (Value.string z)) (by simpa using hj))
  | 1, hj => exact (blk_cell hnew 1).trans (congrArg (fun z => some (Value.string z)) (by simpa using hj))
theorem CkInv.drew {F tU : Nat} {w0 w : World} {base X S V U L : Nat} {leaf : ByteArray} {A : Option Addr} {c : Nat} {xs : List ByteArray} {s : Bool} (h : CkInv F tU w0 w base X S V U L leaf A c xs s) : CkInv F tU w0 w.drew base X S V U L leaf A c xs s :=
  { h with row := h.row.keep (Nat.le_refl _) (fun _ _ _ _ => rfl), B := below_drew1 h.B }
theorem nextP_nil (s : Bool) : Pl.nextP [] s = (ByteArray.empty, [], true) := rfl
theorem nextP_snoc (xs : List ByteArray) (x : ByteArray) (s : Bool) : Pl.nextP (xs ++ [x]) s = (x, xs, s || x.toList.isEmpty) := by
  simp [Pl.nextP]
theorem next_any {F tU : Nat} {w0 w : World} {base X S V U L : Nat} {leaf : ByteArray} {A : Option Addr} {c : Nat} {xs : List ByteArray} {s : Bool} (h : CkInv F tU w0 w base X S V U L leaf A c xs s) :
    Calls Tryz.prog 94 #[.pointer (some ⟨S, 0, none⟩)] w fun e w' => e = .returned (.string (Pl.nextP xs s).1) ∧ CkInv F tU w0 w' base X S V U L leaf A c (Pl.nextP xs s).2.1 (Pl.nextP xs s).2.2 := by
  rcases List.eq_nil_or_concat xs with rfl | ⟨ys, x, rfl⟩
  · refine (next_nil w L S c A s h.hL h.hS).mono ?_
    rintro e w' ⟨rfl, rfl⟩
    exact ⟨rfl, h.next0⟩
  · rw [List.concat_eq_append] at h ⊢
    rw [nextP_snoc]
    rcases h.row with hr | ⟨b, off, rfl, h1, h2, h3, h4⟩
    · simp at hr
    · have hcap := h.cap
      simp only [List.length_append, List.length_cons, List.length_nil] at hcap
      have h63 := h.c63
      have hx := h4 ys.length (by simp)
      have hL := h.hL
      simp only [List.length_append, List.length_cons, List.length_nil] at hL
      refine (next_some w L S ys.length c b off x s h.SL (by omega) hcap h63 hL h.hS (by simpa using hx)).mono ?_
      rintro e w' ⟨rfl, rfl⟩
      exact ⟨rfl, h.next1⟩
theorem nextP_size (xs : List ByteArray) (s : Bool) (h : ∀ x ∈ xs, x.size ≤ 16) : (Pl.nextP xs s).1.size ≤ 16 ∧ ∀ x ∈ (Pl.nextP xs s).2.1, x.size ≤ 16 := by
  rcases List.eq_nil_or_concat xs with rfl | ⟨ys, x, rfl⟩
  · rw [nextP_nil]
    exact ⟨by decide, fun x hx => by cases hx⟩
  · rw [List.concat_eq_append] at h ⊢
    rw [nextP_snoc]
    exact ⟨h x (by simp), fun y hy => h y (by simp [hy])⟩
theorem upP_size : ∀ (f n i : Nat) (d : ByteArray) (xs : List ByteArray) (s : Bool), d.size ≤ 16 → (∀ x ∈ xs, x.size ≤ 16) → (Pl.upP f n i d xs s).1.size ≤ 16 ∧ ∀ x ∈ (Pl.upP f n i d xs s).2.1, x.size ≤ 16
  | 0, _, _, _, _, _, hd, hx => ⟨hd, hx⟩
  | f + 1, n, i, d, xs, s, hd, hx => by
    have hn := nextP_size xs s hx
    unfold Pl.upP
    split
    · exact ⟨hd, hx⟩
    · simp only
      split
      · exact ⟨by rw [nodeP_size]; omega, (upP_size f _ _ d _ _ hd hn.2).2⟩
      · exact ⟨by rw [nodeP_size]; omega, (upP_size f _ _ d _ _ hd hn.2).2⟩

set_option maxHeartbeats 4000000 in
theorem up_any {w0 : World} {base X S V U L : Nat} {leaf : ByteArray} {A : Option Addr} {c : Nat} (hG : GL w0) (hb : base = w0.heap.size) (hj : (Pl.joined (Pl.leafL leaf)).size ≤ 140737488355328) :
    ∀ (f n i : Nat) (w : World) (xs : List ByteArray) (s : Bool), n ≤ f → 1 ≤ n → n ≤ 1000000 → i < n → (∀ x ∈ xs, x.size ≤ 16) → CkInv 93 125 w0 w base X S V U L leaf A c xs s →
      Calls Tryz.prog 93 #[.int .i64 (n : Int), .int .i64 (i : Int), .pointer (some ⟨X, 0, none⟩), .pointer (some ⟨V, 0, none⟩), .pointer (some ⟨U, 0, none⟩)] w fun e w' =>
        e = .returned (.string (Pl.upP f n i (Pl.leafP leaf) xs s).1) ∧ CkInv 93 125 w0 w' base X S V U L leaf A c (Pl.upP f n i (Pl.leafP leaf) xs s).2.1 (Pl.upP f n i (Pl.leafP leaf) xs s).2.2 := by
  intro f
  induction f with
  | zero => intro n i w xs s h1 h2; omega
  | succ f ih =>
    intro n i w xs s hnf hn1 hnm hin hxs hI
    have hcX : w.cell? ⟨X, 0, none⟩ = some (.string leaf) := (blk_cell hI.hX 0).trans rfl
    have hcV : w.cell? ⟨V, 0, none⟩ = some (.pointer (some ⟨S, 0, none⟩)) := (blk_cell hI.hV 0).trans rfl
    by_cases h1 : n = 1
    · subst h1
      have hGw : GL w := GL.below hG (by rw [← hb]; exact hI.B)
      have HI := Lib.hid hI
      clear hI
      have HGw := Lib.hid hGw
      clear hGw
      go_enter Tryz.func93, Tryz.ntmps93
      go_wp2_with fail
      refine (digest_List.calls _ 2 (Pl.leafL leaf) (Pl.leafP leaf) _ (GL.below HGw.out (below_alloc (Below.refl _ _) _)) (C_two w _ leaf) (Nat.le_refl 2) (by unfold digest_List.f; rw [if_pos hj]; rfl)).mono ?_
      rintro e w1 ⟨rfl, hb1⟩
      have HB := Lib.hid ((below_alloc (Below.refl _ _) _).trans (hb1.mono (by simp)))
      clear hb1
      go_wp2
      go_ret
      refine ⟨?_, ?_⟩
      · rfl
      · exact HI.out.below HB.out
    · have hs := Pl.half_spec (by omega : 2 ≤ n)
      have hp := nextP_size xs s hxs
      have hd : (Pl.leafP leaf).size ≤ 16 := by unfold Pl.leafP; rw [Pl.sum_size]; omega
      have HI := Lib.hid hI
      clear hI
      by_cases hik : i < Pl.half n
      · have hu : Pl.upP (f + 1) n i (Pl.leafP leaf) xs s = (Pl.nodeP (Pl.upP f (Pl.half n) i (Pl.leafP leaf) (Pl.nextP xs s).2.1 (Pl.nextP xs s).2.2).1 (Pl.nextP xs s).1, (Pl.upP f (Pl.half n) i (Pl.leafP leaf) (Pl.nextP xs s).2.1 (Pl.nextP xs s).2.2).2) := by
          rw [Pl.upP, if_neg h1]; simp only [if_pos hik]
        rw [hu]
        have hz := upP_size f (Pl.half n) i (Pl.leafP leaf) (Pl.nextP xs s).2.1 (Pl.nextP xs s).2.2 hd hp.2
        generalize hP : Pl.nextP xs s = p at hp hz
        have HP := Lib.hid hP
        generalize hQ : Pl.upP f (Pl.half n) i (Pl.leafP leaf) p.2.1 p.2.2 = q at hz
        have HQ := Lib.hid hQ
        clear hu hP hQ
        go_enter Tryz.func93, Tryz.ntmps93
        go_wp2_with fail
        go_region_with (first
          | (go_at_call 83; refine (half_any n ?_ ?_ _).mono ?_; omega; omega; rintro e w' ⟨rfl, nd, rfl⟩)
          | (go_at_call 94; refine (next_any (F := 93) (tU := 125) (w0 := w0) (base := base) (X := X) (V := V) (U := U) (leaf := leaf) (A := A) (c := c) (xs := xs) (s := s) (L := L) ?_).mono ?_; (repeat (first | exact HI.out | apply CkInv.drawn | apply CkInv.drew)); rintro e w' ⟨rfl, hI1⟩))
        all_goals
          have hcU := (blk_cell hI1.hU 0).trans rfl
          rw [HP.out] at hI1
          have HI1 := Lib.hid hI1
          clear hI1
          go_wp2_with fail
          try rw [HP.out]
          refine (ih (Pl.half n) (i) _ p.2.1 p.2.2 (by omega) (by omega) (by omega) (by omega) hp.2 HI1.out).mono ?_
          rintro e w2 ⟨rfl, hI2⟩
          rw [HQ.out] at hI2 ⊢
          have hGw : GL w2 := GL.below hG (by rw [← hb]; exact hI2.B)
          have HI2 := Lib.hid hI2
          clear hI2
          go_wp2_with fail
          refine (node_any q.1 p.1 (by first | exact hz.1 | exact hp.1) (by first | exact hz.1 | exact hp.1) w2 hGw).mono ?_
          rintro e w3 ⟨rfl, hb3⟩
          have HI3 := Lib.hid (HI2.out.below hb3)
          clear hb3 hGw
          go_wp2
          go_ret
          exact ⟨rfl, HI3.out⟩
      · have hu : Pl.upP (f + 1) n i (Pl.leafP leaf) xs s = (Pl.nodeP (Pl.nextP xs s).1 (Pl.upP f (n - Pl.half n) (i - Pl.half n) (Pl.leafP leaf) (Pl.nextP xs s).2.1 (Pl.nextP xs s).2.2).1, (Pl.upP f (n - Pl.half n) (i - Pl.half n) (Pl.leafP leaf) (Pl.nextP xs s).2.1 (Pl.nextP xs s).2.2).2) := by
          rw [Pl.upP, if_neg h1]; simp only [if_neg hik]
        rw [hu]
        have e1 : wrap64 ((n : Int) - (Pl.half n : Int)) = ((n - Pl.half n : Nat) : Int) := by unfold wrap64; omega
        have e2 : wrap64 ((i : Int) - (Pl.half n : Int)) = ((i - Pl.half n : Nat) : Int) := by unfold wrap64; omega
        have F1 := Lib.hid (show (n : Int) - (Pl.half n : Int) = ((n - Pl.half n : Nat) : Int) by omega)
        have F2 := Lib.hid (show (i : Int) - (Pl.half n : Int) = ((i - Pl.half n : Nat) : Int) by omega)
        have E1 := Lib.hid e1
        have E2 := Lib.hid e2
        clear e1 e2
        have hz := upP_size f (n - Pl.half n) (i - Pl.half n) (Pl.leafP leaf) (Pl.nextP xs s).2.1 (Pl.nextP xs s).2.2 hd hp.2
        generalize hP : Pl.nextP xs s = p at hp hz
        have HP := Lib.hid hP
        generalize hQ : Pl.upP f (n - Pl.half n) (i - Pl.half n) (Pl.leafP leaf) p.2.1 p.2.2 = q at hz
        have HQ := Lib.hid hQ
        clear hu hP hQ
        go_enter Tryz.func93, Tryz.ntmps93
        go_wp2_with fail
        go_region_with (first
          | (go_at_call 83; refine (half_any n ?_ ?_ _).mono ?_; omega; omega; rintro e w' ⟨rfl, nd, rfl⟩)
          | (go_at_call 94; refine (next_any (F := 93) (tU := 125) (w0 := w0) (base := base) (X := X) (V := V) (U := U) (leaf := leaf) (A := A) (c := c) (xs := xs) (s := s) (L := L) ?_).mono ?_; (repeat (first | exact HI.out | apply CkInv.drawn | apply CkInv.drew)); rintro e w' ⟨rfl, hI1⟩))
        all_goals
          have hcU := (blk_cell hI1.hU 0).trans rfl
          rw [HP.out] at hI1
          have HI1 := Lib.hid hI1
          clear hI1
          go_wp2_with fail
          try rw [HP.out]
          first | rw [E1.out, E2.out] | rw [F1.out, F2.out] | trace_state
          refine (ih (n - Pl.half n) (i - Pl.half n) _ p.2.1 p.2.2 (by omega) (by omega) (by omega) (by omega) hp.2 HI1.out).mono ?_
          rintro e w2 ⟨rfl, hI2⟩
          rw [HQ.out] at hI2 ⊢
          have hGw : GL w2 := GL.below hG (by rw [← hb]; exact hI2.B)
          have HI2 := Lib.hid hI2
          clear hI2
          go_wp2_with fail
          refine (node_any p.1 q.1 (by first | exact hz.1 | exact hp.1) (by first | exact hz.1 | exact hp.1) w2 hGw).mono ?_
          rintro e w3 ⟨rfl, hb3⟩
          have HI3 := Lib.hid (HI2.out.below hb3)
          clear hb3 hGw
          go_wp2
          go_ret
          exact ⟨rfl, HI3.out⟩
end Go.Proofs.YtdlipbfcadmhjaaGreatDoor

namespace Go.Proofs.YtdlipbfcadmhjaaGreatDoor
open Go.RowKit Go.Proofs.YtdlipbfcadmhjaaGreatDoorW.PrintWords Go.Proofs.YtdlipbfcadmhjaaGreatDoorW.PrintMore PG2

theorem C_plain {w : World} {A : Option Addr} {xs : List ByteArray} (h : Kd.C Kd.string w A xs.length xs) (hn : 0 < xs.length) :
    ∃ b off, A = some ⟨b, off, none⟩ ∧ ∀ j, j < xs.length → w.cell? ⟨b, off + j, none⟩ = some (.string (xs.getD j ByteArray.empty)) := by
  obtain ⟨ad, rfl, hc⟩ := h.2.2 hn
  have key : ∀ j, j < xs.length → w.cell? (ad.add j) = some (.string (xs.getD j ByteArray.empty)) := by
    intro j hj
    obtain ⟨c, hl, hk, hcell⟩ := hc j _ (List.getElem?_eq_getElem hj)
    obtain rfl : c = [.string xs[j]] := hk
    have := hcell 0 _ rfl
    rw [List.getD_eq_getElem?_getD, List.getElem?_eq_getElem hj]
    simpa [Kd.string, Kd.scalar] using this
  have hsp : ad.spot = none := by
    have := key 0 hn
    simp only [Addr.add, if_true] at this
    unfold World.cell? at this
    cases hs : ad.spot with
    | none => rfl
    | some k =>
      rw [hs] at this
      simp only [Option.isSome_some, if_true] at this
      split at this <;> cases this
  obtain ⟨b, off, sp⟩ := ad
  simp only at hsp
  subst hsp
  refine ⟨b, off, rfl, fun j hj => ?_⟩
  have := key j hj
  by_cases h0 : j = 0
  · subst h0
    simpa [Addr.add] using this
  · simpa [Addr.add, h0] using this

theorem clone_any (A : Option Addr) (c : Nat) (xs : List ByteArray) (w : World) (hr : Kd.C Kd.string w A xs.length xs) (hbig : xs.length * 16 ≤ 140737488355328) :
    Calls Tryz.prog 63 #[.slice A xs.length c] w fun e w' => ∃ A' c', e = .returned (.slice A' xs.length c') ∧ xs.length ≤ c' ∧ c' ≤ 9223372036854775807 ∧
      (xs = [] ∨ ∃ b off, A' = some ⟨b, off, none⟩ ∧ w.heap.size ≤ b ∧ b < w'.heap.size ∧ ∀ j, j < xs.length → w'.cell? ⟨b, off + j, none⟩ = some (.string (xs.getD j ByteArray.empty))) ∧ Below w.heap.size w w' := by
  by_cases hn : 0 < xs.length
  · obtain ⟨b, off, rfl, hc⟩ := C_plain hr hn
    refine (Tryz.slices_Clone_string b off xs.length c xs w (Nat.le_refl _) hbig hc).mono ?_
    rintro e w' ⟨v', rfl, ho, _, hb⟩
    rw [List.take_length] at ho
    obtain ⟨_, ⟨_, h0⟩ | ⟨g, cap, cur, rfl, hg, hheap, hcap, h63, hsz, htake⟩⟩ := ho
    · omega
    · refine ⟨_, cap, rfl, hcap, h63, .inr ⟨g, 0, rfl, hg, blk_lt hheap, fun j hj => ?_⟩, hb⟩
      rw [Nat.zero_add]
      refine (blk_cell hheap j).trans ?_
      have e : (cur.toList.take (xs.length * 1))[j]? = some (.string (xs.getD j ByteArray.empty)) := by
        rw [htake, List.getElem?_map, List.getD_eq_getElem?_getD, List.getElem?_eq_getElem hj]; rfl
      rw [List.getElem?_take_of_lt (by omega)] at e
      simpa using e
  · obtain rfl : xs = [] := List.eq_nil_of_length_eq_zero (by omega)
    cases A with
    | none =>
      refine (Tryz.slices_Clone_string_nil 0 c w).mono ?_
      rintro e w' ⟨rfl, rfl⟩
      exact ⟨none, 0, rfl, Nat.le_refl _, by omega, .inl rfl, Below.refl _ _⟩
    | some a =>
      refine (Tryz.slices_Clone_string_zero a c w).mono ?_
      rintro e w' ⟨v', rfl, ho, _, hb⟩
      obtain ⟨_, ⟨rfl, _⟩ | ⟨g, cap, cur, rfl, hg, hheap, hcap, h63, hsz, htake⟩⟩ := ho
      · exact ⟨none, 0, rfl, Nat.le_refl _, by omega, .inl rfl, hb⟩
      · exact ⟨_, cap, rfl, hcap, h63, .inl rfl, hb⟩
end Go.Proofs.YtdlipbfcadmhjaaGreatDoor

namespace Go.Proofs.YtdlipbfcadmhjaaGreatDoor
open Go.RowKit Go.Proofs.YtdlipbfcadmhjaaGreatDoorW.PrintWords Go.Proofs.YtdlipbfcadmhjaaGreatDoorW.PrintMore PG2

theorem C_of_row {w : World} {A : Option Addr} {xs : List ByteArray} (hl : xs.length ≤ 9223372036854775807) (h : xs = [] ∨ ∃ b off, A = some ⟨b, off, none⟩ ∧ ∀ j, j < xs.length → w.cell? ⟨b, off + j, none⟩ = some (.string (xs.getD j ByteArray.empty))) : Kd.C Kd.string w A xs.length xs := by
  refine ⟨rfl, hl, fun hn => ?_⟩
  rcases h with rfl | ⟨b, off, rfl, h⟩
  · simp at hn
  · refine ⟨_, rfl, fun j p hj => ⟨[.string p], rfl, rfl, fun i u hu => ?_⟩⟩
    have hjl : j < xs.length := (List.getElem?_eq_some_iff.1 hj).1
    obtain ⟨rfl, rfl⟩ : i = 0 ∧ u = .string p := by
      cases i with
      | zero => simpa using hu.symm
      | succ i => simp at hu
    have hp : xs.getD j ByteArray.empty = p := by rw [List.getD_eq_getElem?_getD, hj]; rfl
    have := h j hjl
    rw [hp] at this
    by_cases h0 : j = 0
    · subst h0
      simpa [Addr.add, Kd.string, Kd.scalar] using this
    · simpa [Addr.add, h0, Kd.string, Kd.scalar] using this

theorem alloc_size (w : World) (o : Obj) : (w.alloc o).heap.size = w.heap.size + 1 := Array.size_push _
/-- The world in which the closure is called first. -/
def ckW (F tU : Nat) (w w1 w2 : World) : World :=
  (((w2.alloc (.cells #[.pointer (some ⟨w1.heap.size, 0, none⟩), .bool false] 124)).alloc (.cells #[.pointer (some ⟨w2.heap.size, 0, none⟩)] 121)).alloc
    (.cells #[.func (.func F) #[] #[.pointer (some ⟨w.heap.size, 0, none⟩), .pointer (some ⟨w2.heap.size + 1, 0, none⟩), .pointer (some ⟨w2.heap.size + 1 + 1, 0, none⟩)]] tU))
theorem ck_make (F tU : Nat) (w w1 w2 : World) (leaf : ByteArray) (A1 : Option Addr) (c1 : Nat) (xs : List ByteArray) (hb1 : Below (w.alloc (.cells #[.string leaf] 9)).heap.size (w.alloc (.cells #[.string leaf] 9)) w1)
    (hrow : xs = [] ∨ ∃ b off, A1 = some ⟨b, off, none⟩ ∧ (w.alloc (.cells #[.string leaf] 9)).heap.size ≤ b ∧ b < w1.heap.size ∧ ∀ j, j < xs.length → w1.cell? ⟨b, off + j, none⟩ = some (.string (xs.getD j ByteArray.empty)))
    (hb2 : Below (w1.alloc (.cells #[.slice A1 xs.length c1] 120)).heap.size (w1.alloc (.cells #[.slice A1 xs.length c1] 120)) w2) (hc1 : xs.length ≤ c1) (h63 : c1 ≤ 9223372036854775807) :
    CkInv F tU w (ckW F tU w w1 w2) w.heap.size w.heap.size w2.heap.size (w2.heap.size + 1) (w2.heap.size + 1 + 1) w1.heap.size leaf A1 c1 xs false := by
  have s1 := hb1.size
  have s2 := hb2.size
  rw [alloc_size] at s1 s2
  -- a block of w2 is one of the last world
  have k2 : ∀ b, b < w2.heap.size → (ckW F tU w w1 w2).heap[b]? = w2.heap[b]? := by
    intro b hb
    unfold ckW
    refine (Below.heap_alloc _ _ b (by rw [alloc_size, alloc_size]; omega)).trans ?_
    refine (Below.heap_alloc _ _ b (by rw [alloc_size]; omega)).trans ?_
    exact Below.heap_alloc _ _ b hb
  have k1 : ∀ b, b < w1.heap.size → (ckW F tU w w1 w2).heap[b]? = w1.heap[b]? := fun b hb =>
    (k2 b (by omega)).trans ((hb2.block b (by rw [alloc_size]; omega)).trans (Below.heap_alloc w1 _ b hb))
  have k0 : ∀ b, b < w.heap.size → (ckW F tU w w1 w2).heap[b]? = w.heap[b]? := fun b hb =>
    (k1 b (by omega)).trans ((hb1.block b (by rw [alloc_size]; omega)).trans (Below.heap_alloc w _ b hb))
  have sz : (ckW F tU w w1 w2).heap.size = w2.heap.size + 1 + 1 + 1 := by
    unfold ckW
    rw [alloc_size, alloc_size, alloc_size]
  refine { hX := ?_, hS := ?_, hV := ?_, hU := ?_, hL := ?_, row := ?_, cap := hc1, c63 := h63, SL := by omega, XS := by omega, XL := by omega, VS := by omega, VL := by omega, US := by omega, UL := by omega, bS := by omega, bL := by omega, bw := by rw [sz]; omega, B := ⟨?_, ?_, ?_, by rw [sz]; omega, k0⟩ }
  · exact (k1 _ (by omega)).trans ((hb1.block _ (by rw [alloc_size]; omega)).trans (blk_new w _))
  · unfold ckW
    refine (Below.heap_alloc _ _ w2.heap.size (by rw [alloc_size, alloc_size]; omega)).trans ?_
    refine (Below.heap_alloc _ _ w2.heap.size (by rw [alloc_size]; omega)).trans ?_
    exact blk_new w2 _
  · unfold ckW
    refine (Below.heap_alloc _ _ (w2.heap.size + 1) (by rw [alloc_size, alloc_size]; omega)).trans ?_
    have := blk_new (w2.alloc (.cells #[.pointer (some ⟨w1.heap.size, 0, none⟩), .bool false] 124)) (.cells #[.pointer (some ⟨w2.heap.size, 0, none⟩)] 121)
    rw [alloc_size] at this
    exact this
  · unfold ckW
    have := blk_new ((w2.alloc (.cells #[.pointer (some ⟨w1.heap.size, 0, none⟩), .bool false] 124)).alloc (.cells #[.pointer (some ⟨w2.heap.size, 0, none⟩)] 121)) (.cells #[.func (.func F) #[] #[.pointer (some ⟨w.heap.size, 0, none⟩), .pointer (some ⟨w2.heap.size + 1, 0, none⟩), .pointer (some ⟨w2.heap.size + 1 + 1, 0, none⟩)]] tU)
    rw [alloc_size, alloc_size] at this
    exact this
  · exact (k2 _ (by omega)).trans ((hb2.block _ (by rw [alloc_size]; omega)).trans (blk_new w1 _))
  · rcases hrow with h | ⟨b, off, rfl, hlo, hlt, h⟩
    · exact .inl h
    · rw [alloc_size] at hlo
      exact .inr ⟨b, off, rfl, by omega, by omega, by rw [sz]; omega, fun j hj => (World.cell?_of_block (a := ⟨b, off + j, none⟩) (k1 b hlt)).trans (h j hj)⟩
  · exact (show (ckW F tU w w1 w2).os = w2.os from rfl).trans (hb2.os.trans hb1.os)
  · exact (show (ckW F tU w w1 w2).tape = w2.tape from rfl).trans (hb2.tape.trans hb1.tape)
  · exact (show (ckW F tU w w1 w2).output = w2.output from rfl).trans (hb2.output.trans hb1.output)

set_option maxHeartbeats 4000000 in
theorem check_go (root : ByteArray) (n i : Int) (leaf : ByteArray) (A : Option Addr) (c : Nat) (xs : List ByteArray) (w : World) (hG : GL w) (hr : Kd.C Kd.string w A xs.length xs) (hc : xs.length ≤ c)
    (hbig : xs.length * 16 ≤ 140737488355328) (hj : (Pl.joined (Pl.leafL leaf)).size ≤ 140737488355328) (hn : n ≤ 1000000) (h0 : 0 ≤ i) (hi : i < n) (hall : xs.all Pl.isDig = true) :
    Calls Tryz.prog 32 #[.string root, .int .i64 n, .int .i64 i, .string leaf, .slice A xs.length c] w fun e w' => e = .returned (.bool (Pl.checkP root n i leaf xs)) ∧ Below w.heap.size w w' := by
  obtain ⟨n', rfl⟩ : ∃ m : Nat, n = (m : Int) := ⟨n.toNat, by omega⟩
  obtain ⟨i', rfl⟩ : ∃ m : Nat, i = (m : Int) := ⟨i.toNat, by omega⟩
  have hq : Pl.checkP root (n' : Int) (i' : Int) leaf xs = ((Pl.upP n' n' i' (Pl.leafP leaf) xs false).1.toList == root.toList && (!(Pl.upP n' n' i' (Pl.leafP leaf) xs false).2.2 && (Pl.upP n' n' i' (Pl.leafP leaf) xs false).2.1.isEmpty)) := by
    unfold Pl.checkP
    rw [if_neg (by rw [hall]; simp; omega)]
    rfl
  rw [hq]
  obtain ⟨q, hQ⟩ : ∃ q, Pl.upP n' n' i' (Pl.leafP leaf) xs false = q := ⟨_, rfl⟩
  rw [hQ]
  have HQ := Lib.hid hQ
  clear hq hQ
  have HG := Lib.hid hG
  have HR := Lib.hid hr
  have HA := Lib.hid hall
  have HJ := Lib.hid hj
  clear hG hr hall hj
  go_enter Tryz.func32, Tryz.ntmps32
  go_wp2_with fail
  refine (clone_any A c xs _ (Kd.C_below HR.out (below_alloc (Below.refl _ _) _)) hbig).mono ?_
  rintro e w1 ⟨A1, c1, rfl, hc1, h63, hrow, hb1⟩
  have HB1 := Lib.hid hb1
  have HROW := Lib.hid hrow
  clear hb1 hrow
  have hcA : Kd.C Kd.string (w1.alloc (.cells #[.slice A1 xs.length c1] 120)) A1 xs.length xs := C_of_row (by omega) (by
    rcases HROW.out with h | ⟨b, off, rfl, _, hlt, h⟩
    · exact .inl h
    · exact .inr ⟨b, off, rfl, fun j hj => (World.cell?_of_block (a := ⟨b, off + j, none⟩) (Below.heap_alloc w1 _ b hlt)).trans (h j hj)⟩)
  have HCA := Lib.hid hcA
  clear hcA
  go_wp2_with fail
  refine (proper_any A1 c1 xs _ (GL.below HG.out (below_alloc (below_step (below_alloc (Below.refl _ _) _) HB1.out) _)) HCA.out hc1).mono ?_
  rintro e w2 ⟨rfl, hb2⟩
  have HB2 := Lib.hid hb2
  clear hb2
  rw [HA.out]
  have hU3 := blk_new ((w2.alloc (.cells #[.pointer (some ⟨w1.heap.size, 0, none⟩), .bool false] 124)).alloc (.cells #[.pointer (some ⟨w2.heap.size, 0, none⟩)] 121)) (.cells #[.nilFunc] 125)
  rw [alloc_size, alloc_size] at hU3
  have hfU := blk_frozen hU3 0
  have hcU0 := (blk_cell hU3 0).trans (show _ = some Value.nilFunc from rfl)
  have hIv := ck_make 93 125 w w1 w2 leaf A1 c1 xs HB1.out HROW.out HB2.out hc1 h63
  unfold ckW at hIv
  have HIv := Lib.hid hIv
  clear hIv hU3
  have hx16 : ∀ x ∈ xs, x.size ≤ 16 := fun x hx => by
    have := (List.all_eq_true.1 HA.out) x hx
    unfold Pl.isDig at this
    rw [Bool.and_eq_true, decide_eq_true_eq] at this
    omega
  have hgo := up_any (w0 := w) (base := w.heap.size) HG.out rfl HJ.out n' n' i' _ xs false (Nat.le_refl _) (by omega) (by omega) (by omega) hx16 HIv.out
  rw [HQ.out] at hgo
  have HGO := Lib.hid hgo
  clear hgo hx16
  go_wp2_with fail
  refine HGO.out.mono ?_
  rintro e w4 ⟨rfl, hI4⟩
  have hcV4 := (blk_cell hI4.hV 0).trans (show _ = some (Value.pointer (some ⟨w2.heap.size, 0, none⟩)) from rfl)
  have HI4 := Lib.hid hI4
  clear hI4
  cases hroot : q.1.toList == root.toList with
  | true =>
    have hem : q.2.1.isEmpty = decide (q.2.1 = []) := by cases q.2.1 <;> simp
    have HEM := Lib.hid hem
    clear hem
    go_wp2_with fail
    refine (done_any w4 w1.heap.size w2.heap.size q.2.1.length c1 A1 q.2.2 HI4.out.hL HI4.out.hS).mono ?_
    rintro e w5 ⟨rfl, rfl⟩
    go_wp2
    go_ret
    refine ⟨?_, HI4.out.B⟩
    rw [hroot, HEM.out]
    rfl
  | false =>
    go_wp2
    go_ret
    refine ⟨?_, HI4.out.B⟩
    rw [hroot]
    rfl

theorem checkP_no {root : ByteArray} {n i : Int} {leaf : ByteArray} {xs : List ByteArray} (h : n > 1000000 ∨ i < 0 ∨ i ≥ n ∨ xs.all Pl.isDig = false) : Pl.checkP root n i leaf xs = false := by
  unfold Pl.checkP
  rw [if_pos h]
set_option maxHeartbeats 4000000 in
theorem check_any (root : ByteArray) (n i : Int) (leaf : ByteArray) (A : Option Addr) (c : Nat) (xs : List ByteArray) (w : World) (hG : GL w) (hr : Kd.C Kd.string w A xs.length xs) (hc : xs.length ≤ c)
    (hbig : xs.length * 16 ≤ 140737488355328) (hj : (Pl.joined (Pl.leafL leaf)).size ≤ 140737488355328) :
    Calls Tryz.prog 32 #[.string root, .int .i64 n, .int .i64 i, .string leaf, .slice A xs.length c] w fun e w' => e = .returned (.bool (Pl.checkP root n i leaf xs)) ∧ Below w.heap.size w w' := by
  by_cases h : n > 1000000 ∨ (n ≤ 1000000 ∧ i < 0) ∨ (n ≤ 1000000 ∧ 0 ≤ i ∧ i ≥ n)
  · rw [checkP_no (by omega)]
    have HR := Lib.hid hr
    clear hr
    go_enter Tryz.func32, Tryz.ntmps32
    go_wp2_with fail
    refine (clone_any A c xs _ (Kd.C_below HR.out (below_alloc (Below.refl _ _) _)) hbig).mono ?_
    rintro e w1 ⟨A1, c1, rfl, hc1, h63, hrow, hb1⟩
    have HB1 := Lib.hid (below_alloc (below_step (below_alloc (Below.refl w.heap.size w) (.cells #[.string leaf] 9)) hb1) (.cells #[.slice A1 xs.length c1] 120))
    clear hb1 hrow
    rcases h with h | ⟨h, h'⟩ | ⟨h, h', h''⟩
    · go_wp2
      go_ret
      exact ⟨rfl, HB1.out⟩
    · go_wp2
      go_ret
      exact ⟨rfl, HB1.out⟩
    · go_wp2
      go_ret
      exact ⟨rfl, HB1.out⟩
  · by_cases hall : xs.all Pl.isDig = true
    · exact check_go root n i leaf A c xs w hG hr hc hbig hj (by omega) (by omega) (by omega) hall
    · have hall' : xs.all Pl.isDig = false := by simpa using hall
      rw [checkP_no (.inr (.inr (.inr hall')))]
      have HG := Lib.hid hG
      have HR := Lib.hid hr
      have HA := Lib.hid hall'
      have hn : n ≤ 1000000 := by omega
      have h0 : 0 ≤ i := by omega
      have hi : i < n := by omega
      clear hG hr hall hall' h hj
      go_enter Tryz.func32, Tryz.ntmps32
      go_wp2_with fail
      refine (clone_any A c xs _ (Kd.C_below HR.out (below_alloc (Below.refl _ _) _)) hbig).mono ?_
      rintro e w1 ⟨A1, c1, rfl, hc1, h63, hrow, hb1⟩
      have HB1 := Lib.hid hb1
      have hcA : Kd.C Kd.string (w1.alloc (.cells #[.slice A1 xs.length c1] 120)) A1 xs.length xs := C_of_row (by omega) (by
        rcases hrow with h | ⟨b, off, rfl, _, hlt, h⟩
        · exact .inl h
        · exact .inr ⟨b, off, rfl, fun j hj => (World.cell?_of_block (a := ⟨b, off + j, none⟩) (Below.heap_alloc w1 _ b hlt)).trans (h j hj)⟩)
      have HCA := Lib.hid hcA
      clear hcA hb1 hrow
      go_wp2_with fail
      refine (proper_any A1 c1 xs _ (GL.below HG.out (below_alloc (below_step (below_alloc (Below.refl _ _) _) HB1.out) _)) HCA.out hc1).mono ?_
      rintro e w2 ⟨rfl, hb2⟩
      have HB2 := Lib.hid (below_step (below_alloc (below_step (below_alloc (Below.refl w.heap.size w) (.cells #[.string leaf] 9)) HB1.out) (.cells #[.slice A1 xs.length c1] 120)) hb2)
      clear hb2
      rw [HA.out]
      go_wp2
      go_ret
      exact ⟨rfl, HB2.out⟩
def tree_Check.f (root : ByteArray) (n i : Int) (leaf : ByteArray) (xs : List ByteArray) : Option Bool :=
  if xs.length * 16 ≤ 140737488355328 then if (Pl.joined (Pl.leafL leaf)).size ≤ 140737488355328 then some (Pl.checkP root n i leaf xs) else none else none
theorem tree_Check.calls (a0 : ByteArray) (a1 a2 : Int) (a3 : ByteArray) (A4 : Option Addr) (c4 : Nat) (l4 : List ByteArray) (r : Bool) (w : World) (hG : GL w) (hr4 : Kd.C Kd.string w A4 l4.length l4) (hc4 : l4.length ≤ c4) (h : tree_Check.f a0 a1 a2 a3 l4 = some r) :
    Calls Tryz.prog 32 #[.string a0, .int .i64 a1, .int .i64 a2, .string a3, .slice A4 l4.length c4] w fun e w' => e = .returned (.bool r) ∧ Below w.heap.size w w' := by
  unfold tree_Check.f at h
  by_cases h1 : l4.length * 16 ≤ 140737488355328
  · by_cases h2 : (Pl.joined (Pl.leafL a3)).size ≤ 140737488355328
    · rw [if_pos h1, if_pos h2] at h
      obtain rfl := Option.some.inj h
      exact check_any a0 a1 a2 a3 A4 c4 l4 w hG hr4 hc4 h1 h2
    · rw [if_pos h1, if_neg h2] at h
      cases h
  · rw [if_neg h1] at h
    cases h
end Go.Proofs.YtdlipbfcadmhjaaGreatDoor
