/- tree.Check: the closure that climbs a path, and Check itself. -/
import Derived.Test.YtdlipbfcadmhjaaDoorT3
namespace Go.Proofs.YtdlipbfcadmhjaaDoor
set_option linter.unusedVariables false
set_option linter.unusedSimpArgs false
open Go.RowKit Go.Proofs.YtdlipbfcadmhjaaDoorW.PrintWords Go.Proofs.YtdlipbfcadmhjaaDoorW.PrintMore PG2
structure CkInv (F tU : Nat) (w0 w : World) (base X S V U L : Nat) (leaf : ByteArray) (A : Option Addr) (c : Nat) (xs : List ByteArray) (s : Bool) : Prop where
  hX : w.heap[X]? = some (.cells #[.string leaf] 9 (0, 0))
  hS : w.heap[S]? = some (.cells #[.pointer (some ⟨L, 0, none⟩), .bool s] 87 (0, 0))
  hV : w.heap[V]? = some (.cells #[.pointer (some ⟨S, 0, none⟩)] 84 (0, 0))
  hU : w.heap[U]? = some (.cells #[.func (.func F) #[] #[.pointer (some ⟨X, 0, none⟩), .pointer (some ⟨V, 0, none⟩), .pointer (some ⟨U, 0, none⟩)]] tU (0, 0))
  hL : w.heap[L]? = some (.cells #[.slice A xs.length c] 83 (0, 0))
  row : RowAt w L S A xs
  cap : xs.length ≤ c
  c63 : c ≤ 9223372036854775807
  SL : S ≠ L
  XS : X ≠ S
  XL : X ≠ L
  VS : V ≠ S
  VL : V ≠ L
  US : U ≠ S
  UL : U ≠ L
  bS : base ≤ S
  bL : base ≤ L
  bw : base ≤ w.heap.size
  B : Below base w0 w
theorem RowAt.keep {w w' : World} {L S : Nat} {A : Option Addr} {xs : List ByteArray} (h : RowAt w L S A xs) (hs : w.heap.size ≤ w'.heap.size) (hb : ∀ k, k < w.heap.size → k ≠ L → k ≠ S → w'.heap[k]? = w.heap[k]?) : RowAt w' L S A xs := by
 rcases h with h | ⟨b, off, rfl, h1, h2, h3, h4⟩
 ·exact .inl h
 ·exact .inr ⟨b, off, rfl, h1, h2, Nat.lt_of_lt_of_le h3 hs, fun j hj => (World.cell?_of_block (a := ⟨b, off + j, none⟩) (hb b h3 h1 h2)).trans (h4 j hj)⟩
theorem CkInv.below {F tU : Nat} {w0 w w' : World} {base X S V U L : Nat} {leaf : ByteArray} {A : Option Addr} {c : Nat} {xs : List ByteArray} {s : Bool} (h : CkInv F tU w0 w base X S V U L leaf A c xs s) (hb : Below w.heap.size w w') : CkInv F tU w0 w' base X S V U L leaf A c xs s :=
  have k : ∀ {b : Nat} {o : Obj}, w.heap[b]? = some o → w'.heap[b]? = some o := fun {b o} hh => (hb.block b (blk_lt hh)).trans hh
  { h with hX := k h.hX, hS := k h.hS, hV := k h.hV, hU := k h.hU, hL := k h.hL, row := h.row.keep hb.size (fun b h1 _ _ => hb.block b h1), bw := Nat.le_trans h.bw hb.size, B := h.B.trans (hb.mono h.bw) }
theorem CkInv.drawn {F tU : Nat} {w0 w : World} {base X S V U L : Nat} {leaf : ByteArray} {A : Option Addr} {c : Nat} {xs : List ByteArray} {s : Bool} (h : CkInv F tU w0 w base X S V U L leaf A c xs s) (n : Nat) : CkInv F tU w0 (w.drewN n) base X S V U L leaf A c xs s :=
  { h with row := h.row.keep (Nat.le_refl _) (fun _ _ _ _ => rfl), B := pw_below_drewN h.B n }
theorem CkInv.next0 {F tU : Nat} {w0 w : World} {base X S V U L : Nat} {leaf : ByteArray} {A : Option Addr} {c : Nat} {s : Bool} (h : CkInv F tU w0 w base X S V U L leaf A c [] s) : CkInv F tU w0 (w.setCell ⟨S, 1, none⟩ (.bool true)) base X S V U L leaf A c [] true :=
  have k : ∀ {b : Nat} {o : Obj}, b ≠ S → w.heap[b]? = some o → (w.setCell ⟨S, 1, none⟩ (.bool true)).heap[b]? = some o := fun hne hh => far_set w S _ 1 _ hne hh
  { h with hX := k h.XS h.hX, hS := blk_set h.hS 1 _, hV := k h.VS h.hV, hU := k h.US h.hU, hL := k h.SL.symm h.hL, row := .inl rfl, bw := by simpa [World.setCell] using h.bw, B := h.B.trans ⟨rfl, rfl, rfl, by simp [World.setCell], fun i hi => Below.heap_setCell w _ _ i (by have := h.bS; show i ≠ S; omega)⟩ }
theorem CkInv.next1 {F tU : Nat} {w0 w : World} {base X S V U L b off : Nat} {leaf : ByteArray} {c : Nat} {xs : List ByteArray} {x : ByteArray} {s t : Bool} (h : CkInv F tU w0 w base X S V U L leaf (some ⟨b, off, none⟩) c (xs ++ [x]) s) :
    CkInv F tU w0 ((((w.setCell ⟨L, 0, none⟩ (.slice (some ⟨b, off, none⟩) xs.length c)).drew).drew).setCell ⟨S, 1, none⟩ (.bool t)) base X S V U L leaf (some ⟨b, off, none⟩) c xs t := by
 have hw : w.heap.size ≤ ((((w.setCell ⟨L, 0, none⟩ (.slice (some ⟨b, off, none⟩) xs.length c)).drew).drew).setCell ⟨S, 1, none⟩ (.bool t)).heap.size := by simp [World.setCell, World.drew]
 have k0 : ∀ b', b' ≠ L → b' ≠ S → ((((w.setCell ⟨L, 0, none⟩ (.slice (some ⟨b, off, none⟩) xs.length c)).drew).drew).setCell ⟨S, 1, none⟩ (.bool t)).heap[b']? = w.heap[b']? := fun b' h1 h2 =>
  (Below.heap_setCell ((w.setCell ⟨L, 0, none⟩ (.slice (some ⟨b, off, none⟩) xs.length c)).drew).drew ⟨S, 1, none⟩ (.bool t) b' h2).trans (Below.heap_setCell w ⟨L, 0, none⟩ _ b' h1)
 have k : ∀ {b' : Nat} {o : Obj}, b' ≠ L → b' ≠ S → w.heap[b']? = some o → ((((w.setCell ⟨L, 0, none⟩ (.slice (some ⟨b, off, none⟩) xs.length c)).drew).drew).setCell ⟨S, 1, none⟩ (.bool t)).heap[b']? = some o := fun h1 h2 hh => (k0 _ h1 h2).trans hh
 have hlen := h.cap
 simp only [List.length_append, List.length_cons, List.length_nil] at hlen
 have hS1 : (((w.setCell ⟨L, 0, none⟩ (.slice (some ⟨b, off, none⟩) xs.length c)).drew).drew).heap[S]? = some (.cells #[.pointer (some ⟨L, 0, none⟩), .bool s] 87 (0, 0)) := far_set w L S 0 _ h.SL h.hS
 refine { hX := k h.XL h.XS h.hX, hS := blk_set hS1 1 _, hV := k h.VL h.VS h.hV, hU := k h.UL h.US h.hU, hL := ?_, row := ?_, cap := by omega, c63 := h.c63, SL := h.SL, XS := h.XS, XL := h.XL, VS := h.VS, VL := h.VL, US := h.US, UL := h.UL, bS := h.bS, bL := h.bL, bw := Nat.le_trans h.bw hw, B := ?_ }
 ·exact far_set _ S L 1 _ h.SL.symm (blk_set h.hL 0 _)
 ·rcases h.row with hr | ⟨b1, o1, he, h1, h2, h3, h4⟩
  ·simp at hr
  ·injection he with he
   injection he with he1 he2
   subst he1; subst he2
   refine .inr ⟨b, off, rfl, h1, h2, Nat.lt_of_lt_of_le h3 hw, fun j hj => ?_⟩
   have := h4 j (by simp; omega)
   rw [List.getD_eq_getElem?_getD, List.getElem?_append_left hj, ← List.getD_eq_getElem?_getD] at this
   exact (World.cell?_of_block (a := ⟨b, off + j, none⟩) (k0 b h1 h2)).trans this
 ·refine h.B.trans ⟨rfl, rfl, rfl, hw, fun i hi => k0 i ?_ ?_⟩
  ·have := h.bL; omega
  ·have := h.bS; omega
end Go.Proofs.YtdlipbfcadmhjaaDoor
