/- tree.Check. -/
import Derived.Test.YtdlipbfcadmhjaaDoorT4c
import Derived.Laws.EntriesVeiled
namespace Go.Proofs.YtdlipbfcadmhjaaDoor
set_option linter.unusedVariables false
set_option linter.unusedSimpArgs false
open Go.RowKit Go.Proofs.YtdlipbfcadmhjaaDoorW.PrintWords Go.Proofs.YtdlipbfcadmhjaaDoorW.PrintMore PG2
theorem C_of_row {w : World} {A : Option Addr} {xs : List ByteArray} (hl : xs.length ≤ 9223372036854775807) (h : xs = [] ∨ ∃ b off, A = some ⟨b, off, none⟩ ∧ ∀ j, j < xs.length → w.cell? ⟨b, off + j, none⟩ = some (.string (xs.getD j ByteArray.empty))) : Kd.C Kd.string w A xs.length xs := by
 refine ⟨rfl, hl, fun hn => ?_⟩
 rcases h with rfl | ⟨b, off, rfl, h⟩
 ·simp at hn
 ·refine ⟨_, rfl, fun j p hj => ⟨[.string p], rfl, rfl, fun i u hu => ?_⟩⟩
  have hjl : j < xs.length := (List.getElem?_eq_some_iff.1 hj).1
  obtain ⟨rfl, rfl⟩ : i = 0 ∧ u = .string p := by
   cases i with
   | zero => simpa using hu.symm
   | succ i => simp at hu
  have hp : xs.getD j ByteArray.empty = p := by rw [List.getD_eq_getElem?_getD, hj]; rfl
  have := h j hjl
  rw [hp] at this
  by_cases h0 : j = 0
  ·subst h0
   simpa [Addr.add, Kd.string, Kd.scalar] using this
  ·simpa [Addr.add, h0, Kd.string, Kd.scalar] using this
theorem alloc_size (w : World) (o : Obj) : (w.alloc o).heap.size = w.heap.size + 1 := Array.size_push _
def ckW (F tU : Nat) (w w1 w2 : World) : World :=
  (((w2.alloc (.cells #[.pointer (some ⟨w1.heap.size, 0, none⟩), .bool false] 87)).alloc (.cells #[.pointer (some ⟨w2.heap.size, 0, none⟩)] 84)).alloc
    (.cells #[.func (.func F) #[] #[.pointer (some ⟨w.heap.size, 0, none⟩), .pointer (some ⟨w2.heap.size + 1, 0, none⟩), .pointer (some ⟨w2.heap.size + 1 + 1, 0, none⟩)]] tU))
theorem ck_make (F tU : Nat) (w w1 w2 : World) (leaf : ByteArray) (A1 : Option Addr) (c1 : Nat) (xs : List ByteArray) (hb1 : Below (w.alloc (.cells #[.string leaf] 9)).heap.size (w.alloc (.cells #[.string leaf] 9)) w1)
    (hrow : xs = [] ∨ ∃ b off, A1 = some ⟨b, off, none⟩ ∧ (w.alloc (.cells #[.string leaf] 9)).heap.size ≤ b ∧ b < w1.heap.size ∧ ∀ j, j < xs.length → w1.cell? ⟨b, off + j, none⟩ = some (.string (xs.getD j ByteArray.empty)))
    (hb2 : Below (w1.alloc (.cells #[.slice A1 xs.length c1] 83)).heap.size (w1.alloc (.cells #[.slice A1 xs.length c1] 83)) w2) (hc1 : xs.length ≤ c1) (h63 : c1 ≤ 9223372036854775807) :
    CkInv F tU w (ckW F tU w w1 w2) w.heap.size w.heap.size w2.heap.size (w2.heap.size + 1) (w2.heap.size + 1 + 1) w1.heap.size leaf A1 c1 xs false := by
 have s1 := hb1.size; have s2 := hb2.size
 rw [alloc_size] at s1 s2
 have k2 : ∀ b, b < w2.heap.size → (ckW F tU w w1 w2).heap[b]? = w2.heap[b]? := by
  intro b hb
  unfold ckW
  refine (Below.heap_alloc _ _ b (by rw [alloc_size, alloc_size]; omega)).trans ?_
  refine (Below.heap_alloc _ _ b (by rw [alloc_size]; omega)).trans ?_
  exact Below.heap_alloc _ _ b hb
 have k1 : ∀ b, b < w1.heap.size → (ckW F tU w w1 w2).heap[b]? = w1.heap[b]? := fun b hb =>
  (k2 b (by omega)).trans ((hb2.block b (by rw [alloc_size]; omega)).trans (Below.heap_alloc w1 _ b hb))
 have k0 : ∀ b, b < w.heap.size → (ckW F tU w w1 w2).heap[b]? = w.heap[b]? := fun b hb =>
  (k1 b (by omega)).trans ((hb1.block b (by rw [alloc_size]; omega)).trans (Below.heap_alloc w _ b hb))
 have sz : (ckW F tU w w1 w2).heap.size = w2.heap.size + 1 + 1 + 1 := by
  unfold ckW
  rw [alloc_size, alloc_size, alloc_size]
 refine { hX := ?_, hS := ?_, hV := ?_, hU := ?_, hL := ?_, row := ?_, cap := hc1, c63 := h63, SL := by omega, XS := by omega, XL := by omega, VS := by omega, VL := by omega, US := by omega, UL := by omega, bS := by omega, bL := by omega, bw := by rw [sz]; omega, B := ⟨?_, ?_, ?_, by rw [sz]; omega, k0⟩ }
 ·exact (k1 _ (by omega)).trans ((hb1.block _ (by rw [alloc_size]; omega)).trans (blk_new w _))
 ·unfold ckW
  refine (Below.heap_alloc _ _ w2.heap.size (by rw [alloc_size, alloc_size]; omega)).trans ?_
  refine (Below.heap_alloc _ _ w2.heap.size (by rw [alloc_size]; omega)).trans ?_
  exact blk_new w2 _
 ·unfold ckW
  refine (Below.heap_alloc _ _ (w2.heap.size + 1) (by rw [alloc_size, alloc_size]; omega)).trans ?_
  have := blk_new (w2.alloc (.cells #[.pointer (some ⟨w1.heap.size, 0, none⟩), .bool false] 87)) (.cells #[.pointer (some ⟨w2.heap.size, 0, none⟩)] 84)
  rw [alloc_size] at this
  exact this
 ·unfold ckW
  have := blk_new ((w2.alloc (.cells #[.pointer (some ⟨w1.heap.size, 0, none⟩), .bool false] 87)).alloc (.cells #[.pointer (some ⟨w2.heap.size, 0, none⟩)] 84)) (.cells #[.func (.func F) #[] #[.pointer (some ⟨w.heap.size, 0, none⟩), .pointer (some ⟨w2.heap.size + 1, 0, none⟩), .pointer (some ⟨w2.heap.size + 1 + 1, 0, none⟩)]] tU)
  rw [alloc_size, alloc_size] at this
  exact this
 ·exact (k2 _ (by omega)).trans ((hb2.block _ (by rw [alloc_size]; omega)).trans (blk_new w1 _))
 ·rcases hrow with h | ⟨b, off, rfl, hlo, hlt, h⟩
  ·exact .inl h
  ·rw [alloc_size] at hlo
   exact .inr ⟨b, off, rfl, by omega, by omega, by rw [sz]; omega, fun j hj => (World.cell?_of_block (a := ⟨b, off + j, none⟩) (k1 b hlt)).trans (h j hj)⟩
 ·exact (show (ckW F tU w w1 w2).os = w2.os from rfl).trans (hb2.os.trans hb1.os)
 ·exact (show (ckW F tU w w1 w2).tape = w2.tape from rfl).trans (hb2.tape.trans hb1.tape)
 ·exact (show (ckW F tU w w1 w2).output = w2.output from rfl).trans (hb2.output.trans hb1.output)
set_option maxHeartbeats 4000000 in
theorem check_go (root : ByteArray) (n i : Int) (leaf : ByteArray) (A : Option Addr) (c : Nat) (xs : List ByteArray) (w : World) (hG : GL w) (hr : Kd.C Kd.string w A xs.length xs) (hc : xs.length ≤ c)
    (hbig : xs.length * 16 ≤ 140737488355328) (hj : (Pl.joined (Pl.leafL leaf)).size ≤ 140737488355328) (hn : n ≤ 1000000) (h0 : 0 ≤ i) (hi : i < n) (hall : xs.all Pl.isDig = true) :
    Calls Tryd.prog 33 #[.string root, .int .i64 n, .int .i64 i, .string leaf, .slice A xs.length c] w fun e w' => e = .returned (.bool (Pl.checkP root n i leaf xs)) ∧ Below w.heap.size w w' := by
 obtain ⟨n', rfl⟩ : ∃ m : Nat, n = (m : Int) := ⟨n.toNat, by omega⟩
 obtain ⟨i', rfl⟩ : ∃ m : Nat, i = (m : Int) := ⟨i.toNat, by omega⟩
 have hq : Pl.checkP root (n' : Int) (i' : Int) leaf xs = ((Pl.upP n' n' i' (Pl.leafP leaf) xs false).1.toList == root.toList && (!(Pl.upP n' n' i' (Pl.leafP leaf) xs false).2.2 && (Pl.upP n' n' i' (Pl.leafP leaf) xs false).2.1.isEmpty)) := by
  unfold Pl.checkP
  rw [if_neg (by rw [hall]; simp; omega)]
  rfl
 rw [hq]
 obtain ⟨q, hQ⟩ : ∃ q, Pl.upP n' n' i' (Pl.leafP leaf) xs false = q := ⟨_, rfl⟩
 rw [hQ]
 have HQ := Lib.hid hQ
 clear hq hQ
 have HG := Lib.hid hG
 have HR := Lib.hid hr
 have HA := Lib.hid hall
 have HJ := Lib.hid hj
 clear hG hr hall hj
 go_enter Tryd.func33, Tryd.ntmps33
 go_wp2_with fail
 refine (clone_any A c xs _ (Kd.C_below HR.out (below_alloc (Below.refl _ _) _)) hbig).mono ?_
 rintro e w1 ⟨A1, c1, rfl, hc1, h63, hrow, hb1⟩
 have HB1 := Lib.hid hb1
 have HROW := Lib.hid hrow
 clear hb1 hrow
 have hcA : Kd.C Kd.string (w1.alloc (.cells #[.slice A1 xs.length c1] 83)) A1 xs.length xs := C_of_row (by omega) (by
  rcases HROW.out with h | ⟨b, off, rfl, _, hlt, h⟩
  ·exact .inl h
  ·exact .inr ⟨b, off, rfl, fun j hj => (World.cell?_of_block (a := ⟨b, off + j, none⟩) (Below.heap_alloc w1 _ b hlt)).trans (h j hj)⟩)
 have HCA := Lib.hid hcA
 clear hcA
 go_wp2_with fail
 refine (proper_any A1 c1 xs _ (GL.below HG.out (below_alloc (below_step (below_alloc (Below.refl _ _) _) HB1.out) _)) HCA.out hc1).mono ?_
 rintro e w2 ⟨rfl, hb2⟩
 have HB2 := Lib.hid hb2
 clear hb2
 rw [HA.out]
 have hU3 := blk_new ((w2.alloc (.cells #[.pointer (some ⟨w1.heap.size, 0, none⟩), .bool false] 87)).alloc (.cells #[.pointer (some ⟨w2.heap.size, 0, none⟩)] 84)) (.cells #[.nilFunc] 88)
 rw [alloc_size, alloc_size] at hU3
 have hfU := blk_frozen hU3 0
 have hcU0 := (blk_cell hU3 0).trans (show _ = some Value.nilFunc from rfl)
 have hIv := ck_make 65 88 w w1 w2 leaf A1 c1 xs HB1.out HROW.out HB2.out hc1 h63
 unfold ckW at hIv
 have HIv := Lib.hid hIv
 clear hIv hU3
 have hx16 : ∀ x ∈ xs, x.size ≤ 16 := fun x hx => by
  have := (List.all_eq_true.1 HA.out) x hx
  unfold Pl.isDig at this
  rw [Bool.and_eq_true, decide_eq_true_eq] at this
  omega
 have hgo := up_any (w0 := w) (base := w.heap.size) HG.out rfl HJ.out n' n' i' _ xs false (Nat.le_refl _) (by omega) (by omega) (by omega) hx16 HIv.out
 rw [HQ.out] at hgo
 have HGO := Lib.hid hgo
 clear hgo hx16
 go_wp2_with fail
 refine HGO.out.mono ?_
 rintro e w4 ⟨rfl, hI4⟩
 have hcV4 := (blk_cell hI4.hV 0).trans (show _ = some (Value.pointer (some ⟨w2.heap.size, 0, none⟩)) from rfl)
 have HI4 := Lib.hid hI4
 clear hI4
 cases hroot : q.1.toList == root.toList with
 | true =>
  have hem : q.2.1.isEmpty = decide (q.2.1 = []) := by cases q.2.1 <;> simp
  have HEM := Lib.hid hem
  clear hem
  go_wp2_with fail
  refine (done_any w4 w1.heap.size w2.heap.size q.2.1.length c1 A1 q.2.2 HI4.out.hL HI4.out.hS).mono ?_
  rintro e w5 ⟨rfl, rfl⟩; go_wp2; go_ret
  refine ⟨?_, HI4.out.B⟩
  rw [hroot, HEM.out]
  rfl
 | false =>
  go_wp2; go_ret
  refine ⟨?_, HI4.out.B⟩
  rw [hroot]
  rfl
theorem checkP_no {root : ByteArray} {n i : Int} {leaf : ByteArray} {xs : List ByteArray} (h : n > 1000000 ∨ i < 0 ∨ i ≥ n ∨ xs.all Pl.isDig = false) : Pl.checkP root n i leaf xs = false := by
 unfold Pl.checkP
 rw [if_pos h]
set_option maxHeartbeats 4000000 in
theorem check_any (root : ByteArray) (n i : Int) (leaf : ByteArray) (A : Option Addr) (c : Nat) (xs : List ByteArray) (w : World) (hG : GL w) (hr : Kd.C Kd.string w A xs.length xs) (hc : xs.length ≤ c)
    (hbig : xs.length * 16 ≤ 140737488355328) (hj : (Pl.joined (Pl.leafL leaf)).size ≤ 140737488355328) :
    Calls Tryd.prog 33 #[.string root, .int .i64 n, .int .i64 i, .string leaf, .slice A xs.length c] w fun e w' => e = .returned (.bool (Pl.checkP root n i leaf xs)) ∧ Below w.heap.size w w' := by
 by_cases h : n > 1000000 ∨ (n ≤ 1000000 ∧ i < 0) ∨ (n ≤ 1000000 ∧ 0 ≤ i ∧ i ≥ n)
 ·rw [checkP_no (by omega)]
  have HR := Lib.hid hr
  clear hr
  go_enter Tryd.func33, Tryd.ntmps33
  go_wp2_with fail
  refine (clone_any A c xs _ (Kd.C_below HR.out (below_alloc (Below.refl _ _) _)) hbig).mono ?_
  rintro e w1 ⟨A1, c1, rfl, hc1, h63, hrow, hb1⟩
  have HB1 := Lib.hid (below_alloc (below_step (below_alloc (Below.refl w.heap.size w) (.cells #[.string leaf] 9)) hb1) (.cells #[.slice A1 xs.length c1] 83))
  clear hb1 hrow
  rcases h with h | ⟨h, h'⟩ | ⟨h, h', h''⟩
  ·go_wp2; go_ret
   exact ⟨rfl, HB1.out⟩
  ·go_wp2; go_ret
   exact ⟨rfl, HB1.out⟩
  ·go_wp2; go_ret
   exact ⟨rfl, HB1.out⟩
 ·by_cases hall : xs.all Pl.isDig = true
  ·exact check_go root n i leaf A c xs w hG hr hc hbig hj (by omega) (by omega) (by omega) hall
  ·have hall' : xs.all Pl.isDig = false := by simpa using hall
   rw [checkP_no (.inr (.inr (.inr hall')))]
   have HG := Lib.hid hG
   have HR := Lib.hid hr
   have HA := Lib.hid hall'
   have hn : n ≤ 1000000 := by omega
   have h0 : 0 ≤ i := by omega
   have hi : i < n := by omega
   clear hG hr hall hall' h hj
   go_enter Tryd.func33, Tryd.ntmps33
   go_wp2_with fail
   refine (clone_any A c xs _ (Kd.C_below HR.out (below_alloc (Below.refl _ _) _)) hbig).mono ?_
   rintro e w1 ⟨A1, c1, rfl, hc1, h63, hrow, hb1⟩
   have HB1 := Lib.hid hb1
   have hcA : Kd.C Kd.string (w1.alloc (.cells #[.slice A1 xs.length c1] 83)) A1 xs.length xs := C_of_row (by omega) (by
    rcases hrow with h | ⟨b, off, rfl, _, hlt, h⟩
    ·exact .inl h
    ·exact .inr ⟨b, off, rfl, fun j hj => (World.cell?_of_block (a := ⟨b, off + j, none⟩) (Below.heap_alloc w1 _ b hlt)).trans (h j hj)⟩)
   have HCA := Lib.hid hcA
   clear hcA hb1 hrow
   go_wp2_with fail
   refine (proper_any A1 c1 xs _ (GL.below HG.out (below_alloc (below_step (below_alloc (Below.refl _ _) _) HB1.out) _)) HCA.out hc1).mono ?_
   rintro e w2 ⟨rfl, hb2⟩
   have HB2 := Lib.hid (below_step (below_alloc (below_step (below_alloc (Below.refl w.heap.size w) (.cells #[.string leaf] 9)) HB1.out) (.cells #[.slice A1 xs.length c1] 83)) hb2)
   clear hb2
   rw [HA.out]
   go_wp2; go_ret
   exact ⟨rfl, HB2.out⟩
def tree_Check.f (root : ByteArray) (n i : Int) (leaf : ByteArray) (xs : List ByteArray) : Option Bool :=
  if xs.length * 16 ≤ 140737488355328 then if (Pl.joined (Pl.leafL leaf)).size ≤ 140737488355328 then some (Pl.checkP root n i leaf xs) else none else none
theorem tree_Check.calls (a0 : ByteArray) (a1 a2 : Int) (a3 : ByteArray) (A4 : Option Addr) (c4 : Nat) (l4 : List ByteArray) (r : Bool) (w : World) (hG : GL w) (hr4 : Kd.C Kd.string w A4 l4.length l4) (hc4 : l4.length ≤ c4) (h : tree_Check.f a0 a1 a2 a3 l4 = some r) :
    Calls Tryd.prog 33 #[.string a0, .int .i64 a1, .int .i64 a2, .string a3, .slice A4 l4.length c4] w fun e w' => e = .returned (.bool r) ∧ Below w.heap.size w w' := by
 unfold tree_Check.f at h
 by_cases h1 : l4.length * 16 ≤ 140737488355328
 ·by_cases h2 : (Pl.joined (Pl.leafL a3)).size ≤ 140737488355328
  ·rw [if_pos h1, if_pos h2] at h
   obtain rfl := Option.some.inj h
   exact check_any a0 a1 a2 a3 A4 c4 l4 w hG hr4 hc4 h1 h2
  ·rw [if_pos h1, if_neg h2] at h
   cases h
 ·rw [if_neg h1] at h
  cases h
end Go.Proofs.YtdlipbfcadmhjaaDoor
