/- tree.Extends. -/
import Derived.Test.YtdlipbfcadmhjaaGreatDoorT5
import Derived.Test.YtdlipbfcadmhjaaGreatDoorPG2x2
namespace Go.Proofs.YtdlipbfcadmhjaaGreatDoor
set_option linter.unusedVariables false
set_option linter.unusedSimpArgs false
open Go.RowKit Go.Proofs.YtdlipbfcadmhjaaGreatDoorW.PrintWords Go.Proofs.YtdlipbfcadmhjaaGreatDoorW.PrintMore PG2

def Pl.emptyP : ByteArray := Pl.sum (Pl.joined [⟨#[101, 109, 112, 116, 121]⟩])
def Pl.extendsP (old : ByteArray) (m : Int) (root : ByteArray) (n : Int) (xs : List ByteArray) : Bool :=
  if m < 0 ∨ m > n ∨ n > 1000000 ∨ xs.all Pl.isDig = false ∨ (Pl.isDig old && Pl.isDig root) = false then false
  else if m = 0 then xs.isEmpty && (old.toList == Pl.emptyP.toList && (decide (n > 0) || root.toList == old.toList))
  else
    let q := Pl.bothP n.toNat n.toNat m.toNat true old xs false
    q.1.toList == old.toList && (q.2.1.toList == root.toList && (!q.2.2.2 && q.2.2.1.isEmpty))

set_option maxHeartbeats 4000000 in
theorem extends_go (old root : ByteArray) (m n : Nat) (A : Option Addr) (c : Nat) (xs : List ByteArray) (w : World) (hG : GL w) (hr : Kd.C Kd.string w A xs.length xs) (hc : xs.length ≤ c)
    (hbig : xs.length * 16 ≤ 140737488355328) (hm : 1 ≤ m) (hmn : m ≤ n) (hn : n ≤ 1000000) (hall : xs.all Pl.isDig = true) (ho : Pl.isDig old = true) (hrt : Pl.isDig root = true) :
    Calls Tryz.prog 34 #[.string old, .int .i64 (m : Int), .string root, .int .i64 (n : Int), .slice A xs.length c] w fun e w' => e = .returned (.bool (Pl.extendsP old m root n xs)) ∧ Below w.heap.size w w' := by
  have hq : Pl.extendsP old m root n xs = ((Pl.bothP n n m true old xs false).1.toList == old.toList && ((Pl.bothP n n m true old xs false).2.1.toList == root.toList && (!(Pl.bothP n n m true old xs false).2.2.2 && (Pl.bothP n n m true old xs false).2.2.1.isEmpty))) := by
    unfold Pl.extendsP
    rw [if_neg (by rw [hall, ho, hrt]; simp; omega), if_neg (by omega)]
    rfl
  rw [hq]
  obtain ⟨q, hQ⟩ : ∃ q, Pl.bothP n n m true old xs false = q := ⟨_, rfl⟩
  rw [hQ]
  have HQ := Lib.hid hQ
  have h16 : ∀ x : ByteArray, Pl.isDig x = true → x.size ≤ 16 := fun x hx => by
    unfold Pl.isDig at hx
    rw [Bool.and_eq_true, decide_eq_true_eq] at hx
    omega
  have hx16 : ∀ x ∈ xs, x.size ≤ 16 := fun x hx => h16 x ((List.all_eq_true.1 hall) x hx)
  have ho16 := h16 old ho
  have HG := Lib.hid hG
  have HR := Lib.hid hr
  have HA := Lib.hid hall
  have HT : Hid (([old, root] : List ByteArray).all Pl.isDig = true) := Lib.hid (by simp [ho, hrt])
  clear hG hr hall hq hQ h16 ho hrt
  go_enter Tryz.func34, Tryz.ntmps34
  go_wp2_with fail
  refine (clone_any A c xs _ (Kd.C_below HR.out (below_alloc (Below.refl _ _) _)) hbig).mono ?_
  rintro e w1 ⟨A1, c1, rfl, hc1, h63, hrow, hb1⟩
  have HB1 := Lib.hid hb1
  have HROW := Lib.hid hrow
  clear hb1 hrow
  have hcA : Kd.C Kd.string (w1.alloc (.cells #[.slice A1 xs.length c1] 120)) A1 xs.length xs := C_of_row (by omega) (by
    rcases HROW.out with h | ⟨b, off, rfl, _, hlt, h⟩
    · exact .inl h
    · exact .inr ⟨b, off, rfl, fun j hj => (World.cell?_of_block (a := ⟨b, off + j, none⟩) (Below.heap_alloc w1 _ b hlt)).trans (h j hj)⟩)
  have HCA := Lib.hid hcA
  clear hcA
  go_wp2_with fail
  refine (proper_any A1 c1 xs _ (GL.below HG.out (below_alloc (below_step (below_alloc (Below.refl _ _) _) HB1.out) _)) HCA.out hc1).mono ?_
  rintro e w2 ⟨rfl, hb2⟩
  have HB2 := Lib.hid hb2
  have hX2 : w2.heap[w.heap.size]? = some (.cells #[.string old] 9 (0, 0)) := by
    have s1 := HB1.out.size
    have s2 := hb2.size
    rw [alloc_size] at s1 s2
    exact (hb2.block _ (by rw [alloc_size]; omega)).trans ((Below.heap_alloc w1 _ _ (by omega)).trans ((HB1.out.block _ (by rw [alloc_size]; omega)).trans (blk_new w _)))
  have hcX := (blk_cell hX2 0).trans (show _ = some (Value.string old) from rfl)
  have HX2 := Lib.hid hX2
  clear hb2 hX2
  rw [HA.out]
  go_wp2_with fail
  refine (proper_any _ 2 [old, root] _ (GL.below HG.out (below_alloc (below_step (below_alloc (below_step (below_alloc (Below.refl _ _) _) HB1.out) _) HB2.out) _)) (C_two w2 old root) (Nat.le_refl 2)).mono ?_
  rintro e w3 ⟨rfl, hb3⟩
  have HB3 := Lib.hid (below_step HB2.out (below_step (below_alloc (Below.refl w2.heap.size w2) (.cells #[.string old, .string root] 9)) hb3))
  clear hb3 hcX
  rw [HT.out]
  have hU3 := blk_new ((w3.alloc (.cells #[.pointer (some ⟨w1.heap.size, 0, none⟩), .bool false] 124)).alloc (.cells #[.pointer (some ⟨w3.heap.size, 0, none⟩)] 121)) (.cells #[.nilFunc] 128)
  rw [alloc_size, alloc_size] at hU3
  have hfU := blk_frozen hU3 0
  have hcU0 := (blk_cell hU3 0).trans (show _ = some Value.nilFunc from rfl)
  have hIv := ck_make 99 128 w w1 w3 old A1 c1 xs HB1.out HROW.out HB3.out hc1 h63
  unfold ckW at hIv
  have HIv := Lib.hid hIv
  clear hIv hU3
  have hgo := both_any (w0 := w) (base := w.heap.size) HG.out rfl ho16 n n m true _ xs false (Nat.le_refl _) hm hmn hn hx16 HIv.out
  rw [HQ.out] at hgo
  have HGO := Lib.hid hgo
  clear hgo hx16
  have hm0 : ((m : Int) == 0) = false := beq_eq_false_iff_ne.2 (by omega)
  go_wp2_with fail
  refine HGO.out.mono ?_
  rintro e w4 ⟨rfl, hI4⟩
  have hcV4 := (blk_cell hI4.hV 0).trans (show _ = some (Value.pointer (some ⟨w3.heap.size, 0, none⟩)) from rfl)
  have hcX4 := (blk_cell hI4.hX 0).trans (show _ = some (Value.string old) from rfl)
  have HI4 := Lib.hid hI4
  clear hI4
  have hem : q.2.2.1.isEmpty = decide (q.2.2.1 = []) := by cases q.2.2.1 <;> simp
  have HEM := Lib.hid hem
  clear hem
  cases hr1 : q.1.toList == old.toList with
  | false =>
    go_wp2
    go_ret
    refine ⟨?_, HI4.out.B⟩
    rw [hr1]
    rfl
  | true =>
    cases hr2 : q.2.1.toList == root.toList with
    | false =>
      go_wp2
      go_ret
      refine ⟨?_, HI4.out.B⟩
      rw [hr1, hr2]
      rfl
    | true =>
      go_wp2_with fail
      refine (done_any w4 w1.heap.size w3.heap.size q.2.2.1.length c1 A1 q.2.2.2 HI4.out.hL HI4.out.hS).mono ?_
      rintro e w5 ⟨rfl, rfl⟩
      go_wp2
      go_ret
      refine ⟨?_, HI4.out.B⟩
      rw [hr1, hr2, HEM.out]
      rfl
end Go.Proofs.YtdlipbfcadmhjaaGreatDoor
