import Derived.Test.YtdlipbfcadmhjaaDoorW5
import Derived.Test.YtdlipbfcadmhjaaDoorJn
import Derived.Lib.QuietBelow
import Derived.Lib.AppendIntMem
namespace Go.Proofs.YtdlipbfcadmhjaaDoor
open Go.RowKit Go.Proofs.YtdlipbfcadmhjaaDoorW.PrintWords
set_option linter.unusedVariables false
set_option linter.unusedSimpArgs false

theorem builder_below {T e : TypeId} {B b : Nat} {bs : List Value} {W w1 : World} (h : Lib.IsBuilder T e B b bs W) (hb : Below W.heap.size W w1) : Lib.IsBuilder T e B b bs w1 := by
  rcases h with ⟨hB, v, hbk, ho, hne⟩ | ⟨hB, v, hbk, ho, hne⟩
  · exact .inl ⟨hB, v, blk_below hbk hb, pw_own_below ho hb, hne⟩
  · exact .inr ⟨hB, v, blk_below hbk hb, pw_own_below ho hb, hne⟩

/-- digest.List, as the printed texts name it: the digest of the joined text, where that fits. -/
def digest_List.f (l : List ByteArray) : Option ByteArray := if (Pl.joined l).size ≤ 140737488355328 then some (Pl.sum (Pl.joined l)) else none

set_option maxRecDepth 100000 in
set_option maxHeartbeats 2000000 in
theorem list_any (A0 : Option Addr) (c0 : Nat) (l0 : List ByteArray) (w : World) (hG : GL w) (hr0 : Kd.C Kd.string w A0 l0.length l0) (hc0 : l0.length ≤ c0)
    (hj : (Pl.joinedL l0).length ≤ 140737488355328) :
    Calls Tryd.prog 22 #[.slice A0 l0.length c0] w fun e w' => e = .returned (.string (Pl.sum (Pl.joined l0))) ∧ Below w.heap.size w w' := by
  have HG := Lib.hid hG
  have HR := Lib.hid hr0
  have HJ := Lib.hid hj
  have hmax := Kd.C_max hr0
  clear hG hr0 hc0 hj
  go_enter Tryd.func22, Tryd.ntmps22
  go_wp2_with fail
  go_loopw [8] (fun i wr => ∃ k : Nat, k ≤ l0.length ∧ i = .int .i64 (k : Int) ∧ Hid (Lib.IsBuilder 71 5 w.heap.size w.heap.size (Lib.byteCells (Pl.joinedL (l0.take k))) wr) ∧ Hid (Below w.heap.size w wr)) (fun i _ => l0.length - (intOf i).toNat)
  case atStart => exact ⟨0, Nat.zero_le _, rfl, Lib.hid (Lib.fresh_isBuilder _ _ w), Lib.hid ((Below.refl _ _).alloc (Nat.le_refl _) _)⟩
  case round =>
    obtain ⟨k, hk, rfl, HI, HB⟩ := hrel
    by_cases hlt : k < l0.length
    · obtain ⟨ad, rfl, hc⟩ := Kd.at_string HR.out (k : Int) (by omega) (by omega)
      rw [Int.toNat_natCast] at hc
      have hcw := (HB.out.cell (World.block_lt_of_cell? w _ hc)).trans hc
      have hs : (rdOf ByteArray.empty l0 (k : Int)) = l0.getD k ByteArray.empty := by simp [rdOf]
      rw [hs] at hcw
      obtain ⟨s, hse⟩ : ∃ s, l0.getD k ByteArray.empty = s := ⟨_, rfl⟩
      rw [hse] at hcw
      have hstep := Pl.joinedL_take_succ l0 k hlt
      rw [hse] at hstep
      have hlen := Pl.joinedL_take l0 (k + 1)
      rw [hstep] at hlen
      have Hstep := Lib.hid hstep
      have Hlen := Lib.hid hlen
      clear hc hs hse hstep hlen
      have hsz : s.size ≤ 140737488355328 := by
        have h1 := HJ.out
        have h2 := Hlen.out
        simp only [List.length_append, List.length_cons, data_length] at h2
        omega
      have hlt1 : w.heap.size < wr.heap.size := by
        rcases HI.out with ⟨_, v, hbk, _⟩ | ⟨_, v, hbk, _⟩ <;> exact blk_lt hbk
      go_wp2_with fail
      refine (Tryd.strconv_Itoa (s.size : Int) (by omega) (by omega) _ (by exact (HG.out.below HB.out).pow)).mono ?_
      rintro e w1 ⟨rfl, kk, os, hw⟩
      have hb1 : Below wr.heap.size wr w1 := by rw [hw]; exact Lib.below_grow _ _ (Nat.le_refl _) kk os
      have hi1 := builder_below HI.out hb1
      have hb1' := below_then HB.out (Nat.le_of_lt hlt1) hb1
      have hs1 := hb1.size
      have HI1 := Lib.hid hi1
      have HB1 := Lib.hid hb1'
      have Hw := Lib.hid hw
      clear hw hi1 hb1' hb1
      go_wp2_with fail
      refine (Tryd.Builder_WriteString w.heap.size w.heap.size _ ⟨(Lib.itoa (s.size : Int)).toArray⟩ _ HI1.out (by
        have h1 := HJ.out
        have h2 := Hlen.out
        simp only [List.length_append, List.length_cons] at h2
        rw [Lib.byteCells_length]
        show _ + (Lib.itoa (s.size : Int)).toArray.size ≤ _
        rw [List.size_toArray]
        omega) (by exact HB1.out.size)).mono ?_
      rintro e w2 ⟨rfl, hi2, hb2⟩
      have HI2 := Lib.hid (Or.inr hi2 : Lib.IsBuilder 71 5 w.heap.size w.heap.size _ w2)
      have HB2 := Lib.hid (HB1.out.trans hb2)
      clear hi2 hb2
      go_wp2_with fail
      refine (Tryd.Builder_WriteByte w.heap.size w.heap.size _ 58 _ HI2.out (by
        have h1 := HJ.out
        have h2 := Hlen.out
        simp only [List.length_append, List.length_cons] at h2
        rw [List.length_append, Lib.byteCells_length, Lib.strCells_toArray, Lib.byteCells_length]
        omega) (by exact HB2.out.size)).mono ?_
      rintro e w3 ⟨rfl, hi3, hb3⟩
      have HI3 := Lib.hid (Or.inr hi3 : Lib.IsBuilder 71 5 w.heap.size w.heap.size _ w3)
      have HB3 := Lib.hid (HB2.out.trans hb3)
      clear hi3 hb3
      go_wp2_with fail
      refine (Tryd.Builder_WriteString w.heap.size w.heap.size _ s _ HI3.out (by
        have h1 := HJ.out
        have h2 := Hlen.out
        simp only [List.length_append, List.length_cons, data_length] at h2
        rw [List.length_append, List.length_append, Lib.byteCells_length, Lib.strCells_toArray, Lib.byteCells_length]
        simp only [List.length_cons, List.length_nil]
        omega) (by exact HB3.out.size)).mono ?_
      rintro e w4 ⟨rfl, hi4, hb4⟩
      have HI4 := Lib.hid (Or.inr hi4 : Lib.IsBuilder 71 5 w.heap.size w.heap.size _ w4)
      have HB4 := Lib.hid (HB3.out.trans hb4)
      clear hi4 hb4
      go_wp2
      go_roundw
      case rel =>
        refine ⟨k + 1, by omega, by go_num, ?_, HB4⟩
        have h := HI4.out
        rw [Lib.strCells_toArray, Lib.strCells_eq] at h
        refine Lib.hid ?_
        rw [Hstep.out]
        have e : Lib.byteCells (Pl.joinedL (l0.take k) ++ (Lib.itoa (s.size : Int) ++ 58 :: s.data.toList)) = Lib.byteCells (Pl.joinedL (l0.take k)) ++ Lib.byteCells (Lib.itoa (s.size : Int)) ++ [Value.int .u8 58] ++ Lib.byteCells s.data.toList := by
          simp [Lib.byteCells]
        rw [e]
        exact h
      case measure => simp [intOf]; omega
    · obtain rfl : k = l0.length := by omega
      rw [List.take_length] at HI
      go_wp2_with fail
      refine (Tryd.Builder_String_any w.heap.size w.heap.size _ _ HI.out (by exact HB.out.size)).mono ?_
      rintro e w1 ⟨rfl, hb1⟩
      have HB1 := Lib.hid (HB.out.trans hb1)
      clear hb1
      go_wp2_with fail
      refine (sum_any ⟨(Pl.joinedL l0).toArray⟩ (by have := HJ.out; show (Pl.joinedL l0).toArray.size ≤ _; rw [List.size_toArray]; omega) _ (by exact HG.out.below HB1.out)).mono ?_
      rintro e w2 ⟨rfl, hb2⟩
      have HB2 := Lib.hid (below_then HB1.out HB1.out.size hb2)
      clear hb2
      go_wp2
      go_ret
      exact ⟨rfl, HB2.out⟩

theorem digest_List.calls (A0 : Option Addr) (c0 : Nat) (l0 : List ByteArray) (r : ByteArray) (w : World) (hG : GL w) (hr0 : Kd.C Kd.string w A0 l0.length l0) (hc0 : l0.length ≤ c0) (h : digest_List.f l0 = some r) :
    Calls Tryd.prog 22 #[.slice A0 l0.length c0] w fun e w' => e = .returned (.string r) ∧ Below w.heap.size w w' := by
  unfold digest_List.f at h
  by_cases hc : (Pl.joined l0).size ≤ 140737488355328
  · rw [if_pos hc] at h
    obtain rfl := Option.some.inj h
    exact list_any A0 c0 l0 w hG hr0 hc0 (by rw [← Pl.joined_size]; exact hc)
  · rw [if_neg hc] at h
    cases h
def digest_Sum.f (a : ByteArray) : Option ByteArray := if a.size ≤ 140737488355328 then some (Pl.sum a) else none
theorem digest_Sum.calls (a0 : ByteArray) (r : ByteArray) (w : World) (hG : GL w) (h : digest_Sum.f a0 = some r) :
    Calls Tryd.prog 20 #[.string a0] w fun e w' => e = .returned (.string r) ∧ Below w.heap.size w w' := by
  unfold digest_Sum.f at h
  by_cases hc : a0.size ≤ 140737488355328
  · rw [if_pos hc] at h
    obtain rfl := Option.some.inj h
    exact sum_any a0 (by omega) w hG
  · rw [if_neg hc] at h
    cases h
end Go.Proofs.YtdlipbfcadmhjaaDoor
