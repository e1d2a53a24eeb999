import Derived.Test.YtdlipbfcadmhjaaDoorW4
import Derived.Test.YtdlipbfcadmhjaaDoorShelf
namespace Go.Proofs.YtdlipbfcadmhjaaDoor
open Go.RowKit Go.Proofs.YtdlipbfcadmhjaaDoorW.PrintWords
set_option linter.unusedVariables false
set_option linter.unusedSimpArgs false

theorem formatUintI_any (n : Nat) (hn : n < 18446744073709551616) (w : World) (h : GL w) :
    Calls Tryd.prog 85 #[.int .u64 (n : Int), .int .i64 16] w fun e w' =>
      ∃ m, m ≤ 15 ∧ n < 16 ^ (m + 1) ∧ e = .returned (.string ⟨(Pl.hexs (m + 1) n).toArray⟩) ∧ Below w.heap.size w w' := by
  have H := Lib.hid h
  have Hn := Lib.hid hn
  clear h hn
  go_enter Tryd.func85, Tryd.ntmps85
  go_wp2_with fail
  refine (formatBits_any n Hn.out _ (by exact H.out)).mono ?_
  rintro e w' ⟨m, hm, hmn, rfl, hb⟩
  have Hm := Lib.hid hmn
  have Hb := Lib.hid hb
  clear hmn hb
  go_wp2
  go_ret
  exact ⟨m, hm, Hm.out, rfl, Hb.out⟩
theorem formatUint_any (n : Nat) (hn : n < 18446744073709551616) (w : World) (h : GL w) :
    Calls Tryd.prog 51 #[.int .u64 (n : Int), .int .i64 16] w fun e w' =>
      ∃ m, m ≤ 15 ∧ n < 16 ^ (m + 1) ∧ e = .returned (.string ⟨(Pl.hexs (m + 1) n).toArray⟩) ∧ Below w.heap.size w w' := by
  have H := Lib.hid h
  have Hn := Lib.hid hn
  clear h hn
  go_enter Tryd.func51, Tryd.ntmps51
  go_wp2_with fail
  refine (formatUintI_any n Hn.out _ (by exact H.out)).mono ?_
  rintro e w' ⟨m, hm, hmn, rfl, hb⟩
  have Hm := Lib.hid hmn
  have Hb := Lib.hid hb
  clear hmn hb
  go_wp2
  go_ret
  exact ⟨m, hm, Hm.out, rfl, Hb.out⟩

theorem hexs_pad (k m n : Nat) (h : n < 16 ^ m) : Pl.hexs (k + m) n = List.replicate k 48 ++ Pl.hexs m n := by
  induction k with
  | zero => simp
  | succ k ih =>
    rw [show k + 1 + m = (k + m) + 1 from by omega, hexs_cons, ih]
    have : n / 16 ^ (k + m) = 0 := Nat.div_eq_of_lt (Nat.lt_of_lt_of_le h (Nat.pow_le_pow_right (by omega) (by omega)))
    rw [this]
    rfl

theorem ret_str {a b : ByteArray} (h : a = b) : Ending.returned (.string a) = .returned (.string b) := by rw [h]
theorem rep48 (k : Nat) : Lib.repeatL [48] k = List.replicate k 48 := by
  induction k with
  | zero => rfl
  | succ k ih => simp_all [Lib.repeatL, List.replicate_succ]
set_option maxRecDepth 100000 in
set_option maxHeartbeats 1000000 in
theorem sum_any (s : ByteArray) (hs : s.size ≤ 4611686018427387904) (w : World) (h : GL w) :
    Calls Tryd.prog 20 #[.string s] w fun e w' => e = .returned (.string (Pl.sum s)) ∧ Below w.heap.size w w' := by
  have H := Lib.hid h
  clear h
  have hmf : ∀ (fn : Fn) (first cap : Array Value) (w : World), (Instr.makeFunc fn first cap).run Tryd.prog w = .ok (.func fn first cap) w := fun _ _ _ _ => rfl
  have hx : bits BinOp.xor IntKind.u64 2611923443488327891 (IntKind.u64.wrap (s.size : Int)) = ((Pl.st0 s.size : Nat) : Int) := by
    rw [show IntKind.u64.wrap (s.size : Int) = (s.size : Int) from by rw [IntKind.wrap_u64]; omega]
    exact u64_xor_nat 2611923443488327891 s.size (by decide) (by omega)
  have Hs := Lib.hid hs
  clear hs
  go_enter Tryd.func20, Tryd.ntmps20
  go_wp2_with fail
  refine (blocks_any w.heap.size s Hs.out _ (by exact blk_new w _)).mono ?_
  rintro e w1 ⟨rfl, hb1, hg1⟩
  have hsz : w.heap.size < w1.heap.size := by have := hg1.size; simp at this; omega
  have hc1 : w1.cell? ⟨w.heap.size, 0, none⟩ = some (.int .u64 ((Pl.final s.data.toList : Nat) : Int)) := (blk_cell hb1 0).trans rfl
  have Hbel := Lib.hid (((Below.refl w.heap.size w).alloc (Nat.le_refl _) (.cells #[.int .u64 ((Pl.st0 s.size : Nat) : Int)] 63)).grown hg1 (by simp) (fun k hk => by cases hk; exact Nat.le_refl _))
  have Hg1 := Lib.hid (H.out.below Hbel.out)
  clear hb1 hg1
  go_wp2_with fail
  refine (formatUint_any (Pl.final s.data.toList) Pl.final_lt _ (by exact Hg1.out)).mono ?_
  rintro e w2 ⟨m, hm, hmn, rfl, hb2⟩
  have Hm := Lib.hid hmn
  have Hb2 := Lib.hid (Hbel.out.trans (hb2.mono (by omega)))
  have hl : (⟨(Pl.hexs (m + 1) (Pl.final s.data.toList)).toArray⟩ : ByteArray).size = m + 1 := by
    show (Pl.hexs (m + 1) (Pl.final s.data.toList)).toArray.size = _
    rw [List.size_toArray, Pl.hexs_length]
  obtain ⟨o, ho⟩ : ∃ o : ByteArray, (⟨(Pl.hexs (m + 1) (Pl.final s.data.toList)).toArray⟩ : ByteArray) = o := ⟨_, rfl⟩
  rw [ho] at hl ⊢
  have Ho := Lib.hid ho
  clear hmn hb2 ho hc1
  go_wp2_with fail
  rw [show (16 : Int) - ((m : Int) + 1) = ((15 - m : Nat) : Int) from by omega]
  refine (Tryd.strings_Repeat ⟨#[48]⟩ (15 - m) _ (by omega) (by show 1 * (15 - m) ≤ _; omega)).mono ?_
  rintro e w3 ⟨rfl, hb3⟩
  have Hb3 := Lib.hid (Hb2.out.trans (hb3.mono (by have := Hb2.out.size; omega)))
  clear hb3
  have hrl : (Lib.repeatL [48] (15 - m)) = List.replicate (15 - m) 48 := rep48 _
  obtain ⟨z, hz⟩ : ∃ z : ByteArray, (⟨(Lib.repeatL (⟨#[48]⟩ : ByteArray).data.toList (15 - m)).toArray⟩ : ByteArray) = z := ⟨_, rfl⟩
  have hzl : z.size = 15 - m := by
    rw [← hz]
    show (Lib.repeatL [48] (15 - m)).toArray.size = _
    rw [List.size_toArray, hrl, List.length_replicate]
  rw [hz]
  have Hz := Lib.hid hz
  have Hrl := Lib.hid hrl
  clear hz hrl
  go_wp2
  go_ret
  refine ⟨ret_str (a := z ++ o) ?_, Hb3.out⟩
  rw [← Hz.out, ← Ho.out]
  unfold Pl.sum Pl.sumL
  have hp := hexs_pad (15 - m) (m + 1) (Pl.final s.data.toList) Hm.out
  rw [show 15 - m + (m + 1) = 16 from by omega] at hp
  rw [hp, ← Hrl.out]
  apply ByteArray.ext
  simp
end Go.Proofs.YtdlipbfcadmhjaaDoor
