/- Texts of this claim, in one file. -/
import Derived.Test.YtdlipbfcadmhjaaGreatDoorQ2
import Derived.Test.YtdlipbfcadmhjaaGreatDoorPG3x9
set_option linter.unusedSimpArgs false
set_option linter.unusedVariables false
namespace Go.Proofs.YtdlipbfcadmhjaaGreatDoor
open Go.RowKit Go.Proofs.YtdlipbfcadmhjaaGreatDoorW.PrintWords Go.Proofs.YtdlipbfcadmhjaaGreatDoorW.PrintMore PG3
theorem ref_mix (X : Nat) : customhouseref01_mix.f (X : Int) = some ((Pl.mix X : Nat) : Int) := by
 unfold customhouseref01_mix.f
 rw [mixI]
theorem getD_at (a : ByteArray) (i : Nat) (h : i < a.size) : bt a (i : Int) = ((a.data.toList.getD i 0).toNat : Int) := by
 have h' : i < a.data.toList.length := by rw [Pl.dataLen]; exact h
 unfold bt
 rw [dif_pos (show (i : Int).toNat < a.size from h), List.getD_eq_getElem?_getD, List.getElem?_eq_getElem h']
 rfl
theorem ref_l1 (a : ByteArray) (r : ByteArray) (s p : Nat) (hs : s < 18446744073709551616) (hp : p ≤ 4611686018427387904)
    (H : Ev (fun k => customhouseref01_Sum.l0 k a ((Pl.mix (s ^^^ Pl.blk a.data.toList p) : Nat) : Int) ((p + 8 : Nat) : Int)) r) :
    ∀ (m i : Nat), i + m = 8 → Ev (fun k => customhouseref01_Sum.l1 k a (s : Int) (p : Int) ((Pl.blkN a.data.toList p i : Nat) : Int) ((p + i : Nat) : Int)) r := by
 have e8 : wrap64 ((p : Int) + 8) = ((p + 8 : Nat) : Int) := by rw [w64_id] <;> omega
 intro m
 induction m with
 | zero =>
  intro i hi
  obtain rfl : i = 8 := by omega
  refine evS ?_
  have hx : Go.bits .xor .u64 (s : Int) ((Pl.blkN a.data.toList p 8 : Nat) : Int) = ((s ^^^ Pl.blk a.data.toList p : Nat) : Int) := u64_xor_nat s _ hs (Pl.blk_lt _ _)
  simp only [customhouseref01_Sum.l1, e8, if_neg (show ¬ ((p + 8 : Nat) : Int) < ((p + 8 : Nat) : Int) by omega), hx, ref_mix, Option.bind_some]; exact H
 | succ m ih =>
  intro i hi
  refine evS ?_
  have e1 : wrap64 (((p + i : Nat) : Int) + 1) = ((p + (i + 1) : Nat) : Int) := by rw [w64_id] <;> omega
  have hb : Pl.blkN a.data.toList p i < 256 ^ 7 := Nat.lt_of_lt_of_le (Pl.blkN_lt _ _ i) (Nat.pow_le_pow_right (by omega) (by omega))
  have hb' : Pl.blkN a.data.toList p i < 72057594037927936 := hb
  simp only [customhouseref01_Sum.l1, e8, if_pos (show ((p + i : Nat) : Int) < ((p + 8 : Nat) : Int) by omega), e1]
  by_cases hc : p + i < a.size
  ·simp only [if_pos (show ((p + i : Nat) : Int) < (a.size : Int) by omega), if_pos (show (0 : Int) ≤ ((p + i : Nat) : Int) by omega)]
   have e2 : IntKind.u64.wrap (IntKind.u64.wrap (((Pl.blkN a.data.toList p i : Nat) : Int) * 256) + IntKind.u64.wrap (bt a ((p + i : Nat) : Int))) = ((Pl.blkN a.data.toList p (i + 1) : Nat) : Int) := by
    rw [getD_at a (p + i) hc]
    have hd := (a.data.toList.getD (p + i) 0).toNat_lt
    rw [IntKind.wrap_u64, IntKind.wrap_u64, IntKind.wrap_u64]
    simp only [Pl.blkN]
    omega
   rw [show (fun k => customhouseref01_Sum.l1 k a (s : Int) (p : Int) (IntKind.u64.wrap (IntKind.u64.wrap (((Pl.blkN a.data.toList p i : Nat) : Int) * 256) + IntKind.u64.wrap (bt a ((p + i : Nat) : Int)))) ((p + (i + 1) : Nat) : Int)) = (fun k => customhouseref01_Sum.l1 k a (s : Int) (p : Int) ((Pl.blkN a.data.toList p (i + 1) : Nat) : Int) ((p + (i + 1) : Nat) : Int)) by rw [e2]]
   exact ih (i + 1) (by omega)
  ·simp only [if_neg (show ¬ ((p + i : Nat) : Int) < (a.size : Int) by omega)]
   have e2 : IntKind.u64.wrap (((Pl.blkN a.data.toList p i : Nat) : Int) * 256) = ((Pl.blkN a.data.toList p (i + 1) : Nat) : Int) := by
    have hz : a.data.toList.getD (p + i) 0 = 0 := by
     rw [List.getD_eq_getElem?_getD, List.getElem?_eq_none (by rw [Pl.dataLen]; omega)]; rfl
    rw [IntKind.wrap_u64]
    simp only [Pl.blkN, hz]
    have e0 : (0 : UInt8).toNat = 0 := rfl
    rw [e0]
    omega
   rw [show (fun k => customhouseref01_Sum.l1 k a (s : Int) (p : Int) (IntKind.u64.wrap (((Pl.blkN a.data.toList p i : Nat) : Int) * 256)) ((p + (i + 1) : Nat) : Int)) = (fun k => customhouseref01_Sum.l1 k a (s : Int) (p : Int) ((Pl.blkN a.data.toList p (i + 1) : Nat) : Int) ((p + (i + 1) : Nat) : Int)) by rw [e2]]
   exact ih (i + 1) (by omega)
theorem dig_at : ∀ n : Fin 16, ((⟨#[48, 49, 50, 51, 52, 53, 54, 55, 56, 57, 97, 98, 99, 100, 101, 102]⟩ : ByteArray).extract n.val (n.val + 1)).data.toList = [Pl.hexd n.val] := by
 intro n
 rw [Pl.ext_data]
 revert n
 decide
theorem ref_l2 (F : Nat) : ∀ (m i : Nat), i + m = 16 → F < 18446744073709551616 → Ev (fun k => customhouseref01_Sum.l2 k ((F / 16 ^ i : Nat) : Int) (⟨(Pl.hexs i F).toArray⟩ : ByteArray) (i : Int)) (⟨(Pl.hexs 16 F).toArray⟩ : ByteArray) := by
 intro m
 induction m with
 | zero =>
  intro i hi _
  obtain rfl : i = 16 := by omega
  refine evS ?_
  simp only [customhouseref01_Sum.l2, if_neg (show ¬ ((16 : Nat) : Int) < 16 by omega)]
  exact Ev.now _
 | succ m ih =>
  intro i hi hF
  refine evS ?_
  have e1 : wrap64 ((i : Int) + 1) = ((i + 1 : Nat) : Int) := by rw [w64_id] <;> omega
  have hq : F / 16 ^ i < 18446744073709551616 := Nat.lt_of_le_of_lt (Nat.div_le_self _ _) hF
  generalize hQ : F / 16 ^ i = q at hq
  have t1 : Int.tmod (q : Int) 16 = ((q % 16 : Nat) : Int) := by rw [Int.tmod_eq_emod_of_nonneg (by omega)]; omega
  have t2 : IntKind.u64.wrap (Int.tdiv (q : Int) 16) = ((q / 16 : Nat) : Int) := by rw [Int.tdiv_eq_ediv_of_nonneg (by omega), IntKind.wrap_u64]; omega
  have t3 : IntKind.u64.wrap (((q % 16 : Nat) : Int) + 1) = ((q % 16 + 1 : Nat) : Int) := by rw [IntKind.wrap_u64]; omega
  have hx := dig_at ⟨q % 16, by omega⟩
  simp only at hx
  have hz : ((⟨#[48, 49, 50, 51, 52, 53, 54, 55, 56, 57, 97, 98, 99, 100, 101, 102]⟩ : ByteArray).extract (q % 16) (q % 16 + 1)).size = 1 := by rw [← Pl.dataLen, hx]; rfl
  have hsz : (⟨(Pl.hexs i F).toArray⟩ : ByteArray).size = i := by rw [← Pl.dataLen]; simp [Pl.hexs_length]
  have hap : ((⟨#[48, 49, 50, 51, 52, 53, 54, 55, 56, 57, 97, 98, 99, 100, 101, 102]⟩ : ByteArray).extract (q % 16) (q % 16 + 1)) ++ (⟨(Pl.hexs i F).toArray⟩ : ByteArray) = ⟨(Pl.hexs (i + 1) F).toArray⟩ := by
   apply Pl.data_inj
   rw [ByteArray.data_append, Array.toList_append, hx, hexs_cons, hQ]
   simp
  have hd : q / 16 = F / 16 ^ (i + 1) := by rw [← hQ, Nat.div_div_eq_div_mul, Nat.pow_succ]
  simp only [customhouseref01_Sum.l2, if_pos (show (i : Int) < 16 by omega), t1, t2, t3, e1, if_pos (show (0 : Int) ≤ ((q % 16 : Nat) : Int) by omega),
   if_pos (show ((q % 16 : Nat) : Int) ≤ ((q % 16 + 1 : Nat) : Int) by omega), if_pos (show ((q % 16 + 1 : Nat) : Int) ≤ 16 by omega), Int.toNat_natCast, hz, hsz, if_pos (show 1 + i ≤ 9223372036854775807 by omega), hap, hd]
  exact ih (i + 1) (by omega) hF
theorem ref_l0 (a : ByteArray) (ha : a.size ≤ 4611686018427387904) : ∀ (m j : Nat), j + m = a.size / 8 + 1 →
    Ev (fun k => customhouseref01_Sum.l0 k a ((Pl.st a.data.toList j : Nat) : Int) ((8 * j : Nat) : Int)) (Pl.sum a) := by
 have hlen : a.data.toList.length = a.size := Pl.dataLen a
 intro m
 induction m with
 | zero =>
  intro j hj
  refine evS ?_
  simp only [customhouseref01_Sum.l0, if_neg (show ¬ ((8 * j : Nat) : Int) ≤ (a.size : Int) by omega)]
  have h := ref_l2 (Pl.st a.data.toList j) 16 0 rfl (Pl.st_lt (by rw [hlen]; omega) j)
  simp only [Nat.pow_zero, Nat.div_one] at h
  refine evE h ?_
  unfold Pl.sum Pl.sumL Pl.final
  rw [hlen, show a.size / 8 + 1 = j by omega]
 | succ m ih =>
  intro j hj
  refine evS ?_
  simp only [customhouseref01_Sum.l0, if_pos (show ((8 * j : Nat) : Int) ≤ (a.size : Int) by omega)]
  refine ref_l1 a _ (Pl.st a.data.toList j) (8 * j) (Pl.st_lt (by rw [hlen]; omega) j) (by omega) ?_ 8 0 rfl
  exact ih (j + 1) (by omega)
theorem refSumE (a : ByteArray) (ha : a.size ≤ 4611686018427387904) : Ev (fun k => customhouseref01_Sum.f k a) (Pl.sum a) := by
 have hx : Go.bits .xor .u64 2611923443488327891 (IntKind.u64.wrap (a.size : Int)) = ((Pl.st a.data.toList 0 : Nat) : Int) := by
  rw [show IntKind.u64.wrap (a.size : Int) = ((a.size : Nat) : Int) by rw [IntKind.wrap_u64]; omega]
  have e := u64_xor_nat 2611923443488327891 a.size (by decide) (by omega)
  simp only [Pl.st, Pl.st0, Pl.dataLen]; exact e
 unfold customhouseref01_Sum.f
 rw [hx]
 exact ref_l0 a ha (a.size / 8 + 1) 0 (by omega)
theorem joinedE {l : List ByteArray} {n : Nat} (h : Pl.few l n = true) (hn : n ≤ 1000000) : customhouseref01_Joined.f l = some (Pl.joined l) := by
 unfold customhouseref01_Joined.f
 obtain ⟨h1, h2, _⟩ := Pl.few_caps h hn
 rw [if_pos h1, if_pos h2]
end Go.Proofs.YtdlipbfcadmhjaaGreatDoor

namespace Go.Proofs.YtdlipbfcadmhjaaGreatDoor.Q4
open Go.RowKit Go.Proofs.YtdlipbfcadmhjaaGreatDoorW.PrintWords Go.Proofs.YtdlipbfcadmhjaaGreatDoorW.PrintMore PG3
theorem refSumE (a : ByteArray) (ha : a.size ≤ 4611686018427387904) : Ev (fun k => customhouseref01_Sum.f k a) (Pl.sum a) := Go.Proofs.YtdlipbfcadmhjaaGreatDoor.refSumE a ha
theorem sameE (l m : List ByteArray) (hb : l.length ≤ 9223372036854775807) : Ev (fun k => customhouseref01_Same.f k l m) (decide (l = m)) := Go.Proofs.YtdlipbfcadmhjaaGreatDoor.sameE l m hb
end Go.Proofs.YtdlipbfcadmhjaaGreatDoor.Q4
