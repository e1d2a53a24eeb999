/- seal.Sign and seal.Verify: their contracts. -/
import Derived.Test.YtdlipbfcadmhjaaDoorSVe
import Derived.Test.YtdlipbfcadmhjaaDoorS2e
import Derived.Test.YtdlipbfcadmhjaaDoorS4a
namespace Go.Proofs.YtdlipbfcadmhjaaDoor
set_option linter.unusedVariables false
set_option linter.unusedSimpArgs false
open Go.RowKit Go.Proofs.YtdlipbfcadmhjaaDoorW.PrintWords Go.Proofs.YtdlipbfcadmhjaaDoorW.PrintLast Go.Proofs.YtdlipbfcadmhjaaDoorW.PrintMore
theorem Pl.sealOk_iff (i : Int) (sig path : List ByteArray) : Pl.sealOk i sig path = true ↔ sig.length = 18 ∧ path.length ≤ 8 ∧ sig.all Pl.isDig = true ∧ path.all Pl.isDig = true ∧ 0 ≤ i ∧ i < ((2 ^ path.length : Nat) : Int) := by
 simp only [Pl.sealOk, Bool.and_eq_true, decide_eq_true_eq]
def seal_Sign.f (a0 : ByteArray) (a1 a2 : Int) (a3 : ByteArray) : Option (Int × List ByteArray × List ByteArray × Int) :=
  if a0.size ≤ 1000 then if a3.size ≤ 1000000 then
    if a1 < 0 ∨ a1 > 8 ∨ a2 < 0 ∨ ((2 ^ a1.toNat : Nat) : Int) ≤ a2 then some (0, [], [], 1)
    else some (a2, Pl.sigP a0 a2.toNat a3, Pl.pathP (Pl.keysP a0 a1.toNat) a2.toNat, 0)
  else none else none
def seal_Verify.f (a0 a1 : ByteArray) (a2 : Int) (l1 l2 : List ByteArray) : Option Bool :=
  if a1.size ≤ 1000000 then some (Pl.verifyP a0 a1 a2 l1 l2) else none
theorem seal_Sign.calls (a0 : ByteArray) (a1 a2 : Int) (a3 : ByteArray) (r1 : Int) (r2 r3 : List ByteArray) (r4 : Int) (w : World) (hG : GL w) (h : seal_Sign.f a0 a1 a2 a3 = some (r1, r2, r3, r4)) :
    Calls Tryd.prog 44 #[.string a0, .int .i64 a1, .int .i64 a2, .string a3] w fun e w' => ∃ v1_ v2_ : Value, e = .returned (.tuple #[.agg #[.int .i64 r1, v1_, v2_], .int .i64 r4]) ∧ Kd.R Kd.string 9 w' w.heap.size (fun k_ => some k_ ≠ (v2_ : Value).ownBlock) v1_ r2 ∧ Kd.R Kd.string 9 w' w.heap.size (fun k_ => some k_ ≠ (v1_ : Value).ownBlock) v2_ r3 ∧ Below w.heap.size w w' := by
 unfold seal_Sign.f at h
 by_cases h1 : a0.size ≤ 1000
 ·by_cases h2 : a3.size ≤ 1000000
  ·rw [if_pos h1, if_pos h2] at h
   by_cases h3 : a1 < 0 ∨ a1 > 8 ∨ a2 < 0 ∨ ((2 ^ a1.toNat : Nat) : Int) ≤ a2
   ·rw [if_pos h3] at h
    have h := Option.some.inj h
    simp only [Prod.mk.injEq] at h
    obtain ⟨rfl, rfl, rfl, rfl⟩ := h
    refine (sign_err a0 a3 a1 a2 w h3).mono ?_
    rintro e w' ⟨rfl, hb⟩
    exact ⟨.slice none 0 0, .slice none 0 0, rfl, Kd.R_nil _ _ _ _ _, Kd.R_nil _ _ _ _ _, hb⟩
   ·rw [if_neg h3] at h
    have h := Option.some.inj h
    simp only [Prod.mk.injEq] at h
    obtain ⟨rfl, rfl, rfl, rfl⟩ := h
    obtain ⟨H, rfl⟩ : ∃ H : Nat, a1 = (H : Int) := ⟨a1.toNat, by omega⟩
    obtain ⟨I, rfl⟩ : ∃ I : Nat, a2 = (I : Int) := ⟨a2.toNat, by omega⟩
    simp only [Int.toNat_natCast] at h3 ⊢
    have hH : H ≤ 8 := by omega
    have hI : I < 2 ^ H := by
     have := h3
     simp only [not_or] at this
     have := this.2.2.2
     exact Int.ofNat_lt.1 (by omega)
    have hb := Pl.pow8 hH
    obtain ⟨kk, hkk⟩ := (keysE a0 H h1 hH).rounds
    obtain ⟨kp, hkp⟩ := (pathE (Pl.keysP a0 H) I (by rw [Pl.keysP_len]; exact hI) (by rw [Pl.keysP_len]; omega) (Pl.keysP_small a0 H)).rounds
    exact sign_ok a0 a3 H I (by omega) hH hI (fun k => Pl.startP a0 I k.val) (fun k => Pl.chn (Pl.dg a3 k.val) (Pl.startP a0 I k.val)) (fun k => startE a0 I k.val h1 (by omega) (by have := k.isLt; omega))
     (fun k => (s_chainN (Pl.startP a0 I k.val) (Pl.dg a3 k.val) (by rw [Pl.startP_size]; omega) (by have := Pl.dg_lt a3 k.val; omega)).rounds) kk kp (Pl.keysP a0 H) (Pl.pathP (Pl.keysP a0 H) I) hkk hkp w hG
  ·rw [if_pos h1, if_neg h2] at h
   cases h
 ·rw [if_neg h1] at h
  cases h
theorem seal_Verify.calls (a0 a1 : ByteArray) (a2 : Int) (A1 : Option Addr) (c1 : Nat) (l1 : List ByteArray) (A2 : Option Addr) (c2 : Nat) (l2 : List ByteArray) (r : Bool) (w : World) (hG : GL w)
    (hr1 : Kd.C Kd.string w A1 l1.length l1) (hc1 : l1.length ≤ c1) (hr2 : Kd.C Kd.string w A2 l2.length l2) (hc2 : l2.length ≤ c2) (h : seal_Verify.f a0 a1 a2 l1 l2 = some r) :
    Calls Tryd.prog 46 #[.string a0, .string a1, .agg #[.int .i64 a2, .slice A1 l1.length c1, .slice A2 l2.length c2]] w fun e w' => e = .returned (.bool r) ∧ Below w.heap.size w w' := by
 unfold seal_Verify.f at h
 by_cases h1 : a1.size ≤ 1000000
 ·rw [if_pos h1] at h
  obtain rfl := Option.some.inj h
  by_cases hok : Pl.sealOk a2 l1 l2 = true
  ·obtain ⟨h18, hn8, hs, hp, hi0, hi⟩ := (Pl.sealOk_iff a2 l1 l2).1 hok
   have hb := Pl.pow8 hn8
   have hsm : ∀ x ∈ Pl.endsP a1 l1, x.size ≤ 1000 := by
    intro x hx
    simp only [Pl.endsP, List.mem_map] at hx
    obtain ⟨k, _, rfl⟩ := hx
    have hx16 : (l1.getD k.val ByteArray.empty).size ≤ 16 := by
     have hk := k.isLt
     rw [List.getD_eq_getElem?_getD, List.getElem?_eq_getElem (by omega)]
     have := Pl.dig_size ((List.all_eq_true.1 hs) l1[k.val] (List.getElem_mem (by omega)))
     simp only [Option.getD_some]
     omega
    have := Pl.chn_size_le (15 - Pl.dg a1 k.val) _ hx16
    omega
   have hfe := few_ends (Pl.endsP a1 l1) (by simp [Pl.endsP, Pl.k18_len]) hsm
   have hleaf := ofE hfe (by omega)
   have hchk : tree_Check.f a0 (wrap64 (2 ^ l2.length)) a2 (Pl.sum (Pl.joined (Pl.endsP a1 l1))) l2 = some (Pl.verifyP a0 a1 a2 l1 l2) := by
    unfold tree_Check.f
    have hlf : Pl.few (Pl.leafL (Pl.sum (Pl.joined (Pl.endsP a1 l1)))) 1000 = true := few_leaf _ (by rw [Pl.sum_size]; omega)
    rw [if_pos (by omega), if_pos (Pl.few_caps hlf (by omega)).2.2, two_pow_wrap _ hn8]
    unfold Pl.verifyP
    rw [hok, Bool.true_and]
   refine verify_ok a0 a1 l2.length a2 (by omega) A1 A2 c1 c2 l1 l2 w hG hr1 hc1 hr2 hc2 h18 rfl hn8 hs hp hi0 hi (fun k => Pl.chn (15 - Pl.dg a1 k.val) (l1.getD k.val ByteArray.empty)) (fun k => ?_) (Pl.endsP a1 l1) rfl _ hleaf _ hchk
   have hk := Pl.dg_lt a1 k.val
   have e : wrap64 (15 - (Pl.dg a1 k.val : Int)) = ((15 - Pl.dg a1 k.val : Nat) : Int) := by rw [w64_id] <;> omega
   rw [e]
   have hx16 : (l1.getD k.val ByteArray.empty).size ≤ 16 := by
    have hk := k.isLt
    rw [List.getD_eq_getElem?_getD, List.getElem?_eq_getElem (by omega)]
    have := Pl.dig_size ((List.all_eq_true.1 hs) l1[k.val] (List.getElem_mem (by omega)))
    simp only [Option.getD_some]
    omega
   exact (s_chainN (l1.getD k.val ByteArray.empty) (15 - Pl.dg a1 k.val) (by omega) (by omega)).rounds
  ·have hv : Pl.verifyP a0 a1 a2 l1 l2 = false := by
    unfold Pl.verifyP
    rw [Bool.not_eq_true] at hok
    rw [hok]; rfl
   rw [hv]
   exact verify_no a0 a1 a2 A1 A2 c1 c2 l1 l2 w hG hr1 hc1 hr2 hc2 (fun hh => hok ((Pl.sealOk_iff a2 l1 l2).2 hh))
 ·rw [if_neg h1] at h
  cases h
end Go.Proofs.YtdlipbfcadmhjaaDoor
