/- seal.digits: what its iterator yields. -/
import Derived.Test.YtdlipbfcadmhjaaDoorSR
import Derived.Test.YtdlipbfcadmhjaaDoorS0
import Derived.Test.YtdlipbfcadmhjaaDoorWB
import Derived.Shelf.Abstract
namespace Go.Proofs.YtdlipbfcadmhjaaDoor
set_option linter.unusedVariables false
set_option linter.unusedSimpArgs false
open Go Go.RowKit Go.Shelf Go.Proofs.YtdlipbfcadmhjaaDoorW.PrintWords
theorem grown_of_below {W W1 : World} (h : Below W.heap.size W W1) : W.grownBy W1 none := ⟨h.os, h.tape, h.output, h.size, fun k hk _ => h.block k hk⟩
theorem seal_digits_any (m : ByteArray) (w : World) : Calls Tryd.prog 76 #[.string m] w fun e w' => e = .returned (.func (.func 106) #[] #[.pointer (some ⟨w.heap.size, 0, none⟩)]) ∧ w' = w.alloc (.cells #[.string m] 9) := by
 go_enter Tryd.func76, Tryd.ntmps76
 go_wp2; go_ret
 exact ⟨rfl, rfl⟩
theorem hex_at (m : ByteArray) (i : Nat) (hi : i < 16) (h : i < (Pl.sum m).size) : Lib.indexByte (⟨#[48, 49, 50, 51, 52, 53, 54, 55, 56, 57, 97, 98, 99, 100, 101, 102]⟩ : ByteArray).data.toList ((((Pl.sum m)[i].toNat : Nat) : Int).toNat.toUInt8) = ((Pl.dg m i : Nat) : Int) := by
 have e1 : (Pl.sum m)[i] = Pl.hexd (Pl.dig m i) := by
  rw [← Pl.sum_get m i hi, List.getD_eq_getElem?_getD, List.getElem?_eq_getElem (by rw [Pl.dataLen]; exact h)]
  rfl
 rw [e1, Int.toNat_natCast, show (Pl.hexd (Pl.dig m i)).toNat.toUInt8 = Pl.hexd (Pl.dig m i) from UInt8.ofNat_toNat]
 have e2 := Pl.idx_hexd (Pl.dig m i) (Pl.dig_lt m i)
 rw [Pl.dg_dig m hi]
 exact e2
set_option maxRecDepth 100000 in
set_option maxHeartbeats 2000000 in
theorem digits_in (m : ByteArray) (hm : m.size ≤ 4611686018427387904) (n l Bn : Nat) (Kp : World → World → Prop) (J Jx : List (Fin 18) → World → Prop) (W : World) (hG : GL W) (hBn : W.cell? ⟨Bn, 0, none⟩ = some (.string m)) (hJa : AbidesFrom W.heap.size J)
    (hY : ∀ (pre : List (Fin 18)) (x : Fin 18) W1, J pre W1 → pre.length < 18 → YieldAt Fence.wide (n - 1) Tryd.prog l #[.int .i64 (x.val : Int), .int .i64 (Pl.dg m x.val : Int)] W1 fun e W' => (e = .returned (.bool true) ∧ J (pre ++ [x]) W' ∧ Kp W1 W') ∨ (e = .returned (.bool false) ∧ Jx (pre ++ [x]) W'))
    (h0 : J [] W) : CallsIn Fence.wide n Tryd.prog 106 #[.func (.yield l) #[] #[], .pointer (some ⟨Bn, 0, none⟩)] W fun e W' => (∃ v, e = .returned v) ∧ ((∃ xs, xs = Pl.K18 ∧ J xs W') ∨ (∃ pre, pre <+: Pl.K18 ∧ Jx pre W')) := by
 refine callsIn_of_wp Tryd.func106 rfl trivial ?_ rfl
 simp only [Tryd.ntmps106, List.size_toArray, List.length_cons, List.length_nil, Nat.reduceAdd, Nat.reduceSub, Array.replicate_succ, Array.replicate_zero, List.push_toArray, List.append_toArray, List.nil_append, List.cons_append]
 have H0 := Lib.hid h0
 clear h0
 gi_wp2_with (refine ⟨trivial, fun hh => absurd hh (by simp [Fence.wide]), ?_⟩; gi_at_call 20; refine (callsIn_wide.2 (sum_any m hm W hG)).mono ?_; rintro e W1 ⟨he, hb1⟩; have hsz := Pl.sum_size m; generalize hS : Pl.sum m = s at he hsz; subst he; have HS := Lib.hid hS; clear hS; have HB1 := Lib.hid hb1; clear hb1)
 have hsz' : (s.size : Int) = 16 := by rw [hsz]; rfl
 (try rw [hsz'])
 (try rw [show ((16 : Nat) : Int) = 16 from rfl])
 have hJ1 : J [] W1 := hJa [] W W1 none H0.out (grown_of_below HB1.out) (fun r e => by cases e)
 have HJ1 := Lib.hid hJ1
 clear hJ1 H0 HB1
 gi_loopw [3, 11] (fun p3 p11 wr => ∃ i : Nat, p11 = .int .i64 (i : Int) ∧ p3 = .int .i64 (Pl.rest m i : Int) ∧ i ≤ 16 ∧ J (Pl.K18.take i) wr) (fun p3 p11 wr => 16 - (intOf p11).toNat)
 case atStart => exact ⟨0, rfl, rfl, by omega, HJ1.out⟩
 case round =>
  obtain ⟨i, rfl, rfl, hi, hJ⟩ := hrel
  by_cases hlt : i < 16
  ·have hc : decide ((i : Int) < 16) = true := decide_eq_true (by omega)
   obtain ⟨fn, tmps, assign, body, hy, hR⟩ := hY (Pl.K18.take i) ⟨i, by omega⟩ wr hJ (by rw [List.length_take]; omega)
   dsimp only at hy
   have hd : Pl.dg m i = Pl.dig m i := Pl.dg_dig m hlt
   have hlt16 := Pl.dg_lt m i
   have hrl := Pl.rest_le m i
   have w1 : Hid (wrap64 (15 - ((Pl.dg m i : Nat) : Int)) = ((15 - Pl.dg m i : Nat) : Int)) := Lib.hid (by unfold wrap64; omega)
   have w2 : Hid (wrap64 (((Pl.rest m i : Nat) : Int) + ((15 - Pl.dg m i : Nat) : Int)) = ((Pl.rest m (i + 1) : Nat) : Int)) := Lib.hid (by
    rw [Pl.rest_succ, ← hd]; unfold wrap64; omega)
   have w3 : Hid (wrap64 ((i : Int) + 1) = ((i + 1 : Nat) : Int)) := Lib.hid (by unfold wrap64; omega)
   have hx : Hid (∀ h : i < s.size, Lib.indexByte (⟨#[48, 49, 50, 51, 52, 53, 54, 55, 56, 57, 97, 98, 99, 100, 101, 102]⟩ : ByteArray).data.toList (((s[i].toNat : Nat) : Int).toNat.toUInt8) = ((Pl.dg m i : Nat) : Int)) := Lib.hid (by rw [← HS.out]; exact hex_at m i hlt)
   clear hd hlt16 hrl
   have HY := Lib.hid hy
   clear hy
   gi_wp2_with fail
   refine ⟨trivial, fun hh => absurd hh (by simp [Fence.wide]), ?_⟩
   refine (callsIn_wide.2 (Tryd.strings_IndexByte _ _ wr)).mono ?_
   rintro e w' ⟨he, rfl⟩
   rw [hx.out] at he
   subst he
   gi_wp2_with fail
   rw [w1.out, w2.out, HY.out, Oper.uponIn_round]
   refine ⟨fun hh => absurd hh (by simp [Fence.wide]), ?_⟩
   refine hR.mono ?_
   rintro e W3 (⟨rfl, hJ3, _⟩ | ⟨rfl, hJx3⟩)
   ·have HJ3 := Lib.hid hJ3
    clear hJ3
    gi_wp2_with fail
    exact ⟨⟨i + 1, rfl, rfl, by omega, by rw [Pl.k18_take i (by omega)]; exact HJ3.out⟩, by simp only [intOf]; omega⟩
   ·have HJX := Lib.hid hJx3
    clear hJx3
    gi_wp2_with fail
    refine bodyPost_ret (results_none rfl _ _ _) rfl ?_
    exact ⟨⟨_, rfl⟩, .inr ⟨_, by rw [← Pl.k18_take i (by omega)]; exact List.take_prefix _ _, HJX.out⟩⟩
  ·obtain rfl : i = 16 := by omega
   have hc : decide (((16 : Nat) : Int) < 16) = false := rfl
   obtain ⟨fn, tmps, assign, body, hy, hR⟩ := hY (Pl.K18.take 16) ⟨16, by omega⟩ wr hJ (by rw [List.length_take]; omega)
   dsimp only at hy
   (try rw [show ((16 : Nat) : Int) = (16 : Int) from rfl] at hy)
   have HY1 := Lib.hid hy
   clear hy
   have HQ : Hid (((Pl.rest m 16 : Nat) : Int) / 16 = ((Pl.dg m 16 : Nat) : Int)) := Lib.hid (by rw [Pl.dg_16]; omega)
   have HR : Hid (((Pl.rest m 16 : Nat) : Int) % 16 = ((Pl.dg m 17 : Nat) : Int)) := Lib.hid (by rw [Pl.dg_17]; omega)
   gi_wp2_with fail
   have hl16 := Pl.dg_lt m 16
   have hl17 := Pl.dg_lt m 17
   have HW1 : Hid (wrap64 ((Pl.dg m 16 : Nat) : Int) = ((Pl.dg m 16 : Nat) : Int)) := Lib.hid (by unfold wrap64; omega)
   have HW2 : Hid (wrap64 ((Pl.dg m 17 : Nat) : Int) = ((Pl.dg m 17 : Nat) : Int)) := Lib.hid (by unfold wrap64; omega)
   clear hl16 hl17
   rw [HQ.out]
   (try rw [HW1.out])
   rw [HY1.out, Oper.uponIn_round]
   refine ⟨fun hh => absurd hh (by simp [Fence.wide]), ?_⟩
   refine hR.mono ?_
   rintro e W3 (⟨rfl, hJ3, _⟩ | ⟨rfl, hJx3⟩)
   ·obtain ⟨fn2, tmps2, assign2, body2, hy2, hR2⟩ := hY (Pl.K18.take 17) ⟨17, by omega⟩ W3 (by rw [Pl.k18_take 16 (by omega)]; exact hJ3) (by rw [List.length_take]; omega)
    dsimp only at hy2
    (try rw [show ((17 : Nat) : Int) = (17 : Int) from rfl] at hy2)
    have HY2 := Lib.hid hy2
    clear hy2 hJ3
    gi_wp2_with fail
    rw [HR.out]
    (try rw [HW2.out])
    rw [HY2.out, Oper.uponIn_round]
    refine ⟨fun hh => absurd hh (by simp [Fence.wide]), ?_⟩
    refine hR2.mono ?_
    rintro e W4 (⟨rfl, hJ4, _⟩ | ⟨rfl, hJx4⟩)
    ·have HJ4 := Lib.hid hJ4
     clear hJ4
     gi_wp2_with fail
     go_end0
     exact ⟨⟨_, rfl⟩, .inl ⟨_, rfl, by rw [← Pl.k18_all, Pl.k18_take 17 (by omega)]; exact HJ4.out⟩⟩
    ·have HJ4 := Lib.hid hJx4
     clear hJx4
     gi_wp2_with fail
     go_end0
     have hp := List.take_prefix 18 Pl.K18
     rw [Pl.k18_take 17 (by omega)] at hp
     exact ⟨⟨_, rfl⟩, .inr ⟨_, hp, HJ4.out⟩⟩
   ·have HJX := Lib.hid hJx3
    clear hJx3
    gi_wp2_with fail
    go_end0
    have hp := List.take_prefix 17 Pl.K18
    rw [Pl.k18_take 16 (by omega)] at hp
    exact ⟨⟨_, rfl⟩, .inr ⟨_, hp, HJX.out⟩⟩
theorem digits_stops (m : ByteArray) (hm : m.size ≤ 4611686018427387904) (n Bn : Nat) (Kp : World → World → Prop) (w : World) (hG : GL w) (hBn : w.cell? ⟨Bn, 0, none⟩ = some (.string m)) (hB : Bn < w.heap.size) :
    SeqStopsK Fence.wide n Tryd.prog 106 #[.pointer (some ⟨Bn, 0, none⟩)] (fun x : Fin 18 => #[.int .i64 (x.val : Int), .int .i64 (Pl.dg m x.val : Int)]) Kp (fun xs => xs = Pl.K18) (fun pre => pre <+: Pl.K18) 18 w :=
  fun l J Jx W hW hJa _ hY h0 => digits_in m hm n l Bn Kp J Jx W (hG.below hW) ((hW.cell (p := ⟨Bn, 0, none⟩) hB).trans hBn) hJa hY h0
end Go.Proofs.YtdlipbfcadmhjaaDoor
