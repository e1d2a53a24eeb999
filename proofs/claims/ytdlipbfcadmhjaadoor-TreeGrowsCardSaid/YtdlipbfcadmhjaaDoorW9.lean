import Derived.Test.YtdlipbfcadmhjaaDoorW8
namespace Go.Proofs.YtdlipbfcadmhjaaDoor
open Go.RowKit Go.Proofs.YtdlipbfcadmhjaaDoorW.PrintWords
set_option linter.unusedVariables false
set_option linter.unusedSimpArgs false

namespace Pl
/-- The capacity that ref01.Joined asks for. -/
def capN : List ByteArray → Nat
  | [] => 0
  | s :: l => s.size + 21 + capN l
theorem capN_append (l m : List ByteArray) : capN (l ++ m) = capN l + capN m := by
  induction l with
  | nil => simp [capN]
  | cons s l ih => simp only [List.cons_append, capN, ih]; omega
theorem capN_take (l : List ByteArray) (k : Nat) : capN (l.take k) ≤ capN l := by
  conv => rhs; rw [← List.take_append_drop k l, capN_append]
  omega
theorem capN_take_succ (l : List ByteArray) (k : Nat) (h : k < l.length) : capN (l.take (k + 1)) = capN (l.take k) + ((l.getD k ByteArray.empty).size + 21) := by
  rw [List.take_succ_eq_append_getElem h, capN_append]
  simp [capN, List.getD_eq_getElem?_getD, List.getElem?_eq_getElem h]
end Pl

/-- The bytes of a list as numbers. -/
def numL (l : List UInt8) : List Int := l.map fun b => (b.toNat : Int)
theorem numL_append (l m : List UInt8) : numL (l ++ m) = numL l ++ numL m := by simp [numL]
theorem numL_length (l : List UInt8) : (numL l).length = l.length := by simp [numL]
theorem run_make_cap {P : Program} (t e : TypeId) (i : TypeInfo) (z : Value) (ht : P.underlying t = some (.slice e)) (hi : P.info? e = some i) (hz : i.zero = some z) (h1 : i.size = 1) (h2 : i.bytes = 1)
    (c : Nat) (hb : c ≤ 281474976710656) (w : World) :
    (Instr.makeSlice t (.int .i64 0) (.int .i64 (c : Int))).run P w = .ok (.slice (some ⟨w.heap.size, 0, none⟩) 0 c) (w.alloc (.cells (madeCells z.cells c) e)) := by
  have hr := run_make (P := P) w t e i z ht hi hz .i64 .i64 (0 : Int) (c : Int) (by omega) (by omega) (by rw [h2]; omega) (by omega)
  simp only [Int.toNat_natCast, h1, Nat.mul_one] at hr
  exact hr

set_option maxRecDepth 100000 in
set_option maxHeartbeats 4000000 in
theorem joined_any (A0 : Option Addr) (c0 : Nat) (l0 : List ByteArray) (w : World) (hr0 : Kd.C Kd.string w A0 l0.length l0) (hc0 : l0.length ≤ c0)
    (hcap : Pl.capN l0 ≤ 140737488355328) (hj : (Pl.joinedL l0).length ≤ 140737488355328) :
    Calls Tryd.prog 28 #[.slice A0 l0.length c0] w fun e w' => e = .returned (.string (Pl.joined l0)) ∧ Below w.heap.size w w' := by
  have HR := Lib.hid hr0
  have HJ := Lib.hid hj
  have HC := Lib.hid hcap
  have hmax := Kd.C_max hr0
  clear hr0 hc0 hj hcap
  go_enter Tryd.func28, Tryd.ntmps28
  go_wp2
  go_loop [3, 4] (fun n i => ∃ k : Nat, k ≤ l0.length ∧ i = .int .i64 (k : Int) ∧ n = .int .i64 (Pl.capN (l0.take k) : Int)) (fun _ i => l0.length - (intOf i).toNat)
  case atStart => exact ⟨0, Nat.zero_le _, rfl, rfl⟩
  case round =>
    obtain ⟨k, hk, rfl, rfl⟩ := hrel
    have hcb : Pl.capN (l0.take k) ≤ 140737488355328 := Nat.le_trans (Pl.capN_take _ _) HC.out
    by_cases hlt : k < l0.length
    · obtain ⟨ad, rfl, hc⟩ := Kd.at_string HR.out (k : Int) (by omega) (by omega)
      rw [Int.toNat_natCast] at hc
      have hs : (rdOf ByteArray.empty l0 (k : Int)) = l0.getD k ByteArray.empty := by simp [rdOf]
      rw [hs] at hc
      have hstep := Pl.capN_take_succ l0 k hlt
      have hle := Pl.capN_take l0 (k + 1)
      obtain ⟨s, hse⟩ : ∃ s, l0.getD k ByteArray.empty = s := ⟨_, rfl⟩
      rw [hse] at hc hstep
      have hsb : Pl.capN (l0.take k) + (s.size + 21) ≤ 140737488355328 := by have := HC.out; omega
      obtain ⟨cn, hcn⟩ : ∃ cn, Pl.capN (l0.take k) = cn := ⟨_, rfl⟩
      rw [hcn] at hsb hcb hstep
      rw [hcn]
      have Hstep := Lib.hid hstep
      clear hstep hse hs hle hcn
      go_wp2
      go_round
      case rel => exact ⟨k + 1, by omega, by go_num, by rw [Hstep.out]; go_num⟩
      case measure => simp [intOf]; omega
    · obtain rfl : k = l0.length := by omega
      rw [List.take_length] at hcb ⊢
      obtain ⟨cn, hcn⟩ : ∃ cn, Pl.capN l0 = cn := ⟨_, rfl⟩
      rw [hcn] at hcb ⊢
      obtain ⟨i0, hi, hz0, hz1, hz2⟩ := info_parts (show (Tryd.prog.info? 5).map (fun i => (i.zero, i.size, i.bytes)) = some (some (.int .u8 0), 1, 1) from by kernel_rfl)
      have hmk := fun W => run_make_cap (P := Tryd.prog) 69 5 i0 (.int .u8 0) Tryd.underlying69 hi hz0 hz1 hz2 cn (by omega) W
      clear hlt hk hcn
      have hinfo5 : (Tryd.prog.info? 5).map (fun i => (i.zero, i.size, i.bytes)) = some (some (.int .u8 0), 1, 1) := by kernel_rfl
      have Hinfo5 := Lib.hid hinfo5
      have Hmk := Lib.hid hmk
      clear hinfo5 hi hz0 hz1 hz2
      have hown0 : (w.alloc (.cells (madeCells (Value.int .u8 0).cells cn) 5)).ownsRow w.heap.size 5 1 (.slice (some ⟨w.heap.size, 0, none⟩) 0 cn) (numL (Pl.joinedL (l0.take 0))).length (nums .u8 (numL (Pl.joinedL (l0.take 0)))) := by
        have := own_take (own_made_of (enc := Value.int .u8) (d := (0 : Int)) w w.heap.size 5 cn (Nat.le_refl _) (by omega)) (Nat.zero_le cn)
        simpa [numL, nums, Pl.joinedL, Value.cells] using this
      have Hown0 := Lib.hid hown0
      clear hown0
      go_wp2_with fail
      clear hmk
      go_loopw [5, 6] (fun v i wr => ∃ k : Nat, k ≤ l0.length ∧ i = .int .i64 (k : Int) ∧ Hid (wr.ownsRow w.heap.size 5 1 v (numL (Pl.joinedL (l0.take k))).length (nums .u8 (numL (Pl.joinedL (l0.take k))))) ∧ Hid (Below w.heap.size w wr)) (fun _ i _ => l0.length - (intOf i).toNat)
      case atStart => exact ⟨0, Nat.zero_le _, rfl, Hown0, Lib.hid ((Below.refl _ _).alloc (Nat.le_refl _) _)⟩
      case round =>
        obtain ⟨k, hk, rfl, HO, HB⟩ := hrel
        by_cases hlt : k < l0.length
        · obtain ⟨ad, rfl, hc⟩ := Kd.at_string HR.out (k : Int) (by omega) (by omega)
          rw [Int.toNat_natCast] at hc
          have hcw := (HB.out.cell (World.block_lt_of_cell? w _ hc)).trans hc
          have hs : (rdOf ByteArray.empty l0 (k : Int)) = l0.getD k ByteArray.empty := by simp [rdOf]
          rw [hs] at hcw
          obtain ⟨s, hse⟩ : ∃ s, l0.getD k ByteArray.empty = s := ⟨_, rfl⟩
          rw [hse] at hcw
          have hstep := Pl.joinedL_take_succ l0 k hlt
          rw [hse] at hstep
          have hlen := Pl.joinedL_take l0 (k + 1)
          rw [hstep] at hlen
          have hsz : s.size ≤ 140737488355328 := by
            have h1 := HJ.out
            simp only [List.length_append, List.length_cons, data_length] at hlen
            omega
          have Hstep := Lib.hid hstep
          have Hlen := Lib.hid hlen
          rw [hs, hse] at hc
          have Hc := Lib.hid hc
          clear hc hs hse hstep hlen
          have hl1 : (numL (Pl.joinedL (l0.take k))).length + (⟨(Lib.itoa (s.size : Int)).toArray⟩ : ByteArray).size ≤ 140737488355328 := by
            have h1 := HJ.out
            have h2 := Hlen.out
            simp only [List.length_append, List.length_cons] at h2
            rw [numL_length]
            show _ + (Lib.itoa (s.size : Int)).toArray.size ≤ _
            rw [List.size_toArray]
            omega
          have hl2 : (numL (Pl.joinedL (l0.take k)) ++ bytesOf (⟨(Lib.itoa (s.size : Int)).toArray⟩ : ByteArray)).length + 1 ≤ 140737488355328 := by
            have h1 := HJ.out
            have h2 := Hlen.out
            simp only [List.length_append, List.length_cons] at h2
            rw [List.length_append, numL_length, bytesOf_length]
            show _ + (Lib.itoa (s.size : Int)).toArray.size + 1 ≤ _
            rw [List.size_toArray]
            omega
          have hl3 : (numL (Pl.joinedL (l0.take k)) ++ bytesOf (⟨(Lib.itoa (s.size : Int)).toArray⟩ : ByteArray) ++ [58]).length + s.size ≤ 140737488355328 := by
            have h1 := HJ.out
            have h2 := Hlen.out
            simp only [List.length_append, List.length_cons, data_length] at h2
            rw [List.length_append, List.length_append, numL_length, bytesOf_length]
            show _ + (Lib.itoa (s.size : Int)).toArray.size + 1 + _ ≤ _
            rw [List.size_toArray]
            omega
          obtain ⟨dz, hdz⟩ : ∃ dz : ByteArray, (⟨(Lib.itoa (s.size : Int)).toArray⟩ : ByteArray) = dz := ⟨_, rfl⟩
          have hdec := fun W => customhouseref01_Decimal.calls (s.size : Int) _ W (show customhouseref01_Decimal.f (s.size : Int) = some ⟨(Lib.itoa (s.size : Int)).toArray⟩ from by unfold customhouseref01_Decimal.f; rw [if_pos (by omega), if_pos (by omega)])
          rw [hdz] at hl1 hl2 hl3 hdec
          obtain ⟨xs, hxs⟩ : ∃ xs : List Int, numL (Pl.joinedL (l0.take k)) = xs := ⟨_, rfl⟩
          rw [hxs] at HO hl1 hl2 hl3
          have Hl1 := Lib.hid hl1
          have Hl2 := Lib.hid hl2
          have Hl3 := Lib.hid hl3
          have Hdec := Lib.hid hdec
          have Hdz := Lib.hid hdz
          have Hxs := Lib.hid hxs
          clear hl1 hl2 hl3 hdec hdz hxs
          go_wp2_with fail
          refine (Hdec.out _).mono ?_
          rintro e w' ⟨rfl, ⟨nd, rfl⟩⟩
          go_wp2_with (first
            | (at_builtin; refine print_append_str (w0 := w) w.heap.size (by rfl) (.tmp 29) (.tmp 35) 69 9 5 (by rfl) Tryd.underlying69 Tryd.underlying9 Hinfo5.out u5 xs dz (by rfl) (by rfl) (pw_own_drewN HO.out nd) (pw_below_drewN HB.out nd) (by exact HB.out.size) Hl1.out ?_; intro v1 w1 ho1 hb1 hg1; have HO1 := Lib.hid ho1; have HB1 := Lib.hid hb1; clear ho1 hb1 hg1)
            | (at_builtin; refine print_append_num (w0 := w) w.heap.size (by rfl) (.tmp 37) (.tmp 38) 69 5 .u8 1 (by rfl) Tryd.underlying69 Hinfo5.out (by decide) v1 (xs ++ bytesOf dz) 58 (by rfl) (by rfl) HO1.out HB1.out (by exact HB1.out.size) (by have := Hl2.out; omega) ?_; intro v2 w2 ho2 hb2 hg2 _; have HO2 := Lib.hid ho2; have HB2 := Lib.hid hb2; have hcw2 := (HB2.out.cell (World.block_lt_of_cell? w _ Hc.out)).trans Hc.out; clear ho2 hb2 hg2)
            | (at_builtin; refine print_append_str (w0 := w) w.heap.size (by rfl) (.tmp 40) (.tmp 44) 69 9 5 (by rfl) Tryd.underlying69 Tryd.underlying9 Hinfo5.out v2 (xs ++ bytesOf dz ++ [58]) s (by rfl) (by rfl) HO2.out HB2.out (by exact HB2.out.size) Hl3.out ?_; intro v3 w3 ho3 hb3 hg3; have HO3 := Lib.hid ho3; have HB3 := Lib.hid hb3; clear ho3 hb3 hg3))
          go_roundw
          case rel =>
            refine ⟨k + 1, by omega, by go_num, ?_, HB3⟩
            have e : numL (Pl.joinedL (l0.take (k + 1))) = xs ++ bytesOf dz ++ [58] ++ bytesOf s := by
              rw [Hstep.out, numL_append, Hxs.out, ← Hdz.out]
              simp [numL, bytesOf]
            rw [e]
            exact HO3
          case measure => simp [intOf]; omega
        · obtain rfl : k = l0.length := by omega
          rw [List.take_length] at HO
          have hcv := own_string (P := Tryd.prog) (src := 69) (dst := 9) (e := 5) Tryd.underlying69 Tryd.underlying5 Tryd.underlying9 HO.out
          go_wp2
          go_ret
          refine ⟨ret_str (a := strOfNums (numL (Pl.joinedL l0))) ?_, HB.out⟩
          unfold strOfNums numL Pl.joined
          congr 2
          rw [List.map_map]
          refine (List.map_congr_left (fun b _ => ?_)).trans (List.map_id _)
          simp

def customhouseref01_Joined.f (l : List ByteArray) : Option ByteArray := if Pl.capN l ≤ 140737488355328 then if (Pl.joinedL l).length ≤ 140737488355328 then some (Pl.joined l) else none else none
theorem customhouseref01_Joined.calls (A0 : Option Addr) (c0 : Nat) (l0 : List ByteArray) (r : ByteArray) (w : World) (hr0 : Kd.C Kd.string w A0 l0.length l0) (hc0 : l0.length ≤ c0) (h : customhouseref01_Joined.f l0 = some r) :
    Calls Tryd.prog 28 #[.slice A0 l0.length c0] w fun e w' => e = .returned (.string r) ∧ Below w.heap.size w w' := by
  unfold customhouseref01_Joined.f at h
  by_cases h1 : Pl.capN l0 ≤ 140737488355328
  · by_cases h2 : (Pl.joinedL l0).length ≤ 140737488355328
    · rw [if_pos h1, if_pos h2] at h
      obtain rfl := Option.some.inj h
      exact joined_any A0 c0 l0 w hr0 hc0 h1 h2
    · rw [if_pos h1, if_neg h2] at h
      cases h
  · rw [if_neg h1] at h
    cases h
end Go.Proofs.YtdlipbfcadmhjaaDoor
