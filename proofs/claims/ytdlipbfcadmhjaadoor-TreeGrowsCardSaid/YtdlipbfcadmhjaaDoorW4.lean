import Derived.Test.YtdlipbfcadmhjaaDoorW3
import Derived.Test.YtdlipbfcadmhjaaDoorGL
namespace Go.Proofs.YtdlipbfcadmhjaaDoor
open Go.RowKit Go.Proofs.YtdlipbfcadmhjaaDoorW.PrintWords
set_option linter.unusedVariables false
set_option linter.unusedSimpArgs false

theorem ispow_any (w : World) : Calls Tryd.prog 128 #[.int .i64 16] w fun e w' => e = .returned (.bool true) ∧ w = w' := by
  go_enter Tryd.func128, Tryd.ntmps128
  go_wp2
  go_ret
  exact ⟨by congr 1, rfl⟩

theorem tz_key : IntKind.u64.wrap (bits BinOp.and IntKind.u64 16 (IntKind.u64.wrap (-16)) * 285870213051353865) / 288230376151711744 = 15 := by kernel_rfl
set_option maxHeartbeats 1000000 in
theorem tz64_any (w : World) (h : GL w) : Calls Tryd.prog 136 #[.int .u64 16] w fun e w' => e = .returned (.int .i64 4) ∧ w = w' := by
  have hc := h.db
  have key := tz_key
  go_enter Tryd.func136, Tryd.ntmps136
  go_wp2_with (simp only [key])
  go_ret
  exact ⟨rfl, rfl⟩
set_option maxHeartbeats 1000000 in
theorem tz_any (w : World) (h : GL w) : Calls Tryd.prog 129 #[.int .u64 16] w fun e w' => e = .returned (.int .i64 4) ∧ w = w' := by
  have H := Lib.hid h
  clear h
  go_enter Tryd.func129, Tryd.ntmps129
  go_wp2_with (go_at_call 136; refine (tz64_any _ H.out).mono ?_; rintro e w' ⟨rfl, rfl⟩)
  go_ret
  exact ⟨rfl, rfl⟩

theorem and15 (q : Nat) (h : q < 18446744073709551616) : bits BinOp.and IntKind.u64 (q : Int) 15 = ((q % 16 : Nat) : Int) := by
  rw [show (15 : Int) = ((15 : Nat) : Int) from rfl, u64_and_nat q 15 h (by decide), show (15 : Nat) = 2 ^ 4 - 1 from rfl, Nat.and_two_pow_sub_one_eq_mod]
/-- The row of 65 cells ends in the last j digits of n. -/
def Tail (n j : Nat) (o : Option Obj) : Prop := ∃ cur : Array Value, o = some (.cells cur 140 (0, 0)) ∧ cur.size = 65 ∧ cur.toList.drop (65 - j) = Lib.byteCells (Pl.hexs j n)
theorem tail_zero (n : Nat) {o : Option Obj} (cs : Array Value) (h : o = some (.cells cs 140 (0, 0))) (hs : cs.size = 65) : Tail n 0 o :=
  ⟨cs, h, hs, by rw [List.drop_of_length_le (by simp [hs])]; rfl⟩

theorem hexs_cons (j n : Nat) : Pl.hexs (j + 1) n = Pl.hexd (n / 16 ^ j % 16) :: Pl.hexs j n := by
  induction j generalizing n with
  | zero => simp [Pl.hexs]
  | succ j ih =>
    rw [Pl.hexs, ih, Nat.div_div_eq_div_mul, Nat.mul_comm 16, ← Nat.pow_succ]
    rfl
theorem digit_at (r : Nat) (h : r < 36) (h2 : r < 16) (hh) : ((⟨#[48, 49, 50, 51, 52, 53, 54, 55, 56, 57, 97, 98, 99, 100, 101, 102, 103, 104, 105, 106, 107, 108, 109, 110, 111, 112, 113, 114, 115, 116, 117, 118, 119, 120, 121, 122]⟩ : ByteArray)[r]'hh) = Pl.hexd r := by
  have key : ∀ x : Fin 16, ((⟨#[48, 49, 50, 51, 52, 53, 54, 55, 56, 57, 97, 98, 99, 100, 101, 102, 103, 104, 105, 106, 107, 108, 109, 110, 111, 112, 113, 114, 115, 116, 117, 118, 119, 120, 121, 122]⟩ : ByteArray).data.toList.getD x.1 0) = Pl.hexd x.1 := by decide
  have := key ⟨r, h2⟩
  rw [← this]
  show (#[48, 49, 50, 51, 52, 53, 54, 55, 56, 57, 97, 98, 99, 100, 101, 102, 103, 104, 105, 106, 107, 108, 109, 110, 111, 112, 113, 114, 115, 116, 117, 118, 119, 120, 121, 122] : Array UInt8)[r]'_ = _
  rw [← Array.getElem_toList, List.getD_eq_getElem?_getD, List.getElem?_eq_getElem (by simpa using h)]
  rfl
theorem tail_step {n j q : Nat} {w : World} {g : Nat} {cur : Array Value} (hj : j ≤ 64) (hcur : w.heap[g]? = some (.cells cur 140 (0, 0))) (hs : cur.size = 65)
    (ht : cur.toList.drop (65 - j) = Lib.byteCells (Pl.hexs j n)) (hq : n / 16 ^ j = q) {v : Value} (hv : v = .int .u8 ((Pl.hexd (q % 16)).toNat : Int)) :
    Tail n (j + 1) ((w.setCell ⟨g, 65 - j - 1, none⟩ v).heap[g]?) := by
  refine ⟨cur.setIfInBounds (65 - j - 1) v, blk_set hcur _ _, by simp [hs], ?_⟩
  rw [hexs_cons, hq, hv, Array.toList_setIfInBounds, show 65 - (j + 1) = 65 - j - 1 from by omega]
  rw [List.drop_set, if_neg (by omega), Nat.sub_self]
  have hd : List.drop (65 - j - 1) cur.toList = cur.toList[65 - j - 1]'(by simp [hs]; omega) :: List.drop (65 - j) cur.toList := by
    rw [List.drop_eq_getElem_cons (by simp [hs]; omega), show 65 - j - 1 + 1 = 65 - j from by omega]
  rw [hd, List.set_cons_zero, ht]
  simp [Lib.byteCells]

theorem slice65 (g p : Nat) (hp : p < 65) (w : World) :
    (Instr.sliceAt 140 (.pointer (some ⟨g, 0, none⟩)) (some (.int .i64 (p : Int))) none none).run Tryd.prog w = .ok (.slice (some ⟨g, p, none⟩) (65 - p) (65 - p)) w := by
  have hal : Tryd.prog.arrayLen 140 = 65 := by kernel_rfl
  have hel : Tryd.prog.elem 140 = 5 := by kernel_rfl
  rw [run_sliceAt_array_l (P := Tryd.prog) w 140 ⟨g, 0, none⟩ (by rw [hal, hel]; exact Tryd.underlying140) .i64 p (by omega) (by rw [hal]; omega), hal, hel, Tryd.sizeOf5]
  simp only [Result.andThen, slicedAt, Int.toNat_natCast, Nat.mul_one]
  rw [if_neg (by omega), add_at, Nat.zero_add]
theorem conv65 {n j : Nat} {g : Nat} {w : World} (hj : j ≤ 64) (ht : Tail n (j + 1) (w.heap[g]?)) :
    (convert 69 9 (.slice (some ⟨g, 65 - j - 1, none⟩) (j + 1) (j + 1))).run Tryd.prog w = .ok (.string ⟨(Pl.hexs (j + 1) n).toArray⟩) w := by
  obtain ⟨cur, hc, hs, htl⟩ := ht
  rw [run_convert_bytes_arg (P := Tryd.prog) w 69 5 Tryd.underlying69 Tryd.underlying5 g (65 - j - 1) (j + 1) (j + 1) ((Pl.hexs (j + 1) n).map fun b => (b.toNat : Int)) (by rw [List.length_map, Pl.hexs_length])
    (fun i hi => by
      rw [blk_cell hc]
      have h1 : cur.toList[65 - j - 1 + i]? = (Lib.byteCells (Pl.hexs (j + 1) n))[i]? := by rw [← htl, List.getElem?_drop]; congr 1
      rw [← Array.getElem?_toList, h1]
      have hl : i < (Pl.hexs (j + 1) n).length := by rw [Pl.hexs_length]; exact hi
      simp [Lib.byteCells, List.getD_eq_getElem?_getD, List.getElem?_eq_getElem hl]) 9 Tryd.underlying9]
  congr 2
  unfold strOfNums
  congr 1
  rw [List.map_map]
  congr 1
  refine (List.map_congr_left (fun b _ => ?_)).trans (List.map_id _)
  simp

set_option maxRecDepth 100000 in
set_option maxHeartbeats 1000000 in
theorem formatBits_any (n : Nat) (hn : n < 18446744073709551616) (w : World) (h : GL w) :
    Calls Tryd.prog 112 #[.slice none 0 0, .int .u64 (n : Int), .int .i64 16, .bool false, .bool false] w fun e w' =>
      ∃ m, m ≤ 15 ∧ n < 16 ^ (m + 1) ∧ e = .returned (.tuple #[.slice none 0 0, .string ⟨(Pl.hexs (m + 1) n).toArray⟩]) ∧ Below w.heap.size w w' := by
  have H := Lib.hid (h.below ((Below.refl _ _).alloc (Nat.le_refl _) (.cells (Array.replicate 65 (.int .u8 0)) 140)))
  clear h
  go_enter Tryd.func112, Tryd.ntmps112
  go_wp2_with (first | (go_at_call 128; refine (ispow_any _).mono ?_; rintro e w' ⟨rfl, rfl⟩) | (go_at_call 129; refine (tz_any _ (by exact H.out)).mono ?_; rintro e w' ⟨rfl, rfl⟩))
  go_loopw [1, 13] (fun u i wr => ∃ j q : Nat, j ≤ 15 ∧ Hid (n / 16 ^ j = q) ∧ u = .int .u64 (q : Int) ∧ i = .int .i64 ((65 - j : Nat) : Int) ∧ Hid (Tail n j (wr.heap[w.heap.size]?)) ∧ Hid (Below w.heap.size w wr)) (fun u _ _ => (intOf u).toNat)
  case atStart => exact ⟨0, n, by omega, Lib.hid (by simp), rfl, rfl, Lib.hid (tail_zero n Tryd.zeroCells140 (blk_new w _) (by kernel_rfl)), Lib.hid ((Below.refl _ _).alloc (Nat.le_refl _) _)⟩
  case round =>
    obtain ⟨j, q, hj, Hq, rfl, rfl, Ht, Hb⟩ := hrel
    by_cases hlt : 16 ≤ q
    · have hq64 : q < 18446744073709551616 := by rw [← Hq.out]; exact Nat.lt_of_le_of_lt (Nat.div_le_self _ _) hn
      have hand : bits BinOp.and IntKind.u64 (q : Int) 15 = ((q % 16 : Nat) : Int) := and15 q hq64
      have hj2 : j ≤ 14 := by
        by_cases h15 : j = 15
        · subst h15
          have h1 := Hq.out
          have : n / 16 ^ 15 < 16 := by rw [Nat.div_lt_iff_lt_mul (by decide)]; exact hn
          omega
        · omega
      have hm : q % 16 < 16 := Nat.mod_lt _ (by omega)
      clear hq64
      obtain ⟨r, hr⟩ : ∃ r, q % 16 = r := ⟨_, rfl⟩
      rw [hr] at hand hm
      have Hr := Lib.hid hr
      clear hr
      obtain ⟨cur, hcur, hsz, htl⟩ := Ht.out
      obtain ⟨v0, hcell⟩ : ∃ v0, wr.cell? ⟨w.heap.size, 65 - j - 1, none⟩ = some v0 :=
        ⟨cur[65 - j - 1]'(by omega), (blk_cell hcur _).trans (Array.getElem?_eq_getElem _)⟩
      have hfz : wr.frozen? ⟨w.heap.size, 65 - j - 1, none⟩ = false := blk_frozen hcur _
      have Hcur := Lib.hid hcur
      have Hsz := Lib.hid hsz
      have Htl := Lib.hid htl
      clear hcur hsz htl
      go_wp2
      go_roundw
      case rel =>
        refine ⟨j + 1, q / 16, by omega, Lib.hid (by rw [← Hq.out, Nat.div_div_eq_div_mul, Nat.pow_succ]), by go_num, by go_num, ?_, Lib.hid (Hb.out.setCell (Nat.le_refl _) _)⟩
        exact Lib.hid (tail_step (by omega) Hcur.out Hsz.out Htl.out Hq.out (by congr 3; rw [digit_at r (by omega) hm, Hr.out]))
      case measure => simp [intOf]; omega
    · obtain ⟨cur, hcur, hsz, htl⟩ := Ht.out
      obtain ⟨v0, hcell⟩ : ∃ v0, wr.cell? ⟨w.heap.size, 65 - j - 1, none⟩ = some v0 :=
        ⟨cur[65 - j - 1]'(by omega), (blk_cell hcur _).trans (Array.getElem?_eq_getElem _)⟩
      have hfz : wr.frozen? ⟨w.heap.size, 65 - j - 1, none⟩ = false := blk_frozen hcur _
      have Hcur := Lib.hid hcur
      have Hsz := Lib.hid hsz
      have Htl := Lib.hid htl
      clear hcur hsz htl
      have hq16 : q < 16 := by omega
      have hsl : ∀ W : World, (Instr.sliceAt 140 (.pointer (some ⟨w.heap.size, 0, none⟩)) (some (.int .i64 (((65 - j : Nat) : Int) - 1))) none none).run Tryd.prog W = .ok (.slice (some ⟨w.heap.size, 65 - j - 1, none⟩) (j + 1) (j + 1)) W := fun W => by
        have := slice65 w.heap.size (65 - j - 1) (by omega) W
        rw [show ((65 - j - 1 : Nat) : Int) = ((65 - j : Nat) : Int) - 1 from by omega, show 65 - (65 - j - 1) = j + 1 from by omega] at this
        exact this
      go_wp2
      rw [conv65 (n := n) (by omega) (tail_step (by omega) Hcur.out Hsz.out Htl.out Hq.out (by congr 3; rw [digit_at q (by omega) hq16, Nat.mod_eq_of_lt hq16]))]
      go_wp2
      go_ret2
      refine ⟨j, hj, ?_, rfl, Hb.out.setCell (Nat.le_refl _) _⟩
      have h1 := Hq.out
      rw [Nat.pow_succ]
      have := Nat.div_add_mod n (16 ^ j)
      have hlt2 : n < 16 ^ j * (q + 1) := by rw [← h1]; exact Nat.lt_mul_div_succ n (Nat.pos_of_ne_zero (by simp))
      exact Nat.lt_of_lt_of_le hlt2 (Nat.mul_le_mul_left _ (by omega))
end Go.Proofs.YtdlipbfcadmhjaaDoor
