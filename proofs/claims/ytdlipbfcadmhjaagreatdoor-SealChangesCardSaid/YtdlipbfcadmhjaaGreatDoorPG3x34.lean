/- Written by a program of this session's over the kit's print: the functions that a law comes to as plain Lean functions, and that Go's code computes them. Nothing is assumed. -/
import Derived.Test.YtdlipbfcadmhjaaGreatDoorPG3x0
import Derived.Test.YtdlipbfcadmhjaaGreatDoorPG3x9
import Derived.Test.YtdlipbfcadmhjaaGreatDoorPG3x24
import Derived.Test.YtdlipbfcadmhjaaGreatDoorPG3x33
namespace Go.Proofs.YtdlipbfcadmhjaaGreatDoor.PG3
open Go.RowKit Go.Proofs.YtdlipbfcadmhjaaGreatDoorW.PrintWords Go.Proofs.YtdlipbfcadmhjaaGreatDoorW.PrintLast Go.Proofs.YtdlipbfcadmhjaaGreatDoorW.PrintMore
attribute [local go_sem] max2_int min2_int max_two min_two max_three min_three max_four min_four
set_option linter.unusedVariables false
set_option linter.unusedSimpArgs false
mutual
def customhouseref03_Made.l0 : Nat → ByteArray → Int → Int → List ByteArray → List ByteArray → Int → Option (List ByteArray)
  | 0, _, _, _, _, _, _ => none
  | k + 1, x0, x1, x2, x7, x8, x9 => (customhouseref03_Power.f k x1).bind fun t573 => (if x9 < t573 then (customhouseref03_Made.l1 k x0 x1 x2 x7 x8 x9 ([] : List ByteArray) 0) else (customhouseref03_Made.l2 k x7 x8))
def customhouseref03_Made.l1 : Nat → ByteArray → Int → Int → List ByteArray → List ByteArray → Int → List ByteArray → Int → Option (List ByteArray)
  | 0, _, _, _, _, _, _, _, _ => none
  | k + 1, x0, x1, x2, x7, x8, x9, x10, x11 => if x11 < 18 then ((customhouseref01_Decimal.f x9).bind fun t574 => ((customhouseref01_Decimal.f x11).bind fun t575 => ((customhouseref01_Joined.f (([x0, t574, t575] : List ByteArray))).bind fun t579 => (if x7.length < 8796093022208 then ((some (x7 ++ [t579] : List ByteArray)).bind fun y580 => ((customhouseref01_Sum.f k t579).bind fun t583 => ((customhouseref03_chained.f k t583 x2).bind fun t584 => (if y580.length + t584.length < 8796093022208 then (if 15 < (t584.length : Int) then (if x10.length < 8796093022208 then (customhouseref03_Made.l1 k x0 x1 x2 (y580 ++ t584) x8 x9 (x10 ++ [rdOf ByteArray.empty t584 15]) (wrap64 (x11 + 1))) else (none)) else (none)) else (none))))) else (none))))) else ((customhouseref01_Joined.f x10).bind fun t594 => ((customhouseref01_Sum.f k t594).bind fun t595 => ((customhouseref01_Joined.f (([(⟨#[108, 101, 97, 102]⟩ : ByteArray), t595] : List ByteArray))).bind fun t599 => ((some (([t594, t599] : List ByteArray) : List ByteArray)).bind fun y600 => (if x7.length + y600.length < 8796093022208 then ((customhouseref01_Sum.f k t599).bind fun t606 => (if x8.length < 8796093022208 then (customhouseref03_Made.l0 k x0 x1 x2 (x7 ++ y600) (x8 ++ [t606]) (wrap64 (x9 + 1))) else (none))) else (none))))))
def customhouseref03_Made.l2 : Nat → List ByteArray → List ByteArray → Option (List ByteArray)
  | 0, _, _ => none
  | k + 1, x7, x8 => if (x8.length : Int) > 1 then (customhouseref03_Made.l3 k x7 x8 ([] : List ByteArray) 0) else (some x7)
def customhouseref03_Made.l3 : Nat → List ByteArray → List ByteArray → List ByteArray → Int → Option (List ByteArray)
  | 0, _, _, _, _ => none
  | k + 1, x7, x8, x16, x17 => if (wrap64 (x17 + 1)) < (x8.length : Int) then (if 0 ≤ x17 then (if x17 < (x8.length : Int) then (if 0 ≤ (wrap64 (x17 + 1)) then ((customhouseref03_node.f (rdOf ByteArray.empty x8 x17) (rdOf ByteArray.empty x8 (wrap64 (x17 + 1)))).bind fun t612 => (if x7.length < 8796093022208 then ((customhouseref03_node.f (rdOf ByteArray.empty x8 x17) (rdOf ByteArray.empty x8 (wrap64 (x17 + 1)))).bind fun t618 => ((customhouseref01_Sum.f k t618).bind fun t619 => (if x16.length < 8796093022208 then (customhouseref03_Made.l3 k (x7 ++ [t612]) x8 (x16 ++ [t619]) (wrap64 (x17 + 2))) else (none)))) else (none))) else (none)) else (none)) else (none)) else (customhouseref03_Made.l2 k x7 x16)
end
def customhouseref03_Made.f (k : Nat) (a0 : ByteArray) (a1 : Int) (a2 : Int) : Option (List ByteArray) := customhouseref03_Made.l0 k a0 a1 a2 ([] : List ByteArray) ([] : List ByteArray) 0
def customhouseref03_Made.T24 : Bool × List (List Nat × List Nat) := (true, [([], []), ([], []), ([], []), ([1, 2], [1, 2]), ([3], [3]), ([], []), ([], []), ([6], [6]), ([5, 7], [5, 7]), ([8], [8]), ([4, 9], [4, 9]), ([10], [10]), ([0, 11, 10], [0, 11]), ([12, 12, 0, 1, 2, 3, 4, 5, 6, 7, 8, 9, 10, 11, 12], [0, 12])])
def customhouseref03_Made.B24 : List Nat := [0, 0, 0, 6, 14, 0, 0, 64, 224, 480, 1022, 2046, 4095, 8191]
theorem customhouseref03_Made.tab24 : rtab .any (opsOf Tryz.f47 24) = customhouseref03_Made.T24 := by kernel_rfl
theorem customhouseref03_Made.bits24 : waitsOk customhouseref03_Made.T24.2 customhouseref03_Made.B24 = true := by kernel_rfl
def customhouseref03_Made.T25 : Bool × List (List Nat × List Nat) := (true, [([], []), ([], []), ([], []), ([1, 2], [1, 2]), ([3], [3]), ([], []), ([], []), ([6], [6]), ([5, 7], [5, 7]), ([8], [8]), ([4, 9], [4, 9]), ([10, 10], [10]), ([11], [11]), ([0, 12, 11], [0, 12]), ([13, 13, 0, 1, 2, 3, 4, 5, 6, 7, 8, 9, 10, 11, 12, 13], [0, 13])])
def customhouseref03_Made.B25 : List Nat := [0, 0, 0, 6, 14, 0, 0, 64, 224, 480, 1022, 2046, 4094, 8191, 16383]
theorem customhouseref03_Made.tab25 : rtab .any (opsOf Tryz.f47 25) = customhouseref03_Made.T25 := by kernel_rfl
theorem customhouseref03_Made.bits25 : waitsOk customhouseref03_Made.T25.2 customhouseref03_Made.B25 = true := by kernel_rfl
set_option maxHeartbeats 8000000 in
set_option maxRecDepth 100000 in
theorem customhouseref03_Made.calls (k : Nat) (a0 : ByteArray) (a1 : Int) (a2 : Int) (r : List ByteArray) (w : World) (h : customhouseref03_Made.f k a0 a1 a2 = some r) :
    Calls Tryz.prog 47 #[.string a0, .int .i64 a1, .int .i64 a2] w fun e w' => ∃ v0_ : Value, e = .returned (v0_) ∧ Kd.R Kd.string 9 w' w.heap.size (fun _ => True) v0_ r ∧ Below w.heap.size w w' := by
 have HB := Aside0.mk (Below.refl w.heap.size w)
 have H : (customhouseref03_Made.l0 k a0 a1 a2 ([] : List ByteArray) ([] : List ByteArray) 0) = some r := h
 clear h
 have H' := Aside0.mk H
 clear H
 go_enter Tryz.func47, Tryz.ntmps47
 go_wp2
 go_loopg [7, 8, 9] k (fun kq v7 v8 v9 w' => ∃ (x7_1 : List ByteArray) (x8_1 : List ByteArray) (x9_1 : Int), v9 = .int .i64 x9_1 ∧ Aside0 (customhouseref03_Made.l0 kq a0 a1 a2 x7_1 x8_1 x9_1 = some r) ∧ Aside0 (kq ≤ k) ∧ Aside0 (Kd.R Kd.string 9 w' w.heap.size (fun k_ => some k_ ≠ (v8 : Value).ownBlock) v7 x7_1) ∧ Aside0 (Kd.R Kd.string 9 w' w.heap.size (fun k_ => some k_ ≠ (v7 : Value).ownBlock) v8 x8_1) ∧ Aside0 (Below w.heap.size w w'))
 case atStart => exact ⟨(([] : List ByteArray)), (([] : List ByteArray)), (0), (by first | rfl | (simp; done) | (simp [*]; done)), H', ⟨Nat.le_refl _⟩, ⟨by first | exact Kd.R_nil _ _ _ _ _ | exact Kd.N_nil _ _ _ _ _ | exact Kd.V_nil _ _ _ _ _ | exact Kd.Q_nil _ _ _ _ _ | exact Kd.S_nil _ _ _ _ _⟩, ⟨by first | exact Kd.R_nil _ _ _ _ _ | exact Kd.N_nil _ _ _ _ _ | exact Kd.V_nil _ _ _ _ _ | exact Kd.Q_nil _ _ _ _ _ | exact Kd.S_nil _ _ _ _ _⟩, ⟨by repeat (first | (with_reducible first | exact HB.out | apply below_alloc | apply pw_below_drewN | apply below_drew1) | exact HB.out)⟩⟩
 case round =>
  clear H'
  try clear p2
  obtain ⟨x7_1, x8_1, x9_1, rfl, HA, HK1, HO_7, HO_8, HB⟩ := hrel
  cases gk with
  | zero => exact absurd HA.out (by simp [customhouseref03_Made.l0])
  | succ k1 =>
   have H := HA.out; clear HA
   simp only [customhouseref03_Made.l0] at H
   replace H := Option.bind_eq_some_iff.mp H
   obtain ⟨t573, A40, H⟩ := H
   replace H : (if x9_1 < t573 then (customhouseref03_Made.l1 k1 a0 a1 a2 x7_1 x8_1 x9_1 ([] : List ByteArray) 0) else (customhouseref03_Made.l2 k1 x7_1 x8_1)) = some r := H
   have A4 := Aside0.mk A40
   clear A40
   by_cases c5 : x9_1 < t573
   ·rw [if_pos c5] at H
    have c5b0 : decide (x9_1 < t573) = true := decide_eq_true c5
    clear c5
    have H' := Aside0.mk H
    clear H
    go_wp2_with (first | ((with_reducible refine gate_callee (f := 107) rfl ?_); refine goesL_ (some 20) rfl rfl Tryz.func107 (by kernel_rfl) rfl #[.int .i64 a1] rfl (by (try simp only [List.map_toArray, List.map_cons, List.map_nil]); first | done | rfl | (simp only [List.length_drop, List.length_take]; rfl)) ?_; (with_reducible refine (customhouseref03_Power.calls k1 a1 t573 _ A4.out).mono ?_); rintro e w' ⟨rfl, ⟨nd, rfl⟩⟩; refine ⟨_, rfl, ?_⟩))
    go_loopg [7, 10, 11] k1 (fun kq v7 v10 v11 w' => ∃ (x7_2 : List ByteArray) (x10_2 : List ByteArray) (x11_2 : Int), v11 = .int .i64 x11_2 ∧ Aside0 (customhouseref03_Made.l1 kq a0 a1 a2 x7_2 x8_1 x9_1 x10_2 x11_2 = some r) ∧ Aside0 (kq ≤ k1) ∧ Aside0 (Kd.R Kd.string 9 w' w.heap.size (fun k_ => some k_ ≠ (u8 : Value).ownBlock ∧ some k_ ≠ (v10 : Value).ownBlock) v7 x7_2) ∧ Aside0 (Kd.R Kd.string 9 w' w.heap.size (fun k_ => some k_ ≠ (v7 : Value).ownBlock ∧ some k_ ≠ (v10 : Value).ownBlock) u8 x8_1) ∧ Aside0 (Kd.R Kd.string 9 w' w.heap.size (fun k_ => some k_ ≠ (v7 : Value).ownBlock ∧ some k_ ≠ (u8 : Value).ownBlock) v10 x10_2) ∧ Aside0 (Below w.heap.size w w'))
    case atStart => exact ⟨(x7_1), (([] : List ByteArray)), (0), (by first | rfl | (simp; done) | (simp [*]; done)), H', ⟨Nat.le_refl _⟩, ⟨by (with_reducible repeat (first | apply Kd.R_alloc | apply Kd.R_drewN | apply Kd.R_drew)); exact Kd.R_mono HO_7.out (fun _ hk => ⟨hk, (by simp [Value.ownBlock])⟩)⟩, ⟨by (with_reducible repeat (first | apply Kd.R_alloc | apply Kd.R_drewN | apply Kd.R_drew)); exact Kd.R_mono HO_8.out (fun _ hk => ⟨hk, (by simp [Value.ownBlock])⟩)⟩, ⟨by first | exact Kd.R_nil _ _ _ _ _ | exact Kd.N_nil _ _ _ _ _ | exact Kd.V_nil _ _ _ _ _ | exact Kd.Q_nil _ _ _ _ _ | exact Kd.S_nil _ _ _ _ _⟩, ⟨by repeat (first | (with_reducible first | exact HB.out | apply below_alloc | apply pw_below_drewN | apply below_drew1) | exact HB.out)⟩⟩
    case round =>
     clear H'
     try clear c1
     try clear p2
     try clear c4
     try clear c5
     try clear c5b0
     try clear p2
     obtain ⟨x7_2, x10_2, x11_2, rfl, HA, HK2, HO_7, HO_8, HO_10, HB⟩ := hrel
     cases gk with
     | zero => exact absurd HA.out (by simp [customhouseref03_Made.l1])
     | succ k2 =>
      have H := HA.out; clear HA
      simp only [customhouseref03_Made.l1] at H
      by_cases c6 : x11_2 < 18
      ·rw [if_pos c6] at H
       have c6b0 : decide (x11_2 < 18) = true := decide_eq_true c6
       clear c6
       replace H := Option.bind_eq_some_iff.mp H
       obtain ⟨t574, A70, H⟩ := H
       replace H : ((customhouseref01_Decimal.f x11_2).bind fun t575 => ((customhouseref01_Joined.f (([a0, t574, t575] : List ByteArray))).bind fun t579 => (if x7_2.length < 8796093022208 then ((some (x7_2 ++ [t579] : List ByteArray)).bind fun y580 => ((customhouseref01_Sum.f k2 t579).bind fun t583 => ((customhouseref03_chained.f k2 t583 a2).bind fun t584 => (if y580.length + t584.length < 8796093022208 then (if 15 < (t584.length : Int) then (if x10_2.length < 8796093022208 then (customhouseref03_Made.l1 k2 a0 a1 a2 (y580 ++ t584) x8_1 x9_1 (x10_2 ++ [rdOf ByteArray.empty t584 15]) (wrap64 (x11_2 + 1))) else (none)) else (none)) else (none))))) else (none)))) = some r := H
       have A7 := Aside0.mk A70
       clear A70
       replace H := Option.bind_eq_some_iff.mp H
       obtain ⟨t575, A80, H⟩ := H
       replace H : ((customhouseref01_Joined.f (([a0, t574, t575] : List ByteArray))).bind fun t579 => (if x7_2.length < 8796093022208 then ((some (x7_2 ++ [t579] : List ByteArray)).bind fun y580 => ((customhouseref01_Sum.f k2 t579).bind fun t583 => ((customhouseref03_chained.f k2 t583 a2).bind fun t584 => (if y580.length + t584.length < 8796093022208 then (if 15 < (t584.length : Int) then (if x10_2.length < 8796093022208 then (customhouseref03_Made.l1 k2 a0 a1 a2 (y580 ++ t584) x8_1 x9_1 (x10_2 ++ [rdOf ByteArray.empty t584 15]) (wrap64 (x11_2 + 1))) else (none)) else (none)) else (none))))) else (none))) = some r := H
       have A8 := Aside0.mk A80
       clear A80
       obtain ⟨y576, hy576⟩ : ∃ y_ : List ByteArray, y_ = (([a0, t574, t575] : List ByteArray)) := ⟨_, rfl⟩
       replace H : ((customhouseref01_Joined.f y576).bind fun t579 => (if x7_2.length < 8796093022208 then ((some (x7_2 ++ [t579] : List ByteArray)).bind fun y580 => ((customhouseref01_Sum.f k2 t579).bind fun t583 => ((customhouseref03_chained.f k2 t583 a2).bind fun t584 => (if y580.length + t584.length < 8796093022208 then (if 15 < (t584.length : Int) then (if x10_2.length < 8796093022208 then (customhouseref03_Made.l1 k2 a0 a1 a2 (y580 ++ t584) x8_1 x9_1 (x10_2 ++ [rdOf ByteArray.empty t584 15]) (wrap64 (x11_2 + 1))) else (none)) else (none)) else (none))))) else (none))) = some r := by first | (rw [hy576]; with_reducible exact H) | (have H2_ := (Option.bind_some _ _).symm.trans H; rw [hy576]; with_reducible exact H2_) | (have H2_ := (Option.bind_some _ _).symm.trans H; with_reducible exact H2_) | with_reducible exact H | (rw [hy576]; exact H) | exact H
       have Ny576 := Aside0.mk hy576
       clear hy576
       replace H := Option.bind_eq_some_iff.mp H
       obtain ⟨t579, A90, H⟩ := H
       replace H : (if x7_2.length < 8796093022208 then ((some (x7_2 ++ [t579] : List ByteArray)).bind fun y580 => ((customhouseref01_Sum.f k2 t579).bind fun t583 => ((customhouseref03_chained.f k2 t583 a2).bind fun t584 => (if y580.length + t584.length < 8796093022208 then (if 15 < (t584.length : Int) then (if x10_2.length < 8796093022208 then (customhouseref03_Made.l1 k2 a0 a1 a2 (y580 ++ t584) x8_1 x9_1 (x10_2 ++ [rdOf ByteArray.empty t584 15]) (wrap64 (x11_2 + 1))) else (none)) else (none)) else (none))))) else (none)) = some r := H
       have A9 := Aside0.mk A90
       clear A90
       by_cases c10 : x7_2.length < 8796093022208
       ·rw [if_pos c10] at H
        have LMc10 := Aside0.mk c10
        clear c10
        obtain ⟨y580, hy580⟩ : ∃ y_ : List ByteArray, y_ = (x7_2 ++ [t579]) := ⟨_, rfl⟩
        replace H : ((customhouseref01_Sum.f k2 t579).bind fun t583 => ((customhouseref03_chained.f k2 t583 a2).bind fun t584 => (if y580.length + t584.length < 8796093022208 then (if 15 < (t584.length : Int) then (if x10_2.length < 8796093022208 then (customhouseref03_Made.l1 k2 a0 a1 a2 (y580 ++ t584) x8_1 x9_1 (x10_2 ++ [rdOf ByteArray.empty t584 15]) (wrap64 (x11_2 + 1))) else (none)) else (none)) else (none)))) = some r := by first | (rw [hy580]; with_reducible exact H) | (have H2_ := (Option.bind_some _ _).symm.trans H; rw [hy580]; with_reducible exact H2_) | (have H2_ := (Option.bind_some _ _).symm.trans H; with_reducible exact H2_) | with_reducible exact H | (rw [hy580]; exact H) | exact H
        have Ny580 := Aside0.mk hy580
        clear hy580
        replace H := Option.bind_eq_some_iff.mp H
        obtain ⟨t583, A110, H⟩ := H
        replace H : ((customhouseref03_chained.f k2 t583 a2).bind fun t584 => (if y580.length + t584.length < 8796093022208 then (if 15 < (t584.length : Int) then (if x10_2.length < 8796093022208 then (customhouseref03_Made.l1 k2 a0 a1 a2 (y580 ++ t584) x8_1 x9_1 (x10_2 ++ [rdOf ByteArray.empty t584 15]) (wrap64 (x11_2 + 1))) else (none)) else (none)) else (none))) = some r := H
        have A11 := Aside0.mk A110
        clear A110
        replace H := Option.bind_eq_some_iff.mp H
        obtain ⟨t584, A120, H⟩ := H
        replace H : (if y580.length + t584.length < 8796093022208 then (if 15 < (t584.length : Int) then (if x10_2.length < 8796093022208 then (customhouseref03_Made.l1 k2 a0 a1 a2 (y580 ++ t584) x8_1 x9_1 (x10_2 ++ [rdOf ByteArray.empty t584 15]) (wrap64 (x11_2 + 1))) else (none)) else (none)) else (none)) = some r := H
        have A12 := Aside0.mk A120
        clear A120
        by_cases c13 : y580.length + t584.length < 8796093022208
        ·rw [if_pos c13] at H
         have LMc13 := Aside0.mk c13
         clear c13
         obtain ⟨y587, hy587⟩ : ∃ y_ : List ByteArray, y_ = (y580 ++ t584) := ⟨_, rfl⟩
         replace H : (if 15 < (t584.length : Int) then (if x10_2.length < 8796093022208 then (customhouseref03_Made.l1 k2 a0 a1 a2 y587 x8_1 x9_1 (x10_2 ++ [rdOf ByteArray.empty t584 15]) (wrap64 (x11_2 + 1))) else (none)) else (none)) = some r := by first | (rw [hy587]; with_reducible exact H) | (have H2_ := (Option.bind_some _ _).symm.trans H; rw [hy587]; with_reducible exact H2_) | (have H2_ := (Option.bind_some _ _).symm.trans H; with_reducible exact H2_) | with_reducible exact H | (rw [hy587]; exact H) | exact H
         have Ny587 := Aside0.mk hy587
         clear hy587
         by_cases c14 : 15 < (t584.length : Int)
         ·rw [if_pos c14] at H
          have c14b0 : decide (15 < (t584.length : Int)) = true := decide_eq_true c14
          have c14b1 : decide (15 < t584.length) = true := decide_eq_true (by omega)
          clear c14
          by_cases c15 : x10_2.length < 8796093022208
          ·rw [if_pos c15] at H
           have LMc15 := Aside0.mk c15
           clear c15
           obtain ⟨y591, hy591⟩ : ∃ y_ : List ByteArray, y_ = (x10_2 ++ [rdOf ByteArray.empty t584 15]) := ⟨_, rfl⟩
           replace H : (customhouseref03_Made.l1 k2 a0 a1 a2 y587 x8_1 x9_1 y591 (wrap64 (x11_2 + 1))) = some r := by first | (rw [hy591]; with_reducible exact H) | (have H2_ := (Option.bind_some _ _).symm.trans H; rw [hy591]; with_reducible exact H2_) | (have H2_ := (Option.bind_some _ _).symm.trans H; with_reducible exact H2_) | with_reducible exact H | (rw [hy591]; exact H) | exact H
           have Ny591 := Aside0.mk hy591
           clear hy591
           have H' := Aside0.mk H
           clear H
           go_wp2_with (first | ((with_reducible refine gate_callee (f := 117) rfl ?_); refine goesL_ (some 30) rfl rfl Tryz.func117 (by kernel_rfl) rfl #[.int .i64 x9_1] rfl (by (try simp only [List.map_toArray, List.map_cons, List.map_nil]); first | done | rfl | (simp only [List.length_drop, List.length_take]; rfl)) ?_; (with_reducible refine (customhouseref01_Decimal.calls x9_1 t574 _ A7.out).mono ?_); rintro e w' ⟨rfl, ⟨nd, rfl⟩⟩; refine ⟨_, rfl, ?_⟩) | ((with_reducible refine gate_callee (f := 117) rfl ?_); refine goesL_ (some 32) rfl rfl Tryz.func117 (by kernel_rfl) rfl #[.int .i64 x11_2] rfl (by (try simp only [List.map_toArray, List.map_cons, List.map_nil]); first | done | rfl | (simp only [List.length_drop, List.length_take]; rfl)) ?_; (with_reducible refine (customhouseref01_Decimal.calls x11_2 t575 _ A8.out).mono ?_); rintro e w' ⟨rfl, ⟨nd, rfl⟩⟩; refine ⟨_, rfl, ?_⟩) | ((with_reducible refine gate_dst (N := 33) rfl ?_); refine Kd.R_lit Kd.string _ 9 ?hg (N := 33) ?hd (xs := ([a0, t574, t575] : List ByteArray)) (inner := [.string a0, .string t574, .string t575]) (ok := fun _ => True) (okp := fun _ => True) ?hr ?hp (fun _ hk => hk) trivial (Below.refl _ _) (Nat.le_refl _) (by simp) ?_; (case hd => rfl); (case hg => rfl); (case hr => first | (go_simp; done) | (go_simp; rfl)); (case hp => exact (Reps.one (show Kd.M Kd.string _ _ _ a0 [.string a0] from rfl) (Reps.one (show Kd.M Kd.string _ _ _ t574 [.string t574] from rfl) (Reps.one (show Kd.M Kd.string _ _ _ t575 [.string t575] from rfl) (Reps.none _ _))))); intro v577 w16 ho17 hb hg_ hnew_; clear hg_ hnew_; (first | rw [← Ny576.out] at ho17 | (simp only [Int.reduceToNat] at ho17; rw [← Ny576.out] at ho17)); have n0_ := Aside0.mk (Kd.R_elder' (by (with_reducible repeat (first | apply Kd.R_alloc | apply Kd.R_drewN | apply Kd.R_drew)); exact HO_7.out) (Kd.R_base ho17) hb); have n1_ := Aside0.mk (Kd.R_elder' (by (with_reducible repeat (first | apply Kd.R_alloc | apply Kd.R_drewN | apply Kd.R_drew)); exact HO_8.out) (Kd.R_base ho17) hb); have n2_ := Aside0.mk (Kd.R_elder' (by (with_reducible repeat (first | apply Kd.R_alloc | apply Kd.R_drewN | apply Kd.R_drew)); exact HO_10.out) (Kd.R_base ho17) hb); have n3_ := Aside0.mk (Kd.R_lower (Kd.R_new' (Kd.R_new' (Kd.R_new' ho17 (Kd.R_lt (by (with_reducible repeat (first | apply Kd.R_alloc | apply Kd.R_drewN | apply Kd.R_drew)); exact HO_7.out))) (Kd.R_lt (by (with_reducible repeat (first | apply Kd.R_alloc | apply Kd.R_drewN | apply Kd.R_drew)); exact HO_8.out))) (Kd.R_lt (by (with_reducible repeat (first | apply Kd.R_alloc | apply Kd.R_drewN | apply Kd.R_drew)); exact HO_10.out))) (below_size (by repeat (first | (with_reducible first | exact HB.out | apply below_alloc | apply pw_below_drewN | apply below_drew1) | exact HB.out)))); have n4_ := Aside0.mk (below_step (by repeat (first | (with_reducible first | exact HB.out | apply below_alloc | apply pw_below_drewN | apply below_drew1) | exact HB.out)) hb); clear HO_7; clear HO_8; clear HO_10; clear HB; have HO_7 := n0_; have HO_8 := n1_; have HO_10 := n2_; have HO578 := n3_; have HB := n4_; clear n0_ n1_ n2_ n3_ n4_; clear hb ho17; obtain ⟨Ao18, co18, eo18⟩ := Kd.R_slice HO578.out; subst eo18) | ((with_reducible refine gate_callee (f := 54) rfl ?_); refine goesL_ (some 34) rfl rfl Tryz.func54 (by kernel_rfl) rfl #[.slice Ao18 y576.length co18] rfl (by (try simp only [List.map_toArray, List.map_cons, List.map_nil]); first | done | rfl | (simp only [List.length_drop, List.length_take]; rfl)) ?_; (with_reducible refine (customhouseref01_Joined.calls _ _ y576 t579 _ ?side1 ?side2 A9.out).mono ?_); (case side1 => repeat (first | exact (Kd.R_reads' HO578.out).2.2 | (with_reducible refine Kd.C_alloc ?_ _) | (with_reducible refine Kd.C_drewN ?_ _) | (with_reducible refine Kd.C_drew ?_))); (case side2 => exact (Kd.R_reads' HO578.out).2.1); rintro e w19 ⟨rfl, hb⟩; refine ⟨_, rfl, ?_⟩; have n0_ := Aside0.mk (Kd.R_below (by (with_reducible repeat (first | apply Kd.R_alloc | apply Kd.R_drewN | apply Kd.R_drew)); exact HO_7.out) hb); have n1_ := Aside0.mk (Kd.R_below (by (with_reducible repeat (first | apply Kd.R_alloc | apply Kd.R_drewN | apply Kd.R_drew)); exact HO_8.out) hb); have n2_ := Aside0.mk (Kd.R_below (by (with_reducible repeat (first | apply Kd.R_alloc | apply Kd.R_drewN | apply Kd.R_drew)); exact HO_10.out) hb); have n3_ := Aside0.mk (Kd.R_below (by (with_reducible repeat (first | apply Kd.R_alloc | apply Kd.R_drewN | apply Kd.R_drew)); exact HO578.out) hb); have n4_ := Aside0.mk (below_step (by repeat (first | (with_reducible first | exact HB.out | apply below_alloc | apply pw_below_drewN | apply below_drew1) | exact HB.out)) hb); clear HO_7; clear HO_8; clear HO_10; clear HO578; clear HB; have HO_7 := n0_; have HO_8 := n1_; have HO_10 := n2_; have HO578 := n3_; have HB := n4_; clear n0_ n1_ n2_ n3_ n4_; (try clear hb); (try clear hb2); (try clear hk); (try clear hi)) | ((with_reducible refine gate_builtin (b := .append) (xs := #[.tmp 35, .tmp 37]) rfl ?_); at_builtin; refine Kd.R_append Kd.string (w0 := w) w.heap.size rfl (.tmp 35) (.tmp 37) 30 9 (.string ⟨#[]⟩) 16 rfl Tryz.underlying30 info9 rfl (by decide) (by omega) u7 x7_2 t579 [.string t579] (fun k_ => some k_ ≠ (u8 : Value).ownBlock ∧ some k_ ≠ (u10 : Value).ownBlock ∧ some k_ ≠ (.slice Ao18 y576.length co18 : Value).ownBlock) (fun _ => False) rfl rfl ?aP (fun _ hk => hk.elim) ?aF ?aO ?aB ?aS ?aL ?_; (case aP => exact rfl); (case aB => exact (by repeat (first | (with_reducible first | exact HB.out | apply below_alloc | apply pw_below_drewN | apply below_drew1) | exact HB.out))); (case aF => exact (fun k_ hk => ⟨Kd.fresh' (Kd.R_lt (by (with_reducible repeat (first | apply Kd.R_alloc | apply Kd.R_drewN | apply Kd.R_drew)); exact HO_8.out)) k_ hk, Kd.fresh' (Kd.R_lt (by (with_reducible repeat (first | apply Kd.R_alloc | apply Kd.R_drewN | apply Kd.R_drew)); exact HO_10.out)) k_ hk, Kd.fresh' (Kd.R_lt (by (with_reducible repeat (first | apply Kd.R_alloc | apply Kd.R_drewN | apply Kd.R_drew)); exact HO578.out)) k_ hk⟩)); (case aO => exact (by (with_reducible repeat (first | apply Kd.R_alloc | apply Kd.R_drewN | apply Kd.R_drew)); exact Kd.R_mono HO_7.out (fun _ hk => ⟨hk.1.1, ⟨hk.1.2, hk.2⟩⟩))); (case aS => exact (below_size (by repeat (first | (with_reducible first | exact HB.out | apply below_alloc | apply pw_below_drewN | apply below_drew1) | exact HB.out)))); (case aL => have := LMc10.out; omega); intro v581 w20 ho hb hg hat; rw [← Ny580.out] at ho; have n0_ := Aside0.mk (Kd.R_after (ok := (fun k_ => some k_ ≠ (u10 : Value).ownBlock ∧ some k_ ≠ (.slice Ao18 y576.length co18 : Value).ownBlock)) (by (with_reducible repeat (first | apply Kd.R_alloc | apply Kd.R_drewN | apply Kd.R_drew)); exact Kd.R_mono HO_8.out (fun _ hk => ⟨⟨hk.1.2, hk.2⟩, hk.1.1⟩)) hg hat); have n1_ := Aside0.mk (Kd.R_after (ok := (fun k_ => some k_ ≠ (u8 : Value).ownBlock ∧ some k_ ≠ (.slice Ao18 y576.length co18 : Value).ownBlock)) (by (with_reducible repeat (first | apply Kd.R_alloc | apply Kd.R_drewN | apply Kd.R_drew)); exact Kd.R_mono HO_10.out (fun _ hk => ⟨⟨hk.1.2, hk.2⟩, hk.1.1⟩)) hg hat); have n2_ := Aside0.mk (Kd.R_after (ok := (fun k_ => some k_ ≠ (u8 : Value).ownBlock ∧ some k_ ≠ (u10 : Value).ownBlock)) (by (with_reducible repeat (first | apply Kd.R_alloc | apply Kd.R_drewN | apply Kd.R_drew)); exact Kd.R_mono HO578.out (fun _ hk => ⟨⟨hk.1.2, hk.2⟩, hk.1.1.2⟩)) hg hat); have n3_ := Aside0.mk (hb); have n4_ := Aside0.mk (ho); clear HO_8; clear HO_10; clear HO578; clear HB; clear HO_7; have HO_8 := n0_; have HO_10 := n1_; have HO578 := n2_; have HB := n3_; have HO582 := n4_; clear n0_ n1_ n2_ n3_ n4_; clear ho hb hg hat) | ((with_reducible refine gate_callee (f := 49) rfl ?_); refine goesL_ (some 40) rfl rfl Tryz.func49 (by kernel_rfl) rfl #[.string t579] rfl (by (try simp only [List.map_toArray, List.map_cons, List.map_nil]); first | done | rfl | (simp only [List.length_drop, List.length_take]; rfl)) ?_; (with_reducible refine (customhouseref01_Sum.calls k2 t579 t583 _ A11.out).mono ?_); rintro e w' ⟨rfl, ⟨nd, rfl⟩⟩; refine ⟨_, rfl, ?_⟩) | ((with_reducible refine gate_callee (f := 118) rfl ?_); refine goesL_ (some 42) rfl rfl Tryz.func118 (by kernel_rfl) rfl #[.string t583, .int .i64 a2] rfl (by (try simp only [List.map_toArray, List.map_cons, List.map_nil]); first | done | rfl | (simp only [List.length_drop, List.length_take]; rfl)) ?_; (with_reducible refine (customhouseref03_chained.calls k2 t583 a2 t584 _ A12.out).mono ?_); rintro e w21 ⟨v585, rfl, ho0, hb⟩; refine ⟨_, rfl, ?_⟩; have n0_ := Aside0.mk (Kd.R_elder' (by (with_reducible repeat (first | apply Kd.R_alloc | apply Kd.R_drewN | apply Kd.R_drew)); exact HO_8.out) (Kd.R_base ho0) hb); have n1_ := Aside0.mk (Kd.R_elder' (by (with_reducible repeat (first | apply Kd.R_alloc | apply Kd.R_drewN | apply Kd.R_drew)); exact HO_10.out) (Kd.R_base ho0) hb); have n2_ := Aside0.mk (Kd.R_elder' (by (with_reducible repeat (first | apply Kd.R_alloc | apply Kd.R_drewN | apply Kd.R_drew)); exact HO578.out) (Kd.R_base ho0) hb); have n3_ := Aside0.mk (Kd.R_elder' (by (with_reducible repeat (first | apply Kd.R_alloc | apply Kd.R_drewN | apply Kd.R_drew)); exact HO582.out) (Kd.R_base ho0) hb); have n4_ := Aside0.mk (Kd.R_lower (Kd.R_new' (Kd.R_new' (Kd.R_new' (Kd.R_new' ho0 (Kd.R_lt (by (with_reducible repeat (first | apply Kd.R_alloc | apply Kd.R_drewN | apply Kd.R_drew)); exact HO_8.out))) (Kd.R_lt (by (with_reducible repeat (first | apply Kd.R_alloc | apply Kd.R_drewN | apply Kd.R_drew)); exact HO_10.out))) (Kd.R_lt (by (with_reducible repeat (first | apply Kd.R_alloc | apply Kd.R_drewN | apply Kd.R_drew)); exact HO578.out))) (Kd.R_lt (by (with_reducible repeat (first | apply Kd.R_alloc | apply Kd.R_drewN | apply Kd.R_drew)); exact HO582.out))) (below_size (by repeat (first | (with_reducible first | exact HB.out | apply below_alloc | apply pw_below_drewN | apply below_drew1) | exact HB.out)))); have n5_ := Aside0.mk (below_step (by repeat (first | (with_reducible first | exact HB.out | apply below_alloc | apply pw_below_drewN | apply below_drew1) | exact HB.out)) hb); clear HO_8; clear HO_10; clear HO578; clear HO582; clear HB; have HO_8 := n0_; have HO_10 := n1_; have HO578 := n2_; have HO582 := n3_; have HO586 := n4_; have HB := n5_; clear n0_ n1_ n2_ n3_ n4_ n5_; (try clear hb); (try clear hb2); (try clear hk); (try clear hi); (try clear ho0); obtain ⟨Ao23, co23, eo23⟩ := Kd.R_slice HO586.out; subst eo23) | ((with_reducible refine gate_builtin (b := .append) (xs := #[.tmp 43, .tmp 44]) rfl ?_); at_builtin; refine Kd.R_append_rows Kd.string (w0 := w) w.heap.size rfl (.tmp 43) (.tmp 44) 30 9 (.string ⟨#[]⟩) 16 rfl Tryz.underlying30 info9 rfl (by decide) (by omega) v581 y580 t584 _ _ _ (fun k_ => some k_ ≠ (u8 : Value).ownBlock ∧ some k_ ≠ (u10 : Value).ownBlock ∧ some k_ ≠ (.slice Ao18 y576.length co18 : Value).ownBlock ∧ some k_ ≠ (.slice Ao23 t584.length co23 : Value).ownBlock) (fun _ => False) rfl rfl ?aO ?aR (fun _ _ h => h) (fun _ h => h.elim) ?aF ?aB ?aS ?aL ?_; (case aR => repeat (first | exact (Kd.R_reads' HO586.out).2.2 | (with_reducible refine Kd.C_alloc ?_ _) | (with_reducible refine Kd.C_drewN ?_ _) | (with_reducible refine Kd.C_drew ?_))); (case aB => exact (by repeat (first | (with_reducible first | exact HB.out | apply below_alloc | apply pw_below_drewN | apply below_drew1) | exact HB.out))); (case aF => exact (fun k_ hk => ⟨Kd.fresh' (Kd.R_lt (by (with_reducible repeat (first | apply Kd.R_alloc | apply Kd.R_drewN | apply Kd.R_drew)); exact HO_8.out)) k_ hk, Kd.fresh' (Kd.R_lt (by (with_reducible repeat (first | apply Kd.R_alloc | apply Kd.R_drewN | apply Kd.R_drew)); exact HO_10.out)) k_ hk, Kd.fresh' (Kd.R_lt (by (with_reducible repeat (first | apply Kd.R_alloc | apply Kd.R_drewN | apply Kd.R_drew)); exact HO578.out)) k_ hk, Kd.fresh' (Kd.R_lt (by (with_reducible repeat (first | apply Kd.R_alloc | apply Kd.R_drewN | apply Kd.R_drew)); exact HO586.out)) k_ hk⟩)); (case aO => exact (by (with_reducible repeat (first | apply Kd.R_alloc | apply Kd.R_drewN | apply Kd.R_drew)); exact Kd.R_mono HO582.out (fun _ hk => ⟨hk.1.1, ⟨hk.1.2.1, ⟨hk.1.2.2, hk.2⟩⟩⟩))); (case aS => exact (below_size (by repeat (first | (with_reducible first | exact HB.out | apply below_alloc | apply pw_below_drewN | apply below_drew1) | exact HB.out)))); (case aL => have := LMc13.out; omega); intro v588 w22 ho hb hg hat; rw [← Ny587.out] at ho; have n0_ := Aside0.mk (Kd.R_after (ok := (fun k_ => some k_ ≠ (u10 : Value).ownBlock ∧ some k_ ≠ (.slice Ao18 y576.length co18 : Value).ownBlock ∧ some k_ ≠ (.slice Ao23 t584.length co23 : Value).ownBlock)) (by (with_reducible repeat (first | apply Kd.R_alloc | apply Kd.R_drewN | apply Kd.R_drew)); exact Kd.R_mono HO_8.out (fun _ hk => ⟨⟨hk.1.1.1, ⟨hk.1.1.2, hk.2⟩⟩, hk.1.2⟩)) hg hat); have n1_ := Aside0.mk (Kd.R_after (ok := (fun k_ => some k_ ≠ (u8 : Value).ownBlock ∧ some k_ ≠ (.slice Ao18 y576.length co18 : Value).ownBlock ∧ some k_ ≠ (.slice Ao23 t584.length co23 : Value).ownBlock)) (by (with_reducible repeat (first | apply Kd.R_alloc | apply Kd.R_drewN | apply Kd.R_drew)); exact Kd.R_mono HO_10.out (fun _ hk => ⟨⟨hk.1.1.1, ⟨hk.1.1.2, hk.2⟩⟩, hk.1.2⟩)) hg hat); have n2_ := Aside0.mk (Kd.R_after (ok := (fun k_ => some k_ ≠ (u8 : Value).ownBlock ∧ some k_ ≠ (u10 : Value).ownBlock ∧ some k_ ≠ (.slice Ao23 t584.length co23 : Value).ownBlock)) (by (with_reducible repeat (first | apply Kd.R_alloc | apply Kd.R_drewN | apply Kd.R_drew)); exact Kd.R_mono HO578.out (fun _ hk => ⟨⟨hk.1.1.1, ⟨hk.1.1.2, hk.2⟩⟩, hk.1.2⟩)) hg hat); have n3_ := Aside0.mk (Kd.R_after (ok := (fun k_ => some k_ ≠ (u8 : Value).ownBlock ∧ some k_ ≠ (u10 : Value).ownBlock ∧ some k_ ≠ (.slice Ao18 y576.length co18 : Value).ownBlock)) (by (with_reducible repeat (first | apply Kd.R_alloc | apply Kd.R_drewN | apply Kd.R_drew)); exact Kd.R_mono HO586.out (fun _ hk => ⟨⟨hk.1.1.1.2, ⟨hk.1.1.2, hk.1.2⟩⟩, hk.2⟩)) hg hat); have n4_ := Aside0.mk (hb); have n5_ := Aside0.mk (ho); clear HO_8; clear HO_10; clear HO578; clear HO586; clear HB; clear HO582; have HO_8 := n0_; have HO_10 := n1_; have HO578 := n2_; have HO586 := n3_; have HB := n4_; have HO589 := n5_; clear n0_ n1_ n2_ n3_ n4_ n5_; clear ho hb hg hat; have p590 : 0 ≤ (15 : Int) := (by omega); have q590 : 15 < (t584.length : Int) := of_decide_eq_true (by first | (with_reducible assumption) | assumption); obtain ⟨ad590, e590, hx590_0⟩ := Kd.at_string (Kd.R_reads' HO586.out).2.2 15 p590 q590; cases e590; (try simp only [show (15 : Int).toNat = 15 from rfl, Nat.reduceMul, Nat.reduceEqDiff, Go.Addr.add, ↓reduceIte] at hx590_0); have qi590 : (15 < t584.length) = True := eq_true (by omega); (try rw [show ((15 : Int)).toNat = 15 from rfl] at hx590_0); replace p590 := eq_true p590; replace q590 := eq_true q590) | ((with_reducible refine gate_builtin (b := .append) (xs := #[.tmp 46, .tmp 50]) rfl ?_); at_builtin; refine Kd.R_append Kd.string (w0 := w) w.heap.size rfl (.tmp 46) (.tmp 50) 30 9 (.string ⟨#[]⟩) 16 rfl Tryz.underlying30 info9 rfl (by decide) (by omega) u10 x10_2 (rdOf ByteArray.empty t584 15) [.string (rdOf ByteArray.empty t584 15)] (fun k_ => some k_ ≠ (u8 : Value).ownBlock ∧ some k_ ≠ (.slice Ao18 y576.length co18 : Value).ownBlock ∧ some k_ ≠ (.slice (some ad590) t584.length co23 : Value).ownBlock ∧ some k_ ≠ (v588 : Value).ownBlock) (fun _ => False) rfl rfl ?aP (fun _ hk => hk.elim) ?aF ?aO ?aB ?aS ?aL ?_; (case aP => exact rfl); (case aB => exact (by repeat (first | (with_reducible first | exact HB.out | apply below_alloc | apply pw_below_drewN | apply below_drew1) | exact HB.out))); (case aF => exact (fun k_ hk => ⟨Kd.fresh' (Kd.R_lt (by (with_reducible repeat (first | apply Kd.R_alloc | apply Kd.R_drewN | apply Kd.R_drew)); exact HO_8.out)) k_ hk, Kd.fresh' (Kd.R_lt (by (with_reducible repeat (first | apply Kd.R_alloc | apply Kd.R_drewN | apply Kd.R_drew)); exact HO578.out)) k_ hk, Kd.fresh' (Kd.R_lt (by (with_reducible repeat (first | apply Kd.R_alloc | apply Kd.R_drewN | apply Kd.R_drew)); exact HO586.out)) k_ hk, Kd.fresh' (Kd.R_lt (by (with_reducible repeat (first | apply Kd.R_alloc | apply Kd.R_drewN | apply Kd.R_drew)); exact HO589.out)) k_ hk⟩)); (case aO => exact (by (with_reducible repeat (first | apply Kd.R_alloc | apply Kd.R_drewN | apply Kd.R_drew)); exact Kd.R_mono HO_10.out (fun _ hk => ⟨hk.1.1, ⟨hk.1.2.1, ⟨hk.1.2.2, hk.2⟩⟩⟩))); (case aS => exact (below_size (by repeat (first | (with_reducible first | exact HB.out | apply below_alloc | apply pw_below_drewN | apply below_drew1) | exact HB.out)))); (case aL => have := LMc15.out; omega); intro v592 w24 ho hb hg hat; rw [← Ny591.out] at ho; have n0_ := Aside0.mk (Kd.R_after (ok := (fun k_ => some k_ ≠ (.slice Ao18 y576.length co18 : Value).ownBlock ∧ some k_ ≠ (.slice (some ad590) t584.length co23 : Value).ownBlock ∧ some k_ ≠ (v588 : Value).ownBlock)) (by (with_reducible repeat (first | apply Kd.R_alloc | apply Kd.R_drewN | apply Kd.R_drew)); exact Kd.R_mono HO_8.out (fun _ hk => ⟨⟨hk.1.2.1, ⟨hk.1.2.2, hk.2⟩⟩, hk.1.1⟩)) hg hat); have n1_ := Aside0.mk (Kd.R_after (ok := (fun k_ => some k_ ≠ (u8 : Value).ownBlock ∧ some k_ ≠ (.slice (some ad590) t584.length co23 : Value).ownBlock ∧ some k_ ≠ (v588 : Value).ownBlock)) (by (with_reducible repeat (first | apply Kd.R_alloc | apply Kd.R_drewN | apply Kd.R_drew)); exact Kd.R_mono HO578.out (fun _ hk => ⟨⟨hk.1.1, ⟨hk.1.2.2, hk.2⟩⟩, hk.1.2.1⟩)) hg hat); have n2_ := Aside0.mk (Kd.R_after (ok := (fun k_ => some k_ ≠ (u8 : Value).ownBlock ∧ some k_ ≠ (.slice Ao18 y576.length co18 : Value).ownBlock ∧ some k_ ≠ (v588 : Value).ownBlock)) (by (with_reducible repeat (first | apply Kd.R_alloc | apply Kd.R_drewN | apply Kd.R_drew)); exact Kd.R_mono HO586.out (fun _ hk => ⟨⟨hk.1.1, ⟨hk.1.2.2, hk.2⟩⟩, hk.1.2.1⟩)) hg hat); have n3_ := Aside0.mk (Kd.R_after (ok := (fun k_ => some k_ ≠ (u8 : Value).ownBlock ∧ some k_ ≠ (.slice Ao18 y576.length co18 : Value).ownBlock ∧ some k_ ≠ (.slice (some ad590) t584.length co23 : Value).ownBlock)) (by (with_reducible repeat (first | apply Kd.R_alloc | apply Kd.R_drewN | apply Kd.R_drew)); exact Kd.R_mono HO589.out (fun _ hk => ⟨⟨hk.1, ⟨hk.2.2.1, hk.2.2.2⟩⟩, hk.2.1⟩)) hg hat); have n4_ := Aside0.mk (hb); have n5_ := Aside0.mk (ho); clear HO_8; clear HO578; clear HO586; clear HO589; clear HB; clear HO_10; have HO_8 := n0_; have HO578 := n1_; have HO586 := n2_; have HO589 := n3_; have HB := n4_; have HO593 := n5_; clear n0_ n1_ n2_ n3_ n4_ n5_; clear ho hb hg hat))
           go_roundg k2
           case measure => have := HK1.out; have := HK2.out; omega
           case rel => exact ⟨(y587), (y591), (wrap64 (x11_2 + 1)), (by first | rfl | (simp; done) | (simp [*]; done)), H', ⟨by have := HK1.out; have := HK2.out; omega⟩, ⟨by (with_reducible repeat (first | apply Kd.R_alloc | apply Kd.R_drewN | apply Kd.R_drew)); exact Kd.R_mono HO589.out (fun _ hk => ⟨hk.1.1, hk.2⟩)⟩, ⟨by (with_reducible repeat (first | apply Kd.R_alloc | apply Kd.R_drewN | apply Kd.R_drew)); exact Kd.R_mono HO_8.out (fun _ hk => ⟨hk.1.2.2, hk.2⟩)⟩, ⟨by (with_reducible repeat (first | apply Kd.R_alloc | apply Kd.R_drewN | apply Kd.R_drew)); exact Kd.R_mono HO593.out (fun _ hk => ⟨hk.2.2.2, hk.1⟩)⟩, ⟨by repeat (first | (with_reducible first | exact HB.out | apply below_alloc | apply pw_below_drewN | apply below_drew1) | exact HB.out)⟩⟩
          ·rw [if_neg c15] at H
           exact absurd H (by simp)
         ·rw [if_neg c14] at H
          exact absurd H (by simp)
        ·rw [if_neg c13] at H
         exact absurd H (by simp)
       ·rw [if_neg c10] at H
        exact absurd H (by simp)
      ·rw [if_neg c6] at H
       have c6b0 : decide (x11_2 < 18) = false := decide_eq_false c6
       clear c6
       replace H := Option.bind_eq_some_iff.mp H
       obtain ⟨t594, A250, H⟩ := H
       replace H : ((customhouseref01_Sum.f k2 t594).bind fun t595 => ((customhouseref01_Joined.f (([(⟨#[108, 101, 97, 102]⟩ : ByteArray), t595] : List ByteArray))).bind fun t599 => ((some (([t594, t599] : List ByteArray) : List ByteArray)).bind fun y600 => (if x7_2.length + y600.length < 8796093022208 then ((customhouseref01_Sum.f k2 t599).bind fun t606 => (if x8_1.length < 8796093022208 then (customhouseref03_Made.l0 k2 a0 a1 a2 (x7_2 ++ y600) (x8_1 ++ [t606]) (wrap64 (x9_1 + 1))) else (none))) else (none))))) = some r := H
       have A25 := Aside0.mk A250
       clear A250
       replace H := Option.bind_eq_some_iff.mp H
       obtain ⟨t595, A260, H⟩ := H
       replace H : ((customhouseref01_Joined.f (([(⟨#[108, 101, 97, 102]⟩ : ByteArray), t595] : List ByteArray))).bind fun t599 => ((some (([t594, t599] : List ByteArray) : List ByteArray)).bind fun y600 => (if x7_2.length + y600.length < 8796093022208 then ((customhouseref01_Sum.f k2 t599).bind fun t606 => (if x8_1.length < 8796093022208 then (customhouseref03_Made.l0 k2 a0 a1 a2 (x7_2 ++ y600) (x8_1 ++ [t606]) (wrap64 (x9_1 + 1))) else (none))) else (none)))) = some r := H
       have A26 := Aside0.mk A260
       clear A260
       obtain ⟨y596, hy596⟩ : ∃ y_ : List ByteArray, y_ = (([(⟨#[108, 101, 97, 102]⟩ : ByteArray), t595] : List ByteArray)) := ⟨_, rfl⟩
       replace H : ((customhouseref01_Joined.f y596).bind fun t599 => ((some (([t594, t599] : List ByteArray) : List ByteArray)).bind fun y600 => (if x7_2.length + y600.length < 8796093022208 then ((customhouseref01_Sum.f k2 t599).bind fun t606 => (if x8_1.length < 8796093022208 then (customhouseref03_Made.l0 k2 a0 a1 a2 (x7_2 ++ y600) (x8_1 ++ [t606]) (wrap64 (x9_1 + 1))) else (none))) else (none)))) = some r := by first | (rw [hy596]; with_reducible exact H) | (have H2_ := (Option.bind_some _ _).symm.trans H; rw [hy596]; with_reducible exact H2_) | (have H2_ := (Option.bind_some _ _).symm.trans H; with_reducible exact H2_) | with_reducible exact H | (rw [hy596]; exact H) | exact H
       have Ny596 := Aside0.mk hy596
       clear hy596
       replace H := Option.bind_eq_some_iff.mp H
       obtain ⟨t599, A270, H⟩ := H
       replace H : ((some (([t594, t599] : List ByteArray) : List ByteArray)).bind fun y600 => (if x7_2.length + y600.length < 8796093022208 then ((customhouseref01_Sum.f k2 t599).bind fun t606 => (if x8_1.length < 8796093022208 then (customhouseref03_Made.l0 k2 a0 a1 a2 (x7_2 ++ y600) (x8_1 ++ [t606]) (wrap64 (x9_1 + 1))) else (none))) else (none))) = some r := H
       have A27 := Aside0.mk A270
       clear A270
       obtain ⟨y600, hy600⟩ : ∃ y_ : List ByteArray, y_ = (([t594, t599] : List ByteArray)) := ⟨_, rfl⟩
       replace H : (if x7_2.length + y600.length < 8796093022208 then ((customhouseref01_Sum.f k2 t599).bind fun t606 => (if x8_1.length < 8796093022208 then (customhouseref03_Made.l0 k2 a0 a1 a2 (x7_2 ++ y600) (x8_1 ++ [t606]) (wrap64 (x9_1 + 1))) else (none))) else (none)) = some r := by first | (rw [hy600]; with_reducible exact H) | (have H2_ := (Option.bind_some _ _).symm.trans H; rw [hy600]; with_reducible exact H2_) | (have H2_ := (Option.bind_some _ _).symm.trans H; with_reducible exact H2_) | with_reducible exact H | (rw [hy600]; exact H) | exact H
       have Ny600 := Aside0.mk hy600
       clear hy600
       by_cases c28 : x7_2.length + y600.length < 8796093022208
       ·rw [if_pos c28] at H
        have LMc28 := Aside0.mk c28
        clear c28
        obtain ⟨y603, hy603⟩ : ∃ y_ : List ByteArray, y_ = (x7_2 ++ y600) := ⟨_, rfl⟩
        replace H : ((customhouseref01_Sum.f k2 t599).bind fun t606 => (if x8_1.length < 8796093022208 then (customhouseref03_Made.l0 k2 a0 a1 a2 y603 (x8_1 ++ [t606]) (wrap64 (x9_1 + 1))) else (none))) = some r := by first | (rw [hy603]; with_reducible exact H) | (have H2_ := (Option.bind_some _ _).symm.trans H; rw [hy603]; with_reducible exact H2_) | (have H2_ := (Option.bind_some _ _).symm.trans H; with_reducible exact H2_) | with_reducible exact H | (rw [hy603]; exact H) | exact H
        have Ny603 := Aside0.mk hy603
        clear hy603
        replace H := Option.bind_eq_some_iff.mp H
        obtain ⟨t606, A290, H⟩ := H
        replace H : (if x8_1.length < 8796093022208 then (customhouseref03_Made.l0 k2 a0 a1 a2 y603 (x8_1 ++ [t606]) (wrap64 (x9_1 + 1))) else (none)) = some r := H
        have A29 := Aside0.mk A290
        clear A290
        by_cases c30 : x8_1.length < 8796093022208
        ·rw [if_pos c30] at H
         have LMc30 := Aside0.mk c30
         clear c30
         obtain ⟨y607, hy607⟩ : ∃ y_ : List ByteArray, y_ = (x8_1 ++ [t606]) := ⟨_, rfl⟩
         replace H : (customhouseref03_Made.l0 k2 a0 a1 a2 y603 y607 (wrap64 (x9_1 + 1))) = some r := by first | (rw [hy607]; with_reducible exact H) | (have H2_ := (Option.bind_some _ _).symm.trans H; rw [hy607]; with_reducible exact H2_) | (have H2_ := (Option.bind_some _ _).symm.trans H; with_reducible exact H2_) | with_reducible exact H | (rw [hy607]; exact H) | exact H
         have Ny607 := Aside0.mk hy607
         clear hy607
         have H' := Aside0.mk H
         clear H
         obtain ⟨Ao31, co31, eo31⟩ := Kd.R_slice HO_10.out
         subst eo31
         go_wp2_with (first | ((with_reducible refine gate_callee (f := 54) rfl ?_); refine goesL_ (some 53) rfl rfl Tryz.func54 (by kernel_rfl) rfl #[.slice Ao31 x10_2.length co31] rfl (by (try simp only [List.map_toArray, List.map_cons, List.map_nil]); first | done | rfl | (simp only [List.length_drop, List.length_take]; rfl)) ?_; (with_reducible refine (customhouseref01_Joined.calls _ _ x10_2 t594 _ ?side1 ?side2 A25.out).mono ?_); (case side1 => repeat (first | exact (Kd.R_reads' HO_10.out).2.2 | (with_reducible refine Kd.C_alloc ?_ _) | (with_reducible refine Kd.C_drewN ?_ _) | (with_reducible refine Kd.C_drew ?_))); (case side2 => exact (Kd.R_reads' HO_10.out).2.1); rintro e w32 ⟨rfl, hb⟩; refine ⟨_, rfl, ?_⟩; have n0_ := Aside0.mk (Kd.R_below (by (with_reducible repeat (first | apply Kd.R_alloc | apply Kd.R_drewN | apply Kd.R_drew)); exact HO_7.out) hb); have n1_ := Aside0.mk (Kd.R_below (by (with_reducible repeat (first | apply Kd.R_alloc | apply Kd.R_drewN | apply Kd.R_drew)); exact HO_8.out) hb); have n2_ := Aside0.mk (Kd.R_below (by (with_reducible repeat (first | apply Kd.R_alloc | apply Kd.R_drewN | apply Kd.R_drew)); exact HO_10.out) hb); have n3_ := Aside0.mk (below_step (by repeat (first | (with_reducible first | exact HB.out | apply below_alloc | apply pw_below_drewN | apply below_drew1) | exact HB.out)) hb); clear HO_7; clear HO_8; clear HO_10; clear HB; have HO_7 := n0_; have HO_8 := n1_; have HO_10 := n2_; have HB := n3_; clear n0_ n1_ n2_ n3_; (try clear hb); (try clear hb2); (try clear hk); (try clear hi)) | ((with_reducible refine gate_callee (f := 49) rfl ?_); refine goesL_ (some 55) rfl rfl Tryz.func49 (by kernel_rfl) rfl #[.string t594] rfl (by (try simp only [List.map_toArray, List.map_cons, List.map_nil]); first | done | rfl | (simp only [List.length_drop, List.length_take]; rfl)) ?_; (with_reducible refine (customhouseref01_Sum.calls k2 t594 t595 _ A26.out).mono ?_); rintro e w' ⟨rfl, ⟨nd, rfl⟩⟩; refine ⟨_, rfl, ?_⟩) | ((with_reducible refine gate_dst (N := 56) rfl ?_); refine Kd.R_lit Kd.string _ 9 ?hg (N := 56) ?hd (xs := ([(⟨#[108, 101, 97, 102]⟩ : ByteArray), t595] : List ByteArray)) (inner := [.string (⟨#[108, 101, 97, 102]⟩ : ByteArray), .string t595]) (ok := fun _ => True) (okp := fun _ => True) ?hr ?hp (fun _ hk => hk) trivial (Below.refl _ _) (Nat.le_refl _) (by simp) ?_; (case hd => rfl); (case hg => rfl); (case hr => first | (go_simp; done) | (go_simp; rfl)); (case hp => exact (Reps.one (show Kd.M Kd.string _ _ _ (⟨#[108, 101, 97, 102]⟩ : ByteArray) [.string (⟨#[108, 101, 97, 102]⟩ : ByteArray)] from rfl) (Reps.one (show Kd.M Kd.string _ _ _ t595 [.string t595] from rfl) (Reps.none _ _)))); intro v597 w33 ho34 hb hg_ hnew_; clear hg_ hnew_; (first | rw [← Ny596.out] at ho34 | (simp only [Int.reduceToNat] at ho34; rw [← Ny596.out] at ho34)); have n0_ := Aside0.mk (Kd.R_elder' (by (with_reducible repeat (first | apply Kd.R_alloc | apply Kd.R_drewN | apply Kd.R_drew)); exact HO_7.out) (Kd.R_base ho34) hb); have n1_ := Aside0.mk (Kd.R_elder' (by (with_reducible repeat (first | apply Kd.R_alloc | apply Kd.R_drewN | apply Kd.R_drew)); exact HO_8.out) (Kd.R_base ho34) hb); have n2_ := Aside0.mk (Kd.R_elder' (by (with_reducible repeat (first | apply Kd.R_alloc | apply Kd.R_drewN | apply Kd.R_drew)); exact HO_10.out) (Kd.R_base ho34) hb); have n3_ := Aside0.mk (Kd.R_lower (Kd.R_new' (Kd.R_new' (Kd.R_new' ho34 (Kd.R_lt (by (with_reducible repeat (first | apply Kd.R_alloc | apply Kd.R_drewN | apply Kd.R_drew)); exact HO_7.out))) (Kd.R_lt (by (with_reducible repeat (first | apply Kd.R_alloc | apply Kd.R_drewN | apply Kd.R_drew)); exact HO_8.out))) (Kd.R_lt (by (with_reducible repeat (first | apply Kd.R_alloc | apply Kd.R_drewN | apply Kd.R_drew)); exact HO_10.out))) (below_size (by repeat (first | (with_reducible first | exact HB.out | apply below_alloc | apply pw_below_drewN | apply below_drew1) | exact HB.out)))); have n4_ := Aside0.mk (below_step (by repeat (first | (with_reducible first | exact HB.out | apply below_alloc | apply pw_below_drewN | apply below_drew1) | exact HB.out)) hb); clear HO_7; clear HO_8; clear HO_10; clear HB; have HO_7 := n0_; have HO_8 := n1_; have HO_10 := n2_; have HO598 := n3_; have HB := n4_; clear n0_ n1_ n2_ n3_ n4_; clear hb ho34; obtain ⟨Ao35, co35, eo35⟩ := Kd.R_slice HO598.out; subst eo35) | ((with_reducible refine gate_callee (f := 54) rfl ?_); refine goesL_ (some 57) rfl rfl Tryz.func54 (by kernel_rfl) rfl #[.slice Ao35 y596.length co35] rfl (by (try simp only [List.map_toArray, List.map_cons, List.map_nil]); first | done | rfl | (simp only [List.length_drop, List.length_take]; rfl)) ?_; (with_reducible refine (customhouseref01_Joined.calls _ _ y596 t599 _ ?side1 ?side2 A27.out).mono ?_); (case side1 => repeat (first | exact (Kd.R_reads' HO598.out).2.2 | (with_reducible refine Kd.C_alloc ?_ _) | (with_reducible refine Kd.C_drewN ?_ _) | (with_reducible refine Kd.C_drew ?_))); (case side2 => exact (Kd.R_reads' HO598.out).2.1); rintro e w36 ⟨rfl, hb⟩; refine ⟨_, rfl, ?_⟩; have n0_ := Aside0.mk (Kd.R_below (by (with_reducible repeat (first | apply Kd.R_alloc | apply Kd.R_drewN | apply Kd.R_drew)); exact HO_7.out) hb); have n1_ := Aside0.mk (Kd.R_below (by (with_reducible repeat (first | apply Kd.R_alloc | apply Kd.R_drewN | apply Kd.R_drew)); exact HO_8.out) hb); have n2_ := Aside0.mk (Kd.R_below (by (with_reducible repeat (first | apply Kd.R_alloc | apply Kd.R_drewN | apply Kd.R_drew)); exact HO_10.out) hb); have n3_ := Aside0.mk (Kd.R_below (by (with_reducible repeat (first | apply Kd.R_alloc | apply Kd.R_drewN | apply Kd.R_drew)); exact HO598.out) hb); have n4_ := Aside0.mk (below_step (by repeat (first | (with_reducible first | exact HB.out | apply below_alloc | apply pw_below_drewN | apply below_drew1) | exact HB.out)) hb); clear HO_7; clear HO_8; clear HO_10; clear HO598; clear HB; have HO_7 := n0_; have HO_8 := n1_; have HO_10 := n2_; have HO598 := n3_; have HB := n4_; clear n0_ n1_ n2_ n3_ n4_; (try clear hb); (try clear hb2); (try clear hk); (try clear hi)) | ((with_reducible refine gate_dst (N := 61) rfl ?_); refine Kd.R_lit Kd.string _ 9 ?hg (N := 61) ?hd (xs := ([t594, t599] : List ByteArray)) (inner := [.string t594, .string t599]) (ok := fun _ => True) (okp := fun _ => True) ?hr ?hp (fun _ hk => hk) trivial (Below.refl _ _) (Nat.le_refl _) (by simp) ?_; (case hd => rfl); (case hg => rfl); (case hr => first | (go_simp; done) | (go_simp; rfl)); (case hp => exact (Reps.one (show Kd.M Kd.string _ _ _ t594 [.string t594] from rfl) (Reps.one (show Kd.M Kd.string _ _ _ t599 [.string t599] from rfl) (Reps.none _ _)))); intro v601 w37 ho38 hb hg_ hnew_; clear hg_ hnew_; (first | rw [← Ny600.out] at ho38 | (simp only [Int.reduceToNat] at ho38; rw [← Ny600.out] at ho38)); have n0_ := Aside0.mk (Kd.R_elder' (by (with_reducible repeat (first | apply Kd.R_alloc | apply Kd.R_drewN | apply Kd.R_drew)); exact HO_7.out) (Kd.R_base ho38) hb); have n1_ := Aside0.mk (Kd.R_elder' (by (with_reducible repeat (first | apply Kd.R_alloc | apply Kd.R_drewN | apply Kd.R_drew)); exact HO_8.out) (Kd.R_base ho38) hb); have n2_ := Aside0.mk (Kd.R_elder' (by (with_reducible repeat (first | apply Kd.R_alloc | apply Kd.R_drewN | apply Kd.R_drew)); exact HO_10.out) (Kd.R_base ho38) hb); have n3_ := Aside0.mk (Kd.R_elder' (by (with_reducible repeat (first | apply Kd.R_alloc | apply Kd.R_drewN | apply Kd.R_drew)); exact HO598.out) (Kd.R_base ho38) hb); have n4_ := Aside0.mk (Kd.R_lower (Kd.R_new' (Kd.R_new' (Kd.R_new' (Kd.R_new' ho38 (Kd.R_lt (by (with_reducible repeat (first | apply Kd.R_alloc | apply Kd.R_drewN | apply Kd.R_drew)); exact HO_7.out))) (Kd.R_lt (by (with_reducible repeat (first | apply Kd.R_alloc | apply Kd.R_drewN | apply Kd.R_drew)); exact HO_8.out))) (Kd.R_lt (by (with_reducible repeat (first | apply Kd.R_alloc | apply Kd.R_drewN | apply Kd.R_drew)); exact HO_10.out))) (Kd.R_lt (by (with_reducible repeat (first | apply Kd.R_alloc | apply Kd.R_drewN | apply Kd.R_drew)); exact HO598.out))) (below_size (by repeat (first | (with_reducible first | exact HB.out | apply below_alloc | apply pw_below_drewN | apply below_drew1) | exact HB.out)))); have n5_ := Aside0.mk (below_step (by repeat (first | (with_reducible first | exact HB.out | apply below_alloc | apply pw_below_drewN | apply below_drew1) | exact HB.out)) hb); clear HO_7; clear HO_8; clear HO_10; clear HO598; clear HB; have HO_7 := n0_; have HO_8 := n1_; have HO_10 := n2_; have HO598 := n3_; have HO602 := n4_; have HB := n5_; clear n0_ n1_ n2_ n3_ n4_ n5_; clear hb ho38; obtain ⟨Ao40, co40, eo40⟩ := Kd.R_slice HO602.out; subst eo40) | ((with_reducible refine gate_builtin (b := .append) (xs := #[.tmp 58, .tmp 61]) rfl ?_); at_builtin; refine Kd.R_append_rows Kd.string (w0 := w) w.heap.size rfl (.tmp 58) (.tmp 61) 30 9 (.string ⟨#[]⟩) 16 rfl Tryz.underlying30 info9 rfl (by decide) (by omega) u7 x7_2 y600 _ _ _ (fun k_ => some k_ ≠ (u8 : Value).ownBlock ∧ some k_ ≠ (.slice Ao31 x10_2.length co31 : Value).ownBlock ∧ some k_ ≠ (.slice Ao35 y596.length co35 : Value).ownBlock ∧ some k_ ≠ (.slice Ao40 y600.length co40 : Value).ownBlock) (fun _ => False) rfl rfl ?aO ?aR (fun _ _ h => h) (fun _ h => h.elim) ?aF ?aB ?aS ?aL ?_; (case aR => repeat (first | exact (Kd.R_reads' HO602.out).2.2 | (with_reducible refine Kd.C_alloc ?_ _) | (with_reducible refine Kd.C_drewN ?_ _) | (with_reducible refine Kd.C_drew ?_))); (case aB => exact (by repeat (first | (with_reducible first | exact HB.out | apply below_alloc | apply pw_below_drewN | apply below_drew1) | exact HB.out))); (case aF => exact (fun k_ hk => ⟨Kd.fresh' (Kd.R_lt (by (with_reducible repeat (first | apply Kd.R_alloc | apply Kd.R_drewN | apply Kd.R_drew)); exact HO_8.out)) k_ hk, Kd.fresh' (Kd.R_lt (by (with_reducible repeat (first | apply Kd.R_alloc | apply Kd.R_drewN | apply Kd.R_drew)); exact HO_10.out)) k_ hk, Kd.fresh' (Kd.R_lt (by (with_reducible repeat (first | apply Kd.R_alloc | apply Kd.R_drewN | apply Kd.R_drew)); exact HO598.out)) k_ hk, Kd.fresh' (Kd.R_lt (by (with_reducible repeat (first | apply Kd.R_alloc | apply Kd.R_drewN | apply Kd.R_drew)); exact HO602.out)) k_ hk⟩)); (case aO => exact (by (with_reducible repeat (first | apply Kd.R_alloc | apply Kd.R_drewN | apply Kd.R_drew)); exact Kd.R_mono HO_7.out (fun _ hk => ⟨hk.1.1.1, ⟨hk.1.1.2, ⟨hk.1.2, hk.2⟩⟩⟩))); (case aS => exact (below_size (by repeat (first | (with_reducible first | exact HB.out | apply below_alloc | apply pw_below_drewN | apply below_drew1) | exact HB.out)))); (case aL => have := LMc28.out; omega); intro v604 w39 ho hb hg hat; rw [← Ny603.out] at ho; have n0_ := Aside0.mk (Kd.R_after (ok := (fun k_ => some k_ ≠ (.slice Ao31 x10_2.length co31 : Value).ownBlock ∧ some k_ ≠ (.slice Ao35 y596.length co35 : Value).ownBlock ∧ some k_ ≠ (.slice Ao40 y600.length co40 : Value).ownBlock)) (by (with_reducible repeat (first | apply Kd.R_alloc | apply Kd.R_drewN | apply Kd.R_drew)); exact Kd.R_mono HO_8.out (fun _ hk => ⟨⟨hk.1.1.2, ⟨hk.1.2, hk.2⟩⟩, hk.1.1.1⟩)) hg hat); have n1_ := Aside0.mk (Kd.R_after (ok := (fun k_ => some k_ ≠ (u8 : Value).ownBlock ∧ some k_ ≠ (.slice Ao35 y596.length co35 : Value).ownBlock ∧ some k_ ≠ (.slice Ao40 y600.length co40 : Value).ownBlock)) (by (with_reducible repeat (first | apply Kd.R_alloc | apply Kd.R_drewN | apply Kd.R_drew)); exact Kd.R_mono HO_10.out (fun _ hk => ⟨⟨hk.1.1.2, ⟨hk.1.2, hk.2⟩⟩, hk.1.1.1⟩)) hg hat); have n2_ := Aside0.mk (Kd.R_after (ok := (fun k_ => some k_ ≠ (u8 : Value).ownBlock ∧ some k_ ≠ (.slice Ao31 x10_2.length co31 : Value).ownBlock ∧ some k_ ≠ (.slice Ao40 y600.length co40 : Value).ownBlock)) (by (with_reducible repeat (first | apply Kd.R_alloc | apply Kd.R_drewN | apply Kd.R_drew)); exact Kd.R_mono HO598.out (fun _ hk => ⟨⟨hk.1.1.2, ⟨hk.1.2, hk.2⟩⟩, hk.1.1.1.2⟩)) hg hat); have n3_ := Aside0.mk (Kd.R_after (ok := (fun k_ => some k_ ≠ (u8 : Value).ownBlock ∧ some k_ ≠ (.slice Ao31 x10_2.length co31 : Value).ownBlock ∧ some k_ ≠ (.slice Ao35 y596.length co35 : Value).ownBlock)) (by (with_reducible repeat (first | apply Kd.R_alloc | apply Kd.R_drewN | apply Kd.R_drew)); exact Kd.R_mono HO602.out (fun _ hk => ⟨⟨hk.1.1.2, ⟨hk.1.2, hk.2⟩⟩, hk.1.1.1.2⟩)) hg hat); have n4_ := Aside0.mk (hb); have n5_ := Aside0.mk (ho); clear HO_8; clear HO_10; clear HO598; clear HO602; clear HB; clear HO_7; have HO_8 := n0_; have HO_10 := n1_; have HO598 := n2_; have HO602 := n3_; have HB := n4_; have HO605 := n5_; clear n0_ n1_ n2_ n3_ n4_ n5_; clear ho hb hg hat) | ((with_reducible refine gate_callee (f := 49) rfl ?_); refine goesL_ (some 65) rfl rfl Tryz.func49 (by kernel_rfl) rfl #[.string t599] rfl (by (try simp only [List.map_toArray, List.map_cons, List.map_nil]); first | done | rfl | (simp only [List.length_drop, List.length_take]; rfl)) ?_; (with_reducible refine (customhouseref01_Sum.calls k2 t599 t606 _ A29.out).mono ?_); rintro e w' ⟨rfl, ⟨nd, rfl⟩⟩; refine ⟨_, rfl, ?_⟩) | ((with_reducible refine gate_builtin (b := .append) (xs := #[.tmp 63, .tmp 66]) rfl ?_); at_builtin; refine Kd.R_append Kd.string (w0 := w) w.heap.size rfl (.tmp 63) (.tmp 66) 30 9 (.string ⟨#[]⟩) 16 rfl Tryz.underlying30 info9 rfl (by decide) (by omega) u8 x8_1 t606 [.string t606] (fun k_ => some k_ ≠ (.slice Ao31 x10_2.length co31 : Value).ownBlock ∧ some k_ ≠ (.slice Ao35 y596.length co35 : Value).ownBlock ∧ some k_ ≠ (.slice Ao40 y600.length co40 : Value).ownBlock ∧ some k_ ≠ (v604 : Value).ownBlock) (fun _ => False) rfl rfl ?aP (fun _ hk => hk.elim) ?aF ?aO ?aB ?aS ?aL ?_; (case aP => exact rfl); (case aB => exact (by repeat (first | (with_reducible first | exact HB.out | apply below_alloc | apply pw_below_drewN | apply below_drew1) | exact HB.out))); (case aF => exact (fun k_ hk => ⟨Kd.fresh' (Kd.R_lt (by (with_reducible repeat (first | apply Kd.R_alloc | apply Kd.R_drewN | apply Kd.R_drew)); exact HO_10.out)) k_ hk, Kd.fresh' (Kd.R_lt (by (with_reducible repeat (first | apply Kd.R_alloc | apply Kd.R_drewN | apply Kd.R_drew)); exact HO598.out)) k_ hk, Kd.fresh' (Kd.R_lt (by (with_reducible repeat (first | apply Kd.R_alloc | apply Kd.R_drewN | apply Kd.R_drew)); exact HO602.out)) k_ hk, Kd.fresh' (Kd.R_lt (by (with_reducible repeat (first | apply Kd.R_alloc | apply Kd.R_drewN | apply Kd.R_drew)); exact HO605.out)) k_ hk⟩)); (case aO => exact (by (with_reducible repeat (first | apply Kd.R_alloc | apply Kd.R_drewN | apply Kd.R_drew)); exact Kd.R_mono HO_8.out (fun _ hk => ⟨hk.1.1, ⟨hk.1.2.1, ⟨hk.1.2.2, hk.2⟩⟩⟩))); (case aS => exact (below_size (by repeat (first | (with_reducible first | exact HB.out | apply below_alloc | apply pw_below_drewN | apply below_drew1) | exact HB.out)))); (case aL => have := LMc30.out; omega); intro v608 w41 ho hb hg hat; rw [← Ny607.out] at ho; have n0_ := Aside0.mk (Kd.R_after (ok := (fun k_ => some k_ ≠ (.slice Ao35 y596.length co35 : Value).ownBlock ∧ some k_ ≠ (.slice Ao40 y600.length co40 : Value).ownBlock ∧ some k_ ≠ (v604 : Value).ownBlock)) (by (with_reducible repeat (first | apply Kd.R_alloc | apply Kd.R_drewN | apply Kd.R_drew)); exact Kd.R_mono HO_10.out (fun _ hk => ⟨⟨hk.1.2.1, ⟨hk.1.2.2, hk.2⟩⟩, hk.1.1⟩)) hg hat); have n1_ := Aside0.mk (Kd.R_after (ok := (fun k_ => some k_ ≠ (.slice Ao31 x10_2.length co31 : Value).ownBlock ∧ some k_ ≠ (.slice Ao40 y600.length co40 : Value).ownBlock ∧ some k_ ≠ (v604 : Value).ownBlock)) (by (with_reducible repeat (first | apply Kd.R_alloc | apply Kd.R_drewN | apply Kd.R_drew)); exact Kd.R_mono HO598.out (fun _ hk => ⟨⟨hk.1.2.1, ⟨hk.1.2.2, hk.2⟩⟩, hk.1.1⟩)) hg hat); have n2_ := Aside0.mk (Kd.R_after (ok := (fun k_ => some k_ ≠ (.slice Ao31 x10_2.length co31 : Value).ownBlock ∧ some k_ ≠ (.slice Ao35 y596.length co35 : Value).ownBlock ∧ some k_ ≠ (v604 : Value).ownBlock)) (by (with_reducible repeat (first | apply Kd.R_alloc | apply Kd.R_drewN | apply Kd.R_drew)); exact Kd.R_mono HO602.out (fun _ hk => ⟨⟨hk.1.2.1, ⟨hk.1.2.2, hk.2⟩⟩, hk.1.1⟩)) hg hat); have n3_ := Aside0.mk (Kd.R_after (ok := (fun k_ => some k_ ≠ (.slice Ao31 x10_2.length co31 : Value).ownBlock ∧ some k_ ≠ (.slice Ao35 y596.length co35 : Value).ownBlock ∧ some k_ ≠ (.slice Ao40 y600.length co40 : Value).ownBlock)) (by (with_reducible repeat (first | apply Kd.R_alloc | apply Kd.R_drewN | apply Kd.R_drew)); exact Kd.R_mono HO605.out (fun _ hk => ⟨⟨hk.2.1, ⟨hk.2.2.1, hk.2.2.2⟩⟩, hk.1⟩)) hg hat); have n4_ := Aside0.mk (hb); have n5_ := Aside0.mk (ho); clear HO_10; clear HO598; clear HO602; clear HO605; clear HB; clear HO_8; have HO_10 := n0_; have HO598 := n1_; have HO602 := n2_; have HO605 := n3_; have HB := n4_; have HO609 := n5_; clear n0_ n1_ n2_ n3_ n4_ n5_; clear ho hb hg hat))
         go_roundg k2
         case measure => have := HK1.out; have := HK2.out; omega
         case rel => exact ⟨(y603), (y607), (wrap64 (x9_1 + 1)), (by first | rfl | (simp; done) | (simp [*]; done)), H', ⟨by have := HK1.out; have := HK2.out; omega⟩, ⟨by (with_reducible repeat (first | apply Kd.R_alloc | apply Kd.R_drewN | apply Kd.R_drew)); exact Kd.R_mono HO605.out (fun _ hk => hk.2)⟩, ⟨by (with_reducible repeat (first | apply Kd.R_alloc | apply Kd.R_drewN | apply Kd.R_drew)); exact Kd.R_mono HO609.out (fun _ hk => hk.2.2.2)⟩, ⟨by repeat (first | (with_reducible first | exact HB.out | apply below_alloc | apply pw_below_drewN | apply below_drew1) | exact HB.out)⟩⟩
        ·rw [if_neg c30] at H
         exact absurd H (by simp)
       ·rw [if_neg c28] at H
        exact absurd H (by simp)
   ·rw [if_neg c5] at H
    have c5b0 : decide (x9_1 < t573) = false := decide_eq_false c5
    clear c5
    have H' := Aside0.mk H
    clear H
    go_wp2_with (first | ((with_reducible refine gate_callee (f := 107) rfl ?_); refine goesL_ (some 20) rfl rfl Tryz.func107 (by kernel_rfl) rfl #[.int .i64 a1] rfl (by (try simp only [List.map_toArray, List.map_cons, List.map_nil]); first | done | rfl | (simp only [List.length_drop, List.length_take]; rfl)) ?_; (with_reducible refine (customhouseref03_Power.calls k1 a1 t573 _ A4.out).mono ?_); rintro e w' ⟨rfl, ⟨nd, rfl⟩⟩; refine ⟨_, rfl, ?_⟩))
    go_loopg [7, 8] k1 (fun kq v7 v8 w' => ∃ (x7_2 : List ByteArray) (x8_2 : List ByteArray), Aside0 (customhouseref03_Made.l2 kq x7_2 x8_2 = some r) ∧ Aside0 (kq ≤ k1) ∧ Aside0 (Kd.R Kd.string 9 w' w.heap.size (fun k_ => some k_ ≠ (v8 : Value).ownBlock) v7 x7_2) ∧ Aside0 (Kd.R Kd.string 9 w' w.heap.size (fun k_ => some k_ ≠ (v7 : Value).ownBlock) v8 x8_2) ∧ Aside0 (Below w.heap.size w w'))
    case atStart => exact ⟨(x7_1), (x8_1), H', ⟨Nat.le_refl _⟩, ⟨by (with_reducible repeat (first | apply Kd.R_alloc | apply Kd.R_drewN | apply Kd.R_drew)); exact HO_7.out⟩, ⟨by (with_reducible repeat (first | apply Kd.R_alloc | apply Kd.R_drewN | apply Kd.R_drew)); exact HO_8.out⟩, ⟨by repeat (first | (with_reducible first | exact HB.out | apply below_alloc | apply pw_below_drewN | apply below_drew1) | exact HB.out)⟩⟩
    case round =>
     clear H'
     try clear c1
     try clear c2
     try clear p2
     try clear c3
     try clear c4
     try clear c5
     try clear c5b0
     try clear p5
     try clear q5
     try clear hx5
     try clear qi5
     try clear c6
     try clear c6b0
     try clear p6
     try clear c10
     try clear c11
     try clear c13
     try clear c14
     try clear c14b0
     try clear c14b1
     try clear c15
     try clear c28
     try clear c30
     try clear hx590_0
     try clear p2
     try clear p590
     try clear q590
     obtain ⟨x7_2, x8_2, HA, HK2, HO_7, HO_8, HB⟩ := hrel
     cases gk with
     | zero => exact absurd HA.out (by simp [customhouseref03_Made.l2])
     | succ k2 =>
      have H := HA.out; clear HA
      simp only [customhouseref03_Made.l2] at H
      by_cases c42 : (x8_2.length : Int) > 1
      ·rw [if_pos c42] at H
       have c42b0 : decide (1 < (x8_2.length : Int)) = true := decide_eq_true c42
       have c42b1 : decide (1 < x8_2.length) = true := decide_eq_true (by omega)
       clear c42
       have H' := Aside0.mk H
       clear H
       obtain ⟨Ao43, co43, eo43⟩ := Kd.R_slice HO_8.out
       subst eo43; go_wp2
       go_loopg [7, 16, 17] k2 (fun kq v7 v16 v17 w' => ∃ (x7_3 : List ByteArray) (x16_3 : List ByteArray) (x17_3 : Int), v17 = .int .i64 x17_3 ∧ Aside0 (customhouseref03_Made.l3 kq x7_3 x8_2 x16_3 x17_3 = some r) ∧ Aside0 (kq ≤ k2) ∧ Aside0 (Kd.R Kd.string 9 w' w.heap.size (fun k_ => some k_ ≠ ((.slice Ao43 x8_2.length co43) : Value).ownBlock ∧ some k_ ≠ (v16 : Value).ownBlock) v7 x7_3) ∧ Aside0 (Kd.R Kd.string 9 w' w.heap.size (fun k_ => some k_ ≠ (v7 : Value).ownBlock ∧ some k_ ≠ (v16 : Value).ownBlock) (.slice Ao43 x8_2.length co43) x8_2) ∧ Aside0 (Kd.R Kd.string 9 w' w.heap.size (fun k_ => some k_ ≠ (v7 : Value).ownBlock ∧ some k_ ≠ ((.slice Ao43 x8_2.length co43) : Value).ownBlock) v16 x16_3) ∧ Aside0 (Below w.heap.size w w'))
       case atStart => exact ⟨(x7_2), (([] : List ByteArray)), (0), (by first | rfl | (simp; done) | (simp [*]; done)), H', ⟨Nat.le_refl _⟩, ⟨by (with_reducible repeat (first | apply Kd.R_alloc | apply Kd.R_drewN | apply Kd.R_drew)); exact Kd.R_mono HO_7.out (fun _ hk => ⟨hk, (by simp [Value.ownBlock])⟩)⟩, ⟨by (with_reducible repeat (first | apply Kd.R_alloc | apply Kd.R_drewN | apply Kd.R_drew)); exact Kd.R_mono HO_8.out (fun _ hk => ⟨hk, (by simp [Value.ownBlock])⟩)⟩, ⟨by first | exact Kd.R_nil _ _ _ _ _ | exact Kd.N_nil _ _ _ _ _ | exact Kd.V_nil _ _ _ _ _ | exact Kd.Q_nil _ _ _ _ _ | exact Kd.S_nil _ _ _ _ _⟩, ⟨by repeat (first | (with_reducible first | exact HB.out | apply below_alloc | apply pw_below_drewN | apply below_drew1) | exact HB.out)⟩⟩
       case round =>
        clear H'
        try clear c1
        try clear c2
        try clear p2
        try clear c3
        try clear c4
        try clear c5
        try clear c5b0
        try clear p5
        try clear q5
        try clear hx5
        try clear qi5
        try clear c6
        try clear c6b0
        try clear p6
        try clear c10
        try clear c11
        try clear c13
        try clear c14
        try clear c14b0
        try clear c14b1
        try clear c15
        try clear c28
        try clear c30
        try clear c42
        try clear c42b0
        try clear c42b1
        try clear hx590_0
        try clear p2
        try clear p5
        try clear p590
        try clear p6
        try clear q5
        try clear q590
        obtain ⟨x7_3, x16_3, x17_3, rfl, HA, HK3, HO_7, HO_8, HO_16, HB⟩ := hrel
        cases gk with
        | zero => exact absurd HA.out (by simp [customhouseref03_Made.l3])
        | succ k3 =>
         have H := HA.out; clear HA
         simp only [customhouseref03_Made.l3] at H
         by_cases c44 : (wrap64 (x17_3 + 1)) < (x8_2.length : Int)
         ·rw [if_pos c44] at H
          have c44b0 : decide ((wrap64 (x17_3 + 1)) < (x8_2.length : Int)) = true := decide_eq_true c44
          clear c44
          by_cases c45 : 0 ≤ x17_3
          ·rw [if_pos c45] at H
           have c45b0 : decide (0 ≤ x17_3) = true := decide_eq_true c45
           clear c45
           by_cases c46 : x17_3 < (x8_2.length : Int)
           ·rw [if_pos c46] at H
            have c46b0 : decide (x17_3 < (x8_2.length : Int)) = true := decide_eq_true c46
            clear c46
            obtain ⟨ji47, hji47⟩ : ∃ j_ : Int, (wrap64 (x17_3 + 1)) = j_ := ⟨_, rfl⟩
            replace H : (if 0 ≤ (ji47) then ((customhouseref03_node.f (rdOf ByteArray.empty x8_2 x17_3) (rdOf ByteArray.empty x8_2 (ji47))).bind fun t612 => (if x7_3.length < 8796093022208 then ((customhouseref03_node.f (rdOf ByteArray.empty x8_2 x17_3) (rdOf ByteArray.empty x8_2 (ji47))).bind fun t618 => ((customhouseref01_Sum.f k3 t618).bind fun t619 => (if x16_3.length < 8796093022208 then (customhouseref03_Made.l3 k3 (x7_3 ++ [t612]) x8_2 (x16_3 ++ [t619]) (wrap64 (x17_3 + 2))) else (none)))) else (none))) else (none)) = some r := by first | (rw [hji47] at H; exact H) | (simp only [hji47] at H ⊢; exact H)
            (try rw [hji47] at c44b0)
            have hji47w : (IntKind.i64.wrap (x17_3 + 1)) = ji47 := (i64_w _).trans hji47
            by_cases c48 : 0 ≤ (ji47)
            ·rw [if_pos c48] at H
             have c48b0 : decide (0 ≤ (ji47)) = true := decide_eq_true c48
             clear c48
             replace H := Option.bind_eq_some_iff.mp H
             obtain ⟨t612, A490, H⟩ := H
             replace H : (if x7_3.length < 8796093022208 then ((customhouseref03_node.f (rdOf ByteArray.empty x8_2 x17_3) (rdOf ByteArray.empty x8_2 (ji47))).bind fun t618 => ((customhouseref01_Sum.f k3 t618).bind fun t619 => (if x16_3.length < 8796093022208 then (customhouseref03_Made.l3 k3 (x7_3 ++ [t612]) x8_2 (x16_3 ++ [t619]) (wrap64 (x17_3 + 2))) else (none)))) else (none)) = some r := H
             have A49 := Aside0.mk A490
             clear A490
             by_cases c50 : x7_3.length < 8796093022208
             ·rw [if_pos c50] at H
              have LMc50 := Aside0.mk c50
              clear c50
              obtain ⟨y613, hy613⟩ : ∃ y_ : List ByteArray, y_ = (x7_3 ++ [t612]) := ⟨_, rfl⟩
              replace H : ((customhouseref03_node.f (rdOf ByteArray.empty x8_2 x17_3) (rdOf ByteArray.empty x8_2 (ji47))).bind fun t618 => ((customhouseref01_Sum.f k3 t618).bind fun t619 => (if x16_3.length < 8796093022208 then (customhouseref03_Made.l3 k3 y613 x8_2 (x16_3 ++ [t619]) (wrap64 (x17_3 + 2))) else (none)))) = some r := by first | (rw [hy613]; with_reducible exact H) | (have H2_ := (Option.bind_some _ _).symm.trans H; rw [hy613]; with_reducible exact H2_) | (have H2_ := (Option.bind_some _ _).symm.trans H; with_reducible exact H2_) | with_reducible exact H | (rw [hy613]; exact H) | exact H
              have Ny613 := Aside0.mk hy613
              clear hy613
              replace H := Option.bind_eq_some_iff.mp H
              obtain ⟨t618, A510, H⟩ := H
              replace H : ((customhouseref01_Sum.f k3 t618).bind fun t619 => (if x16_3.length < 8796093022208 then (customhouseref03_Made.l3 k3 y613 x8_2 (x16_3 ++ [t619]) (wrap64 (x17_3 + 2))) else (none))) = some r := H
              have A51 := Aside0.mk A510
              clear A510
              obtain rfl := Option.some.inj (A49.out.symm.trans A51.out)
              replace H := Option.bind_eq_some_iff.mp H
              obtain ⟨t619, A520, H⟩ := H
              replace H : (if x16_3.length < 8796093022208 then (customhouseref03_Made.l3 k3 y613 x8_2 (x16_3 ++ [t619]) (wrap64 (x17_3 + 2))) else (none)) = some r := H
              have A52 := Aside0.mk A520
              clear A520
              by_cases c53 : x16_3.length < 8796093022208
              ·rw [if_pos c53] at H
               have LMc53 := Aside0.mk c53
               clear c53
               obtain ⟨y620, hy620⟩ : ∃ y_ : List ByteArray, y_ = (x16_3 ++ [t619]) := ⟨_, rfl⟩
               replace H : (customhouseref03_Made.l3 k3 y613 x8_2 y620 (wrap64 (x17_3 + 2))) = some r := by first | (rw [hy620]; with_reducible exact H) | (have H2_ := (Option.bind_some _ _).symm.trans H; rw [hy620]; with_reducible exact H2_) | (have H2_ := (Option.bind_some _ _).symm.trans H; with_reducible exact H2_) | with_reducible exact H | (rw [hy620]; exact H) | exact H
               have Ny620 := Aside0.mk hy620
               clear hy620
               have H' := Aside0.mk H
               clear H
               try go_wp2
               have n0_ := Aside0.mk (Kd.R_drew HO_7.out)
               have n1_ := Aside0.mk (Kd.R_drew HO_8.out)
               have n2_ := Aside0.mk (Kd.R_drew HO_16.out)
               have n3_ := Aside0.mk (below_drew1 HB.out)
               clear HO_7; clear HO_8; clear HO_16; clear HB; have HO_7 := n0_; have HO_8 := n1_; have HO_16 := n2_; have HB := n3_; clear n0_ n1_ n2_ n3_
               have p610 : 0 ≤ (x17_3 : Int) := of_decide_eq_true (by first | (with_reducible assumption) | assumption)
               have q610 : x17_3 < (x8_2.length : Int) := of_decide_eq_true (by first | (with_reducible assumption) | assumption)
               obtain ⟨ad610, e610, hx610_0⟩ := Kd.at_string (Kd.R_reads' HO_8.out).2.2 x17_3 p610 q610
               cases e610
               replace p610 := eq_true p610
               replace q610 := eq_true q610
               have p611 : 0 ≤ ((ji47) : Int) := of_decide_eq_true (by first | (with_reducible assumption) | assumption)
               have q611 : (ji47) < (x8_2.length : Int) := of_decide_eq_true (by first | (with_reducible assumption) | assumption)
               obtain ⟨ad611, e611, hx611_0⟩ := Kd.at_string (Kd.R_reads' HO_8.out).2.2 (ji47) p611 q611
               obtain rfl : ad610 = ad611 := (by injection e611)
               replace p611 := eq_true p611
               replace q611 := eq_true q611
               refine start_ (n := 14) (S := fun w' => w'.cell? (ad610.add (x17_3).toNat) = some (.string (rdOf ByteArray.empty x8_2 x17_3)) ∧ w'.cell? (ad610.add ((ji47)).toNat) = some (.string (rdOf ByteArray.empty x8_2 (ji47)))) (ds := [11, 12]) (fT 0 14) (by kernel_rfl) rfl rfl ⟨hx610_0, hx611_0⟩ (fun hHeld => ?_); refine with_tabW customhouseref03_Made.tab24 customhouseref03_Made.bits24 (fun HT_ HW_ => ?_)
               generalize wr.drew = w54 at HO_7 HO_8 HO_16 HB hx610_0 hx611_0 hHeld ⊢
               refine pure_ (i := 0) (N := some 78) (v := ?_) (a' := ?_) (fT 1 14) rfl rfl (any_of HT_.out (by kernel_rfl)) (fun _ _ _ h => h) (Or.inl ⟨by rfl, ?_⟩) ?_ ?_
               rotate_left
               ·intro w'; go_simp; with_reducible rfl
               rotate_left
               ·simp only [Act.put, sq1, sq2, sq3, i64_w, i32_w]; rfl
               refine pure_ (i := 1) (N := some 79) (v := ?_) (a' := ?_) (fT 2 14) rfl rfl (any_of HT_.out (by kernel_rfl)) (fun _ _ _ h => h) (Or.inl ⟨by rfl, ?_⟩) ?_ ?_
               rotate_left
               ·intro w'; go_simp; with_reducible rfl
               rotate_left
               ·simp only [Act.put, sq1, sq2, sq3, i64_w, i32_w]; rfl
               refine pure_ (i := 2) (N := some 80) (v := ?_) (a' := ?_) (fT 3 14) rfl rfl (any_of HT_.out (by kernel_rfl)) (fun _ _ _ h => h) (Or.inl ⟨by rfl, ?_⟩) ?_ ?_
               rotate_left
               ·intro w'; go_simp; with_reducible rfl
               rotate_left
               ·simp only [Act.put, sq1, sq2, sq3, i64_w, i32_w]; rfl
               refine pure_ (i := 3) (N := some 81) (v := ?_) (a' := ?_) (fT 4 14) rfl rfl (any_of HT_.out (by kernel_rfl)) (fun _ _ _ h => h) (Or.inl ⟨by rfl, ?_⟩) ?_ ?_
               rotate_left
               ·intro w'; go_simp; with_reducible rfl
               rotate_left
               ·simp only [Act.put, sq1, sq2, sq3, i64_w, i32_w]; rfl
               refine pure_ (i := 5) (N := some 83) (v := ?_) (a' := ?_) #[tt,tt,tt,tt,ff,tt,ff,ff,ff,ff,ff,ff,ff,ff] rfl rfl (any_of HT_.out (by kernel_rfl)) (fun _ _ _ h => h) (Or.inl ⟨by rfl, ?_⟩) ?_ ?_
               rotate_left
               ·intro w'; go_simp; with_reducible rfl
               rotate_left
               ·simp only [Act.put, sq1, sq2, sq3, i64_w, i32_w]; rfl
               refine pure_ (i := 6) (N := some 84) (v := ?_) (a' := ?_) #[tt,tt,tt,tt,ff,tt,tt,ff,ff,ff,ff,ff,ff,ff] rfl rfl (any_of HT_.out (by kernel_rfl)) (fun _ _ _ h => h) (Or.inl ⟨by rfl, ?_⟩) ?_ ?_
               rotate_left
               ·intro w'; go_simp; with_reducible rfl
               rotate_left
               ·simp only [Act.put, sq1, sq2, sq3, i64_w, i32_w]; rfl
               refine pure_ (i := 7) (N := some 85) (v := ?_) (a' := ?_) #[tt,tt,tt,tt,ff,tt,tt,tt,ff,ff,ff,ff,ff,ff] rfl rfl (any_of HT_.out (by kernel_rfl)) (fun _ _ _ h => h) (Or.inl ⟨by rfl, ?_⟩) ?_ ?_
               rotate_left
               ·intro w'; go_simp; with_reducible rfl
               rotate_left
               ·simp only [Act.put, sq1, sq2, sq3, i64_w, i32_w]; rfl
               refine pure_ (i := 8) (N := some 86) (v := ?_) (a' := ?_) #[tt,tt,tt,tt,ff,tt,tt,tt,tt,ff,ff,ff,ff,ff] rfl rfl (any_of HT_.out (by kernel_rfl)) (fun _ _ _ h => h) (Or.inl ⟨by rfl, ?_⟩) ?_ ?_
               rotate_left
               ·intro w'; go_simp; with_reducible rfl
               rotate_left
               ·simp only [Act.put, sq1, sq2, sq3, i64_w, i32_w]; rfl
               refine take_ (i := 4) (N := some 82) (v := ?_) (a' := ?_) (fT 9 14) rfl rfl (take_ofW HT_.out HW_.out (by kernel_rfl)) (fun _ _ _ h => h) (Or.inl ⟨by rfl, ?_⟩) hHeld ?_ ?_
               rotate_left
               ·rintro w' ⟨s0, s1⟩; go_simp; with_reducible rfl
               rotate_left
               ·simp only [Act.put, sq1, sq2, sq3, i64_w, i32_w]; rfl
               refine take_ (i := 9) (N := some 87) (v := ?_) (a' := ?_) (fT 10 14) rfl rfl (take_ofW HT_.out HW_.out (by kernel_rfl)) (fun _ _ _ h => h) (Or.inl ⟨by rfl, ?_⟩) hHeld ?_ ?_
               rotate_left
               ·rintro w' ⟨s0, s1⟩; go_simp; with_reducible rfl
               rotate_left
               ·simp only [Act.put, sq1, sq2, sq3, i64_w, i32_w]; rfl
               refine one_ (i := 10) (N := some 88) (fT 11 14) rfl rfl (one_of HT_.out (by kernel_rfl)) (by decide) (fun K hK => ?_)
               refine goes_ Tryz.func119 (by kernel_rfl) rfl #[.string (rdOf ByteArray.empty x8_2 x17_3), .string (rdOf ByteArray.empty x8_2 (ji47))] (by rfl) rfl rfl (by (try simp only [List.map_toArray, List.map_cons, List.map_nil]); first | done | (simp only [hji47]; rfl) | rfl | (simp only [List.length_drop, List.length_take]; rfl)) ?_
               with_reducible refine (customhouseref03_node.calls (rdOf ByteArray.empty x8_2 x17_3) (rdOf ByteArray.empty x8_2 (ji47)) t612 _ A49.out).mono ?_
               rintro e w55 ⟨rfl, hb⟩
               have HS0_ := (hb.cell (World.block_lt_of_cell? _ _ (hHeld.1))).trans (hHeld.1)
               have HS1_ := (hb.cell (World.block_lt_of_cell? _ _ (hHeld.2))).trans (hHeld.2)
               refine ⟨_, rfl, ?_⟩
               have n0_ := Aside0.mk (Kd.R_below (by (with_reducible repeat (first | apply Kd.R_alloc | apply Kd.R_drewN | apply Kd.R_drew)); exact HO_7.out) hb)
               have n1_ := Aside0.mk (Kd.R_below (by (with_reducible repeat (first | apply Kd.R_alloc | apply Kd.R_drewN | apply Kd.R_drew)); exact HO_8.out) hb)
               have n2_ := Aside0.mk (Kd.R_below (by (with_reducible repeat (first | apply Kd.R_alloc | apply Kd.R_drewN | apply Kd.R_drew)); exact HO_16.out) hb)
               have n3_ := Aside0.mk (below_step (by repeat (first | (with_reducible first | exact HB.out | apply below_alloc | apply pw_below_drewN | apply below_drew1) | exact HB.out)) hb)
               clear HO_7; clear HO_8; clear HO_16; clear HB; have HO_7 := n0_; have HO_8 := n1_; have HO_16 := n2_; have HB := n3_; clear n0_ n1_ n2_ n3_
               (try clear hb)
               (try clear hb2)
               (try clear hk)
               (try clear hi)
               refine hK.out _ _ ⟨HS0_, HS1_⟩ (fun hHeld => ?_)
               clear hK K
               refine norm_ (a' := ?_) ?_ ?_
               rotate_left
               ·show Act.put _ (some 88) _ = _
                simp only [Act.put, sq1, sq2, sq3, i64_w, i32_w]; rfl
               refine last_ (i := 11) (N := some 89) (fT 12 14) rfl rfl (one_of HT_.out (by kernel_rfl)) (by decide) (fun K hK => ?_)
               refine value_ (w1 := ?_) (v := ?_) (by rfl) rfl ?_ ?_
               rotate_left 2
               ·go_simp
                constructor
                ·rfl
                ·rfl
               refine hK.out _ _ ?_
               clear hK K
               refine norm_ (a' := ?_) ?_ ?_
               rotate_left
               ·show Act.put _ (some 89) _ = _
                simp only [Act.put, sq1, sq2, sq3, i64_w, i32_w]; rfl
               refine last_ (i := 12) (N := some 90) (fT 13 14) rfl rfl (one_of HT_.out (by kernel_rfl)) (by decide) (fun K hK => ?_)
               refine Kd.R_append_step Kd.string (w0 := w) w.heap.size (by rfl) (.tmp 78) (.tmp 89) 30 9 (.string ⟨#[]⟩) 16 rfl Tryz.underlying30 info9 rfl (by decide) (by omega) u7 x7_3 t612 [.string t612] (fun k_ => some k_ ≠ (.slice (some ad610) x8_2.length co43 : Value).ownBlock ∧ some k_ ≠ (u16 : Value).ownBlock) (fun _ => False) rfl rfl ?aP (fun _ hk => hk.elim) ?aF ?aO ?aB ?aS ?aL ?_
               (case aP => exact rfl)
               (case aB => exact (by repeat (first | (with_reducible first | exact HB.out | apply below_alloc | apply pw_below_drewN | apply below_drew1) | exact HB.out)))
               (case aF => exact (fun k_ hk => ⟨Kd.fresh' (Kd.R_lt (by (with_reducible repeat (first | apply Kd.R_alloc | apply Kd.R_drewN | apply Kd.R_drew)); exact HO_8.out)) k_ hk, Kd.fresh' (Kd.R_lt (by (with_reducible repeat (first | apply Kd.R_alloc | apply Kd.R_drewN | apply Kd.R_drew)); exact HO_16.out)) k_ hk⟩))
               (case aO => exact (by (with_reducible repeat (first | apply Kd.R_alloc | apply Kd.R_drewN | apply Kd.R_drew)); exact HO_7.out))
               (case aS => exact (below_size (by repeat (first | (with_reducible first | exact HB.out | apply below_alloc | apply pw_below_drewN | apply below_drew1) | exact HB.out))))
               (case aL => have := LMc50.out; omega)
               intro v614 w56 ho hb hg hat
               rw [← Ny613.out] at ho
               have n0_ := Aside0.mk (Kd.R_after (ok := (fun k_ => some k_ ≠ (u16 : Value).ownBlock)) (by (with_reducible repeat (first | apply Kd.R_alloc | apply Kd.R_drewN | apply Kd.R_drew)); exact Kd.R_mono HO_8.out (fun _ hk => ⟨hk.2, hk.1⟩)) hg hat)
               have n1_ := Aside0.mk (Kd.R_after (ok := (fun k_ => some k_ ≠ (.slice (some ad610) x8_2.length co43 : Value).ownBlock)) (by (with_reducible repeat (first | apply Kd.R_alloc | apply Kd.R_drewN | apply Kd.R_drew)); exact Kd.R_mono HO_16.out (fun _ hk => ⟨hk.2, hk.1⟩)) hg hat)
               have n2_ := Aside0.mk (hb)
               have n3_ := Aside0.mk (ho)
               clear HO_8; clear HO_16; clear HB; clear HO_7; have HO_8 := n0_; have HO_16 := n1_; have HB := n2_; have HO615 := n3_; clear n0_ n1_ n2_ n3_; clear ho hb hg hat
               refine hK.out _ _ ?_
               clear hK K
               refine norm_ (a' := ?_) ?_ ?_
               rotate_left
               ·show Act.put _ (some 90) _ = _
                simp only [Act.put, sq1, sq2, sq3, i64_w, i32_w]; rfl
               refine pure_ (i := 13) (N := some 7) (v := ?_) (a' := ?_) (fT 14 14) rfl rfl (any_of HT_.out (by kernel_rfl)) (fun _ _ _ h => h) (Or.inl ⟨by rfl, ?_⟩) ?_ ?_
               rotate_left
               ·intro w'; go_simp; with_reducible rfl
               rotate_left
               ·simp only [Act.put, sq1, sq2, sq3, i64_w, i32_w]; rfl
               refine done_ (done_of HT_.out (by kernel_rfl)) ?_
               try go_wp2
               have n0_ := Aside0.mk (Kd.R_drew HO_8.out)
               have n1_ := Aside0.mk (Kd.R_drew HO_16.out)
               have n2_ := Aside0.mk (Kd.R_drew HO615.out)
               have n3_ := Aside0.mk (below_drew1 HB.out)
               clear HO_8; clear HO_16; clear HO615; clear HB; have HO_8 := n0_; have HO_16 := n1_; have HO615 := n2_; have HB := n3_; clear n0_ n1_ n2_ n3_
               have p616 : 0 ≤ (x17_3 : Int) := of_decide_eq_true (by first | (with_reducible assumption) | assumption)
               have q616 : x17_3 < (x8_2.length : Int) := of_decide_eq_true (by first | (with_reducible assumption) | assumption)
               obtain ⟨ad616, e616, hx616_0⟩ := Kd.at_string (Kd.R_reads' HO_8.out).2.2 x17_3 p616 q616
               obtain rfl : ad610 = ad616 := (by injection e616)
               replace p616 := eq_true p616
               replace q616 := eq_true q616
               have p617 : 0 ≤ ((ji47) : Int) := of_decide_eq_true (by first | (with_reducible assumption) | assumption)
               have q617 : (ji47) < (x8_2.length : Int) := of_decide_eq_true (by first | (with_reducible assumption) | assumption)
               obtain ⟨ad617, e617, hx617_0⟩ := Kd.at_string (Kd.R_reads' HO_8.out).2.2 (ji47) p617 q617
               obtain rfl : ad610 = ad617 := (by injection e617)
               replace p617 := eq_true p617
               replace q617 := eq_true q617
               refine start_ (n := 15) (S := fun w' => w'.cell? (ad610.add (x17_3).toNat) = some (.string (rdOf ByteArray.empty x8_2 x17_3)) ∧ w'.cell? (ad610.add ((ji47)).toNat) = some (.string (rdOf ByteArray.empty x8_2 (ji47)))) (ds := [12, 13]) (fT 0 15) (by kernel_rfl) rfl rfl ⟨hx616_0, hx617_0⟩ (fun hHeld => ?_); refine with_tabW customhouseref03_Made.tab25 customhouseref03_Made.bits25 (fun HT_ HW_ => ?_)
               generalize w56.drew = w57 at HO_8 HO_16 HO615 HB hx616_0 hx617_0 hHeld ⊢
               refine pure_ (i := 0) (N := some 91) (v := ?_) (a' := ?_) (fT 1 15) rfl rfl (any_of HT_.out (by kernel_rfl)) (fun _ _ _ h => h) (Or.inl ⟨by rfl, ?_⟩) ?_ ?_
               rotate_left
               ·intro w'; go_simp; with_reducible rfl
               rotate_left
               ·simp only [Act.put, sq1, sq2, sq3, i64_w, i32_w]; rfl
               refine pure_ (i := 1) (N := some 92) (v := ?_) (a' := ?_) (fT 2 15) rfl rfl (any_of HT_.out (by kernel_rfl)) (fun _ _ _ h => h) (Or.inl ⟨by rfl, ?_⟩) ?_ ?_
               rotate_left
               ·intro w'; go_simp; with_reducible rfl
               rotate_left
               ·simp only [Act.put, sq1, sq2, sq3, i64_w, i32_w]; rfl
               refine pure_ (i := 2) (N := some 93) (v := ?_) (a' := ?_) (fT 3 15) rfl rfl (any_of HT_.out (by kernel_rfl)) (fun _ _ _ h => h) (Or.inl ⟨by rfl, ?_⟩) ?_ ?_
               rotate_left
               ·intro w'; go_simp; with_reducible rfl
               rotate_left
               ·simp only [Act.put, sq1, sq2, sq3, i64_w, i32_w]; rfl
               refine pure_ (i := 3) (N := some 94) (v := ?_) (a' := ?_) (fT 4 15) rfl rfl (any_of HT_.out (by kernel_rfl)) (fun _ _ _ h => h) (Or.inl ⟨by rfl, ?_⟩) ?_ ?_
               rotate_left
               ·intro w'; go_simp; with_reducible rfl
               rotate_left
               ·simp only [Act.put, sq1, sq2, sq3, i64_w, i32_w]; rfl
               refine pure_ (i := 5) (N := some 96) (v := ?_) (a' := ?_) #[tt,tt,tt,tt,ff,tt,ff,ff,ff,ff,ff,ff,ff,ff,ff] rfl rfl (any_of HT_.out (by kernel_rfl)) (fun _ _ _ h => h) (Or.inl ⟨by rfl, ?_⟩) ?_ ?_
               rotate_left
               ·intro w'; go_simp; with_reducible rfl
               rotate_left
               ·simp only [Act.put, sq1, sq2, sq3, i64_w, i32_w]; rfl
               refine pure_ (i := 6) (N := some 97) (v := ?_) (a' := ?_) #[tt,tt,tt,tt,ff,tt,tt,ff,ff,ff,ff,ff,ff,ff,ff] rfl rfl (any_of HT_.out (by kernel_rfl)) (fun _ _ _ h => h) (Or.inl ⟨by rfl, ?_⟩) ?_ ?_
               rotate_left
               ·intro w'; go_simp; with_reducible rfl
               rotate_left
               ·simp only [Act.put, sq1, sq2, sq3, i64_w, i32_w]; rfl
               refine pure_ (i := 7) (N := some 98) (v := ?_) (a' := ?_) #[tt,tt,tt,tt,ff,tt,tt,tt,ff,ff,ff,ff,ff,ff,ff] rfl rfl (any_of HT_.out (by kernel_rfl)) (fun _ _ _ h => h) (Or.inl ⟨by rfl, ?_⟩) ?_ ?_
               rotate_left
               ·intro w'; go_simp; with_reducible rfl
               rotate_left
               ·simp only [Act.put, sq1, sq2, sq3, i64_w, i32_w]; rfl
               refine pure_ (i := 8) (N := some 99) (v := ?_) (a' := ?_) #[tt,tt,tt,tt,ff,tt,tt,tt,tt,ff,ff,ff,ff,ff,ff] rfl rfl (any_of HT_.out (by kernel_rfl)) (fun _ _ _ h => h) (Or.inl ⟨by rfl, ?_⟩) ?_ ?_
               rotate_left
               ·intro w'; go_simp; with_reducible rfl
               rotate_left
               ·simp only [Act.put, sq1, sq2, sq3, i64_w, i32_w]; rfl
               refine take_ (i := 4) (N := some 95) (v := ?_) (a' := ?_) (fT 9 15) rfl rfl (take_ofW HT_.out HW_.out (by kernel_rfl)) (fun _ _ _ h => h) (Or.inl ⟨by rfl, ?_⟩) hHeld ?_ ?_
               rotate_left
               ·rintro w' ⟨s0, s1⟩; go_simp; with_reducible rfl
               rotate_left
               ·simp only [Act.put, sq1, sq2, sq3, i64_w, i32_w]; rfl
               refine take_ (i := 9) (N := some 100) (v := ?_) (a' := ?_) (fT 10 15) rfl rfl (take_ofW HT_.out HW_.out (by kernel_rfl)) (fun _ _ _ h => h) (Or.inl ⟨by rfl, ?_⟩) hHeld ?_ ?_
               rotate_left
               ·rintro w' ⟨s0, s1⟩; go_simp; with_reducible rfl
               rotate_left
               ·simp only [Act.put, sq1, sq2, sq3, i64_w, i32_w]; rfl
               refine one_ (i := 10) (N := some 101) (fT 11 15) rfl rfl (one_of HT_.out (by kernel_rfl)) (by decide) (fun K hK => ?_)
               refine goes_ Tryz.func119 (by kernel_rfl) rfl #[.string (rdOf ByteArray.empty x8_2 x17_3), .string (rdOf ByteArray.empty x8_2 (ji47))] (by rfl) rfl rfl (by (try simp only [List.map_toArray, List.map_cons, List.map_nil]); first | done | (simp only [hji47]; rfl) | rfl | (simp only [List.length_drop, List.length_take]; rfl)) ?_
               with_reducible refine (customhouseref03_node.calls (rdOf ByteArray.empty x8_2 x17_3) (rdOf ByteArray.empty x8_2 (ji47)) t612 _ A51.out).mono ?_
               rintro e w58 ⟨rfl, hb⟩
               have HS0_ := (hb.cell (World.block_lt_of_cell? _ _ (hHeld.1))).trans (hHeld.1)
               have HS1_ := (hb.cell (World.block_lt_of_cell? _ _ (hHeld.2))).trans (hHeld.2)
               refine ⟨_, rfl, ?_⟩
               have n0_ := Aside0.mk (Kd.R_below (by (with_reducible repeat (first | apply Kd.R_alloc | apply Kd.R_drewN | apply Kd.R_drew)); exact HO_8.out) hb)
               have n1_ := Aside0.mk (Kd.R_below (by (with_reducible repeat (first | apply Kd.R_alloc | apply Kd.R_drewN | apply Kd.R_drew)); exact HO_16.out) hb)
               have n2_ := Aside0.mk (Kd.R_below (by (with_reducible repeat (first | apply Kd.R_alloc | apply Kd.R_drewN | apply Kd.R_drew)); exact HO615.out) hb)
               have n3_ := Aside0.mk (below_step (by repeat (first | (with_reducible first | exact HB.out | apply below_alloc | apply pw_below_drewN | apply below_drew1) | exact HB.out)) hb)
               clear HO_8; clear HO_16; clear HO615; clear HB; have HO_8 := n0_; have HO_16 := n1_; have HO615 := n2_; have HB := n3_; clear n0_ n1_ n2_ n3_
               (try clear hb)
               (try clear hb2)
               (try clear hk)
               (try clear hi)
               refine hK.out _ _ ⟨HS0_, HS1_⟩ (fun hHeld => ?_)
               clear hK K
               refine norm_ (a' := ?_) ?_ ?_
               rotate_left
               ·show Act.put _ (some 101) _ = _
                simp only [Act.put, sq1, sq2, sq3, i64_w, i32_w]; rfl
               refine one_ (i := 11) (N := some 102) (fT 12 15) rfl rfl (one_of HT_.out (by kernel_rfl)) (by decide) (fun K hK => ?_)
               refine goes_ Tryz.func49 (by kernel_rfl) rfl #[.string t612] (by rfl) rfl rfl (by (try simp only [List.map_toArray, List.map_cons, List.map_nil]); first | done | rfl | (simp only [List.length_drop, List.length_take]; rfl)) ?_
               with_reducible refine (customhouseref01_Sum.calls k3 t612 t619 _ A52.out).mono ?_
               rintro e w' ⟨rfl, ⟨nd, rfl⟩⟩
               refine ⟨_, rfl, ?_⟩
               refine hK.out _ _ ⟨hHeld.1, hHeld.2⟩ (fun hHeld => ?_)
               clear hK K
               refine norm_ (a' := ?_) ?_ ?_
               rotate_left
               ·show Act.put _ (some 102) _ = _
                simp only [Act.put, sq1, sq2, sq3, i64_w, i32_w]; rfl
               refine last_ (i := 12) (N := some 103) (fT 13 15) rfl rfl (one_of HT_.out (by kernel_rfl)) (by decide) (fun K hK => ?_)
               refine value_ (w1 := ?_) (v := ?_) (by rfl) rfl ?_ ?_
               rotate_left 2
               ·go_simp
                constructor
                ·rfl
                ·rfl
               refine hK.out _ _ ?_
               clear hK K
               refine norm_ (a' := ?_) ?_ ?_
               rotate_left
               ·show Act.put _ (some 103) _ = _
                simp only [Act.put, sq1, sq2, sq3, i64_w, i32_w]; rfl
               refine last_ (i := 13) (N := some 104) (fT 14 15) rfl rfl (one_of HT_.out (by kernel_rfl)) (by decide) (fun K hK => ?_)
               refine Kd.R_append_step Kd.string (w0 := w) w.heap.size (by rfl) (.tmp 91) (.tmp 103) 30 9 (.string ⟨#[]⟩) 16 rfl Tryz.underlying30 info9 rfl (by decide) (by omega) u16 x16_3 t619 [.string t619] (fun k_ => some k_ ≠ (.slice (some ad610) x8_2.length co43 : Value).ownBlock ∧ some k_ ≠ (v614 : Value).ownBlock) (fun _ => False) rfl rfl ?aP (fun _ hk => hk.elim) ?aF ?aO ?aB ?aS ?aL ?_
               (case aP => exact rfl)
               (case aB => exact (by repeat (first | (with_reducible first | exact HB.out | apply below_alloc | apply pw_below_drewN | apply below_drew1) | exact HB.out)))
               (case aF => exact (fun k_ hk => ⟨Kd.fresh' (Kd.R_lt (by (with_reducible repeat (first | apply Kd.R_alloc | apply Kd.R_drewN | apply Kd.R_drew)); exact HO_8.out)) k_ hk, Kd.fresh' (Kd.R_lt (by (with_reducible repeat (first | apply Kd.R_alloc | apply Kd.R_drewN | apply Kd.R_drew)); exact HO615.out)) k_ hk⟩))
               (case aO => exact (by (with_reducible repeat (first | apply Kd.R_alloc | apply Kd.R_drewN | apply Kd.R_drew)); exact HO_16.out))
               (case aS => exact (below_size (by repeat (first | (with_reducible first | exact HB.out | apply below_alloc | apply pw_below_drewN | apply below_drew1) | exact HB.out))))
               (case aL => have := LMc53.out; omega)
               intro v621 w59 ho hb hg hat
               rw [← Ny620.out] at ho
               have n0_ := Aside0.mk (Kd.R_after (ok := (fun k_ => some k_ ≠ (v614 : Value).ownBlock)) (by (with_reducible repeat (first | apply Kd.R_alloc | apply Kd.R_drewN | apply Kd.R_drew)); exact Kd.R_mono HO_8.out (fun _ hk => ⟨hk.2, hk.1⟩)) hg hat)
               have n1_ := Aside0.mk (Kd.R_after (ok := (fun k_ => some k_ ≠ (.slice (some ad610) x8_2.length co43 : Value).ownBlock)) (by (with_reducible repeat (first | apply Kd.R_alloc | apply Kd.R_drewN | apply Kd.R_drew)); exact HO615.out) hg hat)
               have n2_ := Aside0.mk (hb)
               have n3_ := Aside0.mk (ho)
               clear HO_8; clear HO615; clear HB; clear HO_16; have HO_8 := n0_; have HO615 := n1_; have HB := n2_; have HO622 := n3_; clear n0_ n1_ n2_ n3_; clear ho hb hg hat
               refine hK.out _ _ ?_
               clear hK K
               refine norm_ (a' := ?_) ?_ ?_
               rotate_left
               ·show Act.put _ (some 104) _ = _
                simp only [Act.put, sq1, sq2, sq3, i64_w, i32_w]; rfl
               refine pure_ (i := 14) (N := some 16) (v := ?_) (a' := ?_) (fT 15 15) rfl rfl (any_of HT_.out (by kernel_rfl)) (fun _ _ _ h => h) (Or.inl ⟨by rfl, ?_⟩) ?_ ?_
               rotate_left
               ·intro w'; go_simp; with_reducible rfl
               rotate_left
               ·simp only [Act.put, sq1, sq2, sq3, i64_w, i32_w]; rfl
               refine done_ (done_of HT_.out (by kernel_rfl)) ?_
               try go_wp2
               go_roundg k3
               case measure => have := HK1.out; have := HK2.out; have := HK3.out; omega
               case rel => exact ⟨(y613), (y620), (wrap64 (x17_3 + 2)), (by first | rfl | (simp; done) | (simp [*]; done)), (by first | exact H' | (rw [hji47]; exact H')), ⟨by have := HK1.out; have := HK2.out; have := HK3.out; omega⟩, ⟨by (with_reducible repeat (first | apply Kd.R_alloc | apply Kd.R_drewN | apply Kd.R_drew)); exact HO615.out⟩, ⟨by (with_reducible repeat (first | apply Kd.R_alloc | apply Kd.R_drewN | apply Kd.R_drew)); exact HO_8.out⟩, ⟨by (with_reducible repeat (first | apply Kd.R_alloc | apply Kd.R_drewN | apply Kd.R_drew)); exact Kd.R_mono HO622.out (fun _ hk => ⟨hk.2, hk.1⟩)⟩, ⟨by repeat (first | (with_reducible first | exact HB.out | apply below_alloc | apply pw_below_drewN | apply below_drew1) | exact HB.out)⟩⟩
              ·rw [if_neg c53] at H
               exact absurd H (by simp)
             ·rw [if_neg c50] at H
              exact absurd H (by simp)
            ·rw [if_neg c48] at H
             exact absurd H (by simp)
           ·rw [if_neg c46] at H
            exact absurd H (by simp)
          ·rw [if_neg c45] at H
           exact absurd H (by simp)
         ·rw [if_neg c44] at H
          have c44b0 : decide ((wrap64 (x17_3 + 1)) < (x8_2.length : Int)) = false := decide_eq_false c44
          clear c44
          have H' := Aside0.mk H
          clear H; go_wp2
          go_roundg k3
          case measure => have := HK1.out; have := HK2.out; have := HK3.out; omega
          case rel => exact ⟨(x7_3), (x16_3), (by first | exact H' | (rw [hji47]; exact H')), ⟨by have := HK1.out; have := HK2.out; have := HK3.out; omega⟩, ⟨by (with_reducible repeat (first | apply Kd.R_alloc | apply Kd.R_drewN | apply Kd.R_drew)); exact Kd.R_mono HO_7.out (fun _ hk => hk.2)⟩, ⟨by (with_reducible repeat (first | apply Kd.R_alloc | apply Kd.R_drewN | apply Kd.R_drew)); exact Kd.R_mono HO_16.out (fun _ hk => hk.1)⟩, ⟨by repeat (first | (with_reducible first | exact HB.out | apply below_alloc | apply pw_below_drewN | apply below_drew1) | exact HB.out)⟩⟩
      ·rw [if_neg c42] at H
       have c42b0 : decide (1 < (x8_2.length : Int)) = false := decide_eq_false c42
       have c42b1 : decide (1 < x8_2.length) = false := decide_eq_false (by omega)
       clear c42
       obtain rfl := Option.some.inj H
       obtain ⟨Ao60, co60, eo60⟩ := Kd.R_slice HO_8.out
       subst eo60; go_wp2; go_ret
       exact ⟨_, by first | rfl | (simp [errW_none, errW_some] <;> rfl) | (simp [*, errW_none, errW_some] <;> rfl), by (with_reducible repeat (first | apply Kd.R_alloc | apply Kd.R_drewN | apply Kd.R_drew)); exact Kd.R_mono HO_7.out (fun _ hk => trivial), by repeat (first | (with_reducible first | exact HB.out | apply below_alloc | apply pw_below_drewN | apply below_drew1) | exact HB.out)⟩
end Go.Proofs.YtdlipbfcadmhjaaGreatDoor.PG3
