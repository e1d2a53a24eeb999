/- Written by a program of this session's over the kit's print: the functions that a law comes to as plain Lean functions, and that Go's code computes them. Nothing is assumed. -/
import Derived.Test.YtdlipbfcadmhjaaGreatDoorPG3x0
import Derived.Test.YtdlipbfcadmhjaaGreatDoorPG3x9
import Derived.Test.YtdlipbfcadmhjaaGreatDoorPG3x27
import Derived.Test.YtdlipbfcadmhjaaGreatDoorPG3x33
namespace Go.Proofs.YtdlipbfcadmhjaaGreatDoor.PG3
open Go.RowKit Go.Proofs.YtdlipbfcadmhjaaGreatDoorW.PrintWords Go.Proofs.YtdlipbfcadmhjaaGreatDoorW.PrintLast Go.Proofs.YtdlipbfcadmhjaaGreatDoorW.PrintMore
attribute [local go_sem] max2_int min2_int max_two min_two max_three min_three max_four min_four
set_option linter.unusedVariables false
set_option linter.unusedSimpArgs false
mutual
def customhouseref03_Checked.j1 : Nat → List ByteArray → List ByteArray → Int → List ByteArray → List ByteArray → Option (List ByteArray)
  | 0, _, _, _, _, _ => none
  | k + 1, x6, x7, x624000, x624001, x624002 => (customhouseref01_Joined.f x7).bind fun t640 => ((customhouseref01_Sum.f k t640).bind fun t641 => ((customhouseref01_Joined.f (([(⟨#[108, 101, 97, 102]⟩ : ByteArray), t641] : List ByteArray))).bind fun t645 => ((some (([t640, t645] : List ByteArray) : List ByteArray)).bind fun y646 => (if x6.length + y646.length < 8796093022208 then ((customhouseref01_Sum.f k t645).bind fun t652 => (customhouseref03_Checked.l1 k (x6 ++ y646) t652 x624000 0 x624000 x624001 x624002)) else (none)))))
def customhouseref03_Checked.l1 : Nat → List ByteArray → ByteArray → Int → Int → Int → List ByteArray → List ByteArray → Option (List ByteArray)
  | 0, _, _, _, _, _, _, _ => none
  | k + 1, x6, x12, x13, x14, x624000, x624001, x624002 => if x14 < (x624002.length : Int) then (if 0 ≤ x14 then ((customhouseref03_node.f x12 (rdOf ByteArray.empty x624002 x14)).bind fun t654 => (if (Int.tmod x13 2) = 1 then ((customhouseref03_node.f (rdOf ByteArray.empty x624002 x14) x12).bind fun t656 => (if x6.length < 8796093022208 then ((customhouseref01_Sum.f k t656).bind fun t660 => (customhouseref03_Checked.l1 k (x6 ++ [t656]) t660 (wrap64 (Int.tdiv x13 2)) (wrap64 (x14 + 1)) x624000 x624001 x624002)) else (none))) else (if x6.length < 8796093022208 then ((customhouseref01_Sum.f k t654).bind fun t664 => (customhouseref03_Checked.l1 k (x6 ++ [t654]) t664 (wrap64 (Int.tdiv x13 2)) (wrap64 (x14 + 1)) x624000 x624001 x624002)) else (none)))) else (none)) else (some x6)
def customhouseref03_Checked.l0 : Nat → List Int → List ByteArray → List ByteArray → Int → Int → List ByteArray → List ByteArray → Option (List ByteArray)
  | 0, _, _, _, _, _, _, _ => none
  | k + 1, x5, x6, x7, x8, x624000, x624001, x624002 => if x8 < 18 then (if x8 < (x624001.length : Int) then (if 0 ≤ x8 then (if x8 < (x5.length : Int) then ((customhouseref03_chained.f k (rdOf ByteArray.empty x624001 x8) (wrap64 (15 - (rd x5 x8)))).bind fun t629 => (if x6.length + t629.length < 8796093022208 then (if 0 ≤ (wrap64 (15 - (rd x5 x8))) then (if (wrap64 (15 - (rd x5 x8))) < (t629.length : Int) then (if x7.length < 8796093022208 then (customhouseref03_Checked.l0 k x5 (x6 ++ t629) (x7 ++ [rdOf ByteArray.empty t629 (wrap64 (15 - (rd x5 x8)))]) (wrap64 (x8 + 1)) x624000 x624001 x624002) else (none)) else (none)) else (none)) else (none))) else (none)) else (none)) else (customhouseref03_Checked.j1 k x6 x7 x624000 x624001 x624002)) else (customhouseref03_Checked.j1 k x6 x7 x624000 x624001 x624002)
end
def customhouseref03_Checked.f (k : Nat) (a0 : ByteArray) (a1_0 : Int) (l1_1 : List ByteArray) (l1_2 : List ByteArray) : Option (List ByteArray) := (customhouseref03_Digits.f k a0).bind fun t624 => (customhouseref03_Checked.l0 k t624 ([] : List ByteArray) ([] : List ByteArray) 0 a1_0 l1_1 l1_2)
def customhouseref03_Checked.T7 : Bool × List (List Nat × List Nat) := (true, [([], []), ([0], [0]), ([], []), ([1, 2], [1, 2]), ([3], [3]), ([], []), ([], []), ([5, 6], [5, 6]), ([7], [7]), ([8], [8]), ([4, 9], [4, 9]), ([10, 10, 0, 1, 2, 3, 4, 5, 6, 7, 8, 9, 10], [10])])
def customhouseref03_Checked.B7 : List Nat := [0, 1, 0, 7, 15, 0, 0, 96, 224, 480, 1023, 2047]
theorem customhouseref03_Checked.tab7 : rtab .any (opsOf Tryz.f48 7) = customhouseref03_Checked.T7 := by kernel_rfl
theorem customhouseref03_Checked.bits7 : waitsOk customhouseref03_Checked.T7.2 customhouseref03_Checked.B7 = true := by kernel_rfl
set_option maxHeartbeats 8000000 in
set_option maxRecDepth 100000 in
theorem customhouseref03_Checked.calls (k : Nat) (a0 : ByteArray) (a1_0 : Int) (A1_1 : Option Addr) (c1_1 : Nat) (l1_1 : List ByteArray) (A1_2 : Option Addr) (c1_2 : Nat) (l1_2 : List ByteArray) (r : List ByteArray) (w : World) (hr1_1 : Kd.C Kd.string w A1_1 l1_1.length l1_1) (hc1_1 : l1_1.length ≤ c1_1) (hr1_2 : Kd.C Kd.string w A1_2 l1_2.length l1_2) (hc1_2 : l1_2.length ≤ c1_2) (h : customhouseref03_Checked.f k a0 a1_0 l1_1 l1_2 = some r) :
    Calls Tryz.prog 48 #[.string a0, .agg #[.int .i64 a1_0, .slice A1_1 l1_1.length c1_1, .slice A1_2 l1_2.length c1_2]] w fun e w' => ∃ v0_ : Value, e = .returned (v0_) ∧ Kd.R Kd.string 9 w' w.heap.size (fun _ => True) v0_ r ∧ Below w.heap.size w w' := by
 have hu33 := Tryz.underlying33
 have HR1_1 := Aside0.mk hr1_1
 have HC1_1 := Aside0.mk hc1_1
 clear hr1_1 hc1_1
 have HR1_2 := Aside0.mk hr1_2
 have HC1_2 := Aside0.mk hc1_2
 clear hr1_2 hc1_2
 have HB := Aside0.mk (Below.refl w.heap.size w)
 have H : ((customhouseref03_Digits.f k a0).bind fun t624 => (customhouseref03_Checked.l0 k t624 ([] : List ByteArray) ([] : List ByteArray) 0 a1_0 l1_1 l1_2)) = some r := h
 clear h
 replace H := Option.bind_eq_some_iff.mp H
 obtain ⟨t624, A30, H⟩ := H
 replace H : (customhouseref03_Checked.l0 k t624 ([] : List ByteArray) ([] : List ByteArray) 0 a1_0 l1_1 l1_2) = some r := H
 have A3 := Aside0.mk A30
 clear A30
 have HC4 := Aside0.mk H
 clear H
 go_enter Tryz.func48, Tryz.ntmps48
 go_upto_block 0 with (first | ((with_reducible refine gate_dst (N := 3) rfl ?_); (try (refine gate_guard (by rfl) ?_; dsimp only)); refine box_event ?hg (N := 3) ?hd (cs := #[.int .i64 a1_0, .slice A1_1 l1_1.length c1_1, .slice A1_2 l1_2.length c1_2]) (t := 33) ?hr ?_; (case hd => rfl); (case hg => rfl); (case hr => first | (go_simp; done) | (go_simp; rfl)); intro gb623 hg w5 hbox hb; have n0_ := Aside0.mk (below_step (by repeat (first | (with_reducible first | exact HB.out | apply below_alloc | apply pw_below_drewN | apply below_drew1) | exact HB.out)) hb); have n1_ := Aside0.mk (hbox); have n2_ := Aside0.mk ((by rw [hg]; exact (below_size (by repeat (first | (with_reducible first | exact HB.out | apply below_alloc | apply pw_below_drewN | apply below_drew1) | exact HB.out))) : w.heap.size ≤ gb623)); have n3_ := Aside0.mk ((by rw [hg]; exact (below_size (by repeat (first | (with_reducible first | exact HB.out | apply below_alloc | apply pw_below_drewN | apply below_drew1) | exact HB.out))) : w.heap.size ≤ gb623)); clear HB; have HB := n0_; have BK623 := n1_; have GW623 := n2_; have GE623 := n3_; clear n0_ n1_ n2_ n3_; clear hb hbox hg) | ((with_reducible refine gate_callee (f := 108) rfl ?_); refine goesL_ (some 17) rfl rfl Tryz.func108 (by kernel_rfl) rfl #[.string a0] rfl (by (try simp only [List.map_toArray, List.map_cons, List.map_nil]); first | done | rfl | (simp only [List.length_drop, List.length_take]; rfl)) ?_; (with_reducible refine (customhouseref03_Digits.calls k a0 t624 _ A3.out).mono ?_); rintro e w6 ⟨v625, rfl, ho0, hb⟩; refine ⟨_, rfl, ?_⟩; have n0_ := Aside0.mk (Kd.R_lower ho0 (below_size (by repeat (first | (with_reducible first | exact HB.out | apply below_alloc | apply pw_below_drewN | apply below_drew1 | refine below_set ?_ GE623.out) | exact HB.out)))); have n1_ := Aside0.mk (blk_below (g := gb623) (o := .cells #[.int .i64 a1_0, .slice A1_1 l1_1.length c1_1, .slice A1_2 l1_2.length c1_2] 33 (0, 0)) (by (with_reducible repeat (first | refine blk_drewN ?_ _ | refine blk_drew ?_ | refine blk_alloc ?_ _)); exact BK623.out) hb); have n2_ := Aside0.mk (below_step (by repeat (first | (with_reducible first | exact HB.out | apply below_alloc | apply pw_below_drewN | apply below_drew1 | refine below_set ?_ GE623.out) | exact HB.out)) hb); clear BK623; clear HB; have HO626 := n0_; have BK623 := n1_; have HB := n2_; clear n0_ n1_ n2_; (try clear hb); (try clear hb2); (try clear hk); (try clear hi); (try clear ho0)))
 (try simp only [Act.put, List.setIfInBounds_toArray, List.set_cons_zero, List.set_cons_succ])
 go_cut [6, 7] (fun v6 v7 wc => ∃ (kq : Nat) (x6_3 : List ByteArray) (x7_3 : List ByteArray), Aside0 (customhouseref03_Checked.j1 kq x6_3 x7_3 a1_0 l1_1 l1_2 = some r) ∧ Aside0 (kq ≤ k) ∧ Aside0 (Kd.R Kd.string 9 wc w.heap.size (fun k_ => some k_ ≠ (v7 : Value).ownBlock) v6 x6_3) ∧ Aside0 (Kd.R Kd.string 9 wc w.heap.size (fun k_ => some k_ ≠ (v6 : Value).ownBlock) v7 x7_3) ∧ Aside0 (wc.heap[gb623]? = some (.cells #[.int .i64 a1_0, (.slice A1_1 l1_1.length c1_1), (.slice A1_2 l1_2.length c1_2)] 33 (0, 0))) ∧ Aside0 (Below w.heap.size w wc))
 case first =>
  have H := HC4.out; clear HC4
  have H' := Aside0.mk H
  clear H; go_wp2
  go_loopg [6, 7, 8] k (fun kq v6 v7 v8 w' => ∃ (x6_1 : List ByteArray) (x7_1 : List ByteArray) (x8_1 : Int), v8 = .int .i64 x8_1 ∧ Aside0 (customhouseref03_Checked.l0 kq t624 x6_1 x7_1 x8_1 a1_0 l1_1 l1_2 = some r) ∧ Aside0 (kq ≤ k) ∧ Aside0 (Kd.R (Kd.int .i64) 3 w' w.heap.size (fun _ => True) v625 t624) ∧ Aside0 (Kd.R Kd.string 9 w' w.heap.size (fun k_ => some k_ ≠ (v7 : Value).ownBlock) v6 x6_1) ∧ Aside0 (Kd.R Kd.string 9 w' w.heap.size (fun k_ => some k_ ≠ (v6 : Value).ownBlock) v7 x7_1) ∧ Aside0 (w'.heap[gb623]? = some (.cells #[.int .i64 a1_0, (.slice A1_1 l1_1.length c1_1), (.slice A1_2 l1_2.length c1_2)] 33 (0, 0))) ∧ Aside0 (Below w.heap.size w w'))
  case atStart => exact ⟨(([] : List ByteArray)), (([] : List ByteArray)), (0), (by first | rfl | (simp; done) | (simp [*]; done)), H', ⟨Nat.le_refl _⟩, ⟨by (with_reducible repeat (first | apply Kd.R_alloc | apply Kd.R_drewN | apply Kd.R_drew)); exact HO626.out⟩, ⟨by first | exact Kd.R_nil _ _ _ _ _ | exact Kd.N_nil _ _ _ _ _ | exact Kd.V_nil _ _ _ _ _ | exact Kd.Q_nil _ _ _ _ _ | exact Kd.S_nil _ _ _ _ _⟩, ⟨by first | exact Kd.R_nil _ _ _ _ _ | exact Kd.N_nil _ _ _ _ _ | exact Kd.V_nil _ _ _ _ _ | exact Kd.Q_nil _ _ _ _ _ | exact Kd.S_nil _ _ _ _ _⟩, ⟨by (with_reducible repeat (first | refine blk_drewN ?_ _ | refine blk_drew ?_ | refine blk_alloc ?_ _)); exact BK623.out⟩, ⟨by repeat (first | (with_reducible first | exact HB.out | apply below_alloc | apply pw_below_drewN | apply below_drew1 | refine below_set ?_ GE623.out) | exact HB.out)⟩⟩
  case round =>
   clear H'
   try clear c1
   try clear p2
   try clear c4
   obtain ⟨x6_1, x7_1, x8_1, rfl, HA, HK1, HO_5, HO_6, HO_7, BK623, HB⟩ := hrel
   cases gk with
   | zero => exact absurd HA.out (by simp [customhouseref03_Checked.l0])
   | succ k1 =>
    have H := HA.out; clear HA
    simp only [customhouseref03_Checked.l0] at H
    by_cases c7 : x8_1 < 18
    ·rw [if_pos c7] at H
     have c7b0 : decide (x8_1 < 18) = true := decide_eq_true c7
     clear c7
     (first | rw [c7b0] | (simp only [i64_w, i32_w]; rw [c7b0]) | skip)
     by_cases c8 : x8_1 < (l1_1.length : Int)
     ·rw [if_pos c8] at H
      have c8b0 : decide (x8_1 < (l1_1.length : Int)) = true := decide_eq_true c8
      clear c8
      by_cases c9 : 0 ≤ x8_1
      ·rw [if_pos c9] at H
       have c9b0 : decide (0 ≤ x8_1) = true := decide_eq_true c9
       clear c9
       by_cases c10 : x8_1 < (t624.length : Int)
       ·rw [if_pos c10] at H
        have c10b0 : decide (x8_1 < (t624.length : Int)) = true := decide_eq_true c10
        clear c10
        replace H := Option.bind_eq_some_iff.mp H
        obtain ⟨t629, A110, H⟩ := H
        replace H : (if x6_1.length + t629.length < 8796093022208 then (if 0 ≤ (wrap64 (15 - (rd t624 x8_1))) then (if (wrap64 (15 - (rd t624 x8_1))) < (t629.length : Int) then (if x7_1.length < 8796093022208 then (customhouseref03_Checked.l0 k1 t624 (x6_1 ++ t629) (x7_1 ++ [rdOf ByteArray.empty t629 (wrap64 (15 - (rd t624 x8_1)))]) (wrap64 (x8_1 + 1)) a1_0 l1_1 l1_2) else (none)) else (none)) else (none)) else (none)) = some r := H
        have A11 := Aside0.mk A110
        clear A110
        by_cases c12 : x6_1.length + t629.length < 8796093022208
        ·rw [if_pos c12] at H
         have LMc12 := Aside0.mk c12
         clear c12
         obtain ⟨y632, hy632⟩ : ∃ y_ : List ByteArray, y_ = (x6_1 ++ t629) := ⟨_, rfl⟩
         replace H : (if 0 ≤ (wrap64 (15 - (rd t624 x8_1))) then (if (wrap64 (15 - (rd t624 x8_1))) < (t629.length : Int) then (if x7_1.length < 8796093022208 then (customhouseref03_Checked.l0 k1 t624 y632 (x7_1 ++ [rdOf ByteArray.empty t629 (wrap64 (15 - (rd t624 x8_1)))]) (wrap64 (x8_1 + 1)) a1_0 l1_1 l1_2) else (none)) else (none)) else (none)) = some r := by first | (rw [hy632]; with_reducible exact H) | (have H2_ := (Option.bind_some _ _).symm.trans H; rw [hy632]; with_reducible exact H2_) | (have H2_ := (Option.bind_some _ _).symm.trans H; with_reducible exact H2_) | with_reducible exact H | (rw [hy632]; exact H) | exact H
         have Ny632 := Aside0.mk hy632
         clear hy632
         obtain ⟨ji13, hji13⟩ : ∃ j_ : Int, (wrap64 (15 - (rd t624 x8_1))) = j_ := ⟨_, rfl⟩
         replace H : (if 0 ≤ (ji13) then (if (ji13) < (t629.length : Int) then (if x7_1.length < 8796093022208 then (customhouseref03_Checked.l0 k1 t624 y632 (x7_1 ++ [rdOf ByteArray.empty t629 (ji13)]) (wrap64 (x8_1 + 1)) a1_0 l1_1 l1_2) else (none)) else (none)) else (none)) = some r := by first | (rw [hji13] at H; exact H) | (simp only [hji13] at H ⊢; exact H)
         (try rw [hji13] at A11)
         have hji13w : (IntKind.i64.wrap (15 - (rd t624 x8_1))) = ji13 := (i64_w _).trans hji13
         by_cases c14 : 0 ≤ (ji13)
         ·rw [if_pos c14] at H
          have c14b0 : decide (0 ≤ (ji13)) = true := decide_eq_true c14
          clear c14
          by_cases c15 : (ji13) < (t629.length : Int)
          ·rw [if_pos c15] at H
           have c15b0 : decide ((ji13) < (t629.length : Int)) = true := decide_eq_true c15
           clear c15
           by_cases c16 : x7_1.length < 8796093022208
           ·rw [if_pos c16] at H
            have LMc16 := Aside0.mk c16
            clear c16
            obtain ⟨y637, hy637⟩ : ∃ y_ : List ByteArray, y_ = (x7_1 ++ [rdOf ByteArray.empty t629 (ji13)]) := ⟨_, rfl⟩
            replace H : (customhouseref03_Checked.l0 k1 t624 y632 y637 (wrap64 (x8_1 + 1)) a1_0 l1_1 l1_2) = some r := by first | (rw [hy637]; with_reducible exact H) | (have H2_ := (Option.bind_some _ _).symm.trans H; rw [hy637]; with_reducible exact H2_) | (have H2_ := (Option.bind_some _ _).symm.trans H; with_reducible exact H2_) | with_reducible exact H | (rw [hy637]; exact H) | exact H
            have Ny637 := Aside0.mk hy637
            clear hy637
            have H' := Aside0.mk H
            clear H
            have hcz17_0 : wr.cell? ⟨gb623, 0, none⟩ = some (.int .i64 a1_0) := (blk_cell BK623.out 0).trans rfl
            have hcz17_1 : wr.cell? ⟨gb623, 1, none⟩ = some (.slice A1_1 l1_1.length c1_1) := (blk_cell BK623.out 1).trans rfl
            have hcz17_2 : wr.cell? ⟨gb623, 2, none⟩ = some (.slice A1_2 l1_2.length c1_2) := (blk_cell BK623.out 2).trans rfl
            have hfz17_0 := blk_frozen BK623.out 0
            have hfz17_1 := blk_frozen BK623.out 1
            have hfz17_2 := blk_frozen BK623.out 2
            try go_wp2
            have n0_ := Aside0.mk (Kd.R_drew HO_5.out)
            have n1_ := Aside0.mk (Kd.R_drew HO_6.out)
            have n2_ := Aside0.mk (Kd.R_drew HO_7.out)
            have n3_ := Aside0.mk (blk_drew BK623.out)
            have n4_ := Aside0.mk (below_drew1 HB.out)
            clear HO_5; clear HO_6; clear HO_7; clear BK623; clear HB; have HO_5 := n0_; have HO_6 := n1_; have HO_7 := n2_; have BK623 := n3_; have HB := n4_; clear n0_ n1_ n2_ n3_ n4_
            have p627 : 0 ≤ (x8_1 : Int) := of_decide_eq_true (by first | (with_reducible assumption) | assumption)
            have q627 : x8_1 < (l1_1.length : Int) := of_decide_eq_true (by first | (with_reducible assumption) | assumption)
            obtain ⟨ad627, e627, hx627_0⟩ := Kd.at_string HR1_1.out x8_1 p627 q627
            have hw627_0 := hx627_0
            cases e627
            replace hx627_0 := (HB.out.cell (World.block_lt_of_cell? w _ hx627_0)).trans hx627_0
            replace p627 := eq_true p627
            replace q627 := eq_true q627
            obtain ⟨Ao19, co19, eo19⟩ := Kd.R_slice HO_5.out
            (first | subst eo19 | (injection eo19 with f1_ f2_ f3_; have f4_ := f1_.symm; have f5_ := f3_.symm; clear f1_ f2_ f3_; subst f4_; subst f5_))
            have p628 : 0 ≤ (x8_1 : Int) := of_decide_eq_true (by first | (with_reducible assumption) | assumption)
            have q628 : x8_1 < (t624.length : Int) := of_decide_eq_true (by first | (with_reducible assumption) | assumption)
            obtain ⟨ad628, e628, hx628_0⟩ := Kd.at_int (Kd.R_reads' HO_5.out).2.2 x8_1 p628 q628
            cases e628
            replace p628 := eq_true p628
            replace q628 := eq_true q628
            refine start_ (n := 12) (S := fun w' => w'.cell? ⟨gb623, 0, none⟩ = some (.int .i64 a1_0) ∧ w'.cell? ⟨gb623, 1, none⟩ = some (.slice (some ad627) l1_1.length c1_1) ∧ w'.cell? ⟨gb623, 2, none⟩ = some (.slice A1_2 l1_2.length c1_2) ∧ w'.cell? (ad627.add (x8_1).toNat) = some (.string (rdOf ByteArray.empty l1_1 x8_1)) ∧ w'.cell? (ad628.add (x8_1).toNat) = some (.int .i64 (rd t624 x8_1))) (ds := []) (fT 0 12) (by kernel_rfl) rfl rfl ⟨(blk_cell BK623.out 0).trans rfl, (blk_cell BK623.out 1).trans rfl, (blk_cell BK623.out 2).trans rfl, ((HB.out.cell (World.block_lt_of_cell? w _ hw627_0)).trans hw627_0), hx628_0⟩ (fun hHeld => ?_); refine with_tabW customhouseref03_Checked.tab7 customhouseref03_Checked.bits7 (fun HT_ HW_ => ?_)
            generalize wr.drew = w18 at HO_5 HO_6 HO_7 BK623 HB hx627_0 hx628_0 hHeld ⊢
            refine pure_ (i := 0) (N := some 29) (v := ?_) (a' := ?_) (fT 1 12) rfl rfl (any_of HT_.out (by kernel_rfl)) (fun _ _ _ h => h) (Or.inl ⟨by rfl, ?_⟩) ?_ ?_
            rotate_left
            ·intro w'; go_simp; with_reducible rfl
            rotate_left
            ·simp only [Act.put, sq1, sq2, sq3, i64_w, i32_w]; rfl
            refine pure_ (i := 2) (N := some 31) (v := ?_) (a' := ?_) #[tt,ff,tt,ff,ff,ff,ff,ff,ff,ff,ff,ff] rfl rfl (any_of HT_.out (by kernel_rfl)) (fun _ _ _ h => h) (Or.inl ⟨by rfl, ?_⟩) ?_ ?_
            rotate_left
            ·intro w'; go_simp; with_reducible rfl
            rotate_left
            ·simp only [Act.put, sq1, sq2, sq3, i64_w, i32_w]; rfl
            refine pure_ (i := 5) (N := some 34) (v := ?_) (a' := ?_) #[tt,ff,tt,ff,ff,tt,ff,ff,ff,ff,ff,ff] rfl rfl (any_of HT_.out (by kernel_rfl)) (fun _ _ _ h => h) (Or.inl ⟨by rfl, ?_⟩) ?_ ?_
            rotate_left
            ·intro w'; go_simp; with_reducible rfl
            rotate_left
            ·simp only [Act.put, sq1, sq2, sq3, i64_w, i32_w]; rfl
            refine pure_ (i := 6) (N := some 35) (v := ?_) (a' := ?_) #[tt,ff,tt,ff,ff,tt,tt,ff,ff,ff,ff,ff] rfl rfl (any_of HT_.out (by kernel_rfl)) (fun _ _ _ h => h) (Or.inl ⟨by rfl, ?_⟩) ?_ ?_
            rotate_left
            ·intro w'; go_simp; with_reducible rfl
            rotate_left
            ·simp only [Act.put, sq1, sq2, sq3, i64_w, i32_w]; rfl
            refine pure_ (i := 7) (N := some 36) (v := ?_) (a' := ?_) #[tt,ff,tt,ff,ff,tt,tt,tt,ff,ff,ff,ff] rfl rfl (any_of HT_.out (by kernel_rfl)) (fun _ _ _ h => h) (Or.inl ⟨by rfl, ?_⟩) ?_ ?_
            rotate_left
            ·intro w'; go_simp; with_reducible rfl
            rotate_left
            ·simp only [Act.put, sq1, sq2, sq3, i64_w, i32_w]; rfl
            refine take_ (i := 1) (N := some 30) (v := ?_) (a' := ?_) #[tt,tt,tt,ff,ff,tt,tt,tt,ff,ff,ff,ff] rfl rfl (take_ofW HT_.out HW_.out (by kernel_rfl)) (fun _ _ _ h => h) (Or.inl ⟨by rfl, ?_⟩) hHeld ?_ ?_
            rotate_left
            ·rintro w' ⟨s0, s1, s2, s3, s4⟩; go_simp; with_reducible rfl
            rotate_left
            ·simp only [Act.put, sq1, sq2, sq3, i64_w, i32_w]; rfl
            refine pure_ (i := 3) (N := some 32) (v := ?_) (a' := ?_) #[tt,tt,tt,tt,ff,tt,tt,tt,ff,ff,ff,ff] rfl rfl (any_of HT_.out (by kernel_rfl)) (fun _ _ _ h => h) (Or.inl ⟨by rfl, ?_⟩) ?_ ?_
            rotate_left
            ·intro w'; go_simp; with_reducible rfl
            rotate_left
            ·simp only [Act.put, sq1, sq2, sq3, i64_w, i32_w]; rfl
            refine take_ (i := 4) (N := some 33) (v := ?_) (a' := ?_) (fT 8 12) rfl rfl (take_ofW HT_.out HW_.out (by kernel_rfl)) (fun _ _ _ h => h) (Or.inl ⟨by rfl, ?_⟩) hHeld ?_ ?_
            rotate_left
            ·rintro w' ⟨s0, s1, s2, s3, s4⟩; go_simp; with_reducible rfl
            rotate_left
            ·simp only [Act.put, sq1, sq2, sq3, i64_w, i32_w]; rfl
            refine take_ (i := 8) (N := some 37) (v := ?_) (a' := ?_) (fT 9 12) rfl rfl (take_ofW HT_.out HW_.out (by kernel_rfl)) (fun _ _ _ h => h) (Or.inl ⟨by rfl, ?_⟩) hHeld ?_ ?_
            rotate_left
            ·rintro w' ⟨s0, s1, s2, s3, s4⟩; go_simp; with_reducible rfl
            rotate_left
            ·simp only [Act.put, sq1, sq2, sq3, i64_w, i32_w]; rfl
            refine pure_ (i := 9) (N := some 38) (v := ?_) (a' := ?_) (fT 10 12) rfl rfl (any_of HT_.out (by kernel_rfl)) (fun _ _ _ h => h) (Or.inl ⟨by rfl, ?_⟩) ?_ ?_
            rotate_left
            ·intro w'; go_simp; with_reducible rfl
            rotate_left
            ·simp only [Act.put, sq1, sq2, sq3, i64_w, i32_w]; rfl
            refine one_ (i := 10) (N := some 39) (fT 11 12) rfl rfl (one_of HT_.out (by kernel_rfl)) (by decide) (fun K hK => ?_)
            refine goes_ Tryz.func118 (by kernel_rfl) rfl #[.string (rdOf ByteArray.empty l1_1 x8_1), .int .i64 ji13] (by rfl) rfl rfl (by (try simp only [List.map_toArray, List.map_cons, List.map_nil]); first | done | (simp only [hji13]; rfl) | rfl | (simp only [List.length_drop, List.length_take]; rfl)) ?_
            with_reducible refine (customhouseref03_chained.calls k1 (rdOf ByteArray.empty l1_1 x8_1) ji13 t629 _ A11.out).mono ?_
            rintro e w20 ⟨v630, rfl, ho0, hb⟩
            have HS4_ := (hb.cell (World.block_lt_of_cell? _ _ (hHeld.2.2.2.2))).trans (hHeld.2.2.2.2)
            refine ⟨_, rfl, ?_⟩
            have n0_ := Aside0.mk (Kd.R_below (by (with_reducible repeat (first | apply Kd.R_alloc | apply Kd.R_drewN | apply Kd.R_drew)); exact HO_5.out) hb)
            have n1_ := Aside0.mk (Kd.R_elder' (by (with_reducible repeat (first | apply Kd.R_alloc | apply Kd.R_drewN | apply Kd.R_drew)); exact HO_6.out) (Kd.R_base ho0) hb)
            have n2_ := Aside0.mk (Kd.R_elder' (by (with_reducible repeat (first | apply Kd.R_alloc | apply Kd.R_drewN | apply Kd.R_drew)); exact HO_7.out) (Kd.R_base ho0) hb)
            have n3_ := Aside0.mk (Kd.R_lower (Kd.R_new' (Kd.R_new' ho0 (Kd.R_lt (by (with_reducible repeat (first | apply Kd.R_alloc | apply Kd.R_drewN | apply Kd.R_drew)); exact HO_6.out))) (Kd.R_lt (by (with_reducible repeat (first | apply Kd.R_alloc | apply Kd.R_drewN | apply Kd.R_drew)); exact HO_7.out))) (below_size (by repeat (first | (with_reducible first | exact HB.out | apply below_alloc | apply pw_below_drewN | apply below_drew1 | refine below_set ?_ GE623.out) | exact HB.out))))
            have n4_ := Aside0.mk (blk_below (g := gb623) (o := .cells #[.int .i64 a1_0, .slice (some ad627) l1_1.length c1_1, .slice A1_2 l1_2.length c1_2] 33 (0, 0)) (by (with_reducible repeat (first | refine blk_drewN ?_ _ | refine blk_drew ?_ | refine blk_alloc ?_ _)); exact BK623.out) hb)
            have n5_ := Aside0.mk (below_step (by repeat (first | (with_reducible first | exact HB.out | apply below_alloc | apply pw_below_drewN | apply below_drew1 | refine below_set ?_ GE623.out) | exact HB.out)) hb)
            clear HO_5; clear HO_6; clear HO_7; clear BK623; clear HB; have HO_5 := n0_; have HO_6 := n1_; have HO_7 := n2_; have HO631 := n3_; have BK623 := n4_; have HB := n5_; clear n0_ n1_ n2_ n3_ n4_ n5_
            (try clear hb)
            (try clear hb2)
            (try clear hk)
            (try clear hi)
            (try clear ho0)
            refine hK.out _ _ ⟨(blk_cell BK623.out 0).trans rfl, (blk_cell BK623.out 1).trans rfl, (blk_cell BK623.out 2).trans rfl, ((HB.out.cell (World.block_lt_of_cell? w _ hw627_0)).trans hw627_0), HS4_⟩ (fun hHeld => ?_)
            clear hK K
            refine norm_ (a' := ?_) ?_ ?_
            rotate_left
            ·show Act.put _ (some 39) _ = _
             simp only [Act.put, sq1, sq2, sq3, i64_w, i32_w]; rfl
            refine pure_ (i := 11) (N := some 9) (v := ?_) (a' := ?_) (fT 12 12) rfl rfl (any_of HT_.out (by kernel_rfl)) (fun _ _ _ h => h) (Or.inl ⟨by rfl, ?_⟩) ?_ ?_
            rotate_left
            ·intro w'; go_simp; with_reducible rfl
            rotate_left
            ·simp only [Act.put, sq1, sq2, sq3, i64_w, i32_w]; rfl
            refine done_ (done_of HT_.out (by kernel_rfl)) ?_
            obtain ⟨Ao22, co22, eo22⟩ := Kd.R_slice HO631.out
            subst eo22
            try go_wp2_with (first | ((with_reducible refine gate_builtin (b := .append) (xs := #[.tmp 40, .tmp 41]) rfl ?_); (try (refine gate_guard (by rfl) ?_; dsimp only)); at_builtin; refine Kd.R_append_rows Kd.string (w0 := w) w.heap.size rfl (.tmp 40) (.tmp 41) 30 9 (.string ⟨#[]⟩) 16 rfl Tryz.underlying30 info9 rfl (by decide) (by omega) u6 x6_1 t629 _ _ _ (fun k_ => some k_ ≠ (u7 : Value).ownBlock ∧ some k_ ≠ (.slice Ao22 t629.length co22 : Value).ownBlock) (fun _ => False) rfl rfl ?aO ?aR (fun _ _ h => h) (fun _ h => h.elim) ?aF ?aB ?aS ?aL ?_; (case aR => repeat (first | exact (Kd.R_reads' HO631.out).2.2 | (with_reducible refine Kd.C_alloc ?_ _) | (with_reducible refine Kd.C_drewN ?_ _) | (with_reducible refine Kd.C_drew ?_))); (case aB => exact (by repeat (first | (with_reducible first | exact HB.out | apply below_alloc | apply pw_below_drewN | apply below_drew1 | refine below_set ?_ GE623.out) | exact HB.out))); (case aF => exact (fun k_ hk => ⟨Kd.fresh' (Kd.R_lt (by (with_reducible repeat (first | apply Kd.R_alloc | apply Kd.R_drewN | apply Kd.R_drew)); exact HO_7.out)) k_ hk, Kd.fresh' (Kd.R_lt (by (with_reducible repeat (first | apply Kd.R_alloc | apply Kd.R_drewN | apply Kd.R_drew)); exact HO631.out)) k_ hk⟩)); (case aO => exact (by (with_reducible repeat (first | apply Kd.R_alloc | apply Kd.R_drewN | apply Kd.R_drew)); exact HO_6.out)); (case aS => exact (below_size (by repeat (first | (with_reducible first | exact HB.out | apply below_alloc | apply pw_below_drewN | apply below_drew1 | refine below_set ?_ GE623.out) | exact HB.out)))); (case aL => have := LMc12.out; omega); intro v633 w21 ho hb hg hat; rw [← Ny632.out] at ho; have n0_ := Aside0.mk (Kd.R_over' (by (with_reducible repeat (first | apply Kd.R_alloc | apply Kd.R_drewN | apply Kd.R_drew)); exact HO_5.out) (Kd.R_typed (by (with_reducible repeat (first | apply Kd.R_alloc | apply Kd.R_drewN | apply Kd.R_drew)); exact HO_6.out)) (by decide) hg); have n1_ := Aside0.mk (Kd.R_after (ok := (fun k_ => some k_ ≠ (.slice Ao22 t629.length co22 : Value).ownBlock)) (by (with_reducible repeat (first | apply Kd.R_alloc | apply Kd.R_drewN | apply Kd.R_drew)); exact Kd.R_mono HO_7.out (fun _ hk => ⟨hk.2, hk.1⟩)) hg hat); have n2_ := Aside0.mk (blk_grown (g := gb623) (o := .cells #[.int .i64 a1_0, .slice (some ad627) l1_1.length c1_1, .slice A1_2 l1_2.length c1_2] 33 (0, 0)) (by (with_reducible repeat (first | refine blk_drewN ?_ _ | refine blk_drew ?_ | refine blk_alloc ?_ _)); exact BK623.out) hg (Kd.R_ne HO_6.out BK623.out (by decide))); have n3_ := Aside0.mk (Kd.R_after (ok := (fun k_ => some k_ ≠ (u7 : Value).ownBlock)) (by (with_reducible repeat (first | apply Kd.R_alloc | apply Kd.R_drewN | apply Kd.R_drew)); exact Kd.R_mono HO631.out (fun _ hk => ⟨hk.2, hk.1.2⟩)) hg hat); have n4_ := Aside0.mk (hb); have n5_ := Aside0.mk (ho); clear HO_5; clear HO_7; clear BK623; clear HO631; clear HB; clear HO_6; have HO_5 := n0_; have HO_7 := n1_; have BK623 := n2_; have HO631 := n3_; have HB := n4_; have HO634 := n5_; clear n0_ n1_ n2_ n3_ n4_ n5_; clear ho hb hg hat; have p635 : 0 ≤ (x8_1 : Int) := of_decide_eq_true (by first | (with_reducible assumption) | assumption); have q635 : x8_1 < (t624.length : Int) := of_decide_eq_true (by first | (with_reducible assumption) | assumption); obtain ⟨ad635, e635, hx635_0⟩ := Kd.at_int (Kd.R_reads' HO_5.out).2.2 x8_1 p635 q635; obtain rfl : ad628 = ad635 := (by injection e635); replace p635 := eq_true p635; replace q635 := eq_true q635; have p636 : 0 ≤ ((ji13) : Int) := of_decide_eq_true (by first | (with_reducible assumption) | assumption); have q636 : (ji13) < (t629.length : Int) := of_decide_eq_true (by first | (with_reducible assumption) | assumption); obtain ⟨ad636, e636, hx636_0⟩ := Kd.at_string (Kd.R_reads' HO631.out).2.2 (ji13) p636 q636; cases e636; replace p636 := eq_true p636; replace q636 := eq_true q636) | ((with_reducible refine gate_builtin (b := .append) (xs := #[.tmp 43, .tmp 52]) rfl ?_); (try (refine gate_guard (by rfl) ?_; dsimp only)); at_builtin; refine Kd.R_append Kd.string (w0 := w) w.heap.size rfl (.tmp 43) (.tmp 52) 30 9 (.string ⟨#[]⟩) 16 rfl Tryz.underlying30 info9 rfl (by decide) (by omega) u7 x7_1 (rdOf ByteArray.empty t629 (ji13)) [.string (rdOf ByteArray.empty t629 (ji13))] (fun k_ => some k_ ≠ (.slice (some ad636) t629.length co22 : Value).ownBlock ∧ some k_ ≠ (v633 : Value).ownBlock) (fun _ => False) rfl rfl ?aP (fun _ hk => hk.elim) ?aF ?aO ?aB ?aS ?aL ?_; (case aP => exact rfl); (case aB => exact (by repeat (first | (with_reducible first | exact HB.out | apply below_alloc | apply pw_below_drewN | apply below_drew1 | refine below_set ?_ GE623.out) | exact HB.out))); (case aF => exact (fun k_ hk => ⟨Kd.fresh' (Kd.R_lt (by (with_reducible repeat (first | apply Kd.R_alloc | apply Kd.R_drewN | apply Kd.R_drew)); exact HO631.out)) k_ hk, Kd.fresh' (Kd.R_lt (by (with_reducible repeat (first | apply Kd.R_alloc | apply Kd.R_drewN | apply Kd.R_drew)); exact HO634.out)) k_ hk⟩)); (case aO => exact (by (with_reducible repeat (first | apply Kd.R_alloc | apply Kd.R_drewN | apply Kd.R_drew)); exact HO_7.out)); (case aS => exact (below_size (by repeat (first | (with_reducible first | exact HB.out | apply below_alloc | apply pw_below_drewN | apply below_drew1 | refine below_set ?_ GE623.out) | exact HB.out)))); (case aL => have := LMc16.out; omega); intro v638 w23 ho hb hg hat; rw [← Ny637.out] at ho; have n0_ := Aside0.mk (Kd.R_over' (by (with_reducible repeat (first | apply Kd.R_alloc | apply Kd.R_drewN | apply Kd.R_drew)); exact HO_5.out) (Kd.R_typed (by (with_reducible repeat (first | apply Kd.R_alloc | apply Kd.R_drewN | apply Kd.R_drew)); exact HO_7.out)) (by decide) hg); have n1_ := Aside0.mk (blk_grown (g := gb623) (o := .cells #[.int .i64 a1_0, .slice (some ad627) l1_1.length c1_1, .slice A1_2 l1_2.length c1_2] 33 (0, 0)) (by (with_reducible repeat (first | refine blk_drewN ?_ _ | refine blk_drew ?_ | refine blk_alloc ?_ _)); exact BK623.out) hg (Kd.R_ne HO_7.out BK623.out (by decide))); have n2_ := Aside0.mk (Kd.R_after (ok := (fun k_ => some k_ ≠ (v633 : Value).ownBlock)) (by (with_reducible repeat (first | apply Kd.R_alloc | apply Kd.R_drewN | apply Kd.R_drew)); exact Kd.R_mono HO631.out (fun _ hk => ⟨hk.2, hk.1⟩)) hg hat); have n3_ := Aside0.mk (Kd.R_after (ok := (fun k_ => some k_ ≠ (.slice (some ad636) t629.length co22 : Value).ownBlock)) (by (with_reducible repeat (first | apply Kd.R_alloc | apply Kd.R_drewN | apply Kd.R_drew)); exact Kd.R_mono HO634.out (fun _ hk => ⟨hk.2, hk.1⟩)) hg hat); have n4_ := Aside0.mk (hb); have n5_ := Aside0.mk (ho); clear HO_5; clear BK623; clear HO631; clear HO634; clear HB; clear HO_7; have HO_5 := n0_; have BK623 := n1_; have HO631 := n2_; have HO634 := n3_; have HB := n4_; have HO639 := n5_; clear n0_ n1_ n2_ n3_ n4_ n5_; clear ho hb hg hat))
            go_roundg k1
            case measure => have := HK1.out; omega
            case rel => exact ⟨(y632), (y637), (wrap64 (x8_1 + 1)), (by first | rfl | (simp; done) | (simp [*]; done)), (by first | exact H' | (rw [hji13]; exact H')), ⟨by have := HK1.out; omega⟩, ⟨by (with_reducible repeat (first | apply Kd.R_alloc | apply Kd.R_drewN | apply Kd.R_drew)); exact HO_5.out⟩, ⟨by (with_reducible repeat (first | apply Kd.R_alloc | apply Kd.R_drewN | apply Kd.R_drew)); exact Kd.R_mono HO634.out (fun _ hk => hk.2)⟩, ⟨by (with_reducible repeat (first | apply Kd.R_alloc | apply Kd.R_drewN | apply Kd.R_drew)); exact Kd.R_mono HO639.out (fun _ hk => hk.2)⟩, ⟨by (with_reducible repeat (first | refine blk_drewN ?_ _ | refine blk_drew ?_ | refine blk_alloc ?_ _)); exact BK623.out⟩, ⟨by repeat (first | (with_reducible first | exact HB.out | apply below_alloc | apply pw_below_drewN | apply below_drew1 | refine below_set ?_ GE623.out) | exact HB.out)⟩⟩
           ·rw [if_neg c16] at H
            exact absurd H (by simp)
          ·rw [if_neg c15] at H
           exact absurd H (by simp)
         ·rw [if_neg c14] at H
          exact absurd H (by simp)
        ·rw [if_neg c12] at H
         exact absurd H (by simp)
       ·rw [if_neg c10] at H
        exact absurd H (by simp)
      ·rw [if_neg c9] at H
       exact absurd H (by simp)
     ·rw [if_neg c8] at H
      have c8b0 : decide (x8_1 < (l1_1.length : Int)) = false := decide_eq_false c8
      clear c8
      have H' := Aside0.mk H
      clear H
      have hcz24_0 : wr.cell? ⟨gb623, 0, none⟩ = some (.int .i64 a1_0) := (blk_cell BK623.out 0).trans rfl
      have hcz24_1 : wr.cell? ⟨gb623, 1, none⟩ = some (.slice A1_1 l1_1.length c1_1) := (blk_cell BK623.out 1).trans rfl
      have hcz24_2 : wr.cell? ⟨gb623, 2, none⟩ = some (.slice A1_2 l1_2.length c1_2) := (blk_cell BK623.out 2).trans rfl
      have hfz24_0 := blk_frozen BK623.out 0
      have hfz24_1 := blk_frozen BK623.out 1
      have hfz24_2 := blk_frozen BK623.out 2
      go_wp2
      first | ((try rw [← hji13]); go_meet) | ((try rw [hji13]); go_meet) | go_meet
      case rel => exact ⟨_, (x6_1), (x7_1), (by first | exact H' | (rw [hji13]; exact H')), ⟨by have := HK1.out; first | omega | exact Nat.le_refl _⟩, ⟨by (with_reducible repeat (first | apply Kd.R_alloc | apply Kd.R_drewN | apply Kd.R_drew)); exact HO_6.out⟩, ⟨by (with_reducible repeat (first | apply Kd.R_alloc | apply Kd.R_drewN | apply Kd.R_drew)); exact HO_7.out⟩, ⟨by (with_reducible repeat (first | refine blk_drewN ?_ _ | refine blk_drew ?_ | refine blk_alloc ?_ _)); exact BK623.out⟩, ⟨by repeat (first | (with_reducible first | exact HB.out | apply below_alloc | apply pw_below_drewN | apply below_drew1 | refine below_set ?_ GE623.out) | exact HB.out)⟩⟩
    ·rw [if_neg c7] at H
     have c7b0 : decide (x8_1 < 18) = false := decide_eq_false c7
     clear c7
     (first | rw [c7b0] | (simp only [i64_w, i32_w]; rw [c7b0]) | skip)
     have H' := Aside0.mk H
     clear H; go_wp2
     first | ((try rw [← hji13]); go_meet) | ((try rw [hji13]); go_meet) | go_meet
     case rel => exact ⟨_, (x6_1), (x7_1), (by first | exact H' | (rw [hji13]; exact H')), ⟨by have := HK1.out; first | omega | exact Nat.le_refl _⟩, ⟨by (with_reducible repeat (first | apply Kd.R_alloc | apply Kd.R_drewN | apply Kd.R_drew)); exact HO_6.out⟩, ⟨by (with_reducible repeat (first | apply Kd.R_alloc | apply Kd.R_drewN | apply Kd.R_drew)); exact HO_7.out⟩, ⟨by (with_reducible repeat (first | refine blk_drewN ?_ _ | refine blk_drew ?_ | refine blk_alloc ?_ _)); exact BK623.out⟩, ⟨by repeat (first | (with_reducible first | exact HB.out | apply below_alloc | apply pw_below_drewN | apply below_drew1 | refine below_set ?_ GE623.out) | exact HB.out)⟩⟩
 case rest =>
  clear HC4
  try clear c1
  try clear p2
  try clear c4
  try clear p6
  try clear q6
  try clear hx6
  try clear c7
  try clear c7b0
  try clear c8
  try clear c8b0
  try clear c9
  try clear c9b0
  try clear c10
  try clear c10b0
  try clear c11
  try clear c12
  try clear c14
  try clear c14b0
  try clear c15
  try clear c15b0
  try clear c16
  try clear hcz17_0
  try clear hcz17_1
  try clear hcz17_2
  try clear hcz24_0
  try clear hcz24_1
  try clear hcz24_2
  try clear hfz17_0
  try clear hfz17_1
  try clear hfz17_2
  try clear hfz24_0
  try clear hfz24_1
  try clear hfz24_2
  try clear hx627_0
  try clear hx628_0
  try clear hx635_0
  try clear hx636_0
  try clear p2
  try clear p627
  try clear p628
  try clear p635
  try clear p636
  try clear q627
  try clear q628
  try clear q635
  try clear q636
  obtain ⟨kq, x6_3, x7_3, HA, HJ3, HO_6, HO_7, BK623, HB⟩ := hcut
  cases kq with
  | zero => exact absurd HA.out (by simp [customhouseref03_Checked.j1])
  | succ kj3 =>
   have H := HA.out; clear HA
   simp only [customhouseref03_Checked.j1] at H
   replace H := Option.bind_eq_some_iff.mp H
   obtain ⟨t640, A250, H⟩ := H
   replace H : ((customhouseref01_Sum.f kj3 t640).bind fun t641 => ((customhouseref01_Joined.f (([(⟨#[108, 101, 97, 102]⟩ : ByteArray), t641] : List ByteArray))).bind fun t645 => ((some (([t640, t645] : List ByteArray) : List ByteArray)).bind fun y646 => (if x6_3.length + y646.length < 8796093022208 then ((customhouseref01_Sum.f kj3 t645).bind fun t652 => (customhouseref03_Checked.l1 kj3 (x6_3 ++ y646) t652 a1_0 0 a1_0 l1_1 l1_2)) else (none))))) = some r := H
   have A25 := Aside0.mk A250
   clear A250
   replace H := Option.bind_eq_some_iff.mp H
   obtain ⟨t641, A260, H⟩ := H
   replace H : ((customhouseref01_Joined.f (([(⟨#[108, 101, 97, 102]⟩ : ByteArray), t641] : List ByteArray))).bind fun t645 => ((some (([t640, t645] : List ByteArray) : List ByteArray)).bind fun y646 => (if x6_3.length + y646.length < 8796093022208 then ((customhouseref01_Sum.f kj3 t645).bind fun t652 => (customhouseref03_Checked.l1 kj3 (x6_3 ++ y646) t652 a1_0 0 a1_0 l1_1 l1_2)) else (none)))) = some r := H
   have A26 := Aside0.mk A260
   clear A260
   obtain ⟨y642, hy642⟩ : ∃ y_ : List ByteArray, y_ = (([(⟨#[108, 101, 97, 102]⟩ : ByteArray), t641] : List ByteArray)) := ⟨_, rfl⟩
   replace H : ((customhouseref01_Joined.f y642).bind fun t645 => ((some (([t640, t645] : List ByteArray) : List ByteArray)).bind fun y646 => (if x6_3.length + y646.length < 8796093022208 then ((customhouseref01_Sum.f kj3 t645).bind fun t652 => (customhouseref03_Checked.l1 kj3 (x6_3 ++ y646) t652 a1_0 0 a1_0 l1_1 l1_2)) else (none)))) = some r := by first | (rw [hy642]; with_reducible exact H) | (have H2_ := (Option.bind_some _ _).symm.trans H; rw [hy642]; with_reducible exact H2_) | (have H2_ := (Option.bind_some _ _).symm.trans H; with_reducible exact H2_) | with_reducible exact H | (rw [hy642]; exact H) | exact H
   have Ny642 := Aside0.mk hy642
   clear hy642
   replace H := Option.bind_eq_some_iff.mp H
   obtain ⟨t645, A270, H⟩ := H
   replace H : ((some (([t640, t645] : List ByteArray) : List ByteArray)).bind fun y646 => (if x6_3.length + y646.length < 8796093022208 then ((customhouseref01_Sum.f kj3 t645).bind fun t652 => (customhouseref03_Checked.l1 kj3 (x6_3 ++ y646) t652 a1_0 0 a1_0 l1_1 l1_2)) else (none))) = some r := H
   have A27 := Aside0.mk A270
   clear A270
   obtain ⟨y646, hy646⟩ : ∃ y_ : List ByteArray, y_ = (([t640, t645] : List ByteArray)) := ⟨_, rfl⟩
   replace H : (if x6_3.length + y646.length < 8796093022208 then ((customhouseref01_Sum.f kj3 t645).bind fun t652 => (customhouseref03_Checked.l1 kj3 (x6_3 ++ y646) t652 a1_0 0 a1_0 l1_1 l1_2)) else (none)) = some r := by first | (rw [hy646]; with_reducible exact H) | (have H2_ := (Option.bind_some _ _).symm.trans H; rw [hy646]; with_reducible exact H2_) | (have H2_ := (Option.bind_some _ _).symm.trans H; with_reducible exact H2_) | with_reducible exact H | (rw [hy646]; exact H) | exact H
   have Ny646 := Aside0.mk hy646
   clear hy646
   by_cases c28 : x6_3.length + y646.length < 8796093022208
   ·rw [if_pos c28] at H
    have LMc28 := Aside0.mk c28
    clear c28
    obtain ⟨y649, hy649⟩ : ∃ y_ : List ByteArray, y_ = (x6_3 ++ y646) := ⟨_, rfl⟩
    replace H : ((customhouseref01_Sum.f kj3 t645).bind fun t652 => (customhouseref03_Checked.l1 kj3 y649 t652 a1_0 0 a1_0 l1_1 l1_2)) = some r := by first | (rw [hy649]; with_reducible exact H) | (have H2_ := (Option.bind_some _ _).symm.trans H; rw [hy649]; with_reducible exact H2_) | (have H2_ := (Option.bind_some _ _).symm.trans H; with_reducible exact H2_) | with_reducible exact H | (rw [hy649]; exact H) | exact H
    have Ny649 := Aside0.mk hy649
    clear hy649
    replace H := Option.bind_eq_some_iff.mp H
    obtain ⟨t652, A290, H⟩ := H
    replace H : (customhouseref03_Checked.l1 kj3 y649 t652 a1_0 0 a1_0 l1_1 l1_2) = some r := H
    have A29 := Aside0.mk A290
    clear A290
    have H' := Aside0.mk H
    clear H
    obtain ⟨Ao30, co30, eo30⟩ := Kd.R_slice HO_7.out
    subst eo30
    go_wp2_with (first | ((with_reducible refine gate_callee (f := 54) rfl ?_); refine goesL_ (some 55) rfl rfl Tryz.func54 (by kernel_rfl) rfl #[.slice Ao30 x7_3.length co30] rfl (by (try simp only [List.map_toArray, List.map_cons, List.map_nil]); first | done | rfl | (simp only [List.length_drop, List.length_take]; rfl)) ?_; (with_reducible refine (customhouseref01_Joined.calls _ _ x7_3 t640 _ ?side1 ?side2 A25.out).mono ?_); (case side1 => repeat (first | exact (Kd.R_reads' HO_7.out).2.2 | (with_reducible refine Kd.C_alloc ?_ _) | (with_reducible refine Kd.C_drewN ?_ _) | (with_reducible refine Kd.C_drew ?_))); (case side2 => exact (Kd.R_reads' HO_7.out).2.1); rintro e w31 ⟨rfl, hb⟩; refine ⟨_, rfl, ?_⟩; have n0_ := Aside0.mk (Kd.R_below (by (with_reducible repeat (first | apply Kd.R_alloc | apply Kd.R_drewN | apply Kd.R_drew)); exact HO_6.out) hb); have n1_ := Aside0.mk (Kd.R_below (by (with_reducible repeat (first | apply Kd.R_alloc | apply Kd.R_drewN | apply Kd.R_drew)); exact HO_7.out) hb); have n2_ := Aside0.mk (blk_below (g := gb623) (o := .cells #[.int .i64 a1_0, .slice A1_1 l1_1.length c1_1, .slice A1_2 l1_2.length c1_2] 33 (0, 0)) (by (with_reducible repeat (first | refine blk_drewN ?_ _ | refine blk_drew ?_ | refine blk_alloc ?_ _)); exact BK623.out) hb); have n3_ := Aside0.mk (below_step (by repeat (first | (with_reducible first | exact HB.out | apply below_alloc | apply pw_below_drewN | apply below_drew1 | refine below_set ?_ GE623.out) | exact HB.out)) hb); clear HO_6; clear HO_7; clear BK623; clear HB; have HO_6 := n0_; have HO_7 := n1_; have BK623 := n2_; have HB := n3_; clear n0_ n1_ n2_ n3_; (try clear hb); (try clear hb2); (try clear hk); (try clear hi)) | ((with_reducible refine gate_callee (f := 49) rfl ?_); refine goesL_ (some 57) rfl rfl Tryz.func49 (by kernel_rfl) rfl #[.string t640] rfl (by (try simp only [List.map_toArray, List.map_cons, List.map_nil]); first | done | rfl | (simp only [List.length_drop, List.length_take]; rfl)) ?_; (with_reducible refine (customhouseref01_Sum.calls kj3 t640 t641 _ A26.out).mono ?_); rintro e w' ⟨rfl, ⟨nd, rfl⟩⟩; refine ⟨_, rfl, ?_⟩) | ((with_reducible refine gate_dst (N := 58) rfl ?_); (try (refine gate_guard (by rfl) ?_; dsimp only)); refine Kd.R_lit Kd.string _ 9 ?hg (N := 58) ?hd (xs := ([(⟨#[108, 101, 97, 102]⟩ : ByteArray), t641] : List ByteArray)) (inner := [.string (⟨#[108, 101, 97, 102]⟩ : ByteArray), .string t641]) (ok := fun _ => True) (okp := fun _ => True) ?hr ?hp (fun _ hk => hk) trivial (Below.refl _ _) (Nat.le_refl _) (by simp) ?_; (case hd => rfl); (case hg => rfl); (case hr => first | (go_simp; done) | (go_simp; rfl)); (case hp => exact (Reps.one (show Kd.M Kd.string _ _ _ (⟨#[108, 101, 97, 102]⟩ : ByteArray) [.string (⟨#[108, 101, 97, 102]⟩ : ByteArray)] from rfl) (Reps.one (show Kd.M Kd.string _ _ _ t641 [.string t641] from rfl) (Reps.none _ _)))); intro v643 w32 ho33 hb hg_ hnew_; clear hg_ hnew_; (first | rw [← Ny642.out] at ho33 | (simp only [Int.reduceToNat] at ho33; rw [← Ny642.out] at ho33)); have n0_ := Aside0.mk (Kd.R_elder' (by (with_reducible repeat (first | apply Kd.R_alloc | apply Kd.R_drewN | apply Kd.R_drew)); exact HO_6.out) (Kd.R_base ho33) hb); have n1_ := Aside0.mk (Kd.R_elder' (by (with_reducible repeat (first | apply Kd.R_alloc | apply Kd.R_drewN | apply Kd.R_drew)); exact HO_7.out) (Kd.R_base ho33) hb); have n2_ := Aside0.mk (Kd.R_lower (Kd.R_new' (Kd.R_new' ho33 (Kd.R_lt (by (with_reducible repeat (first | apply Kd.R_alloc | apply Kd.R_drewN | apply Kd.R_drew)); exact HO_6.out))) (Kd.R_lt (by (with_reducible repeat (first | apply Kd.R_alloc | apply Kd.R_drewN | apply Kd.R_drew)); exact HO_7.out))) (below_size (by repeat (first | (with_reducible first | exact HB.out | apply below_alloc | apply pw_below_drewN | apply below_drew1 | refine below_set ?_ GE623.out) | exact HB.out)))); have n3_ := Aside0.mk (blk_below (g := gb623) (o := .cells #[.int .i64 a1_0, .slice A1_1 l1_1.length c1_1, .slice A1_2 l1_2.length c1_2] 33 (0, 0)) (by (with_reducible repeat (first | refine blk_drewN ?_ _ | refine blk_drew ?_ | refine blk_alloc ?_ _)); exact BK623.out) hb); have n4_ := Aside0.mk (below_step (by repeat (first | (with_reducible first | exact HB.out | apply below_alloc | apply pw_below_drewN | apply below_drew1 | refine below_set ?_ GE623.out) | exact HB.out)) hb); clear HO_6; clear HO_7; clear BK623; clear HB; have HO_6 := n0_; have HO_7 := n1_; have HO644 := n2_; have BK623 := n3_; have HB := n4_; clear n0_ n1_ n2_ n3_ n4_; clear hb ho33; obtain ⟨Ao34, co34, eo34⟩ := Kd.R_slice HO644.out; subst eo34) | ((with_reducible refine gate_callee (f := 54) rfl ?_); refine goesL_ (some 59) rfl rfl Tryz.func54 (by kernel_rfl) rfl #[.slice Ao34 y642.length co34] rfl (by (try simp only [List.map_toArray, List.map_cons, List.map_nil]); first | done | rfl | (simp only [List.length_drop, List.length_take]; rfl)) ?_; (with_reducible refine (customhouseref01_Joined.calls _ _ y642 t645 _ ?side1 ?side2 A27.out).mono ?_); (case side1 => repeat (first | exact (Kd.R_reads' HO644.out).2.2 | (with_reducible refine Kd.C_alloc ?_ _) | (with_reducible refine Kd.C_drewN ?_ _) | (with_reducible refine Kd.C_drew ?_))); (case side2 => exact (Kd.R_reads' HO644.out).2.1); rintro e w35 ⟨rfl, hb⟩; refine ⟨_, rfl, ?_⟩; have n0_ := Aside0.mk (Kd.R_below (by (with_reducible repeat (first | apply Kd.R_alloc | apply Kd.R_drewN | apply Kd.R_drew)); exact HO_6.out) hb); have n1_ := Aside0.mk (Kd.R_below (by (with_reducible repeat (first | apply Kd.R_alloc | apply Kd.R_drewN | apply Kd.R_drew)); exact HO_7.out) hb); have n2_ := Aside0.mk (Kd.R_below (by (with_reducible repeat (first | apply Kd.R_alloc | apply Kd.R_drewN | apply Kd.R_drew)); exact HO644.out) hb); have n3_ := Aside0.mk (blk_below (g := gb623) (o := .cells #[.int .i64 a1_0, .slice A1_1 l1_1.length c1_1, .slice A1_2 l1_2.length c1_2] 33 (0, 0)) (by (with_reducible repeat (first | refine blk_drewN ?_ _ | refine blk_drew ?_ | refine blk_alloc ?_ _)); exact BK623.out) hb); have n4_ := Aside0.mk (below_step (by repeat (first | (with_reducible first | exact HB.out | apply below_alloc | apply pw_below_drewN | apply below_drew1 | refine below_set ?_ GE623.out) | exact HB.out)) hb); clear HO_6; clear HO_7; clear HO644; clear BK623; clear HB; have HO_6 := n0_; have HO_7 := n1_; have HO644 := n2_; have BK623 := n3_; have HB := n4_; clear n0_ n1_ n2_ n3_ n4_; (try clear hb); (try clear hb2); (try clear hk); (try clear hi)) | ((with_reducible refine gate_dst (N := 63) rfl ?_); (try (refine gate_guard (by rfl) ?_; dsimp only)); refine Kd.R_lit Kd.string _ 9 ?hg (N := 63) ?hd (xs := ([t640, t645] : List ByteArray)) (inner := [.string t640, .string t645]) (ok := fun _ => True) (okp := fun _ => True) ?hr ?hp (fun _ hk => hk) trivial (Below.refl _ _) (Nat.le_refl _) (by simp) ?_; (case hd => rfl); (case hg => rfl); (case hr => first | (go_simp; done) | (go_simp; rfl)); (case hp => exact (Reps.one (show Kd.M Kd.string _ _ _ t640 [.string t640] from rfl) (Reps.one (show Kd.M Kd.string _ _ _ t645 [.string t645] from rfl) (Reps.none _ _)))); intro v647 w36 ho37 hb hg_ hnew_; clear hg_ hnew_; (first | rw [← Ny646.out] at ho37 | (simp only [Int.reduceToNat] at ho37; rw [← Ny646.out] at ho37)); have n0_ := Aside0.mk (Kd.R_elder' (by (with_reducible repeat (first | apply Kd.R_alloc | apply Kd.R_drewN | apply Kd.R_drew)); exact HO_6.out) (Kd.R_base ho37) hb); have n1_ := Aside0.mk (Kd.R_elder' (by (with_reducible repeat (first | apply Kd.R_alloc | apply Kd.R_drewN | apply Kd.R_drew)); exact HO_7.out) (Kd.R_base ho37) hb); have n2_ := Aside0.mk (Kd.R_elder' (by (with_reducible repeat (first | apply Kd.R_alloc | apply Kd.R_drewN | apply Kd.R_drew)); exact HO644.out) (Kd.R_base ho37) hb); have n3_ := Aside0.mk (Kd.R_lower (Kd.R_new' (Kd.R_new' (Kd.R_new' ho37 (Kd.R_lt (by (with_reducible repeat (first | apply Kd.R_alloc | apply Kd.R_drewN | apply Kd.R_drew)); exact HO_6.out))) (Kd.R_lt (by (with_reducible repeat (first | apply Kd.R_alloc | apply Kd.R_drewN | apply Kd.R_drew)); exact HO_7.out))) (Kd.R_lt (by (with_reducible repeat (first | apply Kd.R_alloc | apply Kd.R_drewN | apply Kd.R_drew)); exact HO644.out))) (below_size (by repeat (first | (with_reducible first | exact HB.out | apply below_alloc | apply pw_below_drewN | apply below_drew1 | refine below_set ?_ GE623.out) | exact HB.out)))); have n4_ := Aside0.mk (blk_below (g := gb623) (o := .cells #[.int .i64 a1_0, .slice A1_1 l1_1.length c1_1, .slice A1_2 l1_2.length c1_2] 33 (0, 0)) (by (with_reducible repeat (first | refine blk_drewN ?_ _ | refine blk_drew ?_ | refine blk_alloc ?_ _)); exact BK623.out) hb); have n5_ := Aside0.mk (below_step (by repeat (first | (with_reducible first | exact HB.out | apply below_alloc | apply pw_below_drewN | apply below_drew1 | refine below_set ?_ GE623.out) | exact HB.out)) hb); clear HO_6; clear HO_7; clear HO644; clear BK623; clear HB; have HO_6 := n0_; have HO_7 := n1_; have HO644 := n2_; have HO648 := n3_; have BK623 := n4_; have HB := n5_; clear n0_ n1_ n2_ n3_ n4_ n5_; clear hb ho37; obtain ⟨Ao39, co39, eo39⟩ := Kd.R_slice HO648.out; subst eo39) | ((with_reducible refine gate_builtin (b := .append) (xs := #[.tmp 60, .tmp 63]) rfl ?_); (try (refine gate_guard (by rfl) ?_; dsimp only)); at_builtin; refine Kd.R_append_rows Kd.string (w0 := w) w.heap.size rfl (.tmp 60) (.tmp 63) 30 9 (.string ⟨#[]⟩) 16 rfl Tryz.underlying30 info9 rfl (by decide) (by omega) u6 x6_3 y646 _ _ _ (fun k_ => some k_ ≠ (.slice Ao30 x7_3.length co30 : Value).ownBlock ∧ some k_ ≠ (.slice Ao34 y642.length co34 : Value).ownBlock ∧ some k_ ≠ (.slice Ao39 y646.length co39 : Value).ownBlock) (fun _ => False) rfl rfl ?aO ?aR (fun _ _ h => h) (fun _ h => h.elim) ?aF ?aB ?aS ?aL ?_; (case aR => repeat (first | exact (Kd.R_reads' HO648.out).2.2 | (with_reducible refine Kd.C_alloc ?_ _) | (with_reducible refine Kd.C_drewN ?_ _) | (with_reducible refine Kd.C_drew ?_))); (case aB => exact (by repeat (first | (with_reducible first | exact HB.out | apply below_alloc | apply pw_below_drewN | apply below_drew1 | refine below_set ?_ GE623.out) | exact HB.out))); (case aF => exact (fun k_ hk => ⟨Kd.fresh' (Kd.R_lt (by (with_reducible repeat (first | apply Kd.R_alloc | apply Kd.R_drewN | apply Kd.R_drew)); exact HO_7.out)) k_ hk, Kd.fresh' (Kd.R_lt (by (with_reducible repeat (first | apply Kd.R_alloc | apply Kd.R_drewN | apply Kd.R_drew)); exact HO644.out)) k_ hk, Kd.fresh' (Kd.R_lt (by (with_reducible repeat (first | apply Kd.R_alloc | apply Kd.R_drewN | apply Kd.R_drew)); exact HO648.out)) k_ hk⟩)); (case aO => exact (by (with_reducible repeat (first | apply Kd.R_alloc | apply Kd.R_drewN | apply Kd.R_drew)); exact Kd.R_mono HO_6.out (fun _ hk => ⟨hk.1.1, ⟨hk.1.2, hk.2⟩⟩))); (case aS => exact (below_size (by repeat (first | (with_reducible first | exact HB.out | apply below_alloc | apply pw_below_drewN | apply below_drew1 | refine below_set ?_ GE623.out) | exact HB.out)))); (case aL => have := LMc28.out; omega); intro v650 w38 ho hb hg hat; rw [← Ny649.out] at ho; have n0_ := Aside0.mk (Kd.R_after (ok := (fun k_ => some k_ ≠ (.slice Ao34 y642.length co34 : Value).ownBlock ∧ some k_ ≠ (.slice Ao39 y646.length co39 : Value).ownBlock)) (by (with_reducible repeat (first | apply Kd.R_alloc | apply Kd.R_drewN | apply Kd.R_drew)); exact Kd.R_mono HO_7.out (fun _ hk => ⟨⟨hk.1.2, hk.2⟩, hk.1.1⟩)) hg hat); have n1_ := Aside0.mk (blk_grown (g := gb623) (o := .cells #[.int .i64 a1_0, .slice A1_1 l1_1.length c1_1, .slice A1_2 l1_2.length c1_2] 33 (0, 0)) (by (with_reducible repeat (first | refine blk_drewN ?_ _ | refine blk_drew ?_ | refine blk_alloc ?_ _)); exact BK623.out) hg (Kd.R_ne HO_6.out BK623.out (by decide))); have n2_ := Aside0.mk (Kd.R_after (ok := (fun k_ => some k_ ≠ (.slice Ao30 x7_3.length co30 : Value).ownBlock ∧ some k_ ≠ (.slice Ao39 y646.length co39 : Value).ownBlock)) (by (with_reducible repeat (first | apply Kd.R_alloc | apply Kd.R_drewN | apply Kd.R_drew)); exact Kd.R_mono HO644.out (fun _ hk => ⟨⟨hk.1.2, hk.2⟩, hk.1.1.2⟩)) hg hat); have n3_ := Aside0.mk (Kd.R_after (ok := (fun k_ => some k_ ≠ (.slice Ao30 x7_3.length co30 : Value).ownBlock ∧ some k_ ≠ (.slice Ao34 y642.length co34 : Value).ownBlock)) (by (with_reducible repeat (first | apply Kd.R_alloc | apply Kd.R_drewN | apply Kd.R_drew)); exact Kd.R_mono HO648.out (fun _ hk => ⟨⟨hk.1.2, hk.2⟩, hk.1.1.2⟩)) hg hat); have n4_ := Aside0.mk (hb); have n5_ := Aside0.mk (ho); clear HO_7; clear BK623; clear HO644; clear HO648; clear HB; clear HO_6; have HO_7 := n0_; have BK623 := n1_; have HO644 := n2_; have HO648 := n3_; have HB := n4_; have HO651 := n5_; clear n0_ n1_ n2_ n3_ n4_ n5_; clear ho hb hg hat) | ((with_reducible refine gate_callee (f := 49) rfl ?_); refine goesL_ (some 66) rfl rfl Tryz.func49 (by kernel_rfl) rfl #[.string t645] rfl (by (try simp only [List.map_toArray, List.map_cons, List.map_nil]); first | done | rfl | (simp only [List.length_drop, List.length_take]; rfl)) ?_; (with_reducible refine (customhouseref01_Sum.calls kj3 t645 t652 _ A29.out).mono ?_); rintro e w' ⟨rfl, ⟨nd, rfl⟩⟩; refine ⟨_, rfl, ?_⟩; have hcz40_0 : w38.cell? ⟨gb623, 0, none⟩ = some (.int .i64 a1_0) := (blk_cell BK623.out 0).trans rfl; have hcz40_1 : w38.cell? ⟨gb623, 1, none⟩ = some (.slice A1_1 l1_1.length c1_1) := (blk_cell BK623.out 1).trans rfl; have hcz40_2 : w38.cell? ⟨gb623, 2, none⟩ = some (.slice A1_2 l1_2.length c1_2) := (blk_cell BK623.out 2).trans rfl; have hfz40_0 := blk_frozen BK623.out 0; have hfz40_1 := blk_frozen BK623.out 1; have hfz40_2 := blk_frozen BK623.out 2))
    go_loopg [6, 12, 13, 14] kj3 (fun kq v6 v12 v13 v14 w' => ∃ (x6_2 : List ByteArray) (x12_2 : ByteArray) (x13_2 : Int) (x14_2 : Int), v12 = .string x12_2 ∧ v13 = .int .i64 x13_2 ∧ v14 = .int .i64 x14_2 ∧ Aside0 (customhouseref03_Checked.l1 kq x6_2 x12_2 x13_2 x14_2 a1_0 l1_1 l1_2 = some r) ∧ Aside0 (kq ≤ kj3) ∧ Aside0 (Kd.R Kd.string 9 w' w.heap.size (fun _ => True) v6 x6_2) ∧ Aside0 (w'.heap[gb623]? = some (.cells #[.int .i64 a1_0, (.slice A1_1 l1_1.length c1_1), (.slice A1_2 l1_2.length c1_2)] 33 (0, 0))) ∧ Aside0 (Below w.heap.size w w'))
    case atStart => exact ⟨(y649), (t652), (a1_0), (0), (by first | rfl | (simp; done) | (simp [*]; done)), (by first | rfl | (simp; done) | (simp [*]; done)), (by first | rfl | (simp; done) | (simp [*]; done)), H', ⟨Nat.le_refl _⟩, ⟨by (with_reducible repeat (first | apply Kd.R_alloc | apply Kd.R_drewN | apply Kd.R_drew)); exact Kd.R_mono HO651.out (fun _ hk => trivial)⟩, ⟨by (with_reducible repeat (first | refine blk_drewN ?_ _ | refine blk_drew ?_ | refine blk_alloc ?_ _)); exact BK623.out⟩, ⟨by repeat (first | (with_reducible first | exact HB.out | apply below_alloc | apply pw_below_drewN | apply below_drew1 | refine below_set ?_ GE623.out) | exact HB.out)⟩⟩
    case round =>
     clear H'
     try clear c1
     try clear c2
     try clear p2
     try clear c4
     try clear c5
     try clear p6
     try clear q6
     try clear hx6
     try clear c7
     try clear c7b0
     try clear c8
     try clear c8b0
     try clear c9
     try clear c9b0
     try clear c10
     try clear c10b0
     try clear c11
     try clear c12
     try clear c14
     try clear c14b0
     try clear c15
     try clear c15b0
     try clear c16
     try clear c28
     try clear hcz17_0
     try clear hcz17_1
     try clear hcz17_2
     try clear hcz24_0
     try clear hcz24_1
     try clear hcz24_2
     try clear hcz40_0
     try clear hcz40_1
     try clear hcz40_2
     try clear hfz17_0
     try clear hfz17_1
     try clear hfz17_2
     try clear hfz24_0
     try clear hfz24_1
     try clear hfz24_2
     try clear hfz40_0
     try clear hfz40_1
     try clear hfz40_2
     try clear hx627_0
     try clear hx628_0
     try clear hx635_0
     try clear hx636_0
     try clear p2
     try clear p6
     try clear p627
     try clear p628
     try clear p635
     try clear p636
     try clear q6
     try clear q627
     try clear q628
     try clear q635
     try clear q636
     obtain ⟨x6_2, x12_2, x13_2, x14_2, rfl, rfl, rfl, HA, HK2, HO_6, BK623, HB⟩ := hrel
     cases gk with
     | zero => exact absurd HA.out (by simp [customhouseref03_Checked.l1])
     | succ k2 =>
      have H := HA.out; clear HA
      simp only [customhouseref03_Checked.l1] at H
      by_cases c41 : x14_2 < (l1_2.length : Int)
      ·rw [if_pos c41] at H
       have c41b0 : decide (x14_2 < (l1_2.length : Int)) = true := decide_eq_true c41
       clear c41
       by_cases c42 : 0 ≤ x14_2
       ·rw [if_pos c42] at H
        have c42b0 : decide (0 ≤ x14_2) = true := decide_eq_true c42
        clear c42
        replace H := Option.bind_eq_some_iff.mp H
        obtain ⟨t654, A430, H⟩ := H
        replace H : (if (Int.tmod x13_2 2) = 1 then ((customhouseref03_node.f (rdOf ByteArray.empty l1_2 x14_2) x12_2).bind fun t656 => (if x6_2.length < 8796093022208 then ((customhouseref01_Sum.f k2 t656).bind fun t660 => (customhouseref03_Checked.l1 k2 (x6_2 ++ [t656]) t660 (wrap64 (Int.tdiv x13_2 2)) (wrap64 (x14_2 + 1)) a1_0 l1_1 l1_2)) else (none))) else (if x6_2.length < 8796093022208 then ((customhouseref01_Sum.f k2 t654).bind fun t664 => (customhouseref03_Checked.l1 k2 (x6_2 ++ [t654]) t664 (wrap64 (Int.tdiv x13_2 2)) (wrap64 (x14_2 + 1)) a1_0 l1_1 l1_2)) else (none))) = some r := H
        have A43 := Aside0.mk A430
        clear A430
        by_cases c44 : (Int.tmod x13_2 2) = 1
        ·rw [if_pos c44] at H
         have c44b0 : ((Int.tmod x13_2 2) == 1) = true := beq_iff_eq.mpr c44
         have c44b1 : ((Int.tmod x13_2 2) != 1) = false := bne_eq_false_iff_eq.mpr c44
         clear c44
         replace H := Option.bind_eq_some_iff.mp H
         obtain ⟨t656, A450, H⟩ := H
         replace H : (if x6_2.length < 8796093022208 then ((customhouseref01_Sum.f k2 t656).bind fun t660 => (customhouseref03_Checked.l1 k2 (x6_2 ++ [t656]) t660 (wrap64 (Int.tdiv x13_2 2)) (wrap64 (x14_2 + 1)) a1_0 l1_1 l1_2)) else (none)) = some r := H
         have A45 := Aside0.mk A450
         clear A450
         by_cases c46 : x6_2.length < 8796093022208
         ·rw [if_pos c46] at H
          have LMc46 := Aside0.mk c46
          clear c46
          obtain ⟨y657, hy657⟩ : ∃ y_ : List ByteArray, y_ = (x6_2 ++ [t656]) := ⟨_, rfl⟩
          replace H : ((customhouseref01_Sum.f k2 t656).bind fun t660 => (customhouseref03_Checked.l1 k2 y657 t660 (wrap64 (Int.tdiv x13_2 2)) (wrap64 (x14_2 + 1)) a1_0 l1_1 l1_2)) = some r := by first | (rw [hy657]; with_reducible exact H) | (have H2_ := (Option.bind_some _ _).symm.trans H; rw [hy657]; with_reducible exact H2_) | (have H2_ := (Option.bind_some _ _).symm.trans H; with_reducible exact H2_) | with_reducible exact H | (rw [hy657]; exact H) | exact H
          have Ny657 := Aside0.mk hy657
          clear hy657
          replace H := Option.bind_eq_some_iff.mp H
          obtain ⟨t660, A470, H⟩ := H
          replace H : (customhouseref03_Checked.l1 k2 y657 t660 (wrap64 (Int.tdiv x13_2 2)) (wrap64 (x14_2 + 1)) a1_0 l1_1 l1_2) = some r := H
          have A47 := Aside0.mk A470
          clear A470
          have H' := Aside0.mk H
          clear H
          have hcz48_0 : wr.cell? ⟨gb623, 0, none⟩ = some (.int .i64 a1_0) := (blk_cell BK623.out 0).trans rfl
          have hcz48_1 : wr.cell? ⟨gb623, 1, none⟩ = some (.slice A1_1 l1_1.length c1_1) := (blk_cell BK623.out 1).trans rfl
          have hcz48_2 : wr.cell? ⟨gb623, 2, none⟩ = some (.slice A1_2 l1_2.length c1_2) := (blk_cell BK623.out 2).trans rfl
          have hfz48_0 := blk_frozen BK623.out 0
          have hfz48_1 := blk_frozen BK623.out 1
          have hfz48_2 := blk_frozen BK623.out 2
          have p653 : 0 ≤ (x14_2 : Int) := of_decide_eq_true (by first | (with_reducible assumption) | assumption)
          have q653 : x14_2 < (l1_2.length : Int) := of_decide_eq_true (by first | (with_reducible assumption) | assumption)
          obtain ⟨ad653, e653, hx653_0⟩ := Kd.at_string HR1_2.out x14_2 p653 q653
          cases e653
          replace hx653_0 := (HB.out.cell (World.block_lt_of_cell? w _ hx653_0)).trans hx653_0
          replace p653 := eq_true p653
          replace q653 := eq_true q653
          go_wp2_with (first | ((with_reducible refine gate_callee (f := 119) rfl ?_); refine goesL_ (some 82) rfl rfl Tryz.func119 (by kernel_rfl) rfl #[.string x12_2, .string (rdOf ByteArray.empty l1_2 x14_2)] rfl (by (try simp only [List.map_toArray, List.map_cons, List.map_nil]); first | done | rfl | (simp only [List.length_drop, List.length_take]; rfl)) ?_; (with_reducible refine (customhouseref03_node.calls x12_2 (rdOf ByteArray.empty l1_2 x14_2) t654 _ A43.out).mono ?_); rintro e w49 ⟨rfl, hb⟩; refine ⟨_, rfl, ?_⟩; have n0_ := Aside0.mk (Kd.R_below (by (with_reducible repeat (first | apply Kd.R_alloc | apply Kd.R_drewN | apply Kd.R_drew)); exact HO_6.out) hb); have n1_ := Aside0.mk (blk_below (g := gb623) (o := .cells #[.int .i64 a1_0, .slice A1_1 l1_1.length c1_1, .slice (some ad653) l1_2.length c1_2] 33 (0, 0)) (by (with_reducible repeat (first | refine blk_drewN ?_ _ | refine blk_drew ?_ | refine blk_alloc ?_ _)); exact BK623.out) hb); have n2_ := Aside0.mk (below_step (by repeat (first | (with_reducible first | exact HB.out | apply below_alloc | apply pw_below_drewN | apply below_drew1 | refine below_set ?_ GE623.out) | exact HB.out)) hb); clear HO_6; clear BK623; clear HB; have HO_6 := n0_; have BK623 := n1_; have HB := n2_; clear n0_ n1_ n2_; (try clear hb); (try clear hb2); (try clear hk); (try clear hi); have hcz50_0 : w49.cell? ⟨gb623, 0, none⟩ = some (.int .i64 a1_0) := (blk_cell BK623.out 0).trans rfl; have hcz50_1 : w49.cell? ⟨gb623, 1, none⟩ = some (.slice A1_1 l1_1.length c1_1) := (blk_cell BK623.out 1).trans rfl; have hcz50_2 : w49.cell? ⟨gb623, 2, none⟩ = some (.slice (some ad653) l1_2.length c1_2) := (blk_cell BK623.out 2).trans rfl; have hfz50_0 := blk_frozen BK623.out 0; have hfz50_1 := blk_frozen BK623.out 1; have hfz50_2 := blk_frozen BK623.out 2; have p655 : 0 ≤ (x14_2 : Int) := of_decide_eq_true (by first | (with_reducible assumption) | assumption); have q655 : x14_2 < (l1_2.length : Int) := of_decide_eq_true (by first | (with_reducible assumption) | assumption); obtain ⟨ad655, e655, hx655_0⟩ := Kd.at_string HR1_2.out x14_2 p655 q655; obtain rfl : ad653 = ad655 := (by injection e655); replace hx655_0 := (HB.out.cell (World.block_lt_of_cell? w _ hx655_0)).trans hx655_0; replace p655 := eq_true p655; replace q655 := eq_true q655) | ((with_reducible refine gate_callee (f := 119) rfl ?_); refine goesL_ (some 92) rfl rfl Tryz.func119 (by kernel_rfl) rfl #[.string (rdOf ByteArray.empty l1_2 x14_2), .string x12_2] rfl (by (try simp only [List.map_toArray, List.map_cons, List.map_nil]); first | done | rfl | (simp only [List.length_drop, List.length_take]; rfl)) ?_; (with_reducible refine (customhouseref03_node.calls (rdOf ByteArray.empty l1_2 x14_2) x12_2 t656 _ A45.out).mono ?_); rintro e w51 ⟨rfl, hb⟩; refine ⟨_, rfl, ?_⟩; have n0_ := Aside0.mk (Kd.R_below (by (with_reducible repeat (first | apply Kd.R_alloc | apply Kd.R_drewN | apply Kd.R_drew)); exact HO_6.out) hb); have n1_ := Aside0.mk (blk_below (g := gb623) (o := .cells #[.int .i64 a1_0, .slice A1_1 l1_1.length c1_1, .slice (some ad653) l1_2.length c1_2] 33 (0, 0)) (by (with_reducible repeat (first | refine blk_drewN ?_ _ | refine blk_drew ?_ | refine blk_alloc ?_ _)); exact BK623.out) hb); have n2_ := Aside0.mk (below_step (by repeat (first | (with_reducible first | exact HB.out | apply below_alloc | apply pw_below_drewN | apply below_drew1 | refine below_set ?_ GE623.out) | exact HB.out)) hb); clear HO_6; clear BK623; clear HB; have HO_6 := n0_; have BK623 := n1_; have HB := n2_; clear n0_ n1_ n2_; (try clear hb); (try clear hb2); (try clear hk); (try clear hi)) | ((with_reducible refine gate_builtin (b := .append) (xs := #[.tmp 93, .tmp 95]) rfl ?_); (try (refine gate_guard (by rfl) ?_; dsimp only)); at_builtin; refine Kd.R_append Kd.string (w0 := w) w.heap.size rfl (.tmp 93) (.tmp 95) 30 9 (.string ⟨#[]⟩) 16 rfl Tryz.underlying30 info9 rfl (by decide) (by omega) u6 x6_2 t656 [.string t656] (fun _ => True) (fun _ => False) rfl rfl ?aP (fun _ hk => hk.elim) ?aF ?aO ?aB ?aS ?aL ?_; (case aP => exact rfl); (case aB => exact (by repeat (first | (with_reducible first | exact HB.out | apply below_alloc | apply pw_below_drewN | apply below_drew1 | refine below_set ?_ GE623.out) | exact HB.out))); (case aF => exact (fun _ _ => trivial)); (case aO => exact (by (with_reducible repeat (first | apply Kd.R_alloc | apply Kd.R_drewN | apply Kd.R_drew)); exact HO_6.out)); (case aS => exact (below_size (by repeat (first | (with_reducible first | exact HB.out | apply below_alloc | apply pw_below_drewN | apply below_drew1 | refine below_set ?_ GE623.out) | exact HB.out)))); (case aL => have := LMc46.out; omega); intro v658 w52 ho hb hg hat; rw [← Ny657.out] at ho; have n0_ := Aside0.mk (blk_grown (g := gb623) (o := .cells #[.int .i64 a1_0, .slice A1_1 l1_1.length c1_1, .slice (some ad653) l1_2.length c1_2] 33 (0, 0)) (by (with_reducible repeat (first | refine blk_drewN ?_ _ | refine blk_drew ?_ | refine blk_alloc ?_ _)); exact BK623.out) hg (Kd.R_ne HO_6.out BK623.out (by decide))); have n1_ := Aside0.mk (hb); have n2_ := Aside0.mk (ho); clear BK623; clear HB; clear HO_6; have BK623 := n0_; have HB := n1_; have HO659 := n2_; clear n0_ n1_ n2_; clear ho hb hg hat) | ((with_reducible refine gate_callee (f := 49) rfl ?_); refine goesL_ (some 98) rfl rfl Tryz.func49 (by kernel_rfl) rfl #[.string t656] rfl (by (try simp only [List.map_toArray, List.map_cons, List.map_nil]); first | done | rfl | (simp only [List.length_drop, List.length_take]; rfl)) ?_; (with_reducible refine (customhouseref01_Sum.calls k2 t656 t660 _ A47.out).mono ?_); rintro e w' ⟨rfl, ⟨nd, rfl⟩⟩; refine ⟨_, rfl, ?_⟩))
          go_roundg k2
          case measure => have := HJ3.out; have := HK2.out; omega
          case rel => exact ⟨(y657), (t660), (wrap64 (Int.tdiv x13_2 2)), (wrap64 (x14_2 + 1)), (by first | rfl | (simp; done) | (simp [*]; done)), (by first | rfl | (simp; done) | (simp [*]; done)), (by first | rfl | (simp; done) | (simp [*]; done)), (by first | exact H' | (rw [hji13]; exact H')), ⟨by have := HJ3.out; have := HK2.out; omega⟩, ⟨by (with_reducible repeat (first | apply Kd.R_alloc | apply Kd.R_drewN | apply Kd.R_drew)); exact HO659.out⟩, ⟨by (with_reducible repeat (first | refine blk_drewN ?_ _ | refine blk_drew ?_ | refine blk_alloc ?_ _)); exact BK623.out⟩, ⟨by repeat (first | (with_reducible first | exact HB.out | apply below_alloc | apply pw_below_drewN | apply below_drew1 | refine below_set ?_ GE623.out) | exact HB.out)⟩⟩
         ·rw [if_neg c46] at H
          exact absurd H (by simp)
        ·rw [if_neg c44] at H
         have c44b0 : ((Int.tmod x13_2 2) == 1) = false := beq_eq_false_iff_ne.mpr c44
         have c44b1 : ((Int.tmod x13_2 2) != 1) = true := bne_iff_ne.mpr c44
         by_cases c53 : x6_2.length < 8796093022208
         ·rw [if_pos c53] at H
          have LMc53 := Aside0.mk c53
          clear c53
          obtain ⟨y661, hy661⟩ : ∃ y_ : List ByteArray, y_ = (x6_2 ++ [t654]) := ⟨_, rfl⟩
          replace H : ((customhouseref01_Sum.f k2 t654).bind fun t664 => (customhouseref03_Checked.l1 k2 y661 t664 (wrap64 (Int.tdiv x13_2 2)) (wrap64 (x14_2 + 1)) a1_0 l1_1 l1_2)) = some r := by first | (rw [hy661]; with_reducible exact H) | (have H2_ := (Option.bind_some _ _).symm.trans H; rw [hy661]; with_reducible exact H2_) | (have H2_ := (Option.bind_some _ _).symm.trans H; with_reducible exact H2_) | with_reducible exact H | (rw [hy661]; exact H) | exact H
          have Ny661 := Aside0.mk hy661
          clear hy661
          replace H := Option.bind_eq_some_iff.mp H
          obtain ⟨t664, A540, H⟩ := H
          replace H : (customhouseref03_Checked.l1 k2 y661 t664 (wrap64 (Int.tdiv x13_2 2)) (wrap64 (x14_2 + 1)) a1_0 l1_1 l1_2) = some r := H
          have A54 := Aside0.mk A540
          clear A540
          have H' := Aside0.mk H
          clear H
          have hcz55_0 : wr.cell? ⟨gb623, 0, none⟩ = some (.int .i64 a1_0) := (blk_cell BK623.out 0).trans rfl
          have hcz55_1 : wr.cell? ⟨gb623, 1, none⟩ = some (.slice A1_1 l1_1.length c1_1) := (blk_cell BK623.out 1).trans rfl
          have hcz55_2 : wr.cell? ⟨gb623, 2, none⟩ = some (.slice A1_2 l1_2.length c1_2) := (blk_cell BK623.out 2).trans rfl
          have hfz55_0 := blk_frozen BK623.out 0
          have hfz55_1 := blk_frozen BK623.out 1
          have hfz55_2 := blk_frozen BK623.out 2
          have p653 : 0 ≤ (x14_2 : Int) := of_decide_eq_true (by first | (with_reducible assumption) | assumption)
          have q653 : x14_2 < (l1_2.length : Int) := of_decide_eq_true (by first | (with_reducible assumption) | assumption)
          obtain ⟨ad653, e653, hx653_0⟩ := Kd.at_string HR1_2.out x14_2 p653 q653
          cases e653
          replace hx653_0 := (HB.out.cell (World.block_lt_of_cell? w _ hx653_0)).trans hx653_0
          replace p653 := eq_true p653
          replace q653 := eq_true q653
          go_wp2_with (first | ((with_reducible refine gate_callee (f := 119) rfl ?_); refine goesL_ (some 82) rfl rfl Tryz.func119 (by kernel_rfl) rfl #[.string x12_2, .string (rdOf ByteArray.empty l1_2 x14_2)] rfl (by (try simp only [List.map_toArray, List.map_cons, List.map_nil]); first | done | rfl | (simp only [List.length_drop, List.length_take]; rfl)) ?_; (with_reducible refine (customhouseref03_node.calls x12_2 (rdOf ByteArray.empty l1_2 x14_2) t654 _ A43.out).mono ?_); rintro e w56 ⟨rfl, hb⟩; refine ⟨_, rfl, ?_⟩; have n0_ := Aside0.mk (Kd.R_below (by (with_reducible repeat (first | apply Kd.R_alloc | apply Kd.R_drewN | apply Kd.R_drew)); exact HO_6.out) hb); have n1_ := Aside0.mk (blk_below (g := gb623) (o := .cells #[.int .i64 a1_0, .slice A1_1 l1_1.length c1_1, .slice (some ad653) l1_2.length c1_2] 33 (0, 0)) (by (with_reducible repeat (first | refine blk_drewN ?_ _ | refine blk_drew ?_ | refine blk_alloc ?_ _)); exact BK623.out) hb); have n2_ := Aside0.mk (below_step (by repeat (first | (with_reducible first | exact HB.out | apply below_alloc | apply pw_below_drewN | apply below_drew1 | refine below_set ?_ GE623.out) | exact HB.out)) hb); clear HO_6; clear BK623; clear HB; have HO_6 := n0_; have BK623 := n1_; have HB := n2_; clear n0_ n1_ n2_; (try clear hb); (try clear hb2); (try clear hk); (try clear hi)) | ((with_reducible refine gate_builtin (b := .append) (xs := #[.tmp 93, .tmp 95]) rfl ?_); (try (refine gate_guard (by rfl) ?_; dsimp only)); at_builtin; refine Kd.R_append Kd.string (w0 := w) w.heap.size rfl (.tmp 93) (.tmp 95) 30 9 (.string ⟨#[]⟩) 16 rfl Tryz.underlying30 info9 rfl (by decide) (by omega) u6 x6_2 t654 [.string t654] (fun _ => True) (fun _ => False) rfl rfl ?aP (fun _ hk => hk.elim) ?aF ?aO ?aB ?aS ?aL ?_; (case aP => exact rfl); (case aB => exact (by repeat (first | (with_reducible first | exact HB.out | apply below_alloc | apply pw_below_drewN | apply below_drew1 | refine below_set ?_ GE623.out) | exact HB.out))); (case aF => exact (fun _ _ => trivial)); (case aO => exact (by (with_reducible repeat (first | apply Kd.R_alloc | apply Kd.R_drewN | apply Kd.R_drew)); exact HO_6.out)); (case aS => exact (below_size (by repeat (first | (with_reducible first | exact HB.out | apply below_alloc | apply pw_below_drewN | apply below_drew1 | refine below_set ?_ GE623.out) | exact HB.out)))); (case aL => have := LMc53.out; omega); intro v662 w57 ho hb hg hat; rw [← Ny661.out] at ho; have n0_ := Aside0.mk (blk_grown (g := gb623) (o := .cells #[.int .i64 a1_0, .slice A1_1 l1_1.length c1_1, .slice (some ad653) l1_2.length c1_2] 33 (0, 0)) (by (with_reducible repeat (first | refine blk_drewN ?_ _ | refine blk_drew ?_ | refine blk_alloc ?_ _)); exact BK623.out) hg (Kd.R_ne HO_6.out BK623.out (by decide))); have n1_ := Aside0.mk (hb); have n2_ := Aside0.mk (ho); clear BK623; clear HB; clear HO_6; have BK623 := n0_; have HB := n1_; have HO663 := n2_; clear n0_ n1_ n2_; clear ho hb hg hat) | ((with_reducible refine gate_callee (f := 49) rfl ?_); refine goesL_ (some 98) rfl rfl Tryz.func49 (by kernel_rfl) rfl #[.string t654] rfl (by (try simp only [List.map_toArray, List.map_cons, List.map_nil]); first | done | rfl | (simp only [List.length_drop, List.length_take]; rfl)) ?_; (with_reducible refine (customhouseref01_Sum.calls k2 t654 t664 _ A54.out).mono ?_); rintro e w' ⟨rfl, ⟨nd, rfl⟩⟩; refine ⟨_, rfl, ?_⟩))
          go_roundg k2
          case measure => have := HJ3.out; have := HK2.out; omega
          case rel => exact ⟨(y661), (t664), (wrap64 (Int.tdiv x13_2 2)), (wrap64 (x14_2 + 1)), (by first | rfl | (simp; done) | (simp [*]; done)), (by first | rfl | (simp; done) | (simp [*]; done)), (by first | rfl | (simp; done) | (simp [*]; done)), (by first | exact H' | (rw [hji13]; exact H')), ⟨by have := HJ3.out; have := HK2.out; omega⟩, ⟨by (with_reducible repeat (first | apply Kd.R_alloc | apply Kd.R_drewN | apply Kd.R_drew)); exact HO663.out⟩, ⟨by (with_reducible repeat (first | refine blk_drewN ?_ _ | refine blk_drew ?_ | refine blk_alloc ?_ _)); exact BK623.out⟩, ⟨by repeat (first | (with_reducible first | exact HB.out | apply below_alloc | apply pw_below_drewN | apply below_drew1 | refine below_set ?_ GE623.out) | exact HB.out)⟩⟩
         ·rw [if_neg c53] at H
          exact absurd H (by simp)
       ·rw [if_neg c42] at H
        exact absurd H (by simp)
      ·rw [if_neg c41] at H
       have c41b0 : decide (x14_2 < (l1_2.length : Int)) = false := decide_eq_false c41
       clear c41
       obtain rfl := Option.some.inj H
       have hcz58_0 : wr.cell? ⟨gb623, 0, none⟩ = some (.int .i64 a1_0) := (blk_cell BK623.out 0).trans rfl
       have hcz58_1 : wr.cell? ⟨gb623, 1, none⟩ = some (.slice A1_1 l1_1.length c1_1) := (blk_cell BK623.out 1).trans rfl
       have hcz58_2 : wr.cell? ⟨gb623, 2, none⟩ = some (.slice A1_2 l1_2.length c1_2) := (blk_cell BK623.out 2).trans rfl
       have hfz58_0 := blk_frozen BK623.out 0
       have hfz58_1 := blk_frozen BK623.out 1
       have hfz58_2 := blk_frozen BK623.out 2
       go_wp2; go_ret
       exact ⟨_, by first | rfl | (simp [errW_none, errW_some] <;> rfl) | (simp [*, errW_none, errW_some] <;> rfl), by (with_reducible repeat (first | apply Kd.R_alloc | apply Kd.R_drewN | apply Kd.R_drew)); exact HO_6.out, by repeat (first | (with_reducible first | exact HB.out | apply below_alloc | apply pw_below_drewN | apply below_drew1 | refine below_set ?_ GE623.out) | exact HB.out)⟩
   ·rw [if_neg c28] at H
    exact absurd H (by simp)
end Go.Proofs.YtdlipbfcadmhjaaGreatDoor.PG3
