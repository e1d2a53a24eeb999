/- SealChanges: texts that are too long. -/
import Derived.Test.YtdlipbfcadmhjaaGreatDoorKE
import Derived.Test.YtdlipbfcadmhjaaGreatDoorKB
import Derived.Test.YtdlipbfcadmhjaaGreatDoorPG3x24
import Derived.Test.YtdlipbfcadmhjaaGreatDoorPG3x21
import Derived.Test.YtdlipbfcadmhjaaGreatDoorPG3x29
import Derived.Test.YtdlipbfcadmhjaaGreatDoorPG3x34
import Derived.Test.YtdlipbfcadmhjaaGreatDoorPG3x35
import Derived.Test.YtdlipbfcadmhjaaGreatDoorPG3x32
namespace Go.Proofs.YtdlipbfcadmhjaaGreatDoor
set_option linter.unusedVariables false
set_option linter.unusedSimpArgs false
open Go Go.RowKit Go.Shelf Go.Proofs.YtdlipbfcadmhjaaGreatDoorW.PrintWords Go.Proofs.YtdlipbfcadmhjaaGreatDoorW.PrintLast Go.Proofs.YtdlipbfcadmhjaaGreatDoorW.PrintMore PG3
attribute [local go_sem] max2_int min2_int max_two min_two max_three min_three max_four min_four
set_option maxHeartbeats 8000000 in
set_option maxRecDepth 100000 in
theorem changes_out (kS : Nat) (a0 a3 a5 : ByteArray) (a1 a2 a4 ji8 ji10 : Int) (w : World) (hG : GL w) (hji8 : Int.tmod (wrap64 (a1)) 3 = ji8) (h0 : 0 ≤ ji8) (h9 : ji8 ≤ 8) (hji10 : shl .i64 1 (ji8) = ji10) (h10 : 1 ≤ ji10)
    (A7 : Aside0 (customhouselaw03_head.f = some true)) (A12 : Aside0 (customhouselaw03_short.f kS [a0, a3, a5] = some false)) :
    Calls Tryz.prog 8 #[.string a0, .int .u8 a1, .int .u8 a2, .string a3, .int .u8 a4, .string a5] w fun e w' => e = .returned (.bool true) ∧ Below w.heap.size w w' := by
 clear h9; have hu33 := Tryz.underlying33
 have HB := Aside0.mk (Below.refl w.heap.size w)
 have HG := Aside0.mk hG
 clear hG
 have c9b0 := eq_true h0
 have c9b1 : decide (0 ≤ (ji8)) = true := decide_eq_true h0
 have hji10_ : (IntKind.i64.wrap (1 * 2 ^ min (ji8).toNat 64)) = ji10 := hji10
 have hji10z : (ji8) ≤ 64 → (IntKind.i64.wrap (1 * 2 ^ (ji8).toNat)) = ji10 := shl_small hji10
 have hji10u : (IntKind.i64.wrap (2 ^ min (ji8).toNat 64)) = ji10 := by have h_ := hji10_; rw [Int.one_mul] at h_; exact h_
 have hji10v : (ji8) ≤ 64 → (IntKind.i64.wrap (2 ^ (ji8).toNat)) = ji10 := fun hle_ => by have h_ := hji10z hle_; rw [Int.one_mul] at h_; exact h_
 have hji10y : (wrap64 (1 * 2 ^ min (ji8).toNat 64)) = ji10 := (i64_w _).symm.trans hji10_
 have hji10x : (ji8) ≤ 64 → (wrap64 (1 * 2 ^ (ji8).toNat)) = ji10 := fun h_ => (i64_w _).symm.trans (hji10z h_)
 have c11 : ¬ (ji10) = 0 := fun e => absurd (e ▸ h10) (by decide)
 have c11b0 : ((ji10) == 0) = false := beq_eq_false_iff_ne.mpr c11
 have c11b1 : ((ji10) != 0) = true := bne_iff_ne.mpr c11
 obtain ⟨y275, hy275⟩ : ∃ y_ : List ByteArray, y_ = (([a0, a3, a5] : List ByteArray)) := ⟨_, rfl⟩
 have Ny275 := Aside0.mk hy275
 have A12' := Aside0.mk (show customhouselaw03_short.f kS y275 = some false by rw [hy275]; exact A12.out)
 clear hy275 A12
 have A12 := A12'
 clear A12'
 go_enter Tryz.func8, Tryz.ntmps8
 go_wp2_with (first | ((with_reducible refine gate_callee (f := 36) rfl ?_); refine goesL_ (some 22) rfl rfl Tryz.func36 (by kernel_rfl) rfl #[] rfl (by (try simp only [List.map_toArray, List.map_cons, List.map_nil]); first | done | rfl | (simp only [List.length_drop, List.length_take]; rfl)) ?_; (with_reducible refine (customhouselaw03_head.calls  true _ ?side1 A7.out).mono ?_); (case side1 => exact GL.below HG.out (by repeat (first | (with_reducible first | exact HB.out | apply below_alloc | apply pw_below_drewN | apply below_drew1) | exact HB.out))); rintro e w80 ⟨rfl, hb⟩; refine ⟨_, rfl, ?_⟩; have n0_ := Aside0.mk (below_step (by repeat (first | (with_reducible first | exact HB.out | apply below_alloc | apply pw_below_drewN | apply below_drew1) | exact HB.out)) hb); clear HB; have HB := n0_; clear n0_; (try clear hb); (try clear hb2); (try clear hk); (try clear hi)) | ((with_reducible refine gate_dst (N := 34) rfl ?_); (try (refine gate_guard (by rfl) ?_; dsimp only)); refine Kd.R_lit Kd.string _ 9 ?hg (N := 34) ?hd (xs := ([a0, a3, a5] : List ByteArray)) (inner := [.string a0, .string a3, .string a5]) (ok := fun _ => True) (okp := fun _ => True) ?hr ?hp (fun _ hk => hk) trivial (Below.refl _ _) (Nat.le_refl _) (by simp) ?_; (case hd => rfl); (case hg => rfl); (case hr => first | (go_simp; done) | (go_simp; rfl)); (case hp => exact (Reps.one (show Kd.M Kd.string _ _ _ a0 [.string a0] from rfl) (Reps.one (show Kd.M Kd.string _ _ _ a3 [.string a3] from rfl) (Reps.one (show Kd.M Kd.string _ _ _ a5 [.string a5] from rfl) (Reps.none _ _))))); intro v276 w81 ho82 hb hg_ hnew_; clear hg_ hnew_; (first | rw [← Ny275.out] at ho82 | (simp only [Int.reduceToNat] at ho82; rw [← Ny275.out] at ho82)); have n0_ := Aside0.mk (Kd.R_lower ho82 (below_size (by repeat (first | (with_reducible first | exact HB.out | apply below_alloc | apply pw_below_drewN | apply below_drew1) | exact HB.out)))); have n1_ := Aside0.mk (below_step (by repeat (first | (with_reducible first | exact HB.out | apply below_alloc | apply pw_below_drewN | apply below_drew1) | exact HB.out)) hb); clear HB; have HO277 := n0_; have HB := n1_; clear n0_ n1_; clear hb ho82; obtain ⟨Ao83, co83, eo83⟩ := Kd.R_slice HO277.out; subst eo83) | ((with_reducible refine gate_callee (f := 37) rfl ?_); refine goesL_ (some 35) rfl rfl Tryz.func37 (by kernel_rfl) rfl #[.slice Ao83 y275.length co83] rfl (by (try simp only [List.map_toArray, List.map_cons, List.map_nil]); first | done | rfl | (simp only [List.length_drop, List.length_take]; rfl)) ?_; (with_reducible refine (customhouselaw03_short.calls kS _ _ y275 false _ ?side1 ?side2 A12.out).mono ?_); (case side1 => repeat (first | exact (Kd.R_reads' HO277.out).2.2 | (with_reducible refine Kd.C_alloc ?_ _) | (with_reducible refine Kd.C_drewN ?_ _) | (with_reducible refine Kd.C_drew ?_))); (case side2 => exact (Kd.R_reads' HO277.out).2.1); rintro e w' ⟨rfl, ⟨nd, rfl⟩⟩; refine ⟨_, rfl, ?_⟩))
 go_ret
 exact ⟨rfl, by repeat (first | (with_reducible first | exact HB.out | apply below_alloc | apply pw_below_drewN | apply below_drew1) | exact HB.out)⟩
end Go.Proofs.YtdlipbfcadmhjaaGreatDoor
