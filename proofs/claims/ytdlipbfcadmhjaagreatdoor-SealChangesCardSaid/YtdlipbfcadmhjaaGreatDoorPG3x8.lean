/- Written by a program of this session's over the kit's print: the functions that a law comes to as plain Lean functions, and that Go's code computes them. Nothing is assumed. -/
import Derived.Test.YtdlipbfcadmhjaaGreatDoorPG3x0
namespace Go.Proofs.YtdlipbfcadmhjaaGreatDoor.PG3
open Go.RowKit Go.Proofs.YtdlipbfcadmhjaaGreatDoorW.PrintWords Go.Proofs.YtdlipbfcadmhjaaGreatDoorW.PrintLast Go.Proofs.YtdlipbfcadmhjaaGreatDoorW.PrintMore
attribute [local go_sem] max2_int min2_int max_two min_two max_three min_three max_four min_four
set_option linter.unusedVariables false
set_option linter.unusedSimpArgs false
def customhouseref01_mix.f (a0 : Int) : Option (Int) := some (Go.bits .xor .u64 (IntKind.u64.wrap ((Go.bits .xor .u64 (IntKind.u64.wrap (a0 * 2862933555777941757)) ((IntKind.u64.wrap (a0 * 2862933555777941757)) / 4294967296)) * 3935559000370003845)) ((IntKind.u64.wrap ((Go.bits .xor .u64 (IntKind.u64.wrap (a0 * 2862933555777941757)) ((IntKind.u64.wrap (a0 * 2862933555777941757)) / 4294967296)) * 3935559000370003845)) / 536870912))
set_option maxHeartbeats 8000000 in
set_option maxRecDepth 100000 in
theorem customhouseref01_mix.calls (a0 : Int) (r : Int) (w : World) (h : customhouseref01_mix.f a0 = some r) :
    Calls Tryz.prog 120 #[.int .u64 a0] w fun e w' => e = .returned (.int .u64 r) ∧ Drawn0 w w' := by
 have H : (some (Go.bits .xor .u64 (IntKind.u64.wrap ((Go.bits .xor .u64 (IntKind.u64.wrap (a0 * 2862933555777941757)) ((IntKind.u64.wrap (a0 * 2862933555777941757)) / 4294967296)) * 3935559000370003845)) ((IntKind.u64.wrap ((Go.bits .xor .u64 (IntKind.u64.wrap (a0 * 2862933555777941757)) ((IntKind.u64.wrap (a0 * 2862933555777941757)) / 4294967296)) * 3935559000370003845)) / 536870912))) = some r := h
 clear h
 obtain rfl := Option.some.inj H
 go_enter Tryz.func120, Tryz.ntmps120
 go_wp2; go_ret
 exact ⟨by first | rfl | (simp; done) | (simp [*]; done), by repeat (first | exact Drawn0.refl _ | apply Drawn0.step)⟩
end Go.Proofs.YtdlipbfcadmhjaaGreatDoor.PG3
