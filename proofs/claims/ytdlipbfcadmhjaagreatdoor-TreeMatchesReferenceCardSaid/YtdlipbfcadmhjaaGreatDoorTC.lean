/- tree, plain: the digests of the chapter's example, computed. -/
import Derived.Test.YtdlipbfcadmhjaaGreatDoorTM
namespace Go.Proofs.YtdlipbfcadmhjaaGreatDoor.Pl
set_option linter.unusedVariables false
set_option linter.unusedSimpArgs false
open Go.Lib
theorem d1 : decDigits 1 = [49] := by rw [decDigits]; rfl
theorem d4 : decDigits 4 = [52] := by rw [decDigits]; rfl
theorem d16 : decDigits 16 = [49, 54] := by rw [decDigits, dif_neg (by decide), show 16 / 10 = 1 from rfl, d1]; rfl
def vA : ByteArray := ⟨#[57, 52, 56, 49, 55, 55, 48, 97, 55, 52, 54, 50, 51, 49, 54, 50]⟩
def vB : ByteArray := ⟨#[57, 97, 53, 102, 53, 100, 53, 48, 99, 98, 57, 51, 54, 51, 98, 52]⟩
def vC : ByteArray := ⟨#[53, 55, 53, 55, 57, 55, 57, 51, 48, 56, 100, 53, 51, 53, 57, 57]⟩
def vAB : ByteArray := ⟨#[49, 101, 54, 50, 49, 51, 51, 102, 48, 54, 52, 56, 55, 57, 101, 98]⟩
def vBB : ByteArray := ⟨#[52, 48, 98, 101, 48, 49, 97, 51, 102, 54, 98, 102, 52, 52, 51, 53]⟩
def vABC : ByteArray := ⟨#[55, 99, 97, 99, 98, 102, 49, 97, 51, 98, 52, 99, 98, 54, 49, 98]⟩
def vABB : ByteArray := ⟨#[55, 54, 55, 98, 97, 101, 51, 101, 48, 101, 50, 97, 97, 56, 99, 102]⟩
def vBBC : ByteArray := ⟨#[98, 102, 52, 98, 52, 51, 56, 57, 56, 100, 51, 99, 99, 52, 55, 51]⟩
theorem leaf_vA : leafP ⟨#[97]⟩ = vA := by
  apply data_inj
  unfold leafP
  rw [sum_data, joined_data]
  simp only [leafL, joinedL, itoa_nat, show (⟨#[108, 101, 97, 102]⟩ : ByteArray).size = 4 from rfl, show (⟨#[97]⟩ : ByteArray).size = 1 from rfl, d1, d4]
  decide +kernel
theorem leaf_vB : leafP ⟨#[98]⟩ = vB := by
  apply data_inj
  unfold leafP
  rw [sum_data, joined_data]
  simp only [leafL, joinedL, itoa_nat, show (⟨#[108, 101, 97, 102]⟩ : ByteArray).size = 4 from rfl, show (⟨#[98]⟩ : ByteArray).size = 1 from rfl, d1, d4]
  decide +kernel
theorem leaf_vC : leafP ⟨#[99]⟩ = vC := by
  apply data_inj
  unfold leafP
  rw [sum_data, joined_data]
  simp only [leafL, joinedL, itoa_nat, show (⟨#[108, 101, 97, 102]⟩ : ByteArray).size = 4 from rfl, show (⟨#[99]⟩ : ByteArray).size = 1 from rfl, d1, d4]
  decide +kernel
theorem node_vAB : nodeP vA vB = vAB := by
  apply data_inj
  unfold nodeP
  rw [sum_data, joined_data]
  simp only [nodeL, joinedL, itoa_nat, show (⟨#[110, 111, 100, 101]⟩ : ByteArray).size = 4 from rfl, show vA.size = 16 from rfl, show vB.size = 16 from rfl, d4, d16]
  decide +kernel
theorem node_vBB : nodeP vB vB = vBB := by
  apply data_inj
  unfold nodeP
  rw [sum_data, joined_data]
  simp only [nodeL, joinedL, itoa_nat, show (⟨#[110, 111, 100, 101]⟩ : ByteArray).size = 4 from rfl, show vB.size = 16 from rfl, d4, d16]
  decide +kernel
theorem node_vABC : nodeP vAB vC = vABC := by
  apply data_inj
  unfold nodeP
  rw [sum_data, joined_data]
  simp only [nodeL, joinedL, itoa_nat, show (⟨#[110, 111, 100, 101]⟩ : ByteArray).size = 4 from rfl, show vAB.size = 16 from rfl, show vC.size = 16 from rfl, d4, d16]
  decide +kernel
theorem node_vABB : nodeP vAB vB = vABB := by
  apply data_inj
  unfold nodeP
  rw [sum_data, joined_data]
  simp only [nodeL, joinedL, itoa_nat, show (⟨#[110, 111, 100, 101]⟩ : ByteArray).size = 4 from rfl, show vAB.size = 16 from rfl, show vB.size = 16 from rfl, d4, d16]
  decide +kernel
theorem node_vBBC : nodeP vBB vC = vBBC := by
  apply data_inj
  unfold nodeP
  rw [sum_data, joined_data]
  simp only [nodeL, joinedL, itoa_nat, show (⟨#[110, 111, 100, 101]⟩ : ByteArray).size = 4 from rfl, show vBB.size = 16 from rfl, show vC.size = 16 from rfl, d4, d16]
  decide +kernel
theorem head_ne1 : nodeP (nodeP (leafP ⟨#[97]⟩) (leafP ⟨#[98]⟩)) (leafP ⟨#[98]⟩) ≠ nodeP (nodeP (leafP ⟨#[97]⟩) (leafP ⟨#[98]⟩)) (leafP ⟨#[99]⟩) := by
  rw [leaf_vA, leaf_vB, leaf_vC, node_vAB, node_vABB, node_vABC]; decide
theorem head_ne2 : nodeP (nodeP (leafP ⟨#[98]⟩) (leafP ⟨#[98]⟩)) (leafP ⟨#[99]⟩) ≠ nodeP (nodeP (leafP ⟨#[97]⟩) (leafP ⟨#[98]⟩)) (leafP ⟨#[99]⟩) := by
  rw [leaf_vA, leaf_vB, leaf_vC, node_vAB, node_vBB, node_vBBC, node_vABC]; decide
end Go.Proofs.YtdlipbfcadmhjaaGreatDoor.Pl
