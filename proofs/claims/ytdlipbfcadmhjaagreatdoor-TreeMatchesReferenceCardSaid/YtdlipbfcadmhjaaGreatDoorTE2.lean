/- tree, plain: what the reference functions answer. -/
import Derived.Test.YtdlipbfcadmhjaaGreatDoorTE
import Derived.Test.YtdlipbfcadmhjaaGreatDoorQ2r
import Derived.Test.YtdlipbfcadmhjaaGreatDoorPG2x10
import Derived.Test.YtdlipbfcadmhjaaGreatDoorPG2x11
namespace Go.Proofs.YtdlipbfcadmhjaaGreatDoor
set_option linter.unusedVariables false
set_option linter.unusedSimpArgs false
open Go.RowKit Go.Proofs.YtdlipbfcadmhjaaGreatDoorW.PrintWords Go.Proofs.YtdlipbfcadmhjaaGreatDoorW.PrintMore PG2

/-! ### the reference functions -/
theorem rhalf_l0 (n : Nat) (hn : n ≤ 4611686018427387904) : ∀ f k, 1 ≤ k → k < n → Ev (fun j => customhouseref02_Half.l0 j (n : Int) (k : Int)) ((Pl.halfGo f k n : Nat) : Int) ∨ ¬ n ≤ k * 2 ^ f := by
  intro f
  induction f with
  | zero =>
    intro k h1 h2
    right
    simp; omega
  | succ f ih =>
    intro k h1 h2
    by_cases hc : 2 * k < n
    · rcases ih (2 * k) (by omega) hc with h | h
      · left
        refine Ev.step (f := fun j => customhouseref02_Half.l0 j (n : Int) ((2 * k : Nat) : Int)) (fun j => ?_) ?_
        · have e : wrap64 (2 * (k : Int)) = ((2 * k : Nat) : Int) := by unfold wrap64; omega
          rw [customhouseref02_Half.l0, e, if_pos (by omega)]
        · unfold Pl.halfGo
          rw [if_pos hc]
          exact h
      · right
        intro h'
        exact h (by rw [Nat.pow_succ] at h'; rw [Nat.mul_comm 2 k, Nat.mul_assoc, Nat.mul_comm 2]; exact h')
    · left
      refine Ev.step (f := fun _ => some ((k : Nat) : Int)) (fun j => ?_) ?_
      · have e : wrap64 (2 * (k : Int)) = ((2 * k : Nat) : Int) := by unfold wrap64; omega
        rw [customhouseref02_Half.l0, e, if_neg (by omega)]
      · unfold Pl.halfGo
        rw [if_neg hc]
        exact Ev.now _
theorem rhalfE {n : Nat} (h2 : 2 ≤ n) (hn : n ≤ 4611686018427387904) : Ev (fun j => customhouseref02_Half.f j (n : Int)) ((Pl.half n : Nat) : Int) := by
  unfold customhouseref02_Half.f
  rcases rhalf_l0 n hn n 1 (Nat.le_refl _) (by omega) with h | h
  · exact h
  · exact absurd (by rw [Nat.one_mul]; exact Nat.le_of_lt Nat.lt_two_pow_self) h
theorem rleafE (x : ByteArray) (h : x.size ≤ 1000) : Ev (fun k => customhouseref02_leaf.f k x) (Pl.leafP x) := by
  unfold customhouseref02_leaf.f
  exact Ev.bind (refListE (few_leaf x h) (by omega)) (Ev.now _)
theorem rnodeE (a b : ByteArray) (ha : a.size ≤ 1000) (hb : b.size ≤ 1000) : Ev (fun k => customhouseref02_node.f k a b) (Pl.nodeP a b) := by
  unfold customhouseref02_node.f
  exact Ev.bind (refListE (few_node a b ha hb) (by omega)) (Ev.now _)
theorem remptyE : Ev (fun k => customhouseref02_Empty.f k) Pl.emptyP := by
  unfold customhouseref02_Empty.f
  exact Ev.bind (refListE few_empty (by omega)) (Ev.now _)
theorem rrootE : ∀ (n : Nat) (l : List ByteArray), l.length = n → n ≤ 1000000 → (∀ x ∈ l, x.size ≤ 1000) → Ev (fun k => customhouseref02_Root.f k l) (Pl.rootP l) := by
  intro n
  induction n using Nat.strongRecOn with
  | ind n ih =>
    intro l hl hn hs
    by_cases h2 : 2 ≤ l.length
    · have hh := Pl.half_spec h2
      refine evS ?_
      simp only [customhouseref02_Root.f, if_neg (show ¬ (l.length : Int) = 0 by omega), if_neg (show ¬ (l.length : Int) = 1 by omega)]
      refine Ev.bind (rhalfE h2 (by omega)) ?_
      simp only [if_pos (show (0 : Int) ≤ ((Pl.half l.length : Nat) : Int) by omega), if_pos (show ((Pl.half l.length : Nat) : Int) ≤ (l.length : Int) by omega), Int.toNat_natCast]
      refine Ev.bind (ih _ (by have := Pl.take_lt h2; omega) (l.take (Pl.half l.length)) rfl (by have := Pl.take_lt h2; omega) (small_take hs)) ?_
      refine Ev.bind (ih _ (by have := Pl.drop_lt h2; omega) (l.drop (Pl.half l.length)) rfl (by have := Pl.drop_lt h2; omega) (small_drop hs)) ?_
      refine Ev.bind (rnodeE _ _ (by rw [Pl.root_size]; omega) (by rw [Pl.root_size]; omega)) ?_
      exact evE (Ev.now _) (Pl.root_two h2).symm
    · match l, h2, hs with
      | [], _, _ =>
        refine evS ?_
        simp only [customhouseref02_Root.f, if_pos (show (([] : List ByteArray).length : Int) = 0 from rfl)]
        exact evE (Ev.bind remptyE (Ev.now _)) Pl.root_nil.symm
      | [x], _, hs =>
        refine evS ?_
        simp only [customhouseref02_Root.f, if_neg (show ¬ (([x] : List ByteArray).length : Int) = 0 by simp), if_pos (show (([x] : List ByteArray).length : Int) = 1 from rfl), if_pos (show (0 : Int) < (([x] : List ByteArray).length : Int) by simp), show rdOf ByteArray.empty [x] 0 = x from rfl]
        exact evE (Ev.bind (rleafE x (hs x (by simp))) (Ev.now _)) (Pl.root_one x).symm
      | _ :: _ :: _, h2, _ => exact absurd (by simp) h2

end Go.Proofs.YtdlipbfcadmhjaaGreatDoor
