/- tree, plain: half, node, what is computed from a path. -/
import Derived.Test.YtdlipbfcadmhjaaDoorT2
import Derived.Test.YtdlipbfcadmhjaaDoorP1
import Derived.Test.YtdlipbfcadmhjaaDoorPG2x1
namespace Go.Proofs.YtdlipbfcadmhjaaDoor
set_option linter.unusedVariables false
set_option linter.unusedSimpArgs false
open Go.RowKit Go.Proofs.YtdlipbfcadmhjaaDoorW.PrintWords Go.Proofs.YtdlipbfcadmhjaaDoorW.PrintMore PG2
namespace Pl
def halfGo : Nat → Nat → Nat → Nat
  | 0, k, _ => k
  | f + 1, k, n => if 2 * k < n then halfGo f (2 * k) n else k
def half (n : Nat) : Nat := halfGo n 1 n
theorem halfGo_spec : ∀ f k n, 1 ≤ k → k < n → n ≤ k * 2 ^ f → k ≤ halfGo f k n ∧ halfGo f k n < n ∧ n ≤ 2 * halfGo f k n
  | 0, k, n, h1, h2, h3 => by simp at h3; omega
  | f + 1, k, n, h1, h2, h3 => by
    unfold halfGo
    split
    · rename_i h
      obtain ⟨a, b, c⟩ := halfGo_spec f (2 * k) n (by omega) h (by rw [Nat.pow_succ] at h3; rw [Nat.mul_comm 2 k, Nat.mul_assoc, Nat.mul_comm 2]; exact h3)
      exact ⟨by omega, b, c⟩
    · omega
theorem half_spec {n : Nat} (h : 2 ≤ n) : 1 ≤ half n ∧ half n < n ∧ n ≤ 2 * half n :=
  halfGo_spec n 1 n (Nat.le_refl _) (by omega) (by rw [Nat.one_mul]; exact Nat.le_of_lt Nat.lt_two_pow_self)
def nodeL (a b : ByteArray) : List ByteArray := [⟨#[110, 111, 100, 101]⟩, a, b]
def nodeP (a b : ByteArray) : ByteArray := sum (joined (nodeL a b))
def leafL (s : ByteArray) : List ByteArray := [⟨#[108, 101, 97, 102]⟩, s]
def leafP (s : ByteArray) : ByteArray := sum (joined (leafL s))
def nextP (xs : List ByteArray) (s : Bool) : ByteArray × List ByteArray × Bool :=
  match xs.getLast? with
  | none => (ByteArray.empty, [], true)
  | some x => (x, xs.dropLast, s || x.toList.isEmpty)
def upP : Nat → Nat → Nat → ByteArray → List ByteArray → Bool → ByteArray × List ByteArray × Bool
  | 0, _, _, d, xs, s => (d, xs, s)
  | f + 1, n, i, d, xs, s =>
    if n = 1 then (d, xs, s) else
      let p := nextP xs s
      if i < half n then
        let q := upP f (half n) i d p.2.1 p.2.2
        (nodeP q.1 p.1, q.2)
      else
        let q := upP f (n - half n) (i - half n) d p.2.1 p.2.2
        (nodeP p.1 q.1, q.2)
def checkP (root : ByteArray) (n i : Int) (leaf : ByteArray) (path : List ByteArray) : Bool :=
  if n > 1000000 ∨ i < 0 ∨ i ≥ n ∨ path.all isDig = false then false else
    let q := upP n.toNat n.toNat i.toNat (leafP leaf) path false
    q.1.toList == root.toList && (!q.2.2 && q.2.1.isEmpty)
theorem nodeL_cap (a b : ByteArray) (ha : a.size ≤ 16) (hb : b.size ≤ 16) : (joined (nodeL a b)).size ≤ 140737488355328 := by
 refine (few_caps (l := nodeL a b) (n := 16) ?_ (by omega)).2.2
 simp only [few, nodeL, List.all_cons, List.all_nil, Bool.and_true, List.length_cons, List.length_nil]
 simp [ha, hb]
 decide
end Pl
theorem half_l0 (n : Nat) (hn : n ≤ 4611686018427387904) : ∀ f k, 1 ≤ k → k < n → Ev (fun j => tree_half.l0 j (n : Int) (k : Int)) ((Pl.halfGo f k n : Nat) : Int) ∨ ¬ n ≤ k * 2 ^ f := by
 intro f
 induction f with
 | zero =>
  intro k h1 h2
  right
  simp; omega
 | succ f ih =>
  intro k h1 h2
  by_cases hc : 2 * k < n
  ·rcases ih (2 * k) (by omega) hc with h | h
   ·left
    refine Ev.step (f := fun j => tree_half.l0 j (n : Int) ((2 * k : Nat) : Int)) (fun j => ?_) ?_
    ·have e : wrap64 ((k : Int) * 2) = ((2 * k : Nat) : Int) := by unfold wrap64; omega
     rw [tree_half.l0, e, if_pos (by omega)]
    ·unfold Pl.halfGo
     rw [if_pos hc]
     exact h
   ·right
    intro h'
    exact h (by rw [Nat.pow_succ] at h'; rw [Nat.mul_comm 2 k, Nat.mul_assoc, Nat.mul_comm 2]; exact h')
  ·left
   refine Ev.step (f := fun _ => some ((k : Nat) : Int)) (fun j => ?_) ?_
   ·have e : wrap64 ((k : Int) * 2) = ((2 * k : Nat) : Int) := by unfold wrap64; omega
    rw [tree_half.l0, e, if_neg (by omega)]
   ·unfold Pl.halfGo
    rw [if_neg hc]
    exact Ev.now _
theorem halfE {n : Nat} (h2 : 2 ≤ n) (hn : n ≤ 4611686018427387904) : Ev (fun j => tree_half.f j (n : Int)) ((Pl.half n : Nat) : Int) := by
 unfold tree_half.f
 rcases half_l0 n hn n 1 (Nat.le_refl _) (by omega) with h | h
 ·exact h
 ·exact absurd (by rw [Nat.one_mul]; exact Nat.le_of_lt Nat.lt_two_pow_self) h
theorem nodeE (a b : ByteArray) (ha : a.size ≤ 16) (hb : b.size ≤ 16) : tree_node.f a b = some (Pl.nodeP a b) := by
 have h := Pl.nodeL_cap a b ha hb
 unfold tree_node.f digest_List.f
 unfold Pl.nodeL at h
 rw [if_pos h]
 rfl
theorem half_any (n : Nat) (h2 : 2 ≤ n) (hn : n ≤ 1000000) (w : World) : Calls Tryd.prog 61 #[.int .i64 (n : Int)] w fun e w' => e = .returned (.int .i64 ((Pl.half n : Nat) : Int)) ∧ Drawn0 w w' := by
 obtain ⟨k, hk⟩ := (halfE h2 (by omega)).rounds
 exact tree_half.calls k _ _ w hk
theorem node_any (a b : ByteArray) (ha : a.size ≤ 16) (hb : b.size ≤ 16) (w : World) (hG : GL w) : Calls Tryd.prog 67 #[.string a, .string b] w fun e w' => e = .returned (.string (Pl.nodeP a b)) ∧ Below w.heap.size w w' :=
  tree_node.calls a b _ w hG (nodeE a b ha hb)
theorem nodeP_size (a b : ByteArray) : (Pl.nodeP a b).size = 16 := Pl.sum_size _
end Go.Proofs.YtdlipbfcadmhjaaDoor
