/- Plain: the law TreeGrows answers true. -/
import Derived.Test.YtdlipbfcadmhjaaDoorTH
import Derived.Test.YtdlipbfcadmhjaaDoorPG2x17
namespace Go.Proofs.YtdlipbfcadmhjaaDoor
set_option linter.unusedVariables false
set_option linter.unusedSimpArgs false
open Go.RowKit Go.Proofs.YtdlipbfcadmhjaaDoorW.PrintWords Go.Proofs.YtdlipbfcadmhjaaDoorW.PrintMore PG2

theorem few_small {l : List ByteArray} (h : ∀ x ∈ l, x.size ≤ 100) : ∀ x ∈ l, x.size ≤ 1000 := fun x hx => by have := h x hx; omega
/-- How many binary digits a number has. -/
def Pl.bitsN : Nat → Nat → Nat
  | 0, _ => 0
  | f + 1, n => if n = 0 then 0 else Pl.bitsN f (n / 2) + 1
theorem Pl.bitsN_spec : ∀ f n, n ≤ f → n < 2 ^ Pl.bitsN f n
  | 0, n, h => by simp [Pl.bitsN]; omega
  | f + 1, n, h => by
    unfold Pl.bitsN
    split
    · rename_i h0; subst h0; decide
    · have := Pl.bitsN_spec f (n / 2) (by omega)
      rw [Nat.pow_succ]
      omega
theorem Pl.link_nil {l : List ByteArray} {m : Nat} (hm : m ≤ l.length) : Pl.linkP l m = [] ↔ m = 0 ∨ m = l.length := by
  by_cases h0 : m = 0
  · subst h0
    unfold Pl.linkP
    rw [Pl.links_end (by omega)]
    simp
  · obtain ⟨ts, h⟩ := Pl.link_both _ l m true _ rfl (by omega) hm (fun _ => rfl)
    have := Pl.both_nil h
    unfold Pl.linkP
    rw [this]
    omega
theorem Pl.link_len {l : List ByteArray} {m c : Nat} (hm : m ≤ l.length) (hc : l.length ≤ 2 ^ c) : (Pl.linkP l m).length ≤ c + 1 := by
  by_cases h0 : m = 0
  · rw [(Pl.link_nil hm).2 (.inl h0)]; simp
  · obtain ⟨ts, h⟩ := Pl.link_both _ l m true _ rfl (by omega) hm (fun _ => rfl)
    exact Pl.both_bound h c hc
theorem Pl.link_extends {l : List ByteArray} {m : Nat} (hm : m ≤ l.length) (hn : l.length ≤ 1000000) : Pl.extendsP (Pl.rootP (l.take m)) m (Pl.rootP l) l.length (Pl.linkP l m) = true := by
  by_cases h0 : m = 0
  · subst h0
    have hl : Pl.linkP l 0 = [] := (Pl.link_nil hm).2 (.inl rfl)
    rw [hl, List.take_zero]
    unfold Pl.extendsP
    rw [if_neg (by simp [Pl.root_dig]; omega), if_pos (by rfl)]
    simp only [List.isEmpty_nil, Bool.true_and, Bool.and_eq_true, beq_iff_eq, Bool.or_eq_true, decide_eq_true_eq, Pl.toL_iff, Pl.root_nil, true_and]
    by_cases hz : l.length = 0
    · right
      rw [List.length_eq_zero_iff.1 hz, Pl.root_nil]
    · left; omega
  · obtain ⟨ts, h⟩ := Pl.link_both _ l m true _ rfl (by omega) hm (fun _ => rfl)
    exact Pl.extends_of_both hn (by omega) hm (Pl.link_dig l m) (Pl.root_dig _) (Pl.root_dig _) h

theorem grows_l0 (l : List ByteArray) (m : Nat) (hm : m ≤ l.length) (hn : l.length ≤ 20) (hs : ∀ x ∈ l, x.size ≤ 1000) :
    ∀ (f d n : Nat), n ≤ f → d + f ≤ 100 → n < 2 ^ Pl.bitsN f n → l.length ≤ 2 ^ (d + Pl.bitsN f n) → Ev (fun k => customhouselaw02_TreeGrows.l0 k l true (m : Int) (Pl.linkP l m) 0 (d : Int) (n : Int)) true := by
  intro f
  induction f with
  | zero =>
    intro d n hf hd _ hle
    obtain rfl : n = 0 := by omega
    refine evS ?_
    have e1 : wrap64 ((d : Int) + 1) = ((d + 1 : Nat) : Int) := by rw [w64_id] <;> omega
    have hlen := Pl.link_len hm (show l.length ≤ 2 ^ d by simpa [Pl.bitsN] using hle)
    have hnil := Pl.link_nil hm
    have hll : (Pl.linkP l m).length ≤ 1000000 := by omega
    simp only [customhouselaw02_TreeGrows.l0, if_neg (show ¬ ((0 : Nat) : Int) > 0 by omega), if_true, if_pos (show (0 : Int) ≤ (m : Int) by omega), if_pos (show (m : Int) ≤ (l.length : Int) by omega), Int.toNat_natCast, e1]
    refine Ev.bind (rootE _ (l.take m) rfl (by rw [List.length_take]; omega) (small_take hs)) ?_
    refine Ev.bind (rootE _ l rfl (by omega) hs) ?_
    simp only [extendsE _ _ _ _ _ hll, Pl.link_extends hm (by omega), Option.bind_some, if_true, if_pos (show ((Pl.linkP l m).length : Int) ≤ ((d + 1 : Nat) : Int) by omega)]
    have hz : ((Pl.linkP l m).length : Int) = 0 ↔ m = 0 ∨ m = l.length := by
      rw [← hnil, ← List.length_eq_zero_iff]; omega
    by_cases h0 : m = 0
    · simp only [if_pos (show (m : Int) = 0 by omega)]
      refine evE (Ev.now _) ?_
      rw [show ((Pl.linkP l m).length : Int) = 0 from hz.2 (.inl h0)]; rfl
    · simp only [if_neg (show ¬ (m : Int) = 0 by omega)]
      refine evE (Ev.now _) ?_
      rw [beq_iff_eq, Bool.eq_iff_iff, beq_iff_eq, beq_iff_eq, hz]
      omega
  | succ f ih =>
    intro d n hf hd hlt hle
    by_cases h0 : n = 0
    · subst h0
      have hb : ∀ g, Pl.bitsN g 0 = 0 := fun g => by cases g <;> simp [Pl.bitsN]
      exact ih d 0 (by omega) (by omega) (by rw [hb]; decide) (by rw [hb]; rw [hb] at hle; exact hle)
    · refine evS ?_
      have e1 : wrap64 ((d : Int) + 1) = ((d + 1 : Nat) : Int) := by rw [w64_id] <;> omega
      have hd2 : wrap64 (Int.tdiv (n : Int) 2) = ((n / 2 : Nat) : Int) := by
        rw [Int.tdiv_eq_ediv_of_nonneg (by omega), w64_id] <;> omega
      simp only [customhouselaw02_TreeGrows.l0, if_pos (show (n : Int) > 0 by omega), e1, hd2]
      have hb : Pl.bitsN (f + 1) n = Pl.bitsN f (n / 2) + 1 := by rw [Pl.bitsN, if_neg h0]
      exact ih (d + 1) (n / 2) (by omega) (by omega) (Pl.bitsN_spec f (n / 2) (by omega)) (by rw [hb] at hle; rw [show d + 1 + Pl.bitsN f (n / 2) = d + (Pl.bitsN f (n / 2) + 1) by omega]; exact hle)
theorem Pl.TreeGrows (l0 : List ByteArray) (a1 : Int) (h0 : l0.length ≤ 9223372036854775807) (_h0' : ∀ x ∈ l0, x.size ≤ 9223372036854775807) (h1 : (Lit.int .u8 a1).wf = true) : ∃ k, customhouselaw02_TreeGrows.f k l0 a1 = some true := by
  refine Ev.rounds (g := fun k => customhouselaw02_TreeGrows.f k l0 a1) ?_
  unfold customhouselaw02_TreeGrows.f
  refine Ev.bind head02E ?_
  refine Ev.bind (few20E l0 h0) ?_
  cases hf0 : Pl.few20 l0 with
  | false => simp only [Bool.false_eq_true, if_false]; exact Ev.now _
  | true =>
    obtain ⟨n0, s0⟩ := few20_of hf0
    obtain ⟨r0, r1⟩ := u8_range h1
    have e1 : wrap64 ((l0.length : Int) + 1) = ((l0.length + 1 : Nat) : Int) := by rw [w64_id] <;> omega
    have e2 : Int.tmod (wrap64 a1) ((l0.length + 1 : Nat) : Int) = ((a1.toNat % (l0.length + 1) : Nat) : Int) := by
      rw [w64_id (by omega) (by omega), Int.tmod_eq_emod_of_nonneg (by omega), Int.natCast_emod, Int.toNat_of_nonneg (by omega)]
    have hm : a1.toNat % (l0.length + 1) ≤ l0.length := by have := Nat.mod_lt a1.toNat (show 0 < l0.length + 1 by omega); omega
    simp only [if_true, e1, if_neg (show ¬ ((l0.length + 1 : Nat) : Int) = 0 by omega), e2]
    refine Ev.bind (linkE l0 _ hm (by omega) (few_small s0)) ?_
    exact grows_l0 l0 _ hm n0 (few_small s0) 20 0 l0.length n0 (by omega) (Pl.bitsN_spec 20 _ n0) (by have := Pl.bitsN_spec 20 l0.length n0; rw [Nat.zero_add]; omega)
end Go.Proofs.YtdlipbfcadmhjaaDoor
