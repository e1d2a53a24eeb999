/- Plain: the law TreeIncludes answers true. -/
import Derived.Test.YtdlipbfcadmhjaaDoorTH
import Derived.Test.YtdlipbfcadmhjaaDoorPG2x8
namespace Go.Proofs.YtdlipbfcadmhjaaDoor
set_option linter.unusedVariables false
set_option linter.unusedSimpArgs false
open Go.RowKit Go.Proofs.YtdlipbfcadmhjaaDoorW.PrintWords Go.Proofs.YtdlipbfcadmhjaaDoorW.PrintMore PG2

theorem few_small {l : List ByteArray} (h : ∀ x ∈ l, x.size ≤ 100) : ∀ x ∈ l, x.size ≤ 1000 := fun x hx => by have := h x hx; omega
/-- How many binary digits a number has. -/
def Pl.bitsN : Nat → Nat → Nat
  | 0, _ => 0
  | f + 1, n => if n = 0 then 0 else Pl.bitsN f (n / 2) + 1
theorem Pl.bitsN_spec : ∀ f n, n ≤ f → n < 2 ^ Pl.bitsN f n
  | 0, n, h => by simp [Pl.bitsN]; omega
  | f + 1, n, h => by
    unfold Pl.bitsN
    split
    · rename_i h0; subst h0; decide
    · have := Pl.bitsN_spec f (n / 2) (by omega)
      rw [Nat.pow_succ]
      omega
theorem Pl.path_len {l : List ByteArray} {i c : Nat} (hi : i < l.length) (hc : l.length ≤ 2 ^ c) : (Pl.pathP l i).length ≤ c := by
  obtain ⟨ts, h⟩ := Pl.path_climb _ l i rfl hi
  exact Pl.climb_bound h c hc
theorem Pl.path_nil {l : List ByteArray} {i : Nat} (hi : i < l.length) : Pl.pathP l i = [] ↔ l.length = 1 := by
  obtain ⟨ts, h⟩ := Pl.path_climb _ l i rfl hi
  exact Pl.climb_nil h
theorem Pl.path_check {l : List ByteArray} {i : Nat} (hi : i < l.length) (hn : l.length ≤ 1000000) : Pl.checkP (Pl.rootP l) l.length i (l.getD i ByteArray.empty) (Pl.pathP l i) = true := by
  obtain ⟨ts, h⟩ := Pl.path_climb _ l i rfl hi
  exact Pl.check_of_climb hn hi (Pl.path_dig l i) h
theorem Pl.path_other {l : List ByteArray} {i : Nat} (hi : i < l.length) {root s : ByteArray} {xs : List ByteArray} (hx : xs.length ≠ (Pl.pathP l i).length) : Pl.checkP root l.length i s xs = false := by
  rw [Bool.eq_false_iff]
  intro h
  obtain ⟨_, _, ts, h⟩ := Pl.checkP_climb h
  obtain ⟨us, h'⟩ := Pl.path_climb _ l i rfl hi
  exact hx (Pl.climb_len h h')

theorem includes_l0 (l : List ByteArray) (i : Nat) (hi : i < l.length) (hn : l.length ≤ 20) (hs : ∀ x ∈ l, x.size ≤ 100) :
    ∀ (f d n : Nat), n ≤ f → d + f ≤ 100 → n < 2 ^ Pl.bitsN f n → l.length ≤ 2 ^ (d + Pl.bitsN f n) → Ev (fun k => customhouselaw02_TreeIncludes.l0 k l true (i : Int) (Pl.pathP l i) (d : Int) (n : Int)) true := by
  have hs' := few_small hs
  intro f
  induction f with
  | zero =>
    intro d n hf hd _ hle
    obtain rfl : n = 0 := by omega
    refine evS ?_
    have hlen := Pl.path_len hi (show l.length ≤ 2 ^ d by simpa [Pl.bitsN] using hle)
    have hnil := Pl.path_nil hi
    have hget : rdOf ByteArray.empty l (i : Int) = l.getD i ByteArray.empty := rfl
    have hgs : (l.getD i ByteArray.empty).size ≤ 1000 := by
      rw [List.getD_eq_getElem?_getD, List.getElem?_eq_getElem hi]
      exact hs' _ (List.getElem_mem hi)
    have hll : (Pl.pathP l i).length ≤ 1000 := by omega
    have hbad : Pl.checkP (Pl.rootP l) l.length i (l.getD i ByteArray.empty) (Pl.pathP l i ++ [Pl.rootP []]) = false := Pl.path_other hi (by simp)
    simp only [customhouselaw02_TreeIncludes.l0, if_neg (show ¬ ((0 : Nat) : Int) > 0 by omega), if_neg (show ¬ ((Pl.pathP l i).length : Int) > (d : Int) by omega)]
    refine Ev.bind (rootE _ l rfl (by omega) hs') ?_
    simp only [if_pos (show (0 : Int) ≤ (i : Int) by omega), if_pos (show (i : Int) < (l.length : Int) by omega), Option.bind_some, List.length_nil, Nat.zero_add, List.nil_append, if_pos (show (Pl.pathP l i).length < 8796093022208 by omega)]
    refine Ev.bind (rootE 0 [] rfl (by omega) (fun x hx => by cases hx)) ?_
    simp only [hget, checkE _ _ _ _ (Pl.pathP l i ++ [Pl.rootP []]) hgs (by simp; omega), hbad, Option.bind_some]
    refine evS ?_
    have hz : ((Pl.pathP l i).length : Int) = 0 ↔ l.length = 1 := by
      rw [← hnil, ← List.length_eq_zero_iff]; omega
    have hb : ((((Pl.pathP l i).length : Int) == 0) == ((l.length : Int) == 1)) = true := by
      rw [beq_iff_eq, Bool.eq_iff_iff, beq_iff_eq, beq_iff_eq, hz]; omega
    simp only [customhouselaw02_TreeIncludes.j3, Bool.false_eq_true, if_false, if_true, hb]
    by_cases h0 : ((Pl.pathP l i).length : Int) = 0
    · simp only [if_pos h0]
      exact Ev.now _
    · simp only [if_neg h0]
      have e1 : wrap64 (((Pl.pathP l i).length : Int) - 1) = (((Pl.pathP l i).length - 1 : Nat) : Int) := by rw [w64_id] <;> omega
      have hbad2 : Pl.checkP (Pl.rootP l) l.length i (l.getD i ByteArray.empty) ((Pl.pathP l i).take ((Pl.pathP l i).length - 1)) = false := Pl.path_other hi (by rw [List.length_take]; omega)
      refine Ev.bind (rootE _ l rfl (by omega) hs') ?_
      simp only [if_pos (show (0 : Int) ≤ (i : Int) by omega), if_pos (show (i : Int) < (l.length : Int) by omega), e1, if_pos (show (0 : Int) ≤ (((Pl.pathP l i).length - 1 : Nat) : Int) by omega), if_pos (show (((Pl.pathP l i).length - 1 : Nat) : Int) ≤ ((Pl.pathP l i).length : Int) by omega), Int.toNat_natCast, hget,
        checkE _ _ _ _ ((Pl.pathP l i).take ((Pl.pathP l i).length - 1)) hgs (by rw [List.length_take]; omega), hbad2, Option.bind_some, Bool.not_false]
      exact Ev.now _
  | succ f ih =>
    intro d n hf hd hlt hle
    by_cases h0 : n = 0
    · subst h0
      have hb : ∀ g, Pl.bitsN g 0 = 0 := fun g => by cases g <;> simp [Pl.bitsN]
      exact ih d 0 (by omega) (by omega) (by rw [hb]; decide) (by rw [hb]; rw [hb] at hle; exact hle)
    · refine evS ?_
      have e1 : wrap64 ((d : Int) + 1) = ((d + 1 : Nat) : Int) := by rw [w64_id] <;> omega
      have hd2 : wrap64 (Int.tdiv (n : Int) 2) = ((n / 2 : Nat) : Int) := by
        rw [Int.tdiv_eq_ediv_of_nonneg (by omega), w64_id] <;> omega
      simp only [customhouselaw02_TreeIncludes.l0, if_pos (show (n : Int) > 0 by omega), e1, hd2]
      have hb : Pl.bitsN (f + 1) n = Pl.bitsN f (n / 2) + 1 := by rw [Pl.bitsN, if_neg h0]
      exact ih (d + 1) (n / 2) (by omega) (by omega) (Pl.bitsN_spec f (n / 2) (by omega)) (by rw [hb] at hle; rw [show d + 1 + Pl.bitsN f (n / 2) = d + (Pl.bitsN f (n / 2) + 1) by omega]; exact hle)
theorem Pl.TreeIncludes (l0 : List ByteArray) (a1 : Int) (h0 : l0.length ≤ 9223372036854775807) (_h0' : ∀ x ∈ l0, x.size ≤ 9223372036854775807) (h1 : (Lit.int .u8 a1).wf = true) : ∃ k, customhouselaw02_TreeIncludes.f k l0 a1 = some true := by
  refine Ev.rounds (g := fun k => customhouselaw02_TreeIncludes.f k l0 a1) ?_
  unfold customhouselaw02_TreeIncludes.f
  refine Ev.bind head02E ?_
  have out : Ev (fun k => customhouselaw02_TreeIncludes.j0 k l0 a1 true true) true := by
    refine evS ?_
    simp only [customhouselaw02_TreeIncludes.j0, if_true]
    exact Ev.now _
  refine Ev.bind (few20E l0 h0) ?_
  cases hf0 : Pl.few20 l0 with
  | false => simp only [Bool.false_eq_true, if_false]; exact out
  | true =>
    simp only [if_true]
    obtain ⟨n0, s0⟩ := few20_of hf0
    obtain ⟨r0, r1⟩ := u8_range h1
    by_cases hz : l0.length = 0
    · rw [show ((l0.length : Int) == 0) = true by rw [hz]; rfl]
      exact out
    · rw [show ((l0.length : Int) == 0) = false by simp; intro h; exact hz (by rw [h]; rfl)]
      have e2 : Int.tmod (wrap64 a1) (l0.length : Int) = ((a1.toNat % l0.length : Nat) : Int) := by
        rw [w64_id (by omega) (by omega), Int.tmod_eq_emod_of_nonneg (by omega), Int.natCast_emod, Int.toNat_of_nonneg (by omega)]
      have hi : a1.toNat % l0.length < l0.length := Nat.mod_lt _ (by omega)
      generalize hI : a1.toNat % l0.length = i at e2 hi
      have hget : rdOf ByteArray.empty l0 (i : Int) = l0.getD i ByteArray.empty := rfl
      have hgs : (l0.getD i ByteArray.empty).size ≤ 1000 := by
        rw [List.getD_eq_getElem?_getD, List.getElem?_eq_getElem hi]
        exact few_small s0 _ (List.getElem_mem hi)
      have hll := Pl.path_len hi (show l0.length ≤ 2 ^ 5 by have : (2 : Nat) ^ 5 = 32 := rfl; omega)
      refine evS ?_
      simp only [customhouselaw02_TreeIncludes.j0, Bool.false_eq_true, if_false, if_neg (show ¬ (l0.length : Int) = 0 by omega), e2]
      refine Ev.bind (pathE l0 i hi (by omega) (few_small s0)) ?_
      simp only [if_true]
      refine Ev.bind (rootE _ l0 rfl (by omega) (few_small s0)) ?_
      simp only [if_pos (show (0 : Int) ≤ (i : Int) by omega), if_pos (show (i : Int) < (l0.length : Int) by omega), hget, checkE _ _ _ _ (Pl.pathP l0 i) hgs (by omega), Pl.path_check hi (by omega), Option.bind_some, Bool.not_true]
      refine evS ?_
      simp only [customhouselaw02_TreeIncludes.j1, Bool.false_eq_true, if_false]
      exact includes_l0 l0 i hi n0 s0 20 0 l0.length n0 (by omega) (Pl.bitsN_spec 20 _ n0) (by have := Pl.bitsN_spec 20 l0.length n0; rw [Nat.zero_add]; omega)
end Go.Proofs.YtdlipbfcadmhjaaDoor
