/- Plain: the law TreeRoots answers true. -/
import Derived.Test.YtdlipbfcadmhjaaDoorTH
import Derived.Test.YtdlipbfcadmhjaaDoorTE2
import Derived.Test.YtdlipbfcadmhjaaDoorPG2x16
namespace Go.Proofs.YtdlipbfcadmhjaaDoor
set_option linter.unusedVariables false
set_option linter.unusedSimpArgs false
open Go.RowKit Go.Proofs.YtdlipbfcadmhjaaDoorW.PrintWords Go.Proofs.YtdlipbfcadmhjaaDoorW.PrintMore PG2

theorem few_small {l : List ByteArray} (h : ∀ x ∈ l, x.size ≤ 100) : ∀ x ∈ l, x.size ≤ 1000 := fun x hx => by have := h x hx; omega
theorem Pl.TreeRoots (l0 l1 : List ByteArray) (h0 : l0.length ≤ 9223372036854775807) (_h0' : ∀ x ∈ l0, x.size ≤ 9223372036854775807) (h1 : l1.length ≤ 9223372036854775807) (_h1' : ∀ x ∈ l1, x.size ≤ 9223372036854775807) :
    ∃ k, customhouselaw02_TreeRoots.f k l0 l1 = some true := by
  refine Ev.rounds (g := fun k => customhouselaw02_TreeRoots.f k l0 l1) ?_
  unfold customhouselaw02_TreeRoots.f
  refine Ev.bind head02E ?_
  have out : Ev (fun k => customhouselaw02_TreeRoots.j0 k l0 l1 true true) true := by
    refine evS ?_
    simp only [customhouselaw02_TreeRoots.j0, if_true]
    exact Ev.now _
  refine Ev.bind (few20E l0 h0) ?_
  cases hf0 : Pl.few20 l0 with
  | false => simp only [Bool.false_eq_true, if_false]; exact out
  | true =>
    simp only [if_true]
    refine Ev.bind (few20E l1 h1) ?_
    cases hf1 : Pl.few20 l1 with
    | false => simp only [Bool.false_eq_true, if_false]; exact out
    | true =>
      simp only [if_true]
      obtain ⟨n0, s0⟩ := few20_of hf0
      obtain ⟨n1, s1⟩ := few20_of hf1
      by_cases hl : l0.length = l1.length
      · rw [show ((l0.length : Int) != (l1.length : Int)) = false by rw [hl]; simp]
        refine evS ?_
        simp only [customhouselaw02_TreeRoots.j0, Bool.false_eq_true, if_false, if_true]
        refine Ev.bind (sameE l0 l1 h0) ?_
        have r0 := rootE _ l0 rfl (by omega) (few_small s0)
        have r1 := rootE _ l1 rfl (by omega) (few_small s1)
        by_cases he : l0 = l1
        · simp only [decide_eq_true he, if_true]
          refine Ev.bind r0 ?_
          refine Ev.bind r1 ?_
          exact evE (Ev.now _) (by rw [he]; exact beq_self_eq_true _)
        · simp only [decide_eq_false he, Bool.false_eq_true, if_false]
          refine Ev.bind r0 ?_
          refine Ev.bind r1 ?_
          by_cases hr : Pl.rootP l0 = Pl.rootP l1
          · simp only [Pl.toL_iff, if_pos hr]
            refine Ev.bind (textsE _ l0 rfl (by omega) (few_small s0)) ?_
            refine Ev.bind (textsE _ l1 rfl (by omega) (few_small s1)) ?_
            have t0 := (Pl.texts_len _ l0 rfl).1
            have t1 := (Pl.texts_len _ l1 rfl).1
            simp only [if_pos (show (Pl.textsP l0).length + (Pl.textsP l1).length < 8796093022208 by omega)]
            refine Ev.bind (shownE _ (by rw [List.length_append]; omega) ?_ ?_) (Ev.now _)
            · intro x hx
              rcases List.mem_append.1 hx with hx | hx
              · exact Pl.texts_small _ l0 rfl (few_small s0) x hx
              · exact Pl.texts_small _ l1 rfl (few_small s1) x hx
            · rcases Pl.roots_bind _ l0 l1 rfl hl.symm hr with h | h
              · exact absurd h he
              · exact h
          · simp only [Pl.toL_iff, if_neg hr]
            exact Ev.now _
      · rw [show ((l0.length : Int) != (l1.length : Int)) = true by simp; omega]
        exact out
end Go.Proofs.YtdlipbfcadmhjaaDoor
