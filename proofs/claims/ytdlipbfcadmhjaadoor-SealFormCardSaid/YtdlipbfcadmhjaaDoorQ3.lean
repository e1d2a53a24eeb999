/- Plain: what the reference functions answer, over the print PG3. -/
import Derived.Test.YtdlipbfcadmhjaaDoorQ2
import Derived.Test.YtdlipbfcadmhjaaDoorPG3x3
namespace Go.Proofs.YtdlipbfcadmhjaaDoor
set_option linter.unusedVariables false
set_option linter.unusedSimpArgs false
open Go.RowKit Go.Proofs.YtdlipbfcadmhjaaDoorW.PrintWords Go.Proofs.YtdlipbfcadmhjaaDoorW.PrintMore PG3
theorem s_chain_l0 (n : Nat) (hn : n ≤ 1000) : ∀ (m i : Nat) (a : ByteArray), i + m = n → a.size ≤ 140737488355328 → Ev (fun k => digest_Chain.l0 k a (n : Int) (i : Int)) (Pl.chn m a) := by
 intro m
 induction m with
 | zero =>
  intro i a hi _
  refine evS ?_
  simp only [digest_Chain.l0, if_neg (show ¬ (i : Int) < (n : Int) by omega)]
  exact Ev.now _
 | succ m ih =>
  intro i a hi ha
  refine evS ?_
  have e1 : wrap64 ((i : Int) + 1) = ((i + 1 : Nat) : Int) := by rw [w64_id] <;> omega
  simp only [digest_Chain.l0, if_pos (show (i : Int) < (n : Int) by omega), sumE ha, Option.bind_some, e1]
  exact ih (i + 1) (Pl.sum a) (by omega) (by rw [Pl.sum_size]; omega)
theorem s_chainE (a : ByteArray) (n : Int) (ha : a.size ≤ 140737488355328) : Ev (fun k => digest_Chain.f k a n) (Pl.chn (min n 1000).toNat a) := by
 unfold digest_Chain.f
 have e : (mx 0 (mn n 1000)) = (((min n 1000).toNat : Nat) : Int) := by
  unfold mx mn
  split <;> split <;> omega
 rw [e]
 exact s_chain_l0 _ (by omega) _ 0 a (by omega) ha
end Go.Proofs.YtdlipbfcadmhjaaDoor
