/- Plain: the joined text of a list. -/
import Derived.Test.YtdlipbfcadmhjaaDoorDig
import Derived.Lib.ItoaNum
namespace Go.Proofs.YtdlipbfcadmhjaaDoor.Pl
set_option linter.unusedVariables false
set_option linter.unusedSimpArgs false

/-- The joined text of a list: for each element its number of bytes, a colon, and the element. -/
def joinedL : List ByteArray → List UInt8
  | [] => []
  | s :: l => Go.Lib.itoa (s.size : Int) ++ (58 :: s.data.toList) ++ joinedL l
def joined (l : List ByteArray) : ByteArray := ⟨(joinedL l).toArray⟩
theorem joinedL_append (l m : List ByteArray) : joinedL (l ++ m) = joinedL l ++ joinedL m := by
  induction l with
  | nil => rfl
  | cons s l ih => simp [joinedL, ih]
theorem joined_size (l : List ByteArray) : (joined l).size = (joinedL l).length := by
  show (joinedL l).toArray.size = _
  simp
theorem joinedL_take (l : List ByteArray) (k : Nat) : (joinedL (l.take k)).length ≤ (joinedL l).length := by
  conv => rhs; rw [← List.take_append_drop k l, joinedL_append, List.length_append]
  omega
theorem joinedL_take_succ (l : List ByteArray) (k : Nat) (h : k < l.length) :
    joinedL (l.take (k + 1)) = joinedL (l.take k) ++ (Go.Lib.itoa ((l.getD k ByteArray.empty).size : Int) ++ (58 :: (l.getD k ByteArray.empty).data.toList)) := by
  rw [List.take_succ_eq_append_getElem h, joinedL_append]
  simp [joinedL, List.getD_eq_getElem?_getD, List.getElem?_eq_getElem h]
end Go.Proofs.YtdlipbfcadmhjaaDoor.Pl
