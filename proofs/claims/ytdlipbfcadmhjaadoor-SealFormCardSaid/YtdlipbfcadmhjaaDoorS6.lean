/- customhouselaw03.head: its contract. -/
import Derived.Test.YtdlipbfcadmhjaaDoorS5
import Derived.Test.YtdlipbfcadmhjaaDoorSP
namespace Go.Proofs.YtdlipbfcadmhjaaDoor
set_option linter.unusedVariables false
set_option linter.unusedSimpArgs false
open Go Go.RowKit Go.Proofs.YtdlipbfcadmhjaaDoorW.PrintWords
theorem head03_at (s m : ByteArray) (hs : s.size ≤ 1000) (hm : m.size ≤ 1000000) : ∃ pub no : ByteArray, ∃ kp kq : Nat, ∃ sg pt : List ByteArray,
    PG3.seal_Public.f kp s 2 = some (pub, 0) ∧ PG3.seal_Public.f kq s 9 = some (no, 1) ∧ seal_Sign.f s 2 3 m = some (3, sg, pt, 0) ∧ seal_Sign.f s 2 4 m = some (0, [], [], 1) ∧ sg.length = 18 ∧ pt.length = 2 ∧
    seal_Verify.f pub m 3 sg pt = some true ∧ seal_Verify.f pub m 3 sg (pt.take 1) = some false ∧ seal_Verify.f pub m 3 (sg.drop 1) pt = some false ∧ seal_Verify.f ⟨#[]⟩ m 3 sg pt = some false := by
 obtain ⟨kp, hp⟩ := (publicE s 2 hs (by omega)).rounds
 obtain ⟨kq, hq⟩ := (publicE_err s 9 (by omega)).rounds
 have hl : (Pl.pathP (Pl.keysP s 2) 3).length = 2 := Pl.path_pow (by rw [Pl.keysP_len]; omega) (Pl.keysP_len s 2)
 refine ⟨Pl.publicP s 2, _, kp, kq, Pl.sigP s 3 m, Pl.pathP (Pl.keysP s 2) 3, hp, hq, signE s m 2 3 hs hm (by omega) (by omega), signE_err s m 2 4 hs hm (.inr (.inr (.inr (by decide)))), Pl.sig_len _ _ _, hl, ?_, ?_, ?_, ?_⟩
 ·rw [verifyE _ _ _ _ _ hm]
  exact congrArg some (Pl.seal_verifies s (h := 2) (i := 3) m (by omega) (by omega))
 ·rw [verifyE _ _ _ _ _ hm, Pl.verify_bad]
  rw [List.length_take, hl]
  rintro ⟨_, h⟩
  exact absurd h (by decide)
 ·rw [verifyE _ _ _ _ _ hm, Pl.verify_bad]
  rw [List.length_drop, Pl.sig_len]
  rintro ⟨h, _⟩
  omega
 ·rw [verifyE _ _ _ _ _ hm, Pl.verify_empty]
def customhouselaw03_head.f : Option Bool := some true
theorem customhouselaw03_head.calls (r : Bool) (w : World) (hG : GL w) (h : customhouselaw03_head.f = some r) :
    Calls Tryd.prog 41 #[] w fun e w' => e = .returned (.bool r) ∧ Below w.heap.size w w' := by
 obtain rfl : r = true := (Option.some.inj h).symm
 obtain ⟨pub, no, kp, kq, sg, pt, h1, h2, h3, h4, h5, h6, h7, h8, h9, h10⟩ := head03_at ⟨#[115, 101, 99, 114, 101, 116]⟩ ⟨#[109, 101, 115, 115, 97, 103, 101]⟩ (by decide) (by decide)
 exact head03_walk pub no kp kq sg pt w hG h1 h2 h3 h4 h5 h6 h7 h8 h9 h10
end Go.Proofs.YtdlipbfcadmhjaaDoor
