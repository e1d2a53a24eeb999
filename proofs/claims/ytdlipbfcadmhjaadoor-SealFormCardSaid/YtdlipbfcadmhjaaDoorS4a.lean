/- seal, plain: keys, public keys, seals; what the printed functions answer. -/
import Derived.Test.YtdlipbfcadmhjaaDoorTE
import Derived.Test.YtdlipbfcadmhjaaDoorS0
import Derived.Test.YtdlipbfcadmhjaaDoorQ3
import Derived.Test.YtdlipbfcadmhjaaDoorPG3x3
import Derived.Test.YtdlipbfcadmhjaaDoorPG3x4
import Derived.Test.YtdlipbfcadmhjaaDoorPG3x2
namespace Go.Proofs.YtdlipbfcadmhjaaDoor
set_option linter.unusedVariables false
set_option linter.unusedSimpArgs false
open Go.RowKit Go.Proofs.YtdlipbfcadmhjaaDoorW.PrintWords Go.Proofs.YtdlipbfcadmhjaaDoorW.PrintLast Go.Proofs.YtdlipbfcadmhjaaDoorW.PrintMore PG3
theorem s_half_l0 (n : Nat) (hn : n ≤ 4611686018427387904) : ∀ f k, 1 ≤ k → k < n → Ev (fun j => tree_half.l0 j (n : Int) (k : Int)) ((Pl.halfGo f k n : Nat) : Int) ∨ ¬ n ≤ k * 2 ^ f := by
 intro f
 induction f with
 | zero =>
  intro k h1 h2
  right
  simp; omega
 | succ f ih =>
  intro k h1 h2
  by_cases hc : 2 * k < n
  ·rcases ih (2 * k) (by omega) hc with h | h
   ·left
    refine Ev.step (f := fun j => tree_half.l0 j (n : Int) ((2 * k : Nat) : Int)) (fun j => ?_) ?_
    ·have e : wrap64 ((k : Int) * 2) = ((2 * k : Nat) : Int) := by unfold wrap64; omega
     rw [tree_half.l0, e, if_pos (by omega)]
    ·unfold Pl.halfGo
     rw [if_pos hc]
     exact h
   ·right
    intro h'
    exact h (by rw [Nat.pow_succ] at h'; rw [Nat.mul_comm 2 k, Nat.mul_assoc, Nat.mul_comm 2]; exact h')
  ·left
   refine Ev.step (f := fun _ => some ((k : Nat) : Int)) (fun j => ?_) ?_
   ·have e : wrap64 ((k : Int) * 2) = ((2 * k : Nat) : Int) := by unfold wrap64; omega
    rw [tree_half.l0, e, if_neg (by omega)]
   ·unfold Pl.halfGo
    rw [if_neg hc]
    exact Ev.now _
theorem s_halfE {n : Nat} (h2 : 2 ≤ n) (hn : n ≤ 4611686018427387904) : Ev (fun j => tree_half.f j (n : Int)) ((Pl.half n : Nat) : Int) := by
 unfold tree_half.f
 rcases s_half_l0 n hn n 1 (Nat.le_refl _) (by omega) with h | h
 ·exact h
 ·exact absurd (by rw [Nat.one_mul]; exact Nat.le_of_lt Nat.lt_two_pow_self) h
theorem s_nodeE (a b : ByteArray) (ha : a.size ≤ 16) (hb : b.size ≤ 16) : tree_node.f a b = some (Pl.nodeP a b) := by
 have h := Pl.nodeL_cap a b ha hb
 unfold tree_node.f digest_List.f
 unfold Pl.nodeL at h
 rw [if_pos h]
 rfl
theorem s_rootE : ∀ (n : Nat) (l : List ByteArray), l.length = n → n ≤ 1000000 → (∀ x ∈ l, x.size ≤ 1000) → Ev (fun k => tree_Root.f k l) (Pl.rootP l) := by
 intro n
 induction n using Nat.strongRecOn with
 | ind n ih =>
  intro l hl hn hs
  by_cases h2 : 2 ≤ l.length
  ·have hh := Pl.half_spec h2
   refine evS ?_
   simp only [tree_Root.f, if_neg (show ¬ (l.length : Int) = 0 by omega), if_neg (show ¬ (l.length : Int) = 1 by omega)]
   refine Ev.bind (s_halfE h2 (by omega)) ?_
   simp only [if_pos (show (0 : Int) ≤ ((Pl.half l.length : Nat) : Int) by omega), if_pos (show ((Pl.half l.length : Nat) : Int) ≤ (l.length : Int) by omega), Int.toNat_natCast]
   refine Ev.bind (ih _ (by have := Pl.take_lt h2; omega) (l.take (Pl.half l.length)) rfl (by have := Pl.take_lt h2; omega) (small_take hs)) ?_
   refine Ev.bind (ih _ (by have := Pl.drop_lt h2; omega) (l.drop (Pl.half l.length)) rfl (by have := Pl.drop_lt h2; omega) (small_drop hs)) ?_
   simp only [s_nodeE _ _ (by rw [Pl.root_size]; omega : (Pl.rootP (l.take (Pl.half l.length))).size ≤ 16) (by rw [Pl.root_size]; omega : (Pl.rootP (l.drop (Pl.half l.length))).size ≤ 16), Option.bind_some]
   exact evE (Ev.now _) (Pl.root_two h2).symm
  ·match l, h2, hs with
   | [], _, _ =>
    refine evS ?_
    simp only [tree_Root.f, if_pos (show (([] : List ByteArray).length : Int) = 0 from rfl), emptyLE, Option.bind_some]
    exact evE (Ev.now _) Pl.root_nil.symm
   | [x], _, hs =>
    refine evS ?_
    simp only [tree_Root.f, if_neg (show ¬ (([x] : List ByteArray).length : Int) = 0 by simp), if_pos (show (([x] : List ByteArray).length : Int) = 1 from rfl), if_pos (show (0 : Int) < (([x] : List ByteArray).length : Int) by simp), show rdOf ByteArray.empty [x] 0 = x from rfl, leafLE x (hs x (by simp)), Option.bind_some]
    exact evE (Ev.now _) (Pl.root_one x).symm
   | _ :: _ :: _, h2, _ => exact absurd (by simp) h2
namespace Pl
def itB (a : Int) : ByteArray := ⟨(Lib.itoa a).toArray⟩
def startP (secret : ByteArray) (i k : Nat) : ByteArray := sum (joined [secret, itB i, itB k])
def keyEnds (secret : ByteArray) (i : Nat) : List ByteArray := (List.range 18).map fun k => chn 15 (startP secret i k)
def keyP (secret : ByteArray) (i : Nat) : ByteArray := sum (joined (keyEnds secret i))
def keysP (secret : ByteArray) (h : Nat) : List ByteArray := (List.range (2 ^ h)).map fun i => keyP secret i
def publicP (secret : ByteArray) (h : Nat) : ByteArray := rootP (keysP secret h)
def sigP (secret : ByteArray) (i : Nat) (m : ByteArray) : List ByteArray := K18.map fun k => chn (dg m k.val) (startP secret i k.val)
def endsP (m : ByteArray) (sig : List ByteArray) : List ByteArray := K18.map fun k => chn (15 - dg m k.val) (sig.getD k.val ByteArray.empty)
def sealOk (i : Int) (sig path : List ByteArray) : Bool := decide (sig.length = 18) && (decide (path.length ≤ 8) && (sig.all isDig && (path.all isDig && (decide (0 ≤ i) && decide (i < ((2 ^ path.length : Nat) : Int))))))
def verifyP (pub m : ByteArray) (i : Int) (sig path : List ByteArray) : Bool := sealOk i sig path && checkP pub ((2 ^ path.length : Nat) : Int) i (sum (joined (endsP m sig))) path
theorem itB_size (a : Int) (h0 : -9223372036854775808 ≤ a) (h1 : a ≤ 9223372036854775807) : (itB a).size ≤ 21 := by
 have := Go.Lib.itoa_length_le a h0 h1
 unfold itB
 show (Lib.itoa a).toArray.size ≤ 21
 simpa using this
theorem startP_size (s : ByteArray) (i k : Nat) : (startP s i k).size = 16 := sum_size _
theorem keyP_size (s : ByteArray) (i : Nat) : (keyP s i).size = 16 := sum_size _
theorem keysP_len (s : ByteArray) (h : Nat) : (keysP s h).length = 2 ^ h := by simp [keysP]
theorem keysP_small (s : ByteArray) (h : Nat) : ∀ x ∈ keysP s h, x.size ≤ 1000 := by
 intro x hx
 simp only [keysP, List.mem_map] at hx
 obtain ⟨i, _, rfl⟩ := hx
 rw [keyP_size]; omega
theorem chn_size_le (n : Nat) (a : ByteArray) (h : a.size ≤ 16) : (chn n a).size ≤ 16 := by
 cases n with
 | zero => exact h
 | succ n => rw [chn_size]; omega
theorem pow8 {h : Nat} (hh : h ≤ 8) : 2 ^ h ≤ 256 := by
 have : 2 ^ h ≤ 2 ^ 8 := Nat.pow_le_pow_right (by omega) hh
 simpa using this
end Pl
theorem itE (a : Int) (h0 : -9223372036854775808 ≤ a) (h1 : a ≤ 9223372036854775807) : strconv_Itoa.f a = some (Pl.itB a) := by
 unfold strconv_Itoa.f
 rw [if_pos h0, if_pos h1]; rfl
theorem ofE {l : List ByteArray} {n : Nat} (h : Pl.few l n = true) (hn : n ≤ 1000000) : seal_of.f l = some (Pl.sum (Pl.joined l)) := by
 unfold seal_of.f
 rw [listE (Pl.few_caps h hn).2.2]; rfl
theorem few_start (secret : ByteArray) (i k : Nat) (hs : secret.size ≤ 1000) (hi : i ≤ 1000000) (hk : k ≤ 1000000) : Pl.few [secret, Pl.itB i, Pl.itB k] 1000 = true := by
 have h1 := Pl.itB_size (i : Int) (by omega) (by omega)
 have h2 := Pl.itB_size (k : Int) (by omega) (by omega)
 simp only [Pl.few, List.all_cons, List.all_nil, Bool.and_true, List.length_cons, List.length_nil]
 simp
 omega
theorem startE (secret : ByteArray) (i k : Nat) (hs : secret.size ≤ 1000) (hi : i ≤ 1000000) (hk : k ≤ 1000000) : seal_start.f secret (i : Int) (k : Int) = some (Pl.startP secret i k) := by
 unfold seal_start.f
 rw [itE (i : Int) (by omega) (by omega), itE (k : Int) (by omega) (by omega)]
 simp only [Option.bind_some]
 rw [ofE (few_start secret i k hs hi hk) (by omega)]; rfl
theorem s_chainN (a : ByteArray) (n : Nat) (ha : a.size ≤ 140737488355328) (hn : n ≤ 1000) : Ev (fun k => digest_Chain.f k a (n : Int)) (Pl.chn n a) :=
  evE (s_chainE a (n : Int) ha) (by rw [show (min (n : Int) 1000).toNat = n by omega])
theorem few_ends (l : List ByteArray) (hl : l.length ≤ 30) (h : ∀ x ∈ l, x.size ≤ 1000) : Pl.few l 1000 = true := by
 simp only [Pl.few, Bool.and_eq_true, List.all_eq_true, decide_eq_true_eq]
 exact ⟨h, hl⟩
theorem key_l0 (secret : ByteArray) (i : Nat) (hs : secret.size ≤ 1000) (hi : i ≤ 1000) : ∀ (d k : Nat) (out : List ByteArray), k + d = 18 → out = (Pl.keyEnds secret i).take k → Ev (fun j => seal_key.l0 j secret (i : Int) out (k : Int)) (Pl.keyP secret i) := by
 have hsm : ∀ x ∈ Pl.keyEnds secret i, x.size ≤ 1000 := by
  intro x hx
  simp only [Pl.keyEnds, List.mem_map] at hx
  obtain ⟨k, _, rfl⟩ := hx
  have := Pl.chn_size_le 15 (Pl.startP secret i k) (by rw [Pl.startP_size]; omega)
  omega
 have hlen : (Pl.keyEnds secret i).length = 18 := by simp [Pl.keyEnds]
 intro d
 induction d with
 | zero =>
  rintro k out hk rfl
  obtain rfl : k = 18 := by omega
  refine evS ?_
  simp only [seal_key.l0, if_neg (show ¬ ((18 : Nat) : Int) < 18 by omega)]
  rw [List.take_of_length_le (by omega), ofE (few_ends _ (by omega) hsm) (by omega)]
  exact Ev.now _
 | succ d ih =>
  rintro k out hk rfl
  have e1 : wrap64 ((k : Int) + 1) = ((k + 1 : Nat) : Int) := by rw [w64_id] <;> omega
  refine evS ?_
  simp only [seal_key.l0, if_pos (show (k : Int) < 18 by omega), startE secret i k hs (by omega) (by omega), Option.bind_some, e1]
  refine Ev.bind (s_chainN (Pl.startP secret i k) 15 (by rw [Pl.startP_size]; omega) (by omega)) ?_
  simp only [if_pos (show ((Pl.keyEnds secret i).take k).length < 8796093022208 by rw [List.length_take]; omega)]
  refine ih (k + 1) _ (by omega) ?_
  rw [List.take_succ_eq_append_getElem (by omega)]
  simp [Pl.keyEnds]
theorem keyE (secret : ByteArray) (i : Nat) (hs : secret.size ≤ 1000) (hi : i ≤ 1000) : Ev (fun j => seal_key.f j secret (i : Int)) (Pl.keyP secret i) := by
 unfold seal_key.f
 exact key_l0 secret i hs hi 18 0 [] rfl rfl
theorem keys_l0 (secret : ByteArray) (hs : secret.size ≤ 1000) (N : Nat) (hN : N ≤ 256) : ∀ (d i : Nat) (xs : List ByteArray), i + d = N → xs.length = N → xs.take i = (List.range i).map (Pl.keyP secret) → Ev (fun j => seal_keys.l0 j secret xs (N : Int) (i : Int)) ((List.range N).map (Pl.keyP secret)) := by
 intro d
 induction d with
 | zero =>
  intro i xs hi hl hx
  obtain rfl : i = N := by omega
  refine evS ?_
  simp only [seal_keys.l0, if_neg (show ¬ (i : Int) < (i : Int) by omega)]
  rw [List.take_of_length_le (by omega)] at hx
  exact evE (Ev.now _) hx
 | succ d ih =>
  intro i xs hi hl hx
  have e1 : wrap64 ((i : Int) + 1) = ((i + 1 : Nat) : Int) := by rw [w64_id] <;> omega
  refine evS ?_
  simp only [seal_keys.l0, if_pos (show (i : Int) < (N : Int) by omega)]
  refine Ev.bind (keyE secret i hs (by omega)) ?_
  simp only [if_pos (show (0 : Int) ≤ (i : Int) by omega), if_pos (show (i : Int) < (xs.length : Int) by omega), Int.toNat_natCast, e1]
  refine ih (i + 1) _ (by omega) (by simpa using hl) ?_
  rw [List.range_succ, List.map_append, ← hx, List.take_succ_eq_append_getElem (by simp; omega)]
  simp [List.take_set_of_le]
theorem shl_pow (h : Nat) (hh : h ≤ 8) : shl .i64 1 (h : Int) = ((2 ^ h : Nat) : Int) := by
 have e : shl .i64 1 (h : Int) = wrap64 (1 * 2 ^ min h 64) := (i64_w _).symm.trans rfl |>.symm ▸ rfl
 rw [e, show min h 64 = h by omega, Int.one_mul]
 have e2 : (2 : Int) ^ h = ((2 ^ h : Nat) : Int) := by simp
 have hb := Pl.pow8 hh
 rw [e2]
 generalize 2 ^ h = N at hb ⊢
 rw [w64_id] <;> omega
theorem keysE (secret : ByteArray) (h : Nat) (hs : secret.size ≤ 1000) (hh : h ≤ 8) : Ev (fun j => seal_keys.f j secret (h : Int)) (Pl.keysP secret h) := by
 have hb := Pl.pow8 hh
 unfold seal_keys.f
 rw [shl_pow h hh]
 simp only [if_pos (show (0 : Int) ≤ (h : Int) by omega), if_pos (show (0 : Int) ≤ ((2 ^ h : Nat) : Int) from Int.natCast_nonneg _), Int.toNat_natCast, if_pos (show 2 ^ h ≤ 17592186044416 by omega), Option.bind_some, List.length_replicate]
 exact keys_l0 secret hs (2 ^ h) hb (2 ^ h) 0 _ (by omega) (by simp) (by simp)
theorem publicE (secret : ByteArray) (h : Nat) (hs : secret.size ≤ 1000) (hh : h ≤ 8) : Ev (fun j => seal_Public.f j secret (h : Int)) (Pl.publicP secret h, 0) := by
 have hb := Pl.pow8 hh
 unfold seal_Public.f
 simp only [if_neg (show ¬ (h : Int) < 0 by omega), decide_eq_false (show ¬ (h : Int) > 8 by omega)]
 refine evS ?_
 simp only [seal_Public.j0, Bool.false_eq_true, if_false]
 refine Ev.bind (keysE secret h hs hh) ?_
 refine Ev.bind (s_rootE _ (Pl.keysP secret h) rfl (by rw [Pl.keysP_len]; omega) (Pl.keysP_small secret h)) ?_
 exact Ev.now _
theorem publicE_err (secret : ByteArray) (h : Int) (hh : h < 0 ∨ 8 < h) : Ev (fun j => seal_Public.f j secret h) (⟨#[]⟩, 1) := by
 unfold seal_Public.f
 by_cases h0 : h < 0
 ·simp only [if_pos h0]
  refine evS ?_
  simp only [seal_Public.j0, if_true]
  exact Ev.now _
 ·simp only [if_neg h0, decide_eq_true (show h > 8 by omega)]
  refine evS ?_
  simp only [seal_Public.j0, if_true]
  exact Ev.now _
end Go.Proofs.YtdlipbfcadmhjaaDoor
