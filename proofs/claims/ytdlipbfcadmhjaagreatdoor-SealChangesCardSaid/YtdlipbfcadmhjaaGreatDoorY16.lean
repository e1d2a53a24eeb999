/- Texts of this claim, in one file. -/
import Derived.Test.YtdlipbfcadmhjaaGreatDoorGR
import Derived.Test.YtdlipbfcadmhjaaGreatDoorCards
import Derived.SevenTiedAt
import Derived.RangeFuncFrom
import Derived.RangeFuncBound
import Derived.RangeFuncCalls
import Derived.RangeFuncLeaves
import Derived.RangeFuncBox
import Derived.TacticsInMore
import Derived.LoopNIn
import Derived.LoopIn
import Derived.OwnWalkIn
import Derived.WalkKit
import Derived.Test.YtdlipbfcadmhjaaGreatDoorWA
import Derived.Test.YtdlipbfcadmhjaaGreatDoorWB
import Derived.Lib.ItoaLen
import Derived.Laws.Strings
import Derived.Lib.Strings
import Derived.Shelf.Abstract
set_option linter.unusedSimpArgs false
set_option linter.unusedVariables false
namespace Go.Proofs.YtdlipbfcadmhjaaGreatDoor
open Go
theorem f_mayEnter : Tryz.pinned.checked.prog.mayEnter = true := by kernel_rfl
theorem f_lifts : Tryz.pinned.checked.prog.liftsFinal = Rows.treeMatchesReferenceRow.lifted := by kernel_rfl
theorem f_make : Tryz.pinned.checked.prog.make = some Rows.treeMatchesReferenceRow.make := by kernel_rfl
theorem f_main : Tryz.pinned.checked.prog.mainIs = some (Rows.treeMatchesReferenceCard.stood.harness.1, Rows.treeMatchesReferenceCard.stood.harness.2.toList) := by kernel_rfl
theorem f_looks : Rows.treeMatchesReferenceCard.stood.looks = Tryz.pinned.checked.prog.looks [] := by kernel_rfl
theorem f_laidOut : laidOutB Tryz.pinned.checked.prog = true := by kernel_rfl
theorem f_mapsRowed : mapsRowed Tryz.pinned.checked.prog = true := by kernel_rfl
end Go.Proofs.YtdlipbfcadmhjaaGreatDoor

namespace Go.Proofs.YtdlipbfcadmhjaaGreatDoor
open Go Go.RowKit Go.Proofs.YtdlipbfcadmhjaaGreatDoorW.PrintWords Go.Proofs.YtdlipbfcadmhjaaGreatDoorW.PrintLast
theorem rowsIn_wide {n : Nat} {P : Program} {row : String} {args : Array Value} {w : World} {R : Value → World → Prop} (h : Rows P row args w R) : RowsIn Fence.wide n P row args w R := by
 intro c cs _
 obtain ⟨v, w', r, s⟩ := h c cs
 exact ⟨v, w', r, stepsIn_wide.2 s⟩
theorem oper_round {r n : Nat} {P : Program} {o : Oper} {a : Act} {w : World} {K : Act → World → Prop} {Q : Exit → Act → World → Prop} (hd : ∀ c, o.op ≠ .defer c) (h : o.wp P a w K Q) : o.wpIn (Fence.wide.inRound r) n P a w K Q := by
 refine ⟨fun _ _ => trivial, ?_⟩
 rw [Oper.semAt_eq _ _ _ hd]
 unfold Oper.wp at h
 generalize (execOp a.eval o).run P w = res at h ⊢
 cases res with
 | ok x w' =>
  cases x <;> simp only [Oper.upon, Oper.uponIn] at h ⊢ <;>
   first
    | exact h
    | exact ⟨fun hh => by simp [Fence.wide] at hh, CallsIn.inRound r (callsIn_wide.2 h)⟩
    | exact ⟨fun hh => by simp [Fence.wide] at hh, rowsIn_wide h⟩
    | exact h.elim
 | halt x w' => cases x <;> simp only [Oper.upon, Oper.uponIn] at h ⊢ <;> first | exact h | exact h.elim
theorem wpOps_round {r n : Nat} {P : Program} {ops : Array Oper} {Q : Exit → Act → World → Prop} (hno : ¬ LetsOut Q) (hd : ∀ (i : Nat) (o : Oper), ops[i]? = some o → ∀ c, o.op ≠ .defer c) :
    ∀ (l : List Nat) (a : Act) (w : World), wpOps P ops Q l a w → wpOpsIn (Fence.wide.inRound r) n P ops Q l a w := by
 intro l
 induction l with
 | nil => exact fun _ _ h => h
 | cons i rest ih =>
  intro a w h
  unfold wpOpsIn
  unfold wpOps at h
  cases ho : ops[i]? with
  | none => simp only [ho] at h ⊢; exact ih _ _ h
  | some o =>
   simp only [ho] at h ⊢
   by_cases hw : Region.wanted o (yielded ops a.tmps) = true
   ·simp only [hw, if_true] at h ⊢
    rcases h with h | h
    ·exact oper_round (hd i o ho) (Oper.wp_mono ih h)
    ·exact absurd h.2 hno
   ·simp only [hw, if_false] at h ⊢
    exact ⟨fun _ _ => trivial, ih _ _ h⟩
def noDefer (ops : Array Oper) : Bool := ops.all fun o => match o.op with | .defer _ => false | _ => true
theorem noDefer_spec {ops : Array Oper} (h : noDefer ops = true) : ∀ (i : Nat) (o : Oper), ops[i]? = some o → ∀ c, o.op ≠ .defer c := by
 intro i o ho c hc
 obtain ⟨hi, rfl⟩ := Array.getElem?_eq_some_iff.1 ho
 have := Array.all_eq_true.1 h i hi
 rw [hc] at this
 cases this
theorem region_round {r n : Nat} {P : Program} {id : Nat} {ops : Array Oper} {Q : Exit → Act → World → Prop} {a : Act} {w : World} (hno : ¬ LetsOut Q) (hd : noDefer ops = true)
    (h : ∀ t, wpOps P ops Q (Region.schedule (P.follows .mixedOrders) ops t) a { w with drawn := w.drawn + 1 }) : (Code.region id ops true).wpIn (Fence.wide.inRound r) n P Q a w :=
  fun b k cs hro hb hr => let ⟨e, a', w', q, s⟩ := wp_opsIn _ a _ (wpOps_round hno (noDefer_spec hd) _ _ _ (h _)) b k cs hro hb hr
    ⟨e, a', w', q, .of_steps (.one (fenced_calm hb hr rfl) stepR_region_draw) s⟩
theorem startR_ {r n' : Nat} {P : Program} {ops : Array Oper} {Q : Exit → Act → World → Prop} {S : World → Prop} {ds : List Nat} {id n : Nat} {a : Act} {w : World} (l : Array Bool) (hno : ¬ LetsOut Q) (hd : noDefer ops = true) (hm : P.follows .mixedOrders = true) (hn : ops.size = n) (hl : Array.replicate n false = l) (hS : S w.drew)
    (h : S w.drew → wpAnyLast P .any ops Q S ds n l a w.drew) : (Code.region id ops true).wpIn (Fence.wide.inRound r) n' P Q a w := by
 subst hn; subst hl
 refine region_round hno hd fun t => ?_
 simp only [Region.schedule, hm, Bool.true_or, if_true]
 exact wpAny_sound ops.size t _ a _ (wpAny_of_last _ _ _ _ (h hS))
theorem calls_of_wp_marks {P : Program} {f : FuncId} {fn : Func} {c : Code} {args : Array Value} {w : World} {R : Ending → World → Prop} (hf : P.funcs[f]? = some fn) (hb : fn.body = some c)
    (h : c.wp P (bodyPostM Fence.wide 3 P fn R) { tmps := args ++ Array.replicate (fn.ntmps - args.size) undef, defers := [] } w) : Calls P f args w R :=
  callsIn_wide.1 (callsIn_of_wp_marks (n := 3) hf hb trivial (wpIn_wide.2 h))
theorem postM_ret {P : Program} {fn : Func} {R : Ending → World → Prop} {a : Act} {w : World} {v : Value} (hv : (results fn a.tmps).run P w = .ok v w) (hd : a.defers = []) (h : R (.returned v) w) : bodyPostM Fence.wide 3 P fn R .ret a w := by
 show LeavesInM _ _ _ _ _ _ a.defers _ _
 rw [hd]
 exact ⟨v, hv, h⟩
theorem postM_leave {P : Program} {fn : Func} {R : Ending → World → Prop} {tmps : Array Value} {D : Nat} {w w' : World} {v : Value} (hK : w.heap[D]? = some (.deferred (some []))) (hw : w' = w.putObj D (.deferred none)) (hv : (results fn tmps).run P w' = .ok v w') (h : R (.returned v) w') :
    bodyPostM Fence.wide 3 P fn R .ret { tmps := tmps, defers := [{ target := .collected D, args := #[] }] } w := by
 subst hw
 exact ⟨by simp, .inl ⟨_, _, rfl, run_takeDeferred hK, _, hv, h⟩⟩
theorem goesV_ {P : Program} {ops : Array Oper} {Q : Exit → Act → World → Prop} {oi : Oper} {N : Option Tmp} {a : Act} {w : World} {K : Act → World → Prop} {f : FuncId} {fn : Func} {as_ : Array Operand} {ts : Array TypeId} {t : Tmp} (hf : P.funcs[f]? = some fn) (hname : (fn.name == "runtime.NumGoroutine") = false) (hb : fn.body.isSome = true) (args : Array Value)
    (hw : Region.wanted oi (yielded ops a.tmps) = true) (hN : oi.dst = N) (hop : oi.op = .call { callee := .value (.tmp t), args := as_, argTypes := ts }) (hev : a.eval (.tmp t) = .func (.func f) #[] #[]) (hargs : as_.map a.eval = args)
    (h : Calls P f args w fun e w' => ∃ v, e = .returned v ∧ K (a.put N v) w') : if Region.wanted oi (yielded ops a.tmps) = true then Oper.wp P oi a w K Q else K (a.put N undef) w := by
 refine call_ f args hw hN ?_ h
 have he := enters_ hf hname hb args w
 unfold execOp
 simp [hop, resolve, hev, Deferred.ofValue, invoke, hargs, he]
def Only (Q : Exit → Act → World → Prop) : Exit → Act → World → Prop
  | .normal, a, w => Q .normal a w
  | _, _, _ => False
theorem only_of {Q : Exit → Act → World → Prop} {a : Act} {w : World} (h : Q .normal a w) : Only Q .normal a w := h
theorem obj_far {w : World} {g : Nat} {o : Obj} (h : w.heap[g]? = some o) {p : Addr} (hp : g ≠ p.block) (u : Value) : (w.setCell p u).heap[g]? = some o := (Below.heap_setCell w p u g hp).trans h
theorem obj_put {w : World} {g D : Nat} {o o' : Obj} (h : w.heap[g]? = some o) (hp : D ≠ g) : (w.putObj D o').heap[g]? = some o := (World.putObj_heap_other (by first | exact hp | exact hp.symm)).trans h
theorem wp_only {P : Program} {c : Code} {Q : Exit → Act → World → Prop} {a : Act} {w : World} (h : c.wp P (Only Q) a w) : c.wp P Q a w :=
  wp_mono h (fun e a w hq => by cases e <;> first | exact hq | exact hq.elim)
end Go.Proofs.YtdlipbfcadmhjaaGreatDoor

namespace Go.Proofs.YtdlipbfcadmhjaaGreatDoor.Pl
open Go.Lib
def valD : List UInt8 → Nat := List.foldl (fun n b => n * 10 + (b.toNat - 48)) 0
theorem valD_snoc (l : List UInt8) (b : UInt8) : valD (l ++ [b]) = valD l * 10 + (b.toNat - 48) := by simp [valD]
theorem dig_toNat (d : Nat) (h : d < 10) : (UInt8.ofNat (48 + d)).toNat = 48 + d := by
 rw [UInt8.toNat_ofNat']; omega
theorem valD_dec : ∀ u : Nat, valD (decDigits u) = u := by
 intro u
 induction u using Nat.strongRecOn with
 | ind u ih =>
  rw [decDigits]
  split
  ·rename_i h
   simp only [valD, List.foldl_cons, List.foldl_nil, dig_toNat u h]; omega
  ·rw [valD_snoc, ih (u / 10) (by omega), dig_toNat _ (by omega)]; omega
theorem dec_no58 : ∀ u : Nat, ∀ b ∈ decDigits u, b ≠ 58 := by
 intro u
 induction u using Nat.strongRecOn with
 | ind u ih =>
  rw [decDigits]
  have ne : ∀ d, d < 10 → UInt8.ofNat (48 + d) ≠ 58 := by
   intro d hd he
   have := congrArg UInt8.toNat he
   rw [dig_toNat d hd] at this
   have e : (58 : UInt8).toNat = 58 := rfl
   omega
  split
  ·rename_i h
   intro b hb
   rw [List.mem_singleton.1 hb]; exact ne u h
  ·intro b hb
   rcases List.mem_append.1 hb with hb | hb
   ·exact ih (u / 10) (by omega) b hb
   ·rw [List.mem_singleton.1 hb]; exact ne _ (by omega)
theorem dec_inj {a b : Nat} (h : decDigits a = decDigits b) : a = b := by rw [← valD_dec a, h, valD_dec]
theorem split58 {a b r s : List UInt8} (ha : ∀ x ∈ a, x ≠ 58) (hb : ∀ x ∈ b, x ≠ 58) (h : a ++ 58 :: r = b ++ 58 :: s) : a = b ∧ r = s := by
 induction a generalizing b with
 | nil =>
  cases b with
  | nil => simpa using h
  | cons y b => simp only [List.nil_append, List.cons_append, List.cons.injEq] at h; exact absurd h.1.symm (hb y (by simp))
 | cons x a ih =>
  cases b with
  | nil => simp only [List.nil_append, List.cons_append, List.cons.injEq] at h; exact absurd h.1 (ha x (by simp))
  | cons y b =>
   simp only [List.cons_append, List.cons.injEq] at h
   obtain ⟨e1, e2⟩ := ih (fun z hz => ha z (by simp [hz])) (fun z hz => hb z (by simp [hz])) h.2
   exact ⟨by rw [h.1, e1], e2⟩
theorem itoa_nat (u : Nat) : itoa (u : Int) = decDigits u := by unfold itoa; rw [if_neg (by omega)]; simp
theorem dataLen (s : ByteArray) : s.data.toList.length = s.size := by rw [Array.length_toList]; rfl
theorem data_inj {a b : ByteArray} (h : a.data.toList = b.data.toList) : a = b := by
 cases a; cases b
 simp only [ByteArray.mk.injEq]
 exact Array.toList_inj.1 h
theorem joinedL_inj : ∀ {l m : List ByteArray}, joinedL l = joinedL m → l = m
  | [], [], _ => rfl
  | [], s :: m, h => by
    have := congrArg List.length h
    simp [joinedL] at this
  | s :: l, [], h => by
    have := congrArg List.length h
    simp [joinedL] at this
  | s :: l, t :: m, h => by
    simp only [joinedL, itoa_nat, List.append_assoc, List.cons_append] at h
    obtain ⟨e1, e2⟩ := split58 (dec_no58 _) (dec_no58 _) h
    have e3 := dec_inj e1
    obtain ⟨e4, e5⟩ := List.append_inj e2 (by rw [dataLen, dataLen, e3])
    rw [data_inj e4, joinedL_inj e5]
theorem joined_data (l : List ByteArray) : (joined l).data.toList = joinedL l := by simp [joined]
theorem joined_iff {l m : List ByteArray} : joined l = joined m ↔ l = m := ⟨fun h => joinedL_inj (by rw [← joined_data, h, joined_data]), fun h => by rw [h]⟩
theorem joinedL_le_capN : ∀ l : List ByteArray, (∀ x ∈ l, x.size ≤ 9223372036854775807) → (joinedL l).length ≤ capN l + l.length
  | [], _ => Nat.zero_le _
  | s :: l, h => by
    have h1 := itoa_length_le (s.size : Int) (by omega) (by have := h s (by simp); omega)
    have h2 := joinedL_le_capN l fun x hx => h x (by simp [hx])
    have h3 := dataLen s
    simp only [joinedL, capN, List.length_append, List.length_cons]
    omega
def few (l : List ByteArray) (n : Nat) : Bool := l.all (fun x => decide (x.size ≤ n)) && decide (l.length ≤ 30)
theorem capN_le : ∀ (l : List ByteArray) (n : Nat), (∀ x ∈ l, x.size ≤ n) → capN l ≤ l.length * (n + 21)
  | [], _, _ => Nat.zero_le _
  | s :: l, n, h => by
    have h1 := capN_le l n fun x hx => h x (by simp [hx])
    have h2 := h s (by simp)
    simp only [capN, List.length_cons, Nat.succ_mul]
    omega
theorem few_caps {l : List ByteArray} {n : Nat} (h : few l n = true) (hn : n ≤ 1000000) : capN l ≤ 140737488355328 ∧ (joinedL l).length ≤ 140737488355328 ∧ (joined l).size ≤ 140737488355328 := by
 simp only [few, Bool.and_eq_true, List.all_eq_true, decide_eq_true_eq] at h
 have h1 := capN_le l n h.1
 have h2 := joinedL_le_capN l fun x hx => Nat.le_trans (h.1 x hx) (by omega)
 have h3 : l.length * (n + 21) ≤ 30 * (1000000 + 21) := Nat.mul_le_mul h.2 (by omega)
 rw [joined_size]
 omega
theorem toL (s : ByteArray) : s.toList = s.data.toList := ByteArray.toList_eq s
theorem toL_iff {a b : ByteArray} : a.toList = b.toList ↔ a = b := ⟨fun h => data_inj (by rw [← toL, h, toL]), fun h => by rw [h]⟩
theorem sum_data (a : ByteArray) : (sum a).data.toList = sumL a.data.toList := by simp [sum]
theorem sum_size (a : ByteArray) : (sum a).size = 16 := by rw [← dataLen, sum_data, sumL_length]
theorem ext_data (s : ByteArray) (a b : Nat) : (s.extract a b).data.toList = (s.data.toList.drop a).take (b - a) := by
 exact Go.Lib.extract_data s a b
def chn : Nat → ByteArray → ByteArray
  | 0, a => a
  | n + 1, a => chn n (sum a)
theorem chn_add (n m : Nat) (a : ByteArray) : chn m (chn n a) = chn (n + m) a := by
 induction n generalizing a with
 | zero => simp [chn]
 | succ n ih => rw [Nat.succ_add]; exact ih (sum a)
theorem chn_size (n : Nat) (a : ByteArray) : (chn (n + 1) a).size = 16 := by
 induction n generalizing a with
 | zero => exact sum_size a
 | succ n ih => exact ih (sum a)
theorem chn_is_sum (n : Nat) (a : ByteArray) : ∃ b, chn (n + 1) a = sum b := by
 induction n generalizing a with
 | zero => exact ⟨a, rfl⟩
 | succ n ih => exact ih (sum a)
theorem hexd_mem (n : Nat) (h : n < 16) : hexSet.contains (hexd n) = true := by
 have : ∀ n : Fin 16, hexSet.contains (hexd n.val) = true := by decide
 exact this ⟨n, h⟩
theorem hexs_all (j n : Nat) : (hexs j n).all (hexSet.contains ·) = true := by
 induction j generalizing n with
 | zero => rfl
 | succ j ih => simp only [hexs, List.all_append, ih, List.all_cons, List.all_nil, Bool.and_true, Bool.true_and]; exact hexd_mem _ (by omega)
theorem isDig_sum (a : ByteArray) : isDig (sum a) = true := by
 unfold isDig
 rw [sum_size, sum_data]
 simp only [decide_true, Bool.true_and]
 exact hexs_all _ _
end Go.Proofs.YtdlipbfcadmhjaaGreatDoor.Pl

namespace Go.Proofs.YtdlipbfcadmhjaaGreatDoor.Pl
open Go.Lib
theorem hexs_get : ∀ (j n i : Nat), i < j → (hexs j n).getD i 0 = hexd (n / 16 ^ (j - 1 - i) % 16)
  | 0, _, _, h => by omega
  | j + 1, n, i, h => by
    unfold hexs
    by_cases hi : i < j
    · rw [List.getD_eq_getElem?_getD, List.getElem?_append_left (by rw [hexs_length]; exact hi), ← List.getD_eq_getElem?_getD, hexs_get j (n / 16) i hi]
      rw [Nat.div_div_eq_div_mul, Nat.mul_comm, ← Nat.pow_succ, show (j - 1 - i).succ = j + 1 - 1 - i by omega]
    · obtain rfl : i = j := by omega
      rw [List.getD_eq_getElem?_getD, List.getElem?_append_right (by rw [hexs_length]; omega), hexs_length]
      simp
def dig (m : ByteArray) (i : Nat) : Nat := final m.data.toList / 16 ^ (15 - i) % 16
theorem dig_lt (m : ByteArray) (i : Nat) : dig m i < 16 := Nat.mod_lt _ (by omega)
theorem sum_get (m : ByteArray) (i : Nat) (h : i < 16) : (sum m).data.toList.getD i 0 = hexd (dig m i) := by
 rw [sum_data]; exact hexs_get 16 _ i h
def rest (m : ByteArray) : Nat → Nat
  | 0 => 0
  | i + 1 => rest m i + (15 - dig m i)
theorem rest_le (m : ByteArray) : ∀ i, rest m i ≤ 15 * i
  | 0 => Nat.zero_le _
  | i + 1 => by have := rest_le m i; simp only [rest]; omega
def dg (m : ByteArray) (k : Nat) : Nat := if k < 16 then dig m k else if k = 16 then rest m 16 / 16 else rest m 16 % 16
theorem dg_16 (m : ByteArray) : dg m 16 = rest m 16 / 16 := by unfold dg; rw [if_neg (by omega), if_pos rfl]
theorem dg_17 (m : ByteArray) : dg m 17 = rest m 16 % 16 := by unfold dg; rw [if_neg (by omega), if_neg (by omega)]
theorem dg_dig (m : ByteArray) {i : Nat} (h : i < 16) : dg m i = dig m i := by unfold dg; rw [if_pos h]
theorem rest_succ (m : ByteArray) (i : Nat) : rest m (i + 1) = rest m i + (15 - dig m i) := by rw [rest]
theorem dg_lt (m : ByteArray) (k : Nat) : dg m k < 16 := by
 unfold dg
 split
 ·exact dig_lt m k
 ·split
  ·have := rest_le m 16; omega
  ·exact Nat.mod_lt _ (by omega)
theorem idx_hexd (n : Nat) (h : n < 16) : Lib.indexByte hexSet (hexd n) = (n : Int) := by
 have : ∀ n : Fin 16, Lib.indexByte hexSet (hexd n.val) = (n.val : Int) := by decide
 exact this ⟨n, h⟩
def K18 : List (Fin 18) := List.finRange 18
theorem k18_len : K18.length = 18 := by simp [K18]
theorem k18_take (k : Nat) (h : k < 18) : K18.take (k + 1) = K18.take k ++ [⟨k, h⟩] := by
 rw [List.take_succ_eq_append_getElem (by rw [k18_len]; exact h)]
 simp [K18]
theorem k18_all : K18.take 18 = K18 := List.take_of_length_le (by rw [k18_len]; omega)
end Go.Proofs.YtdlipbfcadmhjaaGreatDoor.Pl

namespace Go.Proofs.YtdlipbfcadmhjaaGreatDoor
open Go Go.RowKit Go.Shelf Go.Proofs.YtdlipbfcadmhjaaGreatDoorW.PrintWords
theorem grown_of_below {W W1 : World} (h : Below W.heap.size W W1) : W.grownBy W1 none := ⟨h.os, h.tape, h.output, h.size, fun k hk _ => h.block k hk⟩
theorem seal_digits_any (m : ByteArray) (w : World) : Calls Tryz.prog 104 #[.string m] w fun e w' => e = .returned (.func (.func 159) #[] #[.pointer (some ⟨w.heap.size, 0, none⟩)]) ∧ w' = w.alloc (.cells #[.string m] 9) := by
 go_enter Tryz.func104, Tryz.ntmps104
 go_wp2; go_ret
 exact ⟨rfl, rfl⟩
theorem hex_at (m : ByteArray) (i : Nat) (hi : i < 16) (h : i < (Pl.sum m).size) : Lib.indexByte (⟨#[48, 49, 50, 51, 52, 53, 54, 55, 56, 57, 97, 98, 99, 100, 101, 102]⟩ : ByteArray).data.toList ((((Pl.sum m)[i].toNat : Nat) : Int).toNat.toUInt8) = ((Pl.dg m i : Nat) : Int) := by
 have e1 : (Pl.sum m)[i] = Pl.hexd (Pl.dig m i) := by
  rw [← Pl.sum_get m i hi, List.getD_eq_getElem?_getD, List.getElem?_eq_getElem (by rw [Pl.dataLen]; exact h)]
  rfl
 rw [e1, Int.toNat_natCast, show (Pl.hexd (Pl.dig m i)).toNat.toUInt8 = Pl.hexd (Pl.dig m i) from UInt8.ofNat_toNat]
 have e2 := Pl.idx_hexd (Pl.dig m i) (Pl.dig_lt m i)
 rw [Pl.dg_dig m hi]
 exact e2
set_option maxRecDepth 100000 in
set_option maxHeartbeats 2000000 in
theorem digits_in (m : ByteArray) (hm : m.size ≤ 4611686018427387904) (n l Bn : Nat) (Kp : World → World → Prop) (J Jx : List (Fin 18) → World → Prop) (W : World) (hG : GL W) (hBn : W.cell? ⟨Bn, 0, none⟩ = some (.string m)) (hJa : AbidesFrom W.heap.size J)
    (hY : ∀ (pre : List (Fin 18)) (x : Fin 18) W1, J pre W1 → pre.length < 18 → YieldAt Fence.wide (n - 1) Tryz.prog l #[.int .i64 (x.val : Int), .int .i64 (Pl.dg m x.val : Int)] W1 fun e W' => (e = .returned (.bool true) ∧ J (pre ++ [x]) W' ∧ Kp W1 W') ∨ (e = .returned (.bool false) ∧ Jx (pre ++ [x]) W'))
    (h0 : J [] W) : CallsIn Fence.wide n Tryz.prog 159 #[.func (.yield l) #[] #[], .pointer (some ⟨Bn, 0, none⟩)] W fun e W' => (∃ v, e = .returned v) ∧ ((∃ xs, xs = Pl.K18 ∧ J xs W') ∨ (∃ pre, pre <+: Pl.K18 ∧ Jx pre W')) := by
 refine callsIn_of_wp Tryz.func159 rfl trivial ?_ rfl
 simp only [Tryz.ntmps159, List.size_toArray, List.length_cons, List.length_nil, Nat.reduceAdd, Nat.reduceSub, Array.replicate_succ, Array.replicate_zero, List.push_toArray, List.append_toArray, List.nil_append, List.cons_append]
 have H0 := Lib.hid h0
 clear h0
 gi_wp2_with (refine ⟨trivial, fun hh => absurd hh (by simp [Fence.wide]), ?_⟩; gi_at_call 57; refine (callsIn_wide.2 (sum_any m hm W hG)).mono ?_; rintro e W1 ⟨he, hb1⟩; have hsz := Pl.sum_size m; generalize hS : Pl.sum m = s at he hsz; subst he; have HS := Lib.hid hS; clear hS; have HB1 := Lib.hid hb1; clear hb1)
 have hsz' : (s.size : Int) = 16 := by rw [hsz]; rfl
 (try rw [hsz'])
 (try rw [show ((16 : Nat) : Int) = 16 from rfl])
 have hJ1 : J [] W1 := hJa [] W W1 none H0.out (grown_of_below HB1.out) (fun r e => by cases e)
 have HJ1 := Lib.hid hJ1
 clear hJ1 H0 HB1
 gi_loopw [3, 11] (fun p3 p11 wr => ∃ i : Nat, p11 = .int .i64 (i : Int) ∧ p3 = .int .i64 (Pl.rest m i : Int) ∧ i ≤ 16 ∧ J (Pl.K18.take i) wr) (fun p3 p11 wr => 16 - (intOf p11).toNat)
 case atStart => exact ⟨0, rfl, rfl, by omega, HJ1.out⟩
 case round =>
  obtain ⟨i, rfl, rfl, hi, hJ⟩ := hrel
  by_cases hlt : i < 16
  ·have hc : decide ((i : Int) < 16) = true := decide_eq_true (by omega)
   obtain ⟨fn, tmps, assign, body, hy, hR⟩ := hY (Pl.K18.take i) ⟨i, by omega⟩ wr hJ (by rw [List.length_take]; omega)
   dsimp only at hy
   have hd : Pl.dg m i = Pl.dig m i := Pl.dg_dig m hlt
   have hlt16 := Pl.dg_lt m i
   have hrl := Pl.rest_le m i
   have w1 : Hid (wrap64 (15 - ((Pl.dg m i : Nat) : Int)) = ((15 - Pl.dg m i : Nat) : Int)) := Lib.hid (by unfold wrap64; omega)
   have w2 : Hid (wrap64 (((Pl.rest m i : Nat) : Int) + ((15 - Pl.dg m i : Nat) : Int)) = ((Pl.rest m (i + 1) : Nat) : Int)) := Lib.hid (by
    rw [Pl.rest_succ, ← hd]; unfold wrap64; omega)
   have w3 : Hid (wrap64 ((i : Int) + 1) = ((i + 1 : Nat) : Int)) := Lib.hid (by unfold wrap64; omega)
   have hx : Hid (∀ h : i < s.size, Lib.indexByte (⟨#[48, 49, 50, 51, 52, 53, 54, 55, 56, 57, 97, 98, 99, 100, 101, 102]⟩ : ByteArray).data.toList (((s[i].toNat : Nat) : Int).toNat.toUInt8) = ((Pl.dg m i : Nat) : Int)) := Lib.hid (by rw [← HS.out]; exact hex_at m i hlt)
   clear hd hlt16 hrl
   have HY := Lib.hid hy
   clear hy
   gi_wp2_with fail
   refine ⟨trivial, fun hh => absurd hh (by simp [Fence.wide]), ?_⟩
   refine (callsIn_wide.2 (Tryz.strings_IndexByte _ _ wr)).mono ?_
   rintro e w' ⟨he, rfl⟩
   rw [hx.out] at he
   subst he
   gi_wp2_with fail
   rw [w1.out, w2.out, HY.out, Oper.uponIn_round]
   refine ⟨fun hh => absurd hh (by simp [Fence.wide]), ?_⟩
   refine hR.mono ?_
   rintro e W3 (⟨rfl, hJ3, _⟩ | ⟨rfl, hJx3⟩)
   ·have HJ3 := Lib.hid hJ3
    clear hJ3
    gi_wp2_with fail
    exact ⟨⟨i + 1, rfl, rfl, by omega, by rw [Pl.k18_take i (by omega)]; exact HJ3.out⟩, by simp only [intOf]; omega⟩
   ·have HJX := Lib.hid hJx3
    clear hJx3
    gi_wp2_with fail
    refine bodyPost_ret (results_none rfl _ _ _) rfl ?_
    exact ⟨⟨_, rfl⟩, .inr ⟨_, by rw [← Pl.k18_take i (by omega)]; exact List.take_prefix _ _, HJX.out⟩⟩
  ·obtain rfl : i = 16 := by omega
   have hc : decide (((16 : Nat) : Int) < 16) = false := rfl
   obtain ⟨fn, tmps, assign, body, hy, hR⟩ := hY (Pl.K18.take 16) ⟨16, by omega⟩ wr hJ (by rw [List.length_take]; omega)
   dsimp only at hy
   (try rw [show ((16 : Nat) : Int) = (16 : Int) from rfl] at hy)
   have HY1 := Lib.hid hy
   clear hy
   have HQ : Hid (((Pl.rest m 16 : Nat) : Int) / 16 = ((Pl.dg m 16 : Nat) : Int)) := Lib.hid (by rw [Pl.dg_16]; omega)
   have HR : Hid (((Pl.rest m 16 : Nat) : Int) % 16 = ((Pl.dg m 17 : Nat) : Int)) := Lib.hid (by rw [Pl.dg_17]; omega)
   gi_wp2_with fail
   have hl16 := Pl.dg_lt m 16
   have hl17 := Pl.dg_lt m 17
   have HW1 : Hid (wrap64 ((Pl.dg m 16 : Nat) : Int) = ((Pl.dg m 16 : Nat) : Int)) := Lib.hid (by unfold wrap64; omega)
   have HW2 : Hid (wrap64 ((Pl.dg m 17 : Nat) : Int) = ((Pl.dg m 17 : Nat) : Int)) := Lib.hid (by unfold wrap64; omega)
   clear hl16 hl17
   rw [HQ.out]
   (try rw [HW1.out])
   rw [HY1.out, Oper.uponIn_round]
   refine ⟨fun hh => absurd hh (by simp [Fence.wide]), ?_⟩
   refine hR.mono ?_
   rintro e W3 (⟨rfl, hJ3, _⟩ | ⟨rfl, hJx3⟩)
   ·obtain ⟨fn2, tmps2, assign2, body2, hy2, hR2⟩ := hY (Pl.K18.take 17) ⟨17, by omega⟩ W3 (by rw [Pl.k18_take 16 (by omega)]; exact hJ3) (by rw [List.length_take]; omega)
    dsimp only at hy2
    (try rw [show ((17 : Nat) : Int) = (17 : Int) from rfl] at hy2)
    have HY2 := Lib.hid hy2
    clear hy2 hJ3
    gi_wp2_with fail
    rw [HR.out]
    (try rw [HW2.out])
    rw [HY2.out, Oper.uponIn_round]
    refine ⟨fun hh => absurd hh (by simp [Fence.wide]), ?_⟩
    refine hR2.mono ?_
    rintro e W4 (⟨rfl, hJ4, _⟩ | ⟨rfl, hJx4⟩)
    ·have HJ4 := Lib.hid hJ4
     clear hJ4
     gi_wp2_with fail
     go_end0
     exact ⟨⟨_, rfl⟩, .inl ⟨_, rfl, by rw [← Pl.k18_all, Pl.k18_take 17 (by omega)]; exact HJ4.out⟩⟩
    ·have HJ4 := Lib.hid hJx4
     clear hJx4
     gi_wp2_with fail
     go_end0
     have hp := List.take_prefix 18 Pl.K18
     rw [Pl.k18_take 17 (by omega)] at hp
     exact ⟨⟨_, rfl⟩, .inr ⟨_, hp, HJ4.out⟩⟩
   ·have HJX := Lib.hid hJx3
    clear hJx3
    gi_wp2_with fail
    go_end0
    have hp := List.take_prefix 17 Pl.K18
    rw [Pl.k18_take 16 (by omega)] at hp
    exact ⟨⟨_, rfl⟩, .inr ⟨_, hp, HJX.out⟩⟩
theorem digits_stops (m : ByteArray) (hm : m.size ≤ 4611686018427387904) (n Bn : Nat) (Kp : World → World → Prop) (w : World) (hG : GL w) (hBn : w.cell? ⟨Bn, 0, none⟩ = some (.string m)) (hB : Bn < w.heap.size) :
    SeqStopsK Fence.wide n Tryz.prog 159 #[.pointer (some ⟨Bn, 0, none⟩)] (fun x : Fin 18 => #[.int .i64 (x.val : Int), .int .i64 (Pl.dg m x.val : Int)]) Kp (fun xs => xs = Pl.K18) (fun pre => pre <+: Pl.K18) 18 w :=
  fun l J Jx W hW hJa _ hY h0 => digits_in m hm n l Bn Kp J Jx W (hG.below hW) ((hW.cell (p := ⟨Bn, 0, none⟩) hB).trans hBn) hJa hY h0
end Go.Proofs.YtdlipbfcadmhjaaGreatDoor
