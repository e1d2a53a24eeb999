/- Texts of this claim, in one file. -/
import Derived.RangeFuncFrom
import Derived.RangeFuncBound
import Derived.RangeFuncCalls
import Derived.RangeFuncLeaves
import Derived.RangeFuncBox
import Derived.TacticsInMore
import Derived.LoopNIn
import Derived.LoopIn
import Derived.OwnWalkIn
import Derived.WalkKit
import Derived.Test.YtdlipbfcadmhjaaGreatDoorWA
import Derived.Test.YtdlipbfcadmhjaaGreatDoorWB
import Derived.Lib.ItoaLen
import Derived.Laws.Strings
import Derived.Lib.Strings
set_option linter.unusedSimpArgs false
set_option linter.unusedVariables false
namespace Go.Proofs.YtdlipbfcadmhjaaGreatDoor
open Go Go.RowKit Go.Proofs.YtdlipbfcadmhjaaGreatDoorW.PrintWords Go.Proofs.YtdlipbfcadmhjaaGreatDoorW.PrintLast

theorem rowsIn_wide {n : Nat} {P : Program} {row : String} {args : Array Value} {w : World} {R : Value → World → Prop} (h : Rows P row args w R) : RowsIn Fence.wide n P row args w R := by
  intro c cs _
  obtain ⟨v, w', r, s⟩ := h c cs
  exact ⟨v, w', r, stepsIn_wide.2 s⟩
theorem oper_round {r n : Nat} {P : Program} {o : Oper} {a : Act} {w : World} {K : Act → World → Prop} {Q : Exit → Act → World → Prop} (hd : ∀ c, o.op ≠ .defer c) (h : o.wp P a w K Q) : o.wpIn (Fence.wide.inRound r) n P a w K Q := by
  refine ⟨fun _ _ => trivial, ?_⟩
  rw [Oper.semAt_eq _ _ _ hd]
  unfold Oper.wp at h
  generalize (execOp a.eval o).run P w = res at h ⊢
  cases res with
  | ok x w' =>
    cases x <;> simp only [Oper.upon, Oper.uponIn] at h ⊢ <;>
      first
        | exact h
        | exact ⟨fun hh => by simp [Fence.wide] at hh, CallsIn.inRound r (callsIn_wide.2 h)⟩
        | exact ⟨fun hh => by simp [Fence.wide] at hh, rowsIn_wide h⟩
        | exact h.elim
  | halt x w' => cases x <;> simp only [Oper.upon, Oper.uponIn] at h ⊢ <;> first | exact h | exact h.elim
theorem wpOps_round {r n : Nat} {P : Program} {ops : Array Oper} {Q : Exit → Act → World → Prop} (hno : ¬ LetsOut Q) (hd : ∀ (i : Nat) (o : Oper), ops[i]? = some o → ∀ c, o.op ≠ .defer c) :
    ∀ (l : List Nat) (a : Act) (w : World), wpOps P ops Q l a w → wpOpsIn (Fence.wide.inRound r) n P ops Q l a w := by
  intro l
  induction l with
  | nil => exact fun _ _ h => h
  | cons i rest ih =>
    intro a w h
    unfold wpOpsIn
    unfold wpOps at h
    cases ho : ops[i]? with
    | none => simp only [ho] at h ⊢; exact ih _ _ h
    | some o =>
      simp only [ho] at h ⊢
      by_cases hw : Region.wanted o (yielded ops a.tmps) = true
      · simp only [hw, if_true] at h ⊢
        rcases h with h | h
        · exact oper_round (hd i o ho) (Oper.wp_mono ih h)
        · exact absurd h.2 hno
      · simp only [hw, if_false] at h ⊢
        exact ⟨fun _ _ => trivial, ih _ _ h⟩
def noDefer (ops : Array Oper) : Bool := ops.all fun o => match o.op with | .defer _ => false | _ => true
theorem noDefer_spec {ops : Array Oper} (h : noDefer ops = true) : ∀ (i : Nat) (o : Oper), ops[i]? = some o → ∀ c, o.op ≠ .defer c := by
  intro i o ho c hc
  obtain ⟨hi, rfl⟩ := Array.getElem?_eq_some_iff.1 ho
  have := Array.all_eq_true.1 h i hi
  rw [hc] at this
  cases this
theorem region_round {r n : Nat} {P : Program} {id : Nat} {ops : Array Oper} {Q : Exit → Act → World → Prop} {a : Act} {w : World} (hno : ¬ LetsOut Q) (hd : noDefer ops = true)
    (h : ∀ t, wpOps P ops Q (Region.schedule (P.follows .mixedOrders) ops t) a { w with drawn := w.drawn + 1 }) : (Code.region id ops true).wpIn (Fence.wide.inRound r) n P Q a w :=
  fun b k cs hro hb hr => let ⟨e, a', w', q, s⟩ := wp_opsIn _ a _ (wpOps_round hno (noDefer_spec hd) _ _ _ (h _)) b k cs hro hb hr
    ⟨e, a', w', q, .of_steps (.one (fenced_calm hb hr rfl) stepR_region_draw) s⟩
/-- 'start_' in a round. -/
theorem startR_ {r n' : Nat} {P : Program} {ops : Array Oper} {Q : Exit → Act → World → Prop} {S : World → Prop} {ds : List Nat} {id n : Nat} {a : Act} {w : World} (l : Array Bool) (hno : ¬ LetsOut Q) (hd : noDefer ops = true) (hm : P.follows .mixedOrders = true) (hn : ops.size = n) (hl : Array.replicate n false = l) (hS : S w.drew)
    (h : S w.drew → wpAnyLast P .any ops Q S ds n l a w.drew) : (Code.region id ops true).wpIn (Fence.wide.inRound r) n' P Q a w := by
  subst hn
  subst hl
  refine region_round hno hd fun t => ?_
  simp only [Region.schedule, hm, Bool.true_or, if_true]
  exact wpAny_sound ops.size t _ a _ (wpAny_of_last _ _ _ _ (h hS))
/-- A function that holds a range over a function. -/
theorem calls_of_wp_marks {P : Program} {f : FuncId} {fn : Func} {c : Code} {args : Array Value} {w : World} {R : Ending → World → Prop} (hf : P.funcs[f]? = some fn) (hb : fn.body = some c)
    (h : c.wp P (bodyPostM Fence.wide 3 P fn R) { tmps := args ++ Array.replicate (fn.ntmps - args.size) undef, defers := [] } w) : Calls P f args w R :=
  callsIn_wide.1 (callsIn_of_wp_marks (n := 3) hf hb trivial (wpIn_wide.2 h))
theorem postM_ret {P : Program} {fn : Func} {R : Ending → World → Prop} {a : Act} {w : World} {v : Value} (hv : (results fn a.tmps).run P w = .ok v w) (hd : a.defers = []) (h : R (.returned v) w) : bodyPostM Fence.wide 3 P fn R .ret a w := by
  show LeavesInM _ _ _ _ _ _ a.defers _ _
  rw [hd]
  exact ⟨v, hv, h⟩
theorem postM_leave {P : Program} {fn : Func} {R : Ending → World → Prop} {tmps : Array Value} {D : Nat} {w w' : World} {v : Value} (hK : w.heap[D]? = some (.deferred (some []))) (hw : w' = w.putObj D (.deferred none)) (hv : (results fn tmps).run P w' = .ok v w') (h : R (.returned v) w') :
    bodyPostM Fence.wide 3 P fn R .ret { tmps := tmps, defers := [{ target := .collected D, args := #[] }] } w := by
  subst hw
  exact ⟨by simp, .inl ⟨_, _, rfl, run_takeDeferred hK, _, hv, h⟩⟩
/-- 'goes_', where the callee is a value of a slot. -/
theorem goesV_ {P : Program} {ops : Array Oper} {Q : Exit → Act → World → Prop} {oi : Oper} {N : Option Tmp} {a : Act} {w : World} {K : Act → World → Prop} {f : FuncId} {fn : Func} {as_ : Array Operand} {ts : Array TypeId} {t : Tmp} (hf : P.funcs[f]? = some fn) (hname : (fn.name == "runtime.NumGoroutine") = false) (hb : fn.body.isSome = true) (args : Array Value)
    (hw : Region.wanted oi (yielded ops a.tmps) = true) (hN : oi.dst = N) (hop : oi.op = .call { callee := .value (.tmp t), args := as_, argTypes := ts }) (hev : a.eval (.tmp t) = .func (.func f) #[] #[]) (hargs : as_.map a.eval = args)
    (h : Calls P f args w fun e w' => ∃ v, e = .returned v ∧ K (a.put N v) w') : if Region.wanted oi (yielded ops a.tmps) = true then Oper.wp P oi a w K Q else K (a.put N undef) w := by
  refine call_ f args hw hN ?_ h
  have he := enters_ hf hname hb args w
  unfold execOp
  simp [hop, resolve, hev, Deferred.ofValue, invoke, hargs, he]
/-- What falls through, and nothing else. -/
def Only (Q : Exit → Act → World → Prop) : Exit → Act → World → Prop
  | .normal, a, w => Q .normal a w
  | _, _, _ => False
theorem only_of {Q : Exit → Act → World → Prop} {a : Act} {w : World} (h : Q .normal a w) : Only Q .normal a w := h
theorem obj_far {w : World} {g : Nat} {o : Obj} (h : w.heap[g]? = some o) {p : Addr} (hp : g ≠ p.block) (u : Value) : (w.setCell p u).heap[g]? = some o := (Below.heap_setCell w p u g hp).trans h
theorem obj_put {w : World} {g D : Nat} {o o' : Obj} (h : w.heap[g]? = some o) (hp : D ≠ g) : (w.putObj D o').heap[g]? = some o := (World.putObj_heap_other (by first | exact hp | exact hp.symm)).trans h
theorem wp_only {P : Program} {c : Code} {Q : Exit → Act → World → Prop} {a : Act} {w : World} (h : c.wp P (Only Q) a w) : c.wp P Q a w :=
  wp_mono h (fun e a w hq => by cases e <;> first | exact hq | exact hq.elim)
end Go.Proofs.YtdlipbfcadmhjaaGreatDoor

namespace Go.Proofs.YtdlipbfcadmhjaaGreatDoor.Pl
open Go.Lib

/-! ### the joined text tells its list -/
def valD : List UInt8 → Nat := List.foldl (fun n b => n * 10 + (b.toNat - 48)) 0
theorem valD_snoc (l : List UInt8) (b : UInt8) : valD (l ++ [b]) = valD l * 10 + (b.toNat - 48) := by simp [valD]
theorem dig_toNat (d : Nat) (h : d < 10) : (UInt8.ofNat (48 + d)).toNat = 48 + d := by
  rw [UInt8.toNat_ofNat']; omega
theorem valD_dec : ∀ u : Nat, valD (decDigits u) = u := by
  intro u
  induction u using Nat.strongRecOn with
  | ind u ih =>
    rw [decDigits]
    split
    · rename_i h
      simp only [valD, List.foldl_cons, List.foldl_nil, dig_toNat u h]; omega
    · rw [valD_snoc, ih (u / 10) (by omega), dig_toNat _ (by omega)]; omega
theorem dec_no58 : ∀ u : Nat, ∀ b ∈ decDigits u, b ≠ 58 := by
  intro u
  induction u using Nat.strongRecOn with
  | ind u ih =>
    rw [decDigits]
    have ne : ∀ d, d < 10 → UInt8.ofNat (48 + d) ≠ 58 := by
      intro d hd he
      have := congrArg UInt8.toNat he
      rw [dig_toNat d hd] at this
      have e : (58 : UInt8).toNat = 58 := rfl
      omega
    split
    · rename_i h
      intro b hb
      rw [List.mem_singleton.1 hb]; exact ne u h
    · intro b hb
      rcases List.mem_append.1 hb with hb | hb
      · exact ih (u / 10) (by omega) b hb
      · rw [List.mem_singleton.1 hb]; exact ne _ (by omega)
theorem dec_inj {a b : Nat} (h : decDigits a = decDigits b) : a = b := by rw [← valD_dec a, h, valD_dec]
theorem split58 {a b r s : List UInt8} (ha : ∀ x ∈ a, x ≠ 58) (hb : ∀ x ∈ b, x ≠ 58) (h : a ++ 58 :: r = b ++ 58 :: s) : a = b ∧ r = s := by
  induction a generalizing b with
  | nil =>
    cases b with
    | nil => simpa using h
    | cons y b => simp only [List.nil_append, List.cons_append, List.cons.injEq] at h; exact absurd h.1.symm (hb y (by simp))
  | cons x a ih =>
    cases b with
    | nil => simp only [List.nil_append, List.cons_append, List.cons.injEq] at h; exact absurd h.1 (ha x (by simp))
    | cons y b =>
      simp only [List.cons_append, List.cons.injEq] at h
      obtain ⟨e1, e2⟩ := ih (fun z hz => ha z (by simp [hz])) (fun z hz => hb z (by simp [hz])) h.2
      exact ⟨by rw [h.1, e1], e2⟩
theorem itoa_nat (u : Nat) : itoa (u : Int) = decDigits u := by unfold itoa; rw [if_neg (by omega)]; simp
theorem dataLen (s : ByteArray) : s.data.toList.length = s.size := by rw [Array.length_toList]; rfl
theorem data_inj {a b : ByteArray} (h : a.data.toList = b.data.toList) : a = b := by
  cases a; cases b
  simp only [ByteArray.mk.injEq]
  exact Array.toList_inj.1 h
theorem joinedL_inj : ∀ {l m : List ByteArray}, joinedL l = joinedL m → l = m
  | [], [], _ => rfl
  | [], s :: m, h => by
    have := congrArg List.length h
    simp [joinedL] at this
  | s :: l, [], h => by
    have := congrArg List.length h
    simp [joinedL] at this
  | s :: l, t :: m, h => by
    simp only [joinedL, itoa_nat, List.append_assoc, List.cons_append] at h
    obtain ⟨e1, e2⟩ := split58 (dec_no58 _) (dec_no58 _) h
    have e3 := dec_inj e1
    obtain ⟨e4, e5⟩ := List.append_inj e2 (by rw [dataLen, dataLen, e3])
    rw [data_inj e4, joinedL_inj e5]
theorem joined_data (l : List ByteArray) : (joined l).data.toList = joinedL l := by simp [joined]
theorem joined_iff {l m : List ByteArray} : joined l = joined m ↔ l = m := ⟨fun h => joinedL_inj (by rw [← joined_data, h, joined_data]), fun h => by rw [h]⟩

/-! ### how long it is -/
theorem joinedL_le_capN : ∀ l : List ByteArray, (∀ x ∈ l, x.size ≤ 9223372036854775807) → (joinedL l).length ≤ capN l + l.length
  | [], _ => Nat.zero_le _
  | s :: l, h => by
    have h1 := itoa_length_le (s.size : Int) (by omega) (by have := h s (by simp); omega)
    have h2 := joinedL_le_capN l fun x hx => h x (by simp [hx])
    have h3 := dataLen s
    simp only [joinedL, capN, List.length_append, List.length_cons]
    omega
/-- What ref01.Few says. -/
def few (l : List ByteArray) (n : Nat) : Bool := l.all (fun x => decide (x.size ≤ n)) && decide (l.length ≤ 30)
theorem capN_le : ∀ (l : List ByteArray) (n : Nat), (∀ x ∈ l, x.size ≤ n) → capN l ≤ l.length * (n + 21)
  | [], _, _ => Nat.zero_le _
  | s :: l, n, h => by
    have h1 := capN_le l n fun x hx => h x (by simp [hx])
    have h2 := h s (by simp)
    simp only [capN, List.length_cons, Nat.succ_mul]
    omega
theorem few_caps {l : List ByteArray} {n : Nat} (h : few l n = true) (hn : n ≤ 1000000) : capN l ≤ 140737488355328 ∧ (joinedL l).length ≤ 140737488355328 ∧ (joined l).size ≤ 140737488355328 := by
  simp only [few, Bool.and_eq_true, List.all_eq_true, decide_eq_true_eq] at h
  have h1 := capN_le l n h.1
  have h2 := joinedL_le_capN l fun x hx => Nat.le_trans (h.1 x hx) (by omega)
  have h3 : l.length * (n + 21) ≤ 30 * (1000000 + 21) := Nat.mul_le_mul h.2 (by omega)
  rw [joined_size]
  omega

/-! ### texts as lists -/
theorem toL (s : ByteArray) : s.toList = s.data.toList := ByteArray.toList_eq s
theorem toL_iff {a b : ByteArray} : a.toList = b.toList ↔ a = b := ⟨fun h => data_inj (by rw [← toL, h, toL]), fun h => by rw [h]⟩
theorem sum_data (a : ByteArray) : (sum a).data.toList = sumL a.data.toList := by simp [sum]
theorem sum_size (a : ByteArray) : (sum a).size = 16 := by rw [← dataLen, sum_data, sumL_length]
theorem ext_data (s : ByteArray) (a b : Nat) : (s.extract a b).data.toList = (s.data.toList.drop a).take (b - a) := by
  exact Go.Lib.extract_data s a b

/-! ### chains -/
def chn : Nat → ByteArray → ByteArray
  | 0, a => a
  | n + 1, a => chn n (sum a)
theorem chn_add (n m : Nat) (a : ByteArray) : chn m (chn n a) = chn (n + m) a := by
  induction n generalizing a with
  | zero => simp [chn]
  | succ n ih => rw [Nat.succ_add]; exact ih (sum a)
theorem chn_size (n : Nat) (a : ByteArray) : (chn (n + 1) a).size = 16 := by
  induction n generalizing a with
  | zero => exact sum_size a
  | succ n ih => exact ih (sum a)
theorem chn_is_sum (n : Nat) (a : ByteArray) : ∃ b, chn (n + 1) a = sum b := by
  induction n generalizing a with
  | zero => exact ⟨a, rfl⟩
  | succ n ih => exact ih (sum a)
theorem hexd_mem (n : Nat) (h : n < 16) : hexSet.contains (hexd n) = true := by
  have : ∀ n : Fin 16, hexSet.contains (hexd n.val) = true := by decide
  exact this ⟨n, h⟩
theorem hexs_all (j n : Nat) : (hexs j n).all (hexSet.contains ·) = true := by
  induction j generalizing n with
  | zero => rfl
  | succ j ih => simp only [hexs, List.all_append, ih, List.all_cons, List.all_nil, Bool.and_true, Bool.true_and]; exact hexd_mem _ (by omega)
theorem isDig_sum (a : ByteArray) : isDig (sum a) = true := by
  unfold isDig
  rw [sum_size, sum_data]
  simp only [decide_true, Bool.true_and]
  exact hexs_all _ _
end Go.Proofs.YtdlipbfcadmhjaaGreatDoor.Pl

namespace Go.Proofs.YtdlipbfcadmhjaaGreatDoor.Pl
open Go.Lib
theorem hexs_get : ∀ (j n i : Nat), i < j → (hexs j n).getD i 0 = hexd (n / 16 ^ (j - 1 - i) % 16)
  | 0, _, _, h => by omega
  | j + 1, n, i, h => by
    unfold hexs
    by_cases hi : i < j
    · rw [List.getD_eq_getElem?_getD, List.getElem?_append_left (by rw [hexs_length]; exact hi), ← List.getD_eq_getElem?_getD, hexs_get j (n / 16) i hi]
      rw [Nat.div_div_eq_div_mul, Nat.mul_comm, ← Nat.pow_succ, show (j - 1 - i).succ = j + 1 - 1 - i by omega]
    · obtain rfl : i = j := by omega
      rw [List.getD_eq_getElem?_getD, List.getElem?_append_right (by rw [hexs_length]; omega), hexs_length]
      simp
/-- The digit i of a message's digest. -/
def dig (m : ByteArray) (i : Nat) : Nat := final m.data.toList / 16 ^ (15 - i) % 16
theorem dig_lt (m : ByteArray) (i : Nat) : dig m i < 16 := Nat.mod_lt _ (by omega)
theorem sum_get (m : ByteArray) (i : Nat) (h : i < 16) : (sum m).data.toList.getD i 0 = hexd (dig m i) := by
  rw [sum_data]; exact hexs_get 16 _ i h
/-- What is left to 15, of the first i digits. -/
def rest (m : ByteArray) : Nat → Nat
  | 0 => 0
  | i + 1 => rest m i + (15 - dig m i)
theorem rest_le (m : ByteArray) : ∀ i, rest m i ≤ 15 * i
  | 0 => Nat.zero_le _
  | i + 1 => by have := rest_le m i; simp only [rest]; omega
/-- The digit of the chain k. -/
def dg (m : ByteArray) (k : Nat) : Nat := if k < 16 then dig m k else if k = 16 then rest m 16 / 16 else rest m 16 % 16
theorem dg_16 (m : ByteArray) : dg m 16 = rest m 16 / 16 := by unfold dg; rw [if_neg (by omega), if_pos rfl]
theorem dg_17 (m : ByteArray) : dg m 17 = rest m 16 % 16 := by unfold dg; rw [if_neg (by omega), if_neg (by omega)]
theorem dg_dig (m : ByteArray) {i : Nat} (h : i < 16) : dg m i = dig m i := by unfold dg; rw [if_pos h]
theorem rest_succ (m : ByteArray) (i : Nat) : rest m (i + 1) = rest m i + (15 - dig m i) := by rw [rest]
theorem dg_lt (m : ByteArray) (k : Nat) : dg m k < 16 := by
  unfold dg
  split
  · exact dig_lt m k
  · split
    · have := rest_le m 16; omega
    · exact Nat.mod_lt _ (by omega)
theorem idx_hexd (n : Nat) (h : n < 16) : Lib.indexByte hexSet (hexd n) = (n : Int) := by
  have : ∀ n : Fin 16, Lib.indexByte hexSet (hexd n.val) = (n.val : Int) := by decide
  exact this ⟨n, h⟩
/-- The numbers of the chains, in the iterator's order. -/
def K18 : List (Fin 18) := List.finRange 18
theorem k18_len : K18.length = 18 := by simp [K18]
theorem k18_take (k : Nat) (h : k < 18) : K18.take (k + 1) = K18.take k ++ [⟨k, h⟩] := by
  rw [List.take_succ_eq_append_getElem (by rw [k18_len]; exact h)]
  simp [K18]
theorem k18_all : K18.take 18 = K18 := List.take_of_length_le (by rw [k18_len]; omega)
end Go.Proofs.YtdlipbfcadmhjaaGreatDoor.Pl
