/- seal, plain: what the reference functions answer: digits, the texts of a check. -/
import Derived.Test.YtdlipbfcadmhjaaGreatDoorKD
import Derived.Test.YtdlipbfcadmhjaaGreatDoorPG3x27
import Derived.Test.YtdlipbfcadmhjaaGreatDoorPG3x35
import Derived.Test.YtdlipbfcadmhjaaGreatDoorPG3x22
namespace Go.Proofs.YtdlipbfcadmhjaaGreatDoor
set_option linter.unusedVariables false
set_option linter.unusedSimpArgs false
open Go.RowKit Go.Proofs.YtdlipbfcadmhjaaGreatDoorW.PrintWords Go.Proofs.YtdlipbfcadmhjaaGreatDoorW.PrintMore PG3
def Pl.digsI (m : ByteArray) : List Int := (List.range 18).map fun k => ((Pl.dg m k : Nat) : Int)
theorem Pl.digs_len (m : ByteArray) : (Pl.digsI m).length = 18 := by simp [Pl.digsI]
theorem Pl.digs_rd (m : ByteArray) {k : Nat} (h : k < 18) : rd (Pl.digsI m) (k : Int) = ((Pl.dg m k : Nat) : Int) := by
 show (Pl.digsI m).getD k 0 = _
 unfold Pl.digsI
 rw [List.getD_eq_getElem?_getD, List.getElem?_map, List.getElem?_range h]
 rfl
theorem digit_val : ∀ d : Fin 16, customhouseref01_Digit.f 2 ((Pl.hexd d.val).toNat : Int) = some (d.val : Int) := by decide +kernel
theorem digitVE (d : Nat) (h : d < 16) : Ev (fun k => customhouseref01_Digit.f k ((Pl.hexd d).toNat : Int)) (d : Int) := Ev.of (k := 2) (fun k => customhouseref01_Digit.mono _ k) (digit_val ⟨d, h⟩)
theorem digits_l0 (m : ByteArray) : ∀ (d i : Nat), i + d = 16 → Ev (fun k => customhouseref03_Digits.l0 k (Pl.sum m) ((List.range i).map fun k => ((Pl.dg m k : Nat) : Int)) ((Pl.rest m i : Nat) : Int) (i : Int)) (Pl.digsI m) := by
 have hz : (Pl.sum m).size = 16 := Pl.sum_size m
 intro d
 induction d with
 | zero =>
  intro i hi
  obtain rfl : i = 16 := by omega
  refine evS ?_
  have hr := Pl.rest_le m 16
  have e1 : wrap64 (Int.tdiv ((Pl.rest m 16 : Nat) : Int) 16) = ((Pl.dg m 16 : Nat) : Int) := by
   rw [Pl.dg_16, Int.tdiv_eq_ediv_of_nonneg (by omega), w64_id] <;> omega
  have e2 : Int.tmod ((Pl.rest m 16 : Nat) : Int) 16 = ((Pl.dg m 17 : Nat) : Int) := by
   rw [Pl.dg_17, Int.tmod_eq_emod_of_nonneg (by omega)]; omega
  simp only [customhouseref03_Digits.l0, if_neg (show ¬ ((16 : Nat) : Int) < ((Pl.sum m).size : Int) by rw [hz]; omega), e1, e2, Option.bind_some, if_pos (show ((List.range 16).map fun k => ((Pl.dg m k : Nat) : Int)).length + ([((Pl.dg m 16 : Nat) : Int), ((Pl.dg m 17 : Nat) : Int)] : List Int).length < 17592186044416 by simp)]
  refine evE (Ev.now _) ?_
  unfold Pl.digsI
  rw [show List.range 18 = List.range 16 ++ [16, 17] by decide, List.map_append]
  rfl
 | succ d ih =>
  intro i hi
  refine evS ?_
  have hr := Pl.rest_le m i
  have hd := Pl.dig_lt m i
  have hb : bt (Pl.sum m) (i : Int) = ((Pl.hexd (Pl.dig m i)).toNat : Int) := by
   rw [getD_at _ i (by omega), Pl.sum_get m i (by omega)]
  have e1 : wrap64 ((i : Int) + 1) = ((i + 1 : Nat) : Int) := by rw [w64_id] <;> omega
  have e2 : wrap64 ((wrap64 (((Pl.rest m i : Nat) : Int) + 15)) - ((Pl.dig m i : Nat) : Int)) = ((Pl.rest m (i + 1) : Nat) : Int) := by
   have : wrap64 (((Pl.rest m i : Nat) : Int) + 15) = ((Pl.rest m i : Nat) : Int) + 15 := by rw [w64_id] <;> omega
   rw [this, Pl.rest_succ, w64_id] <;> omega
  simp only [customhouseref03_Digits.l0, if_pos (show (i : Int) < ((Pl.sum m).size : Int) by rw [hz]; omega), if_pos (show (0 : Int) ≤ (i : Int) by omega), hb]
  refine Ev.bind (digitVE _ hd) ?_
  simp only [if_pos (show ((List.range i).map fun k => ((Pl.dg m k : Nat) : Int)).length < 17592186044416 by simp; omega), e1, e2]
  have := ih (i + 1) (by omega)
  rw [List.range_succ, List.map_append, List.map_singleton, Pl.dg_dig m (by omega : i < 16)] at this
  exact this
theorem digitsE3 (m : ByteArray) (hm : m.size ≤ 4611686018427387904) : Ev (fun k => customhouseref03_Digits.f k m) (Pl.digsI m) := by
 unfold customhouseref03_Digits.f
 refine Ev.bind (Q4.refSumE m hm) ?_
 exact digits_l0 m 16 0 (by omega)
theorem nodeTE (a b : ByteArray) (ha : a.size ≤ 1000) (hb : b.size ≤ 1000) : customhouseref03_node.f a b = some (Pl.joined (Pl.nodeL a b)) := by
 unfold customhouseref03_node.f
 have hj : customhouseref01_Joined.f [(⟨#[110, 111, 100, 101]⟩ : ByteArray), a, b] = some (Pl.joined (Pl.nodeL a b)) := jE (Pl.nodeL a b) (few_node _ _ ha hb)
 rw [hj]; rfl
theorem Pl.stepText_size (i : Nat) (d p : ByteArray) (hd : d.size ≤ 1000) (hp : p.size ≤ 1000) : (Pl.stepText i d p).size ≤ 140737488355328 := by
 unfold Pl.stepText
 split
 ·exact (Pl.few_caps (few_node p d hp hd) (by omega)).2.2
 ·exact (Pl.few_caps (few_node d p hd hp) (by omega)).2.2
theorem checked_l1 (idx : Int) (sig path : List ByteArray) (hl : path.length ≤ 1000) (hp : ∀ x ∈ path, x.size ≤ 1000) : ∀ (d i : Nat) (at_ : ByteArray) (j : Nat) (out : List ByteArray), i + d = path.length → at_.size ≤ 1000 → j ≤ 9223372036854775807 → out.length + d ≤ 1000000 →
    Ev (fun k => customhouseref03_Checked.l1 k out at_ (j : Int) (i : Int) idx sig path) (out ++ Pl.foldT j at_ (path.drop i)) := by
 intro d
 induction d with
 | zero =>
  intro i at_ j out hi _ _ _
  refine evS ?_
  simp only [customhouseref03_Checked.l1, if_neg (show ¬ (i : Int) < (path.length : Int) by omega)]
  rw [List.drop_of_length_le (by omega), Pl.foldT, List.append_nil]
  exact Ev.now _
 | succ d ih =>
  intro i at_ j out hi ha hj ho
  have hlt : i < path.length := by omega
  have e1 : wrap64 ((i : Int) + 1) = ((i + 1 : Nat) : Int) := by rw [w64_id] <;> omega
  have e2 : wrap64 (Int.tdiv (j : Int) 2) = ((j / 2 : Nat) : Int) := by rw [Int.tdiv_eq_ediv_of_nonneg (by omega), w64_id] <;> omega
  have e3 : Int.tmod (j : Int) 2 = ((j % 2 : Nat) : Int) := by rw [Int.tmod_eq_emod_of_nonneg (by omega)]; omega
  have hr : rdOf ByteArray.empty path (i : Int) = path[i] := by
   show path.getD i _ = _
   rw [List.getD_eq_getElem?_getD, List.getElem?_eq_getElem hlt]; rfl
  have hx : path[i].size ≤ 1000 := hp _ (List.getElem_mem _)
  have hd : path.drop i = path[i] :: path.drop (i + 1) := List.drop_eq_getElem_cons hlt
  have hst := Pl.stepText_size j at_ path[i] ha hx
  refine evS ?_
  simp only [customhouseref03_Checked.l1, if_pos (show (i : Int) < (path.length : Int) by omega), if_pos (show (0 : Int) ≤ (i : Int) by omega), hr, nodeTE at_ path[i] ha hx, nodeTE path[i] at_ hx ha, Option.bind_some, e1, e2, e3, if_pos (show out.length < 8796093022208 by omega)]
  have go : ∀ t : ByteArray, t = Pl.stepText j at_ path[i] → Ev (fun k => (customhouseref01_Sum.f k t).bind fun s => customhouseref03_Checked.l1 k (out ++ [t]) s ((j / 2 : Nat) : Int) ((i + 1 : Nat) : Int) idx sig path) (out ++ Pl.foldT j at_ (path.drop i)) := by
   rintro t rfl
   refine Ev.bind (Q4.refSumE _ (by omega)) ?_
   have := ih (i + 1) (Pl.sum (Pl.stepText j at_ path[i])) (j / 2) (out ++ [Pl.stepText j at_ path[i]]) (by omega) (by rw [Pl.sum_size]; omega) (by omega) (by simp; omega)
   rw [hd, Pl.foldT]
   rw [List.append_assoc] at this
   exact this
  by_cases hodd : j % 2 = 1
  ·simp only [if_pos (show ((j % 2 : Nat) : Int) = 1 by omega)]
   exact go _ (by unfold Pl.stepText; rw [if_pos hodd])
  ·simp only [if_neg (show ¬ ((j % 2 : Nat) : Int) = 1 by omega)]
   exact go _ (by unfold Pl.stepText; rw [if_neg hodd])
theorem Pl.ends_len (m : ByteArray) (sig : List ByteArray) : (Pl.endsP m sig).length = 18 := by simp [Pl.endsP, Pl.k18_len]
theorem Pl.ends_small (m : ByteArray) (sig : List ByteArray) (h : ∀ x ∈ sig, x.size ≤ 1000) : ∀ x ∈ Pl.endsP m sig, x.size ≤ 1000 := by
 intro x hx
 simp only [Pl.endsP, List.mem_map] at hx
 obtain ⟨k, _, rfl⟩ := hx
 have h0 : (sig.getD k.val ByteArray.empty).size ≤ 1000 := by
  rw [List.getD_eq_getElem?_getD]
  cases hg : sig[k.val]? with
  | none => show ByteArray.empty.size ≤ 1000; decide
  | some y => exact h y (List.mem_of_getElem? hg)
 cases hn : 15 - Pl.dg m k.val with
 | zero => exact h0
 | succ n => rw [Pl.chn_size]; omega
theorem checked_j1 (m : ByteArray) (i : Nat) (sig path : List ByteArray) (hl : path.length ≤ 1000) (hp : ∀ x ∈ path, x.size ≤ 1000) (hs : ∀ x ∈ sig, x.size ≤ 1000) (hi : i ≤ 9223372036854775807) (out : List ByteArray) (ho : out.length ≤ 900000) :
    Ev (fun k => customhouseref03_Checked.j1 k out (Pl.endsP m sig) (i : Int) sig path) (out ++ [Pl.joined (Pl.endsP m sig), Pl.joined (Pl.leafL (Pl.sealKey m sig))] ++ Pl.foldT i (Pl.leafP (Pl.sealKey m sig)) path) := by
 have hfe := few_ends (Pl.endsP m sig) (by rw [Pl.ends_len]; omega) (Pl.ends_small m sig hs)
 have hsm : (Pl.joined (Pl.endsP m sig)).size ≤ 140737488355328 := (Pl.few_caps hfe (by omega)).2.2
 have hks : (Pl.sealKey m sig).size = 16 := Pl.sum_size _
 have hsl : (Pl.joined (Pl.leafL (Pl.sealKey m sig))).size ≤ 140737488355328 := (Pl.few_caps (few_leaf (Pl.sealKey m sig) (by omega)) (by omega)).2.2
 have hj : customhouseref01_Joined.f [(⟨#[108, 101, 97, 102]⟩ : ByteArray), Pl.sum (Pl.joined (Pl.endsP m sig))] = some (Pl.joined (Pl.leafL (Pl.sealKey m sig))) := jE _ (few_leaf (Pl.sealKey m sig) (by omega))
 refine evS ?_
 simp only [customhouseref03_Checked.j1, jE _ hfe, Option.bind_some]
 refine Ev.bind (Q4.refSumE _ (by omega)) ?_
 simp only [hj, Option.bind_some, if_pos (show out.length + [Pl.joined (Pl.endsP m sig), Pl.joined (Pl.leafL (Pl.sealKey m sig))].length < 8796093022208 by simp; omega)]
 refine Ev.bind (Q4.refSumE _ (by omega)) ?_
 have := checked_l1 (i : Int) sig path hl hp path.length 0 (Pl.leafP (Pl.sealKey m sig)) i (out ++ [Pl.joined (Pl.endsP m sig), Pl.joined (Pl.leafL (Pl.sealKey m sig))]) (by omega) (by show (Pl.sum _).size ≤ 1000; rw [Pl.sum_size]; omega) hi (by simp; omega)
 rw [List.drop_zero] at this
 exact this
theorem checkedT_len (m : ByteArray) (sig : List ByteArray) (k : Fin 18) : (Pl.checkedT m sig k).length ≤ 16 := by
 unfold Pl.checkedT
 rw [Pl.chained_len]; omega
theorem checked_l0 (m : ByteArray) (i : Nat) (sig path : List ByteArray) (h18 : sig.length = 18) (hl : path.length ≤ 1000) (hp : ∀ x ∈ path, x.size ≤ 1000) (hs : ∀ x ∈ sig, x.size ≤ 1000) (hi : i ≤ 9223372036854775807) :
    ∀ (d k : Nat) (out : List ByteArray), k + d = 18 → out.length + 16 * d ≤ 500000 →
    Ev (fun K => customhouseref03_Checked.l0 K (Pl.digsI m) out ((Pl.endsP m sig).take k) (k : Int) (i : Int) sig path) (out ++ ((Pl.K18.drop k).map (Pl.checkedT m sig)).flatten ++ [Pl.joined (Pl.endsP m sig), Pl.joined (Pl.leafL (Pl.sealKey m sig))] ++ Pl.foldT i (Pl.leafP (Pl.sealKey m sig)) path) := by
 intro d
 induction d with
 | zero =>
  intro k out hk ho
  obtain rfl : k = 18 := by omega
  refine evS ?_
  simp only [customhouseref03_Checked.l0, if_neg (show ¬ ((18 : Nat) : Int) < 18 by omega)]
  rw [List.take_of_length_le (by rw [Pl.ends_len]; omega), List.drop_of_length_le (by rw [Pl.k18_len]; omega), List.map_nil, List.flatten_nil, List.append_nil]
  exact checked_j1 m i sig path hl hp hs hi out (by omega)
 | succ d ih =>
  intro k out hk ho
  have hk18 : k < 18 := by omega
  have hd := Pl.dg_lt m k
  have e1 : wrap64 ((k : Int) + 1) = ((k + 1 : Nat) : Int) := by rw [w64_id] <;> omega
  have e2 : wrap64 (15 - ((Pl.dg m k : Nat) : Int)) = ((15 - Pl.dg m k : Nat) : Int) := by rw [w64_id] <;> omega
  have hr : rdOf ByteArray.empty sig (k : Int) = sig.getD k ByteArray.empty := rfl
  have hx : (sig.getD k ByteArray.empty).size ≤ 1000 := by
   rw [List.getD_eq_getElem?_getD, List.getElem?_eq_getElem (by omega)]
   exact hs _ (List.getElem_mem _)
  have hrd : rd (Pl.digsI m) (k : Int) = ((Pl.dg m k : Nat) : Int) := Pl.digs_rd m hk18
  refine evS ?_
  simp only [customhouseref03_Checked.l0, if_pos (show (k : Int) < 18 by omega), if_pos (show (k : Int) < (sig.length : Int) by omega), if_pos (show (0 : Int) ≤ (k : Int) by omega), Pl.digs_len, if_pos (show (k : Int) < ((18 : Nat) : Int) by omega), hrd, e1, e2, hr]
  refine Ev.bind (chainedE (sig.getD k ByteArray.empty) (15 - Pl.dg m k) (by omega) (by omega)) ?_
  have hg : rdOf ByteArray.empty (Pl.chainedP (sig.getD k ByteArray.empty) (15 - Pl.dg m k)) ((15 - Pl.dg m k : Nat) : Int) = Pl.chn (15 - Pl.dg m k) (sig.getD k ByteArray.empty) := Pl.chained_get _ _ (Nat.le_refl _)
  simp only [if_pos (show out.length + (Pl.chainedP (sig.getD k ByteArray.empty) (15 - Pl.dg m k)).length < 8796093022208 by rw [Pl.chained_len]; omega), if_pos (show (0 : Int) ≤ ((15 - Pl.dg m k : Nat) : Int) by omega), if_pos (show ((15 - Pl.dg m k : Nat) : Int) < ((Pl.chainedP (sig.getD k ByteArray.empty) (15 - Pl.dg m k)).length : Int) by rw [Pl.chained_len]; omega), if_pos (show ((Pl.endsP m sig).take k).length < 8796093022208 by rw [List.length_take, Pl.ends_len]; omega), hg]
  have ht : (Pl.endsP m sig).take k ++ [Pl.chn (15 - Pl.dg m k) (sig.getD k ByteArray.empty)] = (Pl.endsP m sig).take (k + 1) := by
   rw [List.take_succ_eq_append_getElem (by rw [Pl.ends_len]; omega)]
   congr 2
   have := Pl.ends_get m sig ⟨k, hk18⟩
   rw [List.getD_eq_getElem?_getD, List.getElem?_eq_getElem (by rw [Pl.ends_len]; exact hk18)] at this
   exact this.symm
  rw [ht]
  have hdr : Pl.K18.drop k = ⟨k, hk18⟩ :: Pl.K18.drop (k + 1) := by
   rw [List.drop_eq_getElem_cons (by rw [Pl.k18_len]; exact hk18)]
   congr 1
   simp [Pl.K18]
  rw [hdr, List.map_cons, List.flatten_cons]
  have hc : Pl.checkedT m sig ⟨k, hk18⟩ = Pl.chainedP (sig.getD k ByteArray.empty) (15 - Pl.dg m k) := rfl
  rw [hc]
  have := ih (k + 1) (out ++ Pl.chainedP (sig.getD k ByteArray.empty) (15 - Pl.dg m k)) (by omega) (by rw [List.length_append, Pl.chained_len]; omega)
  rw [List.append_assoc out] at this
  exact this
theorem checkedE (m : ByteArray) (hm : m.size ≤ 1000000) (i : Nat) (sig path : List ByteArray) (h18 : sig.length = 18) (hl : path.length ≤ 1000) (hp : ∀ x ∈ path, x.size ≤ 1000) (hs : ∀ x ∈ sig, x.size ≤ 1000) (hi : i ≤ 9223372036854775807) :
    Ev (fun k => customhouseref03_Checked.f k m (i : Int) sig path) (Pl.checkedP m i sig path) := by
 unfold customhouseref03_Checked.f
 refine Ev.bind (digitsE3 m (by omega)) ?_
 have := checked_l0 m i sig path h18 hl hp hs hi 18 0 [] (by omega) (by simp)
 rw [List.take_zero, List.drop_zero, List.nil_append] at this
 exact this
theorem Pl.foldT_small (hd0 : True) : ∀ (path : List ByteArray) (i : Nat) (d : ByteArray), d.size ≤ 1000 → (∀ x ∈ path, x.size ≤ 1000) → (Pl.foldT i d path).length = path.length ∧ ∀ x ∈ Pl.foldT i d path, x.size ≤ 140737488355328
  | [], _, _, _, _ => ⟨rfl, fun x hx => by cases hx⟩
  | p :: r, i, d, hd, hp => by
    obtain ⟨h1, h2⟩ := Pl.foldT_small hd0 r (i / 2) (Pl.sum (Pl.stepText i d p)) (by rw [Pl.sum_size]; omega) (fun x hx => hp x (by simp [hx]))
    refine ⟨by rw [Pl.foldT, List.length_cons, h1, List.length_cons], fun x hx => ?_⟩
    rw [Pl.foldT] at hx
    rcases List.mem_cons.1 hx with rfl | hx
    · exact Pl.stepText_size i d p hd (hp p (by simp))
    · exact h2 x hx
theorem Pl.checked_small (m : ByteArray) (i : Nat) (sig path : List ByteArray) (h18 : sig.length = 18) (hl : path.length ≤ 1000) (hp : ∀ x ∈ path, x.size ≤ 1000) (hs : ∀ x ∈ sig, x.size ≤ 1000) :
    (Pl.checkedP m i sig path).length ≤ 2000 ∧ ∀ x ∈ Pl.checkedP m i sig path, x.size ≤ 140737488355328 := by
 have hks : (Pl.sealKey m sig).size = 16 := Pl.sum_size _
 obtain ⟨f1, f2⟩ := Pl.foldT_small trivial path i (Pl.leafP (Pl.sealKey m sig)) (by show (Pl.sum _).size ≤ 1000; rw [Pl.sum_size]; omega) hp
 have hfe := few_ends (Pl.endsP m sig) (by rw [Pl.ends_len]; omega) (Pl.ends_small m sig hs)
 have h3 : ((Pl.K18.map (Pl.checkedT m sig)).flatten).length ≤ 18 * 16 := by
  have : ∀ l : List (Fin 18), ((l.map (Pl.checkedT m sig)).flatten).length ≤ l.length * 16 := by
   intro l
   induction l with
   | nil => simp
   | cons a l ih => have := checkedT_len m sig a; simp only [List.map_cons, List.flatten_cons, List.length_append, List.length_cons]; omega
  have := this Pl.K18
  rwa [Pl.k18_len] at this
 refine ⟨?_, fun x hx => ?_⟩
 ·unfold Pl.checkedP
  simp only [List.length_append, List.length_cons, List.length_nil, f1]
  omega
 ·unfold Pl.checkedP at hx
  simp only [List.mem_append, List.mem_cons, List.not_mem_nil, or_false] at hx
  rcases hx with (hx | rfl | rfl) | hx
  ·obtain ⟨l, hl', hx⟩ := List.mem_flatten.1 hx
   obtain ⟨k, _, rfl⟩ := List.mem_map.1 hl'
   unfold Pl.checkedT Pl.chainedP at hx
   obtain ⟨j, _, rfl⟩ := List.mem_map.1 hx
   have h0 : (sig.getD k.val ByteArray.empty).size ≤ 1000 := by
    rw [List.getD_eq_getElem?_getD, List.getElem?_eq_getElem (by have := k.isLt; omega)]
    exact hs _ (List.getElem_mem _)
   cases j with
   | zero => show (sig.getD k.val ByteArray.empty).size ≤ _; omega
   | succ n => rw [Pl.chn_size]; omega
  ·exact (Pl.few_caps hfe (by omega)).2.2
  ·exact (Pl.few_caps (few_leaf (Pl.sealKey m sig) (by omega)) (by omega)).2.2
  ·exact f2 x hx
theorem few3_l1 (i0 : Int) (sig path : List ByteArray) (hs : sig.length ≤ 9223372036854775807) (hp : path.length ≤ 9223372036854775807) : ∀ (d i : Nat), i + d = path.length → i ≤ 30 → (path.take i).all (fun x => decide (x.size ≤ 100)) = true → ∃ r, Ev (fun k => customhouseref03_Few.l1 k (i : Int) i0 sig path) r ∧ (r = true → sig.length ≤ 30 ∧ path.length ≤ 30 ∧ ∀ x ∈ path, x.size ≤ 100) := by
 intro d
 induction d using Nat.strongRecOn with
 | ind d ih =>
  intro i hi h30 ha
  by_cases hlt : i < path.length ∧ i < 30
  ·have hr : rdOf ByteArray.empty path (i : Int) = path[i]'hlt.1 := by
    show path.getD i _ = _
    rw [List.getD_eq_getElem?_getD, List.getElem?_eq_getElem hlt.1]; rfl
   have e1 : wrap64 ((i : Int) + 1) = ((i + 1 : Nat) : Int) := by rw [w64_id] <;> omega
   by_cases hb : (path[i]'hlt.1).size > 100
   ·refine ⟨false, evS (evS ?_), fun h => by cases h⟩
    simp only [customhouseref03_Few.l1, if_pos (show (i : Int) < (path.length : Int) by omega), decide_eq_true (show (i : Int) < 30 by omega), customhouseref03_Few.j3, if_true, if_pos (show (0 : Int) ≤ (i : Int) by omega), hr, if_pos (show ((path[i]'hlt.1).size : Int) > 100 by omega)]
    exact Ev.now _
   ·obtain ⟨r, h1, h2⟩ := ih (d - 1) (by omega) (i + 1) (by omega) (by omega) (by rw [List.take_succ_eq_append_getElem hlt.1, List.all_append, ha]; simp; omega)
    refine ⟨r, evS (evS ?_), h2⟩
    simp only [customhouseref03_Few.l1, if_pos (show (i : Int) < (path.length : Int) by omega), decide_eq_true (show (i : Int) < 30 by omega), customhouseref03_Few.j3, if_true, if_pos (show (0 : Int) ≤ (i : Int) by omega), hr, if_neg (show ¬ ((path[i]'hlt.1).size : Int) > 100 by omega), e1]
    exact h1
  ·have hfin : (if (sig.length : Int) ≤ 30 then some (decide ((path.length : Int) ≤ 30)) else some false) = some (decide (sig.length ≤ 30) && decide (path.length ≤ 30)) := by
    by_cases h : sig.length ≤ 30
    ·rw [if_pos (by omega), decide_eq_true h, Bool.true_and]
     congr 1
     rw [decide_eq_decide]; omega
    ·rw [if_neg (by omega), decide_eq_false h, Bool.false_and]
   refine ⟨decide (sig.length ≤ 30) && decide (path.length ≤ 30), ?_, fun h => ?_⟩
   ·refine evS (evS ?_)
    by_cases hc : (i : Int) < (path.length : Int)
    ·simp only [customhouseref03_Few.l1, if_pos hc, decide_eq_false (show ¬ (i : Int) < 30 by omega), customhouseref03_Few.j3, Bool.false_eq_true, if_false]
     rw [hfin]
     exact Ev.now _
    ·simp only [customhouseref03_Few.l1, if_neg hc, customhouseref03_Few.j3, Bool.false_eq_true, if_false]
     rw [hfin]
     exact Ev.now _
   ·simp only [Bool.and_eq_true, decide_eq_true_eq] at h
    refine ⟨h.1, h.2, fun x hx => ?_⟩
    rw [List.take_of_length_le (by omega)] at ha
    simpa using List.all_eq_true.1 ha x hx
theorem few3_l0 (i0 : Int) (sig path : List ByteArray) (hs : sig.length ≤ 9223372036854775807) (hp : path.length ≤ 9223372036854775807) : ∀ (d i : Nat), i + d = sig.length → i ≤ 30 → (sig.take i).all (fun x => decide (x.size ≤ 100)) = true → ∃ r, Ev (fun k => customhouseref03_Few.l0 k (i : Int) i0 sig path) r ∧ (r = true → (sig.length ≤ 30 ∧ ∀ x ∈ sig, x.size ≤ 100) ∧ path.length ≤ 30 ∧ ∀ x ∈ path, x.size ≤ 100) := by
 intro d
 induction d using Nat.strongRecOn with
 | ind d ih =>
  intro i hi h30 ha
  by_cases hlt : i < sig.length ∧ i < 30
  ·have hr : rdOf ByteArray.empty sig (i : Int) = sig[i]'hlt.1 := by
    show sig.getD i _ = _
    rw [List.getD_eq_getElem?_getD, List.getElem?_eq_getElem hlt.1]; rfl
   have e1 : wrap64 ((i : Int) + 1) = ((i + 1 : Nat) : Int) := by rw [w64_id] <;> omega
   by_cases hb : (sig[i]'hlt.1).size > 100
   ·refine ⟨false, evS (evS ?_), fun h => by cases h⟩
    simp only [customhouseref03_Few.l0, if_pos (show (i : Int) < (sig.length : Int) by omega), decide_eq_true (show (i : Int) < 30 by omega), customhouseref03_Few.j1, if_true, if_pos (show (0 : Int) ≤ (i : Int) by omega), hr, if_pos (show ((sig[i]'hlt.1).size : Int) > 100 by omega)]
    exact Ev.now _
   ·obtain ⟨r, h1, h2⟩ := ih (d - 1) (by omega) (i + 1) (by omega) (by omega) (by rw [List.take_succ_eq_append_getElem hlt.1, List.all_append, ha]; simp; omega)
    refine ⟨r, evS (evS ?_), h2⟩
    simp only [customhouseref03_Few.l0, if_pos (show (i : Int) < (sig.length : Int) by omega), decide_eq_true (show (i : Int) < 30 by omega), customhouseref03_Few.j1, if_true, if_pos (show (0 : Int) ≤ (i : Int) by omega), hr, if_neg (show ¬ ((sig[i]'hlt.1).size : Int) > 100 by omega), e1]
    exact h1
  ·obtain ⟨r, h1, h2⟩ := few3_l1 i0 sig path hs hp path.length 0 (by omega) (by omega) rfl
   refine ⟨r, ?_, fun h => ?_⟩
   ·refine evS (evS ?_)
    by_cases hc : (i : Int) < (sig.length : Int)
    ·simp only [customhouseref03_Few.l0, if_pos hc, decide_eq_false (show ¬ (i : Int) < 30 by omega), customhouseref03_Few.j1, Bool.false_eq_true, if_false]; exact h1
    ·simp only [customhouseref03_Few.l0, if_neg hc, customhouseref03_Few.j1, Bool.false_eq_true, if_false]; exact h1
   ·obtain ⟨a, b, c⟩ := h2 h
    refine ⟨⟨a, fun x hx => ?_⟩, b, c⟩
    rw [List.take_of_length_le (by omega)] at ha
    simpa using List.all_eq_true.1 ha x hx
theorem few3E (i0 : Int) (sig path : List ByteArray) (hs : sig.length ≤ 9223372036854775807) (hp : path.length ≤ 9223372036854775807) : ∃ r, Ev (fun k => customhouseref03_Few.f k i0 sig path) r ∧ (r = true → (sig.length ≤ 30 ∧ ∀ x ∈ sig, x.size ≤ 100) ∧ path.length ≤ 30 ∧ ∀ x ∈ path, x.size ≤ 100) := by
 unfold customhouseref03_Few.f
 exact few3_l0 i0 sig path hs hp sig.length 0 (by omega) (by omega) rfl
end Go.Proofs.YtdlipbfcadmhjaaGreatDoor
