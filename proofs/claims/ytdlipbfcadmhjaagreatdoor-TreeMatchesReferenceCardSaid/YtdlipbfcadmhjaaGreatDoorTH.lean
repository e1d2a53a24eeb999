/- tree, plain: the head of the tree's laws answers true. -/
import Derived.Test.YtdlipbfcadmhjaaGreatDoorTE
import Derived.Test.YtdlipbfcadmhjaaGreatDoorTC
import Derived.Test.YtdlipbfcadmhjaaGreatDoorPG2x7
import Derived.Test.YtdlipbfcadmhjaaGreatDoorPG2x8
namespace Go.Proofs.YtdlipbfcadmhjaaGreatDoor
set_option linter.unusedVariables false
set_option linter.unusedSimpArgs false
open Go.RowKit Go.Proofs.YtdlipbfcadmhjaaGreatDoorW.PrintWords Go.Proofs.YtdlipbfcadmhjaaGreatDoorW.PrintMore PG2

theorem checkE (root : ByteArray) (n i : Int) (s : ByteArray) (xs : List ByteArray) (hs : s.size ≤ 1000) (hx : xs.length ≤ 1000000) : tree_Check.f root n i s xs = some (Pl.checkP root n i s xs) := by
  unfold tree_Check.f
  rw [if_pos (by omega), if_pos (Pl.few_caps (few_leaf s hs) (by omega)).2.2]
theorem extendsE (old : ByteArray) (m : Int) (root : ByteArray) (n : Int) (xs : List ByteArray) (hx : xs.length ≤ 1000000) : tree_Extends.f old m root n xs = some (Pl.extendsP old m root n xs) := by
  unfold tree_Extends.f
  rw [if_pos (by omega)]
/-- What lawcode02.few says. -/
def Pl.few20 (l : List ByteArray) : Bool := decide (l.length ≤ 20) && Pl.few l 100
theorem few20E (l : List ByteArray) (hl : l.length ≤ 9223372036854775807) : Ev (fun k => customhouselaw02_few.f k l) (Pl.few20 l) := by
  unfold customhouselaw02_few.f Pl.few20
  by_cases hc : l.length ≤ 20
  · simp only [if_pos (show (l.length : Int) ≤ 20 by omega), decide_eq_true hc, Bool.true_and]
    exact Ev.bind (fewE l 100 hl) (Ev.now _)
  · simp only [if_neg (show ¬ (l.length : Int) ≤ 20 by omega), decide_eq_false hc, Bool.false_and]
    exact Ev.now _
theorem few20_of {l : List ByteArray} (h : Pl.few20 l = true) : l.length ≤ 20 ∧ ∀ x ∈ l, x.size ≤ 100 := by
  simp only [Pl.few20, Pl.few, Bool.and_eq_true, List.all_eq_true, decide_eq_true_eq] at h
  exact ⟨h.1, h.2.1⟩

theorem head_j1 (A B R : ByteArray) (l p n : List ByteArray) (hR : Ev (fun k => tree_Root.f k l) R) (c1 : tree_Check.f R 3 2 (⟨#[99]⟩ : ByteArray) p = some true) (c2 : tree_Check.f R 3 2 (⟨#[98]⟩ : ByteArray) p = some false)
    (c3 : tree_Extends.f A 1 R 3 n = some true) (c4 : tree_Extends.f B 1 R 3 n = some false) : Ev (fun k => customhouselaw02_head.j1 k A B l p n true true) true := by
  refine evS ?_
  simp only [customhouselaw02_head.j1, if_true]
  refine Ev.bind hR ?_
  simp only [c1, Option.bind_some, if_true]
  refine Ev.bind hR ?_
  simp only [c2, Option.bind_some, Bool.false_eq_true, if_false]
  refine Ev.bind hR ?_
  simp only [c3, Option.bind_some, if_true]
  refine Ev.bind hR ?_
  simp only [c4, Option.bind_some, Bool.not_false]
  exact Ev.now _
theorem same_any (x : List ByteArray) (h : x.length ≤ 9223372036854775807) : Ev (fun k => customhouseref01_Same.f k x x) true := evE (sameE x x h) (by simp)
theorem head_go (A B C AB R E : ByteArray)
    (hA : Ev (fun k => tree_Root.f k [(⟨#[97]⟩ : ByteArray)]) A) (hB : Ev (fun k => tree_Root.f k [(⟨#[98]⟩ : ByteArray)]) B) (hC : Ev (fun k => tree_Root.f k [(⟨#[99]⟩ : ByteArray)]) C) (hE : Ev (fun k => tree_Root.f k []) E)
    (hR : Ev (fun k => tree_Root.f k [(⟨#[97]⟩ : ByteArray), ⟨#[98]⟩, ⟨#[99]⟩]) R)
    (p2 : Ev (fun k => tree_Path.f k [(⟨#[97]⟩ : ByteArray), ⟨#[98]⟩, ⟨#[99]⟩] 2) ([AB], 0)) (p0 : Ev (fun k => tree_Path.f k [(⟨#[97]⟩ : ByteArray), ⟨#[98]⟩, ⟨#[99]⟩] 0) ([B, C], 0)) (p3 : Ev (fun k => tree_Path.f k [(⟨#[97]⟩ : ByteArray), ⟨#[98]⟩, ⟨#[99]⟩] 3) ([], 1))
    (k2 : Ev (fun k => tree_Link.f k [(⟨#[97]⟩ : ByteArray), ⟨#[98]⟩, ⟨#[99]⟩] 2) ([C], 0)) (k1 : Ev (fun k => tree_Link.f k [(⟨#[97]⟩ : ByteArray), ⟨#[98]⟩, ⟨#[99]⟩] 1) ([B, C], 0))
    (d1 : digest_List.f [(⟨#[110, 111, 100, 101]⟩ : ByteArray), A, B] = some AB) (d2 : digest_List.f [(⟨#[101, 109, 112, 116, 121]⟩ : ByteArray)] = some E) (d3 : digest_List.f [(⟨#[108, 101, 97, 102]⟩ : ByteArray), (⟨#[97]⟩ : ByteArray)] = some A) (d4 : digest_List.f [(⟨#[110, 111, 100, 101]⟩ : ByteArray), AB, C] = some R)
    (c1 : tree_Check.f R 3 2 (⟨#[99]⟩ : ByteArray) [AB] = some true) (c2 : tree_Check.f R 3 2 (⟨#[98]⟩ : ByteArray) [AB] = some false)
    (c3 : tree_Extends.f A 1 R 3 [B, C] = some true) (c4 : tree_Extends.f B 1 R 3 [B, C] = some false) : Ev (fun k => customhouselaw02_head.f k) true := by
  unfold customhouselaw02_head.f
  refine Ev.bind hA ?_
  refine Ev.bind hB ?_
  refine Ev.bind hC ?_
  simp only [Option.bind_some]
  refine Ev.bind p2 ?_
  refine Ev.bind p0 ?_
  refine Ev.bind k2 ?_
  refine Ev.bind k1 ?_
  refine Ev.bind p3 ?_
  simp only [d1, Option.bind_some]
  refine Ev.bind hE ?_
  simp only [d2, Option.bind_some, if_true, d3]
  refine Ev.bind hR ?_
  simp only [d4, Option.bind_some, beq_self_eq_true]
  refine evS ?_
  simp only [customhouselaw02_head.j0, if_true]
  refine Ev.bind (same_any [AB] (by simp)) ?_
  simp only [if_true]
  refine Ev.bind (same_any [B, C] (by simp)) ?_
  simp only [if_true]
  refine Ev.bind (same_any [C] (by simp)) ?_
  simp only [if_true]
  refine Ev.bind (same_any [B, C] (by simp)) ?_
  simp only [if_true]
  exact head_j1 A B R _ _ _ hR c1 c2 c3 c4

namespace Pl
def la : ByteArray := ⟨#[97]⟩
def lb : ByteArray := ⟨#[98]⟩
def lc : ByteArray := ⟨#[99]⟩
theorem half3 : half 3 = 2 := by decide
theorem half2 : half 2 = 1 := by decide
theorem root_ab : rootP [la, lb] = nodeP (leafP la) (leafP lb) := by
  rw [root_two (by decide), show List.length [la, lb] = 2 from rfl, half2, show [la, lb].take 1 = [la] from rfl, show [la, lb].drop 1 = [lb] from rfl, root_one, root_one]
theorem root_abc : rootP [la, lb, lc] = nodeP (nodeP (leafP la) (leafP lb)) (leafP lc) := by
  rw [root_two (by decide), show List.length [la, lb, lc] = 3 from rfl, half3, show [la, lb, lc].take 2 = [la, lb] from rfl, show [la, lb, lc].drop 2 = [lc] from rfl, root_one, root_ab]
theorem path_abc2 : pathP [la, lb, lc] 2 = [nodeP (leafP la) (leafP lb)] := by
  unfold pathP
  rw [sibs_right (by decide) (by decide), show List.length [la, lb, lc] = 3 from rfl, half3, show [la, lb, lc].take 2 = [la, lb] from rfl, show [la, lb, lc].drop 2 = [lc] from rfl, root_ab, sibs_end (by decide)]
  rfl
theorem path_abc0 : pathP [la, lb, lc] 0 = [leafP lb, leafP lc] := by
  unfold pathP
  rw [sibs_left (by decide) (by decide), show List.length [la, lb, lc] = 3 from rfl, half3, show [la, lb, lc].take 2 = [la, lb] from rfl, show [la, lb, lc].drop 2 = [lc] from rfl, root_one,
    sibs_left (by decide) (by decide), show List.length [la, lb] = 2 from rfl, half2, show [la, lb].take 1 = [la] from rfl, show [la, lb].drop 1 = [lb] from rfl, root_one, sibs_end (by decide)]
  rfl
theorem link_abc2 : linkP [la, lb, lc] 2 = [leafP lc] := by
  unfold linkP
  rw [links_left (by decide) (by decide), show List.length [la, lb, lc] = 3 from rfl, half3, show [la, lb, lc].take 2 = [la, lb] from rfl, show [la, lb, lc].drop 2 = [lc] from rfl, root_one, links_end (by decide)]
  rfl
theorem link_abc1 : linkP [la, lb, lc] 1 = [leafP lb, leafP lc] := by
  unfold linkP
  rw [links_left (by decide) (by decide), show List.length [la, lb, lc] = 3 from rfl, half3, show [la, lb, lc].take 2 = [la, lb] from rfl, show [la, lb, lc].drop 2 = [lc] from rfl, root_one,
    links_left (by decide) (by decide), show List.length [la, lb] = 2 from rfl, half2, show [la, lb].take 1 = [la] from rfl, show [la, lb].drop 1 = [lb] from rfl, root_one, links_end (by decide)]
  rfl
theorem check_yes : checkP (rootP [la, lb, lc]) 3 2 lc [nodeP (leafP la) (leafP lb)] = true := by
  obtain ⟨ts, h⟩ := path_climb 3 [la, lb, lc] 2 rfl (by decide)
  rw [path_abc2] at h
  exact check_of_climb (n := 3) (i := 2) (by decide) (by decide) (by simp [nodeP_dig]) h
theorem check_no : checkP (rootP [la, lb, lc]) 3 2 lb [nodeP (leafP la) (leafP lb)] = false := by
  rw [Bool.eq_false_iff]
  intro h
  obtain ⟨_, _, ts, h⟩ := checkP_climb (n := 3) (i := 2) h
  have h1 := Climb.right (nodeP (leafP la) (leafP lb)) (by decide : 2 ≤ 3) (by decide : ¬ 2 < half 3) (show Climb (3 - half 3) (2 - half 3) (leafP lb) [] (leafP lb) [] from by rw [half3]; exact Climb.one _)
  have e := up_of_climb h 3 [] (Nat.le_refl _) (by intro z hz; rw [List.mem_singleton] at hz; subst hz; exact dig_full (nodeP_dig _ _))
  have e1 := up_of_climb h1 3 [] (Nat.le_refl _) (by intro z hz; rw [List.nil_append, List.mem_singleton] at hz; subst hz; exact dig_full (nodeP_dig _ _))
  rw [List.nil_append] at e e1
  rw [List.nil_append, e] at e1
  have e2 := congrArg Prod.fst e1
  simp only at e2
  rw [root_abc] at e2
  exact head_ne1 e2.symm
theorem extends_yes : extendsP (leafP la) 1 (rootP [la, lb, lc]) 3 [leafP lb, leafP lc] = true := by
  obtain ⟨ts, h⟩ := link_both 3 [la, lb, lc] 1 true (leafP la) rfl (by decide) (by decide) (fun _ => by rw [show [la, lb, lc].take 1 = [la] from rfl, root_one])
  rw [show (links [la, lb, lc] 1 true).reverse = [leafP lb, leafP lc] from link_abc1, show [la, lb, lc].take 1 = [la] from rfl, root_one] at h
  exact extends_of_both (m := 1) (n := 3) (by decide) (by decide) (by decide) (by simp [leafP_dig]) (leafP_dig _) (root_dig _) h
theorem extends_no : extendsP (leafP lb) 1 (rootP [la, lb, lc]) 3 [leafP lb, leafP lc] = false := by
  rw [Bool.eq_false_iff]
  intro h
  obtain ⟨_, _, ts, h⟩ := extendsP_both (m := 1) (n := 3) (by decide) h
  have h1 := Both.left (n := 3) (m := 1) (leafP lc) (by decide) (by decide) (by decide) (show Both (half 3) 1 true (leafP lb) ([] ++ [leafP lb]) (leafP lb) (nodeP (leafP lb) (leafP lb)) _ from by
    rw [half3]; exact Both.left (n := 2) (m := 1) (leafP lb) (by decide) (by decide) (by decide) (show Both (half 2) 1 true (leafP lb) [] (leafP lb) (leafP lb) [] from by rw [half2]; exact Both.whole 1 _))
  have hf : ∀ z ∈ [leafP lb, leafP lc], z.toList.isEmpty = false := by
    intro z hz
    simp only [List.mem_cons, List.not_mem_nil, or_false] at hz
    rcases hz with rfl | rfl
    · exact dig_full (leafP_dig _)
    · exact dig_full (leafP_dig _)
  have e := of_both h 3 [] (Nat.le_refl _) (by decide) hf
  have e1 := of_both h1 3 [] (Nat.le_refl _) (by decide) hf
  rw [List.nil_append] at e e1
  rw [List.nil_append, List.cons_append, List.nil_append, e] at e1
  have e2 := congrArg (fun q => q.2.1) e1
  simp only at e2
  rw [root_abc] at e2
  exact head_ne2 e2.symm
end Pl
theorem head02E : Ev (fun k => customhouselaw02_head.f k) true := by
  have s1 : ∀ x ∈ [Pl.la, Pl.lb, Pl.lc], x.size ≤ 1000 := by decide
  have sz : (Pl.leafP Pl.la).size ≤ 1000 ∧ (Pl.leafP Pl.lb).size ≤ 1000 ∧ (Pl.leafP Pl.lc).size ≤ 1000 ∧ (Pl.nodeP (Pl.leafP Pl.la) (Pl.leafP Pl.lb)).size ≤ 1000 := by
    refine ⟨?_, ?_, ?_, ?_⟩
    · have := Pl.dig_size (Pl.leafP_dig Pl.la); omega
    · have := Pl.dig_size (Pl.leafP_dig Pl.lb); omega
    · have := Pl.dig_size (Pl.leafP_dig Pl.lc); omega
    · rw [nodeP_size]; omega
  refine head_go (Pl.leafP Pl.la) (Pl.leafP Pl.lb) (Pl.leafP Pl.lc) (Pl.nodeP (Pl.leafP Pl.la) (Pl.leafP Pl.lb)) (Pl.rootP [Pl.la, Pl.lb, Pl.lc]) Pl.emptyP ?_ ?_ ?_ ?_ ?_ ?_ ?_ ?_ ?_ ?_ ?_ ?_ ?_ ?_ ?_ ?_ ?_ ?_
  · exact evE (rootE 1 [Pl.la] rfl (by decide) (by decide)) (Pl.root_one _)
  · exact evE (rootE 1 [Pl.lb] rfl (by decide) (by decide)) (Pl.root_one _)
  · exact evE (rootE 1 [Pl.lc] rfl (by decide) (by decide)) (Pl.root_one _)
  · exact evE (rootE 0 [] rfl (by decide) (by decide)) Pl.root_nil
  · exact rootE 3 [Pl.la, Pl.lb, Pl.lc] rfl (by decide) s1
  · exact evE (pathE [Pl.la, Pl.lb, Pl.lc] 2 (by decide) (by decide) s1) (by rw [Pl.path_abc2])
  · exact evE (pathE [Pl.la, Pl.lb, Pl.lc] 0 (by decide) (by decide) s1) (by rw [Pl.path_abc0])
  · exact pathE_err [Pl.la, Pl.lb, Pl.lc] 3 (by decide)
  · exact evE (linkE [Pl.la, Pl.lb, Pl.lc] 2 (by decide) (by decide) s1) (by rw [Pl.link_abc2])
  · exact evE (linkE [Pl.la, Pl.lb, Pl.lc] 1 (by decide) (by decide) s1) (by rw [Pl.link_abc1])
  · exact listE (Pl.few_caps (few_node _ _ sz.1 sz.2.1) (by omega)).2.2
  · exact emptyLE
  · exact leafLE Pl.la (by decide)
  · rw [Pl.root_abc]; exact listE (Pl.few_caps (few_node _ _ sz.2.2.2 sz.2.2.1) (by omega)).2.2
  · rw [checkE _ _ _ _ _ (by decide) (by simp)]; exact congrArg some Pl.check_yes
  · rw [checkE _ _ _ _ _ (by decide) (by simp)]; exact congrArg some Pl.check_no
  · rw [extendsE _ _ _ _ _ (by simp)]; exact congrArg some Pl.extends_yes
  · rw [extendsE _ _ _ _ _ (by simp)]; exact congrArg some Pl.extends_no
end Go.Proofs.YtdlipbfcadmhjaaGreatDoor
