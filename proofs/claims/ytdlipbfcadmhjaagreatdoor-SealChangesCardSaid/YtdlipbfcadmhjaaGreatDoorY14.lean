/- Texts of this claim, in one file. -/
import Derived.Test.YtdlipbfcadmhjaaGreatDoorY13
import Derived.Test.YtdlipbfcadmhjaaGreatDoorPG3x24
set_option linter.unusedSimpArgs false
set_option linter.unusedVariables false
namespace Go.Proofs.YtdlipbfcadmhjaaGreatDoor
open Go Go.RowKit Go.Shelf Go.Proofs.YtdlipbfcadmhjaaGreatDoorW.PrintWords Go.Proofs.YtdlipbfcadmhjaaGreatDoorW.PrintLast Go.Proofs.YtdlipbfcadmhjaaGreatDoorW.PrintMore
theorem verify_at (a0 a1 : ByteArray) (a2 : Int) (A1 : Option Addr) (c1 n1 : Nat) (l1 : List ByteArray) (A2 : Option Addr) (c2 n2 : Nat) (l2 : List ByteArray) (r : Bool) (w : World) (hG : GL w)
    (e1 : l1.length = n1) (hr1 : Kd.C Kd.string w A1 l1.length l1) (hc1 : n1 ≤ c1) (e2 : l2.length = n2) (hr2 : Kd.C Kd.string w A2 l2.length l2) (hc2 : n2 ≤ c2) (h : seal_Verify.f a0 a1 a2 l1 l2 = some r) :
    Calls Tryz.prog 44 #[.string a0, .string a1, .agg #[.int .i64 a2, .slice A1 n1 c1, .slice A2 n2 c2]] w fun e w' => e = .returned (.bool r) ∧ Below w.heap.size w w' := by
 subst e1 e2
 exact seal_Verify.calls a0 a1 a2 A1 c1 l1 A2 c2 l2 r w hG hr1 hc1 hr2 hc2 h
set_option maxRecDepth 100000 in
set_option maxHeartbeats 8000000 in
theorem head03_walk (pub no : ByteArray) (kp kq : Nat) (sg pt : List ByteArray) (w : World) (hG : GL w)
    (hp1 : PG3.seal_Public.f kp ⟨#[115, 101, 99, 114, 101, 116]⟩ 2 = some (pub, 0)) (hp2 : PG3.seal_Public.f kq ⟨#[115, 101, 99, 114, 101, 116]⟩ 9 = some (no, 1))
    (hs1 : seal_Sign.f ⟨#[115, 101, 99, 114, 101, 116]⟩ 2 3 ⟨#[109, 101, 115, 115, 97, 103, 101]⟩ = some (3, sg, pt, 0)) (hs2 : seal_Sign.f ⟨#[115, 101, 99, 114, 101, 116]⟩ 2 4 ⟨#[109, 101, 115, 115, 97, 103, 101]⟩ = some (0, [], [], 1))
    (hl1 : sg.length = 18) (hl2 : pt.length = 2)
    (hv1 : seal_Verify.f pub ⟨#[109, 101, 115, 115, 97, 103, 101]⟩ 3 sg pt = some true) (hv2 : seal_Verify.f pub ⟨#[109, 101, 115, 115, 97, 103, 101]⟩ 3 sg (pt.take 1) = some false)
    (hv3 : seal_Verify.f pub ⟨#[109, 101, 115, 115, 97, 103, 101]⟩ 3 (sg.drop 1) pt = some false) (hv4 : seal_Verify.f ⟨#[]⟩ ⟨#[109, 101, 115, 115, 97, 103, 101]⟩ 3 sg pt = some false) :
    Calls Tryz.prog 36 #[] w fun e w' => e = .returned (.bool true) ∧ Below w.heap.size w w' := by
 have HG := Aside0.mk hG
 have HP1 := Aside0.mk hp1
 have HP2 := Aside0.mk hp2
 have HS1 := Aside0.mk hs1
 have HS2 := Aside0.mk hs2
 have HV1 := Aside0.mk hv1
 have HV2 := Aside0.mk hv2
 have HV3 := Aside0.mk hv3
 have HV4 := Aside0.mk hv4
 have HL1 := Aside0.mk hl1
 have HL2 := Aside0.mk hl2
 clear hG hp1 hp2 hs1 hs2 hv1 hv2 hv3 hv4 hl1 hl2
 go_enter Tryz.func36, Tryz.ntmps36
 go_wp2_with fail
 refine (PG3.seal_Public.calls kp ⟨#[115, 101, 99, 114, 101, 116]⟩ 2 pub 0 _ HG.out HP1.out).mono ?_
 rintro e w1 ⟨rfl, hb⟩
 have HB1 := Aside0.mk hb
 clear hb
 go_wp2_with fail
 refine (PG3.seal_Public.calls kq ⟨#[115, 101, 99, 114, 101, 116]⟩ 9 no 1 _ (HG.out.below HB1.out) HP2.out).mono ?_
 rintro e w2 ⟨rfl, hb⟩
 have HB2 := Aside0.mk (below_step HB1.out hb)
 clear hb
 go_wp2_with fail
 refine (seal_Sign.calls ⟨#[115, 101, 99, 114, 101, 116]⟩ 2 3 ⟨#[109, 101, 115, 115, 97, 103, 101]⟩ 3 sg pt 0 _ (HG.out.below HB2.out) HS1.out).mono ?_
 rintro e w3 ⟨v1, v2, rfl, ho1, ho2, hb⟩
 have HB3 := Aside0.mk (below_step HB2.out hb)
 clear hb
 obtain ⟨As, cs, es⟩ := Kd.R_slice ho1
 obtain ⟨Ap, cp, ep⟩ := Kd.R_slice ho2
 subst es ep
 have HR1 := Aside0.mk (Kd.R_reads' ho1).2
 have HR2 := Aside0.mk (Kd.R_reads' ho2).2
 clear ho1 ho2
 rw [HL1.out, HL2.out]
 go_wp2_with fail
 have BK5 := Aside0.mk (blk_new w3 (.cells #[.int .i64 3, .slice As 18 cs, .slice Ap 2 cp] 33 (0, 0)))
 have X5 := Aside0.mk (below_alloc (Below.refl w3.heap.size w3) (.cells #[.int .i64 3, .slice As 18 cs, .slice Ap 2 cp] 33 (0, 0)))
 have XS : w3.heap.size < (w3.alloc (.cells #[.int .i64 3, .slice As 18 cs, .slice Ap 2 cp] 33 (0, 0))).heap.size := by rw [World.size_alloc]; omega
 have HR1' := Aside0.mk (And.intro HR1.out.1 (Kd.C_below HR1.out.2 X5.out))
 have HR2' := Aside0.mk (And.intro HR2.out.1 (Kd.C_below HR2.out.2 X5.out))
 have HB4 := Aside0.mk (below_step HB3.out X5.out)
 generalize w3.alloc (.cells #[.int .i64 3, .slice As 18 cs, .slice Ap 2 cp] 33 (0, 0)) = w4 at BK5 HR1' HR2' HB4 XS ⊢
 generalize w3.heap.size = g5 at BK5 XS ⊢
 clear HR1 HR2 X5 HB3
 refine (seal_Sign.calls ⟨#[115, 101, 99, 114, 101, 116]⟩ 2 4 ⟨#[109, 101, 115, 115, 97, 103, 101]⟩ 0 [] [] 1 _ (HG.out.below HB4.out) HS2.out).mono ?_
 rintro e w5 ⟨v1, v2, rfl, ho1, ho2, hb⟩
 have HB5 := Aside0.mk (below_step HB4.out hb)
 obtain ⟨A5, c5, e1⟩ := Kd.R_slice ho1
 obtain ⟨B5, d5, e2⟩ := Kd.R_slice ho2
 subst e1 e2
 have RS := Aside0.mk (And.intro HR1'.out.1 (Kd.C_below HR1'.out.2 hb))
 have RP := Aside0.mk (And.intro HR2'.out.1 (Kd.C_below HR2'.out.2 hb))
 have K5 := Aside0.mk (blk_below BK5.out hb)
 have X5 : g5 < w5.heap.size := blk_lt K5.out
 clear HR1' HR2' BK5 HB4 XS ho1 ho2 hb
 have hcp : 2 ≤ cp := by have := RP.out.1; rw [HL2.out] at this; exact this
 have hcs : 18 ≤ cs := by have := RS.out.1; rw [HL1.out] at this; exact this
 have HCP := Aside0.mk hcp
 have HCS := Aside0.mk hcs
 clear hcp hcs
 have y0 : w5.cell? ⟨g5, 0, none⟩ = some (.int .i64 3) := (blk_cell K5.out 0).trans rfl
 have y1 : w5.cell? ⟨g5, 1, none⟩ = some (.slice As 18 cs) := (blk_cell K5.out 1).trans rfl
 have y2 : w5.cell? ⟨g5, 2, none⟩ = some (.slice Ap 2 cp) := (blk_cell K5.out 2).trans rfl
 have f0 := blk_frozen K5.out 0
 have f1 := blk_frozen K5.out 1
 have f2 := blk_frozen K5.out 2
 have cA : (1 : Int) ≤ (cp : Int) := by have := HCP.out; omega
 have cB : 1 ≤ cp := by have := HCP.out; omega
 go_upto_region 9 with fail
 clear y0 y1 y2 f0 f1 f2 cA cB
 have X6 := Aside0.mk (below_alloc (below_alloc (Below.refl w5.heap.size w5) (.cells #[.int .i64 0, .slice A5 0 c5, .slice B5 0 d5] 33 (0, 0))) (.cells #[.int .i64 3, .slice As 18 cs, .slice Ap 1 cp] 33 (0, 0)))
 have K9 := Aside0.mk (blk_new (w5.alloc (.cells #[.int .i64 0, .slice A5 0 c5, .slice B5 0 d5] 33 (0, 0))) (.cells #[.int .i64 3, .slice As 18 cs, .slice Ap 1 cp] 33 (0, 0)))
 have K5' := Aside0.mk (blk_below K5.out X6.out)
 have RS' := Aside0.mk (And.intro RS.out.1 (Kd.C_below RS.out.2 X6.out))
 have RP' := Aside0.mk (And.intro RP.out.1 (Kd.C_below RP.out.2 X6.out))
 have HB7 := Aside0.mk (below_step HB5.out X6.out)
 have X7 : (w5.heap.size + 1) < ((w5.alloc (.cells #[.int .i64 0, .slice A5 0 c5, .slice B5 0 d5] 33 (0, 0))).alloc (.cells #[.int .i64 3, .slice As 18 cs, .slice Ap 1 cp] 33 (0, 0))).heap.size := by rw [World.size_alloc, World.size_alloc]; omega
 rw [World.size_alloc] at K9
 generalize (w5.alloc (.cells #[.int .i64 0, .slice A5 0 c5, .slice B5 0 d5] 33 (0, 0))).alloc (.cells #[.int .i64 3, .slice As 18 cs, .slice Ap 1 cp] 33 (0, 0)) = w7 at K9 K5' RS' RP' HB7 X7 ⊢
 clear K5 RS RP HB5 X6
 have hne : g5 ≠ w5.heap.size + 1 := by omega
 generalize w5.heap.size + 1 = g9 at K9 X7 hne ⊢
 have y0 : w7.cell? ⟨g5, 0, none⟩ = some (.int .i64 3) := (blk_cell K5'.out 0).trans rfl
 have y1 : w7.cell? ⟨g5, 1, none⟩ = some (.slice As 18 cs) := (blk_cell K5'.out 1).trans rfl
 have y2 : w7.cell? ⟨g5, 2, none⟩ = some (.slice Ap 2 cp) := (blk_cell K5'.out 2).trans rfl
 have f0 := blk_frozen K5'.out 0
 have f1 := blk_frozen K5'.out 1
 have f2 := blk_frozen K5'.out 2
 have X57 : g5 < w7.heap.size := blk_lt K5'.out
 have cA : (18 : Int) ≤ (cs : Int) := by have := HCS.out; omega
 go_upto_region 11 with fail
 clear y0 y1 y2 f0 f1 f2 cA
 obtain ⟨O10, hO10⟩ : ∃ o : Obj, o = (.cells #[.int .i64 3, .slice (Option.map (fun x => ⟨x.block, x.off + 1, none⟩) As) 17 (cs - 1), .slice Ap 2 cp] 33 (0, 0)) := ⟨_, rfl⟩
 rw [← hO10]
 have X10 := Aside0.mk (below_alloc (Below.refl w7.heap.size w7) O10)
 have K10 := Aside0.mk (blk_new w7 O10)
 have K5 := Aside0.mk (blk_below K5'.out X10.out)
 have K9' := Aside0.mk (blk_below K9.out X10.out)
 have RS := Aside0.mk (And.intro RS'.out.1 (Kd.C_below RS'.out.2 X10.out))
 have RP := Aside0.mk (And.intro RP'.out.1 (Kd.C_below RP'.out.2 X10.out))
 have HB := Aside0.mk (below_step HB7.out X10.out)
 generalize w7.alloc O10 = w10 at K10 K9' K5 RS RP HB ⊢
 subst hO10; clear K5' K9 RS' RP' HB7 X10
 generalize w7.heap.size = g10 at K10 ⊢
 have RT : Aside0 (Kd.string.C w10 Ap 1 (pt.take 1)) := by
  have h := Kd.C_take (m := 1) RP.out.2 (by rw [HL2.out]; omega)
  rw [List.length_take, HL2.out] at h
  exact ⟨h⟩
 have y0 : w10.cell? ⟨g5, 0, none⟩ = some (.int .i64 3) := (blk_cell K5.out 0).trans rfl
 have f0 := blk_frozen K5.out 0
 have y1 : w10.cell? ⟨g5, 1, none⟩ = some (.slice As 18 cs) := (blk_cell K5.out 1).trans rfl
 have f1 := blk_frozen K5.out 1
 have y2 : w10.cell? ⟨g5, 2, none⟩ = some (.slice Ap 2 cp) := (blk_cell K5.out 2).trans rfl
 have f2 := blk_frozen K5.out 2
 go_wp2_with fail
 refine (verify_at pub ⟨#[109, 101, 115, 115, 97, 103, 101]⟩ 3 As (cs) 18 (sg) Ap (cp) 2 (pt) _ _ (HG.out.below HB.out) (by first | exact HL1.out | (rw [List.length_drop, HL1.out])) RS.out.2 (by have := HCS.out; omega) (by first | exact HL2.out | (rw [List.length_take, HL2.out]; rfl)) RP.out.2 (by have := HCP.out; omega) HV1.out).mono ?_
 rintro e w11 ⟨rfl, hb⟩; clear y0 y1 y2 f0 f1 f2
 have HB := Aside0.mk (below_step HB.out hb)
 have K5 := Aside0.mk (blk_below K5.out hb)
 have K9' := Aside0.mk (blk_below K9'.out hb)
 have K10 := Aside0.mk (blk_below K10.out hb)
 have RS := Aside0.mk (And.intro RS.out.1 (Kd.C_below RS.out.2 hb))
 have RP := Aside0.mk (And.intro RP.out.1 (Kd.C_below RP.out.2 hb))
 clear hb
 have y0 : w11.cell? ⟨g9, 0, none⟩ = some (.int .i64 3) := (blk_cell K9'.out 0).trans rfl
 have f0 := blk_frozen K9'.out 0
 have y1 : w11.cell? ⟨g9, 1, none⟩ = some (.slice As 18 cs) := (blk_cell K9'.out 1).trans rfl
 have f1 := blk_frozen K9'.out 1
 have y2 : w11.cell? ⟨g9, 2, none⟩ = some (.slice Ap 1 cp) := (blk_cell K9'.out 2).trans rfl
 have f2 := blk_frozen K9'.out 2
 go_wp2_with fail
 refine (verify_at pub ⟨#[109, 101, 115, 115, 97, 103, 101]⟩ 3 As (cs) 18 (sg) Ap (cp) 1 (pt.take 1) _ _ (HG.out.below HB.out) (by first | exact HL1.out | (rw [List.length_drop, HL1.out])) RS.out.2 (by have := HCS.out; omega) (by first | exact HL2.out | (rw [List.length_take, HL2.out]; rfl)) (by have := Kd.C_take (m := 1) RP.out.2 (by rw [HL2.out]; omega); rw [List.length_take, HL2.out] at this; rw [List.length_take, HL2.out]; exact this) (by have := HCP.out; omega) HV2.out).mono ?_
 rintro e w12 ⟨rfl, hb⟩; clear y0 y1 y2 f0 f1 f2
 have HB := Aside0.mk (below_step HB.out hb)
 have K5 := Aside0.mk (blk_below K5.out hb)
 have K10 := Aside0.mk (blk_below K10.out hb)
 have RS := Aside0.mk (And.intro RS.out.1 (Kd.C_below RS.out.2 hb))
 have RP := Aside0.mk (And.intro RP.out.1 (Kd.C_below RP.out.2 hb))
 clear hb
 have y0 : w12.cell? ⟨g10, 0, none⟩ = some (.int .i64 3) := (blk_cell K10.out 0).trans rfl
 have f0 := blk_frozen K10.out 0
 have y1 : w12.cell? ⟨g10, 1, none⟩ = some (.slice (Option.map (fun x => ⟨x.block, x.off + 1, none⟩) As) 17 (cs - 1)) := (blk_cell K10.out 1).trans rfl
 have f1 := blk_frozen K10.out 1
 have y2 : w12.cell? ⟨g10, 2, none⟩ = some (.slice Ap 2 cp) := (blk_cell K10.out 2).trans rfl
 have f2 := blk_frozen K10.out 2
 go_wp2_with fail
 refine (verify_at pub ⟨#[109, 101, 115, 115, 97, 103, 101]⟩ 3 (Option.map (fun x => ⟨x.block, x.off + 1, none⟩) As) (cs - 1) 17 (sg.drop 1) Ap (cp) 2 (pt) _ _ (HG.out.below HB.out) (by first | exact HL1.out | (rw [List.length_drop, HL1.out])) (by have := Kd.C_drop (m := 1) (c := cs) RS.out.2 (by rw [HL1.out]; omega) RS.out.1; rw [if_neg (by have := HCS.out; omega)] at this; exact this) (by have := HCS.out; omega) (by first | exact HL2.out | (rw [List.length_take, HL2.out]; rfl)) RP.out.2 (by have := HCP.out; omega) HV3.out).mono ?_
 rintro e w13 ⟨rfl, hb⟩; clear y0 y1 y2 f0 f1 f2
 have HB := Aside0.mk (below_step HB.out hb)
 have K5 := Aside0.mk (blk_below K5.out hb)
 have RS := Aside0.mk (And.intro RS.out.1 (Kd.C_below RS.out.2 hb))
 have RP := Aside0.mk (And.intro RP.out.1 (Kd.C_below RP.out.2 hb))
 clear hb
 have y0 : w13.cell? ⟨g5, 0, none⟩ = some (.int .i64 3) := (blk_cell K5.out 0).trans rfl
 have f0 := blk_frozen K5.out 0
 have y1 : w13.cell? ⟨g5, 1, none⟩ = some (.slice As 18 cs) := (blk_cell K5.out 1).trans rfl
 have f1 := blk_frozen K5.out 1
 have y2 : w13.cell? ⟨g5, 2, none⟩ = some (.slice Ap 2 cp) := (blk_cell K5.out 2).trans rfl
 have f2 := blk_frozen K5.out 2
 go_wp2_with fail
 refine (verify_at ⟨#[]⟩ ⟨#[109, 101, 115, 115, 97, 103, 101]⟩ 3 As (cs) 18 (sg) Ap (cp) 2 (pt) _ _ (HG.out.below HB.out) (by first | exact HL1.out | (rw [List.length_drop, HL1.out])) RS.out.2 (by have := HCS.out; omega) (by first | exact HL2.out | (rw [List.length_take, HL2.out]; rfl)) RP.out.2 (by have := HCP.out; omega) HV4.out).mono ?_
 rintro e w14 ⟨rfl, hb⟩; clear y0 y1 y2 f0 f1 f2
 have HB := Aside0.mk (below_step HB.out hb)
 have RS := Aside0.mk (And.intro RS.out.1 (Kd.C_below RS.out.2 hb))
 have RP := Aside0.mk (And.intro RP.out.1 (Kd.C_below RP.out.2 hb))
 clear hb
 go_wp2_with fail
 go_ret
 exact ⟨rfl, HB.out⟩
end Go.Proofs.YtdlipbfcadmhjaaGreatDoor

namespace Go.Proofs.YtdlipbfcadmhjaaGreatDoor.Pl
theorem climb_pow {n i : Nat} {d r : ByteArray} {xs ts : List ByteArray} (h : Climb n i d xs r ts) : ∀ c, n = 2 ^ c → xs.length = c := by
 induction h with
 | one d =>
  intro c hc
  cases c with
  | zero => rfl
  | succ c => have : 1 ≤ 2 ^ c := Nat.one_le_two_pow; rw [Nat.pow_succ] at hc; omega
 | @left n _ _ _ _ _ p hn hi h ih =>
  intro c hc
  cases c with
  | zero => simp at hc; omega
  | succ c =>
   have e : half n = 2 ^ c := half_of (by rw [hc, Nat.pow_succ]; have : 1 ≤ 2 ^ c := Nat.one_le_two_pow; omega) (by rw [hc, Nat.pow_succ]; omega)
   simp [ih c e]
 | @right n _ _ _ _ _ p hn hi h ih =>
  intro c hc
  cases c with
  | zero => simp at hc; omega
  | succ c =>
   have e : half n = 2 ^ c := half_of (by rw [hc, Nat.pow_succ]; have : 1 ≤ 2 ^ c := Nat.one_le_two_pow; omega) (by rw [hc, Nat.pow_succ]; omega)
   simp [ih c (by rw [e, hc, Nat.pow_succ]; omega)]
theorem climb_dig {n i : Nat} {d r : ByteArray} {xs ts : List ByteArray} (h : Climb n i d xs r ts) (hd : isDig d = true) : isDig r = true := by
 cases h with
 | one => exact hd
 | left => exact nodeP_dig _ _
 | right => exact nodeP_dig _ _
theorem check_dig {root : ByteArray} {n i : Nat} {s : ByteArray} {path : List ByteArray} (h : checkP root n i s path = true) : isDig root = true := by
 obtain ⟨_, _, ts, h⟩ := checkP_climb h
 exact climb_dig h (leafP_dig s)
theorem path_pow {l : List ByteArray} {i c : Nat} (hi : i < l.length) (hc : l.length = 2 ^ c) : (pathP l i).length = c := by
 obtain ⟨ts, h⟩ := path_climb _ l i rfl hi
 exact climb_pow h c hc
theorem path_ok {l : List ByteArray} {i : Nat} (hi : i < l.length) (hn : l.length ≤ 1000000) : checkP (rootP l) l.length i (l.getD i ByteArray.empty) (pathP l i) = true := by
 obtain ⟨ts, h⟩ := path_climb _ l i rfl hi
 exact check_of_climb hn hi (path_dig l i) h
theorem keys_get (s : ByteArray) {h i : Nat} (hi : i < 2 ^ h) : (keysP s h).getD i ByteArray.empty = keyP s i := by
 unfold keysP
 rw [List.getD_eq_getElem?_getD, List.getElem?_map, List.getElem?_range hi]
 rfl
theorem k18_get (k : Fin 18) : K18[k.val]? = some k := by
 unfold K18
 simp
theorem map18_get {f : Fin 18 → ByteArray} (k : Fin 18) : (K18.map f).getD k.val ByteArray.empty = f k := by
 rw [List.getD_eq_getElem?_getD, List.getElem?_map, k18_get]
 rfl
theorem range18 (f : Nat → ByteArray) : (List.range 18).map f = K18.map fun k => f k.val := by
 have : (List.range 18) = K18.map Fin.val := by unfold K18; decide
 rw [this, List.map_map]
 rfl
theorem chn_dig (n : Nat) (a : ByteArray) (h : isDig a = true) : isDig (chn n a) = true := by
 cases n with
 | zero => exact h
 | succ n => obtain ⟨b, e⟩ := chn_is_sum n a; rw [e]; exact isDig_sum b
theorem start_dig (s : ByteArray) (i k : Nat) : isDig (startP s i k) = true := isDig_sum _
theorem sig_len (s : ByteArray) (i : Nat) (m : ByteArray) : (sigP s i m).length = 18 := by unfold sigP; rw [List.length_map, k18_len]
theorem sig_get (s : ByteArray) (i : Nat) (m : ByteArray) (k : Fin 18) : (sigP s i m).getD k.val ByteArray.empty = chn (dg m k.val) (startP s i k.val) := map18_get k
theorem sig_dig (s : ByteArray) (i : Nat) (m : ByteArray) : (sigP s i m).all isDig = true := by
 rw [List.all_eq_true]
 intro x hx
 simp only [sigP, List.mem_map] at hx
 obtain ⟨k, _, rfl⟩ := hx
 exact chn_dig _ _ (start_dig _ _ _)
theorem ends_sig (s : ByteArray) (i : Nat) (m : ByteArray) : endsP m (sigP s i m) = keyEnds s i := by
 unfold endsP keyEnds
 rw [range18]
 refine List.map_congr_left fun k _ => ?_
 rw [sig_get, chn_add]
 have := dg_lt m k.val
 rw [show dg m k.val + (15 - dg m k.val) = 15 by omega]
theorem seal_ok (s : ByteArray) {h i : Nat} (m : ByteArray) (hh : h ≤ 8) (hi : i < 2 ^ h) : sealOk (i : Int) (sigP s i m) (pathP (keysP s h) i) = true := by
 have hp : (pathP (keysP s h) i).length = h := path_pow (by rw [keysP_len]; exact hi) (keysP_len s h)
 exact (sealOk_iff _ _ _).2 ⟨sig_len s i m, by omega, sig_dig s i m, path_dig _ _, by omega, by rw [hp]; exact_mod_cast hi⟩
theorem seal_verifies (s : ByteArray) {h i : Nat} (m : ByteArray) (hh : h ≤ 8) (hi : i < 2 ^ h) : verifyP (publicP s h) m (i : Int) (sigP s i m) (pathP (keysP s h) i) = true := by
 have hb := pow8 hh
 have hp : (pathP (keysP s h) i).length = h := path_pow (by rw [keysP_len]; exact hi) (keysP_len s h)
 unfold verifyP
 rw [seal_ok s m hh hi, Bool.true_and, ends_sig, hp]
 have := path_ok (l := keysP s h) (i := i) (by rw [keysP_len]; exact hi) (by rw [keysP_len]; omega)
 rw [keys_get s hi, keysP_len] at this
 exact this
theorem verify_pub {pub m : ByteArray} {i : Int} {sig path : List ByteArray} (h : verifyP pub m i sig path = true) : isDig pub = true := by
 unfold verifyP at h
 rw [Bool.and_eq_true] at h
 obtain ⟨h1, h2⟩ := h
 have hi := ((sealOk_iff _ _ _).1 h1).2.2.2.2.1
 obtain ⟨j, rfl⟩ : ∃ j : Nat, i = (j : Int) := ⟨i.toNat, by omega⟩
 exact check_dig h2
theorem verify_bad {pub m : ByteArray} {i : Int} {sig path : List ByteArray} (h : ¬ (sig.length = 18 ∧ i < ((2 ^ path.length : Nat) : Int))) : verifyP pub m i sig path = false := by
 have : sealOk i sig path = false := by
  rw [Bool.eq_false_iff]
  intro hh
  have := (sealOk_iff _ _ _).1 hh
  exact h ⟨this.1, this.2.2.2.2.2⟩
 unfold verifyP
 rw [this]; rfl
theorem verify_empty (m : ByteArray) (i : Int) (sig path : List ByteArray) : verifyP ⟨#[]⟩ m i sig path = false := by
 rw [Bool.eq_false_iff]
 intro h
 have := dig_size (verify_pub h)
 exact absurd this (by decide)
end Go.Proofs.YtdlipbfcadmhjaaGreatDoor.Pl
namespace Go.Proofs.YtdlipbfcadmhjaaGreatDoor
theorem signE (s m : ByteArray) (h i : Nat) (hs : s.size ≤ 1000) (hm : m.size ≤ 1000000) (hh : h ≤ 8) (hi : i < 2 ^ h) : seal_Sign.f s (h : Int) (i : Int) m = some ((i : Int), Pl.sigP s i m, Pl.pathP (Pl.keysP s h) i, 0) := by
 unfold seal_Sign.f
 rw [if_pos hs, if_pos hm]
 simp only [Int.toNat_natCast]
 rw [if_neg]
 have : (i : Int) < ((2 ^ h : Nat) : Int) := by exact_mod_cast hi
 omega
theorem signE_err (s m : ByteArray) (h i : Int) (hs : s.size ≤ 1000) (hm : m.size ≤ 1000000) (hb : h < 0 ∨ h > 8 ∨ i < 0 ∨ ((2 ^ h.toNat : Nat) : Int) ≤ i) : seal_Sign.f s h i m = some (0, [], [], 1) := by
 unfold seal_Sign.f
 rw [if_pos hs, if_pos hm, if_pos hb]
theorem verifyE (pub m : ByteArray) (i : Int) (sig path : List ByteArray) (hm : m.size ≤ 1000000) : seal_Verify.f pub m i sig path = some (Pl.verifyP pub m i sig path) := by
 unfold seal_Verify.f
 rw [if_pos hm]
end Go.Proofs.YtdlipbfcadmhjaaGreatDoor

namespace Go.Proofs.YtdlipbfcadmhjaaGreatDoor
open Go Go.RowKit Go.Proofs.YtdlipbfcadmhjaaGreatDoorW.PrintWords
theorem head03_at (s m : ByteArray) (hs : s.size ≤ 1000) (hm : m.size ≤ 1000000) : ∃ pub no : ByteArray, ∃ kp kq : Nat, ∃ sg pt : List ByteArray,
    PG3.seal_Public.f kp s 2 = some (pub, 0) ∧ PG3.seal_Public.f kq s 9 = some (no, 1) ∧ seal_Sign.f s 2 3 m = some (3, sg, pt, 0) ∧ seal_Sign.f s 2 4 m = some (0, [], [], 1) ∧ sg.length = 18 ∧ pt.length = 2 ∧
    seal_Verify.f pub m 3 sg pt = some true ∧ seal_Verify.f pub m 3 sg (pt.take 1) = some false ∧ seal_Verify.f pub m 3 (sg.drop 1) pt = some false ∧ seal_Verify.f ⟨#[]⟩ m 3 sg pt = some false := by
 obtain ⟨kp, hp⟩ := (publicE s 2 hs (by omega)).rounds
 obtain ⟨kq, hq⟩ := (publicE_err s 9 (by omega)).rounds
 have hl : (Pl.pathP (Pl.keysP s 2) 3).length = 2 := Pl.path_pow (by rw [Pl.keysP_len]; omega) (Pl.keysP_len s 2)
 refine ⟨Pl.publicP s 2, _, kp, kq, Pl.sigP s 3 m, Pl.pathP (Pl.keysP s 2) 3, hp, hq, signE s m 2 3 hs hm (by omega) (by omega), signE_err s m 2 4 hs hm (.inr (.inr (.inr (by decide)))), Pl.sig_len _ _ _, hl, ?_, ?_, ?_, ?_⟩
 ·rw [verifyE _ _ _ _ _ hm]
  exact congrArg some (Pl.seal_verifies s (h := 2) (i := 3) m (by omega) (by omega))
 ·rw [verifyE _ _ _ _ _ hm, Pl.verify_bad]
  rw [List.length_take, hl]
  rintro ⟨_, h⟩
  exact absurd h (by decide)
 ·rw [verifyE _ _ _ _ _ hm, Pl.verify_bad]
  rw [List.length_drop, Pl.sig_len]
  rintro ⟨h, _⟩
  omega
 ·rw [verifyE _ _ _ _ _ hm, Pl.verify_empty]
def customhouselaw03_head.f : Option Bool := some true
theorem customhouselaw03_head.calls (r : Bool) (w : World) (hG : GL w) (h : customhouselaw03_head.f = some r) :
    Calls Tryz.prog 36 #[] w fun e w' => e = .returned (.bool r) ∧ Below w.heap.size w w' := by
 obtain rfl : r = true := (Option.some.inj h).symm
 obtain ⟨pub, no, kp, kq, sg, pt, h1, h2, h3, h4, h5, h6, h7, h8, h9, h10⟩ := head03_at ⟨#[115, 101, 99, 114, 101, 116]⟩ ⟨#[109, 101, 115, 115, 97, 103, 101]⟩ (by decide) (by decide)
 exact head03_walk pub no kp kq sg pt w hG h1 h2 h3 h4 h5 h6 h7 h8 h9 h10
end Go.Proofs.YtdlipbfcadmhjaaGreatDoor
