/- customhouselaw03.head: its walk. -/
import Derived.Test.YtdlipbfcadmhjaaDoorS4
import Derived.Test.YtdlipbfcadmhjaaDoorPG3x4
namespace Go.Proofs.YtdlipbfcadmhjaaDoor
set_option linter.unusedVariables false
set_option linter.unusedSimpArgs false
open Go Go.RowKit Go.Shelf Go.Proofs.YtdlipbfcadmhjaaDoorW.PrintWords Go.Proofs.YtdlipbfcadmhjaaDoorW.PrintLast Go.Proofs.YtdlipbfcadmhjaaDoorW.PrintMore
theorem verify_at (a0 a1 : ByteArray) (a2 : Int) (A1 : Option Addr) (c1 n1 : Nat) (l1 : List ByteArray) (A2 : Option Addr) (c2 n2 : Nat) (l2 : List ByteArray) (r : Bool) (w : World) (hG : GL w)
    (e1 : l1.length = n1) (hr1 : Kd.C Kd.string w A1 l1.length l1) (hc1 : n1 ≤ c1) (e2 : l2.length = n2) (hr2 : Kd.C Kd.string w A2 l2.length l2) (hc2 : n2 ≤ c2) (h : seal_Verify.f a0 a1 a2 l1 l2 = some r) :
    Calls Tryd.prog 46 #[.string a0, .string a1, .agg #[.int .i64 a2, .slice A1 n1 c1, .slice A2 n2 c2]] w fun e w' => e = .returned (.bool r) ∧ Below w.heap.size w w' := by
 subst e1 e2
 exact seal_Verify.calls a0 a1 a2 A1 c1 l1 A2 c2 l2 r w hG hr1 hc1 hr2 hc2 h
set_option maxRecDepth 100000 in
set_option maxHeartbeats 8000000 in
theorem head03_walk (pub no : ByteArray) (kp kq : Nat) (sg pt : List ByteArray) (w : World) (hG : GL w)
    (hp1 : PG3.seal_Public.f kp ⟨#[115, 101, 99, 114, 101, 116]⟩ 2 = some (pub, 0)) (hp2 : PG3.seal_Public.f kq ⟨#[115, 101, 99, 114, 101, 116]⟩ 9 = some (no, 1))
    (hs1 : seal_Sign.f ⟨#[115, 101, 99, 114, 101, 116]⟩ 2 3 ⟨#[109, 101, 115, 115, 97, 103, 101]⟩ = some (3, sg, pt, 0)) (hs2 : seal_Sign.f ⟨#[115, 101, 99, 114, 101, 116]⟩ 2 4 ⟨#[109, 101, 115, 115, 97, 103, 101]⟩ = some (0, [], [], 1))
    (hl1 : sg.length = 18) (hl2 : pt.length = 2)
    (hv1 : seal_Verify.f pub ⟨#[109, 101, 115, 115, 97, 103, 101]⟩ 3 sg pt = some true) (hv2 : seal_Verify.f pub ⟨#[109, 101, 115, 115, 97, 103, 101]⟩ 3 sg (pt.take 1) = some false)
    (hv3 : seal_Verify.f pub ⟨#[109, 101, 115, 115, 97, 103, 101]⟩ 3 (sg.drop 1) pt = some false) (hv4 : seal_Verify.f ⟨#[]⟩ ⟨#[109, 101, 115, 115, 97, 103, 101]⟩ 3 sg pt = some false) :
    Calls Tryd.prog 41 #[] w fun e w' => e = .returned (.bool true) ∧ Below w.heap.size w w' := by
 have HG := Aside0.mk hG
 have HP1 := Aside0.mk hp1
 have HP2 := Aside0.mk hp2
 have HS1 := Aside0.mk hs1
 have HS2 := Aside0.mk hs2
 have HV1 := Aside0.mk hv1
 have HV2 := Aside0.mk hv2
 have HV3 := Aside0.mk hv3
 have HV4 := Aside0.mk hv4
 have HL1 := Aside0.mk hl1
 have HL2 := Aside0.mk hl2
 clear hG hp1 hp2 hs1 hs2 hv1 hv2 hv3 hv4 hl1 hl2
 go_enter Tryd.func41, Tryd.ntmps41
 go_wp2_with fail
 refine (PG3.seal_Public.calls kp ⟨#[115, 101, 99, 114, 101, 116]⟩ 2 pub 0 _ HG.out HP1.out).mono ?_
 rintro e w1 ⟨rfl, hb⟩
 have HB1 := Aside0.mk hb
 clear hb
 go_wp2_with fail
 refine (PG3.seal_Public.calls kq ⟨#[115, 101, 99, 114, 101, 116]⟩ 9 no 1 _ (HG.out.below HB1.out) HP2.out).mono ?_
 rintro e w2 ⟨rfl, hb⟩
 have HB2 := Aside0.mk (below_step HB1.out hb)
 clear hb
 go_wp2_with fail
 refine (seal_Sign.calls ⟨#[115, 101, 99, 114, 101, 116]⟩ 2 3 ⟨#[109, 101, 115, 115, 97, 103, 101]⟩ 3 sg pt 0 _ (HG.out.below HB2.out) HS1.out).mono ?_
 rintro e w3 ⟨v1, v2, rfl, ho1, ho2, hb⟩
 have HB3 := Aside0.mk (below_step HB2.out hb)
 clear hb
 obtain ⟨As, cs, es⟩ := Kd.R_slice ho1
 obtain ⟨Ap, cp, ep⟩ := Kd.R_slice ho2
 subst es ep
 have HR1 := Aside0.mk (Kd.R_reads' ho1).2
 have HR2 := Aside0.mk (Kd.R_reads' ho2).2
 clear ho1 ho2
 rw [HL1.out, HL2.out]
 go_wp2_with fail
 have BK5 := Aside0.mk (blk_new w3 (.cells #[.int .i64 3, .slice As 18 cs, .slice Ap 2 cp] 53 (0, 0)))
 have X5 := Aside0.mk (below_alloc (Below.refl w3.heap.size w3) (.cells #[.int .i64 3, .slice As 18 cs, .slice Ap 2 cp] 53 (0, 0)))
 have XS : w3.heap.size < (w3.alloc (.cells #[.int .i64 3, .slice As 18 cs, .slice Ap 2 cp] 53 (0, 0))).heap.size := by rw [World.size_alloc]; omega
 have HR1' := Aside0.mk (And.intro HR1.out.1 (Kd.C_below HR1.out.2 X5.out))
 have HR2' := Aside0.mk (And.intro HR2.out.1 (Kd.C_below HR2.out.2 X5.out))
 have HB4 := Aside0.mk (below_step HB3.out X5.out)
 generalize w3.alloc (.cells #[.int .i64 3, .slice As 18 cs, .slice Ap 2 cp] 53 (0, 0)) = w4 at BK5 HR1' HR2' HB4 XS ⊢
 generalize w3.heap.size = g5 at BK5 XS ⊢
 clear HR1 HR2 X5 HB3
 refine (seal_Sign.calls ⟨#[115, 101, 99, 114, 101, 116]⟩ 2 4 ⟨#[109, 101, 115, 115, 97, 103, 101]⟩ 0 [] [] 1 _ (HG.out.below HB4.out) HS2.out).mono ?_
 rintro e w5 ⟨v1, v2, rfl, ho1, ho2, hb⟩
 have HB5 := Aside0.mk (below_step HB4.out hb)
 obtain ⟨A5, c5, e1⟩ := Kd.R_slice ho1
 obtain ⟨B5, d5, e2⟩ := Kd.R_slice ho2
 subst e1 e2
 have RS := Aside0.mk (And.intro HR1'.out.1 (Kd.C_below HR1'.out.2 hb))
 have RP := Aside0.mk (And.intro HR2'.out.1 (Kd.C_below HR2'.out.2 hb))
 have K5 := Aside0.mk (blk_below BK5.out hb)
 have X5 : g5 < w5.heap.size := blk_lt K5.out
 clear HR1' HR2' BK5 HB4 XS ho1 ho2 hb
 have hcp : 2 ≤ cp := by have := RP.out.1; rw [HL2.out] at this; exact this
 have hcs : 18 ≤ cs := by have := RS.out.1; rw [HL1.out] at this; exact this
 have HCP := Aside0.mk hcp
 have HCS := Aside0.mk hcs
 clear hcp hcs
 have y0 : w5.cell? ⟨g5, 0, none⟩ = some (.int .i64 3) := (blk_cell K5.out 0).trans rfl
 have y1 : w5.cell? ⟨g5, 1, none⟩ = some (.slice As 18 cs) := (blk_cell K5.out 1).trans rfl
 have y2 : w5.cell? ⟨g5, 2, none⟩ = some (.slice Ap 2 cp) := (blk_cell K5.out 2).trans rfl
 have f0 := blk_frozen K5.out 0
 have f1 := blk_frozen K5.out 1
 have f2 := blk_frozen K5.out 2
 have cA : (1 : Int) ≤ (cp : Int) := by have := HCP.out; omega
 have cB : 1 ≤ cp := by have := HCP.out; omega
 go_upto_region 9 with fail
 clear y0 y1 y2 f0 f1 f2 cA cB
 have X6 := Aside0.mk (below_alloc (below_alloc (Below.refl w5.heap.size w5) (.cells #[.int .i64 0, .slice A5 0 c5, .slice B5 0 d5] 53 (0, 0))) (.cells #[.int .i64 3, .slice As 18 cs, .slice Ap 1 cp] 53 (0, 0)))
 have K9 := Aside0.mk (blk_new (w5.alloc (.cells #[.int .i64 0, .slice A5 0 c5, .slice B5 0 d5] 53 (0, 0))) (.cells #[.int .i64 3, .slice As 18 cs, .slice Ap 1 cp] 53 (0, 0)))
 have K5' := Aside0.mk (blk_below K5.out X6.out)
 have RS' := Aside0.mk (And.intro RS.out.1 (Kd.C_below RS.out.2 X6.out))
 have RP' := Aside0.mk (And.intro RP.out.1 (Kd.C_below RP.out.2 X6.out))
 have HB7 := Aside0.mk (below_step HB5.out X6.out)
 have X7 : (w5.heap.size + 1) < ((w5.alloc (.cells #[.int .i64 0, .slice A5 0 c5, .slice B5 0 d5] 53 (0, 0))).alloc (.cells #[.int .i64 3, .slice As 18 cs, .slice Ap 1 cp] 53 (0, 0))).heap.size := by rw [World.size_alloc, World.size_alloc]; omega
 rw [World.size_alloc] at K9
 generalize (w5.alloc (.cells #[.int .i64 0, .slice A5 0 c5, .slice B5 0 d5] 53 (0, 0))).alloc (.cells #[.int .i64 3, .slice As 18 cs, .slice Ap 1 cp] 53 (0, 0)) = w7 at K9 K5' RS' RP' HB7 X7 ⊢
 clear K5 RS RP HB5 X6
 have hne : g5 ≠ w5.heap.size + 1 := by omega
 generalize w5.heap.size + 1 = g9 at K9 X7 hne ⊢
 have y0 : w7.cell? ⟨g5, 0, none⟩ = some (.int .i64 3) := (blk_cell K5'.out 0).trans rfl
 have y1 : w7.cell? ⟨g5, 1, none⟩ = some (.slice As 18 cs) := (blk_cell K5'.out 1).trans rfl
 have y2 : w7.cell? ⟨g5, 2, none⟩ = some (.slice Ap 2 cp) := (blk_cell K5'.out 2).trans rfl
 have f0 := blk_frozen K5'.out 0
 have f1 := blk_frozen K5'.out 1
 have f2 := blk_frozen K5'.out 2
 have X57 : g5 < w7.heap.size := blk_lt K5'.out
 have cA : (18 : Int) ≤ (cs : Int) := by have := HCS.out; omega
 go_upto_region 11 with fail
 clear y0 y1 y2 f0 f1 f2 cA
 obtain ⟨O10, hO10⟩ : ∃ o : Obj, o = (.cells #[.int .i64 3, .slice (Option.map (fun x => ⟨x.block, x.off + 1, none⟩) As) 17 (cs - 1), .slice Ap 2 cp] 53 (0, 0)) := ⟨_, rfl⟩
 rw [← hO10]
 have X10 := Aside0.mk (below_alloc (Below.refl w7.heap.size w7) O10)
 have K10 := Aside0.mk (blk_new w7 O10)
 have K5 := Aside0.mk (blk_below K5'.out X10.out)
 have K9' := Aside0.mk (blk_below K9.out X10.out)
 have RS := Aside0.mk (And.intro RS'.out.1 (Kd.C_below RS'.out.2 X10.out))
 have RP := Aside0.mk (And.intro RP'.out.1 (Kd.C_below RP'.out.2 X10.out))
 have HB := Aside0.mk (below_step HB7.out X10.out)
 generalize w7.alloc O10 = w10 at K10 K9' K5 RS RP HB ⊢
 subst hO10; clear K5' K9 RS' RP' HB7 X10
 generalize w7.heap.size = g10 at K10 ⊢
 have RT : Aside0 (Kd.string.C w10 Ap 1 (pt.take 1)) := by
  have h := Kd.C_take (m := 1) RP.out.2 (by rw [HL2.out]; omega)
  rw [List.length_take, HL2.out] at h
  exact ⟨h⟩
 have y0 : w10.cell? ⟨g5, 0, none⟩ = some (.int .i64 3) := (blk_cell K5.out 0).trans rfl
 have f0 := blk_frozen K5.out 0
 have y1 : w10.cell? ⟨g5, 1, none⟩ = some (.slice As 18 cs) := (blk_cell K5.out 1).trans rfl
 have f1 := blk_frozen K5.out 1
 have y2 : w10.cell? ⟨g5, 2, none⟩ = some (.slice Ap 2 cp) := (blk_cell K5.out 2).trans rfl
 have f2 := blk_frozen K5.out 2
 go_wp2_with fail
 refine (verify_at pub ⟨#[109, 101, 115, 115, 97, 103, 101]⟩ 3 As (cs) 18 (sg) Ap (cp) 2 (pt) _ _ (HG.out.below HB.out) (by first | exact HL1.out | (rw [List.length_drop, HL1.out])) RS.out.2 (by have := HCS.out; omega) (by first | exact HL2.out | (rw [List.length_take, HL2.out]; rfl)) RP.out.2 (by have := HCP.out; omega) HV1.out).mono ?_
 rintro e w11 ⟨rfl, hb⟩; clear y0 y1 y2 f0 f1 f2
 have HB := Aside0.mk (below_step HB.out hb)
 have K5 := Aside0.mk (blk_below K5.out hb)
 have K9' := Aside0.mk (blk_below K9'.out hb)
 have K10 := Aside0.mk (blk_below K10.out hb)
 have RS := Aside0.mk (And.intro RS.out.1 (Kd.C_below RS.out.2 hb))
 have RP := Aside0.mk (And.intro RP.out.1 (Kd.C_below RP.out.2 hb))
 clear hb
 have y0 : w11.cell? ⟨g9, 0, none⟩ = some (.int .i64 3) := (blk_cell K9'.out 0).trans rfl
 have f0 := blk_frozen K9'.out 0
 have y1 : w11.cell? ⟨g9, 1, none⟩ = some (.slice As 18 cs) := (blk_cell K9'.out 1).trans rfl
 have f1 := blk_frozen K9'.out 1
 have y2 : w11.cell? ⟨g9, 2, none⟩ = some (.slice Ap 1 cp) := (blk_cell K9'.out 2).trans rfl
 have f2 := blk_frozen K9'.out 2
 go_wp2_with fail
 refine (verify_at pub ⟨#[109, 101, 115, 115, 97, 103, 101]⟩ 3 As (cs) 18 (sg) Ap (cp) 1 (pt.take 1) _ _ (HG.out.below HB.out) (by first | exact HL1.out | (rw [List.length_drop, HL1.out])) RS.out.2 (by have := HCS.out; omega) (by first | exact HL2.out | (rw [List.length_take, HL2.out]; rfl)) (by have := Kd.C_take (m := 1) RP.out.2 (by rw [HL2.out]; omega); rw [List.length_take, HL2.out] at this; rw [List.length_take, HL2.out]; exact this) (by have := HCP.out; omega) HV2.out).mono ?_
 rintro e w12 ⟨rfl, hb⟩; clear y0 y1 y2 f0 f1 f2
 have HB := Aside0.mk (below_step HB.out hb)
 have K5 := Aside0.mk (blk_below K5.out hb)
 have K10 := Aside0.mk (blk_below K10.out hb)
 have RS := Aside0.mk (And.intro RS.out.1 (Kd.C_below RS.out.2 hb))
 have RP := Aside0.mk (And.intro RP.out.1 (Kd.C_below RP.out.2 hb))
 clear hb
 have y0 : w12.cell? ⟨g10, 0, none⟩ = some (.int .i64 3) := (blk_cell K10.out 0).trans rfl
 have f0 := blk_frozen K10.out 0
 have y1 : w12.cell? ⟨g10, 1, none⟩ = some (.slice (Option.map (fun x => ⟨x.block, x.off + 1, none⟩) As) 17 (cs - 1)) := (blk_cell K10.out 1).trans rfl
 have f1 := blk_frozen K10.out 1
 have y2 : w12.cell? ⟨g10, 2, none⟩ = some (.slice Ap 2 cp) := (blk_cell K10.out 2).trans rfl
 have f2 := blk_frozen K10.out 2
 go_wp2_with fail
 refine (verify_at pub ⟨#[109, 101, 115, 115, 97, 103, 101]⟩ 3 (Option.map (fun x => ⟨x.block, x.off + 1, none⟩) As) (cs - 1) 17 (sg.drop 1) Ap (cp) 2 (pt) _ _ (HG.out.below HB.out) (by first | exact HL1.out | (rw [List.length_drop, HL1.out])) (by have := Kd.C_drop (m := 1) (c := cs) RS.out.2 (by rw [HL1.out]; omega) RS.out.1; rw [if_neg (by have := HCS.out; omega)] at this; exact this) (by have := HCS.out; omega) (by first | exact HL2.out | (rw [List.length_take, HL2.out]; rfl)) RP.out.2 (by have := HCP.out; omega) HV3.out).mono ?_
 rintro e w13 ⟨rfl, hb⟩; clear y0 y1 y2 f0 f1 f2
 have HB := Aside0.mk (below_step HB.out hb)
 have K5 := Aside0.mk (blk_below K5.out hb)
 have RS := Aside0.mk (And.intro RS.out.1 (Kd.C_below RS.out.2 hb))
 have RP := Aside0.mk (And.intro RP.out.1 (Kd.C_below RP.out.2 hb))
 clear hb
 have y0 : w13.cell? ⟨g5, 0, none⟩ = some (.int .i64 3) := (blk_cell K5.out 0).trans rfl
 have f0 := blk_frozen K5.out 0
 have y1 : w13.cell? ⟨g5, 1, none⟩ = some (.slice As 18 cs) := (blk_cell K5.out 1).trans rfl
 have f1 := blk_frozen K5.out 1
 have y2 : w13.cell? ⟨g5, 2, none⟩ = some (.slice Ap 2 cp) := (blk_cell K5.out 2).trans rfl
 have f2 := blk_frozen K5.out 2
 go_wp2_with fail
 refine (verify_at ⟨#[]⟩ ⟨#[109, 101, 115, 115, 97, 103, 101]⟩ 3 As (cs) 18 (sg) Ap (cp) 2 (pt) _ _ (HG.out.below HB.out) (by first | exact HL1.out | (rw [List.length_drop, HL1.out])) RS.out.2 (by have := HCS.out; omega) (by first | exact HL2.out | (rw [List.length_take, HL2.out]; rfl)) RP.out.2 (by have := HCP.out; omega) HV4.out).mono ?_
 rintro e w14 ⟨rfl, hb⟩; clear y0 y1 y2 f0 f1 f2
 have HB := Aside0.mk (below_step HB.out hb)
 have RS := Aside0.mk (And.intro RS.out.1 (Kd.C_below RS.out.2 hb))
 have RP := Aside0.mk (And.intro RP.out.1 (Kd.C_below RP.out.2 hb))
 clear hb
 go_wp2_with fail
 go_ret
 exact ⟨rfl, HB.out⟩
end Go.Proofs.YtdlipbfcadmhjaaDoor
