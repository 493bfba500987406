import Derived.Test.YtmklfkjfgjagaaaGreatDoorXShort
import Derived.Test.YtmklfkjfgjagaaaGreatDoorYRL1
namespace Go.X
open Go Go.Proofs
theorem cl_15 : callable Tryz.prog 15 = true := by kernel_rfl
theorem cl_46 : callable Tryz.prog 46 = true := by kernel_rfl
theorem cl_47 : callable Tryz.prog 47 = true := by kernel_rfl
theorem cl_48 : callable Tryz.prog 48 = true := by kernel_rfl
theorem cl_49 : callable Tryz.prog 49 = true := by kernel_rfl
theorem cl_50 : callable Tryz.prog 50 = true := by kernel_rfl
theorem cl_51 : callable Tryz.prog 51 = true := by kernel_rfl
theorem cl_52 : callable Tryz.prog 52 = true := by kernel_rfl
theorem cl_53 : callable Tryz.prog 53 = true := by kernel_rfl
theorem cl_54 : callable Tryz.prog 54 = true := by kernel_rfl
set_option maxRecDepth 10000 in
set_option maxHeartbeats 16000000 in
theorem mounted_any (bt bf bu bm : Nat) (r : WH) (l : List MT) (p : Option Addr) (cap k c : Nat) (C : Nat → Value) (hv : RV.ok ⟨p, cap, k, l.length, c, C⟩) (hC : MC C l) (hm6 : l.length ≤ 6) (p' : Option Addr) (cap' k' c' : Nat) (C' : Nat → Value) (hv' : RV.ok ⟨p', cap', k', l.length, c', C'⟩) (hC' : MC C' l) (s m : FC) (hU : m.toFF = s.toFF) (a : ActV) (ha : a.s.size ≤ 100 ∧ a.t.size ≤ 100) (B : Int) (hst : StM s.toFF B r l) (hB : B ≤ 800000) : Spec Tryz.prog 17 [ptr bt 0 0, ptr bu 0 0, .agg #[.string a.kind, .int .i64 a.a, .int .i64 a.b, .int .i64 a.c, .int .u64 a.key, .bool a.on, .string a.s, .string a.t]]
    [.cells bt 0 4 (encT bf r (.slice p l.length c)), frow p cap 98 4 k C, .cells bf 0 321 (encF s), .fam fam40 (FC.rowsN 9 s), .fam fam40 (FC.rowsK 3 s), irow (FC.rP s) (FC.rC s) 3 (FC.toFF s).roots, .cells bu 0 4 (encT bm r (.slice p' l.length c')), frow p' cap' 98 4 k' C', .cells bm 0 321 (encM m), .fam fam40 (FC.rowsN 9 m), .fam fam40 (FC.rowsK 3 m), irow (FC.rP m) (FC.rC m) 3 (FC.toFF m).roots]
    (fun v H1 => v = .bool true ∧ ∃ (t2 w2 : TV) (s2 m2 : FC), t2.ok ∧ RV.ok ⟨w2.p, w2.cap, w2.k, t2.l.length, w2.c, w2.C⟩ ∧ MC w2.C t2.l ∧ m2.toFF = s2.toFF ∧ StM s2.toFF (B + 14) t2.r t2.l ∧ H1 = [.cells bt 0 4 (encT bf t2.r (.slice t2.p t2.l.length t2.c)), frow t2.p t2.cap 98 4 t2.k t2.C, .cells bf 0 321 (encF s2), .fam fam40 (FC.rowsN 9 s2), .fam fam40 (FC.rowsK 3 s2), irow (FC.rP s2) (FC.rC s2) 3 (FC.toFF s2).roots, .cells bu 0 4 (encT bm t2.r (.slice w2.p t2.l.length w2.c)), frow w2.p w2.cap 98 4 w2.k w2.C, .cells bm 0 321 (encM m2), .fam fam40 (FC.rowsN 9 m2), .fam fam40 (FC.rowsK 3 m2), irow (FC.rP m2) (FC.rC m2) 3 (FC.toFF m2).roots]) := by
 have hst_ := hst
 obtain ⟨⟨d, hO⟩, hHF, hRG, hND⟩ := hst_
 have hS := hO.sh (by omega)
 have hSm : m.toFF.Sh := by rw [hU]; exact hS
 have hOm : m.toFF.Ok d B := by rw [hU]; exact hO
 refine Spec.intro Tryz.func17 rfl rfl ?_
 intro W
 refine XC.sr ?_
 refine XO.box (m := 8) (C := encAct a) rfl rfl (act_box a) rfl ?_
 intro ba
 refine XO.as rfl rfl ?_
 refine XO.nk [(0, _), (1, _), (5, _)] (S3 rfl rfl rfl) ?_
 refine XC.seq ?_
 refine XC.sr ?_
 refine XO.v (V.fieldAddr rfl fo_50_0) rfl ?_
 refine XO.v (V.load rfl (inXM .here) (encAct.ld_Kind _) sc_9) rfl ?_
 refine XO.nk [(0, _), (1, _), (5, _), (36, _)] (S4 rfl rfl rfl rfl) ?_
 refine XC.block ?_
 refine XC.sr ?_
 refine XO.v (V.strCmp rfl rfl rfl) rfl ?_
 refine XO.as rfl rfl ?_
 refine XO.nk [(0, _), (1, _), (5, _), (36, _), (37, _)] (S5 rfl rfl rfl rfl rfl) ?_
 refine XC.condP rfl (fun h1 => ?_) (fun h1 => ?_)
 ·
  refine XC.sr ?_
  refine XO.mv rfl rfl ?_
  refine XO.v (V.fieldAddr rfl fo_50_6) rfl ?_
  refine XO.v (V.load rfl (inXM .here) (encAct.ld_S _) sc_9) rfl ?_
  refine XO.call rfl (m_Raw _ _ _ _ _ _ _ _ _ hv hC hm6 s hS _ (by omega)) (.cons (.there .here) (.cons (.there .here) (.cons (.there .here) (.cons (.there .here) (.cons (.there .here) .nil))))) cl_46 rfl ?_
  rintro _ _ ⟨rfl, rfl⟩
  refine XO.mv rfl rfl ?_
  refine XO.v (V.extract rfl rfl) rfl ?_
  refine XO.v (V.extract rfl rfl) rfl ?_
  refine XO.allocZ (z := .agg (WH.arr WH.nil)) (m := 2) (C := encW WH.nil) (by kernel_rfl) rfl (encW.box _) rfl ?_
  intro b7
  refine XO.storeAgg rfl rfl .here (encW.st _ _) ⟨rfl, rfl⟩ sz_56_2 ?_
  refine XO.as rfl rfl ?_
  refine XO.nk [(0, _), (1, _), (5, _), (7, _), (8, _)] (S5 rfl rfl rfl rfl rfl) ?_
  refine XC.sr ?_
  refine XO.mv rfl rfl ?_
  refine XO.v (V.fieldAddr rfl fo_50_6) rfl ?_
  refine XO.v (V.load rfl (inXM (.t6 .here)) (encAct.ld_S _) sc_9) rfl ?_
  refine XO.call rfl (u_RawF _ _ _ _ _ _ _ _ _ hv' hC' hm6 m hSm _ hU _ (by omega)) (.cons (.t8 .here) (.cons (.t8 .here) (.cons (.t8 .here) (.cons (.t8 .here) (.cons (.t8 .here) .nil))))) cl_47 rfl ?_
  rintro _ _ ⟨rfl, rfl⟩
  refine XO.mv rfl rfl ?_
  refine XO.v (V.extract rfl rfl) rfl ?_
  refine XO.v (V.extract rfl rfl) rfl ?_
  refine XO.allocZ (z := .agg (WH.arr WH.nil)) (m := 2) (C := encW WH.nil) (by kernel_rfl) rfl (encW.box _) rfl ?_
  intro b9
  refine XO.storeAgg rfl rfl .here (encW.st _ _) ⟨rfl, rfl⟩ sz_56_2 ?_
  refine XO.as rfl rfl ?_
  refine XO.nk [(0, _), (1, _), (5, _), (7, _), (8, _), (9, _), (10, _)] (S7 rfl rfl rfl rfl rfl rfl rfl) ?_
  refine XC.sr ?_
  refine XO.mv rfl rfl ?_
  refine XO.v (V.fieldAddr rfl fo_50_7) rfl ?_
  refine XO.v (V.load rfl (inXM (.t12 .here)) (encAct.ld_T _) sc_9) rfl ?_
  refine XO.call rfl (m_Walk _ _ _ _ _ _ _ _ _ hv hC hm6 s hS _ (by omega)) (.cons (.t7 .here) (.cons (.t7 .here) (.cons (.t7 .here) (.cons (.t7 .here) (.cons (.t7 .here) .nil))))) cl_23 rfl ?_
  rintro _ _ ⟨rfl, rfl⟩
  refine XO.mv rfl rfl ?_
  refine XO.v (V.extract rfl rfl) rfl ?_
  refine XO.v (V.extract rfl rfl) rfl ?_
  refine XO.allocZ (z := .agg (WH.arr WH.nil)) (m := 2) (C := encW WH.nil) (by kernel_rfl) rfl (encW.box _) rfl ?_
  intro b11
  refine XO.storeAgg rfl rfl .here (encW.st _ _) ⟨rfl, rfl⟩ sz_56_2 ?_
  refine XO.as rfl rfl ?_
  refine XO.nk [(0, _), (1, _), (5, _), (7, _), (8, _), (9, _), (10, _), (11, _), (12, _)] (Sub.cons rfl (S8 rfl rfl rfl rfl rfl rfl rfl rfl)) ?_
  refine XC.sr ?_
  refine XO.mv rfl rfl ?_
  refine XO.v (V.fieldAddr rfl fo_50_7) rfl ?_
  refine XO.v (V.load rfl (inXM (.there (.there (.there (.there (.there (.there (.there (.there (.there (.there (.there (.there (.there .here)))))))))))))) (encAct.ld_T _) sc_9) rfl ?_
  refine XO.call rfl (u_WalkF _ _ _ _ _ _ _ _ _ hv' hC' hm6 m hSm _ hU _ (by omega)) (.cons (.t7 .here) (.cons (.t7 .here) (.cons (.t7 .here) (.cons (.t7 .here) (.cons (.t7 .here) .nil))))) cl_48 rfl ?_
  rintro _ _ ⟨rfl, rfl⟩
  refine XO.mv rfl rfl ?_
  refine XO.v (V.extract rfl rfl) rfl ?_
  refine XO.v (V.extract rfl rfl) rfl ?_
  refine XO.allocZ (z := .agg (WH.arr WH.nil)) (m := 2) (C := encW WH.nil) (by kernel_rfl) rfl (encW.box _) rfl ?_
  intro b13
  refine XO.storeAgg rfl rfl .here (encW.st _ _) ⟨rfl, rfl⟩ sz_56_2 ?_
  refine XO.as rfl rfl ?_
  refine XO.nk [(0, _), (1, _), (5, _), (7, _), (8, _), (9, _), (10, _), (11, _), (12, _), (13, _), (14, _)] (Sub.cons rfl (Sub.cons rfl (Sub.cons rfl (S8 rfl rfl rfl rfl rfl rfl rfl rfl)))) ?_
  refine XC.seq ?_
  refine XC.sr ?_
  refine XO.v (V.loadAgg rfl (inXM (.there (.there (.there (.there (.there (.there (.there (.there (.there (.there (.there (.there (.there .here)))))))))))))) (encW.agg _) ag_56 sz_56_2) rfl ?_
  refine XO.v (V.loadAgg rfl (inXM (.t12 .here)) (encW.agg _) ag_56 sz_56_2) rfl ?_
  refine XO.v (V.neW rfl rfl whEq) rfl ?_
  refine XO.mv rfl rfl ?_
  refine XO.splitF (d := 70) rfl (fun h => h rfl) ?_
  refine XO.guardRun rfl rfl rfl ?_
  refine XO.v (V.loadAgg rfl (inXM (.t6 .here)) (encW.agg _) ag_56 sz_56_2) rfl ?_
  refine XO.guardRun rfl rfl rfl ?_
  refine XO.v (V.loadAgg rfl (inXM .here) (encW.agg _) ag_56 sz_56_2) rfl ?_
  refine XO.guardRun rfl rfl rfl ?_
  refine XO.v (V.neW rfl rfl whEq) rfl ?_
  refine XO.v (V.pick rfl rfl rfl rfl) rfl ?_
  refine XO.mv rfl rfl ?_
  refine XO.splitF (d := 75) rfl (fun h => h rfl) ?_
  refine XO.guardRun rfl rfl rfl ?_
  refine XO.mv rfl rfl ?_
  refine XO.guardRun rfl rfl rfl ?_
  refine XO.mv rfl rfl ?_
  refine XO.guardRun rfl rfl rfl ?_
  refine XO.call rfl (same_any _ _ (by first | omega | exact rawE_nn _ _ _ _)) .nil cl_9 rfl ?_
  rintro _ _ ⟨rfl, rfl⟩
  refine XO.guardRun rfl rfl rfl ?_
  refine XO.v (V.notP rfl) rfl ?_
  refine XO.v (V.pick rfl rfl rfl rfl) rfl ?_
  refine XO.mv rfl rfl ?_
  refine XO.splitF (d := 81) rfl (by simp) ?_
  refine XO.guardRun rfl rfl rfl ?_
  refine XO.mv rfl rfl ?_
  refine XO.guardRun rfl rfl rfl ?_
  refine XO.mv rfl rfl ?_
  refine XO.guardRun rfl rfl rfl ?_
  refine XO.call rfl (same_any _ _ (by first | omega | exact walkE_nn _ _ _ _)) .nil cl_9 rfl ?_
  rintro _ _ ⟨rfl, rfl⟩
  refine XO.guardRun rfl rfl rfl ?_
  refine XO.v (V.notP rfl) rfl ?_
  refine XO.v (V.pick rfl rfl rfl rfl) rfl ?_
  refine XO.nk [(0, _), (1, _), (5, _), (7, _), (10, _), (11, _), (14, _), (86, _)] (S8 rfl rfl rfl rfl rfl rfl rfl rfl) ?_
  refine XC.condFP rfl (by simp) ?_
  refine XC.skip ?_
  refine XE.next ?_
  refine XC.keep [(0, _), (1, _), (5, _), (7, _), (10, _), (11, _), (14, _)] (S7 rfl rfl rfl rfl rfl rfl rfl) ?_
  refine XC.cutG (σ := WH) (fun _ => True) (fun y => [(0, ptr bt 0 0), (1, ptr bu 0 0), (7, ptr b7 0 0), (11, ptr b11 0 0)]) (fun y => XM W (foot [.cells bt 0 4 (encT bf r (.slice p l.length c)), frow p cap 98 4 k C, .cells bf 0 321 (encF s), .fam fam40 (FC.rowsN 9 s), .fam fam40 (FC.rowsK 3 s), irow (FC.rP s) (FC.rC s) 3 (FC.toFF s).roots, .cells bu 0 4 (encT bm r (.slice p' l.length c')), frow p' cap' 98 4 k' C', .cells bm 0 321 (encM m), .fam fam40 (FC.rowsN 9 m), .fam fam40 (FC.rowsK 3 m), irow (FC.rP m) (FC.rC m) 3 (FC.toFF m).roots]) [.cells bt 0 4 (encT bf r (.slice p l.length c)), frow p cap 98 4 k C, .cells bf 0 321 (encF s), .fam fam40 (FC.rowsN 9 s), .fam fam40 (FC.rowsK 3 s), irow (FC.rP s) (FC.rC s) 3 (FC.toFF s).roots, .cells bu 0 4 (encT bm r (.slice p' l.length c')), frow p' cap' 98 4 k' C', .cells bm 0 321 (encM m), .fam fam40 (FC.rowsN 9 m), .fam fam40 (FC.rowsK 3 m), irow (FC.rP m) (FC.rC m) 3 (FC.toFF m).roots, .cells b7 0 2 (encW y), .cells b11 0 2 (encW (walkV s.toFF l r a.t))]) ?_ ?_
  ·
   refine XC.sr ?_
   refine XO.mv rfl rfl ?_
   refine XO.v (V.cmp rfl rfl rfl) rfl ?_
   refine XO.mv rfl rfl ?_
   refine XO.splitP (d := 89) rfl (fun h5 => ?_) (fun h5 => ?_)
   ·
    refine XO.guardSkip rfl rfl rfl rfl rfl ?_
    refine XO.guardSkip rfl rfl rfl rfl rfl ?_
    refine XO.v (V.pick rfl rfl rfl rfl) rfl ?_
    refine XO.nk [(0, _), (1, _), (5, _), (7, _), (11, _), (92, _)] (S6 rfl rfl rfl rfl rfl rfl) ?_
    refine XC.condT rfl rfl ?_
    refine XC.region ?_
    refine XO.v (V.fieldAddr rfl fo_50_1) rfl ?_
    refine XO.v (V.load rfl (inXM (.there (.there (.there (.there (.there (.there (.there (.there (.there (.there (.there (.there (.there (.there .here))))))))))))))) (encAct.ld_A _) sc_3) rfl ?_
    refine XO.v (V.fieldAddr rfl fo_50_2) rfl ?_
    refine XO.v (V.load rfl (inXM (.there (.there (.there (.there (.there (.there (.there (.there (.there (.there (.there (.there (.there (.there .here))))))))))))))) (encAct.ld_B _) sc_3) rfl ?_
    refine XO.v (V.build (vs := #[(0, .int .i64 a.a), (1, .int .i64 a.b)]) rfl (v := .agg (WH.arr ⟨a.a, a.b⟩)) (fun _ => by kernel_rfl)) rfl ?_
    refine XO.storeAgg rfl rfl (.there (.there (.there (.there (.there (.there (.there (.there (.there (.there (.there (.there (.there .here))))))))))))) (encW.st _ _) ⟨rfl, rfl⟩ sz_56_2 ?_
    refine XO.nil ?_
    refine XE.meetG (⟨a.a, a.b⟩) ?_ (S4 rfl rfl rfl rfl) (fun _ hw => XM.pick (.cons (.t7 .here) (.cons (.t7 .here) (.cons (.t7 .here) (.cons (.t7 .here) (.cons (.t7 .here) (.cons (.t10 .here) (.cons (.there .here) (.cons (.there .here) (.cons (.there .here) (.cons (.there .here) (.cons (.there .here) (.cons (.t5 .here) (.cons (.t3 .here) (.cons (.there .here) .nil)))))))))))))) hw)
    ·
     trivial
   ·
    refine XO.guardRun rfl rfl rfl ?_
    refine XO.mv rfl rfl ?_
    refine XO.guardRun rfl rfl rfl ?_
    refine XO.v (V.cmp rfl rfl rfl) rfl ?_
    refine XO.v (V.pick rfl rfl rfl rfl) rfl ?_
    refine XO.nk [(0, _), (1, _), (5, _), (7, _), (11, _), (92, _)] (S6 rfl rfl rfl rfl rfl rfl) ?_
    refine XC.condP rfl (fun h6 => ?_) (fun h6 => ?_)
    ·
     refine XC.region ?_
     refine XO.v (V.fieldAddr rfl fo_50_1) rfl ?_
     refine XO.v (V.load rfl (inXM (.there (.there (.there (.there (.there (.there (.there (.there (.there (.there (.there (.there (.there (.there .here))))))))))))))) (encAct.ld_A _) sc_3) rfl ?_
     refine XO.v (V.fieldAddr rfl fo_50_2) rfl ?_
     refine XO.v (V.load rfl (inXM (.there (.there (.there (.there (.there (.there (.there (.there (.there (.there (.there (.there (.there (.there .here))))))))))))))) (encAct.ld_B _) sc_3) rfl ?_
     refine XO.v (V.build (vs := #[(0, .int .i64 a.a), (1, .int .i64 a.b)]) rfl (v := .agg (WH.arr ⟨a.a, a.b⟩)) (fun _ => by kernel_rfl)) rfl ?_
     refine XO.storeAgg rfl rfl (.there (.there (.there (.there (.there (.there (.there (.there (.there (.there (.there (.there (.there .here))))))))))))) (encW.st _ _) ⟨rfl, rfl⟩ sz_56_2 ?_
     refine XO.nil ?_
     refine XE.meetG (⟨a.a, a.b⟩) ?_ (S4 rfl rfl rfl rfl) (fun _ hw => XM.pick (.cons (.t7 .here) (.cons (.t7 .here) (.cons (.t7 .here) (.cons (.t7 .here) (.cons (.t7 .here) (.cons (.t10 .here) (.cons (.there .here) (.cons (.there .here) (.cons (.there .here) (.cons (.there .here) (.cons (.there .here) (.cons (.t5 .here) (.cons (.t3 .here) (.cons (.there .here) .nil)))))))))))))) hw)
     ·
      trivial
    ·
     refine XC.skip ?_
     refine XE.meetG ((rawV s.toFF l r a.s)) ?_ (S4 rfl rfl rfl rfl) (fun _ hw => XM.pick (.cons (.t7 .here) (.cons (.t7 .here) (.cons (.t7 .here) (.cons (.t7 .here) (.cons (.t7 .here) (.cons (.t10 .here) (.cons (.there .here) (.cons (.there .here) (.cons (.there .here) (.cons (.there .here) (.cons (.there .here) (.cons (.t5 .here) (.cons (.t3 .here) (.cons (.there .here) .nil)))))))))))))) hw)
     ·
      trivial
  intro y _
  refine XC.seq ?_
  refine XC.regionQ mixed (f := 10) (l := #[false, false, false, false, false, false, false, false, false, false]) rfl rfl XM.drawn' ?_
  refine XQ.pv (i := 0) (l' := #[tt,ff,ff,ff,ff,ff,ff,ff,ff,ff]) rfl (by kernel_rfl) rfl (V.move rfl) rfl rfl ?_
  refine XQ.load (i := 1) (l' := #[tt,tt,ff,ff,ff,ff,ff,ff,ff,ff]) (.cells _ _ _ _) [3, 7, 8] rfl (by kernel_rfl) rfl (.t12 .here) (V.loadAgg rfl inEnt (encW.agg _) ag_56 sz_56_2) rfl (by kernel_rfl) rfl ?_
  refine XQ.load (i := 2) (l' := #[tt,tt,tt,ff,ff,ff,ff,ff,ff,ff]) (.cells _ _ _ _) [3, 7, 8] rfl (by kernel_rfl) rfl (.there (.there (.there (.there (.there (.there (.there (.there (.there (.there (.there (.there (.there .here))))))))))))) (V.loadAgg rfl inEnt (encW.agg _) ag_56 sz_56_2) rfl (by kernel_rfl) rfl ?_
  refine XQ.pv (i := 4) (l' := #[tt,tt,tt,ff,tt,ff,ff,ff,ff,ff]) rfl (by kernel_rfl) rfl (V.move rfl) rfl rfl ?_
  refine XQ.load (i := 5) (l' := #[tt,tt,tt,ff,tt,tt,ff,ff,ff,ff]) (.cells _ _ _ _) [7, 8] rfl (by kernel_rfl) rfl (.t12 .here) (V.loadAgg rfl inEnt (encW.agg _) ag_56 sz_56_2) rfl (by kernel_rfl) rfl ?_
  refine XQ.load (i := 6) (l' := #[tt,tt,tt,ff,tt,tt,tt,ff,ff,ff]) (.cells _ _ _ _) [7, 8] rfl (by kernel_rfl) rfl (.there (.there (.there (.there (.there (.there (.there (.there (.there (.there (.there (.there (.there .here))))))))))))) (V.loadAgg rfl inEnt (encW.agg _) ag_56 sz_56_2) rfl (by kernel_rfl) rfl ?_
  refine XQ.call (i := 3) (l' := #[tt,tt,tt,tt,tt,tt,tt,ff,ff,ff]) rfl (by kernel_rfl) rfl rfl (m_Bind _ _ _ _ _ _ _ _ _ hv hC hm6 s d B hO (by omega) y (walkV s.toFF l r a.t)) .h5 cl_49 rfl (by rintro _ _ ⟨rfl, p3, cap3, k3, c3, C3, s3, hv3, hC3, h3, hp3, hc3, rfl⟩; all_goals (intro _ hw'; exact ⟨fun _ => inXM (.there (.there (.there (.there (.there (.there (.there (.there (.there (.there (.there (.there (.there .here))))))))))))) _ hw', fun _ => inXM (.t12 .here) _ hw', fun hs => (hs 3 (by first | (simp; done) | (simp; rfl)) rfl).elim, fun hs => (hs 3 (by first | (simp; done) | (simp; rfl)) rfl).elim, trivial⟩)) ?_
  rintro _ _ ⟨rfl, p3, cap3, k3, c3, C3, s3, hv3, hC3, h3, hp3, hc3, rfl⟩
  refine XQ.call (i := 7) (l' := #[tt,tt,tt,tt,tt,tt,tt,tt,ff,ff]) rfl (by kernel_rfl) rfl rfl (u_Bind _ _ _ _ _ _ _ _ _ hv' hC' hm6 m d B hOm (by omega) y (walkV s.toFF l r a.t)) (.cons (.t6 .here) (.cons (.t6 .here) (.cons (.t6 .here) (.cons (.t6 .here) (.cons (.t6 .here) .nil))))) cl_50 rfl (by rintro _ _ ⟨rfl, p4, cap4, k4, c4, C4, m3, hv4, hC4, h4, hp4, hc4, rfl⟩; all_goals (intro _ hw'; exact ⟨fun hs => (hs 7 (by first | (simp; done) | (simp; rfl)) rfl).elim, fun hs => (hs 7 (by first | (simp; done) | (simp; rfl)) rfl).elim, fun hs => (hs 3 (by first | (simp; done) | (simp; rfl)) rfl).elim, fun hs => (hs 3 (by first | (simp; done) | (simp; rfl)) rfl).elim, trivial⟩)) ?_
  rintro _ _ ⟨rfl, p4, cap4, k4, c4, C4, m3, hv4, hC4, h4, hp4, hc4, rfl⟩
  rw [hU] at hv4 hC4 h4
  refine XQ.call (i := 8) (l' := #[tt,tt,tt,tt,tt,tt,tt,tt,tt,ff]) rfl (by kernel_rfl) rfl rfl (same_any _ _ (by first | omega | exact bindE_nn _ _ _ _)) .nil cl_9 rfl (by rintro _ _ ⟨rfl, rfl⟩; all_goals (intro _ hw'; exact ⟨fun hs => (hs 7 (by first | (simp; done) | (simp; rfl)) rfl).elim, fun hs => (hs 7 (by first | (simp; done) | (simp; rfl)) rfl).elim, fun hs => (hs 3 (by first | (simp; done) | (simp; rfl)) rfl).elim, fun hs => (hs 3 (by first | (simp; done) | (simp; rfl)) rfl).elim, trivial⟩)) ?_
  rintro _ _ ⟨rfl, rfl⟩
  refine XQ.pv (i := 9) (l' := #[tt,tt,tt,tt,tt,tt,tt,tt,tt,tt]) rfl (by kernel_rfl) rfl (V.assign rfl) rfl rfl ?_
  refine XQ.done (by kernel_rfl) ?_
  refine XE.next ?_
  refine XC.keep [(6, _)] (S1 rfl) ?_
  refine XC.ret ?_
  refine XE.blockRet ?_
  refine XE.thenRet ?_
  refine XE.ret1 rfl rfl (post_of (.cons (.t5 .here) (.cons (.t5 .here) (.cons (.t5 .here) (.cons (.t5 .here) (.cons (.t5 .here) (.cons (.t5 .here) .h6)))))) rfl ?_)
  exact ⟨congrArg Value.bool (decide_eq_true (by rw [hU])), ⟨r, bindL s.toFF l y (walkV s.toFF l r a.t), p3, cap3, k3, c3, C3⟩, ⟨r, [], p4, cap4, k4, c4, C4⟩, s3, m3, ⟨hv3, hC3, bindL_le hm6⟩, hv4, hC4, by rw [h4, h3], hst.bind h3, by rw [hp3, hc3, hp4, hc4, show (FC.toFF s3).roots = (FC.toFF s).roots from by rw [h3]; exact bindF_roots _ _ _ _, show (FC.toFF m3).roots = (FC.toFF m).roots from by rw [h4, hU]; exact bindF_roots _ _ _ _, hU]⟩
 ·
  refine XC.sr ?_
  refine XO.v (V.strCmp rfl rfl rfl) rfl ?_
  refine XO.as rfl rfl ?_
  refine XO.nk [(0, _), (1, _), (5, _), (36, _), (107, _)] (S5 rfl rfl rfl rfl rfl) ?_
  refine XC.condP rfl (fun h7 => ?_) (fun h7 => ?_)
  ·
   refine XC.sr ?_
   refine XO.mv rfl rfl ?_
   refine XO.v (V.fieldAddr rfl fo_50_6) rfl ?_
   refine XO.v (V.load rfl (inXM .here) (encAct.ld_S _) sc_9) rfl ?_
   refine XO.call rfl (u_RawF _ _ _ _ _ _ _ _ _ hv' hC' hm6 m hSm _ hU _ (by omega)) (.cons (.t7 .here) (.cons (.t7 .here) (.cons (.t7 .here) (.cons (.t7 .here) (.cons (.t7 .here) .nil))))) cl_47 rfl ?_
   rintro _ _ ⟨rfl, rfl⟩
   refine XO.mv rfl rfl ?_
   refine XO.v (V.extract rfl rfl) rfl ?_
   refine XO.v (V.extract rfl rfl) rfl ?_
   refine XO.allocZ (z := .agg (WH.arr WH.nil)) (m := 2) (C := encW WH.nil) (by kernel_rfl) rfl (encW.box _) rfl ?_
   intro b15
   refine XO.storeAgg rfl rfl .here (encW.st _ _) ⟨rfl, rfl⟩ sz_56_2 ?_
   refine XO.as rfl rfl ?_
   refine XO.nk [(0, _), (1, _), (15, _)] (S3 rfl rfl rfl) ?_
   refine XC.seq ?_
   refine XC.regionQ mixed (f := 8) (l := #[false, false, false, false, false, false, false, false]) rfl rfl XM.drawn' ?_
   refine XQ.pv (i := 0) (l' := #[tt,ff,ff,ff,ff,ff,ff,ff]) rfl (by kernel_rfl) rfl (V.move rfl) rfl rfl ?_
   refine XQ.load (i := 1) (l' := #[tt,tt,ff,ff,ff,ff,ff,ff]) (.cells _ _ _ _) [2, 5, 6] rfl (by kernel_rfl) rfl .here (V.loadAgg rfl inEnt (encW.agg _) ag_56 sz_56_2) rfl (by kernel_rfl) rfl ?_
   refine XQ.pv (i := 3) (l' := #[tt,tt,ff,tt,ff,ff,ff,ff]) rfl (by kernel_rfl) rfl (V.move rfl) rfl rfl ?_
   refine XQ.load (i := 4) (l' := #[tt,tt,ff,tt,tt,ff,ff,ff]) (.cells _ _ _ _) [5, 6] rfl (by kernel_rfl) rfl .here (V.loadAgg rfl inEnt (encW.agg _) ag_56 sz_56_2) rfl (by kernel_rfl) rfl ?_
   refine XQ.call (i := 2) (l' := #[tt,tt,tt,tt,tt,ff,ff,ff]) rfl (by kernel_rfl) rfl rfl (m_Unbind _ _ _ _ _ _ _ _ _ hv hC hm6 s d B hO (by omega) (rawV s.toFF l r a.s)) (.cons (.t7 .here) (.cons (.t7 .here) (.cons (.t7 .here) (.cons (.t7 .here) (.cons (.t7 .here) .nil))))) cl_51 rfl (by rintro _ _ ⟨rfl, p3, cap3, k3, c3, C3, s3, hv3, hC3, h3, hp3, hc3, rfl⟩; all_goals (intro _ hw'; exact ⟨fun _ => inXM (.t5 .here) _ hw', fun hs => (hs 2 (by first | (simp; done) | (simp; rfl)) rfl).elim, trivial⟩)) ?_
   rintro _ _ ⟨rfl, p3, cap3, k3, c3, C3, s3, hv3, hC3, h3, hp3, hc3, rfl⟩
   refine XQ.call (i := 5) (l' := #[tt,tt,tt,tt,tt,tt,ff,ff]) rfl (by kernel_rfl) rfl rfl (u_Unbind _ _ _ _ _ _ _ _ _ hv' hC' hm6 m d B hOm (by omega) (rawV s.toFF l r a.s) hND) (.cons (.t6 .here) (.cons (.t6 .here) (.cons (.t6 .here) (.cons (.t6 .here) (.cons (.t6 .here) .nil))))) cl_52 rfl (by rintro _ _ ⟨rfl, p4, cap4, k4, c4, C4, m3, hv4, hC4, h4, hp4, hc4, rfl⟩; all_goals (intro _ hw'; exact ⟨fun hs => (hs 5 (by first | (simp; done) | (simp; rfl)) rfl).elim, fun hs => (hs 2 (by first | (simp; done) | (simp; rfl)) rfl).elim, trivial⟩)) ?_
   rintro _ _ ⟨rfl, p4, cap4, k4, c4, C4, m3, hv4, hC4, h4, hp4, hc4, rfl⟩
   rw [hU] at h4
   refine XQ.call (i := 6) (l' := #[tt,tt,tt,tt,tt,tt,tt,ff]) rfl (by kernel_rfl) rfl rfl (same_any _ _ (by first | omega | exact (by unfold unbindE; split <;> omega))) .nil cl_9 rfl (by rintro _ _ ⟨rfl, rfl⟩; all_goals (intro _ hw'; exact ⟨fun hs => (hs 5 (by first | (simp; done) | (simp; rfl)) rfl).elim, fun hs => (hs 2 (by first | (simp; done) | (simp; rfl)) rfl).elim, trivial⟩)) ?_
   rintro _ _ ⟨rfl, rfl⟩
   refine XQ.pv (i := 7) (l' := #[tt,tt,tt,tt,tt,tt,tt,tt]) rfl (by kernel_rfl) rfl (V.assign rfl) rfl rfl ?_
   refine XQ.done (by kernel_rfl) ?_
   refine XE.next ?_
   refine XC.keep [(6, _)] (S1 rfl) ?_
   refine XC.ret ?_
   refine XE.blockRet ?_
   refine XE.thenRet ?_
   refine XE.ret1 rfl rfl (post_of (.cons (.t5 .here) (.cons (.t5 .here) (.cons (.t5 .here) (.cons (.t5 .here) (.cons (.t5 .here) (.cons (.t7 .here) (.cons .here (.cons .here (.cons .here (.cons .here (.cons .here (.cons (.t2 .here) .nil)))))))))))) rfl ?_)
   exact ⟨congrArg Value.bool (decide_eq_true rfl), ⟨r, unbindL l (rawV s.toFF l r a.s), p3, cap3, k3, c3, C3⟩, ⟨r, [], p4, cap4, k4, c4, C4⟩, s3, m3, ⟨hv3, hC3, unbindL_le hm6⟩, hv4, hC4, by rw [h4, h3], hst.unbind h3, by rw [hp3, hc3, hp4, hc4, show (FC.toFF s3).roots = (FC.toFF s).roots from by rw [h3]; exact unbindF_roots _ _ _, show (FC.toFF m3).roots = (FC.toFF m).roots from by rw [h4, hU]; exact unbindF_roots _ _ _]⟩
  ·
   refine XC.sr ?_
   refine XO.v (V.strCmp rfl rfl rfl) rfl ?_
   refine XO.as rfl rfl ?_
   refine XO.nk [(0, _), (1, _), (5, _), (123, _)] (S4 rfl rfl rfl rfl) ?_
   refine XC.condP rfl (fun h8 => ?_) (fun h8 => ?_)
   ·
    refine XC.seq ?_
    refine XC.regionQ mixed (f := 10) (l := #[false, false, false, false, false, false, false, false, false, false]) rfl rfl XM.drawn' ?_
    refine XQ.pv (i := 0) (l' := #[tt,ff,ff,ff,ff,ff,ff,ff,ff,ff]) rfl (by kernel_rfl) rfl (V.move rfl) rfl rfl ?_
    refine XQ.pv (i := 1) (l' := #[tt,tt,ff,ff,ff,ff,ff,ff,ff,ff]) rfl (by kernel_rfl) rfl (V.fieldAddr rfl fo_50_1) rfl rfl ?_
    refine XQ.load (i := 2) (l' := #[tt,tt,tt,ff,ff,ff,ff,ff,ff,ff]) (.cells _ _ _ _) [3, 7, 8] rfl (by kernel_rfl) rfl .here (V.load rfl inEnt (encAct.ld_A _) sc_3) rfl (by kernel_rfl) rfl ?_
    refine XQ.pv (i := 4) (l' := #[tt,tt,tt,ff,tt,ff,ff,ff,ff,ff]) rfl (by kernel_rfl) rfl (V.move rfl) rfl rfl ?_
    refine XQ.pv (i := 5) (l' := #[tt,tt,tt,ff,tt,tt,ff,ff,ff,ff]) rfl (by kernel_rfl) rfl (V.fieldAddr rfl fo_50_1) rfl rfl ?_
    refine XQ.load (i := 6) (l' := #[tt,tt,tt,ff,tt,tt,tt,ff,ff,ff]) (.cells _ _ _ _) [7, 8] rfl (by kernel_rfl) rfl .here (V.load rfl inEnt (encAct.ld_A _) sc_3) rfl (by kernel_rfl) rfl ?_
    refine XQ.call (i := 3) (l' := #[tt,tt,tt,tt,tt,tt,tt,ff,ff,ff]) rfl (by kernel_rfl) rfl rfl (m_Pivot _ _ _ _ _ _ _ _ _ hv hC hm6 s d B hO (by omega) _) (.cons (.there .here) (.cons (.there .here) (.cons (.there .here) (.cons (.there .here) (.cons (.there .here) (.cons (.there .here) .nil)))))) cl_15 rfl (by rintro _ _ (⟨n0, rfl, rfl⟩ | ⟨n0, rfl, s3, h3, hO3, hp3, hc3, rfl⟩); all_goals (intro _ hw'; exact ⟨fun _ => inXM (.t6 .here) _ hw', fun hs => (hs 3 (by first | (simp; done) | (simp; rfl)) rfl).elim, trivial⟩)) ?_
    rintro _ _ (⟨n0, rfl, rfl⟩ | ⟨n0, rfl, s3, h3, hO3, hp3, hc3, rfl⟩)
    ·
     refine XQ.call (i := 7) (l' := #[tt,tt,tt,tt,tt,tt,tt,tt,ff,ff]) rfl (by kernel_rfl) rfl rfl (u_Pivot _ _ _ _ _ _ _ _ _ hv' hC' hm6 m d B hOm (by omega) _) (.cons (.t7 .here) (.cons (.t7 .here) (.cons (.t7 .here) (.cons (.t7 .here) (.cons (.t7 .here) (.cons (.t7 .here) .nil)))))) cl_53 rfl (by rintro _ _ ⟨rfl, (⟨j0, rfl⟩ | ⟨j0, m3, h4, hO4, hp4, hc4, rfl⟩)⟩; all_goals (intro _ hw'; exact ⟨fun hs => (hs 7 (by first | (simp; done) | (simp; rfl)) rfl).elim, fun hs => (hs 3 (by first | (simp; done) | (simp; rfl)) rfl).elim, trivial⟩)) ?_
     rintro _ _ ⟨rfl, (⟨j0, rfl⟩ | ⟨j0, m3, h4, hO4, hp4, hc4, rfl⟩)⟩
     ·
      refine XQ.call (i := 8) (l' := #[tt,tt,tt,tt,tt,tt,tt,tt,tt,ff]) rfl (by kernel_rfl) rfl rfl (same_any _ _ (FF.rootE_nn _ _)) .nil cl_9 rfl (by rintro _ _ ⟨rfl, rfl⟩; all_goals (intro _ hw'; exact ⟨fun hs => (hs 7 (by first | (simp; done) | (simp; rfl)) rfl).elim, fun hs => (hs 3 (by first | (simp; done) | (simp; rfl)) rfl).elim, trivial⟩)) ?_
      rintro _ _ ⟨rfl, rfl⟩
      refine XQ.pv (i := 9) (l' := #[tt,tt,tt,tt,tt,tt,tt,tt,tt,tt]) rfl (by kernel_rfl) rfl (V.assign rfl) rfl rfl ?_
      refine XQ.done (by kernel_rfl) ?_
      refine XE.next ?_
      refine XC.keep [(6, _)] (S1 rfl) ?_
      refine XC.ret ?_
      refine XE.blockRet ?_
      refine XE.thenRet ?_
      refine XE.ret1 rfl rfl (post_of (.cons (.t6 .here) (.cons (.t6 .here) (.cons (.t6 .here) (.cons (.t6 .here) (.cons (.t6 .here) (.cons (.t6 .here) .h6)))))) rfl ?_)
      exact ⟨congrArg Value.bool (decide_eq_true (by rw [hU])), ⟨r, l, p, cap, k, c, C⟩, ⟨r, [], p', cap', k', c', C'⟩, s, m, ⟨hv, hC, hm6⟩, hv', hC', hU, hst.ge (by omega), rfl⟩
     ·
      exact absurd (show s.rootE a.a = 0 by rw [← hU]; exact j0) n0
    ·
     refine XQ.call (i := 7) (l' := #[tt,tt,tt,tt,tt,tt,tt,tt,ff,ff]) rfl (by kernel_rfl) rfl rfl (u_Pivot _ _ _ _ _ _ _ _ _ hv' hC' hm6 m d B hOm (by omega) _) (.cons (.t7 .here) (.cons (.t7 .here) (.cons (.t7 .here) (.cons (.t7 .here) (.cons (.t7 .here) (.cons (.t7 .here) .nil)))))) cl_53 rfl (by rintro _ _ ⟨rfl, (⟨j0, rfl⟩ | ⟨j0, m3, h4, hO4, hp4, hc4, rfl⟩)⟩; all_goals (intro _ hw'; exact ⟨fun hs => (hs 7 (by first | (simp; done) | (simp; rfl)) rfl).elim, fun hs => (hs 3 (by first | (simp; done) | (simp; rfl)) rfl).elim, trivial⟩)) ?_
     rintro _ _ ⟨rfl, (⟨j0, rfl⟩ | ⟨j0, m3, h4, hO4, hp4, hc4, rfl⟩)⟩
     ·
      exact absurd (show m.rootE a.a = 0 by rw [hU]; exact n0) j0
     ·
      refine XQ.call (i := 8) (l' := #[tt,tt,tt,tt,tt,tt,tt,tt,tt,ff]) rfl (by kernel_rfl) rfl rfl (same_nil _) .nil cl_9 rfl (by rintro _ _ ⟨rfl, rfl⟩; all_goals (intro _ hw'; exact ⟨fun hs => (hs 7 (by first | (simp; done) | (simp; rfl)) rfl).elim, fun hs => (hs 3 (by first | (simp; done) | (simp; rfl)) rfl).elim, trivial⟩)) ?_
      rintro _ _ ⟨rfl, rfl⟩
      refine XQ.pv (i := 9) (l' := #[tt,tt,tt,tt,tt,tt,tt,tt,tt,tt]) rfl (by kernel_rfl) rfl (V.assign rfl) rfl rfl ?_
      refine XQ.done (by kernel_rfl) ?_
      refine XE.next ?_
      refine XC.keep [(6, _)] (S1 rfl) ?_
      refine XC.ret ?_
      refine XE.blockRet ?_
      refine XE.thenRet ?_
      refine XE.ret1 rfl rfl (post_of (.cons (.t6 .here) (.cons (.t6 .here) (.cons (.t6 .here) (.cons (.t6 .here) (.cons (.t6 .here) (.cons (.t6 .here) .h6)))))) rfl ?_)
      have hrv : m.rootV a.a = s.rootV a.a := by rw [hU]
      exact ⟨congrArg Value.bool (decide_eq_true (by rw [hU]; exact n0.symm)), ⟨⟨a.a, s.rootV a.a⟩, [], none, 0, 0, 0, C0⟩, ⟨r, [], none, 0, 0, 0, C0⟩, s3, m3, MTop.nil_ok' _ _, C0_ok, MC.nil _, by rw [h4, h3, hU], hst.pivot n0 h3 hO3, by rw [hrv]; rw [hp3, hc3, hp4, hc4, show (FC.toFF s3).roots = (FC.toFF s).roots from by rw [h3]; exact (tcloseF_roots _ _ _).trans (FF.hold_roots _ _), show (FC.toFF m3).roots = (FC.toFF m).roots from by rw [h4]; exact (tcloseF_roots _ _ _).trans (FF.hold_roots _ _)]; try rfl⟩
   ·
    refine XC.skip ?_
    refine XE.blockNormal ?_
    refine XE.next ?_
    refine XC.keep [(0, _), (1, _), (5, _)] (S3 rfl rfl rfl) ?_
    refine XC.sr ?_
    refine XO.mv rfl rfl ?_
    refine XO.v (V.fieldAddr rfl fo_50_6) rfl ?_
    refine XO.v (V.load rfl (inXM .here) (encAct.ld_S _) sc_9) rfl ?_
    refine XO.call rfl (m_Walk _ _ _ _ _ _ _ _ _ hv hC hm6 s hS _ (by omega)) (.cons (.there .here) (.cons (.there .here) (.cons (.there .here) (.cons (.there .here) (.cons (.there .here) .nil))))) cl_23 rfl ?_
    rintro _ _ ⟨rfl, rfl⟩
    refine XO.mv rfl rfl ?_
    refine XO.v (V.extract rfl rfl) rfl ?_
    refine XO.v (V.extract rfl rfl) rfl ?_
    refine XO.allocZ (z := .agg (WH.arr WH.nil)) (m := 2) (C := encW WH.nil) (by kernel_rfl) rfl (encW.box _) rfl ?_
    intro b17
    refine XO.storeAgg rfl rfl .here (encW.st _ _) ⟨rfl, rfl⟩ sz_56_2 ?_
    refine XO.as rfl rfl ?_
    refine XO.nk [(0, _), (1, _), (5, _), (17, _), (18, _)] (S5 rfl rfl rfl rfl rfl) ?_
    refine XC.sr ?_
    refine XO.mv rfl rfl ?_
    refine XO.v (V.fieldAddr rfl fo_50_6) rfl ?_
    refine XO.v (V.load rfl (inXM (.t6 .here)) (encAct.ld_S _) sc_9) rfl ?_
    refine XO.call rfl (u_WalkF _ _ _ _ _ _ _ _ _ hv' hC' hm6 m hSm _ hU _ (by omega)) (.cons (.t8 .here) (.cons (.t8 .here) (.cons (.t8 .here) (.cons (.t8 .here) (.cons (.t8 .here) .nil))))) cl_48 rfl ?_
    rintro _ _ ⟨rfl, rfl⟩
    refine XO.mv rfl rfl ?_
    refine XO.v (V.extract rfl rfl) rfl ?_
    refine XO.v (V.extract rfl rfl) rfl ?_
    refine XO.allocZ (z := .agg (WH.arr WH.nil)) (m := 2) (C := encW WH.nil) (by kernel_rfl) rfl (encW.box _) rfl ?_
    intro b19
    refine XO.storeAgg rfl rfl .here (encW.st _ _) ⟨rfl, rfl⟩ sz_56_2 ?_
    refine XO.as rfl rfl ?_
    refine XO.nk [(0, _), (1, _), (5, _), (17, _), (18, _), (19, _), (20, _)] (S7 rfl rfl rfl rfl rfl rfl rfl) ?_
    refine XC.sr ?_
    refine XO.mv rfl rfl ?_
    refine XO.v (V.fieldAddr rfl fo_50_6) rfl ?_
    refine XO.v (V.load rfl (inXM (.t12 .here)) (encAct.ld_S _) sc_9) rfl ?_
    refine XO.call rfl (m_Last _ _ _ _ _ _ _ _ _ hv hC hm6 s hS _ (by omega)) (.cons (.t7 .here) (.cons (.t7 .here) (.cons (.t7 .here) (.cons (.t7 .here) (.cons (.t7 .here) .nil))))) cl_54 rfl ?_
    rintro _ _ ⟨rfl, rfl⟩
    refine XO.mv rfl rfl ?_
    refine XO.v (V.extract rfl rfl) rfl ?_
    refine XO.v (V.extract rfl rfl) rfl ?_
    refine XO.v (V.extract rfl rfl) rfl ?_
    refine XO.allocZ (z := .agg (WH.arr WH.nil)) (m := 2) (C := encW WH.nil) (by kernel_rfl) rfl (encW.box _) rfl ?_
    intro b21
    refine XO.storeAgg rfl rfl .here (encW.st _ _) ⟨rfl, rfl⟩ sz_56_2 ?_
    refine XO.as rfl rfl ?_
    refine XO.as rfl rfl ?_
    refine XO.nk [(0, _), (1, _), (5, _), (17, _), (18, _), (19, _), (20, _), (21, _), (22, _), (23, _)] (Sub.cons rfl (Sub.cons rfl (S8 rfl rfl rfl rfl rfl rfl rfl rfl))) ?_
    refine XC.sr ?_
    refine XO.mv rfl rfl ?_
    refine XO.v (V.fieldAddr rfl fo_50_6) rfl ?_
    refine XO.v (V.load rfl (inXM (.there (.there (.there (.there (.there (.there (.there (.there (.there (.there (.there (.there (.there .here)))))))))))))) (encAct.ld_S _) sc_9) rfl ?_
    refine XO.call rfl (u_LastF _ _ _ _ _ _ _ _ _ hv' hC' hm6 m hSm _ hU _ (by omega)) (.cons (.t7 .here) (.cons (.t7 .here) (.cons (.t7 .here) (.cons (.t7 .here) (.cons (.t7 .here) .nil))))) cl_55 rfl ?_
    rintro _ _ ⟨rfl, rfl⟩
    refine XO.mv rfl rfl ?_
    refine XO.v (V.extract rfl rfl) rfl ?_
    refine XO.v (V.extract rfl rfl) rfl ?_
    refine XO.v (V.extract rfl rfl) rfl ?_
    refine XO.allocZ (z := .agg (WH.arr WH.nil)) (m := 2) (C := encW WH.nil) (by kernel_rfl) rfl (encW.box _) rfl ?_
    intro b24
    refine XO.storeAgg rfl rfl .here (encW.st _ _) ⟨rfl, rfl⟩ sz_56_2 ?_
    refine XO.as rfl rfl ?_
    refine XO.as rfl rfl ?_
    refine XO.nk [(0, _), (1, _), (5, _), (17, _), (18, _), (19, _), (20, _), (21, _), (22, _), (23, _), (24, _), (25, _), (26, _)] (Sub.cons rfl (Sub.cons rfl (Sub.cons rfl (Sub.cons rfl (Sub.cons rfl (S8 rfl rfl rfl rfl rfl rfl rfl rfl)))))) ?_
    refine XC.sr ?_
    refine XO.mv rfl rfl ?_
    refine XO.v (V.fieldAddr rfl fo_50_6) rfl ?_
    refine XO.v (V.load rfl (inXM (.there (.there (.there (.there (.there (.there (.there (.there (.there (.there (.there (.there (.there (.there .here))))))))))))))) (encAct.ld_S _) sc_9) rfl ?_
    refine XO.call rfl (m_Raw _ _ _ _ _ _ _ _ _ hv hC hm6 s hS _ (by omega)) (.cons (.t7 .here) (.cons (.t7 .here) (.cons (.t7 .here) (.cons (.t7 .here) (.cons (.t7 .here) .nil))))) cl_46 rfl ?_
    rintro _ _ ⟨rfl, rfl⟩
    refine XO.mv rfl rfl ?_
    refine XO.v (V.extract rfl rfl) rfl ?_
    refine XO.v (V.extract rfl rfl) rfl ?_
    refine XO.allocZ (z := .agg (WH.arr WH.nil)) (m := 2) (C := encW WH.nil) (by kernel_rfl) rfl (encW.box _) rfl ?_
    intro b27
    refine XO.storeAgg rfl rfl .here (encW.st _ _) ⟨rfl, rfl⟩ sz_56_2 ?_
    refine XO.as rfl rfl ?_
    refine XO.nk [(1, _), (5, _), (17, _), (18, _), (19, _), (20, _), (21, _), (22, _), (23, _), (24, _), (25, _), (26, _), (27, _), (28, _)] (Sub.cons rfl (Sub.cons rfl (Sub.cons rfl (Sub.cons rfl (Sub.cons rfl (Sub.cons rfl (S8 rfl rfl rfl rfl rfl rfl rfl rfl))))))) ?_
    refine XC.sr ?_
    refine XO.mv rfl rfl ?_
    refine XO.v (V.fieldAddr rfl fo_50_6) rfl ?_
    refine XO.v (V.load rfl (inXM (.there (.there (.there (.there (.there (.there (.there (.there (.there (.there (.there (.there (.there (.there (.there .here)))))))))))))))) (encAct.ld_S _) sc_9) rfl ?_
    refine XO.call rfl (u_RawF _ _ _ _ _ _ _ _ _ hv' hC' hm6 m hSm _ hU _ (by omega)) (.cons (.t7 .here) (.cons (.t7 .here) (.cons (.t7 .here) (.cons (.t7 .here) (.cons (.t7 .here) .nil))))) cl_47 rfl ?_
    rintro _ _ ⟨rfl, rfl⟩
    refine XO.mv rfl rfl ?_
    refine XO.v (V.extract rfl rfl) rfl ?_
    refine XO.v (V.extract rfl rfl) rfl ?_
    refine XO.allocZ (z := .agg (WH.arr WH.nil)) (m := 2) (C := encW WH.nil) (by kernel_rfl) rfl (encW.box _) rfl ?_
    intro b29
    refine XO.storeAgg rfl rfl .here (encW.st _ _) ⟨rfl, rfl⟩ sz_56_2 ?_
    refine XO.as rfl rfl ?_
    refine XO.nk [(5, _), (17, _), (18, _), (19, _), (20, _), (21, _), (22, _), (23, _), (24, _), (25, _), (26, _), (27, _), (28, _), (29, _), (30, _)] (Sub.cons rfl (Sub.cons rfl (Sub.cons rfl (Sub.cons rfl (Sub.cons rfl (Sub.cons rfl (Sub.cons rfl (S8 rfl rfl rfl rfl rfl rfl rfl rfl)))))))) ?_
    refine XC.sr ?_
    refine XO.v (V.fieldAddr rfl fo_50_6) rfl ?_
    refine XO.v (V.load rfl (inXM (.there (.there (.there (.there (.there (.there (.there (.there (.there (.there (.there (.there (.there (.there (.there (.there .here))))))))))))))))) (encAct.ld_S _) sc_9) rfl ?_
    refine XO.call rfl (m_Split _ (by omega)) .nil cl_56 rfl ?_
    rintro _ _ (⟨e9, rfl, rfl⟩ | ⟨e0, q, cq, rfl, rfl⟩)
    ·
     refine XO.mv rfl rfl ?_
     refine XO.v (V.extract rfl rfl) rfl ?_
     refine XO.v (V.extract rfl rfl) rfl ?_
     refine XO.as rfl rfl ?_
     refine XO.as rfl rfl ?_
     refine XO.nk [(5, _), (17, _), (18, _), (19, _), (20, _), (21, _), (22, _), (23, _), (24, _), (25, _), (26, _), (27, _), (28, _), (29, _), (30, _), (31, _), (32, _)] (Sub.cons rfl (Sub.cons rfl (Sub.cons rfl (Sub.cons rfl (Sub.cons rfl (Sub.cons rfl (Sub.cons rfl (Sub.cons rfl (Sub.cons rfl (S8 rfl rfl rfl rfl rfl rfl rfl rfl)))))))))) ?_
     refine XC.sr ?_
     refine XO.v (V.fieldAddr rfl fo_50_6) rfl ?_
     refine XO.v (V.load rfl (inXM (.there (.there (.there (.there (.there (.there (.there (.there (.there (.there (.there (.there (.there (.there (.there (.there .here))))))))))))))))) (encAct.ld_S _) sc_9) rfl ?_
     refine XO.call rfl (r_NamesOf _ (by omega)) .nil cl_57 rfl ?_
     rintro _ _ (⟨f9, rfl, rfl⟩ | ⟨f0, q2, cq2, rfl, rfl⟩)
     ·
      refine XO.mv rfl rfl ?_
      refine XO.v (V.extract rfl rfl) rfl ?_
      refine XO.v (V.extract rfl rfl) rfl ?_
      refine XO.as rfl rfl ?_
      refine XO.as rfl rfl ?_
      refine XO.nk [(17, _), (18, _), (19, _), (20, _), (21, _), (22, _), (23, _), (24, _), (25, _), (26, _), (27, _), (28, _), (29, _), (30, _), (31, _), (32, _), (33, _), (34, _)] (Sub.cons rfl (Sub.cons rfl (Sub.cons rfl (Sub.cons rfl (Sub.cons rfl (Sub.cons rfl (Sub.cons rfl (Sub.cons rfl (Sub.cons rfl (Sub.cons rfl (S8 rfl rfl rfl rfl rfl rfl rfl rfl))))))))))) ?_
      refine XC.sr ?_
      refine XO.v (V.loadAgg rfl (inXM (.there (.there (.there (.there (.there (.there (.there (.there (.there (.there (.there (.there (.there (.there (.there .here)))))))))))))))) (encW.agg _) ag_56 sz_56_2) rfl ?_
      refine XO.v (V.loadAgg rfl (inXM (.there (.there (.there (.there (.there (.there (.there (.there (.there (.there (.there (.there (.there (.there .here))))))))))))))) (encW.agg _) ag_56 sz_56_2) rfl ?_
      refine XO.v (V.eqW rfl rfl whEq) rfl ?_
      refine XO.mv rfl rfl ?_
      refine XO.splitT (d := 193) rfl (rfl) ?_
      refine XO.guardRun rfl rfl rfl ?_
      refine XO.v (V.loadAgg rfl (inXM (.there (.there (.there (.there (.there (.there (.there (.there (.there (.there (.there (.there (.there .here)))))))))))))) (encW.agg _) ag_56 sz_56_2) rfl ?_
      refine XO.guardRun rfl rfl rfl ?_
      refine XO.v (V.loadAgg rfl (inXM (.t12 .here)) (encW.agg _) ag_56 sz_56_2) rfl ?_
      refine XO.guardRun rfl rfl rfl ?_
      refine XO.v (V.eqW rfl rfl whEq) rfl ?_
      refine XO.v (V.pick rfl rfl rfl rfl) rfl ?_
      refine XO.mv rfl rfl ?_
      refine XO.splitT (d := 198) rfl (rfl) ?_
      refine XO.guardRun rfl rfl rfl ?_
      refine XO.mv rfl rfl ?_
      refine XO.guardRun rfl rfl rfl ?_
      refine XO.mv rfl rfl ?_
      refine XO.guardRun rfl rfl rfl ?_
      refine XO.v (V.strCmp rfl rfl rfl) rfl ?_
      refine XO.v (V.pick rfl rfl rfl rfl) rfl ?_
      refine XO.mv rfl rfl ?_
      refine XO.splitT (d := 203) rfl (rfl) ?_
      refine XO.guardRun rfl rfl rfl ?_
      refine XO.v (V.loadAgg rfl (inXM (.t6 .here)) (encW.agg _) ag_56 sz_56_2) rfl ?_
      refine XO.guardRun rfl rfl rfl ?_
      refine XO.v (V.loadAgg rfl (inXM .here) (encW.agg _) ag_56 sz_56_2) rfl ?_
      refine XO.guardRun rfl rfl rfl ?_
      refine XO.v (V.eqW rfl rfl whEq) rfl ?_
      refine XO.v (V.pick rfl rfl rfl rfl) rfl ?_
      refine XO.mv rfl rfl ?_
      refine XO.splitT (d := 208) rfl (rfl) ?_
      refine XO.guardRun rfl rfl rfl ?_
      refine XO.mv rfl rfl ?_
      refine XO.guardRun rfl rfl rfl ?_
      refine XO.mv rfl rfl ?_
      refine XO.guardRun rfl rfl rfl ?_
      refine XO.call rfl (same_texts_nil) .nil cl_58 rfl ?_
      rintro _ _ ⟨rfl, rfl⟩
      refine XO.v (V.pick rfl rfl rfl rfl) rfl ?_
      refine XO.mv rfl rfl ?_
      refine XO.guardRun rfl rfl rfl ?_
      refine XO.mv rfl rfl ?_
      refine XO.guardRun rfl rfl rfl ?_
      refine XO.mv rfl rfl ?_
      refine XO.guardRun rfl rfl rfl ?_
      refine XO.call rfl (same_any _ _ (by first | omega | exact walkE_nn _ _ _ _)) .nil cl_9 rfl ?_
      rintro _ _ ⟨rfl, rfl⟩
      refine XO.v (V.pick rfl rfl rfl rfl) rfl ?_
      refine XO.mv rfl rfl ?_
      refine XO.splitT (d := 218) rfl (rfl) ?_
      refine XO.guardRun rfl rfl rfl ?_
      refine XO.mv rfl rfl ?_
      refine XO.guardRun rfl rfl rfl ?_
      refine XO.mv rfl rfl ?_
      refine XO.guardRun rfl rfl rfl ?_
      refine XO.call rfl (same_any _ _ (by first | omega | exact lastE_nn _ _ _ _)) .nil cl_9 rfl ?_
      rintro _ _ ⟨rfl, rfl⟩
      refine XO.v (V.pick rfl rfl rfl rfl) rfl ?_
      refine XO.mv rfl rfl ?_
      refine XO.splitT (d := 223) rfl (rfl) ?_
      refine XO.guardRun rfl rfl rfl ?_
      refine XO.mv rfl rfl ?_
      refine XO.guardRun rfl rfl rfl ?_
      refine XO.mv rfl rfl ?_
      refine XO.guardRun rfl rfl rfl ?_
      refine XO.call rfl (same_any _ _ (by first | omega | exact rawE_nn _ _ _ _)) .nil cl_9 rfl ?_
      rintro _ _ ⟨rfl, rfl⟩
      refine XO.v (V.pick rfl rfl rfl rfl) rfl ?_
      refine XO.mv rfl rfl ?_
      refine XO.splitT (d := 228) rfl (rfl) ?_
      refine XO.guardRun rfl rfl rfl ?_
      refine XO.mv rfl rfl ?_
      refine XO.guardRun rfl rfl rfl ?_
      refine XO.mv rfl rfl ?_
      refine XO.guardRun rfl rfl rfl ?_
      refine XO.call rfl (same_err 9 9 (by omega)) .nil cl_9 rfl ?_
      rintro _ _ ⟨rfl, rfl⟩
      refine XO.v (V.pick rfl rfl rfl rfl) rfl ?_
      refine XO.as rfl rfl ?_
      refine XO.nk [(6, _)] (S1 rfl) ?_
      refine XC.ret ?_
      refine XE.ret1 rfl rfl (post_of (.cons (.t7 .here) (.cons (.t7 .here) (.cons (.t7 .here) (.cons (.t7 .here) (.cons (.t7 .here) (.cons (.t12 .here) (.cons (.there .here) (.cons (.there .here) (.cons (.there .here) (.cons (.there .here) (.cons (.there .here) (.cons (.t7 .here) .nil)))))))))))) rfl ?_)
      exact ⟨rfl, ⟨r, l, p, cap, k, c, C⟩, ⟨r, [], p', cap', k', c', C'⟩, s, m, ⟨hv, hC, hm6⟩, hv', hC', hU, hst.ge (by omega), rfl⟩
     ·
      exact absurd (e9.symm.trans f0) (by decide)
    ·
     refine XO.mv rfl rfl ?_
     refine XO.v (V.extract rfl rfl) rfl ?_
     refine XO.v (V.extract rfl rfl) rfl ?_
     refine XO.as rfl rfl ?_
     refine XO.as rfl rfl ?_
     refine XO.nk [(5, _), (17, _), (18, _), (19, _), (20, _), (21, _), (22, _), (23, _), (24, _), (25, _), (26, _), (27, _), (28, _), (29, _), (30, _), (31, _), (32, _)] (Sub.cons rfl (Sub.cons rfl (Sub.cons rfl (Sub.cons rfl (Sub.cons rfl (Sub.cons rfl (Sub.cons rfl (Sub.cons rfl (Sub.cons rfl (S8 rfl rfl rfl rfl rfl rfl rfl rfl)))))))))) ?_
     refine XC.sr ?_
     refine XO.v (V.fieldAddr rfl fo_50_6) rfl ?_
     refine XO.v (V.load rfl (inXM (.there (.there (.there (.there (.there (.there (.there (.there (.there (.there (.there (.there (.there (.there (.there (.there (.there .here)))))))))))))))))) (encAct.ld_S _) sc_9) rfl ?_
     refine XO.call rfl (r_NamesOf _ (by omega)) .nil cl_57 rfl ?_
     rintro _ _ (⟨f9, rfl, rfl⟩ | ⟨f0, q2, cq2, rfl, rfl⟩)
     ·
      exact absurd (f9.symm.trans e0) (by decide)
     ·
      refine XO.mv rfl rfl ?_
      refine XO.v (V.extract rfl rfl) rfl ?_
      refine XO.v (V.extract rfl rfl) rfl ?_
      refine XO.as rfl rfl ?_
      refine XO.as rfl rfl ?_
      refine XO.nk [(17, _), (18, _), (19, _), (20, _), (21, _), (22, _), (23, _), (24, _), (25, _), (26, _), (27, _), (28, _), (29, _), (30, _), (31, _), (32, _), (33, _), (34, _)] (Sub.cons rfl (Sub.cons rfl (Sub.cons rfl (Sub.cons rfl (Sub.cons rfl (Sub.cons rfl (Sub.cons rfl (Sub.cons rfl (Sub.cons rfl (Sub.cons rfl (S8 rfl rfl rfl rfl rfl rfl rfl rfl))))))))))) ?_
      refine XC.sr ?_
      refine XO.v (V.loadAgg rfl (inXM (.there (.there (.there (.there (.there (.there (.there (.there (.there (.there (.there (.there (.there (.there (.there (.there (.there .here)))))))))))))))))) (encW.agg _) ag_56 sz_56_2) rfl ?_
      refine XO.v (V.loadAgg rfl (inXM (.there (.there (.there (.there (.there (.there (.there (.there (.there (.there (.there (.there (.there (.there (.there (.there .here))))))))))))))))) (encW.agg _) ag_56 sz_56_2) rfl ?_
      refine XO.v (V.eqW rfl rfl whEq) rfl ?_
      refine XO.mv rfl rfl ?_
      refine XO.splitT (d := 193) rfl (rfl) ?_
      refine XO.guardRun rfl rfl rfl ?_
      refine XO.v (V.loadAgg rfl (inXM (.there (.there (.there (.there (.there (.there (.there (.there (.there (.there (.there (.there (.there (.there (.there .here)))))))))))))))) (encW.agg _) ag_56 sz_56_2) rfl ?_
      refine XO.guardRun rfl rfl rfl ?_
      refine XO.v (V.loadAgg rfl (inXM (.there (.there (.there (.there (.there (.there (.there (.there (.there (.there (.there (.there (.there (.there .here))))))))))))))) (encW.agg _) ag_56 sz_56_2) rfl ?_
      refine XO.guardRun rfl rfl rfl ?_
      refine XO.v (V.eqW rfl rfl whEq) rfl ?_
      refine XO.v (V.pick rfl rfl rfl rfl) rfl ?_
      refine XO.mv rfl rfl ?_
      refine XO.splitT (d := 198) rfl (rfl) ?_
      refine XO.guardRun rfl rfl rfl ?_
      refine XO.mv rfl rfl ?_
      refine XO.guardRun rfl rfl rfl ?_
      refine XO.mv rfl rfl ?_
      refine XO.guardRun rfl rfl rfl ?_
      refine XO.v (V.strCmp rfl rfl rfl) rfl ?_
      refine XO.v (V.pick rfl rfl rfl rfl) rfl ?_
      refine XO.mv rfl rfl ?_
      refine XO.splitT (d := 203) rfl (rfl) ?_
      refine XO.guardRun rfl rfl rfl ?_
      refine XO.v (V.loadAgg rfl (inXM (.t8 .here)) (encW.agg _) ag_56 sz_56_2) rfl ?_
      refine XO.guardRun rfl rfl rfl ?_
      refine XO.v (V.loadAgg rfl (inXM (.t2 .here)) (encW.agg _) ag_56 sz_56_2) rfl ?_
      refine XO.guardRun rfl rfl rfl ?_
      refine XO.v (V.eqW rfl rfl whEq) rfl ?_
      refine XO.v (V.pick rfl rfl rfl rfl) rfl ?_
      refine XO.mv rfl rfl ?_
      refine XO.splitT (d := 208) rfl (rfl) ?_
      refine XO.guardRun rfl rfl rfl ?_
      refine XO.mv rfl rfl ?_
      refine XO.guardRun rfl rfl rfl ?_
      refine XO.mv rfl rfl ?_
      refine XO.guardRun rfl rfl rfl ?_
      refine XO.call rfl (same_texts2 _ _ _ _ _ _ rfl (by have := splitV_len a.s; omega)) (.cons (.there .here) .h1) cl_58 rfl ?_
      rintro _ _ ⟨rfl, rfl⟩
      refine XO.v (V.pick rfl rfl rfl rfl) rfl ?_
      refine XO.mv rfl rfl ?_
      refine XO.guardRun rfl rfl rfl ?_
      refine XO.mv rfl rfl ?_
      refine XO.guardRun rfl rfl rfl ?_
      refine XO.mv rfl rfl ?_
      refine XO.guardRun rfl rfl rfl ?_
      refine XO.call rfl (same_any _ _ (by first | omega | exact walkE_nn _ _ _ _)) .nil cl_9 rfl ?_
      rintro _ _ ⟨rfl, rfl⟩
      refine XO.v (V.pick rfl rfl rfl rfl) rfl ?_
      refine XO.mv rfl rfl ?_
      refine XO.splitT (d := 218) rfl (rfl) ?_
      refine XO.guardRun rfl rfl rfl ?_
      refine XO.mv rfl rfl ?_
      refine XO.guardRun rfl rfl rfl ?_
      refine XO.mv rfl rfl ?_
      refine XO.guardRun rfl rfl rfl ?_
      refine XO.call rfl (same_any _ _ (by first | omega | exact lastE_nn _ _ _ _)) .nil cl_9 rfl ?_
      rintro _ _ ⟨rfl, rfl⟩
      refine XO.v (V.pick rfl rfl rfl rfl) rfl ?_
      refine XO.mv rfl rfl ?_
      refine XO.splitT (d := 223) rfl (rfl) ?_
      refine XO.guardRun rfl rfl rfl ?_
      refine XO.mv rfl rfl ?_
      refine XO.guardRun rfl rfl rfl ?_
      refine XO.mv rfl rfl ?_
      refine XO.guardRun rfl rfl rfl ?_
      refine XO.call rfl (same_any _ _ (by first | omega | exact rawE_nn _ _ _ _)) .nil cl_9 rfl ?_
      rintro _ _ ⟨rfl, rfl⟩
      refine XO.v (V.pick rfl rfl rfl rfl) rfl ?_
      refine XO.mv rfl rfl ?_
      refine XO.splitT (d := 228) rfl (rfl) ?_
      refine XO.guardRun rfl rfl rfl ?_
      refine XO.mv rfl rfl ?_
      refine XO.guardRun rfl rfl rfl ?_
      refine XO.mv rfl rfl ?_
      refine XO.guardRun rfl rfl rfl ?_
      refine XO.call rfl (same_nil 0) .nil cl_9 rfl ?_
      rintro _ _ ⟨rfl, rfl⟩
      refine XO.v (V.pick rfl rfl rfl rfl) rfl ?_
      refine XO.as rfl rfl ?_
      refine XO.nk [(6, _)] (S1 rfl) ?_
      refine XC.ret ?_
      refine XE.ret1 rfl rfl (post_of (.cons (.t9 .here) (.cons (.t9 .here) (.cons (.t9 .here) (.cons (.t9 .here) (.cons (.t9 .here) (.cons (.there (.there (.there (.there (.there (.there (.there (.there (.there (.there (.there (.there (.there (.there .here)))))))))))))) (.cons (.t3 .here) (.cons (.t3 .here) (.cons (.t3 .here) (.cons (.t3 .here) (.cons (.t3 .here) (.cons (.t9 .here) .nil)))))))))))) rfl ?_)
      exact ⟨rfl, ⟨r, l, p, cap, k, c, C⟩, ⟨r, [], p', cap', k', c', C'⟩, s, m, ⟨hv, hC, hm6⟩, hv', hC', hU, hst.ge (by omega), rfl⟩
end Go.X
