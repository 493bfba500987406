import Derived.Test.YtmklfkjfgjagaaaGreatXShort
import Derived.Test.YtmklfkjfgjagaaaGreatZOR
namespace Go.X
open Go Go.Proofs
theorem cl_10 : callable Tryz.prog 10 = true := by kernel_rfl
theorem cl_16 : callable Tryz.prog 16 = true := by kernel_rfl
theorem cl_20 : callable Tryz.prog 20 = true := by kernel_rfl
theorem cl_23 : callable Tryz.prog 23 = true := by kernel_rfl
theorem cl_24 : callable Tryz.prog 24 = true := by kernel_rfl
theorem cl_45 : callable Tryz.prog 45 = true := by kernel_rfl
theorem cl_46 : callable Tryz.prog 46 = true := by kernel_rfl
theorem cl_47 : callable Tryz.prog 47 = true := by kernel_rfl
theorem cl_48 : callable Tryz.prog 48 = true := by kernel_rfl
theorem cl_49 : callable Tryz.prog 49 = true := by kernel_rfl
theorem cl_50 : callable Tryz.prog 50 = true := by kernel_rfl
theorem cl_51 : callable Tryz.prog 51 = true := by kernel_rfl
theorem cl_52 : callable Tryz.prog 52 = true := by kernel_rfl
theorem cl_53 : callable Tryz.prog 53 = true := by kernel_rfl
theorem cl_54 : callable Tryz.prog 54 = true := by kernel_rfl
theorem cl_55 : callable Tryz.prog 55 = true := by kernel_rfl
theorem cl_56 : callable Tryz.prog 56 = true := by kernel_rfl
theorem cl_7 : callable Tryz.prog 7 = true := by kernel_rfl
theorem fo_63_5 : fieldOff Tryz.prog 63 5 = some 5 := by kernel_rfl
theorem boxP_init : ∀ i, i < 24 → cellsOf (Value.agg #[.string ⟨#[]⟩, .int .i64 0, .int .i64 0, .string ⟨#[]⟩, .int .i64 0, .int .i64 0, .string ⟨#[]⟩, .int .i64 0, .int .i64 0, .string ⟨#[]⟩, .int .i64 0, .int .i64 0, .string ⟨#[]⟩, .int .i64 0, .int .i64 0, .string ⟨#[]⟩, .int .i64 0, .int .i64 0, .string ⟨#[]⟩, .int .i64 0, .int .i64 0, .string ⟨#[]⟩, .int .i64 0, .int .i64 0]).cells i = encP PS.init i := fun i hi => match i, hi with
  | 0, _ => rfl
  | 1, _ => rfl
  | 2, _ => rfl
  | 3, _ => rfl
  | 4, _ => rfl
  | 5, _ => rfl
  | 6, _ => rfl
  | 7, _ => rfl
  | 8, _ => rfl
  | 9, _ => rfl
  | 10, _ => rfl
  | 11, _ => rfl
  | 12, _ => rfl
  | 13, _ => rfl
  | 14, _ => rfl
  | 15, _ => rfl
  | 16, _ => rfl
  | 17, _ => rfl
  | 18, _ => rfl
  | 19, _ => rfl
  | 20, _ => rfl
  | 21, _ => rfl
  | 22, _ => rfl
  | 23, _ => rfl
  | k + 24, h => absurd h (by omega)
theorem boxR_init : ∀ i, i < 24 → cellsOf (Value.agg #[.string ⟨#[]⟩, .string ⟨#[]⟩, .string ⟨#[]⟩, .string ⟨#[]⟩, .string ⟨#[]⟩, .string ⟨#[]⟩, .string ⟨#[]⟩, .string ⟨#[]⟩, .int .i64 0, .int .i64 0, .int .i64 0, .int .i64 0, .int .i64 0, .int .i64 0, .int .i64 0, .int .i64 0, .int .i64 0, .int .i64 0, .int .i64 0, .int .i64 0, .int .i64 0, .int .i64 0, .int .i64 0, .int .i64 0]).cells i = encR PS.init i := fun i hi => match i, hi with
  | 0, _ => rfl
  | 1, _ => rfl
  | 2, _ => rfl
  | 3, _ => rfl
  | 4, _ => rfl
  | 5, _ => rfl
  | 6, _ => rfl
  | 7, _ => rfl
  | 8, _ => rfl
  | 9, _ => rfl
  | 10, _ => rfl
  | 11, _ => rfl
  | 12, _ => rfl
  | 13, _ => rfl
  | 14, _ => rfl
  | 15, _ => rfl
  | 16, _ => rfl
  | 17, _ => rfl
  | 18, _ => rfl
  | 19, _ => rfl
  | 20, _ => rfl
  | 21, _ => rfl
  | 22, _ => rfl
  | 23, _ => rfl
  | k + 24, h => absurd h (by omega)

def arrQ (bm bx : Nat) : Array Value := ((List.range 122).map (encQ bm bx OS.void)).toArray
theorem arrQ_size (bm bx : Nat) : (arrQ bm bx).size = 122 := by simp [arrQ]
theorem arrQ_box (bm bx : Nat) : ∀ i, i < 122 → cellsOf (arrQ bm bx) i = encQ bm bx OS.void i := fun i hi => by simp [cellsOf, arrQ, hi]
set_option maxRecDepth 10000 in
set_option maxHeartbeats 4000000 in
theorem opened_any (bs bm bo bp bq bx : Nat) (s m : FC) (hU : m.toFF = s.toFF) (O : OS) (q : PS) (a : ActV) (ha : a.s.size ≤ 60 ∧ a.t.size ≤ 60) (d : Int → Nat) (B : Int) (hO : s.toFF.Ok d B) (hB : B ≤ 900) (J : Int) (hJ : J ≤ 1000000) (hJ1 : 1 ≤ J) (hOI : O.Inv J) (K : Int) (hK : K ≤ 1000000) (hK0 : 0 ≤ K) (hq : q.Inv K) : Spec Tryz.prog 12 [ptr bo 0 0, ptr bq 0 0, .agg #[.string a.kind, .int .i64 a.a, .int .i64 a.b, .int .i64 a.c, .int .u64 a.key, .bool a.on, .string a.s, .string a.t]]
    [.cells bs 0 321 (encF s), .fam fam40 (FC.rowsN 9 s), .fam fam40 (FC.rowsK 3 s), irow (FC.rP s) (FC.rC s) 3 (FC.toFF s).roots, .cells bm 0 321 (encM m), .fam fam40 (FC.rowsN 9 m), .fam fam40 (FC.rowsK 3 m), irow (FC.rP m) (FC.rC m) 3 (FC.toFF m).roots, .cells bo 0 122 (encO bs bp O), .cells bp 0 24 (encP q), .cells bq 0 122 (encQ bm bx O), .cells bx 0 24 (encR q)]
    (fun v H1 => v = .bool true ∧ ∃ (t u : FC) (O2 : OS) (q2 : PS), u.toFF = t.toFF ∧ t.toFF.Ok d (B + 1) ∧ O2.Inv (J + 1) ∧ q2.Inv (K + 1) ∧ H1 = [.cells bs 0 321 (encF t), .fam fam40 (FC.rowsN 9 t), .fam fam40 (FC.rowsK 3 t), irow (FC.rP t) (FC.rC t) 3 (FC.toFF t).roots, .cells bm 0 321 (encM u), .fam fam40 (FC.rowsN 9 u), .fam fam40 (FC.rowsK 3 u), irow (FC.rP u) (FC.rC u) 3 (FC.toFF u).roots, .cells bo 0 122 (encO bs bp O2), .cells bp 0 24 (encP q2), .cells bq 0 122 (encQ bm bx O2), .cells bx 0 24 (encR q2)]) := by
 have hS := hO.sh (by omega)
 have hSm : m.toFF.Sh := by rw [hU]; exact hS
 have hL : ∀ z, m.toFF.isE z 0 = 0 → 0 ≤ m.toFF.links z := fun z => by rw [hU]; exact fun w => FF.Ok.links0 hO.inv w
 refine Spec.intro Tryz.func12 rfl rfl ?_
 intro W
 refine XC.sr ?_
 refine XO.box (m := 8) (C := encAct a) rfl rfl (act_box a) rfl ?_
 intro ba
 refine XO.as rfl rfl ?_
 refine XO.nk [(0, _), (1, _), (5, _)] (S3 rfl rfl rfl) ?_
 refine XC.seq ?_
 refine XC.sr ?_
 refine XO.v (V.fieldAddr rfl fo_63_0) rfl ?_
 refine XO.v (V.load rfl (inXM .here) (encAct.ld_Kind _) sc_9) rfl ?_
 refine XO.nk [(0, _), (1, _), (5, _), (26, _)] (S4 rfl rfl rfl rfl) ?_
 refine XC.block ?_
 refine XC.sr ?_
 refine XO.v (V.strCmp rfl rfl rfl) rfl ?_
 refine XO.as rfl rfl ?_
 refine XO.nk [(0, _), (1, _), (5, _), (26, _), (27, _)] (S5 rfl rfl rfl rfl rfl) ?_
 refine XC.condP rfl (fun h1 => ?_) (fun h1 => ?_)
 ·
  refine XC.sr ?_
  refine XO.mv rfl rfl ?_
  refine XO.v (V.fieldAddr rfl fo_63_1) rfl ?_
  refine XO.v (V.load rfl (inXM .here) (encAct.ld_A _) sc_3) rfl ?_
  refine XO.v (V.fieldAddr rfl fo_63_5) rfl ?_
  refine XO.v (V.load rfl (inXM .here) (encAct.ld_On _) sc_4) rfl ?_
  refine XO.call rfl (f_Node _ _ _ _ O s hS _ _) (.cons (.t9 .here) (.cons (.there .here) (.cons (.there .here) (.cons (.there .here) .nil)))) cl_23 rfl ?_
  rintro _ _ ⟨rfl, t, ht, tp, tc, rfl⟩
  refine XO.mv rfl rfl ?_
  refine XO.v (V.extract rfl rfl) rfl ?_
  refine XO.v (V.extract rfl rfl) rfl ?_
  refine XO.as rfl rfl ?_
  refine XO.as rfl rfl ?_
  refine XO.nk [(1, _), (5, _), (7, _), (8, _)] (S4 rfl rfl rfl rfl) ?_
  refine XC.sr ?_
  refine XO.mv rfl rfl ?_
  refine XO.v (V.fieldAddr rfl fo_63_1) rfl ?_
  refine XO.v (V.load rfl (inXM (.t4 .here)) (encAct.ld_A _) sc_3) rfl ?_
  refine XO.v (V.fieldAddr rfl fo_63_5) rfl ?_
  refine XO.v (V.load rfl (inXM (.t4 .here)) (encAct.ld_On _) sc_4) rfl ?_
  refine XO.call rfl (fr_Node _ _ _ _ O J hJ hOI m hSm _ _) (.cons (.t11 .here) (.cons (.t6 .here) (.cons (.t6 .here) (.cons (.t6 .here) .nil)))) cl_45 rfl ?_
  rintro _ _ ⟨rfl, u, hu, up, uc, rfl⟩
  refine XO.mv rfl rfl ?_
  refine XO.v (V.extract rfl rfl) rfl ?_
  refine XO.v (V.extract rfl rfl) rfl ?_
  refine XO.as rfl rfl ?_
  refine XO.as rfl rfl ?_
  refine XO.nk [(7, _), (8, _), (9, _), (10, _)] (S4 rfl rfl rfl rfl) ?_
  refine XC.sr ?_
  refine XO.mv rfl rfl ?_
  refine XO.mv rfl rfl ?_
  refine XO.v (V.cmp rfl rfl rfl) rfl ?_
  refine XO.mv rfl rfl ?_
  refine XO.splitT (d := 50) rfl (by rw [hU]) ?_
  refine XO.guardRun rfl rfl rfl ?_
  refine XO.mv rfl rfl ?_
  refine XO.guardRun rfl rfl rfl ?_
  refine XO.mv rfl rfl ?_
  refine XO.guardRun rfl rfl rfl ?_
  refine XO.call rfl (same_any _ _ (by first | omega | exact onodeE_nn _ _ _)) .nil cl_15 rfl ?_
  rintro _ _ ⟨rfl, rfl⟩
  refine XO.v (V.pick rfl rfl rfl rfl) rfl ?_
  refine XO.as rfl rfl ?_
  refine XO.nk [(6, _)] (S1 rfl) ?_
  refine XC.ret ?_
  refine XE.blockRet ?_
  refine XE.thenRet ?_
  refine XE.ret1 rfl rfl (post_of (.cons (.t5 .here) (.cons (.t5 .here) (.cons (.t5 .here) (.cons (.t6 .here) (.cons (.there .here) (.cons (.there .here) (.cons (.there .here) (.cons (.t3 .here) (.cons (.there .here) (.cons (.t2 .here) (.cons .here (.cons (.there .here) .nil)))))))))))) rfl ?_)
  exact ⟨congrArg Value.bool (decide_eq_true (by first | rfl | rw [hU])), t, u, onodeO s.toFF O a.a a.on, q, by rw [hu, ht, hU], by rw [ht]; exact onodeF_ok hO O a.a, hOI.node hJ1 s.toFF a.a a.on, (hq.mono (by omega)), by rw [tp, tc, up, uc, show (FC.toFF t).roots = s.roots from by rw [ht]; exact onodeF_roots _ _ _, show (FC.toFF u).roots = m.roots from by rw [hu]; exact onodeF_roots _ _ _, hU]⟩
 ·
  refine XC.sr ?_
  refine XO.v (V.strCmp rfl rfl rfl) rfl ?_
  refine XO.as rfl rfl ?_
  refine XO.nk [(0, _), (1, _), (5, _), (26, _), (55, _)] (S5 rfl rfl rfl rfl rfl) ?_
  refine XC.condP rfl (fun h3 => ?_) (fun h3 => ?_)
  ·
   refine XC.sr ?_
   refine XO.mv rfl rfl ?_
   refine XO.call rfl (f_Pipe _ _ _ _ O K hK q hq) (.cons (.t9 .here) (.cons (.t9 .here) .nil)) cl_46 rfl ?_
   rintro _ _ ⟨rfl, rfl⟩
   refine XO.mv rfl rfl ?_
   refine XO.v (V.extract rfl rfl) rfl ?_
   refine XO.v (V.extract rfl rfl) rfl ?_
   refine XO.v (V.extract rfl rfl) rfl ?_
   refine XO.as rfl rfl ?_
   refine XO.as rfl rfl ?_
   refine XO.as rfl rfl ?_
   refine XO.nk [(1, _), (11, _), (12, _), (13, _)] (S4 rfl rfl rfl rfl) ?_
   refine XC.sr ?_
   refine XO.mv rfl rfl ?_
   refine XO.call rfl (fr_Pipe _ _ _ _ O J hJ hOI hJ1 K hK q hq) (.cons (.t11 .here) (.cons (.t11 .here) .nil)) cl_47 rfl ?_
   rintro _ _ ⟨rfl, rfl⟩
   refine XO.mv rfl rfl ?_
   refine XO.v (V.extract rfl rfl) rfl ?_
   refine XO.v (V.extract rfl rfl) rfl ?_
   refine XO.v (V.extract rfl rfl) rfl ?_
   refine XO.as rfl rfl ?_
   refine XO.as rfl rfl ?_
   refine XO.as rfl rfl ?_
   refine XO.nk [(11, _), (12, _), (13, _), (14, _), (15, _), (16, _)] (S6 rfl rfl rfl rfl rfl rfl) ?_
   refine XC.sr ?_
   refine XO.mv rfl rfl ?_
   refine XO.mv rfl rfl ?_
   refine XO.v (V.cmp rfl rfl rfl) rfl ?_
   refine XO.mv rfl rfl ?_
   refine XO.splitT (d := 72) rfl (rfl) ?_
   refine XO.guardRun rfl rfl rfl ?_
   refine XO.mv rfl rfl ?_
   refine XO.guardRun rfl rfl rfl ?_
   refine XO.mv rfl rfl ?_
   refine XO.guardRun rfl rfl rfl ?_
   refine XO.v (V.cmp rfl rfl rfl) rfl ?_
   refine XO.v (V.pick rfl rfl rfl rfl) rfl ?_
   refine XO.mv rfl rfl ?_
   refine XO.splitT (d := 77) rfl (rfl) ?_
   refine XO.guardRun rfl rfl rfl ?_
   refine XO.mv rfl rfl ?_
   refine XO.guardRun rfl rfl rfl ?_
   refine XO.mv rfl rfl ?_
   refine XO.guardRun rfl rfl rfl ?_
   refine XO.call rfl (same_any _ _ (by first | omega | exact opipeE_nn _ _)) .nil cl_15 rfl ?_
   rintro _ _ ⟨rfl, rfl⟩
   refine XO.v (V.pick rfl rfl rfl rfl) rfl ?_
   refine XO.as rfl rfl ?_
   refine XO.nk [(6, _)] (S1 rfl) ?_
   refine XC.ret ?_
   refine XE.blockRet ?_
   refine XE.thenRet ?_
   refine XE.ret1 rfl rfl (post_of (.cons (.t5 .here) (.cons (.t5 .here) (.cons (.t5 .here) (.cons (.t5 .here) (.cons (.t5 .here) (.cons (.t5 .here) (.cons (.t5 .here) (.cons (.t5 .here) (.cons (.t2 .here) (.cons (.t2 .here) .h2)))))))))) rfl ?_)
   exact ⟨congrArg Value.bool (decide_eq_true (by first | rfl | rw [hU])), s, m, opipeO q O, opipeP q O, hU, hO.up1, hOI.pipe hJ1 q, opipeP_inv hq hK0 O, by first | rfl | rw [hU]⟩
  ·
   refine XC.sr ?_
   refine XO.v (V.strCmp rfl rfl rfl) rfl ?_
   refine XO.as rfl rfl ?_
   refine XO.nk [(0, _), (1, _), (5, _), (26, _), (82, _)] (S5 rfl rfl rfl rfl rfl) ?_
   refine XC.condP rfl (fun h6 => ?_) (fun h6 => ?_)
   ·
    refine XC.seq ?_
    refine XC.regionQ mixed (f := 10) (l := #[false, false, false, false, false, false, false, false, false, false]) rfl rfl XM.drawn' ?_
    refine XQ.pv (i := 0) (l' := #[tt,ff,ff,ff,ff,ff,ff,ff,ff,ff]) rfl (by kernel_rfl) rfl (V.move rfl) rfl rfl ?_
    refine XQ.pv (i := 1) (l' := #[tt,tt,ff,ff,ff,ff,ff,ff,ff,ff]) rfl (by kernel_rfl) rfl (V.fieldAddr rfl fo_63_1) rfl rfl ?_
    refine XQ.load (i := 2) (l' := #[tt,tt,tt,ff,ff,ff,ff,ff,ff,ff]) (.cells _ _ _ _) [3, 7, 8] rfl (by kernel_rfl) rfl .here (V.load rfl inEnt (encAct.ld_A _) sc_3) rfl (by kernel_rfl) rfl ?_
    refine XQ.pv (i := 4) (l' := #[tt,tt,tt,ff,tt,ff,ff,ff,ff,ff]) rfl (by kernel_rfl) rfl (V.move rfl) rfl rfl ?_
    refine XQ.pv (i := 5) (l' := #[tt,tt,tt,ff,tt,tt,ff,ff,ff,ff]) rfl (by kernel_rfl) rfl (V.fieldAddr rfl fo_63_1) rfl rfl ?_
    refine XQ.load (i := 6) (l' := #[tt,tt,tt,ff,tt,tt,tt,ff,ff,ff]) (.cells _ _ _ _) [7, 8] rfl (by kernel_rfl) rfl .here (V.load rfl inEnt (encAct.ld_A _) sc_3) rfl (by kernel_rfl) rfl ?_
    refine XQ.call (i := 3) (l' := #[tt,tt,tt,tt,tt,tt,tt,ff,ff,ff]) rfl (by kernel_rfl) rfl rfl (f_Share _ _ _ _ O J hJ hOI _) (.cons (.t9 .here) .nil) cl_48 rfl (by rintro _ _ ⟨rfl, rfl⟩; all_goals (intro _ hw'; exact ⟨fun _ => inXM (.there .here) _ hw', fun hs => (hs 3 (by first | (simp; done) | (simp; rfl)) rfl).elim, trivial⟩)) ?_
    rintro _ _ ⟨rfl, rfl⟩
    refine XQ.call (i := 7) (l' := #[tt,tt,tt,tt,tt,tt,tt,tt,ff,ff]) rfl (by kernel_rfl) rfl rfl (fr_Share _ _ _ _ O J hJ hOI _) (.cons (.t11 .here) .nil) cl_49 rfl (by rintro _ _ ⟨rfl, rfl⟩; all_goals (intro _ hw'; exact ⟨fun hs => (hs 7 (by first | (simp; done) | (simp; rfl)) rfl).elim, fun hs => (hs 3 (by first | (simp; done) | (simp; rfl)) rfl).elim, trivial⟩)) ?_
    rintro _ _ ⟨rfl, rfl⟩
    refine XQ.call (i := 8) (l' := #[tt,tt,tt,tt,tt,tt,tt,tt,tt,ff]) rfl (by kernel_rfl) rfl rfl (same_any _ _ (by first | omega | exact OS.is_nn _ _)) .nil cl_15 rfl (by rintro _ _ ⟨rfl, rfl⟩; all_goals (intro _ hw'; exact ⟨fun hs => (hs 7 (by first | (simp; done) | (simp; rfl)) rfl).elim, fun hs => (hs 3 (by first | (simp; done) | (simp; rfl)) rfl).elim, trivial⟩)) ?_
    rintro _ _ ⟨rfl, rfl⟩
    refine XQ.pv (i := 9) (l' := #[tt,tt,tt,tt,tt,tt,tt,tt,tt,tt]) rfl (by kernel_rfl) rfl (V.assign rfl) rfl rfl ?_
    refine XQ.done (by kernel_rfl) ?_
    refine XE.next ?_
    refine XC.keep [(6, _)] (S1 rfl) ?_
    refine XC.ret ?_
    refine XE.blockRet ?_
    refine XE.thenRet ?_
    refine XE.ret1 rfl rfl (post_of (.cons (.t3 .here) (.cons (.t3 .here) (.cons (.t3 .here) (.cons (.t3 .here) (.cons (.t3 .here) (.cons (.t3 .here) (.cons (.t3 .here) (.cons (.t3 .here) (.cons (.there .here) (.cons (.t2 .here) (.cons .here (.cons (.there .here) .nil)))))))))))) rfl ?_)
    exact ⟨congrArg Value.bool (decide_eq_true (by first | rfl | rw [hU])), s, m, shareO O a.a, q, hU, hO.up1, hOI.share a.a, (hq.mono (by omega)), by first | rfl | rw [hU]⟩
   ·
    refine XC.sr ?_
    refine XO.v (V.strCmp rfl rfl rfl) rfl ?_
    refine XO.as rfl rfl ?_
    refine XO.nk [(0, _), (1, _), (5, _), (26, _), (93, _)] (S5 rfl rfl rfl rfl rfl) ?_
    refine XC.condP rfl (fun h7 => ?_) (fun h7 => ?_)
    ·
     refine XC.seq ?_
     refine XC.regionQ mixed (f := 10) (l := #[false, false, false, false, false, false, false, false, false, false]) rfl rfl XM.drawn' ?_
     refine XQ.pv (i := 0) (l' := #[tt,ff,ff,ff,ff,ff,ff,ff,ff,ff]) rfl (by kernel_rfl) rfl (V.move rfl) rfl rfl ?_
     refine XQ.pv (i := 1) (l' := #[tt,tt,ff,ff,ff,ff,ff,ff,ff,ff]) rfl (by kernel_rfl) rfl (V.fieldAddr rfl fo_63_1) rfl rfl ?_
     refine XQ.load (i := 2) (l' := #[tt,tt,tt,ff,ff,ff,ff,ff,ff,ff]) (.cells _ _ _ _) [3, 7, 8] rfl (by kernel_rfl) rfl .here (V.load rfl inEnt (encAct.ld_A _) sc_3) rfl (by kernel_rfl) rfl ?_
     refine XQ.pv (i := 4) (l' := #[tt,tt,tt,ff,tt,ff,ff,ff,ff,ff]) rfl (by kernel_rfl) rfl (V.move rfl) rfl rfl ?_
     refine XQ.pv (i := 5) (l' := #[tt,tt,tt,ff,tt,tt,ff,ff,ff,ff]) rfl (by kernel_rfl) rfl (V.fieldAddr rfl fo_63_1) rfl rfl ?_
     refine XQ.load (i := 6) (l' := #[tt,tt,tt,ff,tt,tt,tt,ff,ff,ff]) (.cells _ _ _ _) [7, 8] rfl (by kernel_rfl) rfl .here (V.load rfl inEnt (encAct.ld_A _) sc_3) rfl (by kernel_rfl) rfl ?_
     refine XQ.call (i := 3) (l' := #[tt,tt,tt,tt,tt,tt,tt,ff,ff,ff]) rfl (by kernel_rfl) rfl rfl (f_Close _ _ _ _ O J hJ hOI s hS K hK q hq _) (.cons (.t9 .here) (.cons (.there .here) (.cons (.there .here) (.cons (.there .here) (.cons (.t6 .here) .nil))))) cl_50 rfl (by rintro _ _ ⟨rfl, t, ht, tp, tc, rfl⟩; all_goals (intro _ hw'; exact ⟨fun _ => inXM (.t5 .here) _ hw', fun hs => (hs 3 (by first | (simp; done) | (simp; rfl)) rfl).elim, trivial⟩)) ?_
     rintro _ _ ⟨rfl, t, ht, tp, tc, rfl⟩
     refine XQ.call (i := 7) (l' := #[tt,tt,tt,tt,tt,tt,tt,tt,ff,ff]) rfl (by kernel_rfl) rfl rfl (fr_Close _ _ _ _ O J hJ hOI m hSm K hK q hq hL _) (.cons (.t11 .here) (.cons (.t7 .here) (.cons (.t7 .here) (.cons (.t7 .here) (.cons (.t8 .here) .nil))))) cl_51 rfl (by rintro _ _ ⟨rfl, u, hu, up, uc, rfl⟩; all_goals (intro _ hw'; exact ⟨fun hs => (hs 7 (by first | (simp; done) | (simp; rfl)) rfl).elim, fun hs => (hs 3 (by first | (simp; done) | (simp; rfl)) rfl).elim, trivial⟩)) ?_
     rintro _ _ ⟨rfl, u, hu, up, uc, rfl⟩
     refine XQ.call (i := 8) (l' := #[tt,tt,tt,tt,tt,tt,tt,tt,tt,ff]) rfl (by kernel_rfl) rfl rfl (same_any _ _ (by first | omega | exact closeE_nn _ _ _ _)) .nil cl_15 rfl (by rintro _ _ ⟨rfl, rfl⟩; all_goals (intro _ hw'; exact ⟨fun hs => (hs 7 (by first | (simp; done) | (simp; rfl)) rfl).elim, fun hs => (hs 3 (by first | (simp; done) | (simp; rfl)) rfl).elim, trivial⟩)) ?_
     rintro _ _ ⟨rfl, rfl⟩
     refine XQ.pv (i := 9) (l' := #[tt,tt,tt,tt,tt,tt,tt,tt,tt,tt]) rfl (by kernel_rfl) rfl (V.assign rfl) rfl rfl ?_
     refine XQ.done (by kernel_rfl) ?_
     refine XE.next ?_
     refine XC.keep [(6, _)] (S1 rfl) ?_
     refine XC.ret ?_
     refine XE.blockRet ?_
     refine XE.thenRet ?_
     refine XE.ret1 rfl rfl (post_of (.cons (.t6 .here) (.cons (.t6 .here) (.cons (.t6 .here) (.cons (.t8 .here) (.cons (.there .here) (.cons (.there .here) (.cons (.there .here) (.cons (.t5 .here) (.cons (.t2 .here) (.cons (.t2 .here) .h2)))))))))) rfl ?_)
     exact ⟨congrArg Value.bool (decide_eq_true (by first | rfl | rw [hU])), t, u, closeO O a.a, closeP q O a.a, by rw [hu, ht, hU], by rw [ht]; exact closeF_ok hO O a.a, hOI.close a.a, closeP_inv hq O a.a, by rw [tp, tc, up, uc, show (FC.toFF t).roots = s.roots from by rw [ht]; exact closeF_roots _ _ _, show (FC.toFF u).roots = m.roots from by rw [hu]; exact closeF_roots _ _ _, hU]⟩
    ·
     refine XC.sr ?_
     refine XO.v (V.strCmp rfl rfl rfl) rfl ?_
     refine XO.as rfl rfl ?_
     refine XO.nk [(0, _), (1, _), (5, _), (26, _), (104, _)] (S5 rfl rfl rfl rfl rfl) ?_
     refine XC.condP rfl (fun h8 => ?_) (fun h8 => ?_)
     ·
      refine XC.sr ?_
      refine XO.mv rfl rfl ?_
      refine XO.v (V.fieldAddr rfl fo_63_1) rfl ?_
      refine XO.v (V.load rfl (inXM .here) (encAct.ld_A _) sc_3) rfl ?_
      refine XO.v (V.fieldAddr rfl fo_63_2) rfl ?_
      refine XO.v (V.load rfl (inXM .here) (encAct.ld_B _) sc_3) rfl ?_
      refine XO.call rfl (f_Read _ _ _ _ O J hJ hOI s hS K hK q hq _ _) (.cons (.t9 .here) (.cons (.there .here) (.cons (.there .here) (.cons (.there .here) (.cons (.t6 .here) .nil))))) cl_52 rfl ?_
      rintro _ _ ⟨rfl, rfl⟩
      refine XO.mv rfl rfl ?_
      refine XO.v (V.extract rfl rfl) rfl ?_
      refine XO.v (V.extract rfl rfl) rfl ?_
      refine XO.as rfl rfl ?_
      refine XO.as rfl rfl ?_
      refine XO.nk [(1, _), (5, _), (17, _), (18, _)] (S4 rfl rfl rfl rfl) ?_
      refine XC.sr ?_
      refine XO.mv rfl rfl ?_
      refine XO.v (V.fieldAddr rfl fo_63_1) rfl ?_
      refine XO.v (V.load rfl (inXM (.t5 .here)) (encAct.ld_A _) sc_3) rfl ?_
      refine XO.v (V.fieldAddr rfl fo_63_2) rfl ?_
      refine XO.v (V.load rfl (inXM (.t5 .here)) (encAct.ld_B _) sc_3) rfl ?_
      refine XO.call rfl (fr_Read _ _ _ _ O J hJ hOI m hSm K hK q hq _ _) (.cons (.t11 .here) (.cons (.t7 .here) (.cons (.t7 .here) (.cons (.t7 .here) (.cons (.t8 .here) .nil))))) cl_53 rfl ?_
      rintro _ _ ⟨rfl, rfl⟩
      refine XO.mv rfl rfl ?_
      refine XO.v (V.extract rfl rfl) rfl ?_
      refine XO.v (V.extract rfl rfl) rfl ?_
      refine XO.as rfl rfl ?_
      refine XO.as rfl rfl ?_
      refine XO.nk [(17, _), (18, _), (19, _), (20, _)] (S4 rfl rfl rfl rfl) ?_
      refine XC.sr ?_
      refine XO.mv rfl rfl ?_
      refine XO.mv rfl rfl ?_
      refine XO.v (V.strCmp rfl rfl rfl) rfl ?_
      refine XO.mv rfl rfl ?_
      refine XO.splitT (d := 127) rfl (by rw [hU]) ?_
      refine XO.guardRun rfl rfl rfl ?_
      refine XO.mv rfl rfl ?_
      refine XO.guardRun rfl rfl rfl ?_
      refine XO.mv rfl rfl ?_
      refine XO.guardRun rfl rfl rfl ?_
      refine XO.call rfl (same_any _ _ (by first | omega | exact oreadE_nn _ _ _ _ _)) .nil cl_15 rfl ?_
      rintro _ _ ⟨rfl, rfl⟩
      refine XO.v (V.pick rfl rfl rfl rfl) rfl ?_
      refine XO.as rfl rfl ?_
      refine XO.nk [(6, _)] (S1 rfl) ?_
      refine XC.ret ?_
      refine XE.blockRet ?_
      refine XE.thenRet ?_
      refine XE.ret1 rfl rfl (post_of (.cons (.t6 .here) (.cons (.t6 .here) (.cons (.t6 .here) (.cons (.t8 .here) (.cons (.there .here) (.cons (.there .here) (.cons (.there .here) (.cons (.t5 .here) (.cons (.t2 .here) (.cons (.t2 .here) .h2)))))))))) rfl ?_)
      exact ⟨congrArg Value.bool (decide_eq_true (by first | rfl | rw [hU])), s, m, oreadO s.toFF O a.a a.b, oreadP q O a.a a.b, hU, hO.up1, hOI.read hS a.a a.b, oreadP_inv hq O a.a a.b, by first | rfl | rw [hU]⟩
     ·
      refine XC.sr ?_
      refine XO.v (V.strCmp rfl rfl rfl) rfl ?_
      refine XO.as rfl rfl ?_
      refine XO.nk [(0, _), (1, _), (5, _), (132, _)] (S4 rfl rfl rfl rfl) ?_
      refine XC.condP rfl (fun h10 => ?_) (fun h10 => ?_)
      ·
       refine XC.sr ?_
       refine XO.mv rfl rfl ?_
       refine XO.v (V.fieldAddr rfl fo_63_1) rfl ?_
       refine XO.v (V.load rfl (inXM .here) (encAct.ld_A _) sc_3) rfl ?_
       refine XO.v (V.fieldAddr rfl fo_63_6) rfl ?_
       refine XO.v (V.load rfl (inXM .here) (encAct.ld_S _) sc_9) rfl ?_
       refine XO.call rfl (f_Write _ _ _ _ O J hJ hOI s hS K hK q hq _ _ (by omega)) (.cons (.t9 .here) (.cons (.there .here) (.cons (.there .here) (.cons (.there .here) (.cons (.t6 .here) .nil))))) cl_24 rfl ?_
       rintro _ _ ⟨rfl, t, ht, tp, tc, rfl⟩
       refine XO.mv rfl rfl ?_
       refine XO.v (V.extract rfl rfl) rfl ?_
       refine XO.v (V.extract rfl rfl) rfl ?_
       refine XO.as rfl rfl ?_
       refine XO.as rfl rfl ?_
       refine XO.nk [(1, _), (5, _), (21, _), (22, _)] (S4 rfl rfl rfl rfl) ?_
       refine XC.sr ?_
       refine XO.mv rfl rfl ?_
       refine XO.v (V.fieldAddr rfl fo_63_1) rfl ?_
       refine XO.v (V.load rfl (inXM (.t5 .here)) (encAct.ld_A _) sc_3) rfl ?_
       refine XO.v (V.fieldAddr rfl fo_63_6) rfl ?_
       refine XO.v (V.load rfl (inXM (.t5 .here)) (encAct.ld_S _) sc_9) rfl ?_
       refine XO.call rfl (fr_Write _ _ _ _ O J hJ hOI m hSm K hK q hq _ _ (by omega)) (.cons (.t11 .here) (.cons (.t7 .here) (.cons (.t7 .here) (.cons (.t7 .here) (.cons (.t8 .here) .nil))))) cl_54 rfl ?_
       rintro _ _ ⟨rfl, u, hu, up, uc, rfl⟩
       refine XO.mv rfl rfl ?_
       refine XO.v (V.extract rfl rfl) rfl ?_
       refine XO.v (V.extract rfl rfl) rfl ?_
       refine XO.as rfl rfl ?_
       refine XO.as rfl rfl ?_
       refine XO.nk [(21, _), (22, _), (23, _), (24, _)] (S4 rfl rfl rfl rfl) ?_
       refine XC.sr ?_
       refine XO.mv rfl rfl ?_
       refine XO.mv rfl rfl ?_
       refine XO.v (V.cmp rfl rfl rfl) rfl ?_
       refine XO.mv rfl rfl ?_
       refine XO.splitT (d := 155) rfl (by rw [hU]) ?_
       refine XO.guardRun rfl rfl rfl ?_
       refine XO.mv rfl rfl ?_
       refine XO.guardRun rfl rfl rfl ?_
       refine XO.mv rfl rfl ?_
       refine XO.guardRun rfl rfl rfl ?_
       refine XO.call rfl (same_any _ _ (by first | omega | exact owriteE_nn _ _ _ _ _)) .nil cl_15 rfl ?_
       rintro _ _ ⟨rfl, rfl⟩
       refine XO.v (V.pick rfl rfl rfl rfl) rfl ?_
       refine XO.as rfl rfl ?_
       refine XO.nk [(6, _)] (S1 rfl) ?_
       refine XC.ret ?_
       refine XE.blockRet ?_
       refine XE.thenRet ?_
       refine XE.ret1 rfl rfl (post_of (.cons (.t6 .here) (.cons (.t6 .here) (.cons (.t6 .here) (.cons (.t8 .here) (.cons (.there .here) (.cons (.there .here) (.cons (.there .here) (.cons (.t5 .here) (.cons (.t2 .here) (.cons (.t2 .here) .h2)))))))))) rfl ?_)
       exact ⟨congrArg Value.bool (decide_eq_true (by first | rfl | rw [hU])), t, u, owriteO s.toFF O a.a a.s, owriteP q O a.a a.s, by rw [hu, ht, hU], by rw [ht]; exact owriteF_ok hO O a.a a.s, hOI.write_ s.toFF a.a a.s, owriteP_inv hq O a.a a.s, by rw [tp, tc, up, uc, show (FC.toFF t).roots = s.roots from by rw [ht]; exact owriteF_roots _ _ _ _, show (FC.toFF u).roots = m.roots from by rw [hu]; exact owriteF_roots _ _ _ _, hU]⟩
      ·
       refine XC.skip ?_
       refine XE.blockNormal ?_
       refine XE.next ?_
       refine XC.keep [(0, _), (1, _), (5, _)] (S3 rfl rfl rfl) ?_
       refine XC.seq ?_
       refine XC.regionQ mixed (f := 14) (l := #[false, false, false, false, false, false, false, false, false, false, false, false, false, false]) rfl rfl XM.drawn' ?_
       refine XQ.pv (i := 0) (l' := #[tt,ff,ff,ff,ff,ff,ff,ff,ff,ff,ff,ff,ff,ff]) rfl (by kernel_rfl) rfl (V.move rfl) rfl rfl ?_
       refine XQ.pv (i := 1) (l' := #[tt,tt,ff,ff,ff,ff,ff,ff,ff,ff,ff,ff,ff,ff]) rfl (by kernel_rfl) rfl (V.fieldAddr rfl fo_63_1) rfl rfl ?_
       refine XQ.load (i := 2) (l' := #[tt,tt,tt,ff,ff,ff,ff,ff,ff,ff,ff,ff,ff,ff]) (.cells _ _ _ _) [5, 11, 12] rfl (by kernel_rfl) rfl .here (V.load rfl inEnt (encAct.ld_A _) sc_3) rfl (by kernel_rfl) rfl ?_
       refine XQ.pv (i := 3) (l' := #[tt,tt,tt,tt,ff,ff,ff,ff,ff,ff,ff,ff,ff,ff]) rfl (by kernel_rfl) rfl (V.fieldAddr rfl fo_63_2) rfl rfl ?_
       refine XQ.load (i := 4) (l' := #[tt,tt,tt,tt,tt,ff,ff,ff,ff,ff,ff,ff,ff,ff]) (.cells _ _ _ _) [5, 11, 12] rfl (by kernel_rfl) rfl .here (V.load rfl inEnt (encAct.ld_B _) sc_3) rfl (by kernel_rfl) rfl ?_
       refine XQ.pv (i := 6) (l' := #[tt,tt,tt,tt,tt,ff,tt,ff,ff,ff,ff,ff,ff,ff]) rfl (by kernel_rfl) rfl (V.move rfl) rfl rfl ?_
       refine XQ.pv (i := 7) (l' := #[tt,tt,tt,tt,tt,ff,tt,tt,ff,ff,ff,ff,ff,ff]) rfl (by kernel_rfl) rfl (V.fieldAddr rfl fo_63_1) rfl rfl ?_
       refine XQ.load (i := 8) (l' := #[tt,tt,tt,tt,tt,ff,tt,tt,tt,ff,ff,ff,ff,ff]) (.cells _ _ _ _) [11, 12] rfl (by kernel_rfl) rfl .here (V.load rfl inEnt (encAct.ld_A _) sc_3) rfl (by kernel_rfl) rfl ?_
       refine XQ.pv (i := 9) (l' := #[tt,tt,tt,tt,tt,ff,tt,tt,tt,tt,ff,ff,ff,ff]) rfl (by kernel_rfl) rfl (V.fieldAddr rfl fo_63_2) rfl rfl ?_
       refine XQ.load (i := 10) (l' := #[tt,tt,tt,tt,tt,ff,tt,tt,tt,tt,tt,ff,ff,ff]) (.cells _ _ _ _) [11, 12] rfl (by kernel_rfl) rfl .here (V.load rfl inEnt (encAct.ld_B _) sc_3) rfl (by kernel_rfl) rfl ?_
       refine XQ.call (i := 5) (l' := #[tt,tt,tt,tt,tt,tt,tt,tt,tt,tt,tt,ff,ff,ff]) rfl (by kernel_rfl) rfl rfl (f_Seek _ _ _ _ O _ _) (.cons (.t9 .here) .nil) cl_55 rfl (by rintro _ _ ⟨rfl, rfl⟩; all_goals (intro _ hw'; exact ⟨fun _ => inXM (.there .here) _ hw', fun _ => inXM (.there .here) _ hw', fun hs => (hs 5 (by first | (simp; done) | (simp; rfl)) rfl).elim, fun hs => (hs 5 (by first | (simp; done) | (simp; rfl)) rfl).elim, trivial⟩)) ?_
       rintro _ _ ⟨rfl, rfl⟩
       refine XQ.call (i := 11) (l' := #[tt,tt,tt,tt,tt,tt,tt,tt,tt,tt,tt,tt,ff,ff]) rfl (by kernel_rfl) rfl rfl (fr_Seek _ _ _ _ O J hJ hOI _ _) (.cons (.t11 .here) .nil) cl_56 rfl (by rintro _ _ ⟨rfl, rfl⟩; all_goals (intro _ hw'; exact ⟨fun hs => (hs 11 (by first | (simp; done) | (simp; rfl)) rfl).elim, fun hs => (hs 11 (by first | (simp; done) | (simp; rfl)) rfl).elim, fun hs => (hs 5 (by first | (simp; done) | (simp; rfl)) rfl).elim, fun hs => (hs 5 (by first | (simp; done) | (simp; rfl)) rfl).elim, trivial⟩)) ?_
       rintro _ _ ⟨rfl, rfl⟩
       refine XQ.call (i := 12) (l' := #[tt,tt,tt,tt,tt,tt,tt,tt,tt,tt,tt,tt,tt,ff]) rfl (by kernel_rfl) rfl rfl (same_any _ _ (by first | omega | exact seekE_nn _ _ _)) .nil cl_15 rfl (by rintro _ _ ⟨rfl, rfl⟩; all_goals (intro _ hw'; exact ⟨fun hs => (hs 11 (by first | (simp; done) | (simp; rfl)) rfl).elim, fun hs => (hs 11 (by first | (simp; done) | (simp; rfl)) rfl).elim, fun hs => (hs 5 (by first | (simp; done) | (simp; rfl)) rfl).elim, fun hs => (hs 5 (by first | (simp; done) | (simp; rfl)) rfl).elim, trivial⟩)) ?_
       rintro _ _ ⟨rfl, rfl⟩
       refine XQ.pv (i := 13) (l' := #[tt,tt,tt,tt,tt,tt,tt,tt,tt,tt,tt,tt,tt,tt]) rfl (by kernel_rfl) rfl (V.assign rfl) rfl rfl ?_
       refine XQ.done (by kernel_rfl) ?_
       refine XE.next ?_
       refine XC.keep [(6, _)] (S1 rfl) ?_
       refine XC.ret ?_
       refine XE.ret1 rfl rfl (post_of (.cons (.t3 .here) (.cons (.t3 .here) (.cons (.t3 .here) (.cons (.t3 .here) (.cons (.t3 .here) (.cons (.t3 .here) (.cons (.t3 .here) (.cons (.t3 .here) (.cons (.there .here) (.cons (.t2 .here) (.cons .here (.cons (.there .here) .nil)))))))))))) rfl ?_)
       exact ⟨congrArg Value.bool (decide_eq_true (by first | rfl | rw [hU])), s, m, seekO O a.a a.b, q, hU, hO.up1, hOI.seek a.a a.b, (hq.mono (by omega)), by first | rfl | rw [hU]⟩
set_option maxRecDepth 10000 in
set_option maxHeartbeats 4000000 in
theorem opens_any  : Spec Tryz.prog 4 []
    []
    (fun v H1 => v = .bool true ∧ H1 = []) := by
 obtain ⟨d0, k0, k1, k2, k3⟩ := OF.ok
 refine Spec.intro Tryz.func4 rfl rfl ?_
 intro W
 refine XC.sr ?_
 refine XO.as rfl rfl ?_
 refine XO.nk [] (Sub.nil _) ?_
 refine XC.sr ?_
 refine XO.call rfl (t_New) .nil cl_7 rfl ?_
 rintro _ _ ⟨bf, rfl, rfl⟩
 refine XO.as rfl rfl ?_
 refine XO.nk [(1, _)] (S1 rfl) ?_
 refine XC.seq ?_
 refine XC.sr ?_
 refine XO.mv rfl rfl ?_
 refine XO.v (V.ptrNilP rfl Tryz.underlying25 rfl) rfl ?_
 refine XO.nk [(1, _), (13, _)] (S2 rfl rfl) ?_
 refine XC.condF rfl rfl ?_
 refine XC.skip ?_
 refine XE.next ?_
 refine XC.keep [(1, _)] (S1 rfl) ?_
 refine XC.sr ?_
 refine XO.mv rfl rfl ?_
 refine XO.call rfl (t_Plant _ _ _ (FF.inv_void.sh (by omega))) .h4 cl_8 rfl ?_
 rintro _ _ ⟨t0, rfl, ht0, rfl⟩
 have e0 : t0.toFF = OF.F0 := ht0
 have hS0 : t0.toFF.Sh := by rw [e0]; exact k0.sh (by omega)
 rw [show FF.plantE FC.void.toFF = 0 from OF.p0]
 refine XO.mv rfl rfl ?_
 refine XO.v (V.extract rfl rfl) rfl ?_
 refine XO.v (V.extract rfl rfl) rfl ?_
 refine XO.as rfl rfl ?_
 refine XO.as rfl rfl ?_
 refine XO.nk [(1, _), (3, _)] (S2 rfl rfl) ?_
 refine XC.sr ?_
 refine XO.mv rfl rfl ?_
 refine XO.call rfl (t_Make _ _ _ hS0 _ _ _ (by decide)) .h3 cl_22 rfl ?_
 rintro _ _ ⟨rfl, t1, ht1, hp1, hc1, rfl⟩
 rw [e0] at ht1
 have e1 : t1.toFF = OF.F1 := ht1
 have hS1 : t1.toFF.Sh := by rw [e1]; exact k1
 rw [e0, OF.m1V, OF.m1E]
 refine XO.mv rfl rfl ?_
 refine XO.v (V.extract rfl rfl) rfl ?_
 refine XO.v (V.extract rfl rfl) rfl ?_
 refine XO.as rfl rfl ?_
 refine XO.as rfl rfl ?_
 refine XO.nk [(1, _), (3, _), (4, _), (5, _)] (S4 rfl rfl rfl rfl) ?_
 refine XC.sr ?_
 refine XO.mv rfl rfl ?_
 refine XO.v (V.build (vs := #[]) rfl (v := .agg #[.string ⟨#[]⟩, .int .i64 0, .int .i64 0, .string ⟨#[]⟩, .int .i64 0, .int .i64 0, .string ⟨#[]⟩, .int .i64 0, .int .i64 0, .string ⟨#[]⟩, .int .i64 0, .int .i64 0, .string ⟨#[]⟩, .int .i64 0, .int .i64 0, .string ⟨#[]⟩, .int .i64 0, .int .i64 0, .string ⟨#[]⟩, .int .i64 0, .int .i64 0, .string ⟨#[]⟩, .int .i64 0, .int .i64 0]) (fun _ => by kernel_rfl)) rfl ?_
 refine XO.box (m := 24) (C := encP PS.init) rfl rfl boxP_init rfl ?_
 intro bp
 refine XO.call rfl (f_New bf bp) .nil cl_10 rfl ?_
 rintro _ _ ⟨bo, rfl, rfl⟩
 refine XO.as rfl rfl ?_
 refine XO.nk [(3, _), (4, _), (5, _), (6, _)] (S4 rfl rfl rfl rfl) ?_
 refine XC.seq ?_
 refine XC.sr ?_
 refine XO.mv rfl rfl ?_
 refine XO.v (V.errNil rfl Tryz.underlying36 rfl) rfl ?_
 refine XO.mv rfl rfl ?_
 refine XO.splitF (d := 30) rfl (fun q => q rfl) ?_
 refine XO.guardRun rfl rfl rfl ?_
 refine XO.mv rfl rfl ?_
 refine XO.guardRun rfl rfl rfl ?_
 refine XO.v (V.errNil rfl Tryz.underlying36 rfl) rfl ?_
 refine XO.v (V.pick rfl rfl rfl rfl) rfl ?_
 refine XO.mv rfl rfl ?_
 refine XO.splitF (d := 34) rfl (fun q => q rfl) ?_
 refine XO.guardRun rfl rfl rfl ?_
 refine XO.mv rfl rfl ?_
 refine XO.guardRun rfl rfl rfl ?_
 refine XO.v (V.ptrNilP rfl Tryz.underlying53 rfl) rfl ?_
 refine XO.v (V.pick rfl rfl rfl rfl) rfl ?_
 refine XO.nk [(4, _), (6, _), (37, _)] (S3 rfl rfl rfl) ?_
 refine XC.condF rfl rfl ?_
 refine XC.skip ?_
 refine XE.next ?_
 refine XC.keep [(4, _), (6, _)] (S2 rfl rfl) ?_
 refine XC.sr ?_
 refine XO.mv rfl rfl ?_
 refine XO.mv rfl rfl ?_
 refine XO.call rfl (f_Node _ _ _ _ OS.void t1 hS1 1 true) (.cons .here (.cons (.there .here) (.cons (.there .here) (.cons (.there .here) .nil)))) cl_23 rfl ?_
 rintro _ _ ⟨rfl, t2, ht2, hp2, hc2, rfl⟩
 rw [e1] at ht2
 have e2 : t2.toFF = OF.F2 := ht2
 have hS2 : t2.toFF.Sh := by rw [e2]; exact k2
 rw [e1, OF.n1V, OF.n1E, show onodeO OF.F1 OS.void 1 true = OF.O1 from rfl]
 refine XO.mv rfl rfl ?_
 refine XO.v (V.extract rfl rfl) rfl ?_
 refine XO.v (V.extract rfl rfl) rfl ?_
 refine XO.as rfl rfl ?_
 refine XO.as rfl rfl ?_
 refine XO.nk [(6, _), (7, _), (8, _)] (S3 rfl rfl rfl) ?_
 refine XC.sr ?_
 refine XO.mv rfl rfl ?_
 refine XO.mv rfl rfl ?_
 refine XO.call rfl (f_Write _ _ _ _ OF.O1 2 (by decide) OF.inv1 t2 hS2 0 (by decide) PS.init PS.Inv.init 0 _ (by decide)) .h5 cl_24 rfl ?_
 rintro _ _ ⟨rfl, t3, ht3, hp3, hc3, rfl⟩
 rw [e2] at ht3
 rw [e2, OF.w1V, OF.w1E, OF.w1P, show owriteO OF.F2 OF.O1 0 { data := #[120, 121, 122] } = OF.O2 from rfl]
 refine XO.mv rfl rfl ?_
 refine XO.v (V.extract rfl rfl) rfl ?_
 refine XO.v (V.extract rfl rfl) rfl ?_
 refine XO.as rfl rfl ?_
 refine XO.as rfl rfl ?_
 refine XO.nk [(6, _), (8, _), (9, _), (10, _)] (S4 rfl rfl rfl rfl) ?_
 refine XC.sr ?_
 refine XO.mv rfl rfl ?_
 refine XO.call rfl (same_any _ _ (by first | omega | exact Int.le_refl _)) .nil cl_15 rfl ?_
 rintro _ _ ⟨rfl, rfl⟩
 refine XO.mv rfl rfl ?_
 refine XO.splitT (d := 52) rfl (rfl) ?_
 refine XO.guardRun rfl rfl rfl ?_
 refine XO.mv rfl rfl ?_
 refine XO.guardRun rfl rfl rfl ?_
 refine XO.call rfl (same_any _ _ (by first | omega | exact Int.le_refl _)) .nil cl_15 rfl ?_
 rintro _ _ ⟨rfl, rfl⟩
 refine XO.v (V.pick rfl rfl rfl rfl) rfl ?_
 refine XO.mv rfl rfl ?_
 refine XO.splitT (d := 56) rfl (rfl) ?_
 refine XO.guardRun rfl rfl rfl ?_
 refine XO.mv rfl rfl ?_
 refine XO.guardRun rfl rfl rfl ?_
 refine XO.v (V.cmp rfl rfl rfl) rfl ?_
 refine XO.v (V.pick rfl rfl rfl rfl) rfl ?_
 refine XO.mv rfl rfl ?_
 refine XO.splitT (d := 60) rfl (rfl) ?_
 refine XO.guardRun rfl rfl rfl ?_
 refine XO.mv rfl rfl ?_
 refine XO.guardRun rfl rfl rfl ?_
 refine XO.call rfl (f_Open _ _ _ _ OF.O2) .h1 cl_16 rfl ?_
 rintro _ _ ⟨rfl, rfl⟩
 rw [OF.o2]
 refine XO.guardRun rfl rfl rfl ?_
 refine XO.v (V.cmp rfl rfl rfl) rfl ?_
 refine XO.v (V.pick rfl rfl rfl rfl) rfl ?_
 refine XO.mv rfl rfl ?_
 refine XO.splitT (d := 65) rfl (rfl) ?_
 refine XO.guardRun rfl rfl rfl ?_
 refine XO.mv rfl rfl ?_
 refine XO.guardRun rfl rfl rfl ?_
 refine XO.call rfl (f_Room _ _ _ _ OF.O2 3 (by decide) OF.inv2 23) .h1 cl_20 rfl ?_
 rintro _ _ ⟨rfl, rfl⟩
 rw [OF.r23]
 refine XO.v (V.pick rfl rfl rfl rfl) rfl ?_
 refine XO.mv rfl rfl ?_
 refine XO.guardRun rfl rfl rfl ?_
 refine XO.mv rfl rfl ?_
 refine XO.guardRun rfl rfl rfl ?_
 refine XO.call rfl (f_Room _ _ _ _ OF.O2 3 (by decide) OF.inv2 24) .h1 cl_20 rfl ?_
 rintro _ _ ⟨rfl, rfl⟩
 rw [OF.r24]
 refine XO.guardRun rfl rfl rfl ?_
 refine XO.v (V.not rfl) rfl ?_
 refine XO.v (V.pick rfl rfl rfl rfl) rfl ?_
 refine XO.as rfl rfl ?_
 refine XO.nk [(0, _)] (S1 rfl) ?_
 refine XC.ret ?_
 refine XE.ret1 rfl rfl (post_of .nil rfl ?_)
 exact ⟨rfl, rfl⟩
end Go.X
