import Derived.Test.YtmklfkjfgjagaaaGreatDoorXShort
import Derived.Test.YtmklfkjfgjagaaaGreatDoorYRW4
namespace Go.X
open Go Go.Proofs

theorem u_RawF (bt bf : Nat) (r : WH) (l : List MT) (p : Option Addr) (cap k c : Nat) (C : Nat → Value) (hv : RV.ok ⟨p, cap, k, l.length, c, C⟩) (hC : MC C l) (hm6 : l.length ≤ 6) (s : FC) (hI : s.toFF.Sh) (F : FF) (hF : s.toFF = F) (x : ByteArray) (hx : x.size ≤ 100000) : Spec Tryz.prog 47 [ptr bt 0 0, .string x] [.cells bt 0 4 (encT bf r (.slice p l.length c)), frow p cap 98 4 k C, .cells bf 0 321 (encM s), .fam fam40 (FC.rowsN 9 s), .fam fam40 (FC.rowsK 3 s)] (fun v H1 => v = .tuple #[.agg (WH.arr (rawV F l r x)), .int .i64 (rawE F l r x)] ∧ H1 = [.cells bt 0 4 (encT bf r (.slice p l.length c)), frow p cap 98 4 k C, .cells bf 0 321 (encM s), .fam fam40 (FC.rowsN 9 s), .fam fam40 (FC.rowsK 3 s)]) := by
  subst hF; exact u_Raw _ _ _ _ _ _ _ _ _ hv hC hm6 s hI x hx
theorem u_WalkF (bt bf : Nat) (r : WH) (l : List MT) (p : Option Addr) (cap k c : Nat) (C : Nat → Value) (hv : RV.ok ⟨p, cap, k, l.length, c, C⟩) (hC : MC C l) (hm6 : l.length ≤ 6) (s : FC) (hI : s.toFF.Sh) (F : FF) (hF : s.toFF = F) (x : ByteArray) (hx : x.size ≤ 100000) : Spec Tryz.prog 48 [ptr bt 0 0, .string x] [.cells bt 0 4 (encT bf r (.slice p l.length c)), frow p cap 98 4 k C, .cells bf 0 321 (encM s), .fam fam40 (FC.rowsN 9 s), .fam fam40 (FC.rowsK 3 s)] (fun v H1 => v = .tuple #[.agg (WH.arr (walkV F l r x)), .int .i64 (walkE F l r x)] ∧ H1 = [.cells bt 0 4 (encT bf r (.slice p l.length c)), frow p cap 98 4 k C, .cells bf 0 321 (encM s), .fam fam40 (FC.rowsN 9 s), .fam fam40 (FC.rowsK 3 s)]) := by
  subst hF; exact u_Walk _ _ _ _ _ _ _ _ _ hv hC hm6 s hI x hx
theorem u_LastF (bt bf : Nat) (r : WH) (l : List MT) (p : Option Addr) (cap k c : Nat) (C : Nat → Value) (hv : RV.ok ⟨p, cap, k, l.length, c, C⟩) (hC : MC C l) (hm6 : l.length ≤ 6) (s : FC) (hI : s.toFF.Sh) (F : FF) (hF : s.toFF = F) (x : ByteArray) (hx : x.size ≤ 100000) : Spec Tryz.prog 55 [ptr bt 0 0, .string x] [.cells bt 0 4 (encT bf r (.slice p l.length c)), frow p cap 98 4 k C, .cells bf 0 321 (encM s), .fam fam40 (FC.rowsN 9 s), .fam fam40 (FC.rowsK 3 s)] (fun v H1 => v = .tuple #[.agg (WH.arr (lastV F l r x)), .string (lastN F l r x), .int .i64 (lastE F l r x)] ∧ H1 = [.cells bt 0 4 (encT bf r (.slice p l.length c)), frow p cap 98 4 k C, .cells bf 0 321 (encM s), .fam fam40 (FC.rowsN 9 s), .fam fam40 (FC.rowsK 3 s)]) := by
  subst hF; exact u_Last _ _ _ _ _ _ _ _ _ hv hC hm6 s hI x hx
theorem mtEq : (Tryz.prog.underlying 98 = some (.struct (Tryz.prog.fieldsOf 98)) ∧ Tryz.prog.stoodInHeld 98 = false) ∧ Tryz.prog.eqGuardType Tryz.prog.depth 98 = false ∧ (Tryz.prog.fieldsOf 98).toList.all (okG Tryz.prog 4) = true := ⟨⟨by kernel_rfl, by kernel_rfl⟩, by kernel_rfl, by kernel_rfl⟩
set_option maxRecDepth 10000 in
set_option maxHeartbeats 4000000 in
theorem mgrown_any (bs bm : Nat) (s m : FC) (hU : m.toFF = s.toFF) (a : ActV) (ha : a.s.size ≤ 100 ∧ a.t.size ≤ 100) (d : Int → Nat) (B : Int) (hO : s.toFF.Ok d B) (hB : B ≤ 900000) : Spec Tryz.prog 13 [ptr bs 0 0, ptr bm 0 0, .agg #[.string a.kind, .int .i64 a.a, .int .i64 a.b, .int .i64 a.c, .int .u64 a.key, .bool a.on, .string a.s, .string a.t]]
    [.cells bs 0 321 (encF s), .fam fam40 (FC.rowsN 9 s), .fam fam40 (FC.rowsK 3 s), irow (FC.rP s) (FC.rC s) 3 (FC.toFF s).roots, .cells bm 0 321 (encM m), .fam fam40 (FC.rowsN 9 m), .fam fam40 (FC.rowsK 3 m), irow (FC.rP m) (FC.rC m) 3 (FC.toFF m).roots]
    (fun v H1 => v = .bool true ∧ ∃ (t u : FC) (d2 : Int → Nat), u.toFF = t.toFF ∧ t.toFF.Ok d2 (B + 1) ∧ ((a.kind = ⟨#[109, 97, 107, 101]⟩ ∨ a.kind = ⟨#[114, 101, 109, 111, 118, 101]⟩ ∨ a.kind = ⟨#[109, 111, 118, 101]⟩) → ∀ z, 0 ≤ z → z < 40 → t.held z = s.held z) ∧ H1 = [.cells bs 0 321 (encF t), .fam fam40 (FC.rowsN 9 t), .fam fam40 (FC.rowsK 3 t), irow (FC.rP t) (FC.rC t) 3 (FC.toFF t).roots, .cells bm 0 321 (encM u), .fam fam40 (FC.rowsN 9 u), .fam fam40 (FC.rowsK 3 u), irow (FC.rP u) (FC.rC u) 3 (FC.toFF u).roots]) := by
 have hS := hO.sh (by omega)
 have hSm : m.toFF.Sh := by rw [hU]; exact hS
 refine Spec.intro Tryz.func13 rfl rfl ?_
 intro W
 refine XC.sr ?_
 refine XO.box (m := 8) (C := encAct a) rfl rfl (act_box a) rfl ?_
 intro ba
 refine XO.as rfl rfl ?_
 refine XO.nk [(0, _), (1, _), (5, _)] (S3 rfl rfl rfl) ?_
 refine XC.seq ?_
 refine XC.sr ?_
 refine XO.v (V.fieldAddr rfl fo_50_0) rfl ?_
 refine XO.v (V.load rfl (inXM .here) (encAct.ld_Kind _) sc_9) rfl ?_
 refine XO.nk [(0, _), (1, _), (5, _), (24, _)] (S4 rfl rfl rfl rfl) ?_
 refine XC.block ?_
 refine XC.sr ?_
 refine XO.v (V.strCmp rfl rfl rfl) rfl ?_
 refine XO.as rfl rfl ?_
 refine XO.nk [(0, _), (1, _), (5, _), (24, _), (25, _)] (S5 rfl rfl rfl rfl rfl) ?_
 refine XC.condP rfl (fun h1 => ?_) (fun h1 => ?_)
 ·
  refine XC.sr ?_
  refine XO.mv rfl rfl ?_
  refine XO.call rfl (t_Plant _ _ _ hS) (.cons (.there .here) (.cons (.there .here) (.cons (.there .here) (.cons (.there .here) .nil)))) cl_10 rfl ?_
  rintro _ _ ⟨t, rfl, ht, rfl⟩
  refine XO.mv rfl rfl ?_
  refine XO.v (V.extract rfl rfl) rfl ?_
  refine XO.v (V.extract rfl rfl) rfl ?_
  refine XO.as rfl rfl ?_
  refine XO.as rfl rfl ?_
  refine XO.nk [(1, _), (7, _), (8, _)] (S3 rfl rfl rfl) ?_
  refine XC.sr ?_
  refine XO.mv rfl rfl ?_
  refine XO.call rfl (r_Plant _ _ _ hSm) (.cons (.t5 .here) (.cons (.t5 .here) (.cons (.t5 .here) (.cons (.t5 .here) .nil)))) cl_11 rfl ?_
  rintro _ _ ⟨u, rfl, hu, rfl⟩
  refine XO.mv rfl rfl ?_
  refine XO.v (V.extract rfl rfl) rfl ?_
  refine XO.v (V.extract rfl rfl) rfl ?_
  refine XO.as rfl rfl ?_
  refine XO.as rfl rfl ?_
  refine XO.nk [(7, _), (8, _), (9, _), (10, _)] (S4 rfl rfl rfl rfl) ?_
  refine XC.sr ?_
  refine XO.mv rfl rfl ?_
  refine XO.mv rfl rfl ?_
  refine XO.v (V.cmp rfl rfl rfl) rfl ?_
  refine XO.mv rfl rfl ?_
  refine XO.splitT (d := 40) rfl (by rw [hU]) ?_
  refine XO.guardRun rfl rfl rfl ?_
  refine XO.mv rfl rfl ?_
  refine XO.guardRun rfl rfl rfl ?_
  refine XO.mv rfl rfl ?_
  refine XO.guardRun rfl rfl rfl ?_
  refine XO.call rfl (same_any _ _ (by first | omega | exact FF.plantE_nn _)) .nil cl_9 rfl ?_
  rintro _ _ ⟨rfl, rfl⟩
  refine XO.v (V.pick rfl rfl rfl rfl) rfl ?_
  refine XO.as rfl rfl ?_
  refine XO.nk [(6, _)] (S1 rfl) ?_
  refine XC.ret ?_
  refine XE.blockRet ?_
  refine XE.thenRet ?_
  refine XE.ret1 rfl rfl (post_of (.cons (.t4 .here) (.cons (.t4 .here) (.cons (.t4 .here) (.cons (.t4 .here) .h4)))) rfl ?_)
  obtain ⟨d2, h2⟩ := hO.plant
  exact ⟨congrArg Value.bool (decide_eq_true (by rw [hU])), t, u, _, by rw [hu, ht, hU], by rw [ht]; exact h2, (fun q => by rcases q with q | q | q <;> first | contradiction | (simp_all)), rfl⟩
 ·
  refine XC.sr ?_
  refine XO.v (V.strCmp rfl rfl rfl) rfl ?_
  refine XO.as rfl rfl ?_
  refine XO.nk [(0, _), (1, _), (5, _), (24, _), (45, _)] (S5 rfl rfl rfl rfl rfl) ?_
  refine XC.condP rfl (fun h3 => ?_) (fun h3 => ?_)
  ·
   refine XC.sr ?_
   refine XO.mv rfl rfl ?_
   refine XO.v (V.fieldAddr rfl fo_50_1) rfl ?_
   refine XO.v (V.load rfl (inXM .here) (encAct.ld_A _) sc_3) rfl ?_
   refine XO.v (V.fieldAddr rfl fo_50_6) rfl ?_
   refine XO.v (V.load rfl (inXM .here) (encAct.ld_S _) sc_9) rfl ?_
   refine XO.v (V.fieldAddr rfl fo_50_2) rfl ?_
   refine XO.v (V.load rfl (inXM .here) (encAct.ld_B _) sc_3) rfl ?_
   refine XO.call rfl (t_Make _ _ _ hS _ _ _ (by omega)) (.cons (.there .here) (.cons (.there .here) (.cons (.there .here) .nil))) cl_22 rfl ?_
   rintro _ _ ⟨rfl, t, ht, tp, tc, rfl⟩
   refine XO.mv rfl rfl ?_
   refine XO.v (V.extract rfl rfl) rfl ?_
   refine XO.v (V.extract rfl rfl) rfl ?_
   refine XO.as rfl rfl ?_
   refine XO.as rfl rfl ?_
   refine XO.nk [(1, _), (5, _), (11, _), (12, _)] (S4 rfl rfl rfl rfl) ?_
   refine XC.sr ?_
   refine XO.mv rfl rfl ?_
   refine XO.v (V.fieldAddr rfl fo_50_1) rfl ?_
   refine XO.v (V.load rfl (inXM (.t3 .here)) (encAct.ld_A _) sc_3) rfl ?_
   refine XO.v (V.fieldAddr rfl fo_50_6) rfl ?_
   refine XO.v (V.load rfl (inXM (.t3 .here)) (encAct.ld_S _) sc_9) rfl ?_
   refine XO.v (V.fieldAddr rfl fo_50_2) rfl ?_
   refine XO.v (V.load rfl (inXM (.t3 .here)) (encAct.ld_B _) sc_3) rfl ?_
   refine XO.call rfl (r_Make _ _ _ hSm _ _ _ (by omega)) (.cons (.t5 .here) (.cons (.t5 .here) (.cons (.t5 .here) .nil))) cl_30 rfl ?_
   rintro _ _ ⟨rfl, u, hu, up, uc, rfl⟩
   refine XO.mv rfl rfl ?_
   refine XO.v (V.extract rfl rfl) rfl ?_
   refine XO.v (V.extract rfl rfl) rfl ?_
   refine XO.as rfl rfl ?_
   refine XO.as rfl rfl ?_
   refine XO.nk [(11, _), (12, _), (13, _), (14, _)] (S4 rfl rfl rfl rfl) ?_
   refine XC.sr ?_
   refine XO.mv rfl rfl ?_
   refine XO.mv rfl rfl ?_
   refine XO.v (V.cmp rfl rfl rfl) rfl ?_
   refine XO.mv rfl rfl ?_
   refine XO.splitT (d := 72) rfl (by rw [hU]) ?_
   refine XO.guardRun rfl rfl rfl ?_
   refine XO.mv rfl rfl ?_
   refine XO.guardRun rfl rfl rfl ?_
   refine XO.mv rfl rfl ?_
   refine XO.guardRun rfl rfl rfl ?_
   refine XO.call rfl (same_any _ _ (by first | omega | exact FF.makeE_nn _ _ _ _)) .nil cl_9 rfl ?_
   rintro _ _ ⟨rfl, rfl⟩
   refine XO.v (V.pick rfl rfl rfl rfl) rfl ?_
   refine XO.as rfl rfl ?_
   refine XO.nk [(6, _)] (S1 rfl) ?_
   refine XC.ret ?_
   refine XE.blockRet ?_
   refine XE.thenRet ?_
   refine XE.ret1 rfl rfl (post_of (.cons (.t3 .here) (.cons (.t3 .here) (.cons (.t3 .here) (.cons (.t4 .here) (.cons .here (.cons .here (.cons .here (.cons (.there .here) .nil)))))))) rfl ?_)
   obtain ⟨d2, h2⟩ := hO.make a.a a.s a.b
   exact ⟨congrArg Value.bool (decide_eq_true (by rw [hU])), t, u, _, by rw [hu, ht, hU], by rw [ht]; exact h2, (fun _ z a b => by rw [ht]; exact FF.held_make hO.inv _ _ _ z ⟨a, b⟩), by rw [tp, tc, up, uc, show (FC.toFF t).roots = s.roots from by rw [ht]; exact FF.make_roots _ _ _ _, show (FC.toFF u).roots = m.roots from by rw [hu]; exact FF.make_roots _ _ _ _]⟩
  ·
   refine XC.sr ?_
   refine XO.v (V.strCmp rfl rfl rfl) rfl ?_
   refine XO.as rfl rfl ?_
   refine XO.nk [(0, _), (1, _), (5, _), (24, _), (77, _)] (S5 rfl rfl rfl rfl rfl) ?_
   refine XC.condP rfl (fun h5 => ?_) (fun h5 => ?_)
   ·
    refine XC.seq ?_
    refine XC.regionQ mixed (f := 18) (l := #[false, false, false, false, false, false, false, false, false, false, false, false, false, false, false, false, false, false]) rfl rfl XM.drawn' ?_
    refine XQ.pv (i := 0) (l' := #[tt,ff,ff,ff,ff,ff,ff,ff,ff,ff,ff,ff,ff,ff,ff,ff,ff,ff]) rfl (by kernel_rfl) rfl (V.move rfl) rfl rfl ?_
    refine XQ.pv (i := 1) (l' := #[tt,tt,ff,ff,ff,ff,ff,ff,ff,ff,ff,ff,ff,ff,ff,ff,ff,ff]) rfl (by kernel_rfl) rfl (V.fieldAddr rfl fo_50_1) rfl rfl ?_
    refine XQ.load (i := 2) (l' := #[tt,tt,tt,ff,ff,ff,ff,ff,ff,ff,ff,ff,ff,ff,ff,ff,ff,ff]) (.cells _ _ _ _) [7, 15, 16] rfl (by kernel_rfl) rfl .here (V.load rfl inEnt (encAct.ld_A _) sc_3) rfl (by kernel_rfl) rfl ?_
    refine XQ.pv (i := 3) (l' := #[tt,tt,tt,tt,ff,ff,ff,ff,ff,ff,ff,ff,ff,ff,ff,ff,ff,ff]) rfl (by kernel_rfl) rfl (V.fieldAddr rfl fo_50_2) rfl rfl ?_
    refine XQ.load (i := 4) (l' := #[tt,tt,tt,tt,tt,ff,ff,ff,ff,ff,ff,ff,ff,ff,ff,ff,ff,ff]) (.cells _ _ _ _) [7, 15, 16] rfl (by kernel_rfl) rfl .here (V.load rfl inEnt (encAct.ld_B _) sc_3) rfl (by kernel_rfl) rfl ?_
    refine XQ.pv (i := 5) (l' := #[tt,tt,tt,tt,tt,tt,ff,ff,ff,ff,ff,ff,ff,ff,ff,ff,ff,ff]) rfl (by kernel_rfl) rfl (V.fieldAddr rfl fo_50_6) rfl rfl ?_
    refine XQ.load (i := 6) (l' := #[tt,tt,tt,tt,tt,tt,tt,ff,ff,ff,ff,ff,ff,ff,ff,ff,ff,ff]) (.cells _ _ _ _) [7, 15, 16] rfl (by kernel_rfl) rfl .here (V.load rfl inEnt (encAct.ld_S _) sc_9) rfl (by kernel_rfl) rfl ?_
    refine XQ.pv (i := 8) (l' := #[tt,tt,tt,tt,tt,tt,tt,ff,tt,ff,ff,ff,ff,ff,ff,ff,ff,ff]) rfl (by kernel_rfl) rfl (V.move rfl) rfl rfl ?_
    refine XQ.pv (i := 9) (l' := #[tt,tt,tt,tt,tt,tt,tt,ff,tt,tt,ff,ff,ff,ff,ff,ff,ff,ff]) rfl (by kernel_rfl) rfl (V.fieldAddr rfl fo_50_1) rfl rfl ?_
    refine XQ.load (i := 10) (l' := #[tt,tt,tt,tt,tt,tt,tt,ff,tt,tt,tt,ff,ff,ff,ff,ff,ff,ff]) (.cells _ _ _ _) [15, 16] rfl (by kernel_rfl) rfl .here (V.load rfl inEnt (encAct.ld_A _) sc_3) rfl (by kernel_rfl) rfl ?_
    refine XQ.pv (i := 11) (l' := #[tt,tt,tt,tt,tt,tt,tt,ff,tt,tt,tt,tt,ff,ff,ff,ff,ff,ff]) rfl (by kernel_rfl) rfl (V.fieldAddr rfl fo_50_2) rfl rfl ?_
    refine XQ.load (i := 12) (l' := #[tt,tt,tt,tt,tt,tt,tt,ff,tt,tt,tt,tt,tt,ff,ff,ff,ff,ff]) (.cells _ _ _ _) [15, 16] rfl (by kernel_rfl) rfl .here (V.load rfl inEnt (encAct.ld_B _) sc_3) rfl (by kernel_rfl) rfl ?_
    refine XQ.pv (i := 13) (l' := #[tt,tt,tt,tt,tt,tt,tt,ff,tt,tt,tt,tt,tt,tt,ff,ff,ff,ff]) rfl (by kernel_rfl) rfl (V.fieldAddr rfl fo_50_6) rfl rfl ?_
    refine XQ.load (i := 14) (l' := #[tt,tt,tt,tt,tt,tt,tt,ff,tt,tt,tt,tt,tt,tt,tt,ff,ff,ff]) (.cells _ _ _ _) [15, 16] rfl (by kernel_rfl) rfl .here (V.load rfl inEnt (encAct.ld_S _) sc_9) rfl (by kernel_rfl) rfl ?_
    refine XQ.call (i := 7) (l' := #[tt,tt,tt,tt,tt,tt,tt,tt,tt,tt,tt,tt,tt,tt,tt,ff,ff,ff]) rfl (by kernel_rfl) rfl rfl (t_Link _ _ _ hS _ _ _ (by omega)) (.cons (.there .here) (.cons (.there .here) (.cons (.there .here) .nil))) cl_31 rfl (by rintro _ _ ⟨rfl, t, ht, tp, tc, rfl⟩; all_goals (intro _ hw'; exact ⟨fun _ => inXM (.t3 .here) _ hw', fun _ => inXM (.t3 .here) _ hw', fun _ => inXM (.t3 .here) _ hw', fun hs => (hs 7 (by first | (simp; done) | (simp; rfl)) rfl).elim, fun hs => (hs 7 (by first | (simp; done) | (simp; rfl)) rfl).elim, fun hs => (hs 7 (by first | (simp; done) | (simp; rfl)) rfl).elim, trivial⟩)) ?_
    rintro _ _ ⟨rfl, t, ht, tp, tc, rfl⟩
    refine XQ.call (i := 15) (l' := #[tt,tt,tt,tt,tt,tt,tt,tt,tt,tt,tt,tt,tt,tt,tt,tt,ff,ff]) rfl (by kernel_rfl) rfl rfl (r_Link _ _ _ hSm _ _ _ (by omega)) (.cons (.t5 .here) (.cons (.t5 .here) (.cons (.t5 .here) .nil))) cl_32 rfl (by rintro _ _ ⟨rfl, u, hu, up, uc, rfl⟩; all_goals (intro _ hw'; exact ⟨fun hs => (hs 15 (by first | (simp; done) | (simp; rfl)) rfl).elim, fun hs => (hs 15 (by first | (simp; done) | (simp; rfl)) rfl).elim, fun hs => (hs 15 (by first | (simp; done) | (simp; rfl)) rfl).elim, fun hs => (hs 7 (by first | (simp; done) | (simp; rfl)) rfl).elim, fun hs => (hs 7 (by first | (simp; done) | (simp; rfl)) rfl).elim, fun hs => (hs 7 (by first | (simp; done) | (simp; rfl)) rfl).elim, trivial⟩)) ?_
    rintro _ _ ⟨rfl, u, hu, up, uc, rfl⟩
    refine XQ.call (i := 16) (l' := #[tt,tt,tt,tt,tt,tt,tt,tt,tt,tt,tt,tt,tt,tt,tt,tt,tt,ff]) rfl (by kernel_rfl) rfl rfl (same_any _ _ (by first | omega | exact FF.linkE_nn _ _ _ _)) .nil cl_9 rfl (by rintro _ _ ⟨rfl, rfl⟩; all_goals (intro _ hw'; exact ⟨fun hs => (hs 15 (by first | (simp; done) | (simp; rfl)) rfl).elim, fun hs => (hs 15 (by first | (simp; done) | (simp; rfl)) rfl).elim, fun hs => (hs 15 (by first | (simp; done) | (simp; rfl)) rfl).elim, fun hs => (hs 7 (by first | (simp; done) | (simp; rfl)) rfl).elim, fun hs => (hs 7 (by first | (simp; done) | (simp; rfl)) rfl).elim, fun hs => (hs 7 (by first | (simp; done) | (simp; rfl)) rfl).elim, trivial⟩)) ?_
    rintro _ _ ⟨rfl, rfl⟩
    refine XQ.pv (i := 17) (l' := #[tt,tt,tt,tt,tt,tt,tt,tt,tt,tt,tt,tt,tt,tt,tt,tt,tt,tt]) rfl (by kernel_rfl) rfl (V.assign rfl) rfl rfl ?_
    refine XQ.done (by kernel_rfl) ?_
    refine XE.next ?_
    refine XC.keep [(6, _)] (S1 rfl) ?_
    refine XC.ret ?_
    refine XE.blockRet ?_
    refine XE.thenRet ?_
    refine XE.ret1 rfl rfl (post_of (.cons (.t3 .here) (.cons (.t3 .here) (.cons (.t3 .here) (.cons (.t4 .here) (.cons .here (.cons .here (.cons .here (.cons (.there .here) .nil)))))))) rfl ?_)
    have h2 := hO.link a.a a.b a.s
    exact ⟨congrArg Value.bool (decide_eq_true (by rw [hU])), t, u, _, by rw [hu, ht, hU], by rw [ht]; exact h2, (fun q => by rcases q with q | q | q <;> first | contradiction | (simp_all)), by rw [tp, tc, up, uc, show (FC.toFF t).roots = s.roots from by rw [ht]; exact FF.link_roots _ _ _ _, show (FC.toFF u).roots = m.roots from by rw [hu]; exact FF.link_roots _ _ _ _]⟩
   ·
    refine XC.sr ?_
    refine XO.v (V.strCmp rfl rfl rfl) rfl ?_
    refine XO.as rfl rfl ?_
    refine XO.nk [(0, _), (1, _), (5, _), (24, _), (96, _)] (S5 rfl rfl rfl rfl rfl) ?_
    refine XC.condP rfl (fun h6 => ?_) (fun h6 => ?_)
    ·
     refine XC.seq ?_
     refine XC.regionQ mixed (f := 14) (l := #[false, false, false, false, false, false, false, false, false, false, false, false, false, false]) rfl rfl XM.drawn' ?_
     refine XQ.pv (i := 0) (l' := #[tt,ff,ff,ff,ff,ff,ff,ff,ff,ff,ff,ff,ff,ff]) rfl (by kernel_rfl) rfl (V.move rfl) rfl rfl ?_
     refine XQ.pv (i := 1) (l' := #[tt,tt,ff,ff,ff,ff,ff,ff,ff,ff,ff,ff,ff,ff]) rfl (by kernel_rfl) rfl (V.fieldAddr rfl fo_50_1) rfl rfl ?_
     refine XQ.load (i := 2) (l' := #[tt,tt,tt,ff,ff,ff,ff,ff,ff,ff,ff,ff,ff,ff]) (.cells _ _ _ _) [5, 11, 12] rfl (by kernel_rfl) rfl .here (V.load rfl inEnt (encAct.ld_A _) sc_3) rfl (by kernel_rfl) rfl ?_
     refine XQ.pv (i := 3) (l' := #[tt,tt,tt,tt,ff,ff,ff,ff,ff,ff,ff,ff,ff,ff]) rfl (by kernel_rfl) rfl (V.fieldAddr rfl fo_50_6) rfl rfl ?_
     refine XQ.load (i := 4) (l' := #[tt,tt,tt,tt,tt,ff,ff,ff,ff,ff,ff,ff,ff,ff]) (.cells _ _ _ _) [5, 11, 12] rfl (by kernel_rfl) rfl .here (V.load rfl inEnt (encAct.ld_S _) sc_9) rfl (by kernel_rfl) rfl ?_
     refine XQ.pv (i := 6) (l' := #[tt,tt,tt,tt,tt,ff,tt,ff,ff,ff,ff,ff,ff,ff]) rfl (by kernel_rfl) rfl (V.move rfl) rfl rfl ?_
     refine XQ.pv (i := 7) (l' := #[tt,tt,tt,tt,tt,ff,tt,tt,ff,ff,ff,ff,ff,ff]) rfl (by kernel_rfl) rfl (V.fieldAddr rfl fo_50_1) rfl rfl ?_
     refine XQ.load (i := 8) (l' := #[tt,tt,tt,tt,tt,ff,tt,tt,tt,ff,ff,ff,ff,ff]) (.cells _ _ _ _) [11, 12] rfl (by kernel_rfl) rfl .here (V.load rfl inEnt (encAct.ld_A _) sc_3) rfl (by kernel_rfl) rfl ?_
     refine XQ.pv (i := 9) (l' := #[tt,tt,tt,tt,tt,ff,tt,tt,tt,tt,ff,ff,ff,ff]) rfl (by kernel_rfl) rfl (V.fieldAddr rfl fo_50_6) rfl rfl ?_
     refine XQ.load (i := 10) (l' := #[tt,tt,tt,tt,tt,ff,tt,tt,tt,tt,tt,ff,ff,ff]) (.cells _ _ _ _) [11, 12] rfl (by kernel_rfl) rfl .here (V.load rfl inEnt (encAct.ld_S _) sc_9) rfl (by kernel_rfl) rfl ?_
     refine XQ.call (i := 5) (l' := #[tt,tt,tt,tt,tt,tt,tt,tt,tt,tt,tt,ff,ff,ff]) rfl (by kernel_rfl) rfl rfl (t_Remove _ _ _ hS _ _) (.cons (.there .here) (.cons (.there .here) (.cons (.there .here) .nil))) cl_33 rfl (by rintro _ _ ⟨rfl, t, ht, tp, tc, rfl⟩; all_goals (intro _ hw'; exact ⟨fun _ => inXM (.t3 .here) _ hw', fun _ => inXM (.t3 .here) _ hw', fun hs => (hs 5 (by first | (simp; done) | (simp; rfl)) rfl).elim, fun hs => (hs 5 (by first | (simp; done) | (simp; rfl)) rfl).elim, trivial⟩)) ?_
     rintro _ _ ⟨rfl, t, ht, tp, tc, rfl⟩
     refine XQ.call (i := 11) (l' := #[tt,tt,tt,tt,tt,tt,tt,tt,tt,tt,tt,tt,ff,ff]) rfl (by kernel_rfl) rfl rfl (r_Remove _ _ _ hSm _ _ (by rw [hU]; exact fun q => FF.Ok.links1 hO.inv q)) (.cons (.t5 .here) (.cons (.t5 .here) (.cons (.t5 .here) .nil))) cl_34 rfl (by rintro _ _ ⟨rfl, u, hu, up, uc, rfl⟩; all_goals (intro _ hw'; exact ⟨fun hs => (hs 11 (by first | (simp; done) | (simp; rfl)) rfl).elim, fun hs => (hs 11 (by first | (simp; done) | (simp; rfl)) rfl).elim, fun hs => (hs 5 (by first | (simp; done) | (simp; rfl)) rfl).elim, fun hs => (hs 5 (by first | (simp; done) | (simp; rfl)) rfl).elim, trivial⟩)) ?_
     rintro _ _ ⟨rfl, u, hu, up, uc, rfl⟩
     refine XQ.call (i := 12) (l' := #[tt,tt,tt,tt,tt,tt,tt,tt,tt,tt,tt,tt,tt,ff]) rfl (by kernel_rfl) rfl rfl (same_any _ _ (by first | omega | exact FF.removeE_nn _ _ _)) .nil cl_9 rfl (by rintro _ _ ⟨rfl, rfl⟩; all_goals (intro _ hw'; exact ⟨fun hs => (hs 11 (by first | (simp; done) | (simp; rfl)) rfl).elim, fun hs => (hs 11 (by first | (simp; done) | (simp; rfl)) rfl).elim, fun hs => (hs 5 (by first | (simp; done) | (simp; rfl)) rfl).elim, fun hs => (hs 5 (by first | (simp; done) | (simp; rfl)) rfl).elim, trivial⟩)) ?_
     rintro _ _ ⟨rfl, rfl⟩
     refine XQ.pv (i := 13) (l' := #[tt,tt,tt,tt,tt,tt,tt,tt,tt,tt,tt,tt,tt,tt]) rfl (by kernel_rfl) rfl (V.assign rfl) rfl rfl ?_
     refine XQ.done (by kernel_rfl) ?_
     refine XE.next ?_
     refine XC.keep [(6, _)] (S1 rfl) ?_
     refine XC.ret ?_
     refine XE.blockRet ?_
     refine XE.thenRet ?_
     refine XE.ret1 rfl rfl (post_of (.cons (.t3 .here) (.cons (.t3 .here) (.cons (.t3 .here) (.cons (.t4 .here) (.cons .here (.cons .here (.cons .here (.cons (.there .here) .nil)))))))) rfl ?_)
     have h2 := hO.remove a.a a.s
     exact ⟨congrArg Value.bool (decide_eq_true (by rw [hU])), t, u, _, by rw [hu, ht, hU], by rw [ht]; exact h2, (fun _ z a b => by rw [ht]; exact FF.held_remove _ _ _ z), by rw [tp, tc, up, uc, show (FC.toFF t).roots = s.roots from by rw [ht]; exact FF.remove_roots _ _ _, show (FC.toFF u).roots = m.roots from by rw [hu]; exact FF.remove_roots _ _ _]⟩
    ·
     refine XC.sr ?_
     refine XO.v (V.strCmp rfl rfl rfl) rfl ?_
     refine XO.as rfl rfl ?_
     refine XO.nk [(0, _), (1, _), (5, _), (24, _), (111, _)] (S5 rfl rfl rfl rfl rfl) ?_
     refine XC.condP rfl (fun h7 => ?_) (fun h7 => ?_)
     ·
      refine XC.seq ?_
      refine XC.regionQ mixed (f := 22) (l := #[false, false, false, false, false, false, false, false, false, false, false, false, false, false, false, false, false, false, false, false, false, false]) rfl rfl XM.drawn' ?_
      refine XQ.pv (i := 0) (l' := #[tt,ff,ff,ff,ff,ff,ff,ff,ff,ff,ff,ff,ff,ff,ff,ff,ff,ff,ff,ff,ff,ff]) rfl (by kernel_rfl) rfl (V.move rfl) rfl rfl ?_
      refine XQ.pv (i := 1) (l' := #[tt,tt,ff,ff,ff,ff,ff,ff,ff,ff,ff,ff,ff,ff,ff,ff,ff,ff,ff,ff,ff,ff]) rfl (by kernel_rfl) rfl (V.fieldAddr rfl fo_50_1) rfl rfl ?_
      refine XQ.load (i := 2) (l' := #[tt,tt,tt,ff,ff,ff,ff,ff,ff,ff,ff,ff,ff,ff,ff,ff,ff,ff,ff,ff,ff,ff]) (.cells _ _ _ _) [9, 19, 20] rfl (by kernel_rfl) rfl .here (V.load rfl inEnt (encAct.ld_A _) sc_3) rfl (by kernel_rfl) rfl ?_
      refine XQ.pv (i := 3) (l' := #[tt,tt,tt,tt,ff,ff,ff,ff,ff,ff,ff,ff,ff,ff,ff,ff,ff,ff,ff,ff,ff,ff]) rfl (by kernel_rfl) rfl (V.fieldAddr rfl fo_50_6) rfl rfl ?_
      refine XQ.load (i := 4) (l' := #[tt,tt,tt,tt,tt,ff,ff,ff,ff,ff,ff,ff,ff,ff,ff,ff,ff,ff,ff,ff,ff,ff]) (.cells _ _ _ _) [9, 19, 20] rfl (by kernel_rfl) rfl .here (V.load rfl inEnt (encAct.ld_S _) sc_9) rfl (by kernel_rfl) rfl ?_
      refine XQ.pv (i := 5) (l' := #[tt,tt,tt,tt,tt,tt,ff,ff,ff,ff,ff,ff,ff,ff,ff,ff,ff,ff,ff,ff,ff,ff]) rfl (by kernel_rfl) rfl (V.fieldAddr rfl fo_50_2) rfl rfl ?_
      refine XQ.load (i := 6) (l' := #[tt,tt,tt,tt,tt,tt,tt,ff,ff,ff,ff,ff,ff,ff,ff,ff,ff,ff,ff,ff,ff,ff]) (.cells _ _ _ _) [9, 19, 20] rfl (by kernel_rfl) rfl .here (V.load rfl inEnt (encAct.ld_B _) sc_3) rfl (by kernel_rfl) rfl ?_
      refine XQ.pv (i := 7) (l' := #[tt,tt,tt,tt,tt,tt,tt,tt,ff,ff,ff,ff,ff,ff,ff,ff,ff,ff,ff,ff,ff,ff]) rfl (by kernel_rfl) rfl (V.fieldAddr rfl fo_50_7) rfl rfl ?_
      refine XQ.load (i := 8) (l' := #[tt,tt,tt,tt,tt,tt,tt,tt,tt,ff,ff,ff,ff,ff,ff,ff,ff,ff,ff,ff,ff,ff]) (.cells _ _ _ _) [9, 19, 20] rfl (by kernel_rfl) rfl .here (V.load rfl inEnt (encAct.ld_T _) sc_9) rfl (by kernel_rfl) rfl ?_
      refine XQ.pv (i := 10) (l' := #[tt,tt,tt,tt,tt,tt,tt,tt,tt,ff,tt,ff,ff,ff,ff,ff,ff,ff,ff,ff,ff,ff]) rfl (by kernel_rfl) rfl (V.move rfl) rfl rfl ?_
      refine XQ.pv (i := 11) (l' := #[tt,tt,tt,tt,tt,tt,tt,tt,tt,ff,tt,tt,ff,ff,ff,ff,ff,ff,ff,ff,ff,ff]) rfl (by kernel_rfl) rfl (V.fieldAddr rfl fo_50_1) rfl rfl ?_
      refine XQ.load (i := 12) (l' := #[tt,tt,tt,tt,tt,tt,tt,tt,tt,ff,tt,tt,tt,ff,ff,ff,ff,ff,ff,ff,ff,ff]) (.cells _ _ _ _) [19, 20] rfl (by kernel_rfl) rfl .here (V.load rfl inEnt (encAct.ld_A _) sc_3) rfl (by kernel_rfl) rfl ?_
      refine XQ.pv (i := 13) (l' := #[tt,tt,tt,tt,tt,tt,tt,tt,tt,ff,tt,tt,tt,tt,ff,ff,ff,ff,ff,ff,ff,ff]) rfl (by kernel_rfl) rfl (V.fieldAddr rfl fo_50_6) rfl rfl ?_
      refine XQ.load (i := 14) (l' := #[tt,tt,tt,tt,tt,tt,tt,tt,tt,ff,tt,tt,tt,tt,tt,ff,ff,ff,ff,ff,ff,ff]) (.cells _ _ _ _) [19, 20] rfl (by kernel_rfl) rfl .here (V.load rfl inEnt (encAct.ld_S _) sc_9) rfl (by kernel_rfl) rfl ?_
      refine XQ.pv (i := 15) (l' := #[tt,tt,tt,tt,tt,tt,tt,tt,tt,ff,tt,tt,tt,tt,tt,tt,ff,ff,ff,ff,ff,ff]) rfl (by kernel_rfl) rfl (V.fieldAddr rfl fo_50_2) rfl rfl ?_
      refine XQ.load (i := 16) (l' := #[tt,tt,tt,tt,tt,tt,tt,tt,tt,ff,tt,tt,tt,tt,tt,tt,tt,ff,ff,ff,ff,ff]) (.cells _ _ _ _) [19, 20] rfl (by kernel_rfl) rfl .here (V.load rfl inEnt (encAct.ld_B _) sc_3) rfl (by kernel_rfl) rfl ?_
      refine XQ.pv (i := 17) (l' := #[tt,tt,tt,tt,tt,tt,tt,tt,tt,ff,tt,tt,tt,tt,tt,tt,tt,tt,ff,ff,ff,ff]) rfl (by kernel_rfl) rfl (V.fieldAddr rfl fo_50_7) rfl rfl ?_
      refine XQ.load (i := 18) (l' := #[tt,tt,tt,tt,tt,tt,tt,tt,tt,ff,tt,tt,tt,tt,tt,tt,tt,tt,tt,ff,ff,ff]) (.cells _ _ _ _) [19, 20] rfl (by kernel_rfl) rfl .here (V.load rfl inEnt (encAct.ld_T _) sc_9) rfl (by kernel_rfl) rfl ?_
      refine XQ.call (i := 9) (l' := #[tt,tt,tt,tt,tt,tt,tt,tt,tt,tt,tt,tt,tt,tt,tt,tt,tt,tt,tt,ff,ff,ff]) rfl (by kernel_rfl) rfl rfl (t_Move _ _ _ hS d (fun k => hO.inv.chI k) _ _ _ _ (by omega)) (.cons (.there .here) (.cons (.there .here) (.cons (.there .here) .nil))) cl_35 rfl (by rintro _ _ ⟨rfl, t, ht, tp, tc, rfl⟩; all_goals (intro _ hw'; exact ⟨fun _ => inXM (.t3 .here) _ hw', fun _ => inXM (.t3 .here) _ hw', fun _ => inXM (.t3 .here) _ hw', fun _ => inXM (.t3 .here) _ hw', fun hs => (hs 9 (by first | (simp; done) | (simp; rfl)) rfl).elim, fun hs => (hs 9 (by first | (simp; done) | (simp; rfl)) rfl).elim, fun hs => (hs 9 (by first | (simp; done) | (simp; rfl)) rfl).elim, fun hs => (hs 9 (by first | (simp; done) | (simp; rfl)) rfl).elim, trivial⟩)) ?_
      rintro _ _ ⟨rfl, t, ht, tp, tc, rfl⟩
      refine XQ.call (i := 19) (l' := #[tt,tt,tt,tt,tt,tt,tt,tt,tt,tt,tt,tt,tt,tt,tt,tt,tt,tt,tt,tt,ff,ff]) rfl (by kernel_rfl) rfl rfl (r_Move _ _ _ hSm d (fun k => by rw [hU]; exact hO.inv.chI k) _ _ _ _ (by omega)) (.cons (.t5 .here) (.cons (.t5 .here) (.cons (.t5 .here) .nil))) cl_36 rfl (by rintro _ _ ⟨rfl, u, hu, up, uc, rfl⟩; all_goals (intro _ hw'; exact ⟨fun hs => (hs 19 (by first | (simp; done) | (simp; rfl)) rfl).elim, fun hs => (hs 19 (by first | (simp; done) | (simp; rfl)) rfl).elim, fun hs => (hs 19 (by first | (simp; done) | (simp; rfl)) rfl).elim, fun hs => (hs 19 (by first | (simp; done) | (simp; rfl)) rfl).elim, fun hs => (hs 9 (by first | (simp; done) | (simp; rfl)) rfl).elim, fun hs => (hs 9 (by first | (simp; done) | (simp; rfl)) rfl).elim, fun hs => (hs 9 (by first | (simp; done) | (simp; rfl)) rfl).elim, fun hs => (hs 9 (by first | (simp; done) | (simp; rfl)) rfl).elim, trivial⟩)) ?_
      rintro _ _ ⟨rfl, u, hu, up, uc, rfl⟩
      refine XQ.call (i := 20) (l' := #[tt,tt,tt,tt,tt,tt,tt,tt,tt,tt,tt,tt,tt,tt,tt,tt,tt,tt,tt,tt,tt,ff]) rfl (by kernel_rfl) rfl rfl (same_any _ _ (by first | omega | exact FF.moveE_nn _ _ _ _ _ _)) .nil cl_9 rfl (by rintro _ _ ⟨rfl, rfl⟩; all_goals (intro _ hw'; exact ⟨fun hs => (hs 19 (by first | (simp; done) | (simp; rfl)) rfl).elim, fun hs => (hs 19 (by first | (simp; done) | (simp; rfl)) rfl).elim, fun hs => (hs 19 (by first | (simp; done) | (simp; rfl)) rfl).elim, fun hs => (hs 19 (by first | (simp; done) | (simp; rfl)) rfl).elim, fun hs => (hs 9 (by first | (simp; done) | (simp; rfl)) rfl).elim, fun hs => (hs 9 (by first | (simp; done) | (simp; rfl)) rfl).elim, fun hs => (hs 9 (by first | (simp; done) | (simp; rfl)) rfl).elim, fun hs => (hs 9 (by first | (simp; done) | (simp; rfl)) rfl).elim, trivial⟩)) ?_
      rintro _ _ ⟨rfl, rfl⟩
      refine XQ.pv (i := 21) (l' := #[tt,tt,tt,tt,tt,tt,tt,tt,tt,tt,tt,tt,tt,tt,tt,tt,tt,tt,tt,tt,tt,tt]) rfl (by kernel_rfl) rfl (V.assign rfl) rfl rfl ?_
      refine XQ.done (by kernel_rfl) ?_
      refine XE.next ?_
      refine XC.keep [(6, _)] (S1 rfl) ?_
      refine XC.ret ?_
      refine XE.blockRet ?_
      refine XE.thenRet ?_
      refine XE.ret1 rfl rfl (post_of (.cons (.t3 .here) (.cons (.t3 .here) (.cons (.t3 .here) (.cons (.t4 .here) (.cons .here (.cons .here (.cons .here (.cons (.there .here) .nil)))))))) rfl ?_)
      obtain ⟨d2, h2⟩ := hO.move a.a a.s a.b a.t
      exact ⟨congrArg Value.bool (decide_eq_true (by rw [hU])), t, u, _, by rw [hu, ht, hU], by rw [ht]; exact h2, (fun _ z a b => by rw [ht, FF.move_held]), by rw [tp, tc, up, uc, show (FC.toFF t).roots = s.roots from by rw [ht]; exact FF.move_roots _ _ _ _ _ _, show (FC.toFF u).roots = m.roots from by rw [hu]; exact FF.move_roots _ _ _ _ _ _]⟩
     ·
      refine XC.sr ?_
      refine XO.v (V.strCmp rfl rfl rfl) rfl ?_
      refine XO.as rfl rfl ?_
      refine XO.nk [(0, _), (1, _), (5, _), (24, _), (134, _)] (S5 rfl rfl rfl rfl rfl) ?_
      refine XC.condP rfl (fun h8 => ?_) (fun h8 => ?_)
      ·
       refine XC.seq ?_
       refine XC.regionQ mixed (f := 10) (l := #[false, false, false, false, false, false, false, false, false, false]) rfl rfl XM.drawn' ?_
       refine XQ.pv (i := 0) (l' := #[tt,ff,ff,ff,ff,ff,ff,ff,ff,ff]) rfl (by kernel_rfl) rfl (V.move rfl) rfl rfl ?_
       refine XQ.pv (i := 1) (l' := #[tt,tt,ff,ff,ff,ff,ff,ff,ff,ff]) rfl (by kernel_rfl) rfl (V.fieldAddr rfl fo_50_1) rfl rfl ?_
       refine XQ.load (i := 2) (l' := #[tt,tt,tt,ff,ff,ff,ff,ff,ff,ff]) (.cells _ _ _ _) [3, 7, 8] rfl (by kernel_rfl) rfl .here (V.load rfl inEnt (encAct.ld_A _) sc_3) rfl (by kernel_rfl) rfl ?_
       refine XQ.pv (i := 4) (l' := #[tt,tt,tt,ff,tt,ff,ff,ff,ff,ff]) rfl (by kernel_rfl) rfl (V.move rfl) rfl rfl ?_
       refine XQ.pv (i := 5) (l' := #[tt,tt,tt,ff,tt,tt,ff,ff,ff,ff]) rfl (by kernel_rfl) rfl (V.fieldAddr rfl fo_50_1) rfl rfl ?_
       refine XQ.load (i := 6) (l' := #[tt,tt,tt,ff,tt,tt,tt,ff,ff,ff]) (.cells _ _ _ _) [7, 8] rfl (by kernel_rfl) rfl .here (V.load rfl inEnt (encAct.ld_A _) sc_3) rfl (by kernel_rfl) rfl ?_
       refine XQ.call (i := 3) (l' := #[tt,tt,tt,tt,tt,tt,tt,ff,ff,ff]) rfl (by kernel_rfl) rfl rfl (t_Hold _ _ _ hS _) (.cons (.there .here) (.cons (.there .here) (.cons (.there .here) .nil))) cl_25 rfl (by rintro _ _ ⟨rfl, t, ht, tp, tc, rfl⟩; all_goals (intro _ hw'; exact ⟨fun _ => inXM (.t3 .here) _ hw', fun hs => (hs 3 (by first | (simp; done) | (simp; rfl)) rfl).elim, trivial⟩)) ?_
       rintro _ _ ⟨rfl, t, ht, tp, tc, rfl⟩
       refine XQ.call (i := 7) (l' := #[tt,tt,tt,tt,tt,tt,tt,tt,ff,ff]) rfl (by kernel_rfl) rfl rfl (r_Hold _ _ _ hSm _) (.cons (.t5 .here) (.cons (.t5 .here) (.cons (.t5 .here) .nil))) cl_29 rfl (by rintro _ _ ⟨rfl, u, hu, up, uc, rfl⟩; all_goals (intro _ hw'; exact ⟨fun hs => (hs 7 (by first | (simp; done) | (simp; rfl)) rfl).elim, fun hs => (hs 3 (by first | (simp; done) | (simp; rfl)) rfl).elim, trivial⟩)) ?_
       rintro _ _ ⟨rfl, u, hu, up, uc, rfl⟩
       refine XQ.call (i := 8) (l' := #[tt,tt,tt,tt,tt,tt,tt,tt,tt,ff]) rfl (by kernel_rfl) rfl rfl (same_any _ _ (by first | omega | exact FF.isE_nn _ _ _)) .nil cl_9 rfl (by rintro _ _ ⟨rfl, rfl⟩; all_goals (intro _ hw'; exact ⟨fun hs => (hs 7 (by first | (simp; done) | (simp; rfl)) rfl).elim, fun hs => (hs 3 (by first | (simp; done) | (simp; rfl)) rfl).elim, trivial⟩)) ?_
       rintro _ _ ⟨rfl, rfl⟩
       refine XQ.pv (i := 9) (l' := #[tt,tt,tt,tt,tt,tt,tt,tt,tt,tt]) rfl (by kernel_rfl) rfl (V.assign rfl) rfl rfl ?_
       refine XQ.done (by kernel_rfl) ?_
       refine XE.next ?_
       refine XC.keep [(6, _)] (S1 rfl) ?_
       refine XC.ret ?_
       refine XE.blockRet ?_
       refine XE.thenRet ?_
       refine XE.ret1 rfl rfl (post_of (.cons (.t3 .here) (.cons (.t3 .here) (.cons (.t3 .here) (.cons (.t4 .here) (.cons .here (.cons .here (.cons .here (.cons (.there .here) .nil)))))))) rfl ?_)
       have h2 := hO.hold a.a
       exact ⟨congrArg Value.bool (decide_eq_true (by rw [hU])), t, u, _, by rw [hu, ht, hU], by rw [ht]; exact h2, (fun q => by rcases q with q | q | q <;> first | contradiction | (simp_all)), by rw [tp, tc, up, uc, show (FC.toFF t).roots = s.roots from by rw [ht]; exact FF.hold_roots _ _, show (FC.toFF u).roots = m.roots from by rw [hu]; exact FF.hold_roots _ _]⟩
      ·
       refine XC.sr ?_
       refine XO.v (V.strCmp rfl rfl rfl) rfl ?_
       refine XO.as rfl rfl ?_
       refine XO.nk [(0, _), (1, _), (5, _), (24, _), (145, _)] (S5 rfl rfl rfl rfl rfl) ?_
       refine XC.condP rfl (fun h9 => ?_) (fun h9 => ?_)
       ·
        refine XC.seq ?_
        refine XC.regionQ mixed (f := 10) (l := #[false, false, false, false, false, false, false, false, false, false]) rfl rfl XM.drawn' ?_
        refine XQ.pv (i := 0) (l' := #[tt,ff,ff,ff,ff,ff,ff,ff,ff,ff]) rfl (by kernel_rfl) rfl (V.move rfl) rfl rfl ?_
        refine XQ.pv (i := 1) (l' := #[tt,tt,ff,ff,ff,ff,ff,ff,ff,ff]) rfl (by kernel_rfl) rfl (V.fieldAddr rfl fo_50_1) rfl rfl ?_
        refine XQ.load (i := 2) (l' := #[tt,tt,tt,ff,ff,ff,ff,ff,ff,ff]) (.cells _ _ _ _) [3, 7, 8] rfl (by kernel_rfl) rfl .here (V.load rfl inEnt (encAct.ld_A _) sc_3) rfl (by kernel_rfl) rfl ?_
        refine XQ.pv (i := 4) (l' := #[tt,tt,tt,ff,tt,ff,ff,ff,ff,ff]) rfl (by kernel_rfl) rfl (V.move rfl) rfl rfl ?_
        refine XQ.pv (i := 5) (l' := #[tt,tt,tt,ff,tt,tt,ff,ff,ff,ff]) rfl (by kernel_rfl) rfl (V.fieldAddr rfl fo_50_1) rfl rfl ?_
        refine XQ.load (i := 6) (l' := #[tt,tt,tt,ff,tt,tt,tt,ff,ff,ff]) (.cells _ _ _ _) [7, 8] rfl (by kernel_rfl) rfl .here (V.load rfl inEnt (encAct.ld_A _) sc_3) rfl (by kernel_rfl) rfl ?_
        refine XQ.call (i := 3) (l' := #[tt,tt,tt,tt,tt,tt,tt,ff,ff,ff]) rfl (by kernel_rfl) rfl rfl (t_Let _ _ _ hS _) (.cons (.there .here) (.cons (.there .here) (.cons (.there .here) .nil))) cl_37 rfl (by rintro _ _ ⟨rfl, t, ht, tp, tc, rfl⟩; all_goals (intro _ hw'; exact ⟨fun _ => inXM (.t3 .here) _ hw', fun hs => (hs 3 (by first | (simp; done) | (simp; rfl)) rfl).elim, trivial⟩)) ?_
        rintro _ _ ⟨rfl, t, ht, tp, tc, rfl⟩
        refine XQ.call (i := 7) (l' := #[tt,tt,tt,tt,tt,tt,tt,tt,ff,ff]) rfl (by kernel_rfl) rfl rfl (r_Let _ _ _ hSm _ (by rw [hU]; exact fun q => FF.Ok.links0 hO.inv q)) (.cons (.t5 .here) (.cons (.t5 .here) (.cons (.t5 .here) .nil))) cl_29 rfl (by rintro _ _ ⟨rfl, u, hu, up, uc, rfl⟩; all_goals (intro _ hw'; exact ⟨fun hs => (hs 7 (by first | (simp; done) | (simp; rfl)) rfl).elim, fun hs => (hs 3 (by first | (simp; done) | (simp; rfl)) rfl).elim, trivial⟩)) ?_
        rintro _ _ ⟨rfl, u, hu, up, uc, rfl⟩
        refine XQ.call (i := 8) (l' := #[tt,tt,tt,tt,tt,tt,tt,tt,tt,ff]) rfl (by kernel_rfl) rfl rfl (same_any _ _ (by first | omega | exact FF.letE_nn _ _)) .nil cl_9 rfl (by rintro _ _ ⟨rfl, rfl⟩; all_goals (intro _ hw'; exact ⟨fun hs => (hs 7 (by first | (simp; done) | (simp; rfl)) rfl).elim, fun hs => (hs 3 (by first | (simp; done) | (simp; rfl)) rfl).elim, trivial⟩)) ?_
        rintro _ _ ⟨rfl, rfl⟩
        refine XQ.pv (i := 9) (l' := #[tt,tt,tt,tt,tt,tt,tt,tt,tt,tt]) rfl (by kernel_rfl) rfl (V.assign rfl) rfl rfl ?_
        refine XQ.done (by kernel_rfl) ?_
        refine XE.next ?_
        refine XC.keep [(6, _)] (S1 rfl) ?_
        refine XC.ret ?_
        refine XE.blockRet ?_
        refine XE.thenRet ?_
        refine XE.ret1 rfl rfl (post_of (.cons (.t3 .here) (.cons (.t3 .here) (.cons (.t3 .here) (.cons (.t4 .here) (.cons .here (.cons .here (.cons .here (.cons (.there .here) .nil)))))))) rfl ?_)
        have h2 := hO.letF a.a
        exact ⟨congrArg Value.bool (decide_eq_true (by rw [hU])), t, u, _, by rw [hu, ht, hU], by rw [ht]; exact h2, (fun q => by rcases q with q | q | q <;> first | contradiction | (simp_all)), by rw [tp, tc, up, uc, show (FC.toFF t).roots = s.roots from by rw [ht]; exact FF.letF_roots _ _, show (FC.toFF u).roots = m.roots from by rw [hu]; exact FF.letF_roots _ _]⟩
       ·
        refine XC.sr ?_
        refine XO.v (V.strCmp rfl rfl rfl) rfl ?_
        refine XO.as rfl rfl ?_
        refine XO.nk [(0, _), (1, _), (5, _), (24, _), (156, _)] (S5 rfl rfl rfl rfl rfl) ?_
        refine XC.condP rfl (fun h10 => ?_) (fun h10 => ?_)
        ·
         refine XC.sr ?_
         refine XO.mv rfl rfl ?_
         refine XO.v (V.fieldAddr rfl fo_50_1) rfl ?_
         refine XO.v (V.load rfl (inXM .here) (encAct.ld_A _) sc_3) rfl ?_
         refine XO.v (V.fieldAddr rfl fo_50_6) rfl ?_
         refine XO.v (V.load rfl (inXM .here) (encAct.ld_S _) sc_9) rfl ?_
         refine XO.call rfl (t_Find _ _ _ hS _ _) (.cons (.there .here) (.cons (.there .here) (.cons (.there .here) .nil))) cl_38 rfl ?_
         rintro _ _ ⟨rfl, rfl⟩
         refine XO.mv rfl rfl ?_
         refine XO.v (V.extract rfl rfl) rfl ?_
         refine XO.v (V.extract rfl rfl) rfl ?_
         refine XO.as rfl rfl ?_
         refine XO.as rfl rfl ?_
         refine XO.nk [(1, _), (5, _), (15, _), (16, _)] (S4 rfl rfl rfl rfl) ?_
         refine XC.sr ?_
         refine XO.mv rfl rfl ?_
         refine XO.v (V.fieldAddr rfl fo_50_1) rfl ?_
         refine XO.v (V.load rfl (inXM (.t3 .here)) (encAct.ld_A _) sc_3) rfl ?_
         refine XO.v (V.fieldAddr rfl fo_50_6) rfl ?_
         refine XO.v (V.load rfl (inXM (.t3 .here)) (encAct.ld_S _) sc_9) rfl ?_
         refine XO.call rfl (r_Find _ _ _ hSm _ _) (.cons (.t5 .here) (.cons (.t5 .here) (.cons (.t5 .here) .nil))) cl_39 rfl ?_
         rintro _ _ ⟨rfl, rfl⟩
         refine XO.mv rfl rfl ?_
         refine XO.v (V.extract rfl rfl) rfl ?_
         refine XO.v (V.extract rfl rfl) rfl ?_
         refine XO.as rfl rfl ?_
         refine XO.as rfl rfl ?_
         refine XO.nk [(15, _), (16, _), (17, _), (18, _)] (S4 rfl rfl rfl rfl) ?_
         refine XC.sr ?_
         refine XO.mv rfl rfl ?_
         refine XO.mv rfl rfl ?_
         refine XO.v (V.cmp rfl rfl rfl) rfl ?_
         refine XO.mv rfl rfl ?_
         refine XO.splitT (d := 179) rfl (by rw [hU]) ?_
         refine XO.guardRun rfl rfl rfl ?_
         refine XO.mv rfl rfl ?_
         refine XO.guardRun rfl rfl rfl ?_
         refine XO.mv rfl rfl ?_
         refine XO.guardRun rfl rfl rfl ?_
         refine XO.call rfl (same_any _ _ (by first | omega | exact FF.findE_nn _ _ _)) .nil cl_9 rfl ?_
         rintro _ _ ⟨rfl, rfl⟩
         refine XO.v (V.pick rfl rfl rfl rfl) rfl ?_
         refine XO.as rfl rfl ?_
         refine XO.nk [(6, _)] (S1 rfl) ?_
         refine XC.ret ?_
         refine XE.blockRet ?_
         refine XE.thenRet ?_
         refine XE.ret1 rfl rfl (post_of (.cons (.t3 .here) (.cons (.t3 .here) (.cons (.t3 .here) (.cons (.t4 .here) (.cons .here (.cons .here (.cons .here (.cons (.there .here) .nil)))))))) rfl ?_)
         exact ⟨congrArg Value.bool (decide_eq_true (by rw [hU])), s, m, d, hU, hO.up1, (fun _ _ _ _ => rfl), rfl⟩
        ·
         refine XC.sr ?_
         refine XO.v (V.strCmp rfl rfl rfl) rfl ?_
         refine XO.as rfl rfl ?_
         refine XO.nk [(0, _), (1, _), (5, _), (24, _), (184, _)] (S5 rfl rfl rfl rfl rfl) ?_
         refine XC.condP rfl (fun h12 => ?_) (fun h12 => ?_)
         ·
          refine XC.sr ?_
          refine XO.mv rfl rfl ?_
          refine XO.v (V.fieldAddr rfl fo_50_1) rfl ?_
          refine XO.v (V.load rfl (inXM .here) (encAct.ld_A _) sc_3) rfl ?_
          refine XO.v (V.fieldAddr rfl fo_50_2) rfl ?_
          refine XO.v (V.load rfl (inXM .here) (encAct.ld_B _) sc_3) rfl ?_
          refine XO.v (V.fieldAddr rfl fo_50_3) rfl ?_
          refine XO.v (V.load rfl (inXM .here) (encAct.ld_C _) sc_3) rfl ?_
          refine XO.call rfl (t_Read _ _ _ hS _ _ _) (.cons (.there .here) .nil) cl_40 rfl ?_
          rintro _ _ ⟨rfl, rfl⟩
          refine XO.mv rfl rfl ?_
          refine XO.v (V.extract rfl rfl) rfl ?_
          refine XO.v (V.extract rfl rfl) rfl ?_
          refine XO.as rfl rfl ?_
          refine XO.as rfl rfl ?_
          refine XO.nk [(1, _), (5, _), (19, _), (20, _)] (S4 rfl rfl rfl rfl) ?_
          refine XC.sr ?_
          refine XO.mv rfl rfl ?_
          refine XO.v (V.fieldAddr rfl fo_50_1) rfl ?_
          refine XO.v (V.load rfl (inXM (.there .here)) (encAct.ld_A _) sc_3) rfl ?_
          refine XO.v (V.fieldAddr rfl fo_50_2) rfl ?_
          refine XO.v (V.load rfl (inXM (.there .here)) (encAct.ld_B _) sc_3) rfl ?_
          refine XO.v (V.fieldAddr rfl fo_50_3) rfl ?_
          refine XO.v (V.load rfl (inXM (.there .here)) (encAct.ld_C _) sc_3) rfl ?_
          refine XO.call rfl (r_Read _ _ _ hSm _ _ _) (.cons (.t5 .here) .nil) cl_41 rfl ?_
          rintro _ _ ⟨rfl, rfl⟩
          refine XO.mv rfl rfl ?_
          refine XO.v (V.extract rfl rfl) rfl ?_
          refine XO.v (V.extract rfl rfl) rfl ?_
          refine XO.as rfl rfl ?_
          refine XO.as rfl rfl ?_
          refine XO.nk [(19, _), (20, _), (21, _), (22, _)] (S4 rfl rfl rfl rfl) ?_
          refine XC.sr ?_
          refine XO.mv rfl rfl ?_
          refine XO.mv rfl rfl ?_
          refine XO.v (V.strCmp rfl rfl rfl) rfl ?_
          refine XO.mv rfl rfl ?_
          refine XO.splitT (d := 211) rfl (by rw [hU]) ?_
          refine XO.guardRun rfl rfl rfl ?_
          refine XO.mv rfl rfl ?_
          refine XO.guardRun rfl rfl rfl ?_
          refine XO.mv rfl rfl ?_
          refine XO.guardRun rfl rfl rfl ?_
          refine XO.call rfl (same_any _ _ (by first | omega | exact FF.readE_nn _ _ _ _)) .nil cl_9 rfl ?_
          rintro _ _ ⟨rfl, rfl⟩
          refine XO.v (V.pick rfl rfl rfl rfl) rfl ?_
          refine XO.as rfl rfl ?_
          refine XO.nk [(6, _)] (S1 rfl) ?_
          refine XC.ret ?_
          refine XE.blockRet ?_
          refine XE.thenRet ?_
          refine XE.ret1 rfl rfl (post_of (.cons (.there .here) (.cons (.t2 .here) (.cons (.t2 .here) (.cons (.t2 .here) (.cons .here (.cons (.there .here) (.cons (.there .here) (.cons (.there .here) .nil)))))))) rfl ?_)
          exact ⟨congrArg Value.bool (decide_eq_true (by rw [hU])), s, m, d, hU, hO.up1, (fun _ _ _ _ => rfl), rfl⟩
         ·
          refine XC.sr ?_
          refine XO.v (V.strCmp rfl rfl rfl) rfl ?_
          refine XO.as rfl rfl ?_
          refine XO.nk [(0, _), (1, _), (5, _), (216, _)] (S4 rfl rfl rfl rfl) ?_
          refine XC.condP rfl (fun h14 => ?_) (fun h14 => ?_)
          ·
           refine XC.seq ?_
           refine XC.regionQ mixed (f := 18) (l := #[false, false, false, false, false, false, false, false, false, false, false, false, false, false, false, false, false, false]) rfl rfl XM.drawn' ?_
           refine XQ.pv (i := 0) (l' := #[tt,ff,ff,ff,ff,ff,ff,ff,ff,ff,ff,ff,ff,ff,ff,ff,ff,ff]) rfl (by kernel_rfl) rfl (V.move rfl) rfl rfl ?_
           refine XQ.pv (i := 1) (l' := #[tt,tt,ff,ff,ff,ff,ff,ff,ff,ff,ff,ff,ff,ff,ff,ff,ff,ff]) rfl (by kernel_rfl) rfl (V.fieldAddr rfl fo_50_1) rfl rfl ?_
           refine XQ.load (i := 2) (l' := #[tt,tt,tt,ff,ff,ff,ff,ff,ff,ff,ff,ff,ff,ff,ff,ff,ff,ff]) (.cells _ _ _ _) [7, 15, 16] rfl (by kernel_rfl) rfl .here (V.load rfl inEnt (encAct.ld_A _) sc_3) rfl (by kernel_rfl) rfl ?_
           refine XQ.pv (i := 3) (l' := #[tt,tt,tt,tt,ff,ff,ff,ff,ff,ff,ff,ff,ff,ff,ff,ff,ff,ff]) rfl (by kernel_rfl) rfl (V.fieldAddr rfl fo_50_2) rfl rfl ?_
           refine XQ.load (i := 4) (l' := #[tt,tt,tt,tt,tt,ff,ff,ff,ff,ff,ff,ff,ff,ff,ff,ff,ff,ff]) (.cells _ _ _ _) [7, 15, 16] rfl (by kernel_rfl) rfl .here (V.load rfl inEnt (encAct.ld_B _) sc_3) rfl (by kernel_rfl) rfl ?_
           refine XQ.pv (i := 5) (l' := #[tt,tt,tt,tt,tt,tt,ff,ff,ff,ff,ff,ff,ff,ff,ff,ff,ff,ff]) rfl (by kernel_rfl) rfl (V.fieldAddr rfl fo_50_6) rfl rfl ?_
           refine XQ.load (i := 6) (l' := #[tt,tt,tt,tt,tt,tt,tt,ff,ff,ff,ff,ff,ff,ff,ff,ff,ff,ff]) (.cells _ _ _ _) [7, 15, 16] rfl (by kernel_rfl) rfl .here (V.load rfl inEnt (encAct.ld_S _) sc_9) rfl (by kernel_rfl) rfl ?_
           refine XQ.pv (i := 8) (l' := #[tt,tt,tt,tt,tt,tt,tt,ff,tt,ff,ff,ff,ff,ff,ff,ff,ff,ff]) rfl (by kernel_rfl) rfl (V.move rfl) rfl rfl ?_
           refine XQ.pv (i := 9) (l' := #[tt,tt,tt,tt,tt,tt,tt,ff,tt,tt,ff,ff,ff,ff,ff,ff,ff,ff]) rfl (by kernel_rfl) rfl (V.fieldAddr rfl fo_50_1) rfl rfl ?_
           refine XQ.load (i := 10) (l' := #[tt,tt,tt,tt,tt,tt,tt,ff,tt,tt,tt,ff,ff,ff,ff,ff,ff,ff]) (.cells _ _ _ _) [15, 16] rfl (by kernel_rfl) rfl .here (V.load rfl inEnt (encAct.ld_A _) sc_3) rfl (by kernel_rfl) rfl ?_
           refine XQ.pv (i := 11) (l' := #[tt,tt,tt,tt,tt,tt,tt,ff,tt,tt,tt,tt,ff,ff,ff,ff,ff,ff]) rfl (by kernel_rfl) rfl (V.fieldAddr rfl fo_50_2) rfl rfl ?_
           refine XQ.load (i := 12) (l' := #[tt,tt,tt,tt,tt,tt,tt,ff,tt,tt,tt,tt,tt,ff,ff,ff,ff,ff]) (.cells _ _ _ _) [15, 16] rfl (by kernel_rfl) rfl .here (V.load rfl inEnt (encAct.ld_B _) sc_3) rfl (by kernel_rfl) rfl ?_
           refine XQ.pv (i := 13) (l' := #[tt,tt,tt,tt,tt,tt,tt,ff,tt,tt,tt,tt,tt,tt,ff,ff,ff,ff]) rfl (by kernel_rfl) rfl (V.fieldAddr rfl fo_50_6) rfl rfl ?_
           refine XQ.load (i := 14) (l' := #[tt,tt,tt,tt,tt,tt,tt,ff,tt,tt,tt,tt,tt,tt,tt,ff,ff,ff]) (.cells _ _ _ _) [15, 16] rfl (by kernel_rfl) rfl .here (V.load rfl inEnt (encAct.ld_S _) sc_9) rfl (by kernel_rfl) rfl ?_
           refine XQ.call (i := 7) (l' := #[tt,tt,tt,tt,tt,tt,tt,tt,tt,tt,tt,tt,tt,tt,tt,ff,ff,ff]) rfl (by kernel_rfl) rfl rfl (t_Write _ _ _ hS _ _ _ (by omega)) (.cons (.there .here) (.cons (.there .here) (.cons (.there .here) .nil))) cl_42 rfl (by rintro _ _ ⟨rfl, t, ht, tp, tc, rfl⟩; all_goals (intro _ hw'; exact ⟨fun _ => inXM (.t3 .here) _ hw', fun _ => inXM (.t3 .here) _ hw', fun _ => inXM (.t3 .here) _ hw', fun hs => (hs 7 (by first | (simp; done) | (simp; rfl)) rfl).elim, fun hs => (hs 7 (by first | (simp; done) | (simp; rfl)) rfl).elim, fun hs => (hs 7 (by first | (simp; done) | (simp; rfl)) rfl).elim, trivial⟩)) ?_
           rintro _ _ ⟨rfl, t, ht, tp, tc, rfl⟩
           refine XQ.call (i := 15) (l' := #[tt,tt,tt,tt,tt,tt,tt,tt,tt,tt,tt,tt,tt,tt,tt,tt,ff,ff]) rfl (by kernel_rfl) rfl rfl (r_Write _ _ _ hSm _ _ _ (by omega)) (.cons (.t5 .here) (.cons (.t5 .here) (.cons (.t5 .here) .nil))) cl_43 rfl (by rintro _ _ ⟨rfl, u, hu, up, uc, rfl⟩; all_goals (intro _ hw'; exact ⟨fun hs => (hs 15 (by first | (simp; done) | (simp; rfl)) rfl).elim, fun hs => (hs 15 (by first | (simp; done) | (simp; rfl)) rfl).elim, fun hs => (hs 15 (by first | (simp; done) | (simp; rfl)) rfl).elim, fun hs => (hs 7 (by first | (simp; done) | (simp; rfl)) rfl).elim, fun hs => (hs 7 (by first | (simp; done) | (simp; rfl)) rfl).elim, fun hs => (hs 7 (by first | (simp; done) | (simp; rfl)) rfl).elim, trivial⟩)) ?_
           rintro _ _ ⟨rfl, u, hu, up, uc, rfl⟩
           refine XQ.call (i := 16) (l' := #[tt,tt,tt,tt,tt,tt,tt,tt,tt,tt,tt,tt,tt,tt,tt,tt,tt,ff]) rfl (by kernel_rfl) rfl rfl (same_any _ _ (by first | omega | exact FF.writeE_nn _ _ _ _)) .nil cl_9 rfl (by rintro _ _ ⟨rfl, rfl⟩; all_goals (intro _ hw'; exact ⟨fun hs => (hs 15 (by first | (simp; done) | (simp; rfl)) rfl).elim, fun hs => (hs 15 (by first | (simp; done) | (simp; rfl)) rfl).elim, fun hs => (hs 15 (by first | (simp; done) | (simp; rfl)) rfl).elim, fun hs => (hs 7 (by first | (simp; done) | (simp; rfl)) rfl).elim, fun hs => (hs 7 (by first | (simp; done) | (simp; rfl)) rfl).elim, fun hs => (hs 7 (by first | (simp; done) | (simp; rfl)) rfl).elim, trivial⟩)) ?_
           rintro _ _ ⟨rfl, rfl⟩
           refine XQ.pv (i := 17) (l' := #[tt,tt,tt,tt,tt,tt,tt,tt,tt,tt,tt,tt,tt,tt,tt,tt,tt,tt]) rfl (by kernel_rfl) rfl (V.assign rfl) rfl rfl ?_
           refine XQ.done (by kernel_rfl) ?_
           refine XE.next ?_
           refine XC.keep [(6, _)] (S1 rfl) ?_
           refine XC.ret ?_
           refine XE.blockRet ?_
           refine XE.thenRet ?_
           refine XE.ret1 rfl rfl (post_of (.cons (.t3 .here) (.cons (.t3 .here) (.cons (.t3 .here) (.cons (.t4 .here) (.cons .here (.cons .here (.cons .here (.cons (.there .here) .nil)))))))) rfl ?_)
           have h2 := hO.write a.a a.b a.s
           exact ⟨congrArg Value.bool (decide_eq_true (by rw [hU])), t, u, _, by rw [hu, ht, hU], by rw [ht]; exact h2, (fun q => by rcases q with q | q | q <;> first | contradiction | (simp_all)), by rw [tp, tc, up, uc, show (FC.toFF t).roots = s.roots from by rw [ht]; exact FF.write_roots _ _ _ _, show (FC.toFF u).roots = m.roots from by rw [hu]; exact FF.write_roots _ _ _ _]⟩
          ·
           refine XC.skip ?_
           refine XE.blockNormal ?_
           refine XE.next ?_
           refine XC.keep [(0, _), (1, _), (5, _)] (S3 rfl rfl rfl) ?_
           refine XC.seq ?_
           refine XC.regionQ mixed (f := 14) (l := #[false, false, false, false, false, false, false, false, false, false, false, false, false, false]) rfl rfl XM.drawn' ?_
           refine XQ.pv (i := 0) (l' := #[tt,ff,ff,ff,ff,ff,ff,ff,ff,ff,ff,ff,ff,ff]) rfl (by kernel_rfl) rfl (V.move rfl) rfl rfl ?_
           refine XQ.pv (i := 1) (l' := #[tt,tt,ff,ff,ff,ff,ff,ff,ff,ff,ff,ff,ff,ff]) rfl (by kernel_rfl) rfl (V.fieldAddr rfl fo_50_1) rfl rfl ?_
           refine XQ.load (i := 2) (l' := #[tt,tt,tt,ff,ff,ff,ff,ff,ff,ff,ff,ff,ff,ff]) (.cells _ _ _ _) [5, 11, 12] rfl (by kernel_rfl) rfl .here (V.load rfl inEnt (encAct.ld_A _) sc_3) rfl (by kernel_rfl) rfl ?_
           refine XQ.pv (i := 3) (l' := #[tt,tt,tt,tt,ff,ff,ff,ff,ff,ff,ff,ff,ff,ff]) rfl (by kernel_rfl) rfl (V.fieldAddr rfl fo_50_2) rfl rfl ?_
           refine XQ.load (i := 4) (l' := #[tt,tt,tt,tt,tt,ff,ff,ff,ff,ff,ff,ff,ff,ff]) (.cells _ _ _ _) [5, 11, 12] rfl (by kernel_rfl) rfl .here (V.load rfl inEnt (encAct.ld_B _) sc_3) rfl (by kernel_rfl) rfl ?_
           refine XQ.pv (i := 6) (l' := #[tt,tt,tt,tt,tt,ff,tt,ff,ff,ff,ff,ff,ff,ff]) rfl (by kernel_rfl) rfl (V.move rfl) rfl rfl ?_
           refine XQ.pv (i := 7) (l' := #[tt,tt,tt,tt,tt,ff,tt,tt,ff,ff,ff,ff,ff,ff]) rfl (by kernel_rfl) rfl (V.fieldAddr rfl fo_50_1) rfl rfl ?_
           refine XQ.load (i := 8) (l' := #[tt,tt,tt,tt,tt,ff,tt,tt,tt,ff,ff,ff,ff,ff]) (.cells _ _ _ _) [11, 12] rfl (by kernel_rfl) rfl .here (V.load rfl inEnt (encAct.ld_A _) sc_3) rfl (by kernel_rfl) rfl ?_
           refine XQ.pv (i := 9) (l' := #[tt,tt,tt,tt,tt,ff,tt,tt,tt,tt,ff,ff,ff,ff]) rfl (by kernel_rfl) rfl (V.fieldAddr rfl fo_50_2) rfl rfl ?_
           refine XQ.load (i := 10) (l' := #[tt,tt,tt,tt,tt,ff,tt,tt,tt,tt,tt,ff,ff,ff]) (.cells _ _ _ _) [11, 12] rfl (by kernel_rfl) rfl .here (V.load rfl inEnt (encAct.ld_B _) sc_3) rfl (by kernel_rfl) rfl ?_
           refine XQ.call (i := 5) (l' := #[tt,tt,tt,tt,tt,tt,tt,tt,tt,tt,tt,ff,ff,ff]) rfl (by kernel_rfl) rfl rfl (t_Cut _ _ _ hS _ _) (.cons (.there .here) (.cons (.there .here) (.cons (.there .here) .nil))) cl_44 rfl (by rintro _ _ ⟨rfl, t, ht, tp, tc, rfl⟩; all_goals (intro _ hw'; exact ⟨fun _ => inXM (.t3 .here) _ hw', fun _ => inXM (.t3 .here) _ hw', fun hs => (hs 5 (by first | (simp; done) | (simp; rfl)) rfl).elim, fun hs => (hs 5 (by first | (simp; done) | (simp; rfl)) rfl).elim, trivial⟩)) ?_
           rintro _ _ ⟨rfl, t, ht, tp, tc, rfl⟩
           refine XQ.call (i := 11) (l' := #[tt,tt,tt,tt,tt,tt,tt,tt,tt,tt,tt,tt,ff,ff]) rfl (by kernel_rfl) rfl rfl (r_Cut _ _ _ hSm _ _) (.cons (.t5 .here) (.cons (.t5 .here) (.cons (.t5 .here) .nil))) cl_45 rfl (by rintro _ _ ⟨rfl, u, hu, up, uc, rfl⟩; all_goals (intro _ hw'; exact ⟨fun hs => (hs 11 (by first | (simp; done) | (simp; rfl)) rfl).elim, fun hs => (hs 11 (by first | (simp; done) | (simp; rfl)) rfl).elim, fun hs => (hs 5 (by first | (simp; done) | (simp; rfl)) rfl).elim, fun hs => (hs 5 (by first | (simp; done) | (simp; rfl)) rfl).elim, trivial⟩)) ?_
           rintro _ _ ⟨rfl, u, hu, up, uc, rfl⟩
           refine XQ.call (i := 12) (l' := #[tt,tt,tt,tt,tt,tt,tt,tt,tt,tt,tt,tt,tt,ff]) rfl (by kernel_rfl) rfl rfl (same_any _ _ (by first | omega | exact FF.clipE_nn _ _ _)) .nil cl_9 rfl (by rintro _ _ ⟨rfl, rfl⟩; all_goals (intro _ hw'; exact ⟨fun hs => (hs 11 (by first | (simp; done) | (simp; rfl)) rfl).elim, fun hs => (hs 11 (by first | (simp; done) | (simp; rfl)) rfl).elim, fun hs => (hs 5 (by first | (simp; done) | (simp; rfl)) rfl).elim, fun hs => (hs 5 (by first | (simp; done) | (simp; rfl)) rfl).elim, trivial⟩)) ?_
           rintro _ _ ⟨rfl, rfl⟩
           refine XQ.pv (i := 13) (l' := #[tt,tt,tt,tt,tt,tt,tt,tt,tt,tt,tt,tt,tt,tt]) rfl (by kernel_rfl) rfl (V.assign rfl) rfl rfl ?_
           refine XQ.done (by kernel_rfl) ?_
           refine XE.next ?_
           refine XC.keep [(6, _)] (S1 rfl) ?_
           refine XC.ret ?_
           refine XE.ret1 rfl rfl (post_of (.cons (.t3 .here) (.cons (.t3 .here) (.cons (.t3 .here) (.cons (.t4 .here) (.cons .here (.cons .here (.cons .here (.cons (.there .here) .nil)))))))) rfl ?_)
           have h2 := hO.clip a.a a.b
           exact ⟨congrArg Value.bool (decide_eq_true (by rw [hU])), t, u, _, by rw [hu, ht, hU], by rw [ht]; exact h2, (fun q => by rcases q with q | q | q <;> first | contradiction | (simp_all)), by rw [tp, tc, up, uc, show (FC.toFF t).roots = s.roots from by rw [ht]; exact FF.clip_roots _ _ _, show (FC.toFF u).roots = m.roots from by rw [hu]; exact FF.clip_roots _ _ _]⟩
end Go.X

namespace Go.X
open Go Go.Proofs
theorem cl_23 : callable Tryz.prog 23 = true := by kernel_rfl
theorem cl_7 : callable Tryz.prog 7 = true := by kernel_rfl
theorem cl_8 : callable Tryz.prog 8 = true := by kernel_rfl
set_option maxRecDepth 10000 in
set_option maxHeartbeats 4000000 in
theorem leads_any  : Spec Tryz.prog 4 []
    []
    (fun v H1 => v = .bool true ∧ H1 = []) := by
 obtain ⟨d1, o1⟩ := FF.inv_void.plant
 obtain ⟨d2, o2⟩ := o1.make 0 ⟨#[97]⟩ 2
 refine Spec.intro Tryz.func4 rfl rfl ?_
 intro W
 refine XC.sr ?_
 refine XO.as rfl rfl ?_
 refine XO.nk [] (Sub.nil _) ?_
 refine XC.sr ?_
 refine XO.call rfl (t_New) .nil cl_7 rfl ?_
 rintro _ _ ⟨bf, rfl, rfl⟩
 refine XO.as rfl rfl ?_
 refine XO.nk [(1, _)] (S1 rfl) ?_
 refine XC.seq ?_
 refine XC.sr ?_
 refine XO.mv rfl rfl ?_
 refine XO.v (V.ptrNilP rfl Tryz.underlying25 rfl) rfl ?_
 refine XO.nk [(1, _), (12, _)] (S2 rfl rfl) ?_
 refine XC.condF rfl rfl ?_
 refine XC.skip ?_
 refine XE.next ?_
 refine XC.keep [(1, _)] (S1 rfl) ?_
 refine XC.sr ?_
 refine XO.mv rfl rfl ?_
 refine XO.call rfl (t_Plant _ _ _ (FF.inv_void.sh (by omega))) .h4 cl_10 rfl ?_
 rintro _ _ ⟨s1, rfl, hs1, rfl⟩
 have e1 : s1.toFF = MTop.L1 := hs1
 have hS1 : s1.toFF.Sh := by rw [e1]; exact o1.sh (by omega)
 rw [show FF.plantE FC.void.toFF = 0 from MTop.p1]
 refine XO.mv rfl rfl ?_
 refine XO.v (V.extract rfl rfl) rfl ?_
 refine XO.v (V.extract rfl rfl) rfl ?_
 refine XO.as rfl rfl ?_
 refine XO.as rfl rfl ?_
 refine XO.nk [(1, _), (3, _)] (S2 rfl rfl) ?_
 refine XC.sr ?_
 refine XO.mv rfl rfl ?_
 refine XO.call rfl (t_Make _ _ _ hS1 _ _ _ (by decide)) .h3 cl_22 rfl ?_
 rintro _ _ ⟨rfl, s2, hs2, hp2, hc2, rfl⟩
 rw [e1] at hs2
 have e2 : s2.toFF = MTop.L2 := hs2
 have hO2 : s2.toFF.Ok d2 2 := by rw [e2]; exact o2
 have hr0 : s2.rootV 0 = 0 := by rw [e2]; exact MTop.l2.2
 rw [show irow (FC.rP s1) (FC.rC s1) 3 (FC.toFF s1).roots = irow (FC.rP s2) (FC.rC s2) 3 (FC.toFF s2).roots from by rw [hp2, hc2, e2, e1]; exact congrArg _ (FF.make_roots _ _ _ _).symm]
 rw [e1, MTop.l1.1, MTop.l1.2]
 refine XO.mv rfl rfl ?_
 refine XO.v (V.extract rfl rfl) rfl ?_
 refine XO.v (V.extract rfl rfl) rfl ?_
 refine XO.as rfl rfl ?_
 refine XO.as rfl rfl ?_
 refine XO.nk [(1, _), (3, _), (4, _), (5, _)] (S4 rfl rfl rfl rfl) ?_
 refine XC.sr ?_
 refine XO.mv rfl rfl ?_
 refine XO.call rfl (m_New _ s2 d2 2 hO2 (by omega) 0) .h4 cl_8 rfl ?_
 rintro _ _ (⟨n0, rfl, rfl⟩ | ⟨n0, btt, s3, rfl, hh3, p3, c3, rfl⟩)
 ·
  exact absurd (show s2.rootE 0 = 0 by rw [e2]; exact MTop.l2.1) n0
 ·
  rw [hr0] at hh3
  rw [hr0]
  have hO3 : s3.toFF.Ok d2 3 := by rw [hh3]; exact hO2.hold 0
  have e3 : s3.toFF = MTop.L3 := by rw [hh3, e2]; rfl
  refine XO.mv rfl rfl ?_
  refine XO.v (V.extract rfl rfl) rfl ?_
  refine XO.v (V.extract rfl rfl) rfl ?_
  refine XO.as rfl rfl ?_
  refine XO.as rfl rfl ?_
  refine XO.nk [(3, _), (4, _), (5, _), (6, _), (7, _)] (S5 rfl rfl rfl rfl rfl) ?_
  refine XC.seq ?_
  refine XC.sr ?_
  refine XO.mv rfl rfl ?_
  refine XO.v (V.errNil rfl Tryz.underlying37 rfl) rfl ?_
  refine XO.mv rfl rfl ?_
  refine XO.splitF (d := 30) rfl (fun q => q rfl) ?_
  refine XO.guardRun rfl rfl rfl ?_
  refine XO.mv rfl rfl ?_
  refine XO.guardRun rfl rfl rfl ?_
  refine XO.v (V.errNil rfl Tryz.underlying37 rfl) rfl ?_
  refine XO.v (V.pick rfl rfl rfl rfl) rfl ?_
  refine XO.mv rfl rfl ?_
  refine XO.splitF (d := 34) rfl (fun q => q rfl) ?_
  refine XO.guardRun rfl rfl rfl ?_
  refine XO.mv rfl rfl ?_
  refine XO.guardRun rfl rfl rfl ?_
  refine XO.v (V.nilNil rfl Tryz.underlying37 rfl) rfl ?_
  refine XO.v (V.pick rfl rfl rfl rfl) rfl ?_
  refine XO.mv rfl rfl ?_
  refine XO.guardRun rfl rfl rfl ?_
  refine XO.mv rfl rfl ?_
  refine XO.guardRun rfl rfl rfl ?_
  refine XO.v (V.ptrNilP rfl Tryz.underlying35 rfl) rfl ?_
  refine XO.v (V.pick rfl rfl rfl rfl) rfl ?_
  refine XO.nk [(4, _), (6, _), (41, _)] (S3 rfl rfl rfl) ?_
  refine XC.condF rfl rfl ?_
  refine XC.skip ?_
  refine XE.next ?_
  refine XC.keep [(4, _), (6, _)] (S2 rfl rfl) ?_
  refine XC.sr ?_
  refine XO.mv rfl rfl ?_
  refine XO.call rfl (m_Walk _ _ _ [] _ _ _ _ _ C0_ok (MC.nil _) (Nat.zero_le _) s3 (hO3.sh (by omega)) _ (by decide)) .h5 cl_23 rfl ?_
  rintro _ _ ⟨rfl, rfl⟩
  rw [e3, MTop.l3.1, MTop.l3.2]
  refine XO.mv rfl rfl ?_
  refine XO.v (V.extract rfl rfl) rfl ?_
  refine XO.v (V.extract rfl rfl) rfl ?_
  refine XO.allocZ (z := .agg (WH.arr WH.nil)) (m := 2) (C := encW WH.nil) (by kernel_rfl) rfl (encW.box _) rfl ?_
  intro b8
  refine XO.storeAgg rfl rfl .here (encW.st _ _) ⟨rfl, rfl⟩ sz_56_2 ?_
  refine XO.as rfl rfl ?_
  refine XO.nk [(4, _), (8, _), (9, _)] (S3 rfl rfl rfl) ?_
  refine XC.sr ?_
  refine XO.mv rfl rfl ?_
  refine XO.call rfl (same_any _ _ (by first | omega | exact Int.le_refl _)) .nil cl_9 rfl ?_
  rintro _ _ ⟨rfl, rfl⟩
  refine XO.mv rfl rfl ?_
  refine XO.splitT (d := 49) rfl (rfl) ?_
  refine XO.guardRun rfl rfl rfl ?_
  refine XO.v (V.loadAgg rfl (inXM .here) (encW.agg _) ag_56 sz_56_2) rfl ?_
  refine XO.guardRun rfl rfl rfl ?_
  refine XO.mv rfl rfl ?_
  refine XO.guardRun rfl rfl rfl ?_
  refine XO.v (V.build (vs := #[(1, .int .i64 1)]) rfl (v := .agg (WH.arr ⟨0, 1⟩)) (fun _ => by kernel_rfl)) rfl ?_
  refine XO.guardRun rfl rfl rfl ?_
  refine XO.v (V.eqW rfl rfl whEq) rfl ?_
  refine XO.v (V.pick rfl rfl rfl rfl) rfl ?_
  refine XO.mv rfl rfl ?_
  refine XO.splitT (d := 55) rfl (rfl) ?_
  refine XO.guardRun rfl rfl rfl ?_
  refine XO.mv rfl rfl ?_
  refine XO.guardRun rfl rfl rfl ?_
  refine XO.v (V.cmp rfl rfl rfl) rfl ?_
  refine XO.v (V.pick rfl rfl rfl rfl) rfl ?_
  refine XO.as rfl rfl ?_
  refine XO.nk [(0, _)] (S1 rfl) ?_
  refine XC.ret ?_
  refine XE.ret1 rfl rfl (post_of .nil rfl ?_)
  exact ⟨rfl, rfl⟩
set_option maxRecDepth 10000 in
set_option maxHeartbeats 2000000 in
theorem same_mounts (l : List MT) (p : Option Addr) (cap k c : Nat) (C : Nat → Value) (hv : RV.ok ⟨p, cap, k, l.length, c, C⟩) (hC : MC C l) (hm6 : l.length ≤ 6) (p' : Option Addr) (cap' k' c' : Nat) (C' : Nat → Value) (hv' : RV.ok ⟨p', cap', k', l.length, c', C'⟩) (hC' : MC C' l) : Spec Tryz.prog 19 [.slice p l.length c, .slice p' l.length c']
    [frow p cap 98 4 k C, frow p' cap' 98 4 k' C']
    (fun v H1 => v = .bool true ∧ H1 = [frow p cap 98 4 k C, frow p' cap' 98 4 k' C']) := by
 have hlk := RV.ok_le hv
 have hlk : l.length ≤ k := hlk
 have hlk' := RV.ok_le hv'
 have hlk' : l.length ≤ k' := hlk'
 refine Spec.intro Tryz.func19 rfl rfl ?_
 intro W
 refine XC.sr ?_
 refine XO.as rfl rfl ?_
 refine XO.nk [(0, _), (1, _)] (S2 rfl rfl) ?_
 refine XC.seq ?_
 refine XC.sr ?_
 refine XO.mv rfl rfl ?_
 refine XO.v (V.lenSl rfl Tryz.underlying58) rfl ?_
 refine XO.mv rfl rfl ?_
 refine XO.v (V.lenSl rfl Tryz.underlying58) rfl ?_
 refine XO.v (V.cmp rfl rfl rfl) rfl ?_
 refine XO.nk [(0, _), (1, _), (10, _)] (S3 rfl rfl rfl) ?_
 refine XC.condFP rfl (fun h => h rfl) ?_
 refine XC.skip ?_
 refine XE.next ?_
 refine XC.keep [(0, _), (1, _)] (S2 rfl rfl) ?_
 refine XC.seq ?_
 refine XC.sr ?_
 refine XO.as rfl rfl ?_
 refine XO.nk [(0, _), (1, _), (5, _)] (S3 rfl rfl rfl) ?_
 refine XC.block ?_
 refine XC.loop (σ := Int) (fun i => (l.length - i).toNat) (fun i => 0 ≤ i ∧ i ≤ l.length) (fun i => [(5, .int .i64 i), (0, .slice p l.length c), (1, .slice p' l.length c')]) (fun i => XM W (foot [frow p cap 98 4 k C, frow p' cap' 98 4 k' C']) [frow p cap 98 4 k C, frow p' cap' 98 4 k' C']) (0) ?_ (S3 rfl rfl rfl) (fun _ hw => XM.pick .h2 hw) ?_
 ·
  exact ⟨by omega, by omega⟩
 intro i hi
 obtain ⟨hi0, hi1⟩ := hi
 refine XC.seq ?_
 refine XC.sr ?_
 refine XO.mv rfl rfl ?_
 refine XO.mv rfl rfl ?_
 refine XO.v (V.lenSl rfl Tryz.underlying58) rfl ?_
 refine XO.v (V.cmp rfl rfl rfl) rfl ?_
 refine XO.nk [(0, _), (1, _), (5, _), (14, _)] (S4 rfl rfl rfl rfl) ?_
 refine XC.condP rfl (fun h1 => ?_) (fun h1 => ?_)
 ·
  refine XC.skip ?_
  refine XE.next ?_
  refine XC.keep [(0, _), (1, _), (5, _)] (S3 rfl rfl rfl) ?_
  refine XC.seq ?_
  refine XC.block ?_
  refine XC.seq ?_
  refine XC.regionQ mixed (f := 9) (l := #[false, false, false, false, false, false, false, false, false]) rfl rfl XM.drawn' ?_
  refine XQ.openRow .here (by omega) ?_
  intro g hg
  subst hg
  refine XQ.openRow (.there .here) (by omega) ?_
  intro g2 hg2
  subst hg2
  refine XQ.pv (i := 0) (l' := #[tt,ff,ff,ff,ff,ff,ff,ff,ff]) rfl (by kernel_rfl) rfl (V.move rfl) rfl rfl ?_
  refine XQ.pv (i := 1) (l' := #[tt,tt,ff,ff,ff,ff,ff,ff,ff]) rfl (by kernel_rfl) rfl (V.move rfl) rfl rfl ?_
  refine XQ.pv (i := 2) (l' := #[tt,tt,tt,ff,ff,ff,ff,ff,ff]) rfl (by kernel_rfl) rfl (V.indexSl rfl rfl sl_58 (by omega)) rfl rfl ?_
  refine XQ.load (i := 3) (l' := #[tt,tt,tt,tt,ff,ff,ff,ff,ff]) (.row _ _ _ _ _) [] rfl (by kernel_rfl) rfl .here (V.loadFA rfl inEnt (hC.ld hlk _ (by omega)) ag_98 sz_98_4) rfl (by kernel_rfl) rfl ?_
  refine XQ.pv (i := 4) (l' := #[tt,tt,tt,tt,tt,ff,ff,ff,ff]) rfl (by kernel_rfl) rfl (V.move rfl) rfl rfl ?_
  refine XQ.pv (i := 5) (l' := #[tt,tt,tt,tt,tt,tt,ff,ff,ff]) rfl (by kernel_rfl) rfl (V.move rfl) rfl rfl ?_
  refine XQ.pv (i := 6) (l' := #[tt,tt,tt,tt,tt,tt,tt,ff,ff]) rfl (by kernel_rfl) rfl (V.indexSl rfl rfl sl_58 (by omega)) rfl rfl ?_
  refine XQ.load (i := 7) (l' := #[tt,tt,tt,tt,tt,tt,tt,tt,ff]) (.row _ _ _ _ _) [] rfl (by kernel_rfl) rfl (.there .here) (V.loadFA rfl inEnt (hC'.ld hlk' _ (by omega)) ag_98 sz_98_4) rfl (by kernel_rfl) rfl ?_
  refine XQ.pv (i := 8) (l' := #[tt,tt,tt,tt,tt,tt,tt,tt,tt]) rfl (by kernel_rfl) rfl (V.aggNe2 rfl rfl mtEq (MT.ints _)) rfl rfl ?_
  refine XQ.done (by kernel_rfl) ?_
  refine XE.next ?_
  refine XC.keep [(0, _), (1, _), (5, _), (25, _)] (S4 rfl rfl rfl rfl) ?_
  refine XC.condF rfl rfl ?_
  refine XC.skip ?_
  refine XE.blockNormal ?_
  refine XE.next ?_
  refine XC.keep [(0, _), (1, _), (5, _)] (S3 rfl rfl rfl) ?_
  refine XC.region ?_
  refine XO.mv rfl rfl ?_
  refine XO.v (V.add rfl rfl _ (IntWalk.i64_in _ (by omega))) rfl ?_
  refine XO.as rfl rfl ?_
  refine XO.nil ?_
  refine XE.again (i + 1) ?_ ?_ (S3 rfl rfl rfl) (fun _ hw => XM.pick .h2 hw)
  ·
   (first | omega | (simp; done) | (simp; omega))
  ·
   exact ⟨by omega, by omega⟩
 ·
  refine XC.exit ?_
  refine XE.thenExit ?_
  refine XE.thenExit ?_
  refine XE.blockExit ?_
  refine XE.next ?_
  refine XC.keep [] (Sub.nil _) ?_
  refine XC.sr ?_
  refine XO.as rfl rfl ?_
  refine XO.nk [(4, _)] (S1 rfl) ?_
  refine XC.ret ?_
  refine XE.ret1 rfl rfl (post_of .h2 rfl ?_)
  exact ⟨rfl, rfl⟩
end Go.X
