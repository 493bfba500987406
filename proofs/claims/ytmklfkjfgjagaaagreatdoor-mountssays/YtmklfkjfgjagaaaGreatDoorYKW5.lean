import Derived.Test.YtmklfkjfgjagaaaGreatDoorXShort
import Derived.Test.YtmklfkjfgjagaaaGreatDoorYKW4
import Derived.Test.YtmklfkjfgjagaaaGreatDoorNTM
namespace Go.X
open Go Go.Proofs
theorem fo_116_0 : fieldOff Tryz.prog 116 0 = some 0 := by kernel_rfl
set_option maxRecDepth 10000 in
set_option maxHeartbeats 8000000 in
theorem m_Bind (bt bf : Nat) (r : WH) (l : List MT) (p : Option Addr) (cap k c : Nat) (C : Nat → Value) (hv : RV.ok ⟨p, cap, k, l.length, c, C⟩) (hC : MC C l) (hm6 : l.length ≤ 6) (s : FC) (d : Int → Nat) (B : Int) (hO : s.toFF.Ok d B) (hB : B ≤ 900000) (a z : WH) : Spec Tryz.prog 49 [ptr bt 0 0, .agg (WH.arr a), .agg (WH.arr z)]
    [.cells bt 0 4 (encT bf r (.slice p l.length c)), frow p cap 98 4 k C, .cells bf 0 321 (encF s), .fam fam40 (FC.rowsN 9 s), .fam fam40 (FC.rowsK 3 s)]
    (fun v H1 => v = errv 76 (bindE s.toFF l a z) ∧ ∃ (p' : Option Addr) (cap' k' c' : Nat) (C' : Nat → Value) (u : FC), RV.ok ⟨p', cap', k', (bindL s.toFF l a z).length, c', C'⟩ ∧ MC C' (bindL s.toFF l a z) ∧ u.toFF = bindF s.toFF l a z ∧ u.rP = s.rP ∧ u.rC = s.rC ∧ H1 = [.cells bt 0 4 (encT bf r (.slice p' (bindL s.toFF l a z).length c')), frow p' cap' 98 4 k' C', .cells bf 0 321 (encF u), .fam fam40 (FC.rowsN 9 u), .fam fam40 (FC.rowsK 3 u)]) := by
 have hlk := RV.ok_le hv
 have hlk : l.length ≤ k := hlk
 have hI := hO.sh (by omega)
 refine Spec.intro Tryz.func49 rfl rfl ?_
 intro W
 refine XC.sr ?_
 refine XO.box (m := 2) (C := encW (a)) rfl rfl (encW.box _) rfl ?_
 intro ba
 refine XO.box (m := 2) (C := encW (z)) rfl rfl (encW.box _) rfl ?_
 intro bz
 refine XO.as rfl rfl ?_
 refine XO.nk [(0, _), (4, _), (5, _)] (S3 rfl rfl rfl) ?_
 refine XC.seq ?_
 refine XC.sr ?_
 refine XO.v (V.loadAgg rfl (inXM (.there .here)) (encW.agg _) ag_56 sz_56_2) rfl ?_
 refine XO.v (V.loadAgg rfl (inXM .here) (encW.agg _) ag_56 sz_56_2) rfl ?_
 refine XO.buildRow (e := 56) (vs := #[(0, .agg (WH.arr a)), (1, .agg (WH.arr z))]) (A := #[.int .i64 a.tree, .int .i64 a.node, .int .i64 z.tree, .int .i64 z.node]) (sz := 2) rfl (fun _ => by kernel_rfl) rfl (by omega) rfl ?_
 intro bw
 refine XO.v (V.lenSl rfl Tryz.underlying135) rfl ?_
 refine XO.mv rfl rfl ?_
 refine XO.nk [(0, _), (4, _), (5, _), (17, _), (18, _), (19, _)] (S6 rfl rfl rfl rfl rfl rfl) ?_
 refine XC.block ?_
 refine XC.loop (σ := Int) (fun i => (2 - i).toNat) (fun i => (0 ≤ i ∧ i ≤ 2) ∧ (1 ≤ i → dirE s.toFF a = 0) ∧ (2 ≤ i → dirE s.toFF z = 0)) (fun i => [(19, .int .i64 i), (0, ptr bt 0 0), (4, ptr ba 0 0), (5, ptr bz 0 0), (17, .slice (some ⟨bw, 0, none⟩) 2 2), (18, .int .i64 2)]) (fun i => XM W (foot [.cells bt 0 4 (encT bf r (.slice p l.length c)), frow p cap 98 4 k C, .cells bf 0 321 (encF s), .fam fam40 (FC.rowsN 9 s), .fam fam40 (FC.rowsK 3 s)]) [.cells ba 0 2 (encW a), .cells bz 0 2 (encW z), frow (some ⟨bw, 0, none⟩) 2 56 2 2 (wC [a, z]), .cells bt 0 4 (encT bf r (.slice p l.length c)), frow p cap 98 4 k C, .cells bf 0 321 (encF s), .fam fam40 (FC.rowsN 9 s), .fam fam40 (FC.rowsK 3 s)]) (0) ?_ (S6 rfl rfl rfl rfl rfl rfl) (fun _ hw => by rw [way2] at hw; exact XM.pick (.cons (.t2 .here) (.cons (.there .here) .h6)) hw) ?_
 ·
  exact ⟨⟨by omega, by omega⟩, fun h => by omega, fun h => by omega⟩
 intro i hi
 obtain ⟨⟨hi0, hi1⟩, hda, hdz⟩ := hi
 refine XC.sr ?_
 refine XO.v (V.cmp rfl rfl rfl) rfl ?_
 refine XO.nk [(0, _), (4, _), (5, _), (17, _), (18, _), (19, _), (20, _)] (S7 rfl rfl rfl rfl rfl rfl rfl) ?_
 refine XC.seq ?_
 refine XC.condP rfl (fun h2 => ?_) (fun h2 => ?_)
 ·
  refine XC.skip ?_
  refine XE.next ?_
  refine XC.keep [(0, _), (4, _), (5, _), (17, _), (18, _), (19, _)] (S6 rfl rfl rfl rfl rfl rfl) ?_
  refine XC.seq ?_
  refine XC.block ?_
  refine XC.sr ?_
  refine XO.v (V.indexSl rfl rfl sl_135 (by omega)) rfl ?_
  refine XO.v (V.loadFA rfl (inXM (.t2 .here)) (wC_ld [a, z] _ ⟨by omega, by show i < 2; omega⟩) ag_56 sz_56_2) rfl ?_
  refine XO.allocZ (z := .agg (WH.arr WH.nil)) (m := 2) (C := encW WH.nil) (by kernel_rfl) rfl (encW.box _) rfl ?_
  intro bx
  refine XO.storeAgg rfl rfl .here (encW.st _ _) ⟨rfl, rfl⟩ sz_56_2 ?_
  refine XO.nk [(0, _), (4, _), (5, _), (8, _), (17, _), (18, _), (19, _)] (S7 rfl rfl rfl rfl rfl rfl rfl) ?_
  refine XC.cutG (σ := Nat) (fun _ => True) (fun y => [(0, ptr bt 0 0), (4, ptr ba 0 0), (5, ptr bz 0 0), (8, ptr bx 0 0), (9, ptr y 0 0), (10, errv 76 (s.isE (wat [a, z] i).node 0)), (17, .slice (some ⟨bw, 0, none⟩) 2 2), (18, .int .i64 2), (19, .int .i64 i)]) (fun y => XM W (foot [.cells bt 0 4 (encT bf r (.slice p l.length c)), frow p cap 98 4 k C, .cells bf 0 321 (encF s), .fam fam40 (FC.rowsN 9 s), .fam fam40 (FC.rowsK 3 s)]) [.cells ba 0 2 (encW a), .cells bz 0 2 (encW z), frow (some ⟨bw, 0, none⟩) 2 56 2 2 (wC [a, z]), .cells bt 0 4 (encT bf r (.slice p l.length c)), frow p cap 98 4 k C, .cells bf 0 321 (encF s), .fam fam40 (FC.rowsN 9 s), .fam fam40 (FC.rowsK 3 s), .cells bx 0 2 (encW (wat [a, z] i)), .cells y 0 4 (encNV (s.ofV (wat [a, z] i).node))]) ?_ ?_
  ·
   refine XC.regionQ mixed (f := 13) (l := #[false, false, false, false, false, false, false, false, false, false, false, false, false]) rfl rfl XM.drawn' ?_
   refine XQ.pv (i := 0) (l' := #[tt,ff,ff,ff,ff,ff,ff,ff,ff,ff,ff,ff,ff]) rfl (by kernel_rfl) rfl (V.move rfl) rfl rfl ?_
   refine XQ.pv (i := 1) (l' := #[tt,tt,ff,ff,ff,ff,ff,ff,ff,ff,ff,ff,ff]) rfl (by kernel_rfl) rfl (V.nilCheckP rfl) rfl rfl ?_
   refine XQ.pv (i := 2) (l' := #[tt,tt,tt,ff,ff,ff,ff,ff,ff,ff,ff,ff,ff]) rfl (by kernel_rfl) rfl (V.fieldAddr rfl fo_75_0) rfl rfl ?_
   refine XQ.load (i := 3) (l' := #[tt,tt,tt,tt,ff,ff,ff,ff,ff,ff,ff,ff,ff]) (.cells _ _ _ _) [6, 11] rfl (by kernel_rfl) rfl (.t4 .here) (V.load rfl inEnt (encT.ld0 _ _) sc_25) rfl (by kernel_rfl) rfl ?_
   refine XQ.pv (i := 4) (l' := #[tt,tt,tt,tt,tt,ff,ff,ff,ff,ff,ff,ff,ff]) rfl (by kernel_rfl) rfl (V.fieldAddr rfl fo_56_1) rfl rfl ?_
   refine XQ.load (i := 5) (l' := #[tt,tt,tt,tt,tt,tt,ff,ff,ff,ff,ff,ff,ff]) (.cells _ _ _ _) [6, 11] rfl (by kernel_rfl) rfl .here (V.load rfl inEnt (encW.ld1 _) sc_3) rfl (by kernel_rfl) rfl ?_
   refine XQ.fork (i := 6) (j := 10) (by kernel_rfl) ?_ ?_
   ·
    refine XS.call (i := 6) (l' := #[tt,tt,tt,tt,tt,tt,tt,ff,ff,ff,ff,ff,ff]) rfl rfl rfl (t_Of _ _ _ hI _) (.cons (.t6 .here) .nil) cl_59 rfl (by rintro _ _ ⟨rfl, rfl⟩; all_goals (intro _ hw'; exact ⟨fun hs => (hs 6 (by first | (simp; done) | (simp; rfl)) rfl).elim, fun hs => (hs 6 (by first | (simp; done) | (simp; rfl)) rfl).elim, trivial⟩)) ?_
    rintro _ _ ⟨rfl, rfl⟩
    refine XQ.pv (i := 7) (l' := #[tt,tt,tt,tt,tt,tt,tt,tt,ff,ff,ff,ff,ff]) rfl (by kernel_rfl) rfl (V.move rfl) rfl rfl ?_
    refine XQ.pv (i := 8) (l' := #[tt,tt,tt,tt,tt,tt,tt,tt,tt,ff,ff,ff,ff]) rfl (by kernel_rfl) rfl (V.extract rfl rfl) rfl rfl ?_
    refine XQ.pv (i := 9) (l' := #[tt,tt,tt,tt,tt,tt,tt,tt,tt,tt,ff,ff,ff]) rfl (by kernel_rfl) rfl (V.extract rfl rfl) rfl rfl ?_
    refine XQ.allocZ (i := 10) (l' := #[tt,tt,tt,tt,tt,tt,tt,tt,tt,tt,tt,ff,ff]) (z := .agg NV.zero.arr) (m := 4) (C := encNV NV.zero) rfl (by kernel_rfl) rfl (by kernel_rfl) rfl (encNV_box _) rfl (fun _ _ hw' => ⟨fun hs => (hs 6 (by first | (simp; done) | (simp; rfl)) rfl).elim, fun hs => (hs 6 (by first | (simp; done) | (simp; rfl)) rfl).elim, trivial⟩) ?_
    intro bv
    refine XQ.storeAgg (i := 11) (l' := #[tt,tt,tt,tt,tt,tt,tt,tt,tt,tt,tt,tt,ff]) rfl (by kernel_rfl) rfl rfl rfl .here (encNV_st _ _) ⟨rfl, rfl⟩ sz_116_4 (fun _ hw' => ⟨fun hs => (hs 6 (by first | (simp; done) | (simp; rfl)) rfl).elim, fun hs => (hs 6 (by first | (simp; done) | (simp; rfl)) rfl).elim, trivial⟩) ?_
    refine XQ.pv (i := 12) (l' := #[tt,tt,tt,tt,tt,tt,tt,tt,tt,tt,tt,tt,tt]) rfl (by kernel_rfl) rfl (V.assign rfl) rfl rfl ?_
    refine XQ.done (by kernel_rfl) ?_
    refine XE.meetG (bv) ?_ (Sub.cons rfl (S8 rfl rfl rfl rfl rfl rfl rfl rfl)) (fun _ hw => XM.pick (.cons (.t3 .here) (.cons (.t3 .here) (.cons (.t3 .here) (.cons (.t3 .here) (.cons (.t3 .here) (.cons (.there .here) (.cons (.t2 .here) (.cons (.t2 .here) (.cons (.there .here) .h1))))))))) hw)
    ·
     trivial
   ·
    refine XS.allocZ (i := 10) (l' := #[tt,tt,tt,tt,tt,tt,ff,ff,ff,ff,tt,ff,ff]) (z := .agg NV.zero.arr) (m := 4) (C := encNV NV.zero) rfl rfl (by kernel_rfl) rfl (encNV_box _) rfl (fun _ _ hw' => ⟨fun _ => inXM (.there .here) _ hw', fun _ => inXM (.t5 .here) _ hw', trivial⟩) ?_
    intro bv
    refine XQ.call (i := 6) (l' := #[tt,tt,tt,tt,tt,tt,tt,ff,ff,ff,tt,ff,ff]) rfl (by kernel_rfl) rfl rfl (t_Of _ _ _ hI _) (.cons (.t7 .here) .nil) cl_59 rfl (by rintro _ _ ⟨rfl, rfl⟩; all_goals (intro _ hw'; exact ⟨fun hs => (hs 6 (by first | (simp; done) | (simp; rfl)) rfl).elim, fun hs => (hs 6 (by first | (simp; done) | (simp; rfl)) rfl).elim, trivial⟩)) ?_
    rintro _ _ ⟨rfl, rfl⟩
    refine XQ.pv (i := 7) (l' := #[tt,tt,tt,tt,tt,tt,tt,tt,ff,ff,tt,ff,ff]) rfl (by kernel_rfl) rfl (V.move rfl) rfl rfl ?_
    refine XQ.pv (i := 8) (l' := #[tt,tt,tt,tt,tt,tt,tt,tt,tt,ff,tt,ff,ff]) rfl (by kernel_rfl) rfl (V.extract rfl rfl) rfl rfl ?_
    refine XQ.pv (i := 9) (l' := #[tt,tt,tt,tt,tt,tt,tt,tt,tt,tt,tt,ff,ff]) rfl (by kernel_rfl) rfl (V.extract rfl rfl) rfl rfl ?_
    refine XQ.storeAgg (i := 11) (l' := #[tt,tt,tt,tt,tt,tt,tt,tt,tt,tt,tt,tt,ff]) rfl (by kernel_rfl) rfl rfl rfl (.there .here) (encNV_st _ _) ⟨rfl, rfl⟩ sz_116_4 (fun _ hw' => ⟨fun hs => (hs 6 (by first | (simp; done) | (simp; rfl)) rfl).elim, fun hs => (hs 6 (by first | (simp; done) | (simp; rfl)) rfl).elim, trivial⟩) ?_
    refine XQ.pv (i := 12) (l' := #[tt,tt,tt,tt,tt,tt,tt,tt,tt,tt,tt,tt,tt]) rfl (by kernel_rfl) rfl (V.assign rfl) rfl rfl ?_
    refine XQ.done (by kernel_rfl) ?_
    refine XE.meetG (bv) ?_ (Sub.cons rfl (S8 rfl rfl rfl rfl rfl rfl rfl rfl)) (fun _ hw => XM.pick (.cons (.t3 .here) (.cons (.t3 .here) (.cons (.t3 .here) (.cons (.t3 .here) (.cons (.t3 .here) (.cons .here (.cons (.t2 .here) (.cons (.t2 .here) (.cons (.there .here) .h1))))))))) hw)
    ·
     trivial
  intro y _
  refine XC.seq ?_
  refine XC.sr ?_
  refine XO.mv rfl rfl ?_
  refine XO.v (V.errNil rfl Tryz.underlying37 rfl) rfl ?_
  refine XO.nk [(0, _), (4, _), (5, _), (8, _), (9, _), (10, _), (17, _), (18, _), (19, _), (34, _)] (Sub.cons rfl (Sub.cons rfl (S8 rfl rfl rfl rfl rfl rfl rfl rfl))) ?_
  refine XC.condP rfl (fun h3 => ?_) (fun h3 => ?_)
  ·
   refine XC.sr ?_
   refine XO.mv rfl rfl ?_
   refine XO.as rfl rfl ?_
   refine XO.nk [(6, _)] (S1 rfl) ?_
   refine XC.ret ?_
   refine XE.thenRet ?_
   refine XE.blockRet ?_
   refine XE.thenRet ?_
   refine XE.thenRet ?_
   refine XE.blockRet ?_
   refine XE.thenRet ?_
   refine XE.ret1 rfl rfl (post_of (.cons (.t3 .here) (.cons (.t3 .here) (.cons (.t3 .here) (.cons (.t3 .here) (.cons (.t3 .here) .nil))))) rfl ?_)
   have hd0 : dirE s.toFF (wat [a, z] i) = s.isE (wat [a, z] i).node 0 := by unfold dirE; rw [if_pos (by assumption)]
   have e := bindE_dir (l := l) ⟨hi0, by omega⟩ hda (by rw [hd0]; assumption)
   rw [hd0] at e
   have eL : (bindL s.toFF l a z) = l := by unfold bindL; rw [if_neg (by omega)]
   have eF : bindF s.toFF l a z = s.toFF := by unfold bindF; rw [if_neg (by omega)]
   exact ⟨by rw [e]; try rfl, p, cap, k, c, C, s, by rw [eL]; exact hv, by rw [eL]; exact hC, by rw [eF], rfl, rfl, by rw [eL]⟩
  ·
   have j0 : s.isE (wat [a, z] i).node 0 = 0 := Decidable.byContradiction (by assumption)
   obtain ⟨j1, j2, j3⟩ := FF.isE_0 j0
   obtain ⟨ov1, _, _⟩ := FF.ofV_ok j0
   refine XC.skip ?_
   refine XE.next ?_
   refine XC.keep [(0, _), (4, _), (5, _), (8, _), (9, _), (17, _), (18, _), (19, _)] (S8 rfl rfl rfl rfl rfl rfl rfl rfl) ?_
   refine XC.seq ?_
   refine XC.regionQ mixed (f := 12) (l := #[false, false, false, false, false, false, false, false, false, false, false, false]) rfl rfl XM.drawn' ?_
   refine XQ.pv (i := 0) (l' := #[tt,ff,ff,ff,ff,ff,ff,ff,ff,ff,ff,ff]) rfl (by kernel_rfl) rfl (V.move rfl) rfl rfl ?_
   refine XQ.pv (i := 1) (l' := #[tt,tt,ff,ff,ff,ff,ff,ff,ff,ff,ff,ff]) rfl (by kernel_rfl) rfl (V.nilCheckP rfl) rfl rfl ?_
   refine XQ.pv (i := 2) (l' := #[tt,tt,tt,ff,ff,ff,ff,ff,ff,ff,ff,ff]) rfl (by kernel_rfl) rfl (V.fieldAddr rfl fo_75_0) rfl rfl ?_
   refine XQ.load (i := 3) (l' := #[tt,tt,tt,tt,ff,ff,ff,ff,ff,ff,ff,ff]) (.cells _ _ _ _) [6] rfl (by kernel_rfl) rfl (.t3 .here) (V.load rfl inEnt (encT.ld0 _ _) sc_25) rfl (by kernel_rfl) rfl ?_
   refine XQ.pv (i := 4) (l' := #[tt,tt,tt,tt,tt,ff,ff,ff,ff,ff,ff,ff]) rfl (by kernel_rfl) rfl (V.fieldAddr rfl fo_56_1) rfl rfl ?_
   refine XQ.load (i := 5) (l' := #[tt,tt,tt,tt,tt,tt,ff,ff,ff,ff,ff,ff]) (.cells _ _ _ _) [6] rfl (by kernel_rfl) rfl (.t8 .here) (V.load rfl inEnt (encW.ld1 _) sc_3) rfl (by kernel_rfl) rfl ?_
   refine XQ.call (i := 6) (l' := #[tt,tt,tt,tt,tt,tt,tt,ff,ff,ff,ff,ff]) rfl (by kernel_rfl) rfl rfl (t_Tree _ _ _ _) (.cons (.t5 .here) .nil) cl_64 rfl (by rintro _ _ ⟨rfl, rfl⟩; all_goals (intro _ hw'; exact ⟨fun hs => (hs 6 (by first | (simp; done) | (simp; rfl)) rfl).elim, fun hs => (hs 6 (by first | (simp; done) | (simp; rfl)) rfl).elim, trivial⟩)) ?_
   rintro _ _ ⟨rfl, rfl⟩
   refine XQ.pv (i := 7) (l' := #[tt,tt,tt,tt,tt,tt,tt,tt,ff,ff,ff,ff]) rfl (by kernel_rfl) rfl (V.move rfl) rfl rfl ?_
   refine XQ.pv (i := 8) (l' := #[tt,tt,tt,tt,tt,tt,tt,tt,tt,ff,ff,ff]) rfl (by kernel_rfl) rfl (V.extract rfl rfl) rfl rfl ?_
   refine XQ.pv (i := 9) (l' := #[tt,tt,tt,tt,tt,tt,tt,tt,tt,tt,ff,ff]) rfl (by kernel_rfl) rfl (V.extract rfl rfl) rfl rfl ?_
   refine XQ.pv (i := 10) (l' := #[tt,tt,tt,tt,tt,tt,tt,tt,tt,tt,tt,ff]) rfl (by kernel_rfl) rfl (V.assign rfl) rfl rfl ?_
   refine XQ.pv (i := 11) (l' := #[tt,tt,tt,tt,tt,tt,tt,tt,tt,tt,tt,tt]) rfl (by kernel_rfl) rfl (V.assign rfl) rfl rfl ?_
   refine XQ.done (by kernel_rfl) ?_
   refine XE.next ?_
   refine XC.keep [(0, _), (4, _), (5, _), (8, _), (9, _), (11, _), (17, _), (18, _), (19, _)] (Sub.cons rfl (S8 rfl rfl rfl rfl rfl rfl rfl rfl)) ?_
   refine XC.sr ?_
   refine XO.v (V.fieldAddr rfl fo_116_0) rfl ?_
   refine XO.v (V.load rfl (inXM (.t9 .here)) (encNV_kind _) sc_3) rfl ?_
   refine XO.v (V.cmp rfl rfl rfl) rfl ?_
   refine XO.mv rfl rfl ?_
   refine XO.splitP (d := 49) rfl (fun h4 => ?_) (fun h4 => ?_)
   ·
    refine XO.guardSkip rfl rfl rfl rfl rfl ?_
    refine XO.guardSkip rfl rfl rfl rfl rfl ?_
    refine XO.guardSkip rfl rfl rfl rfl rfl ?_
    refine XO.guardSkip rfl rfl rfl rfl rfl ?_
    refine XO.v (V.pick rfl rfl rfl rfl) rfl ?_
    refine XO.nk [(0, _), (4, _), (5, _), (17, _), (18, _), (19, _), (54, _)] (S7 rfl rfl rfl rfl rfl rfl rfl) ?_
    refine XC.condT rfl rfl ?_
    refine XC.sr ?_
    refine XO.v (V.makeIface rfl Tryz.underlying76 (by simp)) rfl ?_
    refine XO.as rfl rfl ?_
    refine XO.nk [(6, _)] (S1 rfl) ?_
    refine XC.ret ?_
    refine XE.blockRet ?_
    refine XE.thenRet ?_
    refine XE.thenRet ?_
    refine XE.blockRet ?_
    refine XE.thenRet ?_
    refine XE.ret1 rfl rfl (post_of (.cons (.t4 .here) (.cons (.t4 .here) (.cons .here (.cons (.t3 .here) (.cons (.t3 .here) .nil))))) rfl ?_)
    have hd0 : dirE s.toFF (wat [a, z] i) = 11 := by unfold dirE; rw [if_neg (by omega), if_pos (by first | (left; rw [← ov1]; assumption) | (right; intro q; rw [if_pos j0] at *; exact absurd q (by assumption)))]
    have e := bindE_dir (l := l) ⟨hi0, by omega⟩ hda (by rw [hd0]; decide)
    rw [hd0] at e
    have eL : (bindL s.toFF l a z) = l := by unfold bindL; rw [if_neg (by omega)]
    have eF : bindF s.toFF l a z = s.toFF := by unfold bindF; rw [if_neg (by omega)]
    exact ⟨by rw [e]; try rfl, p, cap, k, c, C, s, by rw [eL]; exact hv, by rw [eL]; exact hC, by rw [eF], rfl, rfl, by rw [eL]⟩
   ·
    refine XO.guardRun rfl rfl rfl ?_
    refine XO.mv rfl rfl ?_
    refine XO.guardRun rfl rfl rfl ?_
    refine XO.v (V.fieldAddr rfl fo_56_0) rfl ?_
    refine XO.guardRun rfl rfl rfl ?_
    refine XO.v (V.load rfl (inXM (.t8 .here)) (encW.ld0 _) sc_3) rfl ?_
    refine XO.guardRun rfl rfl rfl ?_
    refine XO.v (V.cmp rfl rfl rfl) rfl ?_
    refine XO.v (V.pick rfl rfl rfl rfl) rfl ?_
    refine XO.nk [(0, _), (4, _), (5, _), (17, _), (18, _), (19, _), (54, _)] (S7 rfl rfl rfl rfl rfl rfl rfl) ?_
    refine XC.condP rfl (fun h5 => ?_) (fun h5 => ?_)
    ·
     refine XC.sr ?_
     refine XO.v (V.makeIface rfl Tryz.underlying76 (by simp)) rfl ?_
     refine XO.as rfl rfl ?_
     refine XO.nk [(6, _)] (S1 rfl) ?_
     refine XC.ret ?_
     refine XE.blockRet ?_
     refine XE.thenRet ?_
     refine XE.thenRet ?_
     refine XE.blockRet ?_
     refine XE.thenRet ?_
     refine XE.ret1 rfl rfl (post_of (.cons (.t4 .here) (.cons (.t4 .here) (.cons .here (.cons (.t3 .here) (.cons (.t3 .here) .nil))))) rfl ?_)
     have hd0 : dirE s.toFF (wat [a, z] i) = 11 := by unfold dirE; rw [if_neg (by omega), if_pos (by first | (left; rw [← ov1]; assumption) | (right; intro q; rw [if_pos j0] at *; exact absurd q (by assumption)))]
     have e := bindE_dir (l := l) ⟨hi0, by omega⟩ hda (by rw [hd0]; decide)
     rw [hd0] at e
     have eL : (bindL s.toFF l a z) = l := by unfold bindL; rw [if_neg (by omega)]
     have eF : bindF s.toFF l a z = s.toFF := by unfold bindF; rw [if_neg (by omega)]
     exact ⟨by rw [e]; try rfl, p, cap, k, c, C, s, by rw [eL]; exact hv, by rw [eL]; exact hC, by rw [eF], rfl, rfl, by rw [eL]⟩
    ·
     refine XC.skip ?_
     refine XE.blockNormal ?_
     refine XE.next ?_
     refine XC.keep [(0, _), (4, _), (5, _), (17, _), (18, _), (19, _)] (S6 rfl rfl rfl rfl rfl rfl) ?_
     refine XC.region ?_
     refine XO.v (V.add rfl rfl _ (IntWalk.i64_in _ (by omega))) rfl ?_
     refine XO.mv rfl rfl ?_
     refine XO.nil ?_
     refine XE.again (i + 1) ?_ ?_ (S6 rfl rfl rfl rfl rfl rfl) (fun _ hw => XM.pick (.cons (.there .here) (.cons (.there .here) (.cons (.there .here) (.cons (.there .here) (.cons (.there .here) .h3))))) hw)
     ·
      (first | omega | (simp; done) | (simp; omega))
     ·
      have hd0 : dirE s.toFF (wat [a, z] i) = 0 := by unfold dirE; rw [if_neg (by omega), if_neg (by omega)]
      rcases (show i = 0 ∨ i = 1 by omega) with rfl | rfl
      ·
       exact ⟨⟨by omega, by omega⟩, fun _ => hd0, fun h => by omega⟩
      ·
       exact ⟨⟨by omega, by omega⟩, fun _ => hda (by omega), fun _ => hd0⟩
 ·
  refine XC.exit ?_
  refine XE.thenExit ?_
  refine XE.thenExit ?_
  refine XE.blockExit ?_
  refine XE.next ?_
  refine XC.keep [(0, _), (4, _), (5, _)] (S3 rfl rfl rfl) ?_
  refine XC.seq ?_
  refine XC.sr ?_
  refine XO.v (V.loadAgg rfl (inXM .here) (encW.agg _) ag_56 sz_56_2) rfl ?_
  refine XO.v (V.loadAgg rfl (inXM (.there .here)) (encW.agg _) ag_56 sz_56_2) rfl ?_
  refine XO.v (V.eqW rfl rfl whEq) rfl ?_
  refine XO.nk [(0, _), (4, _), (5, _), (59, _)] (S4 rfl rfl rfl rfl) ?_
  refine XC.condP rfl (fun h6 => ?_) (fun h6 => ?_)
  ·
   have haz : a = z := h6
   refine XC.sr ?_
   refine XO.v (V.makeIface rfl Tryz.underlying76 (by simp)) rfl ?_
   refine XO.as rfl rfl ?_
   refine XO.nk [(6, _)] (S1 rfl) ?_
   refine XC.ret ?_
   refine XE.thenRet ?_
   refine XE.ret1 rfl rfl (post_of (.cons (.t3 .here) (.cons (.t3 .here) (.cons (.t3 .here) (.cons (.t3 .here) (.cons (.t3 .here) .nil))))) rfl ?_)
   have e : bindE s.toFF l a z = 8 := by unfold bindE; rw [if_neg (by omega), if_neg (by omega), if_pos haz]
   have eL : (bindL s.toFF l a z) = l := by unfold bindL; rw [if_neg (by omega)]
   have eF : bindF s.toFF l a z = s.toFF := by unfold bindF; rw [if_neg (by omega)]
   exact ⟨by rw [e]; rfl, p, cap, k, c, C, s, by rw [eL]; exact hv, by rw [eL]; exact hC, by rw [eF], rfl, rfl, by rw [eL]⟩
  ·
   have haz : ¬ a = z := h6
   refine XC.skip ?_
   refine XE.next ?_
   refine XC.keep [(0, _), (4, _), (5, _)] (S3 rfl rfl rfl) ?_
   refine XC.seq ?_
   refine XC.sr ?_
   refine XO.mv rfl rfl ?_
   refine XO.v (V.nilCheckP rfl) rfl ?_
   refine XO.v (V.fieldAddr rfl fo_75_2) rfl ?_
   refine XO.v (V.load rfl (inXM (.t3 .here)) (encT.ld2 _ _) sc_58) rfl ?_
   refine XO.v (V.lenSl rfl Tryz.underlying58) rfl ?_
   refine XO.mv rfl rfl ?_
   refine XO.nk [(0, _), (4, _), (5, _), (64, _), (65, _), (66, _)] (S6 rfl rfl rfl rfl rfl rfl) ?_
   refine XC.block ?_
   refine XC.loop (σ := Int) (fun i => (l.length - i).toNat) (fun i => (0 ≤ i ∧ i ≤ l.length) ∧ ∀ j : Int, 0 ≤ j → j < i → (mat l j).at_ ≠ a) (fun i => [(66, .int .i64 i), (0, ptr bt 0 0), (4, ptr ba 0 0), (5, ptr bz 0 0), (64, .slice p l.length c), (65, .int .i64 l.length)]) (fun i => XM W (foot [.cells bt 0 4 (encT bf r (.slice p l.length c)), frow p cap 98 4 k C, .cells bf 0 321 (encF s), .fam fam40 (FC.rowsN 9 s), .fam fam40 (FC.rowsK 3 s)]) [.cells ba 0 2 (encW a), .cells bz 0 2 (encW z), .cells bt 0 4 (encT bf r (.slice p l.length c)), frow p cap 98 4 k C, .cells bf 0 321 (encF s), .fam fam40 (FC.rowsN 9 s), .fam fam40 (FC.rowsK 3 s)]) (0) ?_ (S6 rfl rfl rfl rfl rfl rfl) (fun _ hw => XM.pick (.cons .here (.cons .here (.cons (.there .here) (.cons (.there .here) (.cons (.there .here) (.cons (.there .here) (.cons (.there .here) .nil))))))) hw) ?_
   ·
    exact ⟨⟨by omega, by omega⟩, fun j a b => by omega⟩
   intro i hi
   obtain ⟨⟨hi0, hi1⟩, hno⟩ := hi
   refine XC.sr ?_
   refine XO.v (V.cmp rfl rfl rfl) rfl ?_
   refine XO.nk [(0, _), (4, _), (5, _), (64, _), (65, _), (66, _), (67, _)] (S7 rfl rfl rfl rfl rfl rfl rfl) ?_
   refine XC.seq ?_
   refine XC.condP rfl (fun h7 => ?_) (fun h7 => ?_)
   ·
    refine XC.skip ?_
    refine XE.next ?_
    refine XC.keep [(0, _), (4, _), (5, _), (64, _), (65, _), (66, _)] (S6 rfl rfl rfl rfl rfl rfl) ?_
    refine XC.seq ?_
    refine XC.block ?_
    refine XC.sr ?_
    refine XO.openRow (.t3 .here) (by omega) ?_
    intro g hg
    subst hg
    refine XO.v (V.indexSl rfl rfl sl_58 (by omega)) rfl ?_
    refine XO.v (V.loadFA rfl (inXM (.t3 .here)) (hC.ld hlk _ (by omega)) ag_98 sz_98_4) rfl ?_
    refine XO.allocZ (z := .agg (MT.arr MT.nil)) (m := 4) (C := encMt MT.nil) (by kernel_rfl) rfl (encMt.box _) rfl ?_
    intro bm
    refine XO.storeAgg rfl rfl .here (encMt.st _ _) ⟨rfl, rfl⟩ sz_98_4 ?_
    refine XO.nk [(0, _), (4, _), (5, _), (14, _), (64, _), (65, _), (66, _)] (S7 rfl rfl rfl rfl rfl rfl rfl) ?_
    refine XC.sr ?_
    refine XO.v (V.fieldAddr rfl fo_98_0) rfl ?_
    refine XO.v (V.loadAgg rfl (inXM .here) (encMt.ldA _) ag_56 sz_56_2) rfl ?_
    refine XO.v (V.loadAgg rfl (inXM (.there .here)) (encW.agg _) ag_56 sz_56_2) rfl ?_
    refine XO.v (V.eqW rfl rfl whEq) rfl ?_
    refine XO.nk [(0, _), (4, _), (5, _), (64, _), (65, _), (66, _), (73, _)] (S7 rfl rfl rfl rfl rfl rfl rfl) ?_
    refine XC.condP rfl (fun h8 => ?_) (fun h8 => ?_)
    ·
     refine XC.sr ?_
     refine XO.v (V.makeIface rfl Tryz.underlying76 (by simp)) rfl ?_
     refine XO.as rfl rfl ?_
     refine XO.nk [(6, _)] (S1 rfl) ?_
     refine XC.ret ?_
     refine XE.blockRet ?_
     refine XE.thenRet ?_
     refine XE.thenRet ?_
     refine XE.blockRet ?_
     refine XE.thenRet ?_
     refine XE.ret1 rfl rfl (post_of (.cons (.t3 .here) (.cons (.t3 .here) (.cons (.t3 .here) (.cons (.t3 .here) (.cons (.t3 .here) .nil))))) rfl ?_)
     have e : bindE s.toFF l a z = 3 := by unfold bindE; rw [if_neg (by omega), if_neg (by omega), if_neg haz, if_pos (hasAt_true ⟨by omega, by omega⟩ (by assumption))]
     have eL : (bindL s.toFF l a z) = l := by unfold bindL; rw [if_neg (by omega)]
     have eF : bindF s.toFF l a z = s.toFF := by unfold bindF; rw [if_neg (by omega)]
     exact ⟨by rw [e]; rfl, (some ⟨g, 0, none⟩), cap, k, c, C, s, by rw [eL]; exact hv, by rw [eL]; exact hC, by rw [eF], rfl, rfl, by rw [eL]⟩
    ·
     refine XC.skip ?_
     refine XE.blockNormal ?_
     refine XE.next ?_
     refine XC.keep [(0, _), (4, _), (5, _), (64, _), (65, _), (66, _)] (S6 rfl rfl rfl rfl rfl rfl) ?_
     refine XC.region ?_
     refine XO.v (V.add rfl rfl _ (IntWalk.i64_in _ (by omega))) rfl ?_
     refine XO.mv rfl rfl ?_
     refine XO.nil ?_
     refine XE.again (i + 1) ?_ ?_ (S6 rfl rfl rfl rfl rfl rfl) (fun _ hw => XM.pick (.cons (.there .here) (.cons (.there .here) (.cons (.there .here) (.cons (.there .here) (.cons (.there .here) (.cons (.there .here) (.cons (.there .here) .nil))))))) hw)
     ·
      (first | omega | (simp; done) | (simp; omega))
     ·
      refine ⟨⟨by omega, by omega⟩, fun j a b => ?_⟩
      by_cases e : j = i
      ·
       subst e; assumption
      ·
       exact hno j a (by omega)
   ·
    refine XC.exit ?_
    refine XE.thenExit ?_
    refine XE.thenExit ?_
    refine XE.blockExit ?_
    refine XE.next ?_
    refine XC.keep [(0, _), (4, _), (5, _)] (S3 rfl rfl rfl) ?_
    refine XC.seq ?_
    refine XC.sr ?_
    refine XO.mv rfl rfl ?_
    refine XO.v (V.nilCheckP rfl) rfl ?_
    refine XO.v (V.fieldAddr rfl fo_75_2) rfl ?_
    refine XO.v (V.load rfl (inXM (.t2 .here)) (encT.ld2 _ _) sc_58) rfl ?_
    refine XO.v (V.lenSl rfl Tryz.underlying58) rfl ?_
    refine XO.v (V.cmp rfl rfl rfl) rfl ?_
    refine XO.nk [(0, _), (4, _), (5, _), (81, _)] (S4 rfl rfl rfl rfl) ?_
    refine XC.condP rfl (fun h9 => ?_) (fun h9 => ?_)
    ·
     refine XC.sr ?_
     refine XO.v (V.makeIface rfl Tryz.underlying76 (by simp)) rfl ?_
     refine XO.as rfl rfl ?_
     refine XO.nk [(6, _)] (S1 rfl) ?_
     refine XC.ret ?_
     refine XE.thenRet ?_
     refine XE.ret1 rfl rfl (post_of (.cons (.t2 .here) (.cons (.t2 .here) (.cons (.t2 .here) (.cons (.t2 .here) (.cons (.t2 .here) .nil))))) rfl ?_)
     have e : bindE s.toFF l a z = 4 := by unfold bindE; rw [if_neg (by omega), if_neg (by omega), if_neg haz, if_neg (by rw [hasAt_false (fun j a b => hno j a (by omega))]; simp), if_pos (by omega)]
     have eL : (bindL s.toFF l a z) = l := by unfold bindL; rw [if_neg (by omega)]
     have eF : bindF s.toFF l a z = s.toFF := by unfold bindF; rw [if_neg (by omega)]
     exact ⟨by rw [e]; rfl, p, cap, k, c, C, s, by rw [eL]; exact hv, by rw [eL]; exact hC, by rw [eF], rfl, rfl, by rw [eL]⟩
    ·
     refine XC.skip ?_
     refine XE.next ?_
     refine XC.keep [(0, _), (4, _), (5, _)] (S3 rfl rfl rfl) ?_
     refine XC.seq ?_
     refine XC.regionQ mixed (f := 13) (l := #[false, false, false, false, false, false, false, false, false, false, false, false, false]) rfl rfl XM.drawn' ?_
     refine XQ.pv (i := 0) (l' := #[tt,ff,ff,ff,ff,ff,ff,ff,ff,ff,ff,ff,ff]) rfl (by kernel_rfl) rfl (V.move rfl) rfl rfl ?_
     refine XQ.pv (i := 1) (l' := #[tt,tt,ff,ff,ff,ff,ff,ff,ff,ff,ff,ff,ff]) rfl (by kernel_rfl) rfl (V.move rfl) rfl rfl ?_
     refine XQ.pv (i := 2) (l' := #[tt,tt,tt,ff,ff,ff,ff,ff,ff,ff,ff,ff,ff]) rfl (by kernel_rfl) rfl (V.nilCheckP rfl) rfl rfl ?_
     refine XQ.pv (i := 3) (l' := #[tt,tt,tt,tt,ff,ff,ff,ff,ff,ff,ff,ff,ff]) rfl (by kernel_rfl) rfl (V.fieldAddr rfl fo_75_2) rfl rfl ?_
     refine XQ.load (i := 4) (l' := #[tt,tt,tt,tt,tt,ff,ff,ff,ff,ff,ff,ff,ff]) (.cells _ _ _ _) [9, 12] rfl (by kernel_rfl) rfl (.t2 .here) (V.load rfl inEnt (encT.ld2 _ _) sc_58) rfl (by kernel_rfl) rfl ?_
     refine XQ.load (i := 5) (l' := #[tt,tt,tt,tt,tt,tt,ff,ff,ff,ff,ff,ff,ff]) (.cells _ _ _ _) [8, 9, 12] rfl (by kernel_rfl) rfl .here (V.loadAgg rfl inEnt (encW.agg _) ag_56 sz_56_2) rfl (by kernel_rfl) rfl ?_
     refine XQ.load (i := 6) (l' := #[tt,tt,tt,tt,tt,tt,tt,ff,ff,ff,ff,ff,ff]) (.cells _ _ _ _) [8, 9, 12] rfl (by kernel_rfl) rfl (.there .here) (V.loadAgg rfl inEnt (encW.agg _) ag_56 sz_56_2) rfl (by kernel_rfl) rfl ?_
     refine XQ.pv (i := 7) (l' := #[tt,tt,tt,tt,tt,tt,tt,tt,ff,ff,ff,ff,ff]) rfl (by kernel_rfl) rfl (V.build (vs := #[(0, .agg (WH.arr a)), (1, .agg (WH.arr z))]) rfl (v := .agg (MT.arr ⟨a, z⟩)) (fun _ => by kernel_rfl)) rfl rfl ?_
     refine XQ.g (i := 8) (l' := #[tt,tt,tt,tt,tt,tt,tt,tt,tt,ff,ff,ff,ff]) rfl (by kernel_rfl) rfl (RG.build (e := 98) (vs := #[(0, .agg (MT.arr ⟨a, z⟩))]) (m := 4) (A := MT.arr ⟨a, z⟩) rfl (fun _ => by kernel_rfl) rfl) rfl (fun _ _ hw' => ⟨fun hs => (hs 8 (by first | (simp; done) | (simp; rfl)) rfl).elim, fun hs => (hs 8 (by first | (simp; done) | (simp; rfl)) rfl).elim, fun _ => inXM (.t3 .here) _ hw', trivial⟩) ?_
     intro bn _
     refine XQ.g (i := 9) (l' := #[tt,tt,tt,tt,tt,tt,tt,tt,tt,tt,ff,ff,ff]) rfl (by kernel_rfl) rfl (RG.append (e := 98) (v := ⟨p, cap, k, l.length, c, C⟩) (N := 4) (m := 1) (sz := 4) hv rfl rfl Tryz.underlying58 rt_98_4 (.t4 .here) .here rfl rfl (by omega) (by show l.length + 1 ≤ _; omega)) rfl (fun _ _ hw' => ⟨fun hs => (hs 8 (by first | (simp; done) | (simp; rfl)) rfl).elim, fun hs => (hs 8 (by first | (simp; done) | (simp; rfl)) rfl).elim, fun hs => (hs 9 (by first | (simp; done) | (simp; rfl)) rfl).elim, trivial⟩) ?_
     intro u hu
     obtain ⟨hu1, hu2, hu3, hu4⟩ := hu
     obtain ⟨p2, cap2, k2, len2, c2, C2⟩ := u
     have hu2 : len2 = l.length + 1 := hu2
     subst hu2
     refine XQ.pv (i := 10) (l' := #[tt,tt,tt,tt,tt,tt,tt,tt,tt,tt,tt,ff,ff]) rfl (by kernel_rfl) rfl (V.nilCheckP rfl) rfl rfl ?_
     refine XQ.pv (i := 11) (l' := #[tt,tt,tt,tt,tt,tt,tt,tt,tt,tt,tt,tt,ff]) rfl (by kernel_rfl) rfl (V.fieldAddr rfl fo_75_2) rfl rfl ?_
     refine XQ.store (i := 12) (l' := #[tt,tt,tt,tt,tt,tt,tt,tt,tt,tt,tt,tt,tt]) rfl (by kernel_rfl) rfl rfl rfl (.t4 .here) (encT.st2 _ _ _) rfl sz_58_1 (fun _ hw' => ⟨fun hs => (hs 8 (by first | (simp; done) | (simp; rfl)) rfl).elim, fun hs => (hs 8 (by first | (simp; done) | (simp; rfl)) rfl).elim, fun hs => (hs 9 (by first | (simp; done) | (simp; rfl)) rfl).elim, trivial⟩) ?_
     refine XQ.done (by kernel_rfl) ?_
     refine XE.next ?_
     refine XC.keep [(0, _), (4, _), (5, _)] (S3 rfl rfl rfl) ?_
     refine XC.seq ?_
     refine XC.regionQ mixed (f := 7) (l := #[false, false, false, false, false, false, false]) rfl rfl XM.drawn' ?_
     refine XQ.pv (i := 0) (l' := #[tt,ff,ff,ff,ff,ff,ff]) rfl (by kernel_rfl) rfl (V.move rfl) rfl rfl ?_
     refine XQ.pv (i := 1) (l' := #[tt,tt,ff,ff,ff,ff,ff]) rfl (by kernel_rfl) rfl (V.nilCheckP rfl) rfl rfl ?_
     refine XQ.pv (i := 2) (l' := #[tt,tt,tt,ff,ff,ff,ff]) rfl (by kernel_rfl) rfl (V.fieldAddr rfl fo_75_0) rfl rfl ?_
     refine XQ.load (i := 3) (l' := #[tt,tt,tt,tt,ff,ff,ff]) (.cells _ _ _ _) [6] rfl (by kernel_rfl) rfl (.t4 .here) (V.load rfl inEnt (encT.ld0 _ _) sc_25) rfl (by kernel_rfl) rfl ?_
     refine XQ.pv (i := 4) (l' := #[tt,tt,tt,tt,tt,ff,ff]) rfl (by kernel_rfl) rfl (V.fieldAddr rfl fo_56_1) rfl rfl ?_
     refine XQ.load (i := 5) (l' := #[tt,tt,tt,tt,tt,tt,ff]) (.cells _ _ _ _) [6] rfl (by kernel_rfl) rfl (.t2 .here) (V.load rfl inEnt (encW.ld1 _) sc_3) rfl (by kernel_rfl) rfl ?_
     refine XQ.call (i := 6) (l' := #[tt,tt,tt,tt,tt,tt,tt]) rfl (by kernel_rfl) rfl rfl (t_Hold _ _ _ hI _) (.cons (.t5 .here) (.cons (.t5 .here) (.cons (.t5 .here) .nil))) cl_25 rfl (by rintro _ _ ⟨rfl, v1, hv1, pv1, cv1, rfl⟩; all_goals (intro _ hw'; exact ⟨fun hs => (hs 6 (by first | (simp; done) | (simp; rfl)) rfl).elim, fun hs => (hs 6 (by first | (simp; done) | (simp; rfl)) rfl).elim, trivial⟩)) ?_
     rintro _ _ ⟨rfl, v1, hv1, pv1, cv1, rfl⟩
     refine XQ.done (by kernel_rfl) ?_
     refine XE.next ?_
     refine XC.keep [(0, _), (5, _)] (S2 rfl rfl) ?_
     refine XC.seq ?_
     refine XC.regionQ mixed (f := 7) (l := #[false, false, false, false, false, false, false]) rfl rfl XM.drawn' ?_
     have hO1 : v1.toFF.Ok d (B + 1) := by rw [hv1]; exact hO.hold a.node
     refine XQ.pv (i := 0) (l' := #[tt,ff,ff,ff,ff,ff,ff]) rfl (by kernel_rfl) rfl (V.move rfl) rfl rfl ?_
     refine XQ.pv (i := 1) (l' := #[tt,tt,ff,ff,ff,ff,ff]) rfl (by kernel_rfl) rfl (V.nilCheckP rfl) rfl rfl ?_
     refine XQ.pv (i := 2) (l' := #[tt,tt,tt,ff,ff,ff,ff]) rfl (by kernel_rfl) rfl (V.fieldAddr rfl fo_75_0) rfl rfl ?_
     refine XQ.load (i := 3) (l' := #[tt,tt,tt,tt,ff,ff,ff]) (.cells _ _ _ _) [6] rfl (by kernel_rfl) rfl (.t7 .here) (V.load rfl inEnt (encT.ld0 _ _) sc_25) rfl (by kernel_rfl) rfl ?_
     refine XQ.pv (i := 4) (l' := #[tt,tt,tt,tt,tt,ff,ff]) rfl (by kernel_rfl) rfl (V.fieldAddr rfl fo_56_1) rfl rfl ?_
     refine XQ.load (i := 5) (l' := #[tt,tt,tt,tt,tt,tt,ff]) (.cells _ _ _ _) [6] rfl (by kernel_rfl) rfl (.t6 .here) (V.load rfl inEnt (encW.ld1 _) sc_3) rfl (by kernel_rfl) rfl ?_
     refine XQ.call (i := 6) (l' := #[tt,tt,tt,tt,tt,tt,tt]) rfl (by kernel_rfl) rfl rfl (t_Hold _ _ v1 (hO1.sh (by omega)) _) .h3 cl_25 rfl (by rintro _ _ ⟨rfl, v2, hv2, pv2, cv2, rfl⟩; all_goals (intro _ hw'; exact ⟨fun hs => (hs 6 (by first | (simp; done) | (simp; rfl)) rfl).elim, fun hs => (hs 6 (by first | (simp; done) | (simp; rfl)) rfl).elim, trivial⟩)) ?_
     rintro _ _ ⟨rfl, v2, hv2, pv2, cv2, rfl⟩
     refine XQ.done (by kernel_rfl) ?_
     refine XE.next ?_
     refine XC.keep [] (Sub.nil _) ?_
     refine XC.sr ?_
     refine XO.as rfl rfl ?_
     refine XO.nk [(6, _)] (S1 rfl) ?_
     refine XC.ret ?_
     refine XE.ret1 rfl rfl (post_of (.cons (.t7 .here) (.cons (.t3 .here) .h3)) rfl ?_)
     have e : bindE s.toFF l a z = 0 := by unfold bindE; rw [if_neg (by omega), if_neg (by omega), if_neg haz, if_neg (by rw [hasAt_false (fun j a b => hno j a (by omega))]; simp), if_neg (by omega)]
     have eL : (bindL s.toFF l a z) = l ++ [⟨a, z⟩] := by unfold bindL; rw [if_pos e]
     have eF : bindF s.toFF l a z = (s.toFF.hold a.node).hold z.node := by unfold bindF; rw [if_pos e]
     exact ⟨by rw [e]; rfl, p2, cap2, k2, c2, C2, v2, by rw [eL, List.length_append]; exact hu1, by rw [eL]; exact hC.app ⟨a, z⟩ hu3 (fun i hi => (hu4 i hi).trans (newsMt _ i (by omega))), by rw [eF, hv2, hv1], by rw [pv2, pv1], by rw [cv2, cv1], by rw [eL, List.length_append]; rfl⟩
set_option maxRecDepth 10000 in
set_option maxHeartbeats 8000000 in
theorem m_Unbind (bt bf : Nat) (r : WH) (l : List MT) (p : Option Addr) (cap k c : Nat) (C : Nat → Value) (hv : RV.ok ⟨p, cap, k, l.length, c, C⟩) (hC : MC C l) (hm6 : l.length ≤ 6) (s : FC) (d : Int → Nat) (B : Int) (hO : s.toFF.Ok d B) (hB : B ≤ 900000) (z : WH) : Spec Tryz.prog 51 [ptr bt 0 0, .agg (WH.arr z)]
    [.cells bt 0 4 (encT bf r (.slice p l.length c)), frow p cap 98 4 k C, .cells bf 0 321 (encF s), .fam fam40 (FC.rowsN 9 s), .fam fam40 (FC.rowsK 3 s)]
    (fun v H1 => v = errv 76 (unbindE l z) ∧ ∃ (p' : Option Addr) (cap' k' c' : Nat) (C' : Nat → Value) (u : FC), RV.ok ⟨p', cap', k', (unbindL l z).length, c', C'⟩ ∧ MC C' (unbindL l z) ∧ u.toFF = unbindF s.toFF l z ∧ u.rP = s.rP ∧ u.rC = s.rC ∧ H1 = [.cells bt 0 4 (encT bf r (.slice p' (unbindL l z).length c')), frow p' cap' 98 4 k' C', .cells bf 0 321 (encF u), .fam fam40 (FC.rowsN 9 u), .fam fam40 (FC.rowsK 3 u)]) := by
 have hlk := RV.ok_le hv
 have hlk : l.length ≤ k := hlk
 have hI := hO.sh (by omega)
 refine Spec.intro Tryz.func51 rfl rfl ?_
 intro W
 refine XC.sr ?_
 refine XO.box (m := 2) (C := encW (z)) rfl rfl (encW.box _) rfl ?_
 intro bz
 refine XO.as rfl rfl ?_
 refine XO.nk [(0, _), (3, _)] (S2 rfl rfl) ?_
 refine XC.seq ?_
 refine XC.sr ?_
 refine XO.mv rfl rfl ?_
 refine XO.v (V.nilCheckP rfl) rfl ?_
 refine XO.v (V.fieldAddr rfl fo_75_2) rfl ?_
 refine XO.v (V.load rfl (inXM (.there .here)) (encT.ld2 _ _) sc_58) rfl ?_
 refine XO.v (V.lenSl rfl Tryz.underlying58) rfl ?_
 refine XO.mv rfl rfl ?_
 refine XO.nk [(0, _), (3, _), (10, _), (11, _), (12, _)] (S5 rfl rfl rfl rfl rfl) ?_
 refine XC.block ?_
 refine XC.loop (σ := Int) (fun i => (l.length - i).toNat) (fun i => (0 ≤ i ∧ i ≤ l.length) ∧ ∀ j : Int, 0 ≤ j → j < i → (mat l j).at_ ≠ z) (fun i => [(12, .int .i64 i), (0, ptr bt 0 0), (3, ptr bz 0 0), (10, .slice p l.length c), (11, .int .i64 l.length)]) (fun i => XM W (foot [.cells bt 0 4 (encT bf r (.slice p l.length c)), frow p cap 98 4 k C, .cells bf 0 321 (encF s), .fam fam40 (FC.rowsN 9 s), .fam fam40 (FC.rowsK 3 s)]) [.cells bz 0 2 (encW z), .cells bt 0 4 (encT bf r (.slice p l.length c)), frow p cap 98 4 k C, .cells bf 0 321 (encF s), .fam fam40 (FC.rowsN 9 s), .fam fam40 (FC.rowsK 3 s)]) (0) ?_ (S5 rfl rfl rfl rfl rfl) (fun _ hw => XM.pick .h6 hw) ?_
 ·
  exact ⟨⟨by omega, by omega⟩, fun j a b => by omega⟩
 intro i hi
 obtain ⟨⟨hi0, hi1⟩, hno⟩ := hi
 refine XC.sr ?_
 refine XO.v (V.cmp rfl rfl rfl) rfl ?_
 refine XO.nk [(0, _), (3, _), (10, _), (11, _), (12, _), (13, _)] (S6 rfl rfl rfl rfl rfl rfl) ?_
 refine XC.seq ?_
 refine XC.condP rfl (fun h1 => ?_) (fun h1 => ?_)
 ·
  refine XC.skip ?_
  refine XE.next ?_
  refine XC.keep [(0, _), (3, _), (10, _), (11, _), (12, _)] (S5 rfl rfl rfl rfl rfl) ?_
  refine XC.seq ?_
  refine XC.block ?_
  refine XC.sr ?_
  refine XO.openRow (.t2 .here) (by omega) ?_
  intro g hg
  subst hg
  refine XO.mv rfl rfl ?_
  refine XO.v (V.indexSl rfl rfl sl_58 (by omega)) rfl ?_
  refine XO.v (V.loadFA rfl (inXM (.t2 .here)) (hC.ld hlk _ (by omega)) ag_98 sz_98_4) rfl ?_
  refine XO.allocZ (z := .agg (MT.arr MT.nil)) (m := 4) (C := encMt MT.nil) (by kernel_rfl) rfl (encMt.box _) rfl ?_
  intro bm
  refine XO.as rfl rfl ?_
  refine XO.storeAgg rfl rfl .here (encMt.st _ _) ⟨rfl, rfl⟩ sz_98_4 ?_
  refine XO.nk [(0, _), (3, _), (5, _), (6, _), (10, _), (11, _), (12, _)] (S7 rfl rfl rfl rfl rfl rfl rfl) ?_
  refine XC.sr ?_
  refine XO.v (V.fieldAddr rfl fo_98_0) rfl ?_
  refine XO.v (V.loadAgg rfl (inXM .here) (encMt.ldA _) ag_56 sz_56_2) rfl ?_
  refine XO.v (V.loadAgg rfl (inXM (.there .here)) (encW.agg _) ag_56 sz_56_2) rfl ?_
  refine XO.v (V.eqW rfl rfl whEq) rfl ?_
  refine XO.nk [(0, _), (3, _), (5, _), (6, _), (10, _), (11, _), (12, _), (20, _)] (S8 rfl rfl rfl rfl rfl rfl rfl rfl) ?_
  refine XC.condP rfl (fun h2 => ?_) (fun h2 => ?_)
  ·
   refine XC.seq ?_
   refine XC.regionQ mixed (f := 19) (l := #[false, false, false, false, false, false, false, false, false, false, false, false, false, false, false, false, false, false, false]) rfl rfl XM.drawn' ?_
   refine XQ.rowLen (.t3 .here) ?_
   intro hkc
   have hlc : l.length ≤ c := by
    have hv2 : (l.length = k ∧ c = cap) ∨ (c = l.length ∧ l.length ≤ k) := hv
    omega
   refine XQ.pv (i := 0) (l' := #[tt,ff,ff,ff,ff,ff,ff,ff,ff,ff,ff,ff,ff,ff,ff,ff,ff,ff,ff]) rfl (by kernel_rfl) rfl (V.move rfl) rfl rfl ?_
   refine XQ.pv (i := 1) (l' := #[tt,tt,ff,ff,ff,ff,ff,ff,ff,ff,ff,ff,ff,ff,ff,ff,ff,ff,ff]) rfl (by kernel_rfl) rfl (V.move rfl) rfl rfl ?_
   refine XQ.pv (i := 2) (l' := #[tt,tt,tt,ff,ff,ff,ff,ff,ff,ff,ff,ff,ff,ff,ff,ff,ff,ff,ff]) rfl (by kernel_rfl) rfl (V.nilCheckP rfl) rfl rfl ?_
   refine XQ.pv (i := 3) (l' := #[tt,tt,tt,tt,ff,ff,ff,ff,ff,ff,ff,ff,ff,ff,ff,ff,ff,ff,ff]) rfl (by kernel_rfl) rfl (V.fieldAddr rfl fo_75_2) rfl rfl ?_
   refine XQ.load (i := 4) (l' := #[tt,tt,tt,tt,tt,ff,ff,ff,ff,ff,ff,ff,ff,ff,ff,ff,ff,ff,ff]) (.cells _ _ _ _) [15, 18] rfl (by kernel_rfl) rfl (.t2 .here) (V.load rfl inEnt (encT.ld2 _ _) sc_58) rfl (by kernel_rfl) rfl ?_
   refine XQ.pv (i := 5) (l' := #[tt,tt,tt,tt,tt,tt,ff,ff,ff,ff,ff,ff,ff,ff,ff,ff,ff,ff,ff]) rfl (by kernel_rfl) rfl (V.move rfl) rfl rfl ?_
   refine XQ.pv (i := 6) (l' := #[tt,tt,tt,tt,tt,tt,tt,ff,ff,ff,ff,ff,ff,ff,ff,ff,ff,ff,ff]) rfl (by kernel_rfl) rfl (V.move rfl) rfl rfl ?_
   refine XQ.pv (i := 7) (l' := #[tt,tt,tt,tt,tt,tt,tt,tt,ff,ff,ff,ff,ff,ff,ff,ff,ff,ff,ff]) rfl (by kernel_rfl) rfl (V.slice3 (m := i.toNat) rfl rfl rfl Tryz.underlying58 sz_98_4 (by omega) (by omega)) rfl rfl ?_
   refine XQ.pv (i := 8) (l' := #[tt,tt,tt,tt,tt,tt,tt,tt,tt,ff,ff,ff,ff,ff,ff,ff,ff,ff,ff]) rfl (by kernel_rfl) rfl (V.move rfl) rfl rfl ?_
   refine XQ.pv (i := 9) (l' := #[tt,tt,tt,tt,tt,tt,tt,tt,tt,tt,ff,ff,ff,ff,ff,ff,ff,ff,ff]) rfl (by kernel_rfl) rfl (V.nilCheckP rfl) rfl rfl ?_
   refine XQ.pv (i := 10) (l' := #[tt,tt,tt,tt,tt,tt,tt,tt,tt,tt,tt,ff,ff,ff,ff,ff,ff,ff,ff]) rfl (by kernel_rfl) rfl (V.fieldAddr rfl fo_75_2) rfl rfl ?_
   refine XQ.load (i := 11) (l' := #[tt,tt,tt,tt,tt,tt,tt,tt,tt,tt,tt,tt,ff,ff,ff,ff,ff,ff,ff]) (.cells _ _ _ _) [15, 18] rfl (by kernel_rfl) rfl (.t2 .here) (V.load rfl inEnt (encT.ld2 _ _) sc_58) rfl (by kernel_rfl) rfl ?_
   refine XQ.pv (i := 12) (l' := #[tt,tt,tt,tt,tt,tt,tt,tt,tt,tt,tt,tt,tt,ff,ff,ff,ff,ff,ff]) rfl (by kernel_rfl) rfl (V.move rfl) rfl rfl ?_
   refine XQ.pv (i := 13) (l' := #[tt,tt,tt,tt,tt,tt,tt,tt,tt,tt,tt,tt,tt,tt,ff,ff,ff,ff,ff]) rfl (by kernel_rfl) rfl (V.add rfl rfl _ (IntWalk.i64_in _ (by omega))) rfl rfl ?_
   refine XQ.pv (i := 14) (l' := #[tt,tt,tt,tt,tt,tt,tt,tt,tt,tt,tt,tt,tt,tt,tt,ff,ff,ff,ff]) rfl (by kernel_rfl) rfl (V.sliceTail (m := i.toNat + 1) rfl rfl Tryz.underlying58 sz_98_4 (by omega) (by omega) hlc) rfl rfl ?_
   refine XQ.g (i := 15) (l' := #[tt,tt,tt,tt,tt,tt,tt,tt,tt,tt,tt,tt,tt,tt,tt,tt,ff,ff,ff]) rfl (by kernel_rfl) rfl (RG.cut (e := 98) (i := i.toNat) (q := c - (i.toNat + 1)) hv (by omega) rfl rfl Tryz.underlying58 rt_98_4 (.t3 .here) (by omega)) rfl (fun _ _ hw' => ⟨fun hs => (hs 15 (by first | (simp; done) | (simp; rfl)) rfl).elim, fun hs => (hs 15 (by first | (simp; done) | (simp; rfl)) rfl).elim, trivial⟩) ?_
   intro u hu
   obtain ⟨hu1, hu2, hu3, hu4⟩ := hu
   obtain ⟨p2, cap2, k2, len2, c2, C2⟩ := u
   have hu2 : len2 = l.length - 1 := hu2
   subst hu2
   refine XQ.pv (i := 16) (l' := #[tt,tt,tt,tt,tt,tt,tt,tt,tt,tt,tt,tt,tt,tt,tt,tt,tt,ff,ff]) rfl (by kernel_rfl) rfl (V.nilCheckP rfl) rfl rfl ?_
   refine XQ.pv (i := 17) (l' := #[tt,tt,tt,tt,tt,tt,tt,tt,tt,tt,tt,tt,tt,tt,tt,tt,tt,tt,ff]) rfl (by kernel_rfl) rfl (V.fieldAddr rfl fo_75_2) rfl rfl ?_
   refine XQ.store (i := 18) (l' := #[tt,tt,tt,tt,tt,tt,tt,tt,tt,tt,tt,tt,tt,tt,tt,tt,tt,tt,tt]) rfl (by kernel_rfl) rfl rfl rfl (.t3 .here) (encT.st2 _ _ _) rfl sz_58_1 (fun _ hw' => ⟨fun hs => (hs 15 (by first | (simp; done) | (simp; rfl)) rfl).elim, fun hs => (hs 15 (by first | (simp; done) | (simp; rfl)) rfl).elim, trivial⟩) ?_
   refine XQ.done (by kernel_rfl) ?_
   refine XE.next ?_
   refine XC.keep [(0, _), (6, _)] (S2 rfl rfl) ?_
   refine XC.seq ?_
   refine XC.regionQ mixed (f := 8) (l := #[false, false, false, false, false, false, false, false]) rfl rfl XM.drawn' ?_
   refine XQ.pv (i := 0) (l' := #[tt,ff,ff,ff,ff,ff,ff,ff]) rfl (by kernel_rfl) rfl (V.move rfl) rfl rfl ?_
   refine XQ.pv (i := 1) (l' := #[tt,tt,ff,ff,ff,ff,ff,ff]) rfl (by kernel_rfl) rfl (V.nilCheckP rfl) rfl rfl ?_
   refine XQ.pv (i := 2) (l' := #[tt,tt,tt,ff,ff,ff,ff,ff]) rfl (by kernel_rfl) rfl (V.fieldAddr rfl fo_75_0) rfl rfl ?_
   refine XQ.load (i := 3) (l' := #[tt,tt,tt,tt,ff,ff,ff,ff]) (.cells _ _ _ _) [7] rfl (by kernel_rfl) rfl (.t3 .here) (V.load rfl inEnt (encT.ld0 _ _) sc_25) rfl (by kernel_rfl) rfl ?_
   refine XQ.pv (i := 4) (l' := #[tt,tt,tt,tt,tt,ff,ff,ff]) rfl (by kernel_rfl) rfl (V.fieldAddr rfl fo_98_0) rfl rfl ?_
   refine XQ.pv (i := 5) (l' := #[tt,tt,tt,tt,tt,tt,ff,ff]) rfl (by kernel_rfl) rfl (V.fieldAddr rfl fo_56_1) rfl rfl ?_
   refine XQ.load (i := 6) (l' := #[tt,tt,tt,tt,tt,tt,tt,ff]) (.cells _ _ _ _) [7] rfl (by kernel_rfl) rfl (.there .here) (V.load rfl inEnt (encMt.ldAn _) sc_3) rfl (by kernel_rfl) rfl ?_
   refine XQ.call (i := 7) (l' := #[tt,tt,tt,tt,tt,tt,tt,tt]) rfl (by kernel_rfl) rfl rfl (t_Let _ _ _ hI _) (.cons (.t4 .here) (.cons (.t4 .here) (.cons (.t4 .here) .nil))) cl_37 rfl (by rintro _ _ ⟨rfl, v1, hv1, pv1, cv1, rfl⟩; all_goals (intro _ hw'; exact ⟨fun hs => (hs 7 (by first | (simp; done) | (simp; rfl)) rfl).elim, fun hs => (hs 7 (by first | (simp; done) | (simp; rfl)) rfl).elim, trivial⟩)) ?_
   rintro _ _ ⟨rfl, v1, hv1, pv1, cv1, rfl⟩
   refine XQ.done (by kernel_rfl) ?_
   refine XE.next ?_
   refine XC.keep [(0, _), (6, _)] (S2 rfl rfl) ?_
   refine XC.seq ?_
   refine XC.regionQ mixed (f := 8) (l := #[false, false, false, false, false, false, false, false]) rfl rfl XM.drawn' ?_
   have hO1 : v1.toFF.Ok d (B + 1) := by rw [hv1]; exact hO.letF (mat l i).at_.node
   refine XQ.pv (i := 0) (l' := #[tt,ff,ff,ff,ff,ff,ff,ff]) rfl (by kernel_rfl) rfl (V.move rfl) rfl rfl ?_
   refine XQ.pv (i := 1) (l' := #[tt,tt,ff,ff,ff,ff,ff,ff]) rfl (by kernel_rfl) rfl (V.nilCheckP rfl) rfl rfl ?_
   refine XQ.pv (i := 2) (l' := #[tt,tt,tt,ff,ff,ff,ff,ff]) rfl (by kernel_rfl) rfl (V.fieldAddr rfl fo_75_0) rfl rfl ?_
   refine XQ.load (i := 3) (l' := #[tt,tt,tt,tt,ff,ff,ff,ff]) (.cells _ _ _ _) [7] rfl (by kernel_rfl) rfl (.t6 .here) (V.load rfl inEnt (encT.ld0 _ _) sc_25) rfl (by kernel_rfl) rfl ?_
   refine XQ.pv (i := 4) (l' := #[tt,tt,tt,tt,tt,ff,ff,ff]) rfl (by kernel_rfl) rfl (V.fieldAddr rfl fo_98_1) rfl rfl ?_
   refine XQ.pv (i := 5) (l' := #[tt,tt,tt,tt,tt,tt,ff,ff]) rfl (by kernel_rfl) rfl (V.fieldAddr rfl fo_56_1) rfl rfl ?_
   refine XQ.load (i := 6) (l' := #[tt,tt,tt,tt,tt,tt,tt,ff]) (.cells _ _ _ _) [7] rfl (by kernel_rfl) rfl (.t4 .here) (V.load rfl inEnt (encMt.ldTn _) sc_3) rfl (by kernel_rfl) rfl ?_
   refine XQ.call (i := 7) (l' := #[tt,tt,tt,tt,tt,tt,tt,tt]) rfl (by kernel_rfl) rfl rfl (t_Let _ _ v1 (hO1.sh (by omega)) _) .h3 cl_37 rfl (by rintro _ _ ⟨rfl, v2, hv2, pv2, cv2, rfl⟩; all_goals (intro _ hw'; exact ⟨fun hs => (hs 7 (by first | (simp; done) | (simp; rfl)) rfl).elim, fun hs => (hs 7 (by first | (simp; done) | (simp; rfl)) rfl).elim, trivial⟩)) ?_
   rintro _ _ ⟨rfl, v2, hv2, pv2, cv2, rfl⟩
   refine XQ.done (by kernel_rfl) ?_
   refine XE.next ?_
   refine XC.keep [] (Sub.nil _) ?_
   refine XC.sr ?_
   refine XO.as rfl rfl ?_
   refine XO.nk [(4, _)] (S1 rfl) ?_
   refine XC.ret ?_
   refine XE.blockRet ?_
   refine XE.thenRet ?_
   refine XE.thenRet ?_
   refine XE.blockRet ?_
   refine XE.thenRet ?_
   refine XE.ret1 rfl rfl (post_of (.cons (.t6 .here) (.cons (.t3 .here) .h3)) rfl ?_)
   have ei := idxAt_some (l := l) ⟨hi0, by omega⟩ hno (by assumption)
   have e : unbindE l z = 0 := by unfold unbindE; rw [if_pos (by omega)]
   have eL : (unbindL l z) = l.eraseIdx i.toNat := by unfold unbindL; rw [ei]
   have eF : unbindF s.toFF l z = (s.toFF.letF (mat l i).at_.node).letF (mat l i).to.node := by unfold unbindF; rw [if_pos (by omega), ei, show ((i.toNat : Nat) : Int) = i from by omega]
   have hle : (l.eraseIdx i.toNat).length = l.length - 1 := List.length_eraseIdx_of_lt (by omega)
   exact ⟨by rw [e]; rfl, p2, cap2, k2, c2, C2, v2, by rw [eL, hle]; exact hu1, by rw [eL]; exact hC.erase i.toNat (by omega) hu3 hu4, by rw [eF, hv2, hv1], by rw [pv2, pv1], by rw [cv2, cv1], by rw [eL, hle]⟩
  ·
   refine XC.skip ?_
   refine XE.blockNormal ?_
   refine XE.next ?_
   refine XC.keep [(0, _), (3, _), (10, _), (11, _), (12, _)] (S5 rfl rfl rfl rfl rfl) ?_
   refine XC.region ?_
   refine XO.v (V.add rfl rfl _ (IntWalk.i64_in _ (by omega))) rfl ?_
   refine XO.mv rfl rfl ?_
   refine XO.nil ?_
   refine XE.again (i + 1) ?_ ?_ (S5 rfl rfl rfl rfl rfl) (fun _ hw => XM.pick (.cons (.there .here) (.cons (.there .here) (.cons (.there .here) (.cons (.there .here) (.cons (.there .here) (.cons (.there .here) .nil)))))) hw)
   ·
    (first | omega | (simp; done) | (simp; omega))
   ·
    refine ⟨⟨by omega, by omega⟩, fun j a b => ?_⟩
    by_cases e : j = i
    ·
     subst e; assumption
    ·
     exact hno j a (by omega)
 ·
  refine XC.exit ?_
  refine XE.thenExit ?_
  refine XE.thenExit ?_
  refine XE.blockExit ?_
  refine XE.next ?_
  refine XC.keep [] (Sub.nil _) ?_
  refine XC.sr ?_
  refine XO.v (V.makeIface rfl Tryz.underlying76 (by simp)) rfl ?_
  refine XO.as rfl rfl ?_
  refine XO.nk [(4, _)] (S1 rfl) ?_
  refine XC.ret ?_
  refine XE.ret1 rfl rfl (post_of (.cons (.there .here) (.cons (.there .here) (.cons (.there .here) (.cons (.there .here) (.cons (.there .here) .nil))))) rfl ?_)
  have ei := idxAt_none (l := l) (w := z) (fun j a b => hno j a (by omega))
  have e : unbindE l z = 2 := by unfold unbindE; rw [if_neg (by omega)]
  have eL : (unbindL l z) = l := by unfold unbindL; rw [ei]; exact List.eraseIdx_of_length_le (Nat.le_refl _)
  have eF : unbindF s.toFF l z = s.toFF := by unfold unbindF; rw [if_neg (by omega)]
  exact ⟨by rw [e]; rfl, p, cap, k, c, C, s, by rw [eL]; exact hv, by rw [eL]; exact hC, by rw [eF], rfl, rfl, by rw [eL]⟩
end Go.X
