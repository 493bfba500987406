import Derived.Test.YtmklfkjfgjagaaaGreatDoorXShort
import Derived.Test.YtmklfkjfgjagaaaGreatDoorYKW3
namespace Go.X
open Go Go.Proofs
theorem cl_16 : callable Tryz.prog 16 = true := by kernel_rfl
theorem sz_58_1 : szOf Tryz.prog 58 = some 1 := by kernel_rfl
set_option maxRecDepth 10000 in
set_option maxHeartbeats 2000000 in
theorem m_New (bf : Nat) (s : FC) (d : Int → Nat) (B : Int) (hO : s.toFF.Ok d B) (hB : B ≤ 900000) (t : Int) : Spec Tryz.prog 8 [ptr bf 0 0, .int .i64 t]
    [.cells bf 0 321 (encF s), .fam fam40 (FC.rowsN 9 s), .fam fam40 (FC.rowsK 3 s), irow (FC.rP s) (FC.rC s) 3 (FC.toFF s).roots]
    (fun v H1 => (s.rootE t ≠ 0 ∧ v = .tuple #[.pointer none, errv 76 (s.rootE t)] ∧ H1 = [.cells bf 0 321 (encF s), .fam fam40 (FC.rowsN 9 s), .fam fam40 (FC.rowsK 3 s), irow (FC.rP s) (FC.rC s) 3 (FC.toFF s).roots]) ∨ (s.rootE t = 0 ∧ ∃ (bt : Nat) (u : FC), v = .tuple #[ptr bt 0 0, .nilIface] ∧ u.toFF = s.toFF.hold (s.rootV t) ∧ u.rP = s.rP ∧ u.rC = s.rC ∧ H1 = [.cells bt 0 4 (encT bf ⟨t, s.rootV t⟩ (.slice none 0 0)), frow none 0 98 4 0 C0, .cells bf 0 321 (encF u), .fam fam40 (FC.rowsN 9 u), .fam fam40 (FC.rowsK 3 u), irow (FC.rP s) (FC.rC s) 3 (FC.toFF s).roots])) := by
 have hI := hO.sh (by omega)
 refine Spec.intro Tryz.func8 rfl rfl ?_
 intro W
 refine XC.sr ?_
 refine XO.as rfl rfl ?_
 refine XO.as rfl rfl ?_
 refine XO.nk [(0, _), (1, _)] (S2 rfl rfl) ?_
 refine XC.sr ?_
 refine XO.mv rfl rfl ?_
 refine XO.mv rfl rfl ?_
 refine XO.call rfl (t_Root _ _ _ hI _) (.cons .here (.cons (.t2 .here) .nil)) cl_24 rfl ?_
 rintro _ _ ⟨rfl, rfl⟩
 refine XO.mv rfl rfl ?_
 refine XO.v (V.extract rfl rfl) rfl ?_
 refine XO.v (V.extract rfl rfl) rfl ?_
 refine XO.as rfl rfl ?_
 refine XO.as rfl rfl ?_
 refine XO.nk [(0, _), (1, _), (6, _), (7, _)] (S4 rfl rfl rfl rfl) ?_
 refine XC.seq ?_
 refine XC.sr ?_
 refine XO.mv rfl rfl ?_
 refine XO.v (V.errNil rfl Tryz.underlying37 rfl) rfl ?_
 refine XO.nk [(0, _), (1, _), (6, _), (7, _), (15, _)] (S5 rfl rfl rfl rfl rfl) ?_
 refine XC.condP rfl (fun h1 => ?_) (fun h1 => ?_)
 ·
  refine XC.sr ?_
  refine XO.mv rfl rfl ?_
  refine XO.as rfl rfl ?_
  refine XO.as rfl rfl ?_
  refine XO.nk [(4, _), (5, _)] (S2 rfl rfl) ?_
  refine XC.ret ?_
  refine XE.thenRet ?_
  refine XE.ret2 rfl rfl rfl (post_of (.cons .here (.cons (.there .here) (.cons (.there .here) .h1))) rfl ?_)
  exact .inl ⟨by assumption, rfl, rfl⟩
 ·
  refine XC.skip ?_
  refine XE.next ?_
  refine XC.keep [(0, _), (1, _), (6, _)] (S3 rfl rfl rfl) ?_
  refine XC.sr ?_
  refine XO.mv rfl rfl ?_
  refine XO.mv rfl rfl ?_
  refine XO.call rfl (t_Hold _ _ _ hI _) (.cons .here (.cons (.there .here) (.cons (.there .here) .nil))) cl_25 rfl ?_
  rintro _ _ ⟨rfl, u, hu, pu, cu, rfl⟩
  refine XO.nk [(0, _), (1, _), (6, _)] (S3 rfl rfl rfl) ?_
  refine XC.sr ?_
  refine XO.mv rfl rfl ?_
  refine XO.mv rfl rfl ?_
  refine XO.mv rfl rfl ?_
  refine XO.v (V.build (vs := #[(0, .int .i64 t), (1, .int .i64 (s.rootV t))]) rfl (v := .agg (WH.arr ⟨t, s.rootV t⟩)) (fun _ => by kernel_rfl)) rfl ?_
  refine XO.v (V.build (vs := #[(0, ptr bf 0 0), (1, .agg (WH.arr ⟨t, s.rootV t⟩))]) rfl (v := .agg (arrT bf ⟨t, s.rootV t⟩ (.slice none 0 0))) (fun _ => by kernel_rfl)) rfl ?_
  refine XO.box (m := 4) (C := encT bf ⟨t, s.rootV t⟩ (.slice none 0 0)) rfl rfl (encT.box _ _ _) rfl ?_
  intro bt
  refine XO.as rfl rfl ?_
  refine XO.as rfl rfl ?_
  refine XO.nilRow 98 4 ?_
  refine XO.nk [(4, _), (5, _)] (S2 rfl rfl) ?_
  refine XC.ret ?_
  refine XE.ret2 rfl rfl rfl (post_of (.cons (.there .here) .h5) rfl ?_)
  exact .inr ⟨Decidable.byContradiction (by assumption), bt, u, rfl, hu, pu, cu, rfl⟩
set_option maxRecDepth 10000 in
set_option maxHeartbeats 4000000 in
theorem m_Copy (bt bf : Nat) (r : WH) (l : List MT) (p : Option Addr) (cap k c : Nat) (C : Nat → Value) (hv : RV.ok ⟨p, cap, k, l.length, c, C⟩) (hC : MC C l) (hm6 : l.length ≤ 6) (s : FC) (d : Int → Nat) (B : Int) (hO : s.toFF.Ok d B) (hB : B ≤ 900000) : Spec Tryz.prog 14 [ptr bt 0 0]
    [.cells bt 0 4 (encT bf r (.slice p l.length c)), frow p cap 98 4 k C, .cells bf 0 321 (encF s), .fam fam40 (FC.rowsN 9 s), .fam fam40 (FC.rowsK 3 s)]
    (fun v H1 => ∃ (bt2 : Nat) (p2 : Option Addr) (cap2 k2 c2 : Nat) (C2 : Nat → Value) (u : FC), v = ptr bt2 0 0 ∧ RV.ok ⟨p2, cap2, k2, l.length, c2, C2⟩ ∧ MC C2 l ∧ u.toFF = copyF s.toFF l r ∧ u.toFF.Ok d (B + 13) ∧ u.rP = s.rP ∧ u.rC = s.rC ∧ H1 = [.cells bt2 0 4 (encT bf r (.slice p2 l.length c2)), frow p2 cap2 98 4 k2 C2, .cells bt 0 4 (encT bf r (.slice p l.length c)), frow p cap 98 4 k C, .cells bf 0 321 (encF u), .fam fam40 (FC.rowsN 9 u), .fam fam40 (FC.rowsK 3 u)]) := by
 have hlk := RV.ok_le hv
 have hlk : l.length ≤ k := hlk
 have hI := hO.sh (by omega)
 refine Spec.intro Tryz.func14 rfl rfl ?_
 intro W
 refine XC.sr ?_
 refine XO.as rfl rfl ?_
 refine XO.nk [(0, _)] (S1 rfl) ?_
 refine XC.seq ?_
 refine XC.regionQ mixed (f := 16) (l := #[false, false, false, false, false, false, false, false, false, false, false, false, false, false, false, false]) rfl rfl XM.drawn' ?_
 refine XQ.pv (i := 0) (l' := #[tt,ff,ff,ff,ff,ff,ff,ff,ff,ff,ff,ff,ff,ff,ff,ff]) rfl (by kernel_rfl) rfl (V.move rfl) rfl rfl ?_
 refine XQ.pv (i := 1) (l' := #[tt,tt,ff,ff,ff,ff,ff,ff,ff,ff,ff,ff,ff,ff,ff,ff]) rfl (by kernel_rfl) rfl (V.nilCheckP rfl) rfl rfl ?_
 refine XQ.pv (i := 2) (l' := #[tt,tt,tt,ff,ff,ff,ff,ff,ff,ff,ff,ff,ff,ff,ff,ff]) rfl (by kernel_rfl) rfl (V.fieldAddr rfl fo_75_0) rfl rfl ?_
 refine XQ.load (i := 3) (l' := #[tt,tt,tt,tt,ff,ff,ff,ff,ff,ff,ff,ff,ff,ff,ff,ff]) (.cells _ _ _ _) [14] rfl (by kernel_rfl) rfl .here (V.load rfl inEnt (encT.ld0 _ _) sc_25) rfl (by kernel_rfl) rfl ?_
 refine XQ.pv (i := 4) (l' := #[tt,tt,tt,tt,tt,ff,ff,ff,ff,ff,ff,ff,ff,ff,ff,ff]) rfl (by kernel_rfl) rfl (V.move rfl) rfl rfl ?_
 refine XQ.pv (i := 5) (l' := #[tt,tt,tt,tt,tt,tt,ff,ff,ff,ff,ff,ff,ff,ff,ff,ff]) rfl (by kernel_rfl) rfl (V.nilCheckP rfl) rfl rfl ?_
 refine XQ.pv (i := 6) (l' := #[tt,tt,tt,tt,tt,tt,tt,ff,ff,ff,ff,ff,ff,ff,ff,ff]) rfl (by kernel_rfl) rfl (V.fieldAddr rfl fo_75_1) rfl rfl ?_
 refine XQ.load (i := 7) (l' := #[tt,tt,tt,tt,tt,tt,tt,tt,ff,ff,ff,ff,ff,ff,ff,ff]) (.cells _ _ _ _) [14] rfl (by kernel_rfl) rfl .here (V.loadAgg rfl inEnt (encT.ld1 _ _) ag_56 sz_56_2) rfl (by kernel_rfl) rfl ?_
 refine XQ.pv (i := 8) (l' := #[tt,tt,tt,tt,tt,tt,tt,tt,tt,ff,ff,ff,ff,ff,ff,ff]) rfl (by kernel_rfl) rfl (V.move rfl) rfl rfl ?_
 refine XQ.pv (i := 9) (l' := #[tt,tt,tt,tt,tt,tt,tt,tt,tt,tt,ff,ff,ff,ff,ff,ff]) rfl (by kernel_rfl) rfl (V.nilCheckP rfl) rfl rfl ?_
 refine XQ.pv (i := 10) (l' := #[tt,tt,tt,tt,tt,tt,tt,tt,tt,tt,tt,ff,ff,ff,ff,ff]) rfl (by kernel_rfl) rfl (V.fieldAddr rfl fo_75_2) rfl rfl ?_
 refine XQ.load (i := 11) (l' := #[tt,tt,tt,tt,tt,tt,tt,tt,tt,tt,tt,tt,ff,ff,ff,ff]) (.cells _ _ _ _) [12, 14] rfl (by kernel_rfl) rfl .here (V.load rfl inEnt (encT.ld2 _ _) sc_58) rfl (by kernel_rfl) rfl ?_
 refine XQ.g (i := 12) (l' := #[tt,tt,tt,tt,tt,tt,tt,tt,tt,tt,tt,tt,tt,ff,ff,ff]) rfl (by kernel_rfl) rfl (RG.clone (e := 98) (v := ⟨p, cap, k, l.length, c, C⟩) hv rfl Tryz.underlying58 rt_98_4 (.there .here) (by show l.length ≤ _; omega)) rfl (fun _ _ hw' => ⟨fun hs => (hs 12 (by first | (simp; done) | (simp; rfl)) rfl).elim, fun _ => inXM (.there .here) _ hw', fun _ => inXM (.there .here) _ hw', trivial⟩) ?_
 intro u hu
 obtain ⟨hu1, hu2, hu3⟩ := hu
 obtain ⟨p2, cap2, k2, len2, c2, C2⟩ := u
 have hu2 : len2 = l.length := hu2
 subst hu2
 have hC2 : MC C2 l := hC.copy hu3
 have hlk2 : l.length ≤ k2 := RV.ok_le hu1
 refine XQ.pv (i := 13) (l' := #[tt,tt,tt,tt,tt,tt,tt,tt,tt,tt,tt,tt,tt,tt,ff,ff]) rfl (by kernel_rfl) rfl (V.build (vs := #[(0, ptr bf 0 0), (1, .agg (WH.arr r)), (2, .slice p2 l.length c2)]) rfl (v := .agg (arrT bf r (.slice p2 l.length c2))) (fun _ => by kernel_rfl)) rfl rfl ?_
 refine XQ.g (i := 14) (l' := #[tt,tt,tt,tt,tt,tt,tt,tt,tt,tt,tt,tt,tt,tt,tt,ff]) rfl (by kernel_rfl) rfl (RG.box (m := 4) (C := encT bf r (.slice p2 l.length c2)) rfl rfl (encT.box _ _ _)) rfl (fun _ _ hw' => ⟨fun hs => (hs 12 (by first | (simp; done) | (simp; rfl)) rfl).elim, fun hs => (hs 14 (by first | (simp; done) | (simp; rfl)) rfl).elim, fun hs => (hs 14 (by first | (simp; done) | (simp; rfl)) rfl).elim, trivial⟩) ?_
 intro bt2 _
 refine XQ.pv (i := 15) (l' := #[tt,tt,tt,tt,tt,tt,tt,tt,tt,tt,tt,tt,tt,tt,tt,tt]) rfl (by kernel_rfl) rfl (V.assign rfl) rfl rfl ?_
 refine XQ.done (by kernel_rfl) ?_
 refine XE.next ?_
 refine XC.keep [(3, _)] (S1 rfl) ?_
 refine XC.seq ?_
 refine XC.regionQ mixed (f := 10) (l := #[false, false, false, false, false, false, false, false, false, false]) rfl rfl XM.drawn' ?_
 refine XQ.pv (i := 0) (l' := #[tt,ff,ff,ff,ff,ff,ff,ff,ff,ff]) rfl (by kernel_rfl) rfl (V.move rfl) rfl rfl ?_
 refine XQ.pv (i := 1) (l' := #[tt,tt,ff,ff,ff,ff,ff,ff,ff,ff]) rfl (by kernel_rfl) rfl (V.nilCheckP rfl) rfl rfl ?_
 refine XQ.pv (i := 2) (l' := #[tt,tt,tt,ff,ff,ff,ff,ff,ff,ff]) rfl (by kernel_rfl) rfl (V.fieldAddr rfl fo_75_0) rfl rfl ?_
 refine XQ.load (i := 3) (l' := #[tt,tt,tt,tt,ff,ff,ff,ff,ff,ff]) (.cells _ _ _ _) [9] rfl (by kernel_rfl) rfl .here (V.load rfl inEnt (encT.ld0 _ _) sc_25) rfl (by kernel_rfl) rfl ?_
 refine XQ.pv (i := 4) (l' := #[tt,tt,tt,tt,tt,ff,ff,ff,ff,ff]) rfl (by kernel_rfl) rfl (V.move rfl) rfl rfl ?_
 refine XQ.pv (i := 5) (l' := #[tt,tt,tt,tt,tt,tt,ff,ff,ff,ff]) rfl (by kernel_rfl) rfl (V.nilCheckP rfl) rfl rfl ?_
 refine XQ.pv (i := 6) (l' := #[tt,tt,tt,tt,tt,tt,tt,ff,ff,ff]) rfl (by kernel_rfl) rfl (V.fieldAddr rfl fo_75_1) rfl rfl ?_
 refine XQ.pv (i := 7) (l' := #[tt,tt,tt,tt,tt,tt,tt,tt,ff,ff]) rfl (by kernel_rfl) rfl (V.fieldAddr rfl fo_56_1) rfl rfl ?_
 refine XQ.load (i := 8) (l' := #[tt,tt,tt,tt,tt,tt,tt,tt,tt,ff]) (.cells _ _ _ _) [9] rfl (by kernel_rfl) rfl .here (V.load rfl inEnt (encT.ld1n _ _) sc_3) rfl (by kernel_rfl) rfl ?_
 refine XQ.call (i := 9) (l' := #[tt,tt,tt,tt,tt,tt,tt,tt,tt,tt]) rfl (by kernel_rfl) rfl rfl (t_Hold _ _ s hI _) (.cons (.t4 .here) (.cons (.t4 .here) (.cons (.t4 .here) .nil))) cl_25 rfl (by rintro _ _ ⟨rfl, u0, hu0, pu0, cu0, rfl⟩; all_goals (intro _ hw'; exact ⟨fun hs => (hs 9 (by first | (simp; done) | (simp; rfl)) rfl).elim, fun hs => (hs 9 (by first | (simp; done) | (simp; rfl)) rfl).elim, trivial⟩)) ?_
 rintro _ _ ⟨rfl, u0, hu0, pu0, cu0, rfl⟩
 refine XQ.done (by kernel_rfl) ?_
 refine XE.next ?_
 refine XC.keep [(3, _)] (S1 rfl) ?_
 refine XC.seq ?_
 refine XC.sr ?_
 have hO0 : u0.toFF.Ok d (B + 1) := by rw [hu0]; exact hO.hold r.node
 refine XO.mv rfl rfl ?_
 refine XO.v (V.nilCheckP rfl) rfl ?_
 refine XO.v (V.fieldAddr rfl fo_75_2) rfl ?_
 refine XO.v (V.load rfl (inXM (.t3 .here)) (encT.ld2 _ _) sc_58) rfl ?_
 refine XO.v (V.lenSl rfl Tryz.underlying58) rfl ?_
 refine XO.mv rfl rfl ?_
 refine XO.nk [(3, _), (34, _), (35, _), (36, _)] (S4 rfl rfl rfl rfl) ?_
 refine XC.block ?_
 refine XC.loop (σ := FC × Int) (fun x => (l.length - x.2).toNat) (fun x => holdM x.1.toFF (l.drop x.2.toNat) = copyF s.toFF l r ∧ x.1.toFF.Ok d (B + 1 + 2 * x.2) ∧ x.1.rP = s.rP ∧ x.1.rC = s.rC ∧ 0 ≤ x.2 ∧ x.2 ≤ l.length) (fun x => [(36, .int .i64 x.2), (3, ptr bt2 0 0), (34, .slice p2 l.length c2), (35, .int .i64 l.length)]) (fun x => XM W (foot [.cells bt 0 4 (encT bf r (.slice p l.length c)), frow p cap 98 4 k C, .cells bf 0 321 (encF s), .fam fam40 (FC.rowsN 9 s), .fam fam40 (FC.rowsK 3 s)]) [.cells bt2 0 4 (encT bf r (.slice p2 l.length c2)), frow p2 cap2 98 4 k2 C2, .cells bt 0 4 (encT bf r (.slice p l.length c)), frow p cap 98 4 k C, .cells bf 0 321 (encF x.1), .fam fam40 (FC.rowsN 9 x.1), .fam fam40 (FC.rowsK 3 x.1)]) ((u0, 0)) ?_ (S4 rfl rfl rfl rfl) (fun _ hw => XM.pick (.cons (.t3 .here) (.cons (.t3 .here) (.cons (.t3 .here) (.cons (.t3 .here) .h3)))) hw) ?_
 ·
  exact ⟨by show holdM u0.toFF l = _; rw [hu0]; rfl, by simpa using hO0, pu0, cu0, by simp, by simp⟩
 intro x hx
 obtain ⟨hh, hOx, hxp, hxc, hx0, hx1⟩ := hx
 refine XC.sr ?_
 refine XO.v (V.cmp rfl rfl rfl) rfl ?_
 refine XO.nk [(3, _), (34, _), (35, _), (36, _), (37, _)] (S5 rfl rfl rfl rfl rfl) ?_
 refine XC.seq ?_
 refine XC.condP rfl (fun h1 => ?_) (fun h1 => ?_)
 ·
  refine XC.skip ?_
  refine XE.next ?_
  refine XC.keep [(3, _), (34, _), (35, _), (36, _)] (S4 rfl rfl rfl rfl) ?_
  refine XC.seq ?_
  refine XC.block ?_
  refine XC.sr ?_
  refine XO.openRow (.there .here) (by omega) ?_
  intro g hg
  subst hg
  refine XO.v (V.indexSl rfl rfl sl_58 (by omega)) rfl ?_
  refine XO.v (V.loadFA rfl (inXM (.there .here)) (hC2.ld hlk2 _ (by omega)) ag_98 sz_98_4) rfl ?_
  refine XO.allocZ (z := .agg (MT.arr MT.nil)) (m := 4) (C := encMt MT.nil) (by kernel_rfl) rfl (encMt.box _) rfl ?_
  intro bm
  refine XO.storeAgg rfl rfl .here (encMt.st _ _) ⟨rfl, rfl⟩ sz_98_4 ?_
  refine XO.nk [(3, _), (5, _), (34, _), (35, _), (36, _)] (S5 rfl rfl rfl rfl rfl) ?_
  refine XC.seq ?_
  refine XC.regionQ mixed (f := 8) (l := #[false, false, false, false, false, false, false, false]) rfl rfl XM.drawn' ?_
  refine XQ.pv (i := 0) (l' := #[tt,ff,ff,ff,ff,ff,ff,ff]) rfl (by kernel_rfl) rfl (V.move rfl) rfl rfl ?_
  refine XQ.pv (i := 1) (l' := #[tt,tt,ff,ff,ff,ff,ff,ff]) rfl (by kernel_rfl) rfl (V.nilCheckP rfl) rfl rfl ?_
  refine XQ.pv (i := 2) (l' := #[tt,tt,tt,ff,ff,ff,ff,ff]) rfl (by kernel_rfl) rfl (V.fieldAddr rfl fo_75_0) rfl rfl ?_
  refine XQ.load (i := 3) (l' := #[tt,tt,tt,tt,ff,ff,ff,ff]) (.cells _ _ _ _) [7] rfl (by kernel_rfl) rfl (.there .here) (V.load rfl inEnt (encT.ld0 _ _) sc_25) rfl (by kernel_rfl) rfl ?_
  refine XQ.pv (i := 4) (l' := #[tt,tt,tt,tt,tt,ff,ff,ff]) rfl (by kernel_rfl) rfl (V.fieldAddr rfl fo_98_0) rfl rfl ?_
  refine XQ.pv (i := 5) (l' := #[tt,tt,tt,tt,tt,tt,ff,ff]) rfl (by kernel_rfl) rfl (V.fieldAddr rfl fo_56_1) rfl rfl ?_
  refine XQ.load (i := 6) (l' := #[tt,tt,tt,tt,tt,tt,tt,ff]) (.cells _ _ _ _) [7] rfl (by kernel_rfl) rfl .here (V.load rfl inEnt (encMt.ldAn _) sc_3) rfl (by kernel_rfl) rfl ?_
  refine XQ.call (i := 7) (l' := #[tt,tt,tt,tt,tt,tt,tt,tt]) rfl (by kernel_rfl) rfl rfl (t_Hold _ _ x.1 (hOx.sh (by omega)) _) (.cons (.t5 .here) (.cons (.t5 .here) (.cons (.t5 .here) .nil))) cl_25 rfl (by rintro _ _ ⟨rfl, u1, hu1x, pu1, cu1, rfl⟩; all_goals (intro _ hw'; exact ⟨fun hs => (hs 7 (by first | (simp; done) | (simp; rfl)) rfl).elim, fun hs => (hs 7 (by first | (simp; done) | (simp; rfl)) rfl).elim, trivial⟩)) ?_
  rintro _ _ ⟨rfl, u1, hu1x, pu1, cu1, rfl⟩
  refine XQ.done (by kernel_rfl) ?_
  refine XE.next ?_
  refine XC.keep [(3, _), (5, _), (34, _), (35, _), (36, _)] (S5 rfl rfl rfl rfl rfl) ?_
  refine XC.regionQ mixed (f := 8) (l := #[false, false, false, false, false, false, false, false]) rfl rfl XM.drawn' ?_
  have hO1 : u1.toFF.Ok d (B + 1 + 2 * x.2 + 1) := by rw [hu1x]; exact hOx.hold (mat l x.2).at_.node
  refine XQ.pv (i := 0) (l' := #[tt,ff,ff,ff,ff,ff,ff,ff]) rfl (by kernel_rfl) rfl (V.move rfl) rfl rfl ?_
  refine XQ.pv (i := 1) (l' := #[tt,tt,ff,ff,ff,ff,ff,ff]) rfl (by kernel_rfl) rfl (V.nilCheckP rfl) rfl rfl ?_
  refine XQ.pv (i := 2) (l' := #[tt,tt,tt,ff,ff,ff,ff,ff]) rfl (by kernel_rfl) rfl (V.fieldAddr rfl fo_75_0) rfl rfl ?_
  refine XQ.load (i := 3) (l' := #[tt,tt,tt,tt,ff,ff,ff,ff]) (.cells _ _ _ _) [7] rfl (by kernel_rfl) rfl (.t4 .here) (V.load rfl inEnt (encT.ld0 _ _) sc_25) rfl (by kernel_rfl) rfl ?_
  refine XQ.pv (i := 4) (l' := #[tt,tt,tt,tt,tt,ff,ff,ff]) rfl (by kernel_rfl) rfl (V.fieldAddr rfl fo_98_1) rfl rfl ?_
  refine XQ.pv (i := 5) (l' := #[tt,tt,tt,tt,tt,tt,ff,ff]) rfl (by kernel_rfl) rfl (V.fieldAddr rfl fo_56_1) rfl rfl ?_
  refine XQ.load (i := 6) (l' := #[tt,tt,tt,tt,tt,tt,tt,ff]) (.cells _ _ _ _) [7] rfl (by kernel_rfl) rfl (.t3 .here) (V.load rfl inEnt (encMt.ldTn _) sc_3) rfl (by kernel_rfl) rfl ?_
  refine XQ.call (i := 7) (l' := #[tt,tt,tt,tt,tt,tt,tt,tt]) rfl (by kernel_rfl) rfl rfl (t_Hold _ _ u1 (hO1.sh (by omega)) _) .h3 cl_25 rfl (by rintro _ _ ⟨rfl, u2, hu2x, pu2, cu2, rfl⟩; all_goals (intro _ hw'; exact ⟨fun hs => (hs 7 (by first | (simp; done) | (simp; rfl)) rfl).elim, fun hs => (hs 7 (by first | (simp; done) | (simp; rfl)) rfl).elim, trivial⟩)) ?_
  rintro _ _ ⟨rfl, u2, hu2x, pu2, cu2, rfl⟩
  refine XQ.done (by kernel_rfl) ?_
  refine XE.blockNormal ?_
  refine XE.next ?_
  refine XC.keep [(3, _), (34, _), (35, _), (36, _)] (S4 rfl rfl rfl rfl) ?_
  refine XC.region ?_
  refine XO.v (V.add rfl rfl _ (IntWalk.i64_in _ (by omega))) rfl ?_
  refine XO.mv rfl rfl ?_
  refine XO.nil ?_
  refine XE.again ((u2, x.2 + 1)) ?_ ?_ (S4 rfl rfl rfl rfl) (fun _ hw => XM.pick (.cons (.t4 .here) (.cons (.t4 .here) (.cons (.t4 .here) (.cons (.t4 .here) .h3)))) hw)
  ·
   (simp; omega)
  ·
   exact ⟨by rw [← hh, holdM_step (i := x.2) ⟨by omega, by omega⟩]; show holdM u2.toFF _ = _; rw [hu2x, hu1x], by have h9 := hO1.hold (mat l x.2).to.node; rw [show B + 1 + 2 * (x.2 + 1) = B + 1 + 2 * x.2 + 1 + 1 from by omega]; show u2.toFF.Ok d _; rw [hu2x]; exact h9, by show u2.rP = _; rw [pu2, pu1, hxp], by show u2.rC = _; rw [cu2, cu1, hxc], by simp; omega, by simp; omega⟩
 ·
  refine XC.exit ?_
  refine XE.thenExit ?_
  refine XE.thenExit ?_
  refine XE.blockExit ?_
  refine XE.next ?_
  refine XC.keep [(3, _)] (S1 rfl) ?_
  refine XC.sr ?_
  refine XO.mv rfl rfl ?_
  refine XO.as rfl rfl ?_
  refine XO.nk [(2, _)] (S1 rfl) ?_
  refine XC.ret ?_
  refine XE.ret1 rfl rfl (post_of .h7 rfl ?_)
  have e : x.2 = l.length := by omega
  rw [e] at hh
  exact ⟨bt2, p2, cap2, k2, c2, C2, x.1, rfl, hu1, hC2, by rw [← hh, holdM_end], ⟨hOx.inv, fun n a b => Int.le_trans (hOx.held n a b) (by omega), by have := hOx.nn; omega⟩, hxp, hxc, rfl⟩
set_option maxRecDepth 10000 in
set_option maxHeartbeats 4000000 in
theorem m_Close (bt bf : Nat) (r : WH) (l : List MT) (p : Option Addr) (cap k c : Nat) (C : Nat → Value) (hv : RV.ok ⟨p, cap, k, l.length, c, C⟩) (hC : MC C l) (hm6 : l.length ≤ 6) (s : FC) (d : Int → Nat) (B : Int) (hO : s.toFF.Ok d B) (hB : B ≤ 900000) : Spec Tryz.prog 16 [ptr bt 0 0]
    [.cells bt 0 4 (encT bf r (.slice p l.length c)), frow p cap 98 4 k C, .cells bf 0 321 (encF s), .fam fam40 (FC.rowsN 9 s), .fam fam40 (FC.rowsK 3 s)]
    (fun v H1 => v = .tuple #[] ∧ ∃ u : FC, u.toFF = tcloseF s.toFF l r ∧ u.toFF.Ok d (B + 13) ∧ u.rP = s.rP ∧ u.rC = s.rC ∧ H1 = [.cells bt 0 4 (encT bf r (.slice none 0 0)), frow none 0 98 4 0 C0, .cells bf 0 321 (encF u), .fam fam40 (FC.rowsN 9 u), .fam fam40 (FC.rowsK 3 u)]) := by
 have hlk := RV.ok_le hv
 have hlk : l.length ≤ k := hlk
 refine Spec.intro Tryz.func16 rfl rfl ?_
 intro W
 refine XC.seq ?_
 refine XC.sr ?_
 refine XO.mv rfl rfl ?_
 refine XO.v (V.nilCheckP rfl) rfl ?_
 refine XO.v (V.fieldAddr rfl fo_75_2) rfl ?_
 refine XO.v (V.load rfl (inXM .here) (encT.ld2 _ _) sc_58) rfl ?_
 refine XO.v (V.lenSl rfl Tryz.underlying58) rfl ?_
 refine XO.mv rfl rfl ?_
 refine XO.nk [(0, _), (7, _), (8, _), (9, _)] (S4 rfl rfl rfl rfl) ?_
 refine XC.block ?_
 refine XC.loop (σ := FC × Int) (fun x => (l.length - x.2).toNat) (fun x => letM x.1.toFF (l.drop x.2.toNat) = letM s.toFF l ∧ x.1.toFF.Ok d (B + 2 * x.2) ∧ x.1.rP = s.rP ∧ x.1.rC = s.rC ∧ 0 ≤ x.2 ∧ x.2 ≤ l.length) (fun x => [(9, .int .i64 x.2), (0, ptr bt 0 0), (7, .slice p l.length c), (8, .int .i64 l.length)]) (fun x => XM W (foot [.cells bt 0 4 (encT bf r (.slice p l.length c)), frow p cap 98 4 k C, .cells bf 0 321 (encF s), .fam fam40 (FC.rowsN 9 s), .fam fam40 (FC.rowsK 3 s)]) [.cells bt 0 4 (encT bf r (.slice p l.length c)), frow p cap 98 4 k C, .cells bf 0 321 (encF x.1), .fam fam40 (FC.rowsN 9 x.1), .fam fam40 (FC.rowsK 3 x.1)]) ((s, 0)) ?_ (S4 rfl rfl rfl rfl) (fun _ hw => XM.pick .h5 hw) ?_
 ·
  exact ⟨rfl, by simpa using hO, rfl, rfl, by simp, by simp⟩
 intro x hx
 obtain ⟨hh, hOx, hxp, hxc, hx0, hx1⟩ := hx
 refine XC.sr ?_
 refine XO.v (V.cmp rfl rfl rfl) rfl ?_
 refine XO.nk [(0, _), (7, _), (8, _), (9, _), (10, _)] (S5 rfl rfl rfl rfl rfl) ?_
 refine XC.seq ?_
 refine XC.condP rfl (fun h1 => ?_) (fun h1 => ?_)
 ·
  refine XC.skip ?_
  refine XE.next ?_
  refine XC.keep [(0, _), (7, _), (8, _), (9, _)] (S4 rfl rfl rfl rfl) ?_
  refine XC.seq ?_
  refine XC.block ?_
  refine XC.sr ?_
  refine XO.openRow (.there .here) (by omega) ?_
  intro g hg
  subst hg
  refine XO.v (V.indexSl rfl rfl sl_58 (by omega)) rfl ?_
  refine XO.v (V.loadFA rfl (inXM (.there .here)) (hC.ld hlk _ (by omega)) ag_98 sz_98_4) rfl ?_
  refine XO.allocZ (z := .agg (MT.arr MT.nil)) (m := 4) (C := encMt MT.nil) (by kernel_rfl) rfl (encMt.box _) rfl ?_
  intro bm
  refine XO.storeAgg rfl rfl .here (encMt.st _ _) ⟨rfl, rfl⟩ sz_98_4 ?_
  refine XO.nk [(0, _), (3, _), (7, _), (8, _), (9, _)] (S5 rfl rfl rfl rfl rfl) ?_
  refine XC.seq ?_
  refine XC.regionQ mixed (f := 8) (l := #[false, false, false, false, false, false, false, false]) rfl rfl XM.drawn' ?_
  refine XQ.pv (i := 0) (l' := #[tt,ff,ff,ff,ff,ff,ff,ff]) rfl (by kernel_rfl) rfl (V.move rfl) rfl rfl ?_
  refine XQ.pv (i := 1) (l' := #[tt,tt,ff,ff,ff,ff,ff,ff]) rfl (by kernel_rfl) rfl (V.nilCheckP rfl) rfl rfl ?_
  refine XQ.pv (i := 2) (l' := #[tt,tt,tt,ff,ff,ff,ff,ff]) rfl (by kernel_rfl) rfl (V.fieldAddr rfl fo_75_0) rfl rfl ?_
  refine XQ.load (i := 3) (l' := #[tt,tt,tt,tt,ff,ff,ff,ff]) (.cells _ _ _ _) [7] rfl (by kernel_rfl) rfl (.there .here) (V.load rfl inEnt (encT.ld0 _ _) sc_25) rfl (by kernel_rfl) rfl ?_
  refine XQ.pv (i := 4) (l' := #[tt,tt,tt,tt,tt,ff,ff,ff]) rfl (by kernel_rfl) rfl (V.fieldAddr rfl fo_98_0) rfl rfl ?_
  refine XQ.pv (i := 5) (l' := #[tt,tt,tt,tt,tt,tt,ff,ff]) rfl (by kernel_rfl) rfl (V.fieldAddr rfl fo_56_1) rfl rfl ?_
  refine XQ.load (i := 6) (l' := #[tt,tt,tt,tt,tt,tt,tt,ff]) (.cells _ _ _ _) [7] rfl (by kernel_rfl) rfl .here (V.load rfl inEnt (encMt.ldAn _) sc_3) rfl (by kernel_rfl) rfl ?_
  refine XQ.call (i := 7) (l' := #[tt,tt,tt,tt,tt,tt,tt,tt]) rfl (by kernel_rfl) rfl rfl (t_Let _ _ x.1 (hOx.sh (by omega)) _) (.cons (.t3 .here) (.cons (.t3 .here) (.cons (.t3 .here) .nil))) cl_37 rfl (by rintro _ _ ⟨rfl, u1, hu1, pu1, cu1, rfl⟩; all_goals (intro _ hw'; exact ⟨fun hs => (hs 7 (by first | (simp; done) | (simp; rfl)) rfl).elim, fun hs => (hs 7 (by first | (simp; done) | (simp; rfl)) rfl).elim, trivial⟩)) ?_
  rintro _ _ ⟨rfl, u1, hu1, pu1, cu1, rfl⟩
  refine XQ.done (by kernel_rfl) ?_
  refine XE.next ?_
  refine XC.keep [(0, _), (3, _), (7, _), (8, _), (9, _)] (S5 rfl rfl rfl rfl rfl) ?_
  refine XC.regionQ mixed (f := 8) (l := #[false, false, false, false, false, false, false, false]) rfl rfl XM.drawn' ?_
  have hO1 : u1.toFF.Ok d (B + 2 * x.2 + 1) := by rw [hu1]; exact hOx.letF (mat l x.2).at_.node
  refine XQ.pv (i := 0) (l' := #[tt,ff,ff,ff,ff,ff,ff,ff]) rfl (by kernel_rfl) rfl (V.move rfl) rfl rfl ?_
  refine XQ.pv (i := 1) (l' := #[tt,tt,ff,ff,ff,ff,ff,ff]) rfl (by kernel_rfl) rfl (V.nilCheckP rfl) rfl rfl ?_
  refine XQ.pv (i := 2) (l' := #[tt,tt,tt,ff,ff,ff,ff,ff]) rfl (by kernel_rfl) rfl (V.fieldAddr rfl fo_75_0) rfl rfl ?_
  refine XQ.load (i := 3) (l' := #[tt,tt,tt,tt,ff,ff,ff,ff]) (.cells _ _ _ _) [7] rfl (by kernel_rfl) rfl (.t4 .here) (V.load rfl inEnt (encT.ld0 _ _) sc_25) rfl (by kernel_rfl) rfl ?_
  refine XQ.pv (i := 4) (l' := #[tt,tt,tt,tt,tt,ff,ff,ff]) rfl (by kernel_rfl) rfl (V.fieldAddr rfl fo_98_1) rfl rfl ?_
  refine XQ.pv (i := 5) (l' := #[tt,tt,tt,tt,tt,tt,ff,ff]) rfl (by kernel_rfl) rfl (V.fieldAddr rfl fo_56_1) rfl rfl ?_
  refine XQ.load (i := 6) (l' := #[tt,tt,tt,tt,tt,tt,tt,ff]) (.cells _ _ _ _) [7] rfl (by kernel_rfl) rfl (.t3 .here) (V.load rfl inEnt (encMt.ldTn _) sc_3) rfl (by kernel_rfl) rfl ?_
  refine XQ.call (i := 7) (l' := #[tt,tt,tt,tt,tt,tt,tt,tt]) rfl (by kernel_rfl) rfl rfl (t_Let _ _ u1 (hO1.sh (by omega)) _) .h3 cl_37 rfl (by rintro _ _ ⟨rfl, u2, hu2, pu2, cu2, rfl⟩; all_goals (intro _ hw'; exact ⟨fun hs => (hs 7 (by first | (simp; done) | (simp; rfl)) rfl).elim, fun hs => (hs 7 (by first | (simp; done) | (simp; rfl)) rfl).elim, trivial⟩)) ?_
  rintro _ _ ⟨rfl, u2, hu2, pu2, cu2, rfl⟩
  refine XQ.done (by kernel_rfl) ?_
  refine XE.blockNormal ?_
  refine XE.next ?_
  refine XC.keep [(0, _), (7, _), (8, _), (9, _)] (S4 rfl rfl rfl rfl) ?_
  refine XC.region ?_
  refine XO.v (V.add rfl rfl _ (IntWalk.i64_in _ (by omega))) rfl ?_
  refine XO.mv rfl rfl ?_
  refine XO.nil ?_
  refine XE.again ((u2, x.2 + 1)) ?_ ?_ (S4 rfl rfl rfl rfl) (fun _ hw => XM.pick (.cons (.t4 .here) (.cons (.t4 .here) .h3)) hw)
  ·
   (simp; omega)
  ·
   exact ⟨by rw [← hh, letM_step (i := x.2) ⟨by omega, by omega⟩]; show letM u2.toFF _ = _; rw [hu2, hu1], by have h9 := hO1.letF (mat l x.2).to.node; rw [show B + 2 * (x.2 + 1) = B + 2 * x.2 + 1 + 1 from by omega]; show u2.toFF.Ok d _; rw [hu2]; exact h9, by show u2.rP = _; rw [pu2, pu1, hxp], by show u2.rC = _; rw [cu2, cu1, hxc], by simp; omega, by simp; omega⟩
 ·
  refine XC.exit ?_
  refine XE.thenExit ?_
  refine XE.thenExit ?_
  refine XE.blockExit ?_
  refine XE.next ?_
  refine XC.keep [(0, _)] (S1 rfl) ?_
  refine XC.seq ?_
  refine XC.regionQ mixed (f := 10) (l := #[false, false, false, false, false, false, false, false, false, false]) rfl rfl XM.drawn' ?_
  refine XQ.pv (i := 0) (l' := #[tt,ff,ff,ff,ff,ff,ff,ff,ff,ff]) rfl (by kernel_rfl) rfl (V.move rfl) rfl rfl ?_
  refine XQ.pv (i := 1) (l' := #[tt,tt,ff,ff,ff,ff,ff,ff,ff,ff]) rfl (by kernel_rfl) rfl (V.nilCheckP rfl) rfl rfl ?_
  refine XQ.pv (i := 2) (l' := #[tt,tt,tt,ff,ff,ff,ff,ff,ff,ff]) rfl (by kernel_rfl) rfl (V.fieldAddr rfl fo_75_0) rfl rfl ?_
  refine XQ.load (i := 3) (l' := #[tt,tt,tt,tt,ff,ff,ff,ff,ff,ff]) (.cells _ _ _ _) [9] rfl (by kernel_rfl) rfl .here (V.load rfl inEnt (encT.ld0 _ _) sc_25) rfl (by kernel_rfl) rfl ?_
  refine XQ.pv (i := 4) (l' := #[tt,tt,tt,tt,tt,ff,ff,ff,ff,ff]) rfl (by kernel_rfl) rfl (V.move rfl) rfl rfl ?_
  refine XQ.pv (i := 5) (l' := #[tt,tt,tt,tt,tt,tt,ff,ff,ff,ff]) rfl (by kernel_rfl) rfl (V.nilCheckP rfl) rfl rfl ?_
  refine XQ.pv (i := 6) (l' := #[tt,tt,tt,tt,tt,tt,tt,ff,ff,ff]) rfl (by kernel_rfl) rfl (V.fieldAddr rfl fo_75_1) rfl rfl ?_
  refine XQ.pv (i := 7) (l' := #[tt,tt,tt,tt,tt,tt,tt,tt,ff,ff]) rfl (by kernel_rfl) rfl (V.fieldAddr rfl fo_56_1) rfl rfl ?_
  refine XQ.load (i := 8) (l' := #[tt,tt,tt,tt,tt,tt,tt,tt,tt,ff]) (.cells _ _ _ _) [9] rfl (by kernel_rfl) rfl .here (V.load rfl inEnt (encT.ld1n _ _) sc_3) rfl (by kernel_rfl) rfl ?_
  refine XQ.call (i := 9) (l' := #[tt,tt,tt,tt,tt,tt,tt,tt,tt,tt]) rfl (by kernel_rfl) rfl rfl (t_Let _ _ x.1 (hOx.sh (by omega)) _) (.cons (.t2 .here) (.cons (.t2 .here) (.cons (.t2 .here) .nil))) cl_37 rfl (by rintro _ _ ⟨rfl, u3, hu3, pu3, cu3, rfl⟩; all_goals (intro _ hw'; exact ⟨fun hs => (hs 9 (by first | (simp; done) | (simp; rfl)) rfl).elim, fun hs => (hs 9 (by first | (simp; done) | (simp; rfl)) rfl).elim, trivial⟩)) ?_
  rintro _ _ ⟨rfl, u3, hu3, pu3, cu3, rfl⟩
  refine XQ.done (by kernel_rfl) ?_
  refine XE.next ?_
  refine XC.keep [(0, _)] (S1 rfl) ?_
  refine XC.region ?_
  refine XO.nilRow 98 4 ?_
  refine XO.mv rfl rfl ?_
  refine XO.v (V.nilCheckP rfl) rfl ?_
  refine XO.v (V.fieldAddr rfl fo_75_2) rfl ?_
  refine XO.store rfl rfl (.t4 .here) (encT.st2 _ _ _) rfl sz_58_1 ?_
  refine XO.nil ?_
  refine XE.end0 rfl (post_of (.cons (.t4 .here) .h4) rfl ?_)
  have e : x.2 = l.length := by omega
  rw [e, letM_end] at hh
  have h9 := hOx.letF r.node
  exact ⟨rfl, u3, by rw [hu3, hh]; rfl, by rw [hu3]; exact ⟨h9.inv, fun n a b => Int.le_trans (h9.held n a b) (by omega), by have := h9.nn; omega⟩, by rw [pu3, hxp], by rw [cu3, hxc], rfl⟩
set_option maxRecDepth 10000 in
set_option maxHeartbeats 4000000 in
theorem m_Pivot (bt bf : Nat) (r : WH) (l : List MT) (p : Option Addr) (cap k c : Nat) (C : Nat → Value) (hv : RV.ok ⟨p, cap, k, l.length, c, C⟩) (hC : MC C l) (hm6 : l.length ≤ 6) (s : FC) (d : Int → Nat) (B : Int) (hO : s.toFF.Ok d B) (hB : B ≤ 800000) (to : Int) : Spec Tryz.prog 15 [ptr bt 0 0, .int .i64 to]
    [.cells bt 0 4 (encT bf r (.slice p l.length c)), frow p cap 98 4 k C, .cells bf 0 321 (encF s), .fam fam40 (FC.rowsN 9 s), .fam fam40 (FC.rowsK 3 s), irow (FC.rP s) (FC.rC s) 3 (FC.toFF s).roots]
    (fun v H1 => (s.rootE to ≠ 0 ∧ v = errv 76 (s.rootE to) ∧ H1 = [.cells bt 0 4 (encT bf r (.slice p l.length c)), frow p cap 98 4 k C, .cells bf 0 321 (encF s), .fam fam40 (FC.rowsN 9 s), .fam fam40 (FC.rowsK 3 s), irow (FC.rP s) (FC.rC s) 3 (FC.toFF s).roots]) ∨ (s.rootE to = 0 ∧ v = .nilIface ∧ ∃ u : FC, u.toFF = tcloseF (s.toFF.hold (s.rootV to)) l r ∧ u.toFF.Ok d (B + 14) ∧ u.rP = s.rP ∧ u.rC = s.rC ∧ H1 = [.cells bt 0 4 (encT bf ⟨to, s.rootV to⟩ (.slice none 0 0)), frow none 0 98 4 0 C0, .cells bf 0 321 (encF u), .fam fam40 (FC.rowsN 9 u), .fam fam40 (FC.rowsK 3 u), irow (FC.rP s) (FC.rC s) 3 (FC.toFF s).roots])) := by
 have hI := hO.sh (by omega)
 refine Spec.intro Tryz.func15 rfl rfl ?_
 intro W
 refine XC.sr ?_
 refine XO.as rfl rfl ?_
 refine XO.nk [(0, _), (1, _)] (S2 rfl rfl) ?_
 refine XC.sr ?_
 refine XO.mv rfl rfl ?_
 refine XO.v (V.nilCheckP rfl) rfl ?_
 refine XO.v (V.fieldAddr rfl fo_75_0) rfl ?_
 refine XO.v (V.load rfl (inXM .here) (encT.ld0 _ _) sc_25) rfl ?_
 refine XO.mv rfl rfl ?_
 refine XO.call rfl (t_Root _ _ _ hI _) (.cons (.t2 .here) (.cons (.t4 .here) .nil)) cl_24 rfl ?_
 rintro _ _ ⟨rfl, rfl⟩
 refine XO.mv rfl rfl ?_
 refine XO.v (V.extract rfl rfl) rfl ?_
 refine XO.v (V.extract rfl rfl) rfl ?_
 refine XO.as rfl rfl ?_
 refine XO.as rfl rfl ?_
 refine XO.nk [(0, _), (1, _), (5, _), (6, _)] (S4 rfl rfl rfl rfl) ?_
 refine XC.seq ?_
 refine XC.sr ?_
 refine XO.mv rfl rfl ?_
 refine XO.v (V.errNil rfl Tryz.underlying37 rfl) rfl ?_
 refine XO.nk [(0, _), (1, _), (5, _), (6, _), (17, _)] (S5 rfl rfl rfl rfl rfl) ?_
 refine XC.condP rfl (fun h1 => ?_) (fun h1 => ?_)
 ·
  refine XC.sr ?_
  refine XO.mv rfl rfl ?_
  refine XO.as rfl rfl ?_
  refine XO.nk [(4, _)] (S1 rfl) ?_
  refine XC.ret ?_
  refine XE.thenRet ?_
  refine XE.ret1 rfl rfl (post_of (.cons (.t2 .here) (.cons (.t2 .here) (.cons .here (.cons (.there .here) (.cons (.there .here) .h1))))) rfl ?_)
  exact .inl ⟨by assumption, rfl, rfl⟩
 ·
  refine XC.skip ?_
  refine XE.next ?_
  refine XC.keep [(0, _), (1, _), (5, _)] (S3 rfl rfl rfl) ?_
  refine XC.sr ?_
  refine XO.mv rfl rfl ?_
  refine XO.v (V.nilCheckP rfl) rfl ?_
  refine XO.v (V.fieldAddr rfl fo_75_0) rfl ?_
  refine XO.v (V.load rfl (inXM (.t2 .here)) (encT.ld0 _ _) sc_25) rfl ?_
  refine XO.mv rfl rfl ?_
  refine XO.call rfl (t_Hold _ _ _ hI _) (.cons .here (.cons (.t3 .here) (.cons (.t3 .here) .nil))) cl_25 rfl ?_
  rintro _ _ ⟨rfl, u0, hu0, pu0, cu0, rfl⟩
  refine XO.nk [(0, _), (1, _), (5, _)] (S3 rfl rfl rfl) ?_
  refine XC.sr ?_
  have hO0 : u0.toFF.Ok d (B + 1) := by rw [hu0]; exact hO.hold (s.rootV to)
  refine XO.mv rfl rfl ?_
  refine XO.call rfl (m_Close _ _ _ _ _ _ _ _ _ hv hC hm6 u0 d (B + 1) hO0 (by omega)) (.cons (.t4 .here) (.cons (.t4 .here) .h3)) cl_16 rfl ?_
  rintro _ _ ⟨rfl, u, hu, hOu, pu, cu, rfl⟩
  refine XO.nk [(0, _), (1, _), (5, _)] (S3 rfl rfl rfl) ?_
  refine XC.sr ?_
  refine XO.mv rfl rfl ?_
  refine XO.mv rfl rfl ?_
  refine XO.mv rfl rfl ?_
  refine XO.v (V.build (vs := #[(0, .int .i64 to), (1, .int .i64 (s.rootV to))]) rfl (v := .agg (WH.arr ⟨to, s.rootV to⟩)) (fun _ => by kernel_rfl)) rfl ?_
  refine XO.v (V.nilCheckP rfl) rfl ?_
  refine XO.v (V.fieldAddr rfl fo_75_1) rfl ?_
  refine XO.storeAgg rfl rfl .here (encT.st1 _ _ _) ⟨rfl, rfl⟩ sz_56_2 ?_
  refine XO.nk [] (Sub.nil _) ?_
  refine XC.sr ?_
  refine XO.as rfl rfl ?_
  refine XO.nk [(4, _)] (S1 rfl) ?_
  refine XC.ret ?_
  refine XE.ret1 rfl rfl (post_of .h6 rfl ?_)
  exact .inr ⟨Decidable.byContradiction (by assumption), rfl, u, by rw [hu, hu0], by rw [show B + 14 = B + 1 + 13 from by omega]; exact hOu, by rw [pu, pu0], by rw [cu, cu0], rfl⟩
end Go.X
