import Derived.Test.YtmklfkjfgjagaaaGreatDoorXShort
import Derived.Test.YtmklfkjfgjagaaaGreatDoorYKW5
import Derived.Test.YtmklfkjfgjagaaaGreatDoorRMM
namespace Go.X
open Go Go.Proofs
theorem cl_85 : callable Tryz.prog 85 = true := by kernel_rfl
theorem cl_98 : callable Tryz.prog 98 = true := by kernel_rfl
theorem fo_60_0 : fieldOff Tryz.prog 60 0 = some 0 := by kernel_rfl
theorem fo_60_1 : fieldOff Tryz.prog 60 1 = some 1 := by kernel_rfl
theorem fo_60_2 : fieldOff Tryz.prog 60 2 = some 3 := by kernel_rfl
theorem sc_27 : scal Tryz.prog 27 = true := by kernel_rfl
set_option maxRecDepth 10000 in
set_option maxHeartbeats 2000000 in
theorem u_seen (bt bf : Nat) (r : WH) (l : List MT) (p : Option Addr) (cap k c : Nat) (C : Nat → Value) (hv : RV.ok ⟨p, cap, k, l.length, c, C⟩) (hC : MC C l) (hm6 : l.length ≤ 6) (w : WH) : Spec Tryz.prog 97 [ptr bt 0 0, .agg (WH.arr w)]
    [.cells bt 0 4 (encT bf r (.slice p l.length c)), frow p cap 98 4 k C]
    (fun v H1 => v = .agg (WH.arr (over l w)) ∧ H1 = [.cells bt 0 4 (encT bf r (.slice p l.length c)), frow p cap 98 4 k C]) := by
 have hlk := RV.ok_le hv
 have hlk : l.length ≤ k := hlk
 refine Spec.intro Tryz.func97 rfl rfl ?_
 intro W
 refine XC.sr ?_
 refine XO.box (m := 2) (C := encW (w)) rfl rfl (encW.box _) rfl ?_
 intro bw
 refine XO.allocZ (z := .agg (WH.arr WH.nil)) (m := 2) (C := encW WH.nil) (by kernel_rfl) rfl (encW.box _) rfl ?_
 intro br
 refine XO.nk [(0, _), (3, _), (4, _)] (S3 rfl rfl rfl) ?_
 refine XC.seq ?_
 refine XC.sr ?_
 refine XO.as rfl rfl ?_
 refine XO.nk [(0, _), (3, _), (4, _), (5, _)] (S4 rfl rfl rfl rfl) ?_
 refine XC.block ?_
 refine XC.loop (σ := Int × WH) (fun x => (6 - x.1).toNat) (fun x => (0 ≤ x.1 ∧ x.1 ≤ 6) ∧ ovN l (6 - x.1).toNat x.2 = over l w) (fun x => [(5, .int .i64 x.1), (0, ptr bt 0 0), (3, ptr bw 0 0), (4, ptr br 0 0)]) (fun x => XM W (foot [.cells bt 0 4 (encT bf r (.slice p l.length c)), frow p cap 98 4 k C]) [.cells bw 0 2 (encW x.2), .cells br 0 2 (encW WH.nil), .cells bt 0 4 (encT bf r (.slice p l.length c)), frow p cap 98 4 k C]) ((0, w)) ?_ (S4 rfl rfl rfl rfl) (fun _ hw => XM.pick (.cons (.there .here) .h3) hw) ?_
 ·
  exact ⟨⟨by simp, by simp⟩, rfl⟩
 intro x hx
 obtain ⟨⟨hx0, hx1⟩, hov⟩ := hx
 refine XC.seq ?_
 refine XC.sr ?_
 refine XO.mv rfl rfl ?_
 refine XO.v (V.cmp rfl rfl rfl) rfl ?_
 refine XO.nk [(0, _), (3, _), (4, _), (5, _), (8, _)] (S5 rfl rfl rfl rfl rfl) ?_
 refine XC.condP rfl (fun h1 => ?_) (fun h1 => ?_)
 ·
  refine XC.skip ?_
  refine XE.next ?_
  refine XC.keep [(0, _), (3, _), (4, _), (5, _)] (S4 rfl rfl rfl rfl) ?_
  refine XC.seq ?_
  refine XC.block ?_
  refine XC.sr ?_
  refine XO.as rfl rfl ?_
  refine XO.nk [(0, _), (3, _), (4, _), (5, _), (6, _)] (S5 rfl rfl rfl rfl rfl) ?_
  refine XC.block ?_
  refine XC.loop (σ := Int) (fun i => (l.length - i).toNat) (fun i => (0 ≤ i ∧ i ≤ l.length) ∧ ∀ j : Int, 0 ≤ j → j < i → (mat l j).at_ ≠ x.2) (fun i => [(6, .int .i64 i), (0, ptr bt 0 0), (3, ptr bw 0 0), (4, ptr br 0 0), (5, .int .i64 x.1)]) (fun i => XM W (foot [.cells bt 0 4 (encT bf r (.slice p l.length c)), frow p cap 98 4 k C]) [.cells bw 0 2 (encW x.2), .cells br 0 2 (encW WH.nil), .cells bt 0 4 (encT bf r (.slice p l.length c)), frow p cap 98 4 k C]) (0) ?_ (S5 rfl rfl rfl rfl rfl) (fun _ hw => XM.pick .h4 hw) ?_
  ·
   exact ⟨⟨by omega, by omega⟩, fun j a b => by omega⟩
  intro i hi
  obtain ⟨⟨hi0, hi1⟩, hno⟩ := hi
  refine XC.seq ?_
  refine XC.sr ?_
  refine XO.mv rfl rfl ?_
  refine XO.mv rfl rfl ?_
  refine XO.v (V.nilCheckP rfl) rfl ?_
  refine XO.v (V.fieldAddr rfl fo_60_2) rfl ?_
  refine XO.v (V.load rfl (inXM (.t2 .here)) (encT.ld2 _ _) sc_58) rfl ?_
  refine XO.v (V.lenSl rfl Tryz.underlying58) rfl ?_
  refine XO.v (V.cmp rfl rfl rfl) rfl ?_
  refine XO.nk [(0, _), (3, _), (4, _), (5, _), (6, _), (17, _)] (S6 rfl rfl rfl rfl rfl rfl) ?_
  refine XC.condP rfl (fun h2 => ?_) (fun h2 => ?_)
  ·
   refine XC.skip ?_
   refine XE.next ?_
   refine XC.keep [(0, _), (3, _), (4, _), (5, _), (6, _)] (S5 rfl rfl rfl rfl rfl) ?_
   refine XC.seq ?_
   refine XC.block ?_
   refine XC.seq ?_
   refine XC.regionQ mixed (f := 10) (l := #[false, false, false, false, false, false, false, false, false, false]) rfl rfl XM.drawn' ?_
   refine XQ.openRow (.t3 .here) (by omega) ?_
   intro g hg
   subst hg
   refine XQ.pv (i := 0) (l' := #[tt,ff,ff,ff,ff,ff,ff,ff,ff,ff]) rfl (by kernel_rfl) rfl (V.move rfl) rfl rfl ?_
   refine XQ.pv (i := 1) (l' := #[tt,tt,ff,ff,ff,ff,ff,ff,ff,ff]) rfl (by kernel_rfl) rfl (V.nilCheckP rfl) rfl rfl ?_
   refine XQ.pv (i := 2) (l' := #[tt,tt,tt,ff,ff,ff,ff,ff,ff,ff]) rfl (by kernel_rfl) rfl (V.fieldAddr rfl fo_60_2) rfl rfl ?_
   refine XQ.load (i := 3) (l' := #[tt,tt,tt,tt,ff,ff,ff,ff,ff,ff]) (.cells _ _ _ _) [] rfl (by kernel_rfl) rfl (.t2 .here) (V.load rfl inEnt (encT.ld2 _ _) sc_58) rfl (by kernel_rfl) rfl ?_
   refine XQ.pv (i := 4) (l' := #[tt,tt,tt,tt,tt,ff,ff,ff,ff,ff]) rfl (by kernel_rfl) rfl (V.move rfl) rfl rfl ?_
   refine XQ.pv (i := 5) (l' := #[tt,tt,tt,tt,tt,tt,ff,ff,ff,ff]) rfl (by kernel_rfl) rfl (V.indexSl rfl rfl sl_58 (by omega)) rfl rfl ?_
   refine XQ.pv (i := 6) (l' := #[tt,tt,tt,tt,tt,tt,tt,ff,ff,ff]) rfl (by kernel_rfl) rfl (V.fieldAddr rfl fo_98_0) rfl rfl ?_
   refine XQ.load (i := 7) (l' := #[tt,tt,tt,tt,tt,tt,tt,tt,ff,ff]) (.row _ _ _ _ _) [] rfl (by kernel_rfl) rfl (.t3 .here) (V.loadFA rfl inEnt (hC.ldA hlk _ (by omega)) ag_56 sz_56_2) rfl (by kernel_rfl) rfl ?_
   refine XQ.load (i := 8) (l' := #[tt,tt,tt,tt,tt,tt,tt,tt,tt,ff]) (.cells _ _ _ _) [] rfl (by kernel_rfl) rfl .here (V.loadAgg rfl inEnt (encW.agg _) ag_56 sz_56_2) rfl (by kernel_rfl) rfl ?_
   refine XQ.pv (i := 9) (l' := #[tt,tt,tt,tt,tt,tt,tt,tt,tt,tt]) rfl (by kernel_rfl) rfl (V.eqW rfl rfl whEq) rfl rfl ?_
   refine XQ.done (by kernel_rfl) ?_
   refine XE.next ?_
   refine XC.keep [(0, _), (3, _), (4, _), (5, _), (6, _), (29, _)] (S6 rfl rfl rfl rfl rfl rfl) ?_
   refine XC.condP rfl (fun h3 => ?_) (fun h3 => ?_)
   ·
    have hs := ov1_some (l := l) ⟨by omega, by omega⟩ hno h3
    refine XC.sr ?_
    refine XO.mv rfl rfl ?_
    refine XO.v (V.nilCheckP rfl) rfl ?_
    refine XO.v (V.fieldAddr rfl fo_60_2) rfl ?_
    refine XO.v (V.load rfl (inXM (.t2 .here)) (encT.ld2 _ _) sc_58) rfl ?_
    refine XO.mv rfl rfl ?_
    refine XO.v (V.indexSl rfl rfl sl_58 (by omega)) rfl ?_
    refine XO.v (V.fieldAddr rfl fo_98_1) rfl ?_
    refine XO.v (V.loadFA rfl (inXM (.t3 .here)) (hC.ldT hlk _ (by omega)) ag_56 sz_56_2) rfl ?_
    refine XO.storeAgg rfl rfl .here (encW.st _ _) ⟨rfl, rfl⟩ sz_56_2 ?_
    refine XO.nk [(0, _), (3, _), (4, _), (5, _)] (S4 rfl rfl rfl rfl) ?_
    refine XC.exit ?_
    refine XE.blockOther rfl ?_
    refine XE.thenExit ?_
    refine XE.thenExit ?_
    refine XE.blockExit ?_
    refine XE.blockNormal ?_
    refine XE.next ?_
    refine XC.keep [(0, _), (3, _), (4, _), (5, _)] (S4 rfl rfl rfl rfl) ?_
    refine XC.region ?_
    refine XO.mv rfl rfl ?_
    refine XO.v (V.add rfl rfl _ (IntWalk.i64_in _ (by omega))) rfl ?_
    refine XO.as rfl rfl ?_
    refine XO.nil ?_
    refine XE.again ((x.1 + 1, (mat l i).to)) ?_ ?_ (S4 rfl rfl rfl rfl) (fun _ hw => XM.pick .h4 hw)
    ·
     (simp; omega)
    ·
     exact ⟨⟨by simp; omega, by simp; omega⟩, by rw [← hov, show (6 - x.1).toNat = (6 - (x.1 + 1)).toNat + 1 from by omega, ovN_some hs]⟩
   ·
    refine XC.skip ?_
    refine XE.blockNormal ?_
    refine XE.next ?_
    refine XC.keep [(0, _), (3, _), (4, _), (5, _), (6, _)] (S5 rfl rfl rfl rfl rfl) ?_
    refine XC.region ?_
    refine XO.mv rfl rfl ?_
    refine XO.v (V.add rfl rfl _ (IntWalk.i64_in _ (by omega))) rfl ?_
    refine XO.as rfl rfl ?_
    refine XO.nil ?_
    refine XE.again (i + 1) ?_ ?_ (S5 rfl rfl rfl rfl rfl) (fun _ hw => XM.pick .h4 hw)
    ·
     (first | omega | (simp; done) | (simp; omega))
    ·
     refine ⟨⟨by omega, by omega⟩, fun j a b => ?_⟩
     by_cases e : j = i
     ·
      subst e; assumption
     ·
      exact hno j a (by omega)
  ·
   have hs := ov1_none (l := l) (w := x.2) (fun j a b => hno j a (by omega))
   refine XC.exit ?_
   refine XE.thenExit ?_
   refine XE.thenExit ?_
   refine XE.blockExit ?_
   refine XE.blockNormal ?_
   refine XE.next ?_
   refine XC.keep [(0, _), (3, _), (4, _), (5, _)] (S4 rfl rfl rfl rfl) ?_
   refine XC.region ?_
   refine XO.mv rfl rfl ?_
   refine XO.v (V.add rfl rfl _ (IntWalk.i64_in _ (by omega))) rfl ?_
   refine XO.as rfl rfl ?_
   refine XO.nil ?_
   refine XE.again ((x.1 + 1, x.2)) ?_ ?_ (S4 rfl rfl rfl rfl) (fun _ hw => XM.pick .h4 hw)
   ·
    (simp; omega)
   ·
    exact ⟨⟨by simp; omega, by simp; omega⟩, by rw [← hov, ovN_none hs, ovN_none hs]⟩
 ·
  refine XC.exit ?_
  refine XE.thenExit ?_
  refine XE.thenExit ?_
  refine XE.blockExit ?_
  refine XE.next ?_
  refine XC.keep [(3, _), (4, _)] (S2 rfl rfl) ?_
  refine XC.sr ?_
  refine XO.v (V.loadAgg rfl (inXM .here) (encW.agg _) ag_56 sz_56_2) rfl ?_
  refine XO.storeAgg rfl rfl (.there .here) (encW.st _ _) ⟨rfl, rfl⟩ sz_56_2 ?_
  refine XO.nk [(4, _)] (S1 rfl) ?_
  refine XC.ret ?_
  refine XE.retG1 rfl (.agg rfl (.there .here) (encW.agg _) ag_56 sz_56_2) (post_of (.cons (.t2 .here) (.cons (.t2 .here) .nil)) rfl ?_)
  have e6 : x.1 = 6 := by omega
  exact ⟨by rw [← hov, e6]; rfl, rfl⟩
set_option maxRecDepth 10000 in
set_option maxHeartbeats 4000000 in
theorem u_hold (bt bf : Nat) (r : WH) (l : List MT) (p : Option Addr) (cap k c : Nat) (C : Nat → Value) (hv : RV.ok ⟨p, cap, k, l.length, c, C⟩) (hC : MC C l) (hm6 : l.length ≤ 6) (s : FC) (d : Int → Nat) (B : Int) (hO : s.toFF.Ok d B) (hB : B ≤ 900000) : Spec Tryz.prog 98 [ptr bt 0 0, .bool true]
    [.cells bt 0 4 (encT bf r (.slice p l.length c)), frow p cap 98 4 k C, .cells bf 0 321 (encM s), .fam fam40 (FC.rowsN 9 s), .fam fam40 (FC.rowsK 3 s)]
    (fun v H1 => v = .tuple #[] ∧ ∃ u : FC, u.toFF = tcloseF s.toFF l r ∧ u.toFF.Ok d (B + 13) ∧ u.rP = s.rP ∧ u.rC = s.rC ∧ H1 = [.cells bt 0 4 (encT bf r (.slice p l.length c)), frow p cap 98 4 k C, .cells bf 0 321 (encM u), .fam fam40 (FC.rowsN 9 u), .fam fam40 (FC.rowsK 3 u)]) := by
 have hlk := RV.ok_le hv
 have hlk : l.length ≤ k := hlk
 refine Spec.intro Tryz.func98 rfl rfl ?_
 intro W
 refine XC.seq ?_
 refine XC.sr ?_
 refine XO.as rfl rfl ?_
 refine XO.nk [(0, _), (1, _), (4, _)] (S3 rfl rfl rfl) ?_
 refine XC.block ?_
 refine XC.loop (σ := FC × Int) (fun x => (l.length - x.2).toNat) (fun x => letM x.1.toFF (l.drop x.2.toNat) = letM s.toFF l ∧ x.1.toFF.Ok d (B + 2 * x.2) ∧ x.1.rP = s.rP ∧ x.1.rC = s.rC ∧ 0 ≤ x.2 ∧ x.2 ≤ l.length) (fun x => [(4, .int .i64 x.2), (0, ptr bt 0 0), (1, .bool true)]) (fun x => XM W (foot [.cells bt 0 4 (encT bf r (.slice p l.length c)), frow p cap 98 4 k C, .cells bf 0 321 (encM s), .fam fam40 (FC.rowsN 9 s), .fam fam40 (FC.rowsK 3 s)]) [.cells bt 0 4 (encT bf r (.slice p l.length c)), frow p cap 98 4 k C, .cells bf 0 321 (encM x.1), .fam fam40 (FC.rowsN 9 x.1), .fam fam40 (FC.rowsK 3 x.1)]) ((s, 0)) ?_ (S3 rfl rfl rfl) (fun _ hw => XM.pick .h5 hw) ?_
 ·
  exact ⟨rfl, by simpa using hO, rfl, rfl, by simp, by simp⟩
 intro x hx
 obtain ⟨hh, hOx, hxp, hxc, hx0, hx1⟩ := hx
 refine XC.seq ?_
 refine XC.sr ?_
 refine XO.mv rfl rfl ?_
 refine XO.mv rfl rfl ?_
 refine XO.v (V.nilCheckP rfl) rfl ?_
 refine XO.v (V.fieldAddr rfl fo_60_2) rfl ?_
 refine XO.v (V.load rfl (inXM .here) (encT.ld2 _ _) sc_58) rfl ?_
 refine XO.v (V.lenSl rfl Tryz.underlying58) rfl ?_
 refine XO.v (V.cmp rfl rfl rfl) rfl ?_
 refine XO.nk [(0, _), (1, _), (4, _), (11, _)] (S4 rfl rfl rfl rfl) ?_
 refine XC.condP rfl (fun h1 => ?_) (fun h1 => ?_)
 ·
  refine XC.skip ?_
  refine XE.next ?_
  refine XC.keep [(0, _), (1, _), (4, _)] (S3 rfl rfl rfl) ?_
  refine XC.seq ?_
  refine XC.block ?_
  refine XC.seq ?_
  refine XC.regionQ mixed (f := 15) (l := #[false, false, false, false, false, false, false, false, false, false, false, false, false, false, false]) rfl rfl XM.drawn' ?_
  refine XQ.openRow (.there .here) (by omega) ?_
  intro g hg
  subst hg
  refine XQ.pv (i := 0) (l' := #[tt,ff,ff,ff,ff,ff,ff,ff,ff,ff,ff,ff,ff,ff,ff]) rfl (by kernel_rfl) rfl (V.move rfl) rfl rfl ?_
  refine XQ.pv (i := 1) (l' := #[tt,tt,ff,ff,ff,ff,ff,ff,ff,ff,ff,ff,ff,ff,ff]) rfl (by kernel_rfl) rfl (V.nilCheckP rfl) rfl rfl ?_
  refine XQ.pv (i := 2) (l' := #[tt,tt,tt,ff,ff,ff,ff,ff,ff,ff,ff,ff,ff,ff,ff]) rfl (by kernel_rfl) rfl (V.fieldAddr rfl fo_60_0) rfl rfl ?_
  refine XQ.load (i := 3) (l' := #[tt,tt,tt,tt,ff,ff,ff,ff,ff,ff,ff,ff,ff,ff,ff]) (.cells _ _ _ _) [14] rfl (by kernel_rfl) rfl .here (V.load rfl inEnt (encT.ld0 _ _) sc_27) rfl (by kernel_rfl) rfl ?_
  refine XQ.pv (i := 4) (l' := #[tt,tt,tt,tt,tt,ff,ff,ff,ff,ff,ff,ff,ff,ff,ff]) rfl (by kernel_rfl) rfl (V.move rfl) rfl rfl ?_
  refine XQ.pv (i := 5) (l' := #[tt,tt,tt,tt,tt,tt,ff,ff,ff,ff,ff,ff,ff,ff,ff]) rfl (by kernel_rfl) rfl (V.nilCheckP rfl) rfl rfl ?_
  refine XQ.pv (i := 6) (l' := #[tt,tt,tt,tt,tt,tt,tt,ff,ff,ff,ff,ff,ff,ff,ff]) rfl (by kernel_rfl) rfl (V.fieldAddr rfl fo_60_2) rfl rfl ?_
  refine XQ.load (i := 7) (l' := #[tt,tt,tt,tt,tt,tt,tt,tt,ff,ff,ff,ff,ff,ff,ff]) (.cells _ _ _ _) [14] rfl (by kernel_rfl) rfl .here (V.load rfl inEnt (encT.ld2 _ _) sc_58) rfl (by kernel_rfl) rfl ?_
  refine XQ.pv (i := 8) (l' := #[tt,tt,tt,tt,tt,tt,tt,tt,tt,ff,ff,ff,ff,ff,ff]) rfl (by kernel_rfl) rfl (V.move rfl) rfl rfl ?_
  refine XQ.pv (i := 9) (l' := #[tt,tt,tt,tt,tt,tt,tt,tt,tt,tt,ff,ff,ff,ff,ff]) rfl (by kernel_rfl) rfl (V.indexSl rfl rfl sl_58 (by omega)) rfl rfl ?_
  refine XQ.pv (i := 10) (l' := #[tt,tt,tt,tt,tt,tt,tt,tt,tt,tt,tt,ff,ff,ff,ff]) rfl (by kernel_rfl) rfl (V.fieldAddr rfl fo_98_0) rfl rfl ?_
  refine XQ.pv (i := 11) (l' := #[tt,tt,tt,tt,tt,tt,tt,tt,tt,tt,tt,tt,ff,ff,ff]) rfl (by kernel_rfl) rfl (V.fieldAddr rfl fo_56_1) rfl rfl ?_
  refine XQ.load (i := 12) (l' := #[tt,tt,tt,tt,tt,tt,tt,tt,tt,tt,tt,tt,tt,ff,ff]) (.row _ _ _ _ _) [14] rfl (by kernel_rfl) rfl (.there .here) (V.loadF rfl inEnt (hC.ldAn hlk _ (by omega)) sc_3) rfl (by kernel_rfl) rfl ?_
  refine XQ.pv (i := 13) (l' := #[tt,tt,tt,tt,tt,tt,tt,tt,tt,tt,tt,tt,tt,tt,ff]) rfl (by kernel_rfl) rfl (V.move rfl) rfl rfl ?_
  refine XQ.call (i := 14) (l' := #[tt,tt,tt,tt,tt,tt,tt,tt,tt,tt,tt,tt,tt,tt,tt]) rfl (by kernel_rfl) rfl rfl (r_Let _ _ x.1 (hOx.sh (by omega)) _ (fun q => FF.Ok.links0 hOx.inv q)) (.cons (.t2 .here) (.cons (.t2 .here) (.cons (.t2 .here) .nil))) cl_29 rfl (by rintro _ _ ⟨rfl, u1, hu1, pu1, cu1, rfl⟩; all_goals (intro _ hw'; exact ⟨fun hs => (hs 14 (by first | (simp; done) | (simp; rfl)) rfl).elim, fun hs => (hs 14 (by first | (simp; done) | (simp; rfl)) rfl).elim, fun hs => (hs 14 (by first | (simp; done) | (simp; rfl)) rfl).elim, trivial⟩)) ?_
  rintro _ _ ⟨rfl, u1, hu1, pu1, cu1, rfl⟩
  refine XQ.done (by kernel_rfl) ?_
  refine XE.next ?_
  refine XC.keep [(0, _), (1, _), (4, _)] (S3 rfl rfl rfl) ?_
  refine XC.regionQ mixed (f := 15) (l := #[false, false, false, false, false, false, false, false, false, false, false, false, false, false, false]) rfl rfl XM.drawn' ?_
  have hO1 : u1.toFF.Ok d (B + 2 * x.2 + 1) := by rw [hu1]; exact hOx.letF (mat l x.2).at_.node
  refine XQ.pv (i := 0) (l' := #[tt,ff,ff,ff,ff,ff,ff,ff,ff,ff,ff,ff,ff,ff,ff]) rfl (by kernel_rfl) rfl (V.move rfl) rfl rfl ?_
  refine XQ.pv (i := 1) (l' := #[tt,tt,ff,ff,ff,ff,ff,ff,ff,ff,ff,ff,ff,ff,ff]) rfl (by kernel_rfl) rfl (V.nilCheckP rfl) rfl rfl ?_
  refine XQ.pv (i := 2) (l' := #[tt,tt,tt,ff,ff,ff,ff,ff,ff,ff,ff,ff,ff,ff,ff]) rfl (by kernel_rfl) rfl (V.fieldAddr rfl fo_60_0) rfl rfl ?_
  refine XQ.load (i := 3) (l' := #[tt,tt,tt,tt,ff,ff,ff,ff,ff,ff,ff,ff,ff,ff,ff]) (.cells _ _ _ _) [14] rfl (by kernel_rfl) rfl (.t3 .here) (V.load rfl inEnt (encT.ld0 _ _) sc_27) rfl (by kernel_rfl) rfl ?_
  refine XQ.pv (i := 4) (l' := #[tt,tt,tt,tt,tt,ff,ff,ff,ff,ff,ff,ff,ff,ff,ff]) rfl (by kernel_rfl) rfl (V.move rfl) rfl rfl ?_
  refine XQ.pv (i := 5) (l' := #[tt,tt,tt,tt,tt,tt,ff,ff,ff,ff,ff,ff,ff,ff,ff]) rfl (by kernel_rfl) rfl (V.nilCheckP rfl) rfl rfl ?_
  refine XQ.pv (i := 6) (l' := #[tt,tt,tt,tt,tt,tt,tt,ff,ff,ff,ff,ff,ff,ff,ff]) rfl (by kernel_rfl) rfl (V.fieldAddr rfl fo_60_2) rfl rfl ?_
  refine XQ.load (i := 7) (l' := #[tt,tt,tt,tt,tt,tt,tt,tt,ff,ff,ff,ff,ff,ff,ff]) (.cells _ _ _ _) [14] rfl (by kernel_rfl) rfl (.t3 .here) (V.load rfl inEnt (encT.ld2 _ _) sc_58) rfl (by kernel_rfl) rfl ?_
  refine XQ.pv (i := 8) (l' := #[tt,tt,tt,tt,tt,tt,tt,tt,tt,ff,ff,ff,ff,ff,ff]) rfl (by kernel_rfl) rfl (V.move rfl) rfl rfl ?_
  refine XQ.pv (i := 9) (l' := #[tt,tt,tt,tt,tt,tt,tt,tt,tt,tt,ff,ff,ff,ff,ff]) rfl (by kernel_rfl) rfl (V.indexSl rfl rfl sl_58 (by omega)) rfl rfl ?_
  refine XQ.pv (i := 10) (l' := #[tt,tt,tt,tt,tt,tt,tt,tt,tt,tt,tt,ff,ff,ff,ff]) rfl (by kernel_rfl) rfl (V.fieldAddr rfl fo_98_1) rfl rfl ?_
  refine XQ.pv (i := 11) (l' := #[tt,tt,tt,tt,tt,tt,tt,tt,tt,tt,tt,tt,ff,ff,ff]) rfl (by kernel_rfl) rfl (V.fieldAddr rfl fo_56_1) rfl rfl ?_
  refine XQ.load (i := 12) (l' := #[tt,tt,tt,tt,tt,tt,tt,tt,tt,tt,tt,tt,tt,ff,ff]) (.row _ _ _ _ _) [14] rfl (by kernel_rfl) rfl (.t4 .here) (V.loadF rfl inEnt (hC.ldTn hlk _ (by omega)) sc_3) rfl (by kernel_rfl) rfl ?_
  refine XQ.pv (i := 13) (l' := #[tt,tt,tt,tt,tt,tt,tt,tt,tt,tt,tt,tt,tt,tt,ff]) rfl (by kernel_rfl) rfl (V.move rfl) rfl rfl ?_
  refine XQ.call (i := 14) (l' := #[tt,tt,tt,tt,tt,tt,tt,tt,tt,tt,tt,tt,tt,tt,tt]) rfl (by kernel_rfl) rfl rfl (r_Let _ _ u1 (hO1.sh (by omega)) _ (fun q => FF.Ok.links0 hO1.inv q)) .h3 cl_29 rfl (by rintro _ _ ⟨rfl, u2, hu2, pu2, cu2, rfl⟩; all_goals (intro _ hw'; exact ⟨fun hs => (hs 14 (by first | (simp; done) | (simp; rfl)) rfl).elim, fun hs => (hs 14 (by first | (simp; done) | (simp; rfl)) rfl).elim, fun hs => (hs 14 (by first | (simp; done) | (simp; rfl)) rfl).elim, trivial⟩)) ?_
  rintro _ _ ⟨rfl, u2, hu2, pu2, cu2, rfl⟩
  refine XQ.done (by kernel_rfl) ?_
  refine XE.blockNormal ?_
  refine XE.next ?_
  refine XC.keep [(0, _), (1, _), (4, _)] (S3 rfl rfl rfl) ?_
  refine XC.region ?_
  refine XO.mv rfl rfl ?_
  refine XO.v (V.add rfl rfl _ (IntWalk.i64_in _ (by omega))) rfl ?_
  refine XO.as rfl rfl ?_
  refine XO.nil ?_
  refine XE.again ((u2, x.2 + 1)) ?_ ?_ (S3 rfl rfl rfl) (fun _ hw => XM.pick (.cons (.t3 .here) (.cons (.t3 .here) .h3)) hw)
  ·
   (simp; omega)
  ·
   exact ⟨by rw [← hh, letM_step (i := x.2) ⟨by omega, by omega⟩]; show letM u2.toFF _ = _; rw [hu2, hu1], by have h9 := hO1.letF (mat l x.2).to.node; rw [show B + 2 * (x.2 + 1) = B + 2 * x.2 + 1 + 1 from by omega]; show u2.toFF.Ok d _; rw [hu2]; exact h9, by show u2.rP = _; rw [pu2, pu1, hxp], by show u2.rC = _; rw [cu2, cu1, hxc], by simp; omega, by simp; omega⟩
 ·
  refine XC.exit ?_
  refine XE.thenExit ?_
  refine XE.thenExit ?_
  refine XE.blockExit ?_
  refine XE.next ?_
  refine XC.keep [(0, _), (1, _)] (S2 rfl rfl) ?_
  refine XC.regionQ mixed (f := 11) (l := #[false, false, false, false, false, false, false, false, false, false, false]) rfl rfl XM.drawn' ?_
  refine XQ.pv (i := 0) (l' := #[tt,ff,ff,ff,ff,ff,ff,ff,ff,ff,ff]) rfl (by kernel_rfl) rfl (V.move rfl) rfl rfl ?_
  refine XQ.pv (i := 1) (l' := #[tt,tt,ff,ff,ff,ff,ff,ff,ff,ff,ff]) rfl (by kernel_rfl) rfl (V.nilCheckP rfl) rfl rfl ?_
  refine XQ.pv (i := 2) (l' := #[tt,tt,tt,ff,ff,ff,ff,ff,ff,ff,ff]) rfl (by kernel_rfl) rfl (V.fieldAddr rfl fo_60_0) rfl rfl ?_
  refine XQ.load (i := 3) (l' := #[tt,tt,tt,tt,ff,ff,ff,ff,ff,ff,ff]) (.cells _ _ _ _) [10] rfl (by kernel_rfl) rfl .here (V.load rfl inEnt (encT.ld0 _ _) sc_27) rfl (by kernel_rfl) rfl ?_
  refine XQ.pv (i := 4) (l' := #[tt,tt,tt,tt,tt,ff,ff,ff,ff,ff,ff]) rfl (by kernel_rfl) rfl (V.move rfl) rfl rfl ?_
  refine XQ.pv (i := 5) (l' := #[tt,tt,tt,tt,tt,tt,ff,ff,ff,ff,ff]) rfl (by kernel_rfl) rfl (V.nilCheckP rfl) rfl rfl ?_
  refine XQ.pv (i := 6) (l' := #[tt,tt,tt,tt,tt,tt,tt,ff,ff,ff,ff]) rfl (by kernel_rfl) rfl (V.fieldAddr rfl fo_60_1) rfl rfl ?_
  refine XQ.pv (i := 7) (l' := #[tt,tt,tt,tt,tt,tt,tt,tt,ff,ff,ff]) rfl (by kernel_rfl) rfl (V.fieldAddr rfl fo_56_1) rfl rfl ?_
  refine XQ.load (i := 8) (l' := #[tt,tt,tt,tt,tt,tt,tt,tt,tt,ff,ff]) (.cells _ _ _ _) [10] rfl (by kernel_rfl) rfl .here (V.load rfl inEnt (encT.ld1n _ _) sc_3) rfl (by kernel_rfl) rfl ?_
  refine XQ.pv (i := 9) (l' := #[tt,tt,tt,tt,tt,tt,tt,tt,tt,tt,ff]) rfl (by kernel_rfl) rfl (V.move rfl) rfl rfl ?_
  refine XQ.call (i := 10) (l' := #[tt,tt,tt,tt,tt,tt,tt,tt,tt,tt,tt]) rfl (by kernel_rfl) rfl rfl (r_Let _ _ x.1 (hOx.sh (by omega)) _ (fun q => FF.Ok.links0 hOx.inv q)) (.cons (.t2 .here) (.cons (.t2 .here) (.cons (.t2 .here) .nil))) cl_29 rfl (by rintro _ _ ⟨rfl, u3, hu3, pu3, cu3, rfl⟩; all_goals (intro _ hw'; exact ⟨fun hs => (hs 10 (by first | (simp; done) | (simp; rfl)) rfl).elim, fun hs => (hs 10 (by first | (simp; done) | (simp; rfl)) rfl).elim, trivial⟩)) ?_
  rintro _ _ ⟨rfl, u3, hu3, pu3, cu3, rfl⟩
  refine XQ.done (by kernel_rfl) ?_
  refine XE.end0 rfl (post_of (.cons (.t3 .here) (.cons (.t3 .here) .h3)) rfl ?_)
  have e : x.2 = l.length := by omega
  rw [e, letM_end] at hh
  have h9 := hOx.letF r.node
  exact ⟨rfl, u3, by rw [hu3, hh]; rfl, by rw [hu3]; exact ⟨h9.inv, fun n a b => Int.le_trans (h9.held n a b) (by omega), by have := h9.nn; omega⟩, by rw [pu3, hxp], by rw [cu3, hxc], rfl⟩
set_option maxRecDepth 10000 in
set_option maxHeartbeats 2000000 in
theorem u_Close (bt bf : Nat) (r : WH) (l : List MT) (p : Option Addr) (cap k c : Nat) (C : Nat → Value) (hv : RV.ok ⟨p, cap, k, l.length, c, C⟩) (hC : MC C l) (hm6 : l.length ≤ 6) (s : FC) (d : Int → Nat) (B : Int) (hO : s.toFF.Ok d B) (hB : B ≤ 900000) : Spec Tryz.prog 85 [ptr bt 0 0]
    [.cells bt 0 4 (encT bf r (.slice p l.length c)), frow p cap 98 4 k C, .cells bf 0 321 (encM s), .fam fam40 (FC.rowsN 9 s), .fam fam40 (FC.rowsK 3 s)]
    (fun v H1 => v = .tuple #[] ∧ ∃ u : FC, u.toFF = tcloseF s.toFF l r ∧ u.toFF.Ok d (B + 13) ∧ u.rP = s.rP ∧ u.rC = s.rC ∧ H1 = [.cells bt 0 4 (encT bf r (.slice none 0 0)), frow none 0 98 4 0 C0, .cells bf 0 321 (encM u), .fam fam40 (FC.rowsN 9 u), .fam fam40 (FC.rowsK 3 u)]) := by
 have hlk := RV.ok_le hv
 have hlk : l.length ≤ k := hlk
 refine Spec.intro Tryz.func85 rfl rfl ?_
 intro W
 refine XC.sr ?_
 refine XO.mv rfl rfl ?_
 refine XO.call rfl (u_hold _ _ _ _ _ _ _ _ _ hv hC hm6 s d B hO (by omega)) .h5 cl_98 rfl ?_
 rintro _ _ ⟨rfl, u, hu, hOu, pu, cu, rfl⟩
 refine XO.nk [(0, _)] (S1 rfl) ?_
 refine XC.region ?_
 refine XO.nilRow 98 4 ?_
 refine XO.mv rfl rfl ?_
 refine XO.v (V.nilCheckP rfl) rfl ?_
 refine XO.v (V.fieldAddr rfl fo_60_2) rfl ?_
 refine XO.store rfl rfl (.there .here) (encT.st2 _ _ _) rfl sz_58_1 ?_
 refine XO.nil ?_
 refine XE.end0 rfl (post_of (.cons (.there .here) (.cons .here (.cons (.there .here) (.cons (.there .here) (.cons (.there .here) .nil))))) rfl ?_)
 exact ⟨rfl, u, hu, hOu, pu, cu, rfl⟩
set_option maxRecDepth 10000 in
set_option maxHeartbeats 4000000 in
theorem u_Pivot (bt bf : Nat) (r : WH) (l : List MT) (p : Option Addr) (cap k c : Nat) (C : Nat → Value) (hv : RV.ok ⟨p, cap, k, l.length, c, C⟩) (hC : MC C l) (hm6 : l.length ≤ 6) (s : FC) (d : Int → Nat) (B : Int) (hO : s.toFF.Ok d B) (hB : B ≤ 800000) (to : Int) : Spec Tryz.prog 53 [ptr bt 0 0, .int .i64 to]
    [.cells bt 0 4 (encT bf r (.slice p l.length c)), frow p cap 98 4 k C, .cells bf 0 321 (encM s), .fam fam40 (FC.rowsN 9 s), .fam fam40 (FC.rowsK 3 s), irow (FC.rP s) (FC.rC s) 3 (FC.toFF s).roots]
    (fun v H1 => v = .int .i64 (s.rootE to) ∧ ((s.rootE to ≠ 0 ∧ H1 = [.cells bt 0 4 (encT bf r (.slice p l.length c)), frow p cap 98 4 k C, .cells bf 0 321 (encM s), .fam fam40 (FC.rowsN 9 s), .fam fam40 (FC.rowsK 3 s), irow (FC.rP s) (FC.rC s) 3 (FC.toFF s).roots]) ∨ (s.rootE to = 0 ∧ ∃ u : FC, u.toFF = tcloseF (s.toFF.hold (s.rootV to)) l r ∧ u.toFF.Ok d (B + 14) ∧ u.rP = s.rP ∧ u.rC = s.rC ∧ H1 = [.cells bt 0 4 (encT bf ⟨to, s.rootV to⟩ (.slice none 0 0)), frow none 0 98 4 0 C0, .cells bf 0 321 (encM u), .fam fam40 (FC.rowsN 9 u), .fam fam40 (FC.rowsK 3 u), irow (FC.rP s) (FC.rC s) 3 (FC.toFF s).roots]))) := by
 have hI := hO.sh (by omega)
 refine Spec.intro Tryz.func53 rfl rfl ?_
 intro W
 refine XC.sr ?_
 refine XO.as rfl rfl ?_
 refine XO.nk [(0, _), (1, _)] (S2 rfl rfl) ?_
 refine XC.sr ?_
 refine XO.mv rfl rfl ?_
 refine XO.v (V.nilCheckP rfl) rfl ?_
 refine XO.v (V.fieldAddr rfl fo_60_0) rfl ?_
 refine XO.v (V.load rfl (inXM .here) (encT.ld0 _ _) sc_27) rfl ?_
 refine XO.mv rfl rfl ?_
 refine XO.call rfl (r_Root _ _ _ hI _) (.cons (.t2 .here) (.cons (.t4 .here) .nil)) cl_28 rfl ?_
 rintro _ _ ⟨rfl, rfl⟩
 refine XO.mv rfl rfl ?_
 refine XO.v (V.extract rfl rfl) rfl ?_
 refine XO.v (V.extract rfl rfl) rfl ?_
 refine XO.as rfl rfl ?_
 refine XO.as rfl rfl ?_
 refine XO.nk [(0, _), (1, _), (5, _), (6, _)] (S4 rfl rfl rfl rfl) ?_
 refine XC.seq ?_
 refine XC.sr ?_
 refine XO.mv rfl rfl ?_
 refine XO.v (V.cmp rfl rfl rfl) rfl ?_
 refine XO.nk [(0, _), (1, _), (5, _), (6, _), (17, _)] (S5 rfl rfl rfl rfl rfl) ?_
 refine XC.condP rfl (fun h1 => ?_) (fun h1 => ?_)
 ·
  refine XC.sr ?_
  refine XO.mv rfl rfl ?_
  refine XO.as rfl rfl ?_
  refine XO.nk [(4, _)] (S1 rfl) ?_
  refine XC.ret ?_
  refine XE.thenRet ?_
  refine XE.ret1 rfl rfl (post_of (.cons (.t2 .here) (.cons (.t2 .here) (.cons .here (.cons (.there .here) (.cons (.there .here) .h1))))) rfl ?_)
  exact ⟨rfl, .inl ⟨by omega, rfl⟩⟩
 ·
  have e0 : s.rootE to = 0 := by have := FF.rootE_nn s.toFF to; omega
  refine XC.skip ?_
  refine XE.next ?_
  refine XC.keep [(0, _), (1, _), (5, _)] (S3 rfl rfl rfl) ?_
  refine XC.sr ?_
  refine XO.mv rfl rfl ?_
  refine XO.v (V.nilCheckP rfl) rfl ?_
  refine XO.v (V.fieldAddr rfl fo_60_0) rfl ?_
  refine XO.v (V.load rfl (inXM (.t2 .here)) (encT.ld0 _ _) sc_27) rfl ?_
  refine XO.mv rfl rfl ?_
  refine XO.call rfl (r_Hold _ _ s hI _) (.cons .here (.cons (.t3 .here) (.cons (.t3 .here) .nil))) cl_29 rfl ?_
  rintro _ _ ⟨rfl, u0, hu0, pu0, cu0, rfl⟩
  refine XO.nk [(0, _), (1, _), (5, _)] (S3 rfl rfl rfl) ?_
  refine XC.sr ?_
  have hO0 : u0.toFF.Ok d (B + 1) := by rw [hu0]; exact hO.hold (s.rootV to)
  refine XO.mv rfl rfl ?_
  refine XO.call rfl (u_Close _ _ _ _ _ _ _ _ _ hv hC hm6 u0 d (B + 1) hO0 (by omega)) (.cons (.t4 .here) (.cons (.t4 .here) .h3)) cl_85 rfl ?_
  rintro _ _ ⟨rfl, u, hu, hOu, pu, cu, rfl⟩
  refine XO.nk [(0, _), (1, _), (5, _)] (S3 rfl rfl rfl) ?_
  refine XC.sr ?_
  refine XO.mv rfl rfl ?_
  refine XO.mv rfl rfl ?_
  refine XO.mv rfl rfl ?_
  refine XO.v (V.build (vs := #[(0, .int .i64 to), (1, .int .i64 (s.rootV to))]) rfl (v := .agg (WH.arr ⟨to, s.rootV to⟩)) (fun _ => by kernel_rfl)) rfl ?_
  refine XO.v (V.nilCheckP rfl) rfl ?_
  refine XO.v (V.fieldAddr rfl fo_60_1) rfl ?_
  refine XO.storeAgg rfl rfl .here (encT.st1 _ _ _) ⟨rfl, rfl⟩ sz_56_2 ?_
  refine XO.nk [] (Sub.nil _) ?_
  refine XC.sr ?_
  refine XO.as rfl rfl ?_
  refine XO.nk [(4, _)] (S1 rfl) ?_
  refine XC.ret ?_
  refine XE.ret1 rfl rfl (post_of .h6 rfl ?_)
  exact ⟨by rw [e0], .inr ⟨e0, u, by rw [hu, hu0], by rw [show B + 14 = B + 1 + 13 from by omega]; exact hOu, by rw [pu, pu0], by rw [cu, cu0], rfl⟩⟩
set_option maxRecDepth 10000 in
set_option maxHeartbeats 2000000 in
theorem u_New (bf : Nat) (s : FC) (d : Int → Nat) (B : Int) (hO : s.toFF.Ok d B) (hB : B ≤ 900000) (t : Int) (he : s.rootE t = 0) : Spec Tryz.prog 12 [ptr bf 0 0, .int .i64 t]
    [.cells bf 0 321 (encM s), .fam fam40 (FC.rowsN 9 s), .fam fam40 (FC.rowsK 3 s), irow (FC.rP s) (FC.rC s) 3 (FC.toFF s).roots]
    (fun v H1 => ∃ (bt : Nat) (u : FC), v = .tuple #[ptr bt 0 0, .int .i64 0] ∧ u.toFF = s.toFF.hold (s.rootV t) ∧ u.rP = s.rP ∧ u.rC = s.rC ∧ H1 = [.cells bt 0 4 (encT bf ⟨t, s.rootV t⟩ (.slice none 0 0)), frow none 0 98 4 0 C0, .cells bf 0 321 (encM u), .fam fam40 (FC.rowsN 9 u), .fam fam40 (FC.rowsK 3 u), irow (FC.rP s) (FC.rC s) 3 (FC.toFF s).roots]) := by
 have hI := hO.sh (by omega)
 refine Spec.intro Tryz.func12 rfl rfl ?_
 intro W
 refine XC.sr ?_
 refine XO.as rfl rfl ?_
 refine XO.as rfl rfl ?_
 refine XO.nk [(0, _), (1, _)] (S2 rfl rfl) ?_
 refine XC.sr ?_
 refine XO.mv rfl rfl ?_
 refine XO.mv rfl rfl ?_
 refine XO.call rfl (r_Root _ _ _ hI _) (.cons .here (.cons (.t2 .here) .nil)) cl_28 rfl ?_
 rintro _ _ ⟨rfl, rfl⟩
 rw [he]
 refine XO.mv rfl rfl ?_
 refine XO.v (V.extract rfl rfl) rfl ?_
 refine XO.v (V.extract rfl rfl) rfl ?_
 refine XO.as rfl rfl ?_
 refine XO.as rfl rfl ?_
 refine XO.nk [(0, _), (1, _), (6, _), (7, _)] (S4 rfl rfl rfl rfl) ?_
 refine XC.seq ?_
 refine XC.sr ?_
 refine XO.mv rfl rfl ?_
 refine XO.v (V.cmp rfl rfl rfl) rfl ?_
 refine XO.nk [(0, _), (1, _), (6, _), (7, _), (15, _)] (S5 rfl rfl rfl rfl rfl) ?_
 refine XC.condFP rfl (by omega) ?_
 refine XC.skip ?_
 refine XE.next ?_
 refine XC.keep [(0, _), (1, _), (6, _)] (S3 rfl rfl rfl) ?_
 refine XC.sr ?_
 refine XO.mv rfl rfl ?_
 refine XO.mv rfl rfl ?_
 refine XO.call rfl (r_Hold _ _ s hI _) (.cons .here (.cons (.there .here) (.cons (.there .here) .nil))) cl_29 rfl ?_
 rintro _ _ ⟨rfl, u, hu, pu, cu, rfl⟩
 refine XO.nk [(0, _), (1, _), (6, _)] (S3 rfl rfl rfl) ?_
 refine XC.sr ?_
 refine XO.mv rfl rfl ?_
 refine XO.mv rfl rfl ?_
 refine XO.mv rfl rfl ?_
 refine XO.v (V.build (vs := #[(0, .int .i64 t), (1, .int .i64 (s.rootV t))]) rfl (v := .agg (WH.arr ⟨t, s.rootV t⟩)) (fun _ => by kernel_rfl)) rfl ?_
 refine XO.v (V.build (vs := #[(0, ptr bf 0 0), (1, .agg (WH.arr ⟨t, s.rootV t⟩))]) rfl (v := .agg (arrT bf ⟨t, s.rootV t⟩ (.slice none 0 0))) (fun _ => by kernel_rfl)) rfl ?_
 refine XO.box (m := 4) (C := encT bf ⟨t, s.rootV t⟩ (.slice none 0 0)) rfl rfl (encT.box _ _ _) rfl ?_
 intro bt
 refine XO.as rfl rfl ?_
 refine XO.as rfl rfl ?_
 refine XO.nilRow 98 4 ?_
 refine XO.nk [(4, _), (5, _)] (S2 rfl rfl) ?_
 refine XC.ret ?_
 refine XE.ret2 rfl rfl rfl (post_of (.cons (.there .here) .h5) rfl ?_)
 exact ⟨bt, u, rfl, hu, pu, cu, rfl⟩
end Go.X

namespace Go.X
open Go Go.Proofs
theorem cl_97 : callable Tryz.prog 97 = true := by kernel_rfl
set_option maxRecDepth 10000 in
set_option maxHeartbeats 4000000 in
theorem r_NamesOf (x : ByteArray) (hx : x.size ≤ 1000000) : Spec Tryz.prog 57 [.string x]
    []
    (fun v H1 => (splitE x = 9 ∧ v = .tuple #[.slice none 0 0, .int .i64 9] ∧ H1 = []) ∨ (splitE x = 0 ∧ ∃ q c, v = .tuple #[.slice q (splitV x).length c, .int .i64 0] ∧ H1 = [srow q c 9 (splitV x)])) := by
 refine Spec.intro Tryz.func57 rfl rfl ?_
 intro W
 refine XC.sr ?_
 refine XO.as rfl rfl ?_
 refine XO.as rfl rfl ?_
 refine XO.nk [(0, _)] (S1 rfl) ?_
 refine XC.seq ?_
 refine XC.sr ?_
 refine XO.mv rfl rfl ?_
 refine XO.v (V.lenStr rfl Tryz.underlying9) rfl ?_
 refine XO.v (V.cmp rfl rfl rfl) rfl ?_
 refine XO.mv rfl rfl ?_
 refine XO.splitP (d := 12) rfl (fun h1 => ?_) (fun h1 => ?_)
 ·
  refine XO.guardSkip rfl rfl rfl rfl rfl ?_
  refine XO.guardSkip rfl rfl rfl rfl rfl ?_
  refine XO.guardSkip rfl rfl rfl rfl rfl ?_
  refine XO.v (V.pick rfl rfl rfl rfl) rfl ?_
  refine XO.mv rfl rfl ?_
  refine XO.guardSkip rfl rfl rfl rfl rfl ?_
  refine XO.guardSkip rfl rfl rfl rfl rfl ?_
  refine XO.guardSkip rfl rfl rfl rfl rfl ?_
  refine XO.v (V.pick rfl rfl rfl rfl) rfl ?_
  refine XO.nk [(0, _), (21, _)] (S2 rfl rfl) ?_
  refine XC.condT rfl rfl ?_
  refine XC.sr ?_
  refine XO.as rfl rfl ?_
  refine XO.as rfl rfl ?_
  refine XO.nk [(2, _), (3, _)] (S2 rfl rfl) ?_
  refine XC.ret ?_
  refine XE.thenRet ?_
  refine XE.ret2 rfl rfl rfl (post_of .nil rfl ?_)
  exact .inl ⟨splitE_cond (.inl (by omega)), rfl, rfl⟩
 ·
  have hx6 : ¬ 60 < x.size := by omega
  refine XO.guardRun rfl rfl rfl ?_
  refine XO.mv rfl rfl ?_
  refine XO.guardRun rfl rfl rfl ?_
  refine XO.v (V.lenStr rfl Tryz.underlying9) rfl ?_
  refine XO.guardRun rfl rfl rfl ?_
  refine XO.v (V.cmp rfl rfl rfl) rfl ?_
  refine XO.v (V.pick rfl rfl rfl rfl) rfl ?_
  refine XO.mv rfl rfl ?_
  refine XO.splitP (d := 17) rfl (fun h2 => ?_) (fun h2 => ?_)
  ·
   refine XO.guardSkip rfl rfl rfl rfl rfl ?_
   refine XO.guardSkip rfl rfl rfl rfl rfl ?_
   refine XO.guardSkip rfl rfl rfl rfl rfl ?_
   refine XO.v (V.pick rfl rfl rfl rfl) rfl ?_
   refine XO.nk [(0, _), (21, _)] (S2 rfl rfl) ?_
   refine XC.condT rfl rfl ?_
   refine XC.sr ?_
   refine XO.as rfl rfl ?_
   refine XO.as rfl rfl ?_
   refine XO.nk [(2, _), (3, _)] (S2 rfl rfl) ?_
   refine XC.ret ?_
   refine XE.thenRet ?_
   refine XE.ret2 rfl rfl rfl (post_of .nil rfl ?_)
   exact .inl ⟨splitE_cond (.inr (.inl (size_nil.2 (by omega)))), rfl, rfl⟩
  ·
   have hne : ¬ x = ⟨#[]⟩ := fun q => by have := size_nil.1 q; omega
   obtain ⟨u, hu⟩ := get_some (s := x) (j := (0 : Int).toNat) (by show 0 < x.size; have h0 : ¬ x.size = 0 := fun q => hne (size_nil.2 q); omega)
   have hg : x.get! 0 = u := get_of hu
   refine XO.guardRun rfl rfl rfl ?_
   refine XO.mv rfl rfl ?_
   refine XO.guardRun rfl rfl rfl ?_
   refine XO.v (V.indexStr rfl rfl Tryz.underlying9 (by omega) hu) rfl ?_
   refine XO.guardRun rfl rfl rfl ?_
   refine XO.v (V.cmp rfl rfl rfl) rfl ?_
   refine XO.v (V.pick rfl rfl rfl rfl) rfl ?_
   refine XO.nk [(0, _), (21, _)] (S2 rfl rfl) ?_
   refine XC.condP rfl (fun h3 => ?_) (fun h3 => ?_)
   ·
    refine XC.sr ?_
    refine XO.as rfl rfl ?_
    refine XO.as rfl rfl ?_
    refine XO.nk [(2, _), (3, _)] (S2 rfl rfl) ?_
    refine XC.ret ?_
    refine XE.thenRet ?_
    refine XE.ret2 rfl rfl rfl (post_of .nil rfl ?_)
    exact .inl ⟨splitE_cond (.inr (.inr (fun q => (by assumption : ¬ ((u.toNat : Nat) : Int) = 47) (by rw [hg] at q; rw [q]; rfl)))), rfl, rfl⟩
   ·
    have hg47 : x.get! 0 = 47 := by rw [hg]; exact UInt8.toNat_inj.1 (by show u.toNat = 47; omega)
    have hc : ¬ (60 < x.size ∨ x = ⟨#[]⟩ ∨ x.get! 0 ≠ 47) := by
     rintro (a | a | a)
     ·
      omega
     ·
      exact hne a
     ·
      exact a hg47
    have hx1 : 1 ≤ x.size := by
     have h0 : ¬ x.size = 0 := fun q => hne (size_nil.2 q)
     omega
    refine XC.skip ?_
    refine XE.next ?_
    refine XC.keep [(0, _)] (S1 rfl) ?_
    refine XC.seq ?_
    refine XC.sr ?_
    refine XO.mv rfl rfl ?_
    refine XO.v (V.lenStr rfl Tryz.underlying9) rfl ?_
    refine XO.v (V.cmp rfl rfl rfl) rfl ?_
    refine XO.nk [(0, _), (24, _)] (S2 rfl rfl) ?_
    refine XC.condP rfl (fun h4 => ?_) (fun h4 => ?_)
    ·
     have hsl : x = slash := (slash_iff hg47).2 (by omega)
     refine XC.sr ?_
     refine XO.as rfl rfl ?_
     refine XO.nilRow 9 1 ?_
     refine XO.as rfl rfl ?_
     refine XO.nk [(2, _), (3, _)] (S2 rfl rfl) ?_
     refine XC.ret ?_
     refine XE.thenRet ?_
     refine XE.ret2 rfl rfl rfl (post_of .h1 rfl ?_)
     have e := splitE_slash hsl
     exact .inr ⟨e.1, none, 0, by rw [e.2]; rfl, by rw [e.2]; rfl⟩
    ·
     have hsl : ¬ x = slash := fun q => by have := (slash_iff hg47).1 q; omega
     refine XC.skip ?_
     refine XE.next ?_
     refine XC.keep [(0, _)] (S1 rfl) ?_
     refine XC.sr ?_
     refine XO.as rfl rfl ?_
     refine XO.nilRow 9 1 ?_
     refine XO.nk [(0, _), (4, _)] (S2 rfl rfl) ?_
     refine XC.sr ?_
     refine XO.as rfl rfl ?_
     refine XO.nk [(0, _), (4, _), (5, _)] (S3 rfl rfl rfl) ?_
     refine XC.seq ?_
     refine XC.sr ?_
     refine XO.as rfl rfl ?_
     refine XO.nk [(0, _), (4, _), (5, _), (6, _)] (S4 rfl rfl rfl rfl) ?_
     refine XC.block ?_
     refine XC.loop (σ := Option Addr × Nat × List ByteArray × Int × Int) (fun y => (x.size + 1 - y.2.2.2.2).toNat) (fun y => NI x y.2.2.2.1 y.2.2.2.2 y.2.2.1) (fun y => [(4, .slice y.1 y.2.2.1.length y.2.1), (5, .int .i64 y.2.2.2.1), (6, .int .i64 y.2.2.2.2), (0, .string x)]) (fun y => XM W (foot []) [srow y.1 y.2.1 9 y.2.2.1]) ((none, 0, [], 1, 1)) ?_ (S4 rfl rfl rfl rfl) (fun _ hw => XM.pick .h1 hw) ?_
     ·
      exact NI.start (by have h1 : ¬ x.size = 1 := fun q => hsl ((slash_iff hg47).2 q); omega)
     intro y hy
     have hyb := hy.b
     have hyl := hy.len
     refine XC.seq ?_
     refine XC.sr ?_
     refine XO.mv rfl rfl ?_
     refine XO.mv rfl rfl ?_
     refine XO.v (V.lenStr rfl Tryz.underlying9) rfl ?_
     refine XO.v (V.cmp rfl rfl rfl) rfl ?_
     refine XO.nk [(0, _), (4, _), (5, _), (6, _), (28, _)] (S5 rfl rfl rfl rfl rfl) ?_
     refine XC.condP rfl (fun h5 => ?_) (fun h5 => ?_)
     ·
      refine XC.skip ?_
      refine XE.next ?_
      refine XC.keep [(0, _), (4, _), (5, _), (6, _)] (S4 rfl rfl rfl rfl) ?_
      refine XC.seq ?_
      refine XC.block ?_
      refine XC.seq ?_
      refine XC.sr ?_
      refine XO.mv rfl rfl ?_
      refine XO.mv rfl rfl ?_
      refine XO.v (V.lenStr rfl Tryz.underlying9) rfl ?_
      refine XO.v (V.cmp rfl rfl rfl) rfl ?_
      refine XO.mv rfl rfl ?_
      refine XO.splitP (d := 35) rfl (fun h6 => ?_) (fun h6 => ?_)
      ·
       have hlt : y.2.2.2.2 < x.size := by omega
       obtain ⟨u2, hu2⟩ := get_some (s := x) (j := y.2.2.2.2.toNat) (by omega)
       have hg2 : x.get! y.2.2.2.2.toNat = u2 := get_of hu2
       refine XO.guardRun rfl rfl rfl ?_
       refine XO.mv rfl rfl ?_
       refine XO.guardRun rfl rfl rfl ?_
       refine XO.mv rfl rfl ?_
       refine XO.guardRun rfl rfl rfl ?_
       refine XO.v (V.indexStr rfl rfl Tryz.underlying9 (by omega) hu2) rfl ?_
       refine XO.guardRun rfl rfl rfl ?_
       refine XO.v (V.cmp rfl rfl rfl) rfl ?_
       refine XO.v (V.pick rfl rfl rfl rfl) rfl ?_
       refine XO.nk [(0, _), (4, _), (5, _), (6, _), (40, _)] (S5 rfl rfl rfl rfl rfl) ?_
       refine XC.condP rfl (fun h7 => ?_) (fun h7 => ?_)
       ·
        have hne7 : x.get! y.2.2.2.2.toNat ≠ 47 := fun q => (by assumption : ¬ ((u2.toNat : Nat) : Int) = 47) (by rw [hg2] at q; rw [q]; rfl)
        refine XC.exit ?_
        refine XE.thenExit ?_
        refine XE.blockExit ?_
        refine XE.next ?_
        refine XC.keep [(0, _), (4, _), (5, _), (6, _)] (S4 rfl rfl rfl rfl) ?_
        refine XC.region ?_
        refine XO.mv rfl rfl ?_
        refine XO.v (V.add rfl rfl _ (IntWalk.i64_in _ (by omega))) rfl ?_
        refine XO.as rfl rfl ?_
        refine XO.nil ?_
        refine XE.again ((y.1, y.2.1, y.2.2.1, y.2.2.2.1, y.2.2.2.2 + 1)) ?_ ?_ (S4 rfl rfl rfl rfl) (fun _ hw => XM.pick .h1 hw)
        ·
         (simp; omega)
        ·
         exact hy.step hlt hne7
       ·
        have hq7 : y.2.2.2.2 = x.size ∨ x.get! y.2.2.2.2.toNat = 47 := .inr (by rw [hg2]; exact UInt8.toNat_inj.1 (by show u2.toNat = 47; omega))
        refine XC.skip ?_
        refine XE.next ?_
        refine XC.keep [(0, _), (4, _), (5, _), (6, _)] (S4 rfl rfl rfl rfl) ?_
        refine XC.sr ?_
        refine XO.mv rfl rfl ?_
        refine XO.mv rfl rfl ?_
        refine XO.mv rfl rfl ?_
        refine XO.v (V.slice2 rfl rfl rfl Tryz.underlying9 ⟨by omega, by omega⟩) rfl ?_
        refine XO.as rfl rfl ?_
        refine XO.nk [(0, _), (4, _), (6, _), (7, _)] (S4 rfl rfl rfl rfl) ?_
        refine XC.sr ?_
        refine XO.mv rfl rfl ?_
        refine XO.call rfl (r_NameMay (x.extract y.2.2.2.1.toNat y.2.2.2.2.toNat) (by rw [ByteArray.size_extract]; omega)) .nil cl_88 rfl ?_
        rintro _ _ ⟨rfl, rfl⟩
        refine XO.as rfl rfl ?_
        refine XO.nk [(0, _), (4, _), (6, _), (7, _), (8, _)] (S5 rfl rfl rfl rfl rfl) ?_
        refine XC.seq ?_
        refine XC.sr ?_
        refine XO.mv rfl rfl ?_
        refine XO.v (V.not rfl) rfl ?_
        refine XO.mv rfl rfl ?_
        refine XO.split (d := 49) rfl (fun h8 => ?_) (fun h8 => ?_)
        ·
         try simp only [sb] at h8
         refine XO.guardRun rfl rfl rfl ?_
         refine XO.mv rfl rfl ?_
         refine XO.guardRun rfl rfl rfl ?_
         refine XO.v (V.strCmp rfl rfl rfl) rfl ?_
         refine XO.v (V.pick rfl rfl rfl rfl) rfl ?_
         refine XO.nk [(0, _), (4, _), (6, _), (7, _), (52, _)] (S5 rfl rfl rfl rfl rfl) ?_
         refine XC.condP rfl (fun h9 => ?_) (fun h9 => ?_)
         ·
          refine XC.sr ?_
          refine XO.as rfl rfl ?_
          refine XO.as rfl rfl ?_
          refine XO.nk [(2, _), (3, _)] (S2 rfl rfl) ?_
          refine XC.ret ?_
          refine XE.thenRet ?_
          refine XE.blockRet ?_
          refine XE.thenRet ?_
          refine XE.thenRet ?_
          refine XE.blockRet ?_
          refine XE.thenRet ?_
          refine XE.ret2 rfl rfl rfl (post_of .nil rfl ?_)
          exact .inl ⟨hy.bad hc hsl (by omega) hq7 (by unfold partOk; simp_all [dd]), rfl, rfl⟩
         ·
          refine XC.skip ?_
          refine XE.next ?_
          refine XC.keep [(0, _), (4, _), (6, _), (7, _)] (S4 rfl rfl rfl rfl) ?_
          refine XC.sr ?_
          have hpo : partOk (x.extract y.2.2.2.1.toNat y.2.2.2.2.toNat) = true := by unfold partOk; simp_all [dd]
          refine XO.mv rfl rfl ?_
          refine XO.mv rfl rfl ?_
          refine XO.buildSlice (e := 9) (vs := #[(0, .string (x.extract y.2.2.2.1.toNat y.2.2.2.2.toNat))]) (A := #[.string (x.extract y.2.2.2.1.toNat y.2.2.2.2.toNat)]) rfl (fun _ => by kernel_rfl) rfl rfl ?_
          intro g8
          refine XO.appendS (e := 9) rfl rfl Tryz.underlying28 rt_9_1 (.there .here) .here (by omega) rfl ?_
          intro p1 c1
          refine XO.as rfl rfl ?_
          refine XO.nk [(0, _), (4, _), (6, _)] (S3 rfl rfl rfl) ?_
          refine XC.region ?_
          refine XO.mv rfl rfl ?_
          refine XO.v (V.add rfl rfl _ (IntWalk.i64_in _ (by omega))) rfl ?_
          refine XO.as rfl rfl ?_
          refine XO.nil ?_
          refine XE.blockNormal ?_
          refine XE.next ?_
          refine XC.keep [(0, _), (4, _), (5, _), (6, _)] (S4 rfl rfl rfl rfl) ?_
          refine XC.region ?_
          refine XO.mv rfl rfl ?_
          refine XO.v (V.add rfl rfl _ (IntWalk.i64_in _ (by omega))) rfl ?_
          refine XO.as rfl rfl ?_
          refine XO.nil ?_
          refine XE.again ((p1, c1, y.2.2.1 ++ [x.extract y.2.2.2.1.toNat y.2.2.2.2.toNat], y.2.2.2.2 + 1, y.2.2.2.2 + 1)) ?_ ?_ (Sub.cons (by show lk _ _ = some (Value.slice _ (y.2.2.1 ++ [x.extract y.2.2.2.1.toNat y.2.2.2.2.toNat]).length _); rw [List.length_append]; rfl) (S3 rfl rfl rfl)) (fun _ hw => XM.pick .h1 hw)
          ·
           (simp; omega)
          ·
           rcases hq7 with hq7 | hq7
           ·
            exact hy.fin hq7 hpo
           ·
            by_cases c : y.2.2.2.2 = x.size
            ·
             exact hy.fin c hpo
            ·
             exact hy.cut (by omega) hq7 hpo
        ·
         try simp only [sb] at h8
         refine XO.guardSkip rfl rfl rfl rfl rfl ?_
         refine XO.guardSkip rfl rfl rfl rfl rfl ?_
         refine XO.v (V.pick rfl rfl rfl rfl) rfl ?_
         refine XO.nk [(0, _), (4, _), (6, _), (7, _), (52, _)] (S5 rfl rfl rfl rfl rfl) ?_
         refine XC.condF rfl rfl ?_
         refine XC.skip ?_
         refine XE.next ?_
         refine XC.keep [(0, _), (4, _), (6, _), (7, _)] (S4 rfl rfl rfl rfl) ?_
         refine XC.sr ?_
         have hpo : partOk (x.extract y.2.2.2.1.toNat y.2.2.2.2.toNat) = true := by unfold partOk; simp_all [dd]
         refine XO.mv rfl rfl ?_
         refine XO.mv rfl rfl ?_
         refine XO.buildSlice (e := 9) (vs := #[(0, .string (x.extract y.2.2.2.1.toNat y.2.2.2.2.toNat))]) (A := #[.string (x.extract y.2.2.2.1.toNat y.2.2.2.2.toNat)]) rfl (fun _ => by kernel_rfl) rfl rfl ?_
         intro g8
         refine XO.appendS (e := 9) rfl rfl Tryz.underlying28 rt_9_1 (.there .here) .here (by omega) rfl ?_
         intro p1 c1
         refine XO.as rfl rfl ?_
         refine XO.nk [(0, _), (4, _), (6, _)] (S3 rfl rfl rfl) ?_
         refine XC.region ?_
         refine XO.mv rfl rfl ?_
         refine XO.v (V.add rfl rfl _ (IntWalk.i64_in _ (by omega))) rfl ?_
         refine XO.as rfl rfl ?_
         refine XO.nil ?_
         refine XE.blockNormal ?_
         refine XE.next ?_
         refine XC.keep [(0, _), (4, _), (5, _), (6, _)] (S4 rfl rfl rfl rfl) ?_
         refine XC.region ?_
         refine XO.mv rfl rfl ?_
         refine XO.v (V.add rfl rfl _ (IntWalk.i64_in _ (by omega))) rfl ?_
         refine XO.as rfl rfl ?_
         refine XO.nil ?_
         refine XE.again ((p1, c1, y.2.2.1 ++ [x.extract y.2.2.2.1.toNat y.2.2.2.2.toNat], y.2.2.2.2 + 1, y.2.2.2.2 + 1)) ?_ ?_ (Sub.cons (by show lk _ _ = some (Value.slice _ (y.2.2.1 ++ [x.extract y.2.2.2.1.toNat y.2.2.2.2.toNat]).length _); rw [List.length_append]; rfl) (S3 rfl rfl rfl)) (fun _ hw => XM.pick .h1 hw)
         ·
          (simp; omega)
         ·
          rcases hq7 with hq7 | hq7
          ·
           exact hy.fin hq7 hpo
          ·
           by_cases c : y.2.2.2.2 = x.size
           ·
            exact hy.fin c hpo
           ·
            exact hy.cut (by omega) hq7 hpo
      ·
       have hq7 : y.2.2.2.2 = x.size ∨ x.get! y.2.2.2.2.toNat = 47 := .inl (by omega)
       refine XO.guardSkip rfl rfl rfl rfl rfl ?_
       refine XO.guardSkip rfl rfl rfl rfl rfl ?_
       refine XO.guardSkip rfl rfl rfl rfl rfl ?_
       refine XO.guardSkip rfl rfl rfl rfl rfl ?_
       refine XO.v (V.pick rfl rfl rfl rfl) rfl ?_
       refine XO.nk [(0, _), (4, _), (5, _), (6, _), (40, _)] (S5 rfl rfl rfl rfl rfl) ?_
       refine XC.condF rfl rfl ?_
       refine XC.skip ?_
       refine XE.next ?_
       refine XC.keep [(0, _), (4, _), (5, _), (6, _)] (S4 rfl rfl rfl rfl) ?_
       refine XC.sr ?_
       refine XO.mv rfl rfl ?_
       refine XO.mv rfl rfl ?_
       refine XO.mv rfl rfl ?_
       refine XO.v (V.slice2 rfl rfl rfl Tryz.underlying9 ⟨by omega, by omega⟩) rfl ?_
       refine XO.as rfl rfl ?_
       refine XO.nk [(0, _), (4, _), (6, _), (7, _)] (S4 rfl rfl rfl rfl) ?_
       refine XC.sr ?_
       refine XO.mv rfl rfl ?_
       refine XO.call rfl (r_NameMay (x.extract y.2.2.2.1.toNat y.2.2.2.2.toNat) (by rw [ByteArray.size_extract]; omega)) .nil cl_88 rfl ?_
       rintro _ _ ⟨rfl, rfl⟩
       refine XO.as rfl rfl ?_
       refine XO.nk [(0, _), (4, _), (6, _), (7, _), (8, _)] (S5 rfl rfl rfl rfl rfl) ?_
       refine XC.seq ?_
       refine XC.sr ?_
       refine XO.mv rfl rfl ?_
       refine XO.v (V.not rfl) rfl ?_
       refine XO.mv rfl rfl ?_
       refine XO.split (d := 49) rfl (fun h16 => ?_) (fun h16 => ?_)
       ·
        try simp only [sb] at h16
        refine XO.guardRun rfl rfl rfl ?_
        refine XO.mv rfl rfl ?_
        refine XO.guardRun rfl rfl rfl ?_
        refine XO.v (V.strCmp rfl rfl rfl) rfl ?_
        refine XO.v (V.pick rfl rfl rfl rfl) rfl ?_
        refine XO.nk [(0, _), (4, _), (6, _), (7, _), (52, _)] (S5 rfl rfl rfl rfl rfl) ?_
        refine XC.condP rfl (fun h17 => ?_) (fun h17 => ?_)
        ·
         refine XC.sr ?_
         refine XO.as rfl rfl ?_
         refine XO.as rfl rfl ?_
         refine XO.nk [(2, _), (3, _)] (S2 rfl rfl) ?_
         refine XC.ret ?_
         refine XE.thenRet ?_
         refine XE.blockRet ?_
         refine XE.thenRet ?_
         refine XE.thenRet ?_
         refine XE.blockRet ?_
         refine XE.thenRet ?_
         refine XE.ret2 rfl rfl rfl (post_of .nil rfl ?_)
         exact .inl ⟨hy.bad hc hsl (by omega) hq7 (by unfold partOk; simp_all [dd]), rfl, rfl⟩
        ·
         refine XC.skip ?_
         refine XE.next ?_
         refine XC.keep [(0, _), (4, _), (6, _), (7, _)] (S4 rfl rfl rfl rfl) ?_
         refine XC.sr ?_
         have hpo : partOk (x.extract y.2.2.2.1.toNat y.2.2.2.2.toNat) = true := by unfold partOk; simp_all [dd]
         refine XO.mv rfl rfl ?_
         refine XO.mv rfl rfl ?_
         refine XO.buildSlice (e := 9) (vs := #[(0, .string (x.extract y.2.2.2.1.toNat y.2.2.2.2.toNat))]) (A := #[.string (x.extract y.2.2.2.1.toNat y.2.2.2.2.toNat)]) rfl (fun _ => by kernel_rfl) rfl rfl ?_
         intro g8
         refine XO.appendS (e := 9) rfl rfl Tryz.underlying28 rt_9_1 (.there .here) .here (by omega) rfl ?_
         intro p1 c1
         refine XO.as rfl rfl ?_
         refine XO.nk [(0, _), (4, _), (6, _)] (S3 rfl rfl rfl) ?_
         refine XC.region ?_
         refine XO.mv rfl rfl ?_
         refine XO.v (V.add rfl rfl _ (IntWalk.i64_in _ (by omega))) rfl ?_
         refine XO.as rfl rfl ?_
         refine XO.nil ?_
         refine XE.blockNormal ?_
         refine XE.next ?_
         refine XC.keep [(0, _), (4, _), (5, _), (6, _)] (S4 rfl rfl rfl rfl) ?_
         refine XC.region ?_
         refine XO.mv rfl rfl ?_
         refine XO.v (V.add rfl rfl _ (IntWalk.i64_in _ (by omega))) rfl ?_
         refine XO.as rfl rfl ?_
         refine XO.nil ?_
         refine XE.again ((p1, c1, y.2.2.1 ++ [x.extract y.2.2.2.1.toNat y.2.2.2.2.toNat], y.2.2.2.2 + 1, y.2.2.2.2 + 1)) ?_ ?_ (Sub.cons (by show lk _ _ = some (Value.slice _ (y.2.2.1 ++ [x.extract y.2.2.2.1.toNat y.2.2.2.2.toNat]).length _); rw [List.length_append]; rfl) (S3 rfl rfl rfl)) (fun _ hw => XM.pick .h1 hw)
         ·
          (simp; omega)
         ·
          rcases hq7 with hq7 | hq7
          ·
           exact hy.fin hq7 hpo
          ·
           by_cases c : y.2.2.2.2 = x.size
           ·
            exact hy.fin c hpo
           ·
            exact hy.cut (by omega) hq7 hpo
       ·
        try simp only [sb] at h16
        refine XO.guardSkip rfl rfl rfl rfl rfl ?_
        refine XO.guardSkip rfl rfl rfl rfl rfl ?_
        refine XO.v (V.pick rfl rfl rfl rfl) rfl ?_
        refine XO.nk [(0, _), (4, _), (6, _), (7, _), (52, _)] (S5 rfl rfl rfl rfl rfl) ?_
        refine XC.condF rfl rfl ?_
        refine XC.skip ?_
        refine XE.next ?_
        refine XC.keep [(0, _), (4, _), (6, _), (7, _)] (S4 rfl rfl rfl rfl) ?_
        refine XC.sr ?_
        have hpo : partOk (x.extract y.2.2.2.1.toNat y.2.2.2.2.toNat) = true := by unfold partOk; simp_all [dd]
        refine XO.mv rfl rfl ?_
        refine XO.mv rfl rfl ?_
        refine XO.buildSlice (e := 9) (vs := #[(0, .string (x.extract y.2.2.2.1.toNat y.2.2.2.2.toNat))]) (A := #[.string (x.extract y.2.2.2.1.toNat y.2.2.2.2.toNat)]) rfl (fun _ => by kernel_rfl) rfl rfl ?_
        intro g8
        refine XO.appendS (e := 9) rfl rfl Tryz.underlying28 rt_9_1 (.there .here) .here (by omega) rfl ?_
        intro p1 c1
        refine XO.as rfl rfl ?_
        refine XO.nk [(0, _), (4, _), (6, _)] (S3 rfl rfl rfl) ?_
        refine XC.region ?_
        refine XO.mv rfl rfl ?_
        refine XO.v (V.add rfl rfl _ (IntWalk.i64_in _ (by omega))) rfl ?_
        refine XO.as rfl rfl ?_
        refine XO.nil ?_
        refine XE.blockNormal ?_
        refine XE.next ?_
        refine XC.keep [(0, _), (4, _), (5, _), (6, _)] (S4 rfl rfl rfl rfl) ?_
        refine XC.region ?_
        refine XO.mv rfl rfl ?_
        refine XO.v (V.add rfl rfl _ (IntWalk.i64_in _ (by omega))) rfl ?_
        refine XO.as rfl rfl ?_
        refine XO.nil ?_
        refine XE.again ((p1, c1, y.2.2.1 ++ [x.extract y.2.2.2.1.toNat y.2.2.2.2.toNat], y.2.2.2.2 + 1, y.2.2.2.2 + 1)) ?_ ?_ (Sub.cons (by show lk _ _ = some (Value.slice _ (y.2.2.1 ++ [x.extract y.2.2.2.1.toNat y.2.2.2.2.toNat]).length _); rw [List.length_append]; rfl) (S3 rfl rfl rfl)) (fun _ hw => XM.pick .h1 hw)
        ·
         (simp; omega)
        ·
         rcases hq7 with hq7 | hq7
         ·
          exact hy.fin hq7 hpo
         ·
          by_cases c : y.2.2.2.2 = x.size
          ·
           exact hy.fin c hpo
          ·
           exact hy.cut (by omega) hq7 hpo
     ·
      refine XC.exit ?_
      refine XE.thenExit ?_
      refine XE.thenExit ?_
      refine XE.blockExit ?_
      refine XE.next ?_
      refine XC.keep [(4, _)] (S1 rfl) ?_
      refine XC.sr ?_
      refine XO.mv rfl rfl ?_
      refine XO.as rfl rfl ?_
      refine XO.as rfl rfl ?_
      refine XO.nk [(2, _), (3, _)] (S2 rfl rfl) ?_
      refine XC.ret ?_
      refine XE.ret2 rfl rfl rfl (post_of .h1 rfl ?_)
      have e := hy.good hc hsl (by omega)
      exact .inr ⟨e.1, _, _, by rw [e.2], by rw [e.2]⟩
set_option maxRecDepth 10000 in
set_option maxHeartbeats 4000000 in
theorem u_Led (bt bf : Nat) (r : WH) (l : List MT) (p : Option Addr) (cap k c : Nat) (C : Nat → Value) (hv : RV.ok ⟨p, cap, k, l.length, c, C⟩) (hC : MC C l) (hm6 : l.length ≤ 6) (s : FC) (hI : s.toFF.Sh) (q : Option Addr) (cq : Nat) (ns : List ByteArray) (n : Nat) (hn : n ≤ ns.length) (hn6 : ns.length ≤ 1000000) : Spec Tryz.prog 83 [ptr bt 0 0, .slice q n cq]
    [.cells bt 0 4 (encT bf r (.slice p l.length c)), frow p cap 98 4 k C, .cells bf 0 321 (encM s), .fam fam40 (FC.rowsN 9 s), .fam fam40 (FC.rowsK 3 s), srow q cq 9 ns]
    (fun v H1 => v = .tuple #[.agg (WH.arr (led s.toFF l r (ns.take n)).2), .int .i64 (led s.toFF l r (ns.take n)).1] ∧ H1 = [.cells bt 0 4 (encT bf r (.slice p l.length c)), frow p cap 98 4 k C, .cells bf 0 321 (encM s), .fam fam40 (FC.rowsN 9 s), .fam fam40 (FC.rowsK 3 s), srow q cq 9 ns]) := by
 have hlk := RV.ok_le hv
 have hlk : l.length ≤ k := hlk
 refine Spec.intro Tryz.func83 rfl rfl ?_
 intro W
 refine XC.sr ?_
 refine XO.allocZ (z := .agg (WH.arr WH.nil)) (m := 2) (C := encW WH.nil) (by kernel_rfl) rfl (encW.box _) rfl ?_
 intro br
 refine XO.as rfl rfl ?_
 refine XO.nk [(0, _), (1, _), (4, _)] (S3 rfl rfl rfl) ?_
 refine XC.sr ?_
 refine XO.as rfl rfl ?_
 refine XO.nilRow 56 2 ?_
 refine XO.nk [(0, _), (1, _), (4, _), (6, _)] (S4 rfl rfl rfl rfl) ?_
 refine XC.sr ?_
 refine XO.mv rfl rfl ?_
 refine XO.mv rfl rfl ?_
 refine XO.v (V.nilCheckP rfl) rfl ?_
 refine XO.v (V.fieldAddr rfl fo_60_1) rfl ?_
 refine XO.v (V.loadAgg rfl (inXM (.t2 .here)) (encT.ld1 _ _) ag_56 sz_56_2) rfl ?_
 refine XO.call rfl (u_seen _ _ _ _ _ _ _ _ _ hv hC hm6 _) (.cons (.t2 .here) (.cons (.t2 .here) .nil)) cl_97 rfl ?_
 rintro _ _ ⟨rfl, rfl⟩
 refine XO.allocZ (z := .agg (WH.arr WH.nil)) (m := 2) (C := encW WH.nil) (by kernel_rfl) rfl (encW.box _) rfl ?_
 intro ba
 refine XO.storeAgg rfl rfl .here (encW.st _ _) ⟨rfl, rfl⟩ sz_56_2 ?_
 refine XO.nk [(0, _), (1, _), (4, _), (6, _), (7, _)] (S5 rfl rfl rfl rfl rfl) ?_
 refine XC.seq ?_
 refine XC.sr ?_
 refine XO.as rfl rfl ?_
 refine XO.nk [(0, _), (1, _), (4, _), (6, _), (7, _), (8, _)] (S6 rfl rfl rfl rfl rfl rfl) ?_
 refine XC.block ?_
 refine XC.loop (σ := List WH × WH × Option Addr × Nat × Int) (fun x => (n - x.2.2.2.2).toNat) (fun x => wk s.toFF l (x.1 ++ [x.2.1]) ((ns.take n).drop x.2.2.2.2.toNat) = led s.toFF l r (ns.take n) ∧ (0 ≤ x.2.2.2.2 ∧ x.2.2.2.2 ≤ n) ∧ x.1.length ≤ x.2.2.2.2) (fun x => [(6, .slice x.2.2.1 x.1.length x.2.2.2.1), (8, .int .i64 x.2.2.2.2), (0, ptr bt 0 0), (1, .slice q n cq), (4, ptr br 0 0), (7, ptr ba 0 0)]) (fun x => XM W (foot [.cells bt 0 4 (encT bf r (.slice p l.length c)), frow p cap 98 4 k C, .cells bf 0 321 (encM s), .fam fam40 (FC.rowsN 9 s), .fam fam40 (FC.rowsK 3 s), srow q cq 9 ns]) [.cells bt 0 4 (encT bf r (.slice p l.length c)), frow p cap 98 4 k C, .cells bf 0 321 (encM s), .fam fam40 (FC.rowsN 9 s), .fam fam40 (FC.rowsK 3 s), srow q cq 9 ns, .cells br 0 2 (encW WH.nil), .cells ba 0 2 (encW x.2.1), frow x.2.2.1 x.2.2.2.1 56 2 x.1.length (wC x.1)]) (([], over l r, none, 0, 0)) ?_ (S6 rfl rfl rfl rfl rfl rfl) (fun _ hw => XM.pick (.cons (.there .here) (.cons (.there .here) (.cons (.t3 .here) (.cons (.t3 .here) (.cons (.t3 .here) (.cons (.t3 .here) (.cons (.t2 .here) .h2))))))) hw) ?_
 ·
  exact ⟨rfl, ⟨by simp, by simp⟩, by simp⟩
 intro x hx
 obtain ⟨hwk, ⟨hi0, hi1⟩, hl2⟩ := hx
 have hla : ∀ a : WH, (x.1 ++ [a]).length = x.1.length + 1 := fun a => by simp
 refine XC.seq ?_
 refine XC.sr ?_
 refine XO.mv rfl rfl ?_
 refine XO.mv rfl rfl ?_
 refine XO.v (V.lenSl rfl Tryz.underlying28) rfl ?_
 refine XO.v (V.cmp rfl rfl rfl) rfl ?_
 refine XO.nk [(0, _), (1, _), (4, _), (6, _), (7, _), (8, _), (21, _)] (S7 rfl rfl rfl rfl rfl rfl rfl) ?_
 refine XC.condP rfl (fun h1 => ?_) (fun h1 => ?_)
 ·
  refine XC.skip ?_
  refine XE.next ?_
  refine XC.keep [(0, _), (1, _), (4, _), (6, _), (7, _), (8, _)] (S6 rfl rfl rfl rfl rfl rfl) ?_
  refine XC.seq ?_
  refine XC.block ?_
  refine XC.seq ?_
  refine XC.sr ?_
  have hdr := take_drop (ns := ns) (n := n) hn (i := x.2.2.2.2) ⟨by omega, by omega⟩
  refine XO.openRow (.t5 .here) (by show 0 < ns.length; omega) ?_
  intro g hg
  subst hg
  refine XO.mv rfl rfl ?_
  refine XO.mv rfl rfl ?_
  refine XO.v (V.indexSl rfl rfl sl_28 (by omega)) rfl ?_
  refine XO.v (V.loadRow rfl (inXM (.t5 .here)) (strs_at (by omega)) sc_9) rfl ?_
  refine XO.v (V.strCmp rfl rfl rfl) rfl ?_
  refine XO.nk [(0, _), (1, _), (4, _), (6, _), (7, _), (8, _), (28, _)] (S7 rfl rfl rfl rfl rfl rfl rfl) ?_
  refine XC.condP rfl (fun h2 => ?_) (fun h2 => ?_)
  ·
   have hdd : sat0 ns x.2.2.2.2 = dd := by assumption
   refine XC.seq ?_
   refine XC.sr ?_
   refine XO.mv rfl rfl ?_
   refine XO.v (V.lenSl rfl Tryz.underlying135) rfl ?_
   refine XO.as rfl rfl ?_
   refine XO.nk [(0, _), (1, _), (4, _), (6, _), (7, _), (8, _), (9, _)] (S7 rfl rfl rfl rfl rfl rfl rfl) ?_
   refine XC.sr ?_
   refine XO.mv rfl rfl ?_
   refine XO.v (V.cmp rfl rfl rfl) rfl ?_
   refine XO.nk [(0, _), (1, _), (4, _), (6, _), (7, _), (8, _), (9, _), (32, _)] (S8 rfl rfl rfl rfl rfl rfl rfl rfl) ?_
   refine XC.condP rfl (fun h3 => ?_) (fun h3 => ?_)
   ·
    have hlt : (x.1.take (x.1.length - 1)).length = x.1.length - 1 := by simp
    refine XC.sr ?_
    refine XO.openRow (.t8 .here) (by omega) ?_
    intro g2 hg2
    rw [hg2]
    refine XO.mv rfl rfl ?_
    refine XO.mv rfl rfl ?_
    refine XO.v (V.sub rfl rfl _ (IntWalk.i64_in _ (by omega))) rfl ?_
    refine XO.v (V.indexSl rfl rfl sl_135 (by omega)) rfl ?_
    refine XO.v (V.loadFA rfl (inXM (.t8 .here)) (wC_ld x.1 _ ⟨by omega, by omega⟩) ag_56 sz_56_2) rfl ?_
    refine XO.storeAgg rfl rfl (.t7 .here) (encW.st _ _) ⟨rfl, rfl⟩ sz_56_2 ?_
    refine XO.nk [(0, _), (1, _), (4, _), (6, _), (7, _), (8, _), (9, _)] (S7 rfl rfl rfl rfl rfl rfl rfl) ?_
    refine XC.region ?_
    refine XO.mv rfl rfl ?_
    refine XO.mv rfl rfl ?_
    refine XO.v (V.sub rfl rfl _ (IntWalk.i64_in _ (by omega))) rfl ?_
    refine XO.rowLen (.t8 .here) ?_
    intro hcap
    refine XO.cutRow (k2 := x.1.length - 1) (C' := wC (x.1.take (x.1.length - 1))) rfl rfl Tryz.underlying135 sz_56_2 (by omega) (by omega) hcap (fun i hi => wC_take x.1 _ i hi) (.t8 .here) rfl ?_
    refine XO.as rfl rfl ?_
    refine XO.nk [(0, _), (1, _), (4, _), (6, _), (7, _), (8, _)] (S6 rfl rfl rfl rfl rfl rfl) ?_
    refine XC.exit ?_
    refine XE.thenExit ?_
    refine XE.blockExit ?_
    refine XE.next ?_
    refine XC.keep [(0, _), (1, _), (4, _), (6, _), (7, _), (8, _)] (S6 rfl rfl rfl rfl rfl rfl) ?_
    refine XC.region ?_
    refine XO.mv rfl rfl ?_
    refine XO.v (V.add rfl rfl _ (IntWalk.i64_in _ (by omega))) rfl ?_
    refine XO.as rfl rfl ?_
    refine XO.nil ?_
    refine XE.again ((x.1.take (x.1.length - 1), last x.1, some ⟨g2, 0, none⟩, x.2.2.2.1, x.2.2.2.2 + 1)) ?_ ?_ (Sub.cons (by show lk _ _ = some (Value.slice _ (x.1.take (x.1.length - 1)).length _); rw [hlt]; rfl) (S5 rfl rfl rfl rfl rfl)) (fun _ hw => by show XM _ _ [_, _, _, _, _, _, _, _, Ent.row (.slice _ (x.1.take (x.1.length - 1)).length _) _ _ (x.1.take (x.1.length - 1)).length _] _; rw [hlt]; exact XM.pick .h9 hw)
    ·
     (simp; omega)
    ·
     refine ⟨?_, ⟨by simp; omega, by simp; omega⟩, by simp; omega⟩
     rw [← hwk, wk_up (way := x.1 ++ [x.2.1]) hdr hdd (by rw [hla]; omega), take_snoc1]
     exact congrArg (fun w => wk s.toFF l w _) (way_last (by omega))
   ·
    refine XC.skip ?_
    refine XE.next ?_
    refine XC.keep [(0, _), (1, _), (4, _), (6, _), (7, _), (8, _)] (S6 rfl rfl rfl rfl rfl rfl) ?_
    refine XC.exit ?_
    refine XE.thenExit ?_
    refine XE.blockExit ?_
    refine XE.next ?_
    refine XC.keep [(0, _), (1, _), (4, _), (6, _), (7, _), (8, _)] (S6 rfl rfl rfl rfl rfl rfl) ?_
    refine XC.region ?_
    refine XO.mv rfl rfl ?_
    refine XO.v (V.add rfl rfl _ (IntWalk.i64_in _ (by omega))) rfl ?_
    refine XO.as rfl rfl ?_
    refine XO.nil ?_
    refine XE.again ((x.1, x.2.1, x.2.2.1, x.2.2.2.1, x.2.2.2.2 + 1)) ?_ ?_ (S6 rfl rfl rfl rfl rfl rfl) (fun _ hw => XM.pick .h9 hw)
    ·
     (simp; omega)
    ·
     refine ⟨?_, ⟨by simp; omega, by simp; omega⟩, by simp; omega⟩
     rw [← hwk]; exact (wk_stay (way := x.1 ++ [x.2.1]) hdr hdd (by rw [hla]; omega)).symm
  ·
   have hdd : ¬ sat0 ns x.2.2.2.2 = dd := by assumption
   refine XC.skip ?_
   refine XE.next ?_
   refine XC.keep [(0, _), (1, _), (4, _), (6, _), (7, _), (8, _)] (S6 rfl rfl rfl rfl rfl rfl) ?_
   refine XC.seq ?_
   refine XC.regionQ mixed (f := 16) (l := #[false, false, false, false, false, false, false, false, false, false, false, false, false, false, false, false]) rfl rfl XM.drawn' ?_
   refine XQ.pv (i := 0) (l' := #[tt,ff,ff,ff,ff,ff,ff,ff,ff,ff,ff,ff,ff,ff,ff,ff]) rfl (by kernel_rfl) rfl (V.move rfl) rfl rfl ?_
   refine XQ.pv (i := 1) (l' := #[tt,tt,ff,ff,ff,ff,ff,ff,ff,ff,ff,ff,ff,ff,ff,ff]) rfl (by kernel_rfl) rfl (V.nilCheckP rfl) rfl rfl ?_
   refine XQ.pv (i := 2) (l' := #[tt,tt,tt,ff,ff,ff,ff,ff,ff,ff,ff,ff,ff,ff,ff,ff]) rfl (by kernel_rfl) rfl (V.fieldAddr rfl fo_60_0) rfl rfl ?_
   refine XQ.load (i := 3) (l' := #[tt,tt,tt,tt,ff,ff,ff,ff,ff,ff,ff,ff,ff,ff,ff,ff]) (.cells _ _ _ _) [10] rfl (by kernel_rfl) rfl .here (V.load rfl inEnt (encT.ld0 _ _) sc_27) rfl (by kernel_rfl) rfl ?_
   refine XQ.pv (i := 4) (l' := #[tt,tt,tt,tt,tt,ff,ff,ff,ff,ff,ff,ff,ff,ff,ff,ff]) rfl (by kernel_rfl) rfl (V.fieldAddr rfl fo_56_1) rfl rfl ?_
   refine XQ.load (i := 5) (l' := #[tt,tt,tt,tt,tt,tt,ff,ff,ff,ff,ff,ff,ff,ff,ff,ff]) (.cells _ _ _ _) [10] rfl (by kernel_rfl) rfl (.t7 .here) (V.load rfl inEnt (encW.ld1 _) sc_3) rfl (by kernel_rfl) rfl ?_
   refine XQ.pv (i := 6) (l' := #[tt,tt,tt,tt,tt,tt,tt,ff,ff,ff,ff,ff,ff,ff,ff,ff]) rfl (by kernel_rfl) rfl (V.move rfl) rfl rfl ?_
   refine XQ.pv (i := 7) (l' := #[tt,tt,tt,tt,tt,tt,tt,tt,ff,ff,ff,ff,ff,ff,ff,ff]) rfl (by kernel_rfl) rfl (V.move rfl) rfl rfl ?_
   refine XQ.pv (i := 8) (l' := #[tt,tt,tt,tt,tt,tt,tt,tt,tt,ff,ff,ff,ff,ff,ff,ff]) rfl (by kernel_rfl) rfl (V.indexSl rfl rfl sl_28 (by omega)) rfl rfl ?_
   refine XQ.load (i := 9) (l' := #[tt,tt,tt,tt,tt,tt,tt,tt,tt,tt,ff,ff,ff,ff,ff,ff]) (.row _ _ _ _ _) [10] rfl (by kernel_rfl) rfl (.t5 .here) (V.loadRow rfl inEnt (strs_at (by omega)) sc_9) rfl (by kernel_rfl) rfl ?_
   refine XQ.call (i := 10) (l' := #[tt,tt,tt,tt,tt,tt,tt,tt,tt,tt,tt,ff,ff,ff,ff,ff]) rfl (by kernel_rfl) rfl rfl (r_Find _ _ _ hI _ _) (.cons (.t2 .here) (.cons (.t2 .here) (.cons (.t2 .here) .nil))) cl_39 rfl (by rintro _ _ ⟨rfl, rfl⟩; all_goals (intro _ hw'; exact ⟨fun hs => (hs 10 (by first | (simp; done) | (simp; rfl)) rfl).elim, fun hs => (hs 10 (by first | (simp; done) | (simp; rfl)) rfl).elim, fun hs => (hs 10 (by first | (simp; done) | (simp; rfl)) rfl).elim, trivial⟩)) ?_
   rintro _ _ ⟨rfl, rfl⟩
   refine XQ.pv (i := 11) (l' := #[tt,tt,tt,tt,tt,tt,tt,tt,tt,tt,tt,tt,ff,ff,ff,ff]) rfl (by kernel_rfl) rfl (V.move rfl) rfl rfl ?_
   refine XQ.pv (i := 12) (l' := #[tt,tt,tt,tt,tt,tt,tt,tt,tt,tt,tt,tt,tt,ff,ff,ff]) rfl (by kernel_rfl) rfl (V.extract rfl rfl) rfl rfl ?_
   refine XQ.pv (i := 13) (l' := #[tt,tt,tt,tt,tt,tt,tt,tt,tt,tt,tt,tt,tt,tt,ff,ff]) rfl (by kernel_rfl) rfl (V.extract rfl rfl) rfl rfl ?_
   refine XQ.pv (i := 14) (l' := #[tt,tt,tt,tt,tt,tt,tt,tt,tt,tt,tt,tt,tt,tt,tt,ff]) rfl (by kernel_rfl) rfl (V.assign rfl) rfl rfl ?_
   refine XQ.pv (i := 15) (l' := #[tt,tt,tt,tt,tt,tt,tt,tt,tt,tt,tt,tt,tt,tt,tt,tt]) rfl (by kernel_rfl) rfl (V.assign rfl) rfl rfl ?_
   refine XQ.done (by kernel_rfl) ?_
   refine XE.next ?_
   refine XC.keep [(0, _), (1, _), (4, _), (6, _), (7, _), (8, _), (10, _), (11, _)] (S8 rfl rfl rfl rfl rfl rfl rfl rfl) ?_
   refine XC.seq ?_
   refine XC.sr ?_
   refine XO.mv rfl rfl ?_
   refine XO.v (V.cmp rfl rfl rfl) rfl ?_
   refine XO.nk [(0, _), (1, _), (4, _), (6, _), (7, _), (8, _), (10, _), (11, _), (57, _)] (Sub.cons rfl (S8 rfl rfl rfl rfl rfl rfl rfl rfl)) ?_
   refine XC.condP rfl (fun h4 => ?_) (fun h4 => ?_)
   ·
    have hfe : ¬ s.toFF.findE x.2.1.node (sat0 ns x.2.2.2.2) = 0 := by omega
    refine XC.sr ?_
    refine XO.v (V.build (vs := #[]) rfl (v := .agg (WH.arr WH.nil)) (fun _ => by kernel_rfl)) rfl ?_
    refine XO.mv rfl rfl ?_
    refine XO.storeAgg rfl rfl (.t6 .here) (encW.st _ _) ⟨rfl, rfl⟩ sz_56_2 ?_
    refine XO.as rfl rfl ?_
    refine XO.nk [(4, _), (5, _)] (S2 rfl rfl) ?_
    refine XC.ret ?_
    refine XE.thenRet ?_
    refine XE.blockRet ?_
    refine XE.thenRet ?_
    refine XE.thenRet ?_
    refine XE.blockRet ?_
    refine XE.thenRet ?_
    refine XE.retG2 rfl (.agg rfl (.t6 .here) (encW.agg _) ag_56 sz_56_2) (.tmp rfl) (post_of (.cons (.t3 .here) (.cons (.t3 .here) .h4)) rfl ?_)
    have e : led s.toFF l r (ns.take n) = (s.toFF.findE x.2.1.node (sat0 ns x.2.2.2.2), WH.nil) := by rw [← hwk, wk_err (way := x.1 ++ [x.2.1]) hdr hdd (by rw [last_snoc]; exact hfe), last_snoc]
    exact ⟨by rw [e], rfl⟩
   ·
    have hfe : s.toFF.findE x.2.1.node (sat0 ns x.2.2.2.2) = 0 := by have := FF.findE_nn s.toFF x.2.1.node (sat0 ns x.2.2.2.2); omega
    refine XC.skip ?_
    refine XE.next ?_
    refine XC.keep [(0, _), (1, _), (4, _), (6, _), (7, _), (8, _), (10, _)] (S7 rfl rfl rfl rfl rfl rfl rfl) ?_
    refine XC.sr ?_
    refine XO.mv rfl rfl ?_
    refine XO.v (V.loadAgg rfl (inXM (.t7 .here)) (encW.agg _) ag_56 sz_56_2) rfl ?_
    refine XO.buildSlice (e := 56) (vs := #[(0, .agg (WH.arr x.2.1))]) (A := #[.int .i64 x.2.1.tree, .int .i64 x.2.1.node]) rfl (fun _ => by kernel_rfl) rfl rfl ?_
    intro h5
    refine XO.appendF (e := 56) (C2 := wC (x.1 ++ [x.2.1])) rfl rfl Tryz.underlying135 rt_56_2 (.t9 .here) .here rfl rfl (by omega) (by omega) (fun i hi => wC_app x.1 _ _ (encW.box _) i hi) rfl ?_
    intro pw2 cw2
    refine XO.as rfl rfl ?_
    refine XO.nk [(0, _), (1, _), (4, _), (6, _), (7, _), (8, _), (10, _)] (S7 rfl rfl rfl rfl rfl rfl rfl) ?_
    refine XC.region ?_
    refine XO.mv rfl rfl ?_
    refine XO.v (V.fieldAddr rfl fo_56_0) rfl ?_
    refine XO.v (V.load rfl (inXM (.t9 .here)) (encW.ld0 _) sc_3) rfl ?_
    refine XO.mv rfl rfl ?_
    refine XO.v (V.build (vs := #[(0, .int .i64 x.2.1.tree), (1, .int .i64 (s.toFF.findV x.2.1.node (sat0 ns x.2.2.2.2)))]) rfl (v := .agg (WH.arr ⟨x.2.1.tree, s.toFF.findV x.2.1.node (sat0 ns x.2.2.2.2)⟩)) (fun _ => by kernel_rfl)) rfl ?_
    refine XO.call rfl (u_seen _ _ _ _ _ _ _ _ _ hv hC hm6 _) (.cons (.t5 .here) (.cons (.t5 .here) .nil)) cl_97 rfl ?_
    rintro _ _ ⟨rfl, rfl⟩
    refine XO.storeAgg rfl rfl (.t9 .here) (encW.st _ _) ⟨rfl, rfl⟩ sz_56_2 ?_
    refine XO.nil ?_
    refine XE.blockNormal ?_
    refine XE.next ?_
    refine XC.keep [(0, _), (1, _), (4, _), (6, _), (7, _), (8, _)] (S6 rfl rfl rfl rfl rfl rfl) ?_
    refine XC.region ?_
    refine XO.mv rfl rfl ?_
    refine XO.v (V.add rfl rfl _ (IntWalk.i64_in _ (by omega))) rfl ?_
    refine XO.as rfl rfl ?_
    refine XO.nil ?_
    refine XE.again ((x.1 ++ [x.2.1], over l ⟨x.2.1.tree, s.toFF.findV x.2.1.node (sat0 ns x.2.2.2.2)⟩, pw2, cw2, x.2.2.2.2 + 1)) ?_ ?_ (Sub.cons (by show lk _ _ = some (Value.slice _ (x.1 ++ [x.2.1]).length _); rw [hla]; rfl) (S5 rfl rfl rfl rfl rfl)) (fun _ hw => by show XM _ _ [_, _, _, _, _, _, _, _, Ent.row (.slice _ (x.1 ++ [x.2.1]).length _) _ _ (x.1 ++ [x.2.1]).length _] _; rw [hla]; exact XM.pick (.cons .here (.cons .here (.cons (.t2 .here) (.cons (.t2 .here) (.cons (.t2 .here) (.cons (.t2 .here) (.cons (.t2 .here) (.cons (.t2 .here) .h1)))))))) hw)
    ·
     (simp; omega)
    ·
     refine ⟨?_, ⟨by simp; omega, by simp; omega⟩, by simp; omega⟩
     rw [← hwk, wk_step (way := x.1 ++ [x.2.1]) hdr hdd (by rw [last_snoc]; exact hfe), last_snoc]
 ·
  refine XC.exit ?_
  refine XE.thenExit ?_
  refine XE.thenExit ?_
  refine XE.blockExit ?_
  refine XE.next ?_
  refine XC.keep [(4, _), (7, _)] (S2 rfl rfl) ?_
  refine XC.sr ?_
  refine XO.v (V.loadAgg rfl (inXM (.t7 .here)) (encW.agg _) ag_56 sz_56_2) rfl ?_
  refine XO.storeAgg rfl rfl (.t6 .here) (encW.st _ _) ⟨rfl, rfl⟩ sz_56_2 ?_
  refine XO.as rfl rfl ?_
  refine XO.nk [(4, _), (5, _)] (S2 rfl rfl) ?_
  refine XC.ret ?_
  refine XE.retG2 rfl (.agg rfl (.t6 .here) (encW.agg _) ag_56 sz_56_2) (.tmp rfl) (post_of .h6 rfl ?_)
  have ei : x.2.2.2.2 = n := by omega
  have e : led s.toFF l r (ns.take n) = (0, x.2.1) := by rw [← hwk, ei, wk_end hn, last_snoc]
  exact ⟨by rw [e], rfl⟩
end Go.X
