import Derived.Test.YtmklfkjfgjagaaaGreatDoorXShort
import Derived.Test.YtmklfkjfgjagaaaGreatDoorYKW
namespace Go.X
open Go Go.Proofs
theorem cl_92 : callable Tryz.prog 92 = true := by kernel_rfl
theorem fo_56_0 : fieldOff Tryz.prog 56 0 = some 0 := by kernel_rfl
theorem fo_56_1 : fieldOff Tryz.prog 56 1 = some 1 := by kernel_rfl
theorem fo_75_0 : fieldOff Tryz.prog 75 0 = some 0 := by kernel_rfl
theorem fo_75_1 : fieldOff Tryz.prog 75 1 = some 1 := by kernel_rfl
theorem rt_56_2 : rowT Tryz.prog 56 2 = true := by kernel_rfl
theorem sc_25 : scal Tryz.prog 25 = true := by kernel_rfl
theorem sl_135 : sliceOf Tryz.prog 135 = some (56, 2) := by kernel_rfl
set_option maxRecDepth 10000 in
set_option maxHeartbeats 4000000 in
theorem m_walk (bt bf : Nat) (r : WH) (l : List MT) (p : Option Addr) (cap k c : Nat) (C : Nat → Value) (hv : RV.ok ⟨p, cap, k, l.length, c, C⟩) (hC : MC C l) (hm6 : l.length ≤ 6) (s : FC) (hI : s.toFF.Sh) (q : Option Addr) (cq : Nat) (ns : List ByteArray) (n : Nat) (hn : n ≤ ns.length) (hn6 : ns.length ≤ 1000000) : Spec Tryz.prog 70 [ptr bt 0 0, .slice q n cq]
    [.cells bt 0 4 (encT bf r (.slice p l.length c)), frow p cap 98 4 k C, .cells bf 0 321 (encF s), .fam fam40 (FC.rowsN 9 s), .fam fam40 (FC.rowsK 3 s), srow q cq 9 ns]
    (fun v H1 => v = .tuple #[.agg (WH.arr (led s.toFF l r (ns.take n)).2), errv 76 (led s.toFF l r (ns.take n)).1] ∧ H1 = [.cells bt 0 4 (encT bf r (.slice p l.length c)), frow p cap 98 4 k C, .cells bf 0 321 (encF s), .fam fam40 (FC.rowsN 9 s), .fam fam40 (FC.rowsK 3 s), srow q cq 9 ns]) := by
 have hlk := RV.ok_le hv
 have hlk : l.length ≤ k := hlk
 refine Spec.intro Tryz.func70 rfl rfl ?_
 intro W
 refine XC.sr ?_
 refine XO.allocZ (z := .agg (WH.arr WH.nil)) (m := 2) (C := encW WH.nil) (by kernel_rfl) rfl (encW.box _) rfl ?_
 intro br
 refine XO.as rfl rfl ?_
 refine XO.nk [(0, _), (1, _), (4, _)] (S3 rfl rfl rfl) ?_
 refine XC.sr ?_
 refine XO.mv rfl rfl ?_
 refine XO.mv rfl rfl ?_
 refine XO.v (V.nilCheckP rfl) rfl ?_
 refine XO.v (V.fieldAddr rfl fo_75_1) rfl ?_
 refine XO.v (V.loadAgg rfl (inXM (.there .here)) (encT.ld1 _ _) ag_56 sz_56_2) rfl ?_
 refine XO.call rfl (m_over _ _ _ _ _ _ _ _ _ hv hC hm6 _) (.cons (.there .here) (.cons (.there .here) .nil)) cl_92 rfl ?_
 rintro _ _ ⟨rfl, rfl⟩
 refine XO.buildRow (e := 56) (vs := #[(0, .agg (WH.arr (over l r)))]) (A := #[.int .i64 (over l r).tree, .int .i64 (over l r).node]) (sz := 2) rfl (fun _ => by kernel_rfl) rfl (by omega) rfl ?_
 intro bw
 refine XO.as rfl rfl ?_
 refine XO.nk [(0, _), (1, _), (4, _), (6, _)] (S4 rfl rfl rfl rfl) ?_
 refine XC.seq ?_
 refine XC.sr ?_
 refine XO.mv rfl rfl ?_
 refine XO.v (V.lenSl rfl Tryz.underlying28) rfl ?_
 refine XO.mv rfl rfl ?_
 refine XO.nk [(0, _), (4, _), (6, _), (19, _), (20, _), (21, _)] (S6 rfl rfl rfl rfl rfl rfl) ?_
 refine XC.block ?_
 refine XC.loop (σ := List WH × Option Addr × Nat × Int) (fun x => (n - x.2.2.2).toNat) (fun x => wk s.toFF l x.1 ((ns.take n).drop x.2.2.2.toNat) = led s.toFF l r (ns.take n) ∧ (0 ≤ x.2.2.2 ∧ x.2.2.2 ≤ n) ∧ 1 ≤ x.1.length ∧ x.1.length ≤ x.2.2.2 + 1) (fun x => [(6, .slice x.2.1 x.1.length x.2.2.1), (21, .int .i64 x.2.2.2), (0, ptr bt 0 0), (4, ptr br 0 0), (19, .slice q n cq), (20, .int .i64 n)]) (fun x => XM W (foot [.cells bt 0 4 (encT bf r (.slice p l.length c)), frow p cap 98 4 k C, .cells bf 0 321 (encF s), .fam fam40 (FC.rowsN 9 s), .fam fam40 (FC.rowsK 3 s), srow q cq 9 ns]) [.cells bt 0 4 (encT bf r (.slice p l.length c)), frow p cap 98 4 k C, .cells bf 0 321 (encF s), .fam fam40 (FC.rowsN 9 s), .fam fam40 (FC.rowsK 3 s), srow q cq 9 ns, .cells br 0 2 (encW WH.nil), frow x.2.1 x.2.2.1 56 2 x.1.length (wC x.1)]) (([over l r], some ⟨bw, 0, none⟩, 1, 0)) ?_ (S6 rfl rfl rfl rfl rfl rfl) (fun _ hw => by rw [way1] at hw; exact XM.pick (.cons (.there .here) (.cons (.there .here) (.cons (.t2 .here) (.cons (.t2 .here) (.cons (.t2 .here) (.cons (.t2 .here) (.cons (.there .here) .h1))))))) hw) ?_
 ·
  exact ⟨rfl, ⟨by simp, by simp⟩, by simp, by simp⟩
 intro x hx
 obtain ⟨hwk, ⟨hi0, hi1⟩, hl1, hl2⟩ := hx
 have hla : ∀ a : WH, (x.1 ++ [a]).length = x.1.length + 1 := fun a => by simp
 refine XC.sr ?_
 refine XO.v (V.cmp rfl rfl rfl) rfl ?_
 refine XO.nk [(0, _), (4, _), (6, _), (19, _), (20, _), (21, _), (22, _)] (S7 rfl rfl rfl rfl rfl rfl rfl) ?_
 refine XC.seq ?_
 refine XC.condP rfl (fun h2 => ?_) (fun h2 => ?_)
 ·
  refine XC.skip ?_
  refine XE.next ?_
  refine XC.keep [(0, _), (4, _), (6, _), (19, _), (20, _), (21, _)] (S6 rfl rfl rfl rfl rfl rfl) ?_
  refine XC.seq ?_
  refine XC.block ?_
  refine XC.sr ?_
  refine XO.openRow (.t5 .here) (by show 0 < ns.length; omega) ?_
  intro g hg
  subst hg
  refine XO.v (V.indexSl rfl rfl sl_28 (by omega)) rfl ?_
  refine XO.v (V.loadRow rfl (inXM (.t5 .here)) (strs_at (by omega)) sc_9) rfl ?_
  refine XO.as rfl rfl ?_
  refine XO.nk [(0, _), (4, _), (6, _), (8, _), (19, _), (20, _), (21, _)] (S7 rfl rfl rfl rfl rfl rfl rfl) ?_
  refine XC.sr ?_
  refine XO.openRow (.t7 .here) (by omega) ?_
  intro g2 hg2
  rw [hg2]
  refine XO.mv rfl rfl ?_
  refine XO.mv rfl rfl ?_
  refine XO.v (V.lenSl rfl Tryz.underlying135) rfl ?_
  refine XO.v (V.sub rfl rfl _ (IntWalk.i64_in _ (by omega))) rfl ?_
  refine XO.v (V.indexSl rfl rfl sl_135 (by omega)) rfl ?_
  refine XO.v (V.loadFA rfl (inXM (.t7 .here)) (wC_ld x.1 _ ⟨by omega, by omega⟩) ag_56 sz_56_2) rfl ?_
  refine XO.allocZ (z := .agg (WH.arr WH.nil)) (m := 2) (C := encW WH.nil) (by kernel_rfl) rfl (encW.box _) rfl ?_
  intro ba
  refine XO.storeAgg rfl rfl .here (encW.st _ _) ⟨rfl, rfl⟩ sz_56_2 ?_
  refine XO.nk [(0, _), (4, _), (6, _), (8, _), (9, _), (19, _), (20, _), (21, _)] (S8 rfl rfl rfl rfl rfl rfl rfl rfl) ?_
  refine XC.seq ?_
  refine XC.sr ?_
  have hdr := take_drop (ns := ns) (n := n) hn (i := x.2.2.2) ⟨by omega, by omega⟩
  refine XO.mv rfl rfl ?_
  refine XO.v (V.strCmp rfl rfl rfl) rfl ?_
  refine XO.nk [(0, _), (4, _), (6, _), (8, _), (9, _), (19, _), (20, _), (21, _), (32, _)] (Sub.cons rfl (S8 rfl rfl rfl rfl rfl rfl rfl rfl)) ?_
  refine XC.condP rfl (fun h3 => ?_) (fun h3 => ?_)
  ·
   have hdd : sat0 ns x.2.2.2 = dd := by assumption
   refine XC.seq ?_
   refine XC.sr ?_
   refine XO.mv rfl rfl ?_
   refine XO.v (V.lenSl rfl Tryz.underlying135) rfl ?_
   refine XO.v (V.cmp rfl rfl rfl) rfl ?_
   refine XO.nk [(0, _), (4, _), (6, _), (19, _), (20, _), (21, _), (35, _)] (S7 rfl rfl rfl rfl rfl rfl rfl) ?_
   refine XC.condP rfl (fun h4 => ?_) (fun h4 => ?_)
   ·
    have hlt : (x.1.take (x.1.length - 1)).length = x.1.length - 1 := by simp
    refine XC.region ?_
    refine XO.mv rfl rfl ?_
    refine XO.mv rfl rfl ?_
    refine XO.v (V.lenSl rfl Tryz.underlying135) rfl ?_
    refine XO.v (V.sub rfl rfl _ (IntWalk.i64_in _ (by omega))) rfl ?_
    refine XO.rowLen (.t8 .here) ?_
    intro hcap
    refine XO.cutRow (k2 := x.1.length - 1) (C' := wC (x.1.take (x.1.length - 1))) rfl rfl Tryz.underlying135 sz_56_2 (by omega) (by omega) hcap (fun i hi => wC_take x.1 _ i hi) (.t8 .here) rfl ?_
    refine XO.as rfl rfl ?_
    refine XO.nk [(0, _), (4, _), (6, _), (19, _), (20, _), (21, _)] (S6 rfl rfl rfl rfl rfl rfl) ?_
    refine XC.exit ?_
    refine XE.thenExit ?_
    refine XE.blockExit ?_
    refine XE.next ?_
    refine XC.keep [(0, _), (4, _), (6, _), (19, _), (20, _), (21, _)] (S6 rfl rfl rfl rfl rfl rfl) ?_
    refine XC.region ?_
    refine XO.v (V.add rfl rfl _ (IntWalk.i64_in _ (by omega))) rfl ?_
    refine XO.mv rfl rfl ?_
    refine XO.nil ?_
    refine XE.again ((x.1.take (x.1.length - 1), some ⟨g2, 0, none⟩, x.2.2.1, x.2.2.2 + 1)) ?_ ?_ (Sub.cons (by show lk _ _ = some (Value.slice _ (x.1.take (x.1.length - 1)).length _); rw [hlt]; rfl) (S5 rfl rfl rfl rfl rfl)) (fun _ hw => by show XM _ _ [_, _, _, _, _, _, _, Ent.row (.slice _ (x.1.take (x.1.length - 1)).length _) _ _ (x.1.take (x.1.length - 1)).length _] _; rw [hlt]; exact XM.pick (.cons (.there .here) (.cons (.there .here) (.cons (.there .here) (.cons (.there .here) (.cons (.there .here) (.cons (.there .here) (.cons (.there .here) (.cons (.there .here) .nil)))))))) hw)
    ·
     (simp; omega)
    ·
     refine ⟨?_, ⟨by simp; omega, by simp; omega⟩, by simp; omega, by simp; omega⟩
     rw [← hwk]; exact (wk_up (way := x.1) hdr hdd (by omega)).symm
   ·
    refine XC.skip ?_
    refine XE.next ?_
    refine XC.keep [(0, _), (4, _), (6, _), (19, _), (20, _), (21, _)] (S6 rfl rfl rfl rfl rfl rfl) ?_
    refine XC.exit ?_
    refine XE.thenExit ?_
    refine XE.blockExit ?_
    refine XE.next ?_
    refine XC.keep [(0, _), (4, _), (6, _), (19, _), (20, _), (21, _)] (S6 rfl rfl rfl rfl rfl rfl) ?_
    refine XC.region ?_
    refine XO.v (V.add rfl rfl _ (IntWalk.i64_in _ (by omega))) rfl ?_
    refine XO.mv rfl rfl ?_
    refine XO.nil ?_
    refine XE.again ((x.1, some ⟨g2, 0, none⟩, x.2.2.1, x.2.2.2 + 1)) ?_ ?_ (S6 rfl rfl rfl rfl rfl rfl) (fun _ hw => XM.pick (.cons (.there .here) (.cons (.there .here) (.cons (.there .here) (.cons (.there .here) (.cons (.there .here) (.cons (.there .here) (.cons (.there .here) (.cons (.there .here) .nil)))))))) hw)
    ·
     (simp; omega)
    ·
     refine ⟨?_, ⟨by simp; omega, by simp; omega⟩, by simp; omega, by simp; omega⟩
     rw [← hwk]; exact (wk_stay (way := x.1) hdr hdd (by omega)).symm
  ·
   have hdd : ¬ sat0 ns x.2.2.2 = dd := by assumption
   refine XC.skip ?_
   refine XE.next ?_
   refine XC.keep [(0, _), (4, _), (6, _), (8, _), (9, _), (19, _), (20, _), (21, _)] (S8 rfl rfl rfl rfl rfl rfl rfl rfl) ?_
   refine XC.seq ?_
   refine XC.regionQ mixed (f := 13) (l := #[false, false, false, false, false, false, false, false, false, false, false, false, false]) rfl rfl XM.drawn' ?_
   refine XQ.pv (i := 0) (l' := #[tt,ff,ff,ff,ff,ff,ff,ff,ff,ff,ff,ff,ff]) rfl (by kernel_rfl) rfl (V.move rfl) rfl rfl ?_
   refine XQ.pv (i := 1) (l' := #[tt,tt,ff,ff,ff,ff,ff,ff,ff,ff,ff,ff,ff]) rfl (by kernel_rfl) rfl (V.nilCheckP rfl) rfl rfl ?_
   refine XQ.pv (i := 2) (l' := #[tt,tt,tt,ff,ff,ff,ff,ff,ff,ff,ff,ff,ff]) rfl (by kernel_rfl) rfl (V.fieldAddr rfl fo_75_0) rfl rfl ?_
   refine XQ.load (i := 3) (l' := #[tt,tt,tt,tt,ff,ff,ff,ff,ff,ff,ff,ff,ff]) (.cells _ _ _ _) [7] rfl (by kernel_rfl) rfl (.there .here) (V.load rfl inEnt (encT.ld0 _ _) sc_25) rfl (by kernel_rfl) rfl ?_
   refine XQ.pv (i := 4) (l' := #[tt,tt,tt,tt,tt,ff,ff,ff,ff,ff,ff,ff,ff]) rfl (by kernel_rfl) rfl (V.fieldAddr rfl fo_56_1) rfl rfl ?_
   refine XQ.load (i := 5) (l' := #[tt,tt,tt,tt,tt,tt,ff,ff,ff,ff,ff,ff,ff]) (.cells _ _ _ _) [7] rfl (by kernel_rfl) rfl .here (V.load rfl inEnt (encW.ld1 _) sc_3) rfl (by kernel_rfl) rfl ?_
   refine XQ.pv (i := 6) (l' := #[tt,tt,tt,tt,tt,tt,tt,ff,ff,ff,ff,ff,ff]) rfl (by kernel_rfl) rfl (V.move rfl) rfl rfl ?_
   refine XQ.call (i := 7) (l' := #[tt,tt,tt,tt,tt,tt,tt,tt,ff,ff,ff,ff,ff]) rfl (by kernel_rfl) rfl rfl (t_Find _ _ _ hI _ _) (.cons (.t3 .here) (.cons (.t3 .here) (.cons (.t3 .here) .nil))) cl_38 rfl (by rintro _ _ ⟨rfl, rfl⟩; all_goals (intro _ hw'; exact ⟨fun hs => (hs 7 (by first | (simp; done) | (simp; rfl)) rfl).elim, fun hs => (hs 7 (by first | (simp; done) | (simp; rfl)) rfl).elim, trivial⟩)) ?_
   rintro _ _ ⟨rfl, rfl⟩
   refine XQ.pv (i := 8) (l' := #[tt,tt,tt,tt,tt,tt,tt,tt,tt,ff,ff,ff,ff]) rfl (by kernel_rfl) rfl (V.move rfl) rfl rfl ?_
   refine XQ.pv (i := 9) (l' := #[tt,tt,tt,tt,tt,tt,tt,tt,tt,tt,ff,ff,ff]) rfl (by kernel_rfl) rfl (V.extract rfl rfl) rfl rfl ?_
   refine XQ.pv (i := 10) (l' := #[tt,tt,tt,tt,tt,tt,tt,tt,tt,tt,tt,ff,ff]) rfl (by kernel_rfl) rfl (V.extract rfl rfl) rfl rfl ?_
   refine XQ.pv (i := 11) (l' := #[tt,tt,tt,tt,tt,tt,tt,tt,tt,tt,tt,tt,ff]) rfl (by kernel_rfl) rfl (V.assign rfl) rfl rfl ?_
   refine XQ.pv (i := 12) (l' := #[tt,tt,tt,tt,tt,tt,tt,tt,tt,tt,tt,tt,tt]) rfl (by kernel_rfl) rfl (V.assign rfl) rfl rfl ?_
   refine XQ.done (by kernel_rfl) ?_
   refine XE.next ?_
   refine XC.keep [(0, _), (4, _), (6, _), (9, _), (10, _), (11, _), (19, _), (20, _), (21, _)] (Sub.cons rfl (S8 rfl rfl rfl rfl rfl rfl rfl rfl)) ?_
   refine XC.seq ?_
   refine XC.sr ?_
   refine XO.mv rfl rfl ?_
   refine XO.v (V.errNil rfl Tryz.underlying37 rfl) rfl ?_
   refine XO.nk [(0, _), (4, _), (6, _), (9, _), (10, _), (11, _), (19, _), (20, _), (21, _), (53, _)] (Sub.cons rfl (Sub.cons rfl (S8 rfl rfl rfl rfl rfl rfl rfl rfl))) ?_
   refine XC.condP rfl (fun h5 => ?_) (fun h5 => ?_)
   ·
    have hfe : ¬ s.toFF.findE (last x.1).node (sat0 ns x.2.2.2) = 0 := by assumption
    refine XC.sr ?_
    refine XO.v (V.build (vs := #[]) rfl (v := .agg (WH.arr WH.nil)) (fun _ => by kernel_rfl)) rfl ?_
    refine XO.mv rfl rfl ?_
    refine XO.storeAgg rfl rfl (.t7 .here) (encW.st _ _) ⟨rfl, rfl⟩ sz_56_2 ?_
    refine XO.as rfl rfl ?_
    refine XO.nk [(4, _), (5, _)] (S2 rfl rfl) ?_
    refine XC.ret ?_
    refine XE.thenRet ?_
    refine XE.blockRet ?_
    refine XE.thenRet ?_
    refine XE.thenRet ?_
    refine XE.blockRet ?_
    refine XE.thenRet ?_
    refine XE.retG2 rfl (.agg rfl (.t7 .here) (encW.agg _) ag_56 sz_56_2) (.tmp rfl) (post_of (.cons (.t4 .here) (.cons (.t4 .here) (.cons .here (.cons .here (.cons .here (.cons (.there .here) .nil)))))) rfl ?_)
    have e : led s.toFF l r (ns.take n) = (s.toFF.findE (last x.1).node (sat0 ns x.2.2.2), WH.nil) := by rw [← hwk]; exact wk_err hdr hdd hfe
    exact ⟨by rw [e]; rfl, rfl⟩
   ·
    have hfe : s.toFF.findE (last x.1).node (sat0 ns x.2.2.2) = 0 := Decidable.byContradiction (by assumption)
    refine XC.skip ?_
    refine XE.next ?_
    refine XC.keep [(0, _), (4, _), (6, _), (9, _), (10, _), (19, _), (20, _), (21, _)] (S8 rfl rfl rfl rfl rfl rfl rfl rfl) ?_
    refine XC.region ?_
    refine XO.mv rfl rfl ?_
    refine XO.mv rfl rfl ?_
    refine XO.v (V.fieldAddr rfl fo_56_0) rfl ?_
    refine XO.v (V.load rfl (inXM (.t3 .here)) (encW.ld0 _) sc_3) rfl ?_
    refine XO.mv rfl rfl ?_
    refine XO.v (V.build (vs := #[(0, .int .i64 (last x.1).tree), (1, .int .i64 (s.toFF.findV (last x.1).node (sat0 ns x.2.2.2)))]) rfl (v := .agg (WH.arr ⟨(last x.1).tree, s.toFF.findV (last x.1).node (sat0 ns x.2.2.2)⟩)) (fun _ => by kernel_rfl)) rfl ?_
    refine XO.call rfl (m_over _ _ _ _ _ _ _ _ _ hv hC hm6 _) (.cons (.t4 .here) (.cons (.t4 .here) .nil)) cl_92 rfl ?_
    rintro _ _ ⟨rfl, rfl⟩
    refine XO.buildSlice (e := 56) (vs := #[(0, .agg (WH.arr (over l ⟨(last x.1).tree, s.toFF.findV (last x.1).node (sat0 ns x.2.2.2)⟩)))]) (A := #[.int .i64 (over l ⟨(last x.1).tree, s.toFF.findV (last x.1).node (sat0 ns x.2.2.2)⟩).tree, .int .i64 (over l ⟨(last x.1).tree, s.toFF.findV (last x.1).node (sat0 ns x.2.2.2)⟩).node]) rfl (fun _ => by kernel_rfl) rfl rfl ?_
    intro h6
    refine XO.appendF (e := 56) (C2 := wC (x.1 ++ [over l ⟨(last x.1).tree, s.toFF.findV (last x.1).node (sat0 ns x.2.2.2)⟩])) rfl rfl Tryz.underlying135 rt_56_2 (.t9 .here) .here rfl rfl (by omega) (by omega) (fun i hi => wC_app x.1 _ _ (encW.box _) i hi) rfl ?_
    intro pw2 cw2
    refine XO.as rfl rfl ?_
    refine XO.nil ?_
    refine XE.blockNormal ?_
    refine XE.next ?_
    refine XC.keep [(0, _), (4, _), (6, _), (19, _), (20, _), (21, _)] (S6 rfl rfl rfl rfl rfl rfl) ?_
    refine XC.region ?_
    refine XO.v (V.add rfl rfl _ (IntWalk.i64_in _ (by omega))) rfl ?_
    refine XO.mv rfl rfl ?_
    refine XO.nil ?_
    refine XE.again ((x.1 ++ [over l ⟨(last x.1).tree, s.toFF.findV (last x.1).node (sat0 ns x.2.2.2)⟩], pw2, cw2, x.2.2.2 + 1)) ?_ ?_ (Sub.cons (by show lk _ _ = some (Value.slice _ (x.1 ++ [over l ⟨(last x.1).tree, s.toFF.findV (last x.1).node (sat0 ns x.2.2.2)⟩]).length _); rw [hla]; rfl) (S5 rfl rfl rfl rfl rfl)) (fun _ hw => by show XM _ _ [_, _, _, _, _, _, _, Ent.row (.slice _ (x.1 ++ [over l ⟨(last x.1).tree, s.toFF.findV (last x.1).node (sat0 ns x.2.2.2)⟩]).length _) _ _ (x.1 ++ [over l ⟨(last x.1).tree, s.toFF.findV (last x.1).node (sat0 ns x.2.2.2)⟩]).length _] _; rw [hla]; exact XM.pick (.cons (.t2 .here) (.cons (.t2 .here) (.cons (.t2 .here) (.cons (.t2 .here) (.cons (.t2 .here) (.cons (.t3 .here) (.cons (.t3 .here) .h1))))))) hw)
    ·
     (simp; omega)
    ·
     refine ⟨?_, ⟨by simp; omega, by simp; omega⟩, by simp, by simp; omega⟩
     rw [← hwk]; exact (wk_step hdr hdd hfe).symm
 ·
  refine XC.exit ?_
  refine XE.thenExit ?_
  refine XE.thenExit ?_
  refine XE.blockExit ?_
  refine XE.next ?_
  refine XC.keep [(4, _), (6, _)] (S2 rfl rfl) ?_
  refine XC.sr ?_
  refine XO.openRow (.t7 .here) (by omega) ?_
  intro g2 hg2
  rw [hg2]
  refine XO.mv rfl rfl ?_
  refine XO.mv rfl rfl ?_
  refine XO.v (V.lenSl rfl Tryz.underlying135) rfl ?_
  refine XO.v (V.sub rfl rfl _ (IntWalk.i64_in _ (by omega))) rfl ?_
  refine XO.v (V.indexSl rfl rfl sl_135 (by omega)) rfl ?_
  refine XO.v (V.loadFA rfl (inXM (.t7 .here)) (wC_ld x.1 _ ⟨by omega, by omega⟩) ag_56 sz_56_2) rfl ?_
  refine XO.storeAgg rfl rfl (.t6 .here) (encW.st _ _) ⟨rfl, rfl⟩ sz_56_2 ?_
  refine XO.as rfl rfl ?_
  refine XO.nk [(4, _), (5, _)] (S2 rfl rfl) ?_
  refine XC.ret ?_
  refine XE.retG2 rfl (.agg rfl (.t6 .here) (encW.agg _) ag_56 sz_56_2) (.tmp rfl) (post_of .h6 rfl ?_)
  have ei : x.2.2.2 = n := by omega
  have e : led s.toFF l r (ns.take n) = (0, last x.1) := by rw [← hwk, ei]; exact wk_end hn
  exact ⟨by rw [e]; rfl, rfl⟩
end Go.X
