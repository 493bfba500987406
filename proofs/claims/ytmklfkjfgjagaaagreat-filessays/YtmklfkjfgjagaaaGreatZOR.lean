import Derived.Test.YtmklfkjfgjagaaaGreatXShort
import Derived.Test.YtmklfkjfgjagaaaGreatZOPL
import Derived.Test.YtmklfkjfgjagaaaGreatZOW3
namespace Go.X
open Go Go.Proofs
theorem ag_57 : aggT Tryz.prog 57 = true := by kernel_rfl
theorem ar_58 : arrOf Tryz.prog 58 = some (24, 5) := by kernel_rfl
theorem cl_14 : callable Tryz.prog 14 = true := by kernel_rfl
theorem cl_17 : callable Tryz.prog 17 = true := by kernel_rfl
theorem cl_86 : callable Tryz.prog 86 = true := by kernel_rfl
theorem cl_88 : callable Tryz.prog 88 = true := by kernel_rfl
theorem cl_90 : callable Tryz.prog 90 = true := by kernel_rfl
theorem cl_92 : callable Tryz.prog 92 = true := by kernel_rfl
theorem cl_93 : callable Tryz.prog 93 = true := by kernel_rfl
theorem fo_57_0 : fieldOff Tryz.prog 57 0 = some 0 := by kernel_rfl
theorem fo_57_1 : fieldOff Tryz.prog 57 1 = some 1 := by kernel_rfl
theorem fo_57_2 : fieldOff Tryz.prog 57 2 = some 2 := by kernel_rfl
theorem fo_57_3 : fieldOff Tryz.prog 57 3 = some 3 := by kernel_rfl
theorem fo_57_4 : fieldOff Tryz.prog 57 4 = some 4 := by kernel_rfl
theorem fo_60_0 : fieldOff Tryz.prog 60 0 = some 0 := by kernel_rfl
theorem fo_60_1 : fieldOff Tryz.prog 60 1 = some 1 := by kernel_rfl
theorem fo_60_2 : fieldOff Tryz.prog 60 2 = some 2 := by kernel_rfl
theorem sc_27 : scal Tryz.prog 27 = true := by kernel_rfl
theorem sc_47 : scal Tryz.prog 47 = true := by kernel_rfl
theorem sz_57_5 : szOf Tryz.prog 57 = some 5 := by kernel_rfl
theorem pr_Turn (b o : Nat) (K : Int) (hK : K ≤ 1000000) (s : PS) (hI : s.Inv K) (n : Int) (w : Bool) (d : Int) (hd : -1 ≤ d ∧ d ≤ 1) : Spec Tryz.prog 90 [ptr b o 0, .int .i64 n, .bool w, .int .i64 d] [.cells b o 24 (encR s)] (fun v H1 => v = .int .i64 (s.turn n w d).1 ∧ H1 = [.cells b o 24 (encR (s.turn n w d).2)]) := by
  cases w
  · exact pr_Turn_false b o K hK s hI n d hd
  · exact pr_Turn_true b o K hK s hI n d hd
set_option maxRecDepth 10000 in
set_option maxHeartbeats 400000 in
theorem fr_Is (bq qo bm bx : Nat) (O : OS) (n : Int) : Spec Tryz.prog 14 [ptr bq qo 0, .int .i64 n]
    [.cells bq qo 122 (encQ bm bx O)]
    (fun v H1 => v = .int .i64 (O.is n) ∧ H1 = [.cells bq qo 122 (encQ bm bx O)]) := by
 refine Spec.intro Tryz.func14 rfl rfl ?_
 intro W
 refine XC.sr ?_
 refine XO.as rfl rfl ?_
 refine XO.nk [(0, _), (1, _)] (S2 rfl rfl) ?_
 refine XC.seq ?_
 refine XC.sr ?_
 refine XO.mv rfl rfl ?_
 refine XO.v (V.cmp rfl rfl rfl) rfl ?_
 refine XO.mv rfl rfl ?_
 refine XO.splitP (d := 7) rfl (fun h1 => ?_) (fun h1 => ?_)
 ·
  refine XO.guardSkip rfl rfl rfl rfl rfl ?_
  refine XO.guardSkip rfl rfl rfl rfl rfl ?_
  refine XO.v (V.pick rfl rfl rfl rfl) rfl ?_
  refine XO.nk [(0, _), (1, _), (10, _)] (S3 rfl rfl rfl) ?_
  refine XC.condT rfl rfl ?_
  refine XC.sr ?_
  refine XO.as rfl rfl ?_
  refine XO.nk [(4, _)] (S1 rfl) ?_
  refine XC.ret ?_
  refine XE.thenRet ?_
  refine XE.ret1 rfl rfl (post_of .h1 rfl ?_)
  rcases OS.is_cases O n with ⟨q0, q1⟩ | ⟨q0, q1⟩ | ⟨q0, q1⟩ <;> first | (exfalso; omega) | exact ⟨by rw [q0], rfl⟩
 ·
  refine XO.guardRun rfl rfl rfl ?_
  refine XO.mv rfl rfl ?_
  refine XO.guardRun rfl rfl rfl ?_
  refine XO.v (V.cmp rfl rfl rfl) rfl ?_
  refine XO.v (V.pick rfl rfl rfl rfl) rfl ?_
  refine XO.nk [(0, _), (1, _), (10, _)] (S3 rfl rfl rfl) ?_
  refine XC.condP rfl (fun h2 => ?_) (fun h2 => ?_)
  ·
   refine XC.sr ?_
   refine XO.as rfl rfl ?_
   refine XO.nk [(4, _)] (S1 rfl) ?_
   refine XC.ret ?_
   refine XE.thenRet ?_
   refine XE.ret1 rfl rfl (post_of .h1 rfl ?_)
   rcases OS.is_cases O n with ⟨q0, q1⟩ | ⟨q0, q1⟩ | ⟨q0, q1⟩ <;> first | (exfalso; omega) | exact ⟨by rw [q0], rfl⟩
  ·
   refine XC.skip ?_
   refine XE.next ?_
   refine XC.keep [(0, _), (1, _)] (S2 rfl rfl) ?_
   refine XC.seq ?_
   refine XC.sr ?_
   refine XO.mv rfl rfl ?_
   refine XO.mv rfl rfl ?_
   refine XO.v (V.nilCheckP rfl) rfl ?_
   refine XO.v (V.fieldAddr rfl fo_60_2) rfl ?_
   refine XO.v (V.indexArr rfl rfl ar_58 (by omega)) rfl ?_
   refine XO.v (V.fieldAddr rfl fo_57_3) rfl ?_
   refine XO.v (V.load rfl (inXM .here) (encQ.ld_O_Refs _ _ (by omega)) sc_3) rfl ?_
   refine XO.v (V.cmp rfl rfl rfl) rfl ?_
   refine XO.nk [(18, _)] (S1 rfl) ?_
   refine XC.condP rfl (fun h3 => ?_) (fun h3 => ?_)
   ·
    refine XC.sr ?_
    refine XO.as rfl rfl ?_
    refine XO.nk [(4, _)] (S1 rfl) ?_
    refine XC.ret ?_
    refine XE.thenRet ?_
    refine XE.ret1 rfl rfl (post_of .h1 rfl ?_)
    rcases OS.is_cases O n with ⟨q0, q1⟩ | ⟨q0, q1⟩ | ⟨q0, q1⟩ <;> first | (exfalso; omega) | exact ⟨by rw [q0], rfl⟩
   ·
    refine XC.skip ?_
    refine XE.next ?_
    refine XC.keep [] (Sub.nil _) ?_
    refine XC.sr ?_
    refine XO.as rfl rfl ?_
    refine XO.nk [(4, _)] (S1 rfl) ?_
    refine XC.ret ?_
    refine XE.ret1 rfl rfl (post_of .h1 rfl ?_)
    rcases OS.is_cases O n with ⟨q0, q1⟩ | ⟨q0, q1⟩ | ⟨q0, q1⟩ <;> first | (exfalso; omega) | exact ⟨by rw [q0], rfl⟩
set_option maxRecDepth 10000 in
set_option maxHeartbeats 1000000 in
theorem fr_Open (bq qo bm bx : Nat) (O : OS) : Spec Tryz.prog 17 [ptr bq qo 0]
    [.cells bq qo 122 (encQ bm bx O)]
    (fun v H1 => v = .int .i64 O.opens ∧ H1 = [.cells bq qo 122 (encQ bm bx O)]) := by
 refine Spec.intro Tryz.func17 rfl rfl ?_
 intro W
 refine XC.sr ?_
 refine XO.as rfl rfl ?_
 refine XO.nk [(0, _)] (S1 rfl) ?_
 refine XC.sr ?_
 refine XO.as rfl rfl ?_
 refine XO.nk [(0, _), (3, _)] (S2 rfl rfl) ?_
 refine XC.seq ?_
 refine XC.sr ?_
 refine XO.as rfl rfl ?_
 refine XO.nk [(0, _), (3, _), (4, _)] (S3 rfl rfl rfl) ?_
 refine XC.block ?_
 refine XC.loop (σ := Int) (fun i => (24 - i).toNat) (fun i => (0 ≤ i ∧ i ≤ 24) ∧ 0 ≤ O.cntT i.toNat ∧ O.cntT i.toNat ≤ i) (fun i => [(4, .int .i64 i), (3, .int .i64 (O.cntT i.toNat)), (0, ptr bq qo 0)]) (fun i => XM W (foot [.cells bq qo 122 (encQ bm bx O)]) [.cells bq qo 122 (encQ bm bx O)]) (0) ?_ (S3 rfl rfl rfl) (fun _ hw => XM.pick .h1 hw) ?_
 ·
  exact ⟨by omega, by show (0:Int) ≤ 0; omega, by show (0:Int) ≤ 0; omega⟩
 intro i hi
 obtain ⟨hi, ho⟩ := hi
 have hst := O.cntT_next hi.1
 refine XC.seq ?_
 refine XC.sr ?_
 refine XO.mv rfl rfl ?_
 refine XO.v (V.cmp rfl rfl rfl) rfl ?_
 refine XO.nk [(0, _), (3, _), (4, _), (6, _)] (S4 rfl rfl rfl rfl) ?_
 refine XC.condP rfl (fun h1 => ?_) (fun h1 => ?_)
 ·
  refine XC.skip ?_
  refine XE.next ?_
  refine XC.keep [(0, _), (3, _), (4, _)] (S3 rfl rfl rfl) ?_
  refine XC.seq ?_
  refine XC.block ?_
  refine XC.sr ?_
  refine XO.mv rfl rfl ?_
  refine XO.mv rfl rfl ?_
  refine XO.v (V.nilCheckP rfl) rfl ?_
  refine XO.v (V.fieldAddr rfl fo_60_2) rfl ?_
  refine XO.v (V.indexArr rfl rfl ar_58 (by omega)) rfl ?_
  refine XO.v (V.fieldAddr rfl fo_57_3) rfl ?_
  refine XO.v (V.load rfl (inXM .here) (encQ.ld_O_Refs _ _ (by omega)) sc_3) rfl ?_
  refine XO.v (V.cmp rfl rfl rfl) rfl ?_
  refine XO.nk [(0, _), (3, _), (4, _), (16, _)] (S4 rfl rfl rfl rfl) ?_
  refine XC.condP rfl (fun h2 => ?_) (fun h2 => ?_)
  ·
   refine XC.region ?_
   refine XO.mv rfl rfl ?_
   refine XO.v (V.add rfl rfl _ (IntWalk.i64_in _ (by omega))) rfl ?_
   refine XO.as rfl rfl ?_
   refine XO.nil ?_
   refine XE.blockNormal ?_
   refine XE.next ?_
   refine XC.keep [(0, _), (3, _), (4, _)] (S3 rfl rfl rfl) ?_
   refine XC.region ?_
   refine XO.mv rfl rfl ?_
   refine XO.v (V.add rfl rfl _ (IntWalk.i64_in _ (by omega))) rfl ?_
   refine XO.as rfl rfl ?_
   refine XO.nil ?_
   refine XE.again (i + 1) ?_ ?_ (Sub.cons rfl (Sub.cons (eqi (by rw [hst, if_pos (by assumption)])) (S1 rfl))) (fun _ hw => XM.pick .h1 hw)
   ·
    (first | omega | (simp; done) | (simp; omega))
   ·
    rw [hst, if_pos (by assumption)]; omega
  ·
   refine XC.skip ?_
   refine XE.blockNormal ?_
   refine XE.next ?_
   refine XC.keep [(0, _), (3, _), (4, _)] (S3 rfl rfl rfl) ?_
   refine XC.region ?_
   refine XO.mv rfl rfl ?_
   refine XO.v (V.add rfl rfl _ (IntWalk.i64_in _ (by omega))) rfl ?_
   refine XO.as rfl rfl ?_
   refine XO.nil ?_
   refine XE.again (i + 1) ?_ ?_ (Sub.cons rfl (Sub.cons (eqi (by rw [hst, if_neg (by omega)]; omega)) (S1 rfl))) (fun _ hw => XM.pick .h1 hw)
   ·
    (first | omega | (simp; done) | (simp; omega))
   ·
    rw [hst, if_neg (by omega)]; omega
 ·
  refine XC.exit ?_
  refine XE.thenExit ?_
  refine XE.thenExit ?_
  refine XE.blockExit ?_
  refine XE.next ?_
  refine XC.keep [(3, _)] (S1 rfl) ?_
  refine XC.sr ?_
  refine XO.mv rfl rfl ?_
  refine XO.as rfl rfl ?_
  refine XO.nk [(2, _)] (S1 rfl) ?_
  refine XC.ret ?_
  refine XE.ret1 rfl rfl (post_of .h1 rfl ?_)
  have e : i = 24 := by omega
  subst e
  exact ⟨rfl, rfl⟩
set_option maxRecDepth 10000 in
set_option maxHeartbeats 1000000 in
theorem fr_lay (bq qo bm bx : Nat) (O : OS) (J : Int) (hJ : J ≤ 1000000) (hO : O.Inv J) (hf : ¬ O.first < 0) (k x r : Int) (w : Bool) : Spec Tryz.prog 86 [ptr bq qo 0, .agg (encQ.arr ⟨k, x, 0, r, w⟩)]
    [.cells bq qo 122 (encQ bm bx O)]
    (fun v H1 => v = .int .i64 O.first ∧ H1 = [.cells bq qo 122 (encQ bm bx (O.lay O.first k x w))]) := by
 have hf3 := OS.first_ok hf
 refine Spec.intro Tryz.func86 rfl rfl ?_
 intro W
 refine XC.sr ?_
 refine XO.box (m := 5) (C := encQ.cell ⟨k, x, 0, r, w⟩) rfl rfl (encQ.box _) rfl ?_
 intro bu
 refine XO.as rfl rfl ?_
 refine XO.nk [(0, _), (3, _)] (S2 rfl rfl) ?_
 refine XC.sr ?_
 refine XO.as rfl rfl ?_
 refine XO.nk [(0, _), (3, _), (5, _)] (S3 rfl rfl rfl) ?_
 refine XC.seq ?_
 refine XC.block ?_
 refine XC.loop (σ := Int) (fun i => (24 - i).toNat) (fun i => 0 ≤ i ∧ i ≤ O.first) (fun i => [(5, .int .i64 i), (0, ptr bq qo 0), (3, ptr bu 0 0)]) (fun i => XM W (foot [.cells bq qo 122 (encQ bm bx O)]) [.cells bq qo 122 (encQ bm bx O), .cells bu 0 5 (encQ.cell ⟨k, x, 0, r, w⟩)]) (0) ?_ (S3 rfl rfl rfl) (fun _ hw => XM.pick (.cons (.there .here) .h1) hw) ?_
 ·
  exact ⟨by omega, by omega⟩
 intro i hi
 obtain ⟨hi, ho⟩ := hi
 have hrb := (hO.refs i hi (by omega)).1
 refine XC.seq ?_
 refine XC.sr ?_
 refine XO.mv rfl rfl ?_
 refine XO.mv rfl rfl ?_
 refine XO.v (V.nilCheckP rfl) rfl ?_
 refine XO.v (V.fieldAddr rfl fo_60_2) rfl ?_
 refine XO.v (V.indexArr rfl rfl ar_58 (by omega)) rfl ?_
 refine XO.v (V.fieldAddr rfl fo_57_3) rfl ?_
 refine XO.v (V.load rfl (inXM .here) (encQ.ld_O_Refs _ _ (by omega)) sc_3) rfl ?_
 refine XO.v (V.cmp rfl rfl rfl) rfl ?_
 refine XO.nk [(0, _), (3, _), (5, _), (13, _)] (S4 rfl rfl rfl rfl) ?_
 refine XC.condP rfl (fun h1 => ?_) (fun h1 => ?_)
 ·
  refine XC.skip ?_
  refine XE.next ?_
  refine XC.keep [(0, _), (3, _), (5, _)] (S3 rfl rfl rfl) ?_
  refine XC.block ?_
  refine XC.region ?_
  refine XO.mv rfl rfl ?_
  refine XO.v (V.add rfl rfl _ (IntWalk.i64_in _ (by omega))) rfl ?_
  refine XO.as rfl rfl ?_
  refine XO.nil ?_
  refine XE.blockNormal ?_
  refine XE.again (i + 1) ?_ ?_ (S3 rfl rfl rfl) (fun _ hw => XM.pick .h2 hw)
  ·
   (first | omega | (simp; done) | (simp; omega))
  ·
   refine ⟨by omega, ?_⟩
   by_cases c : i = O.first
   ·
    have h9 := hf3.2.2
    rw [← c] at h9
    omega
   ·
    omega
 ·
  have e : i = O.first := by
   by_cases c : i = O.first
   ·
    exact c
   ·
    have := OS.first_lt hi (show i < O.first by omega)
    omega
  subst e
  refine XC.exit ?_
  refine XE.thenExit ?_
  refine XE.thenExit ?_
  refine XE.blockExit ?_
  refine XE.next ?_
  refine XC.keep [(0, _), (3, _), (5, _)] (S3 rfl rfl rfl) ?_
  refine XC.sr ?_
  refine XO.v (V.fieldAddr rfl fo_57_3) rfl ?_
  refine XO.store rfl rfl (.there .here) (encQ.us_3 _ _) rfl sz_3_1 ?_
  refine XO.nk [(0, _), (3, _), (5, _)] (S3 rfl rfl rfl) ?_
  refine XC.seq ?_
  refine XC.regionQ mixed (f := 7) (l := #[false, false, false, false, false, false, false]) rfl rfl XM.drawn' ?_
  refine XQ.pv (i := 0) (l' := #[tt,ff,ff,ff,ff,ff,ff]) rfl (by kernel_rfl) rfl (V.move rfl) rfl rfl ?_
  refine XQ.pv (i := 1) (l' := #[tt,tt,ff,ff,ff,ff,ff]) rfl (by kernel_rfl) rfl (V.move rfl) rfl rfl ?_
  refine XQ.load (i := 2) (l' := #[tt,tt,tt,ff,ff,ff,ff]) (.cells _ _ _ _) [6] rfl (by kernel_rfl) rfl (.there .here) (V.loadAgg rfl inEnt (encQ.ubox _) ag_57 sz_57_5) rfl (by kernel_rfl) rfl ?_
  refine XQ.pv (i := 3) (l' := #[tt,tt,tt,tt,ff,ff,ff]) rfl (by kernel_rfl) rfl (V.nilCheckP rfl) rfl rfl ?_
  refine XQ.pv (i := 4) (l' := #[tt,tt,tt,tt,tt,ff,ff]) rfl (by kernel_rfl) rfl (V.fieldAddr rfl fo_60_2) rfl rfl ?_
  refine XQ.pv (i := 5) (l' := #[tt,tt,tt,tt,tt,tt,ff]) rfl (by kernel_rfl) rfl (V.indexArr rfl rfl ar_58 (by omega)) rfl rfl ?_
  refine XQ.storeAgg (i := 6) (l' := #[tt,tt,tt,tt,tt,tt,tt]) rfl (by kernel_rfl) rfl rfl rfl .here (encQ.put O O.first k x w 1 ⟨hf3.1, hf3.2.1⟩) ⟨rfl, rfl⟩ sz_57_5 (fun _ hw' => ⟨fun hs => (hs 6 (by first | (simp; done) | (simp; rfl)) rfl).elim, trivial⟩) ?_
  refine XQ.done (by kernel_rfl) ?_
  refine XE.next ?_
  refine XC.keep [(5, _)] (S1 rfl) ?_
  refine XC.sr ?_
  refine XO.mv rfl rfl ?_
  refine XO.as rfl rfl ?_
  refine XO.nk [(4, _)] (S1 rfl) ?_
  refine XC.ret ?_
  refine XE.ret1 rfl rfl (post_of .h1 rfl ?_)
  exact ⟨rfl, rfl⟩
set_option maxRecDepth 10000 in
set_option maxHeartbeats 4000000 in
theorem fr_Node (bq qo bm bx : Nat) (O : OS) (J : Int) (hJ : J ≤ 1000000) (hO : O.Inv J) (m : FC) (hI : m.toFF.Sh) (n : Int) (w : Bool) : Spec Tryz.prog 45 [ptr bq qo 0, .int .i64 n, .bool w]
    [.cells bq qo 122 (encQ bm bx O), .cells bm 0 321 (encM m), .fam fam40 (FC.rowsN 9 m), .fam fam40 (FC.rowsK 3 m)]
    (fun v H1 => v = .tuple #[.int .i64 (onodeV m.toFF O n), .int .i64 (onodeE m.toFF O n)] ∧ ∃ t : FC, t.toFF = onodeF m.toFF O n ∧ t.rP = m.rP ∧ t.rC = m.rC ∧ H1 = [.cells bq qo 122 (encQ bm bx (onodeO m.toFF O n w)), .cells bm 0 321 (encM t), .fam fam40 (FC.rowsN 9 t), .fam fam40 (FC.rowsK 3 t)]) := by
 have hnn := FF.isE_nn m.toFF n 1
 have hfo := OS.first_opens (fun z z1 z2 => (hO.refs z z1 z2).1)
 refine Spec.intro Tryz.func45 rfl rfl ?_
 intro W
 refine XC.sr ?_
 refine XO.as rfl rfl ?_
 refine XO.as rfl rfl ?_
 refine XO.nk [(0, _), (1, _), (2, _)] (S3 rfl rfl rfl) ?_
 refine XC.seq ?_
 refine XC.sr ?_
 refine XO.mv rfl rfl ?_
 refine XO.v (V.nilCheckP rfl) rfl ?_
 refine XO.v (V.fieldAddr rfl fo_60_0) rfl ?_
 refine XO.v (V.load rfl (inXM .here) (encQ.ld_F _) sc_27) rfl ?_
 refine XO.mv rfl rfl ?_
 refine XO.call rfl (r_Is _ _ _ _ _) (.cons (.there .here) .nil) cl_66 rfl ?_
 rintro _ _ ⟨rfl, rfl⟩
 refine XO.as rfl rfl ?_
 refine XO.nk [(0, _), (1, _), (2, _), (8, _)] (S4 rfl rfl rfl rfl) ?_
 refine XC.sr ?_
 refine XO.mv rfl rfl ?_
 refine XO.v (V.cmp rfl rfl rfl) rfl ?_
 refine XO.nk [(0, _), (1, _), (2, _), (8, _), (16, _)] (S5 rfl rfl rfl rfl rfl) ?_
 refine XC.condP rfl (fun h1 => ?_) (fun h1 => ?_)
 ·
  refine XC.sr ?_
  refine XO.mv rfl rfl ?_
  refine XO.as rfl rfl ?_
  refine XO.as rfl rfl ?_
  refine XO.nk [(6, _), (7, _)] (S2 rfl rfl) ?_
  refine XC.ret ?_
  refine XE.thenRet ?_
  refine XE.ret2 rfl rfl rfl (post_of (.cons (.there .here) .h3) rfl ?_)
  have e : onodeE m.toFF O n = m.isE n 1 := by unfold onodeE; rw [if_pos (by omega)]
  exact ⟨by rw [show onodeV m.toFF O n = 0 from by unfold onodeV; rw [if_neg (by omega)], e], m, by unfold onodeF; rw [if_neg (by omega)], rfl, rfl, by rw [show onodeO m.toFF O n w = O from by unfold onodeO; rw [if_neg (by omega)]]⟩
 ·
  refine XC.skip ?_
  refine XE.next ?_
  refine XC.keep [(0, _), (1, _), (2, _)] (S3 rfl rfl rfl) ?_
  refine XC.seq ?_
  refine XC.sr ?_
  refine XO.mv rfl rfl ?_
  refine XO.call rfl (fr_Open _ _ _ _ _) (.cons (.there .here) .nil) cl_17 rfl ?_
  rintro _ _ ⟨rfl, rfl⟩
  refine XO.v (V.cmp rfl rfl rfl) rfl ?_
  refine XO.nk [(0, _), (1, _), (2, _), (20, _)] (S4 rfl rfl rfl rfl) ?_
  refine XC.condP rfl (fun h2 => ?_) (fun h2 => ?_)
  ·
   refine XC.sr ?_
   refine XO.as rfl rfl ?_
   refine XO.as rfl rfl ?_
   refine XO.nk [(6, _), (7, _)] (S2 rfl rfl) ?_
   refine XC.ret ?_
   refine XE.thenRet ?_
   refine XE.ret2 rfl rfl rfl (post_of .h4 rfl ?_)
   have e : onodeE m.toFF O n = 4 := by unfold onodeE; rw [if_neg (by omega), if_pos (hfo.2 (by assumption))]
   exact ⟨by rw [show onodeV m.toFF O n = 0 from by unfold onodeV; rw [if_neg (by omega)], e], m, by unfold onodeF; rw [if_neg (by omega)], rfl, rfl, by rw [show onodeO m.toFF O n w = O from by unfold onodeO; rw [if_neg (by omega)]]⟩
  ·
   have hf : ¬ O.first < 0 := fun q => absurd (hfo.1 q) (by assumption)
   refine XC.skip ?_
   refine XE.next ?_
   refine XC.keep [(0, _), (1, _), (2, _)] (S3 rfl rfl rfl) ?_
   refine XC.sr ?_
   refine XO.mv rfl rfl ?_
   refine XO.v (V.nilCheckP rfl) rfl ?_
   refine XO.v (V.fieldAddr rfl fo_60_0) rfl ?_
   refine XO.v (V.load rfl (inXM .here) (encQ.ld_F _) sc_27) rfl ?_
   refine XO.mv rfl rfl ?_
   refine XO.call rfl (r_Hold _ _ _ hI _) (.cons (.there .here) (.cons (.there .here) (.cons (.there .here) .nil))) cl_35 rfl ?_
   rintro _ _ ⟨rfl, t, ht, tp, tc, rfl⟩
   refine XO.nk [(0, _), (1, _), (2, _)] (S3 rfl rfl rfl) ?_
   refine XC.sr ?_
   refine XO.mv rfl rfl ?_
   refine XO.mv rfl rfl ?_
   refine XO.mv rfl rfl ?_
   refine XO.v (V.build (vs := #[(0, .int .i64 1), (1, .int .i64 n), (4, .bool w)]) rfl (v := .agg (encQ.arr ⟨1, n, 0, 0, w⟩)) (fun _ => by kernel_rfl)) rfl ?_
   refine XO.call rfl (fr_lay _ _ _ _ O J hJ hO hf 1 n 0 w) (.cons (.t3 .here) .nil) cl_86 rfl ?_
   rintro _ _ ⟨rfl, rfl⟩
   refine XO.as rfl rfl ?_
   refine XO.as rfl rfl ?_
   refine XO.nk [(6, _), (7, _)] (S2 rfl rfl) ?_
   refine XC.ret ?_
   refine XE.ret2 rfl rfl rfl (post_of .h4 rfl ?_)
   have e : onodeE m.toFF O n = 0 := by unfold onodeE; rw [if_neg (by omega), if_neg hf]
   exact ⟨by rw [show onodeV m.toFF O n = O.first from by unfold onodeV; rw [if_pos e], e], t, by rw [ht]; unfold onodeF; rw [if_pos e], tp, tc, by rw [show onodeO m.toFF O n w = O.lay O.first 1 n w from by unfold onodeO; rw [if_pos e]]⟩
set_option maxRecDepth 10000 in
set_option maxHeartbeats 4000000 in
theorem fr_Pipe (bq qo bm bx : Nat) (O : OS) (J : Int) (hJ : J ≤ 1000000) (hO : O.Inv J) (hJ1 : 1 ≤ J) (K : Int) (hK : K ≤ 1000000) (q : PS) (hq : q.Inv K) : Spec Tryz.prog 47 [ptr bq qo 0]
    [.cells bq qo 122 (encQ bm bx O), .cells bx 0 24 (encR q)]
    (fun v H1 => v = .tuple #[.int .i64 (opipeV q O), .int .i64 (opipeU q O), .int .i64 (opipeE q O)] ∧ H1 = [.cells bq qo 122 (encQ bm bx (opipeO q O)), .cells bx 0 24 (encR (opipeP q O))]) := by
 have hso := OS.second_opens (fun z z1 z2 => (hO.refs z z1 z2).1)
 have hmn := PS.make_nn q
 refine Spec.intro Tryz.func47 rfl rfl ?_
 intro W
 refine XC.sr ?_
 refine XO.as rfl rfl ?_
 refine XO.as rfl rfl ?_
 refine XO.as rfl rfl ?_
 refine XO.nk [(0, _)] (S1 rfl) ?_
 refine XC.seq ?_
 refine XC.sr ?_
 refine XO.mv rfl rfl ?_
 refine XO.call rfl (fr_Open _ _ _ _ _) .h1 cl_17 rfl ?_
 rintro _ _ ⟨rfl, rfl⟩
 refine XO.v (V.cmp rfl rfl rfl) rfl ?_
 refine XO.nk [(0, _), (10, _)] (S2 rfl rfl) ?_
 refine XC.condP rfl (fun h1 => ?_) (fun h1 => ?_)
 ·
  have hf := hso.2 (by omega)
  refine XC.sr ?_
  refine XO.as rfl rfl ?_
  refine XO.as rfl rfl ?_
  refine XO.as rfl rfl ?_
  refine XO.nk [(2, _), (3, _), (4, _)] (S3 rfl rfl rfl) ?_
  refine XC.ret ?_
  refine XE.thenRet ?_
  refine XE.ret3 rfl rfl rfl rfl (post_of .h2 rfl ?_)
  have e : opipeE q O = 4 := by unfold opipeE; rw [if_pos hf]
  have eV : opipeV q O = 0 := by unfold opipeV; rw [if_neg (by omega)]
  have eU : opipeU q O = 0 := by unfold opipeU; rw [if_neg (by omega)]
  have eO : opipeO q O = O := by unfold opipeO; rw [if_neg (by omega)]
  have eP : opipeP q O = q := by unfold opipeP; rw [if_pos hf]
  exact ⟨by rw [e, eV, eU], by rw [eO, eP]⟩
 ·
  have hf0 : ¬ (O.first < 0 ∨ O.second < 0) := fun z => absurd (hso.1 z) (by omega)
  have hf1 : ¬ O.first < 0 := fun z => hf0 (.inl z)
  have hf2 : ¬ (O.lay O.first 2 q.make.1 false).first < 0 := by rw [OS.second_lay]; exact fun z => hf0 (.inr z)
  have hO2 := hO.lay hJ1 O.first 2 q.make.1 false (.inr (.inl rfl)) (fun _ => rfl)
  refine XC.skip ?_
  refine XE.next ?_
  refine XC.keep [(0, _)] (S1 rfl) ?_
  refine XC.sr ?_
  refine XO.mv rfl rfl ?_
  refine XO.v (V.nilCheckP rfl) rfl ?_
  refine XO.v (V.fieldAddr rfl fo_60_1) rfl ?_
  refine XO.v (V.load rfl (inXM .here) (encQ.ld_P _) sc_47) rfl ?_
  refine XO.call rfl (pr_Make _ _ K hK q hq) (.cons (.there .here) .nil) cl_88 rfl ?_
  rintro _ _ ⟨rfl, rfl⟩
  refine XO.mv rfl rfl ?_
  refine XO.v (V.extract rfl rfl) rfl ?_
  refine XO.v (V.extract rfl rfl) rfl ?_
  refine XO.as rfl rfl ?_
  refine XO.as rfl rfl ?_
  refine XO.nk [(0, _), (5, _), (6, _)] (S3 rfl rfl rfl) ?_
  refine XC.seq ?_
  refine XC.sr ?_
  refine XO.mv rfl rfl ?_
  refine XO.v (V.cmp rfl rfl rfl) rfl ?_
  refine XO.nk [(0, _), (5, _), (6, _), (20, _)] (S4 rfl rfl rfl rfl) ?_
  refine XC.condP rfl (fun h2 => ?_) (fun h2 => ?_)
  ·
   refine XC.sr ?_
   refine XO.mv rfl rfl ?_
   refine XO.as rfl rfl ?_
   refine XO.as rfl rfl ?_
   refine XO.as rfl rfl ?_
   refine XO.nk [(2, _), (3, _), (4, _)] (S3 rfl rfl rfl) ?_
   refine XC.ret ?_
   refine XE.thenRet ?_
   refine XE.ret3 rfl rfl rfl rfl (post_of (.cons (.there .here) .h1) rfl ?_)
   have e : opipeE q O = q.make.2.1 := by unfold opipeE; rw [if_neg hf0]
   have eV : opipeV q O = 0 := by unfold opipeV; rw [if_neg (by omega)]
   have eU : opipeU q O = 0 := by unfold opipeU; rw [if_neg (by omega)]
   have eO : opipeO q O = O := by unfold opipeO; rw [if_neg (by omega)]
   have eP : opipeP q O = q.make.2.2 := by unfold opipeP; rw [if_neg hf0]
   exact ⟨by rw [e, eV, eU], by rw [eO, eP]⟩
  ·
   refine XC.skip ?_
   refine XE.next ?_
   refine XC.keep [(0, _), (5, _)] (S2 rfl rfl) ?_
   refine XC.sr ?_
   refine XO.mv rfl rfl ?_
   refine XO.mv rfl rfl ?_
   refine XO.v (V.build (vs := #[(0, .int .i64 2), (1, .int .i64 q.make.1)]) rfl (v := .agg (encQ.arr ⟨2, q.make.1, 0, 0, false⟩)) (fun _ => by kernel_rfl)) rfl ?_
   refine XO.call rfl (fr_lay _ _ _ _ O J hJ hO hf1 2 q.make.1 0 false) (.cons (.there .here) .nil) cl_86 rfl ?_
   rintro _ _ ⟨rfl, rfl⟩
   refine XO.as rfl rfl ?_
   refine XO.nk [(0, _), (5, _), (7, _)] (S3 rfl rfl rfl) ?_
   refine XC.sr ?_
   refine XO.mv rfl rfl ?_
   refine XO.mv rfl rfl ?_
   refine XO.mv rfl rfl ?_
   refine XO.v (V.build (vs := #[(0, .int .i64 3), (1, .int .i64 q.make.1)]) rfl (v := .agg (encQ.arr ⟨3, q.make.1, 0, 0, false⟩)) (fun _ => by kernel_rfl)) rfl ?_
   refine XO.call rfl (fr_lay _ _ _ _ (O.lay O.first 2 q.make.1 false) J hJ hO2 hf2 3 q.make.1 0 false) .h1 cl_86 rfl ?_
   rintro _ _ ⟨rfl, rfl⟩
   rw [OS.second_lay, show (O.lay O.first 2 0 false).first = O.second from rfl]
   refine XO.as rfl rfl ?_
   refine XO.as rfl rfl ?_
   refine XO.as rfl rfl ?_
   refine XO.nk [(2, _), (3, _), (4, _)] (S3 rfl rfl rfl) ?_
   refine XC.ret ?_
   refine XE.ret3 rfl rfl rfl rfl (post_of .h2 rfl ?_)
   have hz : q.make.2.1 = 0 := by omega
   have e : opipeE q O = 0 := by unfold opipeE; rw [if_neg hf0, hz]
   have eV : opipeV q O = O.first := by unfold opipeV; rw [if_pos e]
   have eU : opipeU q O = O.second := by unfold opipeU; rw [if_pos e]
   have eO : opipeO q O = (O.lay O.first 2 q.make.1 false).lay O.second 3 q.make.1 false := by unfold opipeO; rw [if_pos e]
   have eP : opipeP q O = q.make.2.2 := by unfold opipeP; rw [if_neg hf0]
   exact ⟨by rw [e, eV, eU], by rw [eO, eP]⟩
set_option maxRecDepth 10000 in
set_option maxHeartbeats 1000000 in
theorem fr_Share (bq qo bm bx : Nat) (O : OS) (J : Int) (hJ : J ≤ 1000000) (hO : O.Inv J) (n : Int) : Spec Tryz.prog 49 [ptr bq qo 0, .int .i64 n]
    [.cells bq qo 122 (encQ bm bx O)]
    (fun v H1 => v = .int .i64 (O.is n) ∧ H1 = [.cells bq qo 122 (encQ bm bx (shareO O n))]) := by
 refine Spec.intro Tryz.func49 rfl rfl ?_
 intro W
 refine XC.sr ?_
 refine XO.as rfl rfl ?_
 refine XO.nk [(0, _), (1, _)] (S2 rfl rfl) ?_
 refine XC.sr ?_
 refine XO.mv rfl rfl ?_
 refine XO.mv rfl rfl ?_
 refine XO.call rfl (fr_Is _ _ _ _ _ _) .h1 cl_14 rfl ?_
 rintro _ _ ⟨rfl, rfl⟩
 refine XO.as rfl rfl ?_
 refine XO.nk [(0, _), (1, _), (5, _)] (S3 rfl rfl rfl) ?_
 refine XC.seq ?_
 refine XC.sr ?_
 refine XO.mv rfl rfl ?_
 refine XO.v (V.cmp rfl rfl rfl) rfl ?_
 refine XO.nk [(0, _), (1, _), (5, _), (10, _)] (S4 rfl rfl rfl rfl) ?_
 refine XC.condP rfl (fun h1 => ?_) (fun h1 => ?_)
 ·
  have i0 : O.is n = 0 := by assumption
  obtain ⟨i1, i2, i3⟩ := OS.is_0 i0
  have hra := hO.refs n i1 i2
  refine XC.regionQ mixed (f := 13) (l := #[false, false, false, false, false, false, false, false, false, false, false, false, false]) rfl rfl XM.drawn' ?_
  refine XQ.pv (i := 0) (l' := #[tt,ff,ff,ff,ff,ff,ff,ff,ff,ff,ff,ff,ff]) rfl (by kernel_rfl) rfl (V.move rfl) rfl rfl ?_
  refine XQ.pv (i := 1) (l' := #[tt,tt,ff,ff,ff,ff,ff,ff,ff,ff,ff,ff,ff]) rfl (by kernel_rfl) rfl (V.move rfl) rfl rfl ?_
  refine XQ.pv (i := 2) (l' := #[tt,tt,tt,ff,ff,ff,ff,ff,ff,ff,ff,ff,ff]) rfl (by kernel_rfl) rfl (V.nilCheckP rfl) rfl rfl ?_
  refine XQ.pv (i := 3) (l' := #[tt,tt,tt,tt,ff,ff,ff,ff,ff,ff,ff,ff,ff]) rfl (by kernel_rfl) rfl (V.fieldAddr rfl fo_60_2) rfl rfl ?_
  refine XQ.pv (i := 4) (l' := #[tt,tt,tt,tt,tt,ff,ff,ff,ff,ff,ff,ff,ff]) rfl (by kernel_rfl) rfl (V.indexArr rfl rfl ar_58 (by omega)) rfl rfl ?_
  refine XQ.pv (i := 5) (l' := #[tt,tt,tt,tt,tt,tt,ff,ff,ff,ff,ff,ff,ff]) rfl (by kernel_rfl) rfl (V.fieldAddr rfl fo_57_3) rfl rfl ?_
  refine XQ.load (i := 6) (l' := #[tt,tt,tt,tt,tt,tt,tt,ff,ff,ff,ff,ff,ff]) (.cells _ _ _ _) [12] rfl (by kernel_rfl) rfl .here (V.load rfl inEnt (encQ.ld_O_Refs _ _ (by omega)) sc_3) rfl (by kernel_rfl) rfl ?_
  refine XQ.pv (i := 7) (l' := #[tt,tt,tt,tt,tt,tt,tt,tt,ff,ff,ff,ff,ff]) rfl (by kernel_rfl) rfl (V.add rfl rfl _ (IntWalk.i64_in _ (by omega))) rfl rfl ?_
  refine XQ.pv (i := 8) (l' := #[tt,tt,tt,tt,tt,tt,tt,tt,tt,ff,ff,ff,ff]) rfl (by kernel_rfl) rfl (V.nilCheckP rfl) rfl rfl ?_
  refine XQ.pv (i := 9) (l' := #[tt,tt,tt,tt,tt,tt,tt,tt,tt,tt,ff,ff,ff]) rfl (by kernel_rfl) rfl (V.fieldAddr rfl fo_60_2) rfl rfl ?_
  refine XQ.pv (i := 10) (l' := #[tt,tt,tt,tt,tt,tt,tt,tt,tt,tt,tt,ff,ff]) rfl (by kernel_rfl) rfl (V.indexArr rfl rfl ar_58 (by omega)) rfl rfl ?_
  refine XQ.pv (i := 11) (l' := #[tt,tt,tt,tt,tt,tt,tt,tt,tt,tt,tt,tt,ff]) rfl (by kernel_rfl) rfl (V.fieldAddr rfl fo_57_3) rfl rfl ?_
  refine XQ.store (i := 12) (l' := #[tt,tt,tt,tt,tt,tt,tt,tt,tt,tt,tt,tt,tt]) rfl (by kernel_rfl) rfl rfl rfl .here (encQ.st_O_Refs _ _ (by omega) _) rfl sz_3_1 (fun _ hw' => ⟨fun hs => (hs 12 (by first | (simp; done) | (simp; rfl)) rfl).elim, trivial⟩) ?_
  refine XQ.done (by kernel_rfl) ?_
  refine XE.next ?_
  refine XC.keep [(5, _)] (S1 rfl) ?_
  refine XC.sr ?_
  refine XO.mv rfl rfl ?_
  refine XO.as rfl rfl ?_
  refine XO.nk [(4, _)] (S1 rfl) ?_
  refine XC.ret ?_
  refine XE.ret1 rfl rfl (post_of .h1 rfl ?_)
  exact ⟨rfl, by unfold shareO; rw [if_pos i0]⟩
 ·
  refine XC.skip ?_
  refine XE.next ?_
  refine XC.keep [(5, _)] (S1 rfl) ?_
  refine XC.sr ?_
  refine XO.mv rfl rfl ?_
  refine XO.as rfl rfl ?_
  refine XO.nk [(4, _)] (S1 rfl) ?_
  refine XC.ret ?_
  refine XE.ret1 rfl rfl (post_of .h1 rfl ?_)
  exact ⟨rfl, by unfold shareO; rw [if_neg (by assumption)]⟩
set_option maxRecDepth 10000 in
set_option maxHeartbeats 1000000 in
theorem fr_Seek (bq qo bm bx : Nat) (O : OS) (J : Int) (hJ : J ≤ 1000000) (hO : O.Inv J) (n a : Int) : Spec Tryz.prog 56 [ptr bq qo 0, .int .i64 n, .int .i64 a]
    [.cells bq qo 122 (encQ bm bx O)]
    (fun v H1 => v = .int .i64 (seekE O n a) ∧ H1 = [.cells bq qo 122 (encQ bm bx (seekO O n a))]) := by
 refine Spec.intro Tryz.func56 rfl rfl ?_
 intro W
 refine XC.sr ?_
 refine XO.as rfl rfl ?_
 refine XO.nk [(0, _), (1, _), (2, _)] (S3 rfl rfl rfl) ?_
 refine XC.seq ?_
 refine XC.sr ?_
 refine XO.mv rfl rfl ?_
 refine XO.mv rfl rfl ?_
 refine XO.call rfl (fr_Is _ _ _ _ _ _) .h1 cl_14 rfl ?_
 rintro _ _ ⟨rfl, rfl⟩
 refine XO.as rfl rfl ?_
 refine XO.nk [(0, _), (1, _), (2, _), (7, _)] (S4 rfl rfl rfl rfl) ?_
 refine XC.sr ?_
 refine XO.mv rfl rfl ?_
 refine XO.v (V.cmp rfl rfl rfl) rfl ?_
 refine XO.nk [(0, _), (1, _), (2, _), (7, _), (12, _)] (S5 rfl rfl rfl rfl rfl) ?_
 refine XC.condP rfl (fun h1 => ?_) (fun h1 => ?_)
 ·
  have i0 : O.is n ≠ 0 := by omega
  refine XC.sr ?_
  refine XO.mv rfl rfl ?_
  refine XO.as rfl rfl ?_
  refine XO.nk [(6, _)] (S1 rfl) ?_
  refine XC.ret ?_
  refine XE.thenRet ?_
  refine XE.ret1 rfl rfl (post_of .h1 rfl ?_)
  have e : seekE O n a = O.is n := by unfold seekE; rw [if_pos i0]
  exact ⟨by rw [e], by unfold seekO; rw [if_neg (by omega)]⟩
 ·
  have i0 : O.is n = 0 := by have := O.is_nn n; omega
  obtain ⟨i1, i2, i3⟩ := OS.is_0 i0
  have hra := hO.refs n i1 i2
  have haa := hO.at_ n i1 i2
  have hka := hO.kind n i1 i2 i3
  refine XC.skip ?_
  refine XE.next ?_
  refine XC.keep [(0, _), (1, _), (2, _)] (S3 rfl rfl rfl) ?_
  refine XC.seq ?_
  refine XC.sr ?_
  refine XO.mv rfl rfl ?_
  refine XO.mv rfl rfl ?_
  refine XO.v (V.nilCheckP rfl) rfl ?_
  refine XO.v (V.fieldAddr rfl fo_60_2) rfl ?_
  refine XO.v (V.indexArr rfl rfl ar_58 (by omega)) rfl ?_
  refine XO.v (V.fieldAddr rfl fo_57_0) rfl ?_
  refine XO.v (V.load rfl (inXM .here) (encQ.ld_O_Kind _ _ (by omega)) sc_3) rfl ?_
  refine XO.v (V.cmp rfl rfl rfl) rfl ?_
  refine XO.nk [(0, _), (1, _), (2, _), (21, _)] (S4 rfl rfl rfl rfl) ?_
  refine XC.condP rfl (fun h2 => ?_) (fun h2 => ?_)
  ·
   refine XC.sr ?_
   refine XO.as rfl rfl ?_
   refine XO.nk [(6, _)] (S1 rfl) ?_
   refine XC.ret ?_
   refine XE.thenRet ?_
   refine XE.ret1 rfl rfl (post_of .h1 rfl ?_)
   have e : seekE O n a = 11 := by unfold seekE; rw [if_neg (by omega), if_pos (by assumption)]
   exact ⟨by rw [e], by unfold seekO; rw [if_neg (by omega)]⟩
  ·
   refine XC.skip ?_
   refine XE.next ?_
   refine XC.keep [(0, _), (1, _), (2, _)] (S3 rfl rfl rfl) ?_
   refine XC.seq ?_
   refine XC.sr ?_
   refine XO.mv rfl rfl ?_
   refine XO.v (V.cmp rfl rfl rfl) rfl ?_
   refine XO.mv rfl rfl ?_
   refine XO.splitP (d := 24) rfl (fun h3 => ?_) (fun h3 => ?_)
   ·
    refine XO.guardSkip rfl rfl rfl rfl rfl ?_
    refine XO.guardSkip rfl rfl rfl rfl rfl ?_
    refine XO.v (V.pick rfl rfl rfl rfl) rfl ?_
    refine XO.nk [(0, _), (1, _), (2, _), (27, _)] (S4 rfl rfl rfl rfl) ?_
    refine XC.condT rfl rfl ?_
    refine XC.sr ?_
    refine XO.as rfl rfl ?_
    refine XO.nk [(6, _)] (S1 rfl) ?_
    refine XC.ret ?_
    refine XE.thenRet ?_
    refine XE.ret1 rfl rfl (post_of .h1 rfl ?_)
    have e : seekE O n a = 1 := by unfold seekE; rw [if_neg (by omega), if_neg (by omega), if_pos (by omega)]
    exact ⟨by rw [e], by unfold seekO; rw [if_neg (by omega)]⟩
   ·
    refine XO.guardRun rfl rfl rfl ?_
    refine XO.mv rfl rfl ?_
    refine XO.guardRun rfl rfl rfl ?_
    refine XO.v (V.cmp rfl rfl rfl) rfl ?_
    refine XO.v (V.pick rfl rfl rfl rfl) rfl ?_
    refine XO.nk [(0, _), (1, _), (2, _), (27, _)] (S4 rfl rfl rfl rfl) ?_
    refine XC.condP rfl (fun h4 => ?_) (fun h4 => ?_)
    ·
     refine XC.sr ?_
     refine XO.as rfl rfl ?_
     refine XO.nk [(6, _)] (S1 rfl) ?_
     refine XC.ret ?_
     refine XE.thenRet ?_
     refine XE.ret1 rfl rfl (post_of .h1 rfl ?_)
     have e : seekE O n a = 1 := by unfold seekE; rw [if_neg (by omega), if_neg (by omega), if_pos (by omega)]
     exact ⟨by rw [e], by unfold seekO; rw [if_neg (by omega)]⟩
    ·
     refine XC.skip ?_
     refine XE.next ?_
     refine XC.keep [(0, _), (1, _), (2, _)] (S3 rfl rfl rfl) ?_
     refine XC.sr ?_
     refine XO.mv rfl rfl ?_
     refine XO.mv rfl rfl ?_
     refine XO.mv rfl rfl ?_
     refine XO.v (V.nilCheckP rfl) rfl ?_
     refine XO.v (V.fieldAddr rfl fo_60_2) rfl ?_
     refine XO.v (V.indexArr rfl rfl ar_58 (by omega)) rfl ?_
     refine XO.v (V.fieldAddr rfl fo_57_2) rfl ?_
     refine XO.store rfl rfl .here (encQ.st_O_At _ _ (by omega) _) rfl sz_3_1 ?_
     refine XO.nk [] (Sub.nil _) ?_
     refine XC.sr ?_
     refine XO.as rfl rfl ?_
     refine XO.nk [(6, _)] (S1 rfl) ?_
     refine XC.ret ?_
     refine XE.ret1 rfl rfl (post_of .h1 rfl ?_)
     have e : seekE O n a = 0 := by unfold seekE; rw [if_neg (by omega), if_neg (by omega), if_neg (by omega)]
     exact ⟨by rw [e], by unfold seekO; rw [if_pos e]⟩
set_option maxRecDepth 10000 in
set_option maxHeartbeats 4000000 in
theorem fr_Close (bq qo bm bx : Nat) (O : OS) (J : Int) (hJ : J ≤ 1000000) (hO : O.Inv J) (m : FC) (hI : m.toFF.Sh) (K : Int) (hK : K ≤ 1000000) (q : PS) (hq : q.Inv K) (hL : ∀ z, m.toFF.isE z 0 = 0 → 0 ≤ m.toFF.links z) (n : Int) : Spec Tryz.prog 51 [ptr bq qo 0, .int .i64 n]
    [.cells bq qo 122 (encQ bm bx O), .cells bm 0 321 (encM m), .fam fam40 (FC.rowsN 9 m), .fam fam40 (FC.rowsK 3 m), .cells bx 0 24 (encR q)]
    (fun v H1 => v = .int .i64 (closeE m.toFF q O n) ∧ ∃ t : FC, t.toFF = closeF m.toFF O n ∧ t.rP = m.rP ∧ t.rC = m.rC ∧ H1 = [.cells bq qo 122 (encQ bm bx (closeO O n)), .cells bm 0 321 (encM t), .fam fam40 (FC.rowsN 9 t), .fam fam40 (FC.rowsK 3 t), .cells bx 0 24 (encR (closeP q O n))]) := by
 refine Spec.intro Tryz.func51 rfl rfl ?_
 intro W
 refine XC.sr ?_
 refine XO.as rfl rfl ?_
 refine XO.nk [(0, _), (1, _)] (S2 rfl rfl) ?_
 refine XC.seq ?_
 refine XC.sr ?_
 refine XO.mv rfl rfl ?_
 refine XO.mv rfl rfl ?_
 refine XO.call rfl (fr_Is _ _ _ _ _ _) .h1 cl_14 rfl ?_
 rintro _ _ ⟨rfl, rfl⟩
 refine XO.as rfl rfl ?_
 refine XO.nk [(0, _), (1, _), (5, _)] (S3 rfl rfl rfl) ?_
 refine XC.sr ?_
 refine XO.mv rfl rfl ?_
 refine XO.v (V.cmp rfl rfl rfl) rfl ?_
 refine XO.nk [(0, _), (1, _), (5, _), (11, _)] (S4 rfl rfl rfl rfl) ?_
 refine XC.condP rfl (fun h1 => ?_) (fun h1 => ?_)
 ·
  have i0 : O.is n ≠ 0 := by omega
  refine XC.sr ?_
  refine XO.mv rfl rfl ?_
  refine XO.as rfl rfl ?_
  refine XO.nk [(4, _)] (S1 rfl) ?_
  refine XC.ret ?_
  refine XE.thenRet ?_
  refine XE.ret1 rfl rfl (post_of .h5 rfl ?_)
  have eE : closeE m.toFF q O n = O.is n := by unfold closeE; rw [if_pos i0]
  have eF : closeF m.toFF O n = m.toFF := by unfold closeF; rw [if_neg (fun h => i0 h.1.1)]
  have eP : closeP q O n = q := by unfold closeP; rw [if_neg (fun h => i0 h.1.1)]
  have eO : closeO O n = O := by unfold closeO; rw [if_pos i0]
  exact ⟨by rw [eE], m, by rw [eF], rfl, rfl, by rw [eO, eP]⟩
 ·
  have i0 : O.is n = 0 := by have := O.is_nn n; omega
  obtain ⟨i1, i2, i3⟩ := OS.is_0 i0
  have hra := hO.refs n i1 i2
  have haa := hO.at_ n i1 i2
  have hka := hO.kind n i1 i2 i3
  refine XC.skip ?_
  refine XE.next ?_
  refine XC.keep [(0, _), (1, _)] (S2 rfl rfl) ?_
  refine XC.seq ?_
  refine XC.regionQ mixed (f := 13) (l := #[false, false, false, false, false, false, false, false, false, false, false, false, false]) rfl rfl XM.drawn' ?_
  refine XQ.pv (i := 0) (l' := #[tt,ff,ff,ff,ff,ff,ff,ff,ff,ff,ff,ff,ff]) rfl (by kernel_rfl) rfl (V.move rfl) rfl rfl ?_
  refine XQ.pv (i := 1) (l' := #[tt,tt,ff,ff,ff,ff,ff,ff,ff,ff,ff,ff,ff]) rfl (by kernel_rfl) rfl (V.move rfl) rfl rfl ?_
  refine XQ.pv (i := 2) (l' := #[tt,tt,tt,ff,ff,ff,ff,ff,ff,ff,ff,ff,ff]) rfl (by kernel_rfl) rfl (V.nilCheckP rfl) rfl rfl ?_
  refine XQ.pv (i := 3) (l' := #[tt,tt,tt,tt,ff,ff,ff,ff,ff,ff,ff,ff,ff]) rfl (by kernel_rfl) rfl (V.fieldAddr rfl fo_60_2) rfl rfl ?_
  refine XQ.pv (i := 4) (l' := #[tt,tt,tt,tt,tt,ff,ff,ff,ff,ff,ff,ff,ff]) rfl (by kernel_rfl) rfl (V.indexArr rfl rfl ar_58 (by omega)) rfl rfl ?_
  refine XQ.pv (i := 5) (l' := #[tt,tt,tt,tt,tt,tt,ff,ff,ff,ff,ff,ff,ff]) rfl (by kernel_rfl) rfl (V.fieldAddr rfl fo_57_3) rfl rfl ?_
  refine XQ.load (i := 6) (l' := #[tt,tt,tt,tt,tt,tt,tt,ff,ff,ff,ff,ff,ff]) (.cells _ _ _ _) [12] rfl (by kernel_rfl) rfl .here (V.load rfl inEnt (encQ.ld_O_Refs _ _ (by omega)) sc_3) rfl (by kernel_rfl) rfl ?_
  refine XQ.pv (i := 7) (l' := #[tt,tt,tt,tt,tt,tt,tt,tt,ff,ff,ff,ff,ff]) rfl (by kernel_rfl) rfl (V.sub rfl rfl _ (IntWalk.i64_in _ (by omega))) rfl rfl ?_
  refine XQ.pv (i := 8) (l' := #[tt,tt,tt,tt,tt,tt,tt,tt,tt,ff,ff,ff,ff]) rfl (by kernel_rfl) rfl (V.nilCheckP rfl) rfl rfl ?_
  refine XQ.pv (i := 9) (l' := #[tt,tt,tt,tt,tt,tt,tt,tt,tt,tt,ff,ff,ff]) rfl (by kernel_rfl) rfl (V.fieldAddr rfl fo_60_2) rfl rfl ?_
  refine XQ.pv (i := 10) (l' := #[tt,tt,tt,tt,tt,tt,tt,tt,tt,tt,tt,ff,ff]) rfl (by kernel_rfl) rfl (V.indexArr rfl rfl ar_58 (by omega)) rfl rfl ?_
  refine XQ.pv (i := 11) (l' := #[tt,tt,tt,tt,tt,tt,tt,tt,tt,tt,tt,tt,ff]) rfl (by kernel_rfl) rfl (V.fieldAddr rfl fo_57_3) rfl rfl ?_
  refine XQ.store (i := 12) (l' := #[tt,tt,tt,tt,tt,tt,tt,tt,tt,tt,tt,tt,tt]) rfl (by kernel_rfl) rfl rfl rfl .here (encQ.st_O_Refs _ _ (by omega) _) rfl sz_3_1 (fun _ hw' => ⟨fun hs => (hs 12 (by first | (simp; done) | (simp; rfl)) rfl).elim, trivial⟩) ?_
  refine XQ.done (by kernel_rfl) ?_
  refine XE.next ?_
  refine XC.keep [(0, _), (1, _)] (S2 rfl rfl) ?_
  refine XC.sr ?_
  refine XO.mv rfl rfl ?_
  refine XO.mv rfl rfl ?_
  refine XO.v (V.nilCheckP rfl) rfl ?_
  refine XO.v (V.fieldAddr rfl fo_60_2) rfl ?_
  refine XO.v (V.indexArr rfl rfl ar_58 (by omega)) rfl ?_
  refine XO.v (V.loadAgg rfl (inXM .here) (encQ.un_agg _ _ (by omega)) ag_57 sz_57_5) rfl ?_
  refine XO.allocZ (z := .agg (encQ.arr ⟨0, 0, 0, 0, false⟩)) (m := 5) (C := encQ.cell ⟨0, 0, 0, 0, false⟩) (by kernel_rfl) rfl (encQ.box _) rfl ?_
  intro bx2
  refine XO.storeAgg rfl rfl .here (encQ.ust _ _) ⟨rfl, rfl⟩ sz_57_5 ?_
  refine XO.nk [(0, _), (1, _), (6, _)] (S3 rfl rfl rfl) ?_
  refine XC.seq ?_
  refine XC.sr ?_
  refine XO.v (V.fieldAddr rfl fo_57_3) rfl ?_
  refine XO.v (V.load rfl (inXM .here) (encQ.u_3 _) sc_3) rfl ?_
  refine XO.v (V.cmp rfl rfl rfl) rfl ?_
  refine XO.nk [(0, _), (1, _), (6, _), (33, _)] (S4 rfl rfl rfl rfl) ?_
  refine XC.condP rfl (fun h2 => ?_) (fun h2 => ?_)
  ·
   have e9 : fset O.refs n (O.refs n - 1) n = O.refs n - 1 := fset_eq _ _ _
   have h9 : fset O.refs n (O.refs n - 1) n > 0 := h2
   have hrg : 0 < O.refs n - 1 := by omega
   refine XC.sr ?_
   refine XO.as rfl rfl ?_
   refine XO.nk [(4, _)] (S1 rfl) ?_
   refine XC.ret ?_
   refine XE.thenRet ?_
   refine XE.ret1 rfl rfl (post_of (.cons (.there .here) (.cons (.there .here) (.cons (.there .here) (.cons (.there .here) (.cons (.there .here) .nil))))) rfl ?_)
   have eE : closeE m.toFF q O n = 0 := by unfold closeE; rw [if_neg (by omega), if_pos hrg]
   have eF : closeF m.toFF O n = m.toFF := by unfold closeF; rw [if_neg (fun h => h.1.2 hrg)]
   have eP : closeP q O n = q := by unfold closeP; rw [if_neg (fun h => h.1.2 hrg)]
   have eO : closeO O n = downO O n := by unfold closeO; rw [if_neg (by omega), if_pos hrg]
   exact ⟨by rw [eE], m, by rw [eF], rfl, rfl, by rw [eO, eP]; rfl⟩
  ·
   have e9 : fset O.refs n (O.refs n - 1) n = O.refs n - 1 := fset_eq _ _ _
   have h9 : ¬ fset O.refs n (O.refs n - 1) n > 0 := h2
   have hrg : ¬ 0 < O.refs n - 1 := by omega
   refine XC.skip ?_
   refine XE.next ?_
   refine XC.keep [(0, _), (1, _), (6, _)] (S3 rfl rfl rfl) ?_
   refine XC.sr ?_
   refine XO.mv rfl rfl ?_
   refine XO.mv rfl rfl ?_
   refine XO.v (V.build (vs := #[]) rfl (v := .agg (encQ.arr ⟨0, 0, 0, 0, false⟩)) (fun _ => by kernel_rfl)) rfl ?_
   refine XO.v (V.nilCheckP rfl) rfl ?_
   refine XO.v (V.fieldAddr rfl fo_60_2) rfl ?_
   refine XO.v (V.indexArr rfl rfl ar_58 (by omega)) rfl ?_
   refine XO.storeAgg rfl rfl (.there .here) (encQ.put (downO O n) n 0 0 false 0 ⟨i1, i2⟩) ⟨rfl, rfl⟩ sz_57_5 ?_
   refine XO.nk [(0, _), (6, _)] (S2 rfl rfl) ?_
   refine XC.seq ?_
   refine XC.sr ?_
   refine XO.v (V.fieldAddr rfl fo_57_0) rfl ?_
   refine XO.v (V.load rfl (inXM .here) (encQ.u_0 _) sc_3) rfl ?_
   refine XO.v (V.cmp rfl rfl rfl) rfl ?_
   refine XO.nk [(0, _), (6, _), (42, _)] (S3 rfl rfl rfl) ?_
   refine XC.condP rfl (fun h3 => ?_) (fun h3 => ?_)
   ·
    have hk : O.kind n = 1 := h3
    refine XC.seq ?_
    refine XC.regionQ mixed (f := 8) (l := #[false, false, false, false, false, false, false, false]) rfl rfl XM.drawn' ?_
    refine XQ.pv (i := 0) (l' := #[tt,ff,ff,ff,ff,ff,ff,ff]) rfl (by kernel_rfl) rfl (V.move rfl) rfl rfl ?_
    refine XQ.pv (i := 1) (l' := #[tt,tt,ff,ff,ff,ff,ff,ff]) rfl (by kernel_rfl) rfl (V.nilCheckP rfl) rfl rfl ?_
    refine XQ.pv (i := 2) (l' := #[tt,tt,tt,ff,ff,ff,ff,ff]) rfl (by kernel_rfl) rfl (V.fieldAddr rfl fo_60_0) rfl rfl ?_
    refine XQ.load (i := 3) (l' := #[tt,tt,tt,tt,ff,ff,ff,ff]) (.cells _ _ _ _) [6] rfl (by kernel_rfl) rfl (.there .here) (V.load rfl inEnt (encQ.ld_F _) sc_27) rfl (by kernel_rfl) rfl ?_
    refine XQ.pv (i := 4) (l' := #[tt,tt,tt,tt,tt,ff,ff,ff]) rfl (by kernel_rfl) rfl (V.fieldAddr rfl fo_57_1) rfl rfl ?_
    refine XQ.load (i := 5) (l' := #[tt,tt,tt,tt,tt,tt,ff,ff]) (.cells _ _ _ _) [6] rfl (by kernel_rfl) rfl .here (V.load rfl inEnt (encQ.u_1 _) sc_3) rfl (by kernel_rfl) rfl ?_
    refine XQ.call (i := 6) (l' := #[tt,tt,tt,tt,tt,tt,tt,ff]) rfl (by kernel_rfl) rfl rfl (r_Let _ _ _ hI (O.n n) (hL _)) (.cons (.t2 .here) (.cons (.t2 .here) (.cons (.t2 .here) .nil))) cl_35 rfl (by rintro _ _ ⟨rfl, t, ht, tp, tc, rfl⟩; all_goals (intro _ hw'; exact ⟨fun hs => (hs 6 (by first | (simp; done) | (simp; rfl)) rfl).elim, fun hs => (hs 6 (by first | (simp; done) | (simp; rfl)) rfl).elim, trivial⟩)) ?_
    rintro _ _ ⟨rfl, t, ht, tp, tc, rfl⟩
    refine XQ.pv (i := 7) (l' := #[tt,tt,tt,tt,tt,tt,tt,tt]) rfl (by kernel_rfl) rfl (V.assign rfl) rfl rfl ?_
    refine XQ.done (by kernel_rfl) ?_
    refine XE.next ?_
    refine XC.keep [(4, _)] (S1 rfl) ?_
    refine XC.ret ?_
    refine XE.thenRet ?_
    refine XE.ret1 rfl rfl (post_of (.cons (.t4 .here) (.cons .here (.cons .here (.cons .here (.cons (.there .here) .nil))))) rfl ?_)
    have eE : closeE m.toFF q O n = m.toFF.letE (O.n n) := by unfold closeE; rw [if_neg (by omega), if_neg hrg, if_pos hk]
    have eF : closeF m.toFF O n = m.toFF.letF (O.n n) := by unfold closeF; rw [if_pos ⟨⟨i0, hrg⟩, hk⟩]
    have eP : closeP q O n = q := by unfold closeP; rw [if_neg (fun h => h.2 hk)]
    have eO : closeO O n = O.clr n := by unfold closeO; rw [if_neg (by omega), if_neg hrg]
    exact ⟨by rw [eE], t, by rw [eF]; exact ht, tp, tc, by rw [eO, eP, ← OS.clr_down]; rfl⟩
   ·
    have hk : ¬ O.kind n = 1 := h3
    refine XC.skip ?_
    refine XE.next ?_
    refine XC.keep [(0, _), (6, _)] (S2 rfl rfl) ?_
    refine XC.seq ?_
    refine XC.regionQ mixed (f := 11) (l := #[false, false, false, false, false, false, false, false, false, false, false]) rfl rfl XM.drawn' ?_
    refine XQ.pv (i := 0) (l' := #[tt,ff,ff,ff,ff,ff,ff,ff,ff,ff,ff]) rfl (by kernel_rfl) rfl (V.move rfl) rfl rfl ?_
    refine XQ.pv (i := 1) (l' := #[tt,tt,ff,ff,ff,ff,ff,ff,ff,ff,ff]) rfl (by kernel_rfl) rfl (V.nilCheckP rfl) rfl rfl ?_
    refine XQ.pv (i := 2) (l' := #[tt,tt,tt,ff,ff,ff,ff,ff,ff,ff,ff]) rfl (by kernel_rfl) rfl (V.fieldAddr rfl fo_60_1) rfl rfl ?_
    refine XQ.load (i := 3) (l' := #[tt,tt,tt,tt,ff,ff,ff,ff,ff,ff,ff]) (.cells _ _ _ _) [9] rfl (by kernel_rfl) rfl (.there .here) (V.load rfl inEnt (encQ.ld_P _) sc_47) rfl (by kernel_rfl) rfl ?_
    refine XQ.pv (i := 4) (l' := #[tt,tt,tt,tt,tt,ff,ff,ff,ff,ff,ff]) rfl (by kernel_rfl) rfl (V.fieldAddr rfl fo_57_1) rfl rfl ?_
    refine XQ.load (i := 5) (l' := #[tt,tt,tt,tt,tt,tt,ff,ff,ff,ff,ff]) (.cells _ _ _ _) [9] rfl (by kernel_rfl) rfl .here (V.load rfl inEnt (encQ.u_1 _) sc_3) rfl (by kernel_rfl) rfl ?_
    refine XQ.pv (i := 6) (l' := #[tt,tt,tt,tt,tt,tt,tt,ff,ff,ff,ff]) rfl (by kernel_rfl) rfl (V.fieldAddr rfl fo_57_0) rfl rfl ?_
    refine XQ.load (i := 7) (l' := #[tt,tt,tt,tt,tt,tt,tt,tt,ff,ff,ff]) (.cells _ _ _ _) [9] rfl (by kernel_rfl) rfl .here (V.load rfl inEnt (encQ.u_0 _) sc_3) rfl (by kernel_rfl) rfl ?_
    refine XQ.pv (i := 8) (l' := #[tt,tt,tt,tt,tt,tt,tt,tt,tt,ff,ff]) rfl (by kernel_rfl) rfl (V.cmp rfl rfl rfl) rfl rfl ?_
    refine XQ.call (i := 9) (l' := #[tt,tt,tt,tt,tt,tt,tt,tt,tt,tt,ff]) rfl (by kernel_rfl) rfl rfl (pr_Turn _ _ K hK q hq (O.n n) (decide (O.kind n = 3)) (-1) (by omega)) (.cons (.t5 .here) .nil) cl_90 rfl (by rintro _ _ ⟨rfl, rfl⟩; all_goals (intro _ hw'; exact ⟨fun hs => (hs 9 (by first | (simp; done) | (simp; rfl)) rfl).elim, fun hs => (hs 9 (by first | (simp; done) | (simp; rfl)) rfl).elim, fun hs => (hs 9 (by first | (simp; done) | (simp; rfl)) rfl).elim, trivial⟩)) ?_
    rintro _ _ ⟨rfl, rfl⟩
    refine XQ.pv (i := 10) (l' := #[tt,tt,tt,tt,tt,tt,tt,tt,tt,tt,tt]) rfl (by kernel_rfl) rfl (V.assign rfl) rfl rfl ?_
    refine XQ.done (by kernel_rfl) ?_
    refine XE.next ?_
    refine XC.keep [(4, _)] (S1 rfl) ?_
    refine XC.ret ?_
    refine XE.ret1 rfl rfl (post_of (.cons (.t2 .here) (.cons (.t2 .here) (.cons (.t2 .here) (.cons (.t2 .here) .h1)))) rfl ?_)
    have eE : closeE m.toFF q O n = (q.turn (O.n n) (decide (O.kind n = 3)) (-1)).1 := by unfold closeE; rw [if_neg (by omega), if_neg hrg, if_neg hk]
    have eF : closeF m.toFF O n = m.toFF := by unfold closeF; rw [if_neg (fun h => hk h.2)]
    have eP : closeP q O n = (q.turn (O.n n) (decide (O.kind n = 3)) (-1)).2 := by unfold closeP; rw [if_pos ⟨⟨i0, hrg⟩, hk⟩]
    have eO : closeO O n = O.clr n := by unfold closeO; rw [if_neg (by omega), if_neg hrg]
    exact ⟨by rw [eE], m, by rw [eF], rfl, rfl, by rw [eO, eP, ← OS.clr_down]; rfl⟩
set_option maxRecDepth 10000 in
set_option maxHeartbeats 4000000 in
theorem fr_Read (bq qo bm bx : Nat) (O : OS) (J : Int) (hJ : J ≤ 1000000) (hO : O.Inv J) (m : FC) (hI : m.toFF.Sh) (K : Int) (hK : K ≤ 1000000) (q : PS) (hq : q.Inv K) (n k : Int) : Spec Tryz.prog 53 [ptr bq qo 0, .int .i64 n, .int .i64 k]
    [.cells bq qo 122 (encQ bm bx O), .cells bm 0 321 (encM m), .fam fam40 (FC.rowsN 9 m), .fam fam40 (FC.rowsK 3 m), .cells bx 0 24 (encR q)]
    (fun v H1 => v = .tuple #[.string (oreadV m.toFF q O n k), .int .i64 (oreadE m.toFF q O n k)] ∧ H1 = [.cells bq qo 122 (encQ bm bx (oreadO m.toFF O n k)), .cells bm 0 321 (encM m), .fam fam40 (FC.rowsN 9 m), .fam fam40 (FC.rowsK 3 m), .cells bx 0 24 (encR (oreadP q O n k))]) := by
 refine Spec.intro Tryz.func53 rfl rfl ?_
 intro W
 refine XC.sr ?_
 refine XO.as rfl rfl ?_
 refine XO.as rfl rfl ?_
 refine XO.nk [(0, _), (1, _), (2, _)] (S3 rfl rfl rfl) ?_
 refine XC.seq ?_
 refine XC.sr ?_
 refine XO.mv rfl rfl ?_
 refine XO.mv rfl rfl ?_
 refine XO.call rfl (fr_Is _ _ _ _ _ _) .h1 cl_14 rfl ?_
 rintro _ _ ⟨rfl, rfl⟩
 refine XO.as rfl rfl ?_
 refine XO.nk [(0, _), (1, _), (2, _), (8, _)] (S4 rfl rfl rfl rfl) ?_
 refine XC.sr ?_
 refine XO.mv rfl rfl ?_
 refine XO.v (V.cmp rfl rfl rfl) rfl ?_
 refine XO.nk [(0, _), (1, _), (2, _), (8, _), (16, _)] (S5 rfl rfl rfl rfl rfl) ?_
 refine XC.condP rfl (fun h1 => ?_) (fun h1 => ?_)
 ·
  have i0 : O.is n ≠ 0 := by omega
  refine XC.sr ?_
  refine XO.mv rfl rfl ?_
  refine XO.as rfl rfl ?_
  refine XO.as rfl rfl ?_
  refine XO.nk [(6, _), (7, _)] (S2 rfl rfl) ?_
  refine XC.ret ?_
  refine XE.thenRet ?_
  refine XE.ret2 rfl rfl rfl (post_of .h5 rfl ?_)
  have eE : oreadE m.toFF q O n k = O.is n := by unfold oreadE; rw [if_pos i0]
  have eV : oreadV m.toFF q O n k = ⟨#[]⟩ := by unfold oreadV; rw [if_pos i0]
  have eO : oreadO m.toFF O n k = O := by unfold oreadO; rw [if_neg (fun h => i0 h.1)]
  have eP : oreadP q O n k = q := by unfold oreadP; rw [if_neg (fun h => i0 h.1)]
  exact ⟨by rw [eE, eV], by rw [eO, eP]⟩
 ·
  have i0 : O.is n = 0 := by have := O.is_nn n; omega
  obtain ⟨i1, i2, i3⟩ := OS.is_0 i0
  have hra := hO.refs n i1 i2
  have haa := hO.at_ n i1 i2
  have hka := hO.kind n i1 i2 i3
  refine XC.skip ?_
  refine XE.next ?_
  refine XC.keep [(0, _), (1, _), (2, _)] (S3 rfl rfl rfl) ?_
  refine XC.sr ?_
  refine XO.mv rfl rfl ?_
  refine XO.mv rfl rfl ?_
  refine XO.v (V.nilCheckP rfl) rfl ?_
  refine XO.v (V.fieldAddr rfl fo_60_2) rfl ?_
  refine XO.v (V.indexArr rfl rfl ar_58 (by omega)) rfl ?_
  refine XO.as rfl rfl ?_
  refine XO.nk [(0, _), (2, _), (9, _)] (S3 rfl rfl rfl) ?_
  refine XC.seq ?_
  refine XC.sr ?_
  refine XO.mv rfl rfl ?_
  refine XO.v (V.nilCheckP rfl) rfl ?_
  refine XO.v (V.fieldAddr rfl fo_57_0) rfl ?_
  refine XO.v (V.load rfl (inXM .here) (encQ.ld_O_Kind _ _ (by omega)) sc_3) rfl ?_
  refine XO.v (V.cmp rfl rfl rfl) rfl ?_
  refine XO.nk [(0, _), (2, _), (9, _), (27, _)] (S4 rfl rfl rfl rfl) ?_
  refine XC.condP rfl (fun h2 => ?_) (fun h2 => ?_)
  ·
   refine XC.sr ?_
   refine XO.as rfl rfl ?_
   refine XO.as rfl rfl ?_
   refine XO.nk [(6, _), (7, _)] (S2 rfl rfl) ?_
   refine XC.ret ?_
   refine XE.thenRet ?_
   refine XE.ret2 rfl rfl rfl (post_of .h5 rfl ?_)
   have hk : O.kind n = 3 := by assumption
   have eE : oreadE m.toFF q O n k = 8 := by unfold oreadE; rw [if_neg (by omega), if_pos hk]
   have eV : oreadV m.toFF q O n k = ⟨#[]⟩ := by unfold oreadV; rw [if_neg (by omega), if_pos hk]
   have eO : oreadO m.toFF O n k = O := by unfold oreadO; rw [if_neg (fun h => h.2.1 hk)]
   have eP : oreadP q O n k = q := by unfold oreadP; rw [if_neg (fun h => by omega)]
   exact ⟨by rw [eE, eV], by rw [eO, eP]⟩
  ·
   refine XC.skip ?_
   refine XE.next ?_
   refine XC.keep [(0, _), (2, _), (9, _)] (S3 rfl rfl rfl) ?_
   refine XC.seq ?_
   refine XC.sr ?_
   refine XO.mv rfl rfl ?_
   refine XO.v (V.nilCheckP rfl) rfl ?_
   refine XO.v (V.fieldAddr rfl fo_57_0) rfl ?_
   refine XO.v (V.load rfl (inXM .here) (encQ.ld_O_Kind _ _ (by omega)) sc_3) rfl ?_
   refine XO.v (V.cmp rfl rfl rfl) rfl ?_
   refine XO.nk [(0, _), (2, _), (9, _), (32, _)] (S4 rfl rfl rfl rfl) ?_
   refine XC.condP rfl (fun h3 => ?_) (fun h3 => ?_)
   ·
    refine XC.seq ?_
    refine XC.regionQ mixed (f := 14) (l := #[false, false, false, false, false, false, false, false, false, false, false, false, false, false]) rfl rfl XM.drawn' ?_
    refine XQ.pv (i := 0) (l' := #[tt,ff,ff,ff,ff,ff,ff,ff,ff,ff,ff,ff,ff,ff]) rfl (by kernel_rfl) rfl (V.move rfl) rfl rfl ?_
    refine XQ.pv (i := 1) (l' := #[tt,tt,ff,ff,ff,ff,ff,ff,ff,ff,ff,ff,ff,ff]) rfl (by kernel_rfl) rfl (V.nilCheckP rfl) rfl rfl ?_
    refine XQ.pv (i := 2) (l' := #[tt,tt,tt,ff,ff,ff,ff,ff,ff,ff,ff,ff,ff,ff]) rfl (by kernel_rfl) rfl (V.fieldAddr rfl fo_60_1) rfl rfl ?_
    refine XQ.load (i := 3) (l' := #[tt,tt,tt,tt,ff,ff,ff,ff,ff,ff,ff,ff,ff,ff]) (.cells _ _ _ _) [9] rfl (by kernel_rfl) rfl .here (V.load rfl inEnt (encQ.ld_P _) sc_47) rfl (by kernel_rfl) rfl ?_
    refine XQ.pv (i := 4) (l' := #[tt,tt,tt,tt,tt,ff,ff,ff,ff,ff,ff,ff,ff,ff]) rfl (by kernel_rfl) rfl (V.move rfl) rfl rfl ?_
    refine XQ.pv (i := 5) (l' := #[tt,tt,tt,tt,tt,tt,ff,ff,ff,ff,ff,ff,ff,ff]) rfl (by kernel_rfl) rfl (V.nilCheckP rfl) rfl rfl ?_
    refine XQ.pv (i := 6) (l' := #[tt,tt,tt,tt,tt,tt,tt,ff,ff,ff,ff,ff,ff,ff]) rfl (by kernel_rfl) rfl (V.fieldAddr rfl fo_57_1) rfl rfl ?_
    refine XQ.load (i := 7) (l' := #[tt,tt,tt,tt,tt,tt,tt,tt,ff,ff,ff,ff,ff,ff]) (.cells _ _ _ _) [9] rfl (by kernel_rfl) rfl .here (V.load rfl inEnt (encQ.ld_O_N _ _ (by omega)) sc_3) rfl (by kernel_rfl) rfl ?_
    refine XQ.pv (i := 8) (l' := #[tt,tt,tt,tt,tt,tt,tt,tt,tt,ff,ff,ff,ff,ff]) rfl (by kernel_rfl) rfl (V.move rfl) rfl rfl ?_
    refine XQ.call (i := 9) (l' := #[tt,tt,tt,tt,tt,tt,tt,tt,tt,tt,ff,ff,ff,ff]) rfl (by kernel_rfl) rfl rfl (pr_Read _ _ K hK q hq _ _) (.cons (.t4 .here) .nil) cl_92 rfl (by rintro _ _ ⟨rfl, rfl⟩; all_goals (intro _ hw'; exact ⟨fun hs => (hs 9 (by first | (simp; done) | (simp; rfl)) rfl).elim, fun hs => (hs 9 (by first | (simp; done) | (simp; rfl)) rfl).elim, trivial⟩)) ?_
    rintro _ _ ⟨rfl, rfl⟩
    refine XQ.pv (i := 10) (l' := #[tt,tt,tt,tt,tt,tt,tt,tt,tt,tt,tt,ff,ff,ff]) rfl (by kernel_rfl) rfl (V.extract rfl rfl) rfl rfl ?_
    refine XQ.pv (i := 11) (l' := #[tt,tt,tt,tt,tt,tt,tt,tt,tt,tt,tt,tt,ff,ff]) rfl (by kernel_rfl) rfl (V.extract rfl rfl) rfl rfl ?_
    refine XQ.pv (i := 12) (l' := #[tt,tt,tt,tt,tt,tt,tt,tt,tt,tt,tt,tt,tt,ff]) rfl (by kernel_rfl) rfl (V.assign rfl) rfl rfl ?_
    refine XQ.pv (i := 13) (l' := #[tt,tt,tt,tt,tt,tt,tt,tt,tt,tt,tt,tt,tt,tt]) rfl (by kernel_rfl) rfl (V.assign rfl) rfl rfl ?_
    refine XQ.done (by kernel_rfl) ?_
    refine XE.next ?_
    refine XC.keep [(6, _), (7, _)] (S2 rfl rfl) ?_
    refine XC.ret ?_
    refine XE.thenRet ?_
    refine XE.ret2 rfl rfl rfl (post_of (.cons (.there .here) (.cons (.there .here) (.cons (.there .here) (.cons (.there .here) .h1)))) rfl ?_)
    have hk : ¬ O.kind n = 3 := by assumption
    have h2 : O.kind n = 2 := by assumption
    have eE : oreadE m.toFF q O n k = (q.read (O.n n) k).2.1 := by unfold oreadE; rw [if_neg (by omega), if_neg hk, if_pos h2]
    have eV : oreadV m.toFF q O n k = (q.read (O.n n) k).1 := by unfold oreadV; rw [if_neg (by omega), if_neg hk, if_pos h2]
    have eO : oreadO m.toFF O n k = O := by unfold oreadO; rw [if_neg (fun h => h.2.2 h2)]
    have eP : oreadP q O n k = (q.read (O.n n) k).2.2 := by unfold oreadP; rw [if_pos ⟨i0, h2⟩]
    exact ⟨by rw [eE, eV], by rw [eO, eP]⟩
   ·
    refine XC.skip ?_
    refine XE.next ?_
    refine XC.keep [(0, _), (2, _), (9, _)] (S3 rfl rfl rfl) ?_
    refine XC.seq ?_
    refine XC.regionQ mixed (f := 19) (l := #[false, false, false, false, false, false, false, false, false, false, false, false, false, false, false, false, false, false, false]) rfl rfl XM.drawn' ?_
    refine XQ.pv (i := 0) (l' := #[tt,ff,ff,ff,ff,ff,ff,ff,ff,ff,ff,ff,ff,ff,ff,ff,ff,ff,ff]) rfl (by kernel_rfl) rfl (V.move rfl) rfl rfl ?_
    refine XQ.pv (i := 1) (l' := #[tt,tt,ff,ff,ff,ff,ff,ff,ff,ff,ff,ff,ff,ff,ff,ff,ff,ff,ff]) rfl (by kernel_rfl) rfl (V.nilCheckP rfl) rfl rfl ?_
    refine XQ.pv (i := 2) (l' := #[tt,tt,tt,ff,ff,ff,ff,ff,ff,ff,ff,ff,ff,ff,ff,ff,ff,ff,ff]) rfl (by kernel_rfl) rfl (V.fieldAddr rfl fo_60_0) rfl rfl ?_
    refine XQ.load (i := 3) (l' := #[tt,tt,tt,tt,ff,ff,ff,ff,ff,ff,ff,ff,ff,ff,ff,ff,ff,ff,ff]) (.cells _ _ _ _) [13] rfl (by kernel_rfl) rfl .here (V.load rfl inEnt (encQ.ld_F _) sc_27) rfl (by kernel_rfl) rfl ?_
    refine XQ.pv (i := 4) (l' := #[tt,tt,tt,tt,tt,ff,ff,ff,ff,ff,ff,ff,ff,ff,ff,ff,ff,ff,ff]) rfl (by kernel_rfl) rfl (V.move rfl) rfl rfl ?_
    refine XQ.pv (i := 5) (l' := #[tt,tt,tt,tt,tt,tt,ff,ff,ff,ff,ff,ff,ff,ff,ff,ff,ff,ff,ff]) rfl (by kernel_rfl) rfl (V.nilCheckP rfl) rfl rfl ?_
    refine XQ.pv (i := 6) (l' := #[tt,tt,tt,tt,tt,tt,tt,ff,ff,ff,ff,ff,ff,ff,ff,ff,ff,ff,ff]) rfl (by kernel_rfl) rfl (V.fieldAddr rfl fo_57_1) rfl rfl ?_
    refine XQ.load (i := 7) (l' := #[tt,tt,tt,tt,tt,tt,tt,tt,ff,ff,ff,ff,ff,ff,ff,ff,ff,ff,ff]) (.cells _ _ _ _) [13] rfl (by kernel_rfl) rfl .here (V.load rfl inEnt (encQ.ld_O_N _ _ (by omega)) sc_3) rfl (by kernel_rfl) rfl ?_
    refine XQ.pv (i := 8) (l' := #[tt,tt,tt,tt,tt,tt,tt,tt,tt,ff,ff,ff,ff,ff,ff,ff,ff,ff,ff]) rfl (by kernel_rfl) rfl (V.move rfl) rfl rfl ?_
    refine XQ.pv (i := 9) (l' := #[tt,tt,tt,tt,tt,tt,tt,tt,tt,tt,ff,ff,ff,ff,ff,ff,ff,ff,ff]) rfl (by kernel_rfl) rfl (V.nilCheckP rfl) rfl rfl ?_
    refine XQ.pv (i := 10) (l' := #[tt,tt,tt,tt,tt,tt,tt,tt,tt,tt,tt,ff,ff,ff,ff,ff,ff,ff,ff]) rfl (by kernel_rfl) rfl (V.fieldAddr rfl fo_57_2) rfl rfl ?_
    refine XQ.load (i := 11) (l' := #[tt,tt,tt,tt,tt,tt,tt,tt,tt,tt,tt,tt,ff,ff,ff,ff,ff,ff,ff]) (.cells _ _ _ _) [13] rfl (by kernel_rfl) rfl .here (V.load rfl inEnt (encQ.ld_O_At _ _ (by omega)) sc_3) rfl (by kernel_rfl) rfl ?_
    refine XQ.pv (i := 12) (l' := #[tt,tt,tt,tt,tt,tt,tt,tt,tt,tt,tt,tt,tt,ff,ff,ff,ff,ff,ff]) rfl (by kernel_rfl) rfl (V.move rfl) rfl rfl ?_
    refine XQ.call (i := 13) (l' := #[tt,tt,tt,tt,tt,tt,tt,tt,tt,tt,tt,tt,tt,tt,ff,ff,ff,ff,ff]) rfl (by kernel_rfl) rfl rfl (r_Read _ _ _ hI _ _ _) (.cons (.there .here) .nil) cl_40 rfl (by rintro _ _ ⟨rfl, rfl⟩; all_goals (intro _ hw'; exact ⟨fun hs => (hs 13 (by first | (simp; done) | (simp; rfl)) rfl).elim, fun hs => (hs 13 (by first | (simp; done) | (simp; rfl)) rfl).elim, fun hs => (hs 13 (by first | (simp; done) | (simp; rfl)) rfl).elim, trivial⟩)) ?_
    rintro _ _ ⟨rfl, rfl⟩
    refine XQ.pv (i := 14) (l' := #[tt,tt,tt,tt,tt,tt,tt,tt,tt,tt,tt,tt,tt,tt,tt,ff,ff,ff,ff]) rfl (by kernel_rfl) rfl (V.move rfl) rfl rfl ?_
    refine XQ.pv (i := 15) (l' := #[tt,tt,tt,tt,tt,tt,tt,tt,tt,tt,tt,tt,tt,tt,tt,tt,ff,ff,ff]) rfl (by kernel_rfl) rfl (V.extract rfl rfl) rfl rfl ?_
    refine XQ.pv (i := 16) (l' := #[tt,tt,tt,tt,tt,tt,tt,tt,tt,tt,tt,tt,tt,tt,tt,tt,tt,ff,ff]) rfl (by kernel_rfl) rfl (V.extract rfl rfl) rfl rfl ?_
    refine XQ.pv (i := 17) (l' := #[tt,tt,tt,tt,tt,tt,tt,tt,tt,tt,tt,tt,tt,tt,tt,tt,tt,tt,ff]) rfl (by kernel_rfl) rfl (V.assign rfl) rfl rfl ?_
    refine XQ.pv (i := 18) (l' := #[tt,tt,tt,tt,tt,tt,tt,tt,tt,tt,tt,tt,tt,tt,tt,tt,tt,tt,tt]) rfl (by kernel_rfl) rfl (V.assign rfl) rfl rfl ?_
    refine XQ.done (by kernel_rfl) ?_
    refine XE.next ?_
    refine XC.keep [(9, _), (10, _), (11, _)] (S3 rfl rfl rfl) ?_
    refine XC.sr ?_
    have hrl := FF.readV_le hI (O.n n) (O.at_ n) k
    refine XO.mv rfl rfl ?_
    refine XO.mv rfl rfl ?_
    refine XO.v (V.nilCheckP rfl) rfl ?_
    refine XO.v (V.fieldAddr rfl fo_57_2) rfl ?_
    refine XO.v (V.load rfl (inXM (.there .here)) (encQ.ld_O_At _ _ (by omega)) sc_3) rfl ?_
    refine XO.mv rfl rfl ?_
    refine XO.v (V.lenStr rfl Tryz.underlying9) rfl ?_
    refine XO.v (V.add rfl rfl _ (IntWalk.i64_in _ (by omega))) rfl ?_
    refine XO.v (V.nilCheckP rfl) rfl ?_
    refine XO.v (V.fieldAddr rfl fo_57_2) rfl ?_
    refine XO.store rfl rfl (.there .here) (encQ.st_O_At _ _ (by omega) _) rfl sz_3_1 ?_
    refine XO.nk [(10, _), (11, _)] (S2 rfl rfl) ?_
    refine XC.sr ?_
    refine XO.mv rfl rfl ?_
    refine XO.mv rfl rfl ?_
    refine XO.as rfl rfl ?_
    refine XO.as rfl rfl ?_
    refine XO.nk [(6, _), (7, _)] (S2 rfl rfl) ?_
    refine XC.ret ?_
    refine XE.ret2 rfl rfl rfl (post_of (.cons (.there .here) .h4) rfl ?_)
    have hk : ¬ O.kind n = 3 := by assumption
    have h2 : ¬ O.kind n = 2 := by assumption
    have eE : oreadE m.toFF q O n k = m.toFF.readE (O.n n) (O.at_ n) k := by unfold oreadE; rw [if_neg (by omega), if_neg hk, if_neg h2]
    have eV : oreadV m.toFF q O n k = m.toFF.readV (O.n n) (O.at_ n) k := by unfold oreadV; rw [if_neg (by omega), if_neg hk, if_neg h2]
    have eO : oreadO m.toFF O n k = O.move n ((m.toFF.readV (O.n n) (O.at_ n) k).size) := by unfold oreadO; rw [if_pos ⟨i0, hk, h2⟩]
    have eP : oreadP q O n k = q := by unfold oreadP; rw [if_neg (fun h => h2 h.2)]
    exact ⟨by rw [eE, eV], by rw [eO, eP]; rfl⟩
set_option maxRecDepth 10000 in
set_option maxHeartbeats 4000000 in
theorem fr_Write (bq qo bm bx : Nat) (O : OS) (J : Int) (hJ : J ≤ 1000000) (hO : O.Inv J) (m : FC) (hI : m.toFF.Sh) (K : Int) (hK : K ≤ 1000000) (q : PS) (hq : q.Inv K) (n : Int) (x : ByteArray) (hx : x.size ≤ 1000000) : Spec Tryz.prog 54 [ptr bq qo 0, .int .i64 n, .string x]
    [.cells bq qo 122 (encQ bm bx O), .cells bm 0 321 (encM m), .fam fam40 (FC.rowsN 9 m), .fam fam40 (FC.rowsK 3 m), .cells bx 0 24 (encR q)]
    (fun v H1 => v = .tuple #[.int .i64 (owriteV m.toFF q O n x), .int .i64 (owriteE m.toFF q O n x)] ∧ ∃ t : FC, t.toFF = owriteF m.toFF O n x ∧ t.rP = m.rP ∧ t.rC = m.rC ∧ H1 = [.cells bq qo 122 (encQ bm bx (owriteO m.toFF O n x)), .cells bm 0 321 (encM t), .fam fam40 (FC.rowsN 9 t), .fam fam40 (FC.rowsK 3 t), .cells bx 0 24 (encR (owriteP q O n x))]) := by
 refine Spec.intro Tryz.func54 rfl rfl ?_
 intro W
 refine XC.sr ?_
 refine XO.as rfl rfl ?_
 refine XO.as rfl rfl ?_
 refine XO.nk [(0, _), (1, _), (2, _)] (S3 rfl rfl rfl) ?_
 refine XC.seq ?_
 refine XC.sr ?_
 refine XO.mv rfl rfl ?_
 refine XO.mv rfl rfl ?_
 refine XO.call rfl (fr_Is _ _ _ _ _ _) .h1 cl_14 rfl ?_
 rintro _ _ ⟨rfl, rfl⟩
 refine XO.as rfl rfl ?_
 refine XO.nk [(0, _), (1, _), (2, _), (8, _)] (S4 rfl rfl rfl rfl) ?_
 refine XC.sr ?_
 refine XO.mv rfl rfl ?_
 refine XO.v (V.cmp rfl rfl rfl) rfl ?_
 refine XO.nk [(0, _), (1, _), (2, _), (8, _), (15, _)] (S5 rfl rfl rfl rfl rfl) ?_
 refine XC.condP rfl (fun h1 => ?_) (fun h1 => ?_)
 ·
  have i0 : O.is n ≠ 0 := by omega
  refine XC.sr ?_
  refine XO.mv rfl rfl ?_
  refine XO.as rfl rfl ?_
  refine XO.as rfl rfl ?_
  refine XO.nk [(6, _), (7, _)] (S2 rfl rfl) ?_
  refine XC.ret ?_
  refine XE.thenRet ?_
  refine XE.ret2 rfl rfl rfl (post_of .h5 rfl ?_)
  have eE : owriteE m.toFF q O n x = O.is n := by unfold owriteE; rw [if_pos i0]
  have eV : owriteV m.toFF q O n x = 0 := by unfold owriteV; rw [if_neg (fun h => i0 h.1), if_neg (fun h => i0 h.1.1)]
  have eF : owriteF m.toFF O n x = m.toFF := by unfold owriteF; rw [if_neg (fun h => i0 h.1)]
  have eO : owriteO m.toFF O n x = O := by unfold owriteO; rw [if_neg (fun h => i0 h.1.1)]
  have eP : owriteP q O n x = q := by unfold owriteP; rw [if_neg (fun h => i0 h.1)]
  exact ⟨by rw [eE, eV], m, by rw [eF], rfl, rfl, by rw [eO, eP]⟩
 ·
  have i0 : O.is n = 0 := by have := O.is_nn n; omega
  obtain ⟨i1, i2, i3⟩ := OS.is_0 i0
  have hra := hO.refs n i1 i2
  have haa := hO.at_ n i1 i2
  have hka := hO.kind n i1 i2 i3
  refine XC.skip ?_
  refine XE.next ?_
  refine XC.keep [(0, _), (1, _), (2, _)] (S3 rfl rfl rfl) ?_
  refine XC.sr ?_
  refine XO.mv rfl rfl ?_
  refine XO.mv rfl rfl ?_
  refine XO.v (V.nilCheckP rfl) rfl ?_
  refine XO.v (V.fieldAddr rfl fo_60_2) rfl ?_
  refine XO.v (V.indexArr rfl rfl ar_58 (by omega)) rfl ?_
  refine XO.as rfl rfl ?_
  refine XO.nk [(0, _), (2, _), (9, _)] (S3 rfl rfl rfl) ?_
  refine XC.seq ?_
  refine XC.sr ?_
  refine XO.mv rfl rfl ?_
  refine XO.v (V.nilCheckP rfl) rfl ?_
  refine XO.v (V.fieldAddr rfl fo_57_0) rfl ?_
  refine XO.v (V.load rfl (inXM .here) (encQ.ld_O_Kind _ _ (by omega)) sc_3) rfl ?_
  refine XO.v (V.cmp rfl rfl rfl) rfl ?_
  refine XO.nk [(0, _), (2, _), (9, _), (26, _)] (S4 rfl rfl rfl rfl) ?_
  refine XC.condP rfl (fun h2 => ?_) (fun h2 => ?_)
  ·
   refine XC.seq ?_
   refine XC.regionQ mixed (f := 14) (l := #[false, false, false, false, false, false, false, false, false, false, false, false, false, false]) rfl rfl XM.drawn' ?_
   refine XQ.pv (i := 0) (l' := #[tt,ff,ff,ff,ff,ff,ff,ff,ff,ff,ff,ff,ff,ff]) rfl (by kernel_rfl) rfl (V.move rfl) rfl rfl ?_
   refine XQ.pv (i := 1) (l' := #[tt,tt,ff,ff,ff,ff,ff,ff,ff,ff,ff,ff,ff,ff]) rfl (by kernel_rfl) rfl (V.nilCheckP rfl) rfl rfl ?_
   refine XQ.pv (i := 2) (l' := #[tt,tt,tt,ff,ff,ff,ff,ff,ff,ff,ff,ff,ff,ff]) rfl (by kernel_rfl) rfl (V.fieldAddr rfl fo_60_1) rfl rfl ?_
   refine XQ.load (i := 3) (l' := #[tt,tt,tt,tt,ff,ff,ff,ff,ff,ff,ff,ff,ff,ff]) (.cells _ _ _ _) [9] rfl (by kernel_rfl) rfl .here (V.load rfl inEnt (encQ.ld_P _) sc_47) rfl (by kernel_rfl) rfl ?_
   refine XQ.pv (i := 4) (l' := #[tt,tt,tt,tt,tt,ff,ff,ff,ff,ff,ff,ff,ff,ff]) rfl (by kernel_rfl) rfl (V.move rfl) rfl rfl ?_
   refine XQ.pv (i := 5) (l' := #[tt,tt,tt,tt,tt,tt,ff,ff,ff,ff,ff,ff,ff,ff]) rfl (by kernel_rfl) rfl (V.nilCheckP rfl) rfl rfl ?_
   refine XQ.pv (i := 6) (l' := #[tt,tt,tt,tt,tt,tt,tt,ff,ff,ff,ff,ff,ff,ff]) rfl (by kernel_rfl) rfl (V.fieldAddr rfl fo_57_1) rfl rfl ?_
   refine XQ.load (i := 7) (l' := #[tt,tt,tt,tt,tt,tt,tt,tt,ff,ff,ff,ff,ff,ff]) (.cells _ _ _ _) [9] rfl (by kernel_rfl) rfl .here (V.load rfl inEnt (encQ.ld_O_N _ _ (by omega)) sc_3) rfl (by kernel_rfl) rfl ?_
   refine XQ.pv (i := 8) (l' := #[tt,tt,tt,tt,tt,tt,tt,tt,tt,ff,ff,ff,ff,ff]) rfl (by kernel_rfl) rfl (V.move rfl) rfl rfl ?_
   refine XQ.call (i := 9) (l' := #[tt,tt,tt,tt,tt,tt,tt,tt,tt,tt,ff,ff,ff,ff]) rfl (by kernel_rfl) rfl rfl (pr_Write _ _ K hK q hq _ _ hx) (.cons (.t4 .here) .nil) cl_93 rfl (by rintro _ _ ⟨rfl, rfl⟩; all_goals (intro _ hw'; exact ⟨fun hs => (hs 9 (by first | (simp; done) | (simp; rfl)) rfl).elim, fun hs => (hs 9 (by first | (simp; done) | (simp; rfl)) rfl).elim, trivial⟩)) ?_
   rintro _ _ ⟨rfl, rfl⟩
   refine XQ.pv (i := 10) (l' := #[tt,tt,tt,tt,tt,tt,tt,tt,tt,tt,tt,ff,ff,ff]) rfl (by kernel_rfl) rfl (V.extract rfl rfl) rfl rfl ?_
   refine XQ.pv (i := 11) (l' := #[tt,tt,tt,tt,tt,tt,tt,tt,tt,tt,tt,tt,ff,ff]) rfl (by kernel_rfl) rfl (V.extract rfl rfl) rfl rfl ?_
   refine XQ.pv (i := 12) (l' := #[tt,tt,tt,tt,tt,tt,tt,tt,tt,tt,tt,tt,tt,ff]) rfl (by kernel_rfl) rfl (V.assign rfl) rfl rfl ?_
   refine XQ.pv (i := 13) (l' := #[tt,tt,tt,tt,tt,tt,tt,tt,tt,tt,tt,tt,tt,tt]) rfl (by kernel_rfl) rfl (V.assign rfl) rfl rfl ?_
   refine XQ.done (by kernel_rfl) ?_
   refine XE.next ?_
   refine XC.keep [(6, _), (7, _)] (S2 rfl rfl) ?_
   refine XC.ret ?_
   refine XE.thenRet ?_
   refine XE.ret2 rfl rfl rfl (post_of (.cons (.there .here) (.cons (.there .here) (.cons (.there .here) (.cons (.there .here) .h1)))) rfl ?_)
   have hk : O.kind n = 3 := by assumption
   have eE : owriteE m.toFF q O n x = (q.write (O.n n) x).2.1 := by unfold owriteE; rw [if_neg (by omega), if_pos hk]
   have eV : owriteV m.toFF q O n x = (q.write (O.n n) x).1 := by unfold owriteV; rw [if_pos ⟨i0, hk⟩]
   have eF : owriteF m.toFF O n x = m.toFF := by unfold owriteF; rw [if_neg (fun h => h.2.1 hk)]
   have eO : owriteO m.toFF O n x = O := by unfold owriteO; rw [if_neg (fun h => h.1.2.1 hk)]
   have eP : owriteP q O n x = (q.write (O.n n) x).2.2 := by unfold owriteP; rw [if_pos ⟨i0, hk⟩]
   exact ⟨by rw [eE, eV], m, by rw [eF], rfl, rfl, by rw [eO, eP]⟩
  ·
   refine XC.skip ?_
   refine XE.next ?_
   refine XC.keep [(0, _), (2, _), (9, _)] (S3 rfl rfl rfl) ?_
   refine XC.seq ?_
   refine XC.sr ?_
   refine XO.mv rfl rfl ?_
   refine XO.v (V.nilCheckP rfl) rfl ?_
   refine XO.v (V.fieldAddr rfl fo_57_4) rfl ?_
   refine XO.v (V.load rfl (inXM .here) (encQ.ld_O_Write _ _ (by omega)) sc_4) rfl ?_
   refine XO.v (V.not rfl) rfl ?_
   refine XO.nk [(0, _), (2, _), (9, _), (43, _)] (S4 rfl rfl rfl rfl) ?_
   refine XC.cond rfl (fun h3 => ?_) (fun h3 => ?_)
   ·
    try simp only [sb] at h3
    have hwf : O.write n = false := by simpa using h3
    refine XC.sr ?_
    refine XO.as rfl rfl ?_
    refine XO.as rfl rfl ?_
    refine XO.nk [(6, _), (7, _)] (S2 rfl rfl) ?_
    refine XC.ret ?_
    refine XE.thenRet ?_
    refine XE.ret2 rfl rfl rfl (post_of .h5 rfl ?_)
    have hk : ¬ O.kind n = 3 := by assumption
    have eE : owriteE m.toFF q O n x = 8 := by unfold owriteE; rw [if_neg (by omega), if_neg hk, if_pos (.inr hwf)]
    have eV : owriteV m.toFF q O n x = 0 := by unfold owriteV; rw [if_neg (fun h => hk h.2), if_neg (fun h => h.1.2.2 (.inr hwf))]
    have eF : owriteF m.toFF O n x = m.toFF := by unfold owriteF; rw [if_neg (fun h => h.2.2 (.inr hwf))]
    have eO : owriteO m.toFF O n x = O := by unfold owriteO; rw [if_neg (fun h => h.1.2.2 (.inr hwf))]
    have eP : owriteP q O n x = q := by unfold owriteP; rw [if_neg (fun h => hk h.2)]
    exact ⟨by rw [eE, eV], m, by rw [eF], rfl, rfl, by rw [eO, eP]⟩
   ·
    try simp only [sb] at h3
    have hwt : O.write n = true := by simpa using h3
    refine XC.skip ?_
    refine XE.next ?_
    refine XC.keep [(0, _), (2, _), (9, _)] (S3 rfl rfl rfl) ?_
    refine XC.seq ?_
    refine XC.seq ?_
    refine XC.regionQ mixed (f := 15) (l := #[false, false, false, false, false, false, false, false, false, false, false, false, false, false, false]) rfl rfl XM.drawn' ?_
    refine XQ.pv (i := 0) (l' := #[tt,ff,ff,ff,ff,ff,ff,ff,ff,ff,ff,ff,ff,ff,ff]) rfl (by kernel_rfl) rfl (V.move rfl) rfl rfl ?_
    refine XQ.pv (i := 1) (l' := #[tt,tt,ff,ff,ff,ff,ff,ff,ff,ff,ff,ff,ff,ff,ff]) rfl (by kernel_rfl) rfl (V.nilCheckP rfl) rfl rfl ?_
    refine XQ.pv (i := 2) (l' := #[tt,tt,tt,ff,ff,ff,ff,ff,ff,ff,ff,ff,ff,ff,ff]) rfl (by kernel_rfl) rfl (V.fieldAddr rfl fo_60_0) rfl rfl ?_
    refine XQ.load (i := 3) (l' := #[tt,tt,tt,tt,ff,ff,ff,ff,ff,ff,ff,ff,ff,ff,ff]) (.cells _ _ _ _) [13] rfl (by kernel_rfl) rfl .here (V.load rfl inEnt (encQ.ld_F _) sc_27) rfl (by kernel_rfl) rfl ?_
    refine XQ.pv (i := 4) (l' := #[tt,tt,tt,tt,tt,ff,ff,ff,ff,ff,ff,ff,ff,ff,ff]) rfl (by kernel_rfl) rfl (V.move rfl) rfl rfl ?_
    refine XQ.pv (i := 5) (l' := #[tt,tt,tt,tt,tt,tt,ff,ff,ff,ff,ff,ff,ff,ff,ff]) rfl (by kernel_rfl) rfl (V.nilCheckP rfl) rfl rfl ?_
    refine XQ.pv (i := 6) (l' := #[tt,tt,tt,tt,tt,tt,tt,ff,ff,ff,ff,ff,ff,ff,ff]) rfl (by kernel_rfl) rfl (V.fieldAddr rfl fo_57_1) rfl rfl ?_
    refine XQ.load (i := 7) (l' := #[tt,tt,tt,tt,tt,tt,tt,tt,ff,ff,ff,ff,ff,ff,ff]) (.cells _ _ _ _) [13] rfl (by kernel_rfl) rfl .here (V.load rfl inEnt (encQ.ld_O_N _ _ (by omega)) sc_3) rfl (by kernel_rfl) rfl ?_
    refine XQ.pv (i := 8) (l' := #[tt,tt,tt,tt,tt,tt,tt,tt,tt,ff,ff,ff,ff,ff,ff]) rfl (by kernel_rfl) rfl (V.move rfl) rfl rfl ?_
    refine XQ.pv (i := 9) (l' := #[tt,tt,tt,tt,tt,tt,tt,tt,tt,tt,ff,ff,ff,ff,ff]) rfl (by kernel_rfl) rfl (V.nilCheckP rfl) rfl rfl ?_
    refine XQ.pv (i := 10) (l' := #[tt,tt,tt,tt,tt,tt,tt,tt,tt,tt,tt,ff,ff,ff,ff]) rfl (by kernel_rfl) rfl (V.fieldAddr rfl fo_57_2) rfl rfl ?_
    refine XQ.load (i := 11) (l' := #[tt,tt,tt,tt,tt,tt,tt,tt,tt,tt,tt,tt,ff,ff,ff]) (.cells _ _ _ _) [13] rfl (by kernel_rfl) rfl .here (V.load rfl inEnt (encQ.ld_O_At _ _ (by omega)) sc_3) rfl (by kernel_rfl) rfl ?_
    refine XQ.pv (i := 12) (l' := #[tt,tt,tt,tt,tt,tt,tt,tt,tt,tt,tt,tt,tt,ff,ff]) rfl (by kernel_rfl) rfl (V.move rfl) rfl rfl ?_
    refine XQ.call (i := 13) (l' := #[tt,tt,tt,tt,tt,tt,tt,tt,tt,tt,tt,tt,tt,tt,ff]) rfl (by kernel_rfl) rfl rfl (r_Write _ _ _ hI _ _ _ (by omega)) (.cons (.there .here) (.cons (.there .here) (.cons (.there .here) .nil))) cl_42 rfl (by rintro _ _ ⟨rfl, t, ht, tp, tc, rfl⟩; all_goals (intro _ hw'; exact ⟨fun hs => (hs 13 (by first | (simp; done) | (simp; rfl)) rfl).elim, fun hs => (hs 13 (by first | (simp; done) | (simp; rfl)) rfl).elim, fun hs => (hs 13 (by first | (simp; done) | (simp; rfl)) rfl).elim, trivial⟩)) ?_
    rintro _ _ ⟨rfl, t, ht, tp, tc, rfl⟩
    refine XQ.pv (i := 14) (l' := #[tt,tt,tt,tt,tt,tt,tt,tt,tt,tt,tt,tt,tt,tt,tt]) rfl (by kernel_rfl) rfl (V.assign rfl) rfl rfl ?_
    refine XQ.done (by kernel_rfl) ?_
    refine XE.next ?_
    refine XC.keep [(2, _), (9, _), (10, _)] (S3 rfl rfl rfl) ?_
    refine XC.sr ?_
    refine XO.mv rfl rfl ?_
    refine XO.v (V.cmp rfl rfl rfl) rfl ?_
    refine XO.nk [(2, _), (9, _), (10, _), (59, _)] (S4 rfl rfl rfl rfl) ?_
    refine XC.condP rfl (fun h4 => ?_) (fun h4 => ?_)
    ·
     have hwe : m.toFF.writeE (O.n n) (O.at_ n) x ≠ 0 := by omega
     refine XC.sr ?_
     refine XO.mv rfl rfl ?_
     refine XO.as rfl rfl ?_
     refine XO.as rfl rfl ?_
     refine XO.nk [(6, _), (7, _)] (S2 rfl rfl) ?_
     refine XC.ret ?_
     refine XE.thenRet ?_
     refine XE.ret2 rfl rfl rfl (post_of (.cons (.t3 .here) .h4) rfl ?_)
     have hk : ¬ O.kind n = 3 := by assumption
     have h2 : ¬ O.kind n = 2 := fun h => by have h9 := hO.write n i1 i2 (by omega); rw [h9] at hwt; cases hwt
     have hfw : fileW O n := ⟨i0, hk, fun h => by rcases h with h | h; exact h2 h; rw [hwt] at h; cases h⟩
     have eE : owriteE m.toFF q O n x = m.toFF.writeE (O.n n) (O.at_ n) x := by unfold owriteE; rw [if_neg (by omega), if_neg hk, if_neg hfw.2.2]
     have eV : owriteV m.toFF q O n x = 0 := by unfold owriteV; rw [if_neg (fun h => hk h.2), if_neg (fun h => hwe h.2)]
     have eF : owriteF m.toFF O n x = m.toFF.write (O.n n) (O.at_ n) x := by unfold owriteF; rw [if_pos hfw]
     have eO : owriteO m.toFF O n x = O := by unfold owriteO; rw [if_neg (fun h => hwe h.2)]
     have eP : owriteP q O n x = q := by unfold owriteP; rw [if_neg (fun h => hk h.2)]
     exact ⟨by rw [eE, eV], t, by rw [eF]; exact ht, tp, tc, by rw [eO, eP]⟩
    ·
     have hwn := FF.writeE_nn m.toFF (O.n n) (O.at_ n) x
     have hwe : m.toFF.writeE (O.n n) (O.at_ n) x = 0 := by omega
     refine XC.skip ?_
     refine XE.next ?_
     refine XC.keep [(2, _), (9, _)] (S2 rfl rfl) ?_
     refine XC.sr ?_
     refine XO.mv rfl rfl ?_
     refine XO.mv rfl rfl ?_
     refine XO.v (V.nilCheckP rfl) rfl ?_
     refine XO.v (V.fieldAddr rfl fo_57_2) rfl ?_
     refine XO.v (V.load rfl (inXM (.t3 .here)) (encQ.ld_O_At _ _ (by omega)) sc_3) rfl ?_
     refine XO.mv rfl rfl ?_
     refine XO.v (V.lenStr rfl Tryz.underlying9) rfl ?_
     refine XO.v (V.add rfl rfl _ (IntWalk.i64_in _ (by omega))) rfl ?_
     refine XO.v (V.nilCheckP rfl) rfl ?_
     refine XO.v (V.fieldAddr rfl fo_57_2) rfl ?_
     refine XO.store rfl rfl (.t3 .here) (encQ.st_O_At _ _ (by omega) _) rfl sz_3_1 ?_
     refine XO.nk [(2, _)] (S1 rfl) ?_
     refine XC.sr ?_
     refine XO.mv rfl rfl ?_
     refine XO.v (V.lenStr rfl Tryz.underlying9) rfl ?_
     refine XO.as rfl rfl ?_
     refine XO.as rfl rfl ?_
     refine XO.nk [(6, _), (7, _)] (S2 rfl rfl) ?_
     refine XC.ret ?_
     refine XE.ret2 rfl rfl rfl (post_of (.cons (.t3 .here) .h4) rfl ?_)
     have hk : ¬ O.kind n = 3 := by assumption
     have h2 : ¬ O.kind n = 2 := fun h => by have h9 := hO.write n i1 i2 (by omega); rw [h9] at hwt; cases hwt
     have hfw : fileW O n := ⟨i0, hk, fun h => by rcases h with h | h; exact h2 h; rw [hwt] at h; cases h⟩
     have eE : owriteE m.toFF q O n x = 0 := by unfold owriteE; rw [if_neg (by omega), if_neg hk, if_neg hfw.2.2, hwe]
     have eV : owriteV m.toFF q O n x = (x.size : Int) := by unfold owriteV; rw [if_neg (fun h => hk h.2), if_pos ⟨hfw, hwe⟩]
     have eF : owriteF m.toFF O n x = m.toFF.write (O.n n) (O.at_ n) x := by unfold owriteF; rw [if_pos hfw]
     have eO : owriteO m.toFF O n x = O.move n (x.size) := by unfold owriteO; rw [if_pos ⟨hfw, hwe⟩]
     have eP : owriteP q O n x = q := by unfold owriteP; rw [if_neg (fun h => hk h.2)]
     exact ⟨by rw [eE, eV], t, by rw [eF]; exact ht, tp, tc, by rw [eO, eP]; rfl⟩
end Go.X
