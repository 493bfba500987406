import Derived.Test.YtmklfkjfgjagaaaGreatXShort
import Derived.Test.YtmklfkjfgjagaaaGreatZOL
import Derived.Test.YtmklfkjfgjagaaaGreatZNL2
namespace Go.X
open Go Go.Proofs
theorem ar_44 : arrOf Tryz.prog 44 = some (8, 3) := by kernel_rfl
theorem ar_48 : arrOf Tryz.prog 48 = some (8, 1) := by kernel_rfl
theorem ar_49 : arrOf Tryz.prog 49 = some (2, 1) := by kernel_rfl
theorem ar_50 : arrOf Tryz.prog 50 = some (8, 2) := by kernel_rfl
theorem cl_104 : callable Tryz.prog 104 = true := by kernel_rfl
theorem cl_105 : callable Tryz.prog 105 = true := by kernel_rfl
theorem cl_98 : callable Tryz.prog 98 = true := by kernel_rfl
theorem fo_43_0 : fieldOff Tryz.prog 43 0 = some 0 := by kernel_rfl
theorem fo_43_1 : fieldOff Tryz.prog 43 1 = some 1 := by kernel_rfl
theorem fo_43_2 : fieldOff Tryz.prog 43 2 = some 2 := by kernel_rfl
theorem fo_46_0 : fieldOff Tryz.prog 46 0 = some 0 := by kernel_rfl
theorem fo_52_0 : fieldOff Tryz.prog 52 0 = some 0 := by kernel_rfl
theorem fo_52_1 : fieldOff Tryz.prog 52 1 = some 8 := by kernel_rfl
theorem sz_43_3 : szOf Tryz.prog 43 = some 3 := by kernel_rfl
theorem sz_49_2 : szOf Tryz.prog 49 = some 2 := by kernel_rfl
set_option maxRecDepth 10000 in
set_option maxHeartbeats 400000 in
theorem p_is (b o : Nat) (K : Int) (hK : K ≤ 1000000) (s : PS) (hI : s.Inv K) (n : Int) : Spec Tryz.prog 98 [ptr b o 0, .int .i64 n]
    [.cells b o 24 (encP s)]
    (fun v H1 => ((s.is n = 0 ∧ 0 ≤ n ∧ n < 8) ∧ v = .tuple #[ptr b o (0 + 0 + n.toNat * 3), .nilIface] ∧ H1 = [.cells b o 24 (encP s)]) ∨ (s.is n ≠ 0 ∧ v = .tuple #[.pointer none, .iface 82 (.int .i64 (s.is n))] ∧ H1 = [.cells b o 24 (encP s)])) := by
 have b0 := hI.e0 n
 have b1 := hI.e1 n
 have bl := hI.len n
 refine Spec.intro Tryz.func98 rfl rfl ?_
 intro W
 refine XC.sr ?_
 refine XO.as rfl rfl ?_
 refine XO.as rfl rfl ?_
 refine XO.nk [(0, _), (1, _)] (S2 rfl rfl) ?_
 refine XC.seq ?_
 refine XC.sr ?_
 refine XO.mv rfl rfl ?_
 refine XO.v (V.cmp rfl rfl rfl) rfl ?_
 refine XO.mv rfl rfl ?_
 refine XO.splitP (d := 8) rfl (fun h1 => ?_) (fun h1 => ?_)
 ·
  refine XO.guardSkip rfl rfl rfl rfl rfl ?_
  refine XO.guardSkip rfl rfl rfl rfl rfl ?_
  refine XO.v (V.pick rfl rfl rfl rfl) rfl ?_
  refine XO.nk [(0, _), (1, _), (11, _)] (S3 rfl rfl rfl) ?_
  refine XC.condT rfl rfl ?_
  refine XC.sr ?_
  refine XO.v (V.makeIface rfl Tryz.underlying82 (by simp)) rfl ?_
  refine XO.as rfl rfl ?_
  refine XO.as rfl rfl ?_
  refine XO.nk [(4, _), (5, _)] (S2 rfl rfl) ?_
  refine XC.ret ?_
  refine XE.thenRet ?_
  refine XE.ret2 rfl rfl rfl (post_of .h1 rfl ?_)
  rcases PS.is_cases s n with ⟨q, q1⟩ | ⟨q, q1⟩ | ⟨q, q1⟩ <;> first | (exfalso; omega) | exact .inl ⟨⟨q, by omega, by omega⟩, rfl, rfl⟩ | exact .inr ⟨by omega, by rw [q], rfl⟩
 ·
  refine XO.guardRun rfl rfl rfl ?_
  refine XO.mv rfl rfl ?_
  refine XO.guardRun rfl rfl rfl ?_
  refine XO.v (V.cmp rfl rfl rfl) rfl ?_
  refine XO.v (V.pick rfl rfl rfl rfl) rfl ?_
  refine XO.nk [(0, _), (1, _), (11, _)] (S3 rfl rfl rfl) ?_
  refine XC.condP rfl (fun h2 => ?_) (fun h2 => ?_)
  ·
   refine XC.sr ?_
   refine XO.v (V.makeIface rfl Tryz.underlying82 (by simp)) rfl ?_
   refine XO.as rfl rfl ?_
   refine XO.as rfl rfl ?_
   refine XO.nk [(4, _), (5, _)] (S2 rfl rfl) ?_
   refine XC.ret ?_
   refine XE.thenRet ?_
   refine XE.ret2 rfl rfl rfl (post_of .h1 rfl ?_)
   rcases PS.is_cases s n with ⟨q, q1⟩ | ⟨q, q1⟩ | ⟨q, q1⟩ <;> first | (exfalso; omega) | exact .inl ⟨⟨q, by omega, by omega⟩, rfl, rfl⟩ | exact .inr ⟨by omega, by rw [q], rfl⟩
  ·
   refine XC.skip ?_
   refine XE.next ?_
   refine XC.keep [(0, _), (1, _)] (S2 rfl rfl) ?_
   refine XC.seq ?_
   refine XC.seq ?_
   refine XC.regionQ mixed (f := 16) (l := #[false, false, false, false, false, false, false, false, false, false, false, false, false, false, false, false]) rfl rfl XM.drawn' ?_
   refine XQ.pv (i := 0) (l' := #[tt,ff,ff,ff,ff,ff,ff,ff,ff,ff,ff,ff,ff,ff,ff,ff]) rfl (by kernel_rfl) rfl (V.move rfl) rfl rfl ?_
   refine XQ.pv (i := 1) (l' := #[tt,tt,ff,ff,ff,ff,ff,ff,ff,ff,ff,ff,ff,ff,ff,ff]) rfl (by kernel_rfl) rfl (V.move rfl) rfl rfl ?_
   refine XQ.pv (i := 2) (l' := #[tt,tt,tt,ff,ff,ff,ff,ff,ff,ff,ff,ff,ff,ff,ff,ff]) rfl (by kernel_rfl) rfl (V.nilCheckP rfl) rfl rfl ?_
   refine XQ.pv (i := 3) (l' := #[tt,tt,tt,tt,ff,ff,ff,ff,ff,ff,ff,ff,ff,ff,ff,ff]) rfl (by kernel_rfl) rfl (V.fieldAddr rfl fo_46_0) rfl rfl ?_
   refine XQ.pv (i := 4) (l' := #[tt,tt,tt,tt,tt,ff,ff,ff,ff,ff,ff,ff,ff,ff,ff,ff]) rfl (by kernel_rfl) rfl (V.indexArr rfl rfl ar_44 (by omega)) rfl rfl ?_
   refine XQ.pv (i := 5) (l' := #[tt,tt,tt,tt,tt,tt,ff,ff,ff,ff,ff,ff,ff,ff,ff,ff]) rfl (by kernel_rfl) rfl (V.fieldAddr rfl fo_43_1) rfl rfl ?_
   refine XQ.load (i := 6) (l' := #[tt,tt,tt,tt,tt,tt,tt,ff,ff,ff,ff,ff,ff,ff,ff,ff]) (.cells _ _ _ _) [] rfl (by kernel_rfl) rfl .here (V.load rfl inEnt (encP.ld_p_I_reads _ _ (by omega)) sc_3) rfl (by kernel_rfl) rfl ?_
   refine XQ.pv (i := 7) (l' := #[tt,tt,tt,tt,tt,tt,tt,tt,ff,ff,ff,ff,ff,ff,ff,ff]) rfl (by kernel_rfl) rfl (V.move rfl) rfl rfl ?_
   refine XQ.pv (i := 8) (l' := #[tt,tt,tt,tt,tt,tt,tt,tt,tt,ff,ff,ff,ff,ff,ff,ff]) rfl (by kernel_rfl) rfl (V.move rfl) rfl rfl ?_
   refine XQ.pv (i := 9) (l' := #[tt,tt,tt,tt,tt,tt,tt,tt,tt,tt,ff,ff,ff,ff,ff,ff]) rfl (by kernel_rfl) rfl (V.nilCheckP rfl) rfl rfl ?_
   refine XQ.pv (i := 10) (l' := #[tt,tt,tt,tt,tt,tt,tt,tt,tt,tt,tt,ff,ff,ff,ff,ff]) rfl (by kernel_rfl) rfl (V.fieldAddr rfl fo_46_0) rfl rfl ?_
   refine XQ.pv (i := 11) (l' := #[tt,tt,tt,tt,tt,tt,tt,tt,tt,tt,tt,tt,ff,ff,ff,ff]) rfl (by kernel_rfl) rfl (V.indexArr rfl rfl ar_44 (by omega)) rfl rfl ?_
   refine XQ.pv (i := 12) (l' := #[tt,tt,tt,tt,tt,tt,tt,tt,tt,tt,tt,tt,tt,ff,ff,ff]) rfl (by kernel_rfl) rfl (V.fieldAddr rfl fo_43_2) rfl rfl ?_
   refine XQ.load (i := 13) (l' := #[tt,tt,tt,tt,tt,tt,tt,tt,tt,tt,tt,tt,tt,tt,ff,ff]) (.cells _ _ _ _) [] rfl (by kernel_rfl) rfl .here (V.load rfl inEnt (encP.ld_p_I_writes _ _ (by omega)) sc_3) rfl (by kernel_rfl) rfl ?_
   refine XQ.pv (i := 14) (l' := #[tt,tt,tt,tt,tt,tt,tt,tt,tt,tt,tt,tt,tt,tt,tt,ff]) rfl (by kernel_rfl) rfl (V.add rfl rfl _ (IntWalk.i64_in _ (by omega))) rfl rfl ?_
   refine XQ.pv (i := 15) (l' := #[tt,tt,tt,tt,tt,tt,tt,tt,tt,tt,tt,tt,tt,tt,tt,tt]) rfl (by kernel_rfl) rfl (V.cmp rfl rfl rfl) rfl rfl ?_
   refine XQ.done (by kernel_rfl) ?_
   refine XE.next ?_
   refine XC.keep [(0, _), (1, _), (28, _)] (S3 rfl rfl rfl) ?_
   refine XC.condP rfl (fun h3 => ?_) (fun h3 => ?_)
   ·
    refine XC.sr ?_
    refine XO.v (V.makeIface rfl Tryz.underlying82 (by simp)) rfl ?_
    refine XO.as rfl rfl ?_
    refine XO.as rfl rfl ?_
    refine XO.nk [(4, _), (5, _)] (S2 rfl rfl) ?_
    refine XC.ret ?_
    refine XE.thenRet ?_
    refine XE.ret2 rfl rfl rfl (post_of .h1 rfl ?_)
    rcases PS.is_cases s n with ⟨q, q1⟩ | ⟨q, q1⟩ | ⟨q, q1⟩ <;> first | (exfalso; omega) | exact .inl ⟨⟨q, by omega, by omega⟩, rfl, rfl⟩ | exact .inr ⟨by omega, by rw [q], rfl⟩
   ·
    refine XC.skip ?_
    refine XE.next ?_
    refine XC.keep [(0, _), (1, _)] (S2 rfl rfl) ?_
    refine XC.sr ?_
    refine XO.mv rfl rfl ?_
    refine XO.mv rfl rfl ?_
    refine XO.v (V.nilCheckP rfl) rfl ?_
    refine XO.v (V.fieldAddr rfl fo_46_0) rfl ?_
    refine XO.v (V.indexArr rfl rfl ar_44 (by omega)) rfl ?_
    refine XO.as rfl rfl ?_
    refine XO.as rfl rfl ?_
    refine XO.nk [(4, _), (5, _)] (S2 rfl rfl) ?_
    refine XC.ret ?_
    refine XE.ret2 rfl rfl rfl (post_of .h1 rfl ?_)
    rcases PS.is_cases s n with ⟨q, q1⟩ | ⟨q, q1⟩ | ⟨q, q1⟩ <;> first | (exfalso; omega) | exact .inl ⟨⟨q, by omega, by omega⟩, rfl, rfl⟩ | exact .inr ⟨by omega, by rw [q], rfl⟩
set_option maxRecDepth 10000 in
set_option maxHeartbeats 400000 in
theorem p_end_true (b o i : Nat) : Spec Tryz.prog 104 [ptr b o i, .bool true]
    []
    (fun v H1 => v = ptr b o (i + 2) ∧ H1 = []) := by
 refine Spec.intro Tryz.func104 rfl rfl ?_
 intro W
 refine XC.sr ?_
 refine XO.as rfl rfl ?_
 refine XO.nk [(0, _), (1, _)] (S2 rfl rfl) ?_
 refine XC.seq ?_
 refine XC.sr ?_
 refine XO.mv rfl rfl ?_
 refine XO.nk [(0, _), (5, _)] (S2 rfl rfl) ?_
 refine XC.condT rfl rfl ?_
 refine XC.sr ?_
 refine XO.mv rfl rfl ?_
 refine XO.v (V.nilCheckP rfl) rfl ?_
 refine XO.v (V.fieldAddr rfl fo_43_2) rfl ?_
 refine XO.as rfl rfl ?_
 refine XO.nk [(4, _)] (S1 rfl) ?_
 refine XC.ret ?_
 refine XE.thenRet ?_
 refine XE.ret1 rfl rfl (post_of .nil rfl ?_)
 exact ⟨rfl, rfl⟩
set_option maxRecDepth 10000 in
set_option maxHeartbeats 400000 in
theorem p_end_false (b o i : Nat) : Spec Tryz.prog 104 [ptr b o i, .bool false]
    []
    (fun v H1 => v = ptr b o (i + 1) ∧ H1 = []) := by
 refine Spec.intro Tryz.func104 rfl rfl ?_
 intro W
 refine XC.sr ?_
 refine XO.as rfl rfl ?_
 refine XO.nk [(0, _), (1, _)] (S2 rfl rfl) ?_
 refine XC.seq ?_
 refine XC.sr ?_
 refine XO.mv rfl rfl ?_
 refine XO.nk [(0, _), (5, _)] (S2 rfl rfl) ?_
 refine XC.condF rfl rfl ?_
 refine XC.skip ?_
 refine XE.next ?_
 refine XC.keep [(0, _)] (S1 rfl) ?_
 refine XC.sr ?_
 refine XO.mv rfl rfl ?_
 refine XO.v (V.nilCheckP rfl) rfl ?_
 refine XO.v (V.fieldAddr rfl fo_43_1) rfl ?_
 refine XO.as rfl rfl ?_
 refine XO.nk [(4, _)] (S1 rfl) ?_
 refine XC.ret ?_
 refine XE.ret1 rfl rfl (post_of .nil rfl ?_)
 exact ⟨rfl, rfl⟩
set_option maxRecDepth 10000 in
set_option maxHeartbeats 400000 in
theorem p_Make (b o : Nat) (K : Int) (hK : K ≤ 1000000) (s : PS) (hI : s.Inv K) : Spec Tryz.prog 87 [ptr b o 0]
    [.cells b o 24 (encP s)]
    (fun v H1 => v = .tuple #[.int .i64 s.make.1, errv 82 s.make.2.1] ∧ H1 = [.cells b o 24 (encP s.make.2.2)]) := by
 refine Spec.intro Tryz.func87 rfl rfl ?_
 intro W
 refine XC.sr ?_
 refine XO.as rfl rfl ?_
 refine XO.as rfl rfl ?_
 refine XO.nk [(0, _)] (S1 rfl) ?_
 refine XC.seq ?_
 refine XC.sr ?_
 refine XO.mv rfl rfl ?_
 refine XO.nk [(0, _), (5, _)] (S2 rfl rfl) ?_
 refine XC.block ?_
 refine XC.loop (σ := Int) (fun k => (8 - k).toNat) (fun k => (0 ≤ k ∧ k ≤ 8) ∧ ∀ j : Int, 0 ≤ j → j < k → s.e j 0 + s.e j 1 ≠ 0) (fun k => [(5, .int .i64 k), (0, ptr b o 0)]) (fun k => XM W (foot [.cells b o 24 (encP s)]) [.cells b o 24 (encP s)]) (0) ?_ (S2 rfl rfl) (fun _ hw => XM.pick .h1 hw) ?_
 ·
  exact ⟨by omega, fun j h1 h2 => by omega⟩
 intro k hk
 obtain ⟨hk, hn⟩ := hk
 have b0 := hI.e0 k
 have b1 := hI.e1 k
 refine XC.sr ?_
 refine XO.v (V.cmp rfl rfl rfl) rfl ?_
 refine XO.nk [(0, _), (5, _), (6, _)] (S3 rfl rfl rfl) ?_
 refine XC.seq ?_
 refine XC.condP rfl (fun h1 => ?_) (fun h1 => ?_)
 ·
  refine XC.skip ?_
  refine XE.next ?_
  refine XC.keep [(0, _), (5, _)] (S2 rfl rfl) ?_
  refine XC.seq ?_
  refine XC.block ?_
  refine XC.sr ?_
  refine XO.mv rfl rfl ?_
  refine XO.as rfl rfl ?_
  refine XO.nk [(0, _), (4, _), (5, _)] (S3 rfl rfl rfl) ?_
  refine XC.seq ?_
  refine XC.regionQ mixed (f := 16) (l := #[false, false, false, false, false, false, false, false, false, false, false, false, false, false, false, false]) rfl rfl XM.drawn' ?_
  refine XQ.pv (i := 0) (l' := #[tt,ff,ff,ff,ff,ff,ff,ff,ff,ff,ff,ff,ff,ff,ff,ff]) rfl (by kernel_rfl) rfl (V.move rfl) rfl rfl ?_
  refine XQ.pv (i := 1) (l' := #[tt,tt,ff,ff,ff,ff,ff,ff,ff,ff,ff,ff,ff,ff,ff,ff]) rfl (by kernel_rfl) rfl (V.move rfl) rfl rfl ?_
  refine XQ.pv (i := 2) (l' := #[tt,tt,tt,ff,ff,ff,ff,ff,ff,ff,ff,ff,ff,ff,ff,ff]) rfl (by kernel_rfl) rfl (V.nilCheckP rfl) rfl rfl ?_
  refine XQ.pv (i := 3) (l' := #[tt,tt,tt,tt,ff,ff,ff,ff,ff,ff,ff,ff,ff,ff,ff,ff]) rfl (by kernel_rfl) rfl (V.fieldAddr rfl fo_46_0) rfl rfl ?_
  refine XQ.pv (i := 4) (l' := #[tt,tt,tt,tt,tt,ff,ff,ff,ff,ff,ff,ff,ff,ff,ff,ff]) rfl (by kernel_rfl) rfl (V.indexArr rfl rfl ar_44 (by omega)) rfl rfl ?_
  refine XQ.pv (i := 5) (l' := #[tt,tt,tt,tt,tt,tt,ff,ff,ff,ff,ff,ff,ff,ff,ff,ff]) rfl (by kernel_rfl) rfl (V.fieldAddr rfl fo_43_1) rfl rfl ?_
  refine XQ.load (i := 6) (l' := #[tt,tt,tt,tt,tt,tt,tt,ff,ff,ff,ff,ff,ff,ff,ff,ff]) (.cells _ _ _ _) [] rfl (by kernel_rfl) rfl .here (V.load rfl inEnt (encP.ld_p_I_reads _ _ (by omega)) sc_3) rfl (by kernel_rfl) rfl ?_
  refine XQ.pv (i := 7) (l' := #[tt,tt,tt,tt,tt,tt,tt,tt,ff,ff,ff,ff,ff,ff,ff,ff]) rfl (by kernel_rfl) rfl (V.move rfl) rfl rfl ?_
  refine XQ.pv (i := 8) (l' := #[tt,tt,tt,tt,tt,tt,tt,tt,tt,ff,ff,ff,ff,ff,ff,ff]) rfl (by kernel_rfl) rfl (V.move rfl) rfl rfl ?_
  refine XQ.pv (i := 9) (l' := #[tt,tt,tt,tt,tt,tt,tt,tt,tt,tt,ff,ff,ff,ff,ff,ff]) rfl (by kernel_rfl) rfl (V.nilCheckP rfl) rfl rfl ?_
  refine XQ.pv (i := 10) (l' := #[tt,tt,tt,tt,tt,tt,tt,tt,tt,tt,tt,ff,ff,ff,ff,ff]) rfl (by kernel_rfl) rfl (V.fieldAddr rfl fo_46_0) rfl rfl ?_
  refine XQ.pv (i := 11) (l' := #[tt,tt,tt,tt,tt,tt,tt,tt,tt,tt,tt,tt,ff,ff,ff,ff]) rfl (by kernel_rfl) rfl (V.indexArr rfl rfl ar_44 (by omega)) rfl rfl ?_
  refine XQ.pv (i := 12) (l' := #[tt,tt,tt,tt,tt,tt,tt,tt,tt,tt,tt,tt,tt,ff,ff,ff]) rfl (by kernel_rfl) rfl (V.fieldAddr rfl fo_43_2) rfl rfl ?_
  refine XQ.load (i := 13) (l' := #[tt,tt,tt,tt,tt,tt,tt,tt,tt,tt,tt,tt,tt,tt,ff,ff]) (.cells _ _ _ _) [] rfl (by kernel_rfl) rfl .here (V.load rfl inEnt (encP.ld_p_I_writes _ _ (by omega)) sc_3) rfl (by kernel_rfl) rfl ?_
  refine XQ.pv (i := 14) (l' := #[tt,tt,tt,tt,tt,tt,tt,tt,tt,tt,tt,tt,tt,tt,tt,ff]) rfl (by kernel_rfl) rfl (V.add rfl rfl _ (IntWalk.i64_in _ (by omega))) rfl rfl ?_
  refine XQ.pv (i := 15) (l' := #[tt,tt,tt,tt,tt,tt,tt,tt,tt,tt,tt,tt,tt,tt,tt,tt]) rfl (by kernel_rfl) rfl (V.cmp rfl rfl rfl) rfl rfl ?_
  refine XQ.done (by kernel_rfl) ?_
  refine XE.next ?_
  refine XC.keep [(0, _), (4, _), (5, _), (23, _)] (S4 rfl rfl rfl rfl) ?_
  refine XC.condP rfl (fun h2 => ?_) (fun h2 => ?_)
  ·
   refine XC.sr ?_
   refine XO.mv rfl rfl ?_
   refine XO.mv rfl rfl ?_
   refine XO.v (V.build (vs := #[(1, .int .i64 1), (2, .int .i64 1)]) rfl (v := .agg #[.string ⟨#[]⟩, .int .i64 1, .int .i64 1]) (fun _ => by kernel_rfl)) rfl ?_
   refine XO.v (V.nilCheckP rfl) rfl ?_
   refine XO.v (V.fieldAddr rfl fo_46_0) rfl ?_
   refine XO.v (V.indexArr rfl rfl ar_44 (by omega)) rfl ?_
   refine XO.storeAgg rfl rfl .here (encP_make hI (by omega) (by assumption)) ⟨rfl, rfl⟩ sz_43_3 ?_
   refine XO.nk [(4, _)] (S1 rfl) ?_
   refine XC.sr ?_
   refine XO.mv rfl rfl ?_
   refine XO.as rfl rfl ?_
   refine XO.as rfl rfl ?_
   refine XO.nk [(2, _), (3, _)] (S2 rfl rfl) ?_
   refine XC.ret ?_
   refine XE.blockRet ?_
   refine XE.thenRet ?_
   refine XE.thenRet ?_
   refine XE.blockRet ?_
   refine XE.thenRet ?_
   refine XE.ret2 rfl rfl rfl (post_of .h1 rfl ?_)
   rw [PS.make_some (by omega) (by assumption) hn]; exact ⟨rfl, rfl⟩
  ·
   refine XC.skip ?_
   refine XE.blockNormal ?_
   refine XE.next ?_
   refine XC.keep [(0, _), (5, _)] (S2 rfl rfl) ?_
   refine XC.region ?_
   refine XO.v (V.add rfl rfl _ (IntWalk.i64_in _ (by omega))) rfl ?_
   refine XO.mv rfl rfl ?_
   refine XO.nil ?_
   refine XE.again (k + 1) ?_ ?_ (S2 rfl rfl) (fun _ hw => XM.pick .h1 hw)
   ·
    (first | omega | (simp; done) | (simp; omega))
   ·
    refine ⟨by omega, fun j h1 h2 => ?_⟩
    by_cases hjk : j = k
    ·
     subst hjk; assumption
    ·
     exact hn j h1 (by omega)
 ·
  refine XC.exit ?_
  refine XE.thenExit ?_
  refine XE.thenExit ?_
  refine XE.blockExit ?_
  refine XE.next ?_
  refine XC.keep [] (Sub.nil _) ?_
  refine XC.sr ?_
  refine XO.v (V.makeIface rfl Tryz.underlying82 (by simp)) rfl ?_
  refine XO.as rfl rfl ?_
  refine XO.as rfl rfl ?_
  refine XO.nk [(2, _), (3, _)] (S2 rfl rfl) ?_
  refine XC.ret ?_
  refine XE.ret2 rfl rfl rfl (post_of .h1 rfl ?_)
  obtain rfl : k = 8 := by omega
  rw [PS.make_none hn]; exact ⟨rfl, rfl⟩

set_option maxRecDepth 10000 in
set_option maxHeartbeats 400000 in
theorem p_Drop_true (b o : Nat) (K : Int) (hK : K ≤ 1000000) (s : PS) (hI : s.Inv K) (n : Int) : Spec Tryz.prog 89 [ptr b o 0, .int .i64 n, .bool true]
    [.cells b o 24 (encP s)]
    (fun v H1 => v = errv 82 (s.turn n true (-1)).1 ∧ H1 = [.cells b o 24 (encP (s.turn n true (-1)).2)]) := by
  have b0 := hI.e0 n
  have b1 := hI.e1 n
  have bl := hI.len n
  have hnew : (s.e n (sel true) = 0) = (s.e n 1 = 0) := by simp [sel]
  refine Spec.intro Tryz.func89 rfl rfl ?_
  intro W
  refine XC.sr ?_
  refine XO.as rfl rfl ?_
  refine XO.nk [(0, _), (1, _), (2, _)] (S3 rfl rfl rfl) ?_
  refine XC.sr ?_
  refine XO.mv rfl rfl ?_
  refine XO.mv rfl rfl ?_
  refine XO.call rfl (p_is _ _ K hK s hI _) .h1 cl_98 rfl ?_
  rintro _ _ (⟨h1, rfl, rfl⟩ | ⟨h1, rfl, rfl⟩)
  · skip
    obtain ⟨h1, h2, h3⟩ := h1
    refine XO.mv rfl rfl ?_
    refine XO.v (V.extract rfl rfl) rfl ?_
    refine XO.v (V.extract rfl rfl) rfl ?_
    refine XO.as rfl rfl ?_
    refine XO.as rfl rfl ?_
    refine XO.nk [(2, _), (7, _), (8, _)] (S3 rfl rfl rfl) ?_
    refine XC.seq ?_
    refine XC.sr ?_
    refine XO.mv rfl rfl ?_
    refine XO.v (V.nilNil rfl Tryz.underlying36 rfl) rfl ?_
    refine XO.nk [(2, _), (7, _), (8, _), (16, _)] (S4 rfl rfl rfl rfl) ?_
    refine XC.condF rfl rfl ?_
    refine XC.skip ?_
    refine XE.next ?_
    refine XC.keep [(2, _), (7, _)] (S2 rfl rfl) ?_
    refine XC.seq ?_
    refine XC.sr ?_
    refine XO.mv rfl rfl ?_
    refine XO.mv rfl rfl ?_
    refine XO.call rfl (p_end_true _ _ _) .nil cl_104 rfl ?_
    rintro _ _ ⟨rfl, rfl⟩
    refine XO.v (V.nilCheckP rfl) rfl ?_
    refine XO.v (V.load rfl (inXM .here) (encP.ld_p_I_writes _ _ (by omega)) sc_3) rfl ?_
    refine XO.v (V.cmp rfl rfl rfl) rfl ?_
    refine XO.nk [(2, _), (7, _), (23, _)] (S3 rfl rfl rfl) ?_
    refine XC.condP rfl (fun h4 => ?_) (fun h4 => ?_)
    · skip
      refine XC.sr ?_
      refine XO.v (V.makeIface rfl Tryz.underlying82 (by simp)) rfl ?_
      refine XO.as rfl rfl ?_
      refine XO.nk [(6, _)] (S1 rfl) ?_
      refine XC.ret ?_
      refine XE.thenRet ?_
      refine XE.ret1 rfl rfl (post_of .h1 rfl ?_)
      first
        | (rw [PS.turn_err (by assumption)]; exact ⟨(errv_pos _ (by assumption)).symm, rfl⟩)
        | (rw [PS.turn_state (by assumption) (by assumption)]; exact ⟨rfl, rfl⟩)
        | (rw [PS.turn_ok (by assumption) (by assumption) (by omega)]; exact ⟨rfl, rfl⟩)
        | (rw [PS.turn_zero (by assumption) (by assumption) (by omega)]; refine ⟨rfl, ?_⟩; exact congrArg (fun e => [Ent.cells b o 24 (encP { b := fset s.b n ⟨#[]⟩, e := e })]) (drop_eq (by omega) (by omega)))
    · skip
      refine XC.skip ?_
      refine XE.next ?_
      refine XC.keep [(2, _), (7, _)] (S2 rfl rfl) ?_
      refine XC.sr ?_
      refine XO.mv rfl rfl ?_
      refine XO.mv rfl rfl ?_
      refine XO.call rfl (p_end_true _ _ _) .nil cl_104 rfl ?_
      rintro _ _ ⟨rfl, rfl⟩
      refine XO.v (V.nilCheckP rfl) rfl ?_
      refine XO.v (V.load rfl (inXM .here) (encP.ld_p_I_writes _ _ (by omega)) sc_3) rfl ?_
      refine XO.v (V.sub rfl rfl _ (IntWalk.i64_in _ (by omega))) rfl ?_
      refine XO.v (V.nilCheckP rfl) rfl ?_
      refine XO.store rfl rfl .here (encP.st_p_I_writes _ _ (by omega) _) rfl sz_3_1 ?_
      refine XO.nk [(7, _)] (S1 rfl) ?_
      refine XC.seq ?_
      refine XC.seq ?_
      refine XC.regionQ mixed (f := 10) (l := #[false, false, false, false, false, false, false, false, false, false]) rfl rfl XM.drawn' ?_
      have c0 : ({ s with e := fset2 s.e n 1 (s.e n 1 - 1) } : PS).e n 0 = s.e n 0 + 0 := by simp [fset2]
      have c0f : fset2 s.e n 1 (s.e n 1 - 1) n 0 = s.e n 0 + 0 := by simp [fset2]
      have c1 : ({ s with e := fset2 s.e n 1 (s.e n 1 - 1) } : PS).e n 1 = s.e n 1 + -1 := by simp [fset2]; omega
      have c1f : fset2 s.e n 1 (s.e n 1 - 1) n 1 = s.e n 1 + -1 := by simp [fset2]; omega
      refine XQ.pv (i := 0) (l' := #[tt,ff,ff,ff,ff,ff,ff,ff,ff,ff]) rfl (by kernel_rfl) rfl (V.move rfl) rfl rfl ?_
      refine XQ.pv (i := 1) (l' := #[tt,tt,ff,ff,ff,ff,ff,ff,ff,ff]) rfl (by kernel_rfl) rfl (V.nilCheckP rfl) rfl rfl ?_
      refine XQ.pv (i := 2) (l' := #[tt,tt,tt,ff,ff,ff,ff,ff,ff,ff]) rfl (by kernel_rfl) rfl (V.fieldAddr rfl fo_43_1) rfl rfl ?_
      refine XQ.load (i := 3) (l' := #[tt,tt,tt,tt,ff,ff,ff,ff,ff,ff]) (.cells _ _ _ _) [] rfl (by kernel_rfl) rfl .here (V.load rfl inEnt (encP.ld_p_I_reads _ _ (by omega)) sc_3) rfl (by kernel_rfl) rfl ?_
      refine XQ.pv (i := 4) (l' := #[tt,tt,tt,tt,tt,ff,ff,ff,ff,ff]) rfl (by kernel_rfl) rfl (V.move rfl) rfl rfl ?_
      refine XQ.pv (i := 5) (l' := #[tt,tt,tt,tt,tt,tt,ff,ff,ff,ff]) rfl (by kernel_rfl) rfl (V.nilCheckP rfl) rfl rfl ?_
      refine XQ.pv (i := 6) (l' := #[tt,tt,tt,tt,tt,tt,tt,ff,ff,ff]) rfl (by kernel_rfl) rfl (V.fieldAddr rfl fo_43_2) rfl rfl ?_
      refine XQ.load (i := 7) (l' := #[tt,tt,tt,tt,tt,tt,tt,tt,ff,ff]) (.cells _ _ _ _) [] rfl (by kernel_rfl) rfl .here (V.load rfl inEnt (encP.ld_p_I_writes _ _ (by omega)) sc_3) rfl (by kernel_rfl) rfl ?_
      refine XQ.pv (i := 8) (l' := #[tt,tt,tt,tt,tt,tt,tt,tt,tt,ff]) rfl (by kernel_rfl) rfl (V.add rfl rfl _ (IntWalk.i64_in _ (by omega))) rfl rfl ?_
      refine XQ.pv (i := 9) (l' := #[tt,tt,tt,tt,tt,tt,tt,tt,tt,tt]) rfl (by kernel_rfl) rfl (V.cmp rfl rfl rfl) rfl rfl ?_
      refine XQ.done (by kernel_rfl) ?_
      refine XE.next ?_
      refine XC.keep [(7, _), (41, _)] (S2 rfl rfl) ?_
      refine XC.condP rfl (fun h5 => ?_) (fun h5 => ?_)
      · skip
        refine XC.region ?_
        refine XO.mv rfl rfl ?_
        refine XO.v (V.build (vs := #[]) rfl (v := .agg #[.string ⟨#[]⟩, .int .i64 0, .int .i64 0]) (fun _ => by kernel_rfl)) rfl ?_
        refine XO.v (V.nilCheckP rfl) rfl ?_
        refine XO.storeAgg rfl rfl .here (encP_drop _ (by omega)) ⟨rfl, rfl⟩ sz_43_3 ?_
        refine XO.nk [] (Sub.nil _) ?_
        refine XC.sr ?_
        refine XO.as rfl rfl ?_
        refine XO.nk [(6, _)] (S1 rfl) ?_
        refine XC.ret ?_
        refine XE.ret1 rfl rfl (post_of .h1 rfl ?_)
        first
        | (rw [PS.turn_err (by assumption)]; exact ⟨(errv_pos _ (by assumption)).symm, rfl⟩)
        | (rw [PS.turn_state (by assumption) (by assumption)]; exact ⟨rfl, rfl⟩)
        | (rw [PS.turn_ok (by assumption) (by assumption) (by omega)]; exact ⟨rfl, rfl⟩)
        | (rw [PS.turn_zero (by assumption) (by assumption) (by omega)]; refine ⟨rfl, ?_⟩; exact congrArg (fun e => [Ent.cells b o 24 (encP { b := fset s.b n ⟨#[]⟩, e := e })]) (drop_eq (by omega) (by omega)))
      · skip
        refine XC.skip ?_
        refine XE.next ?_
        refine XC.keep [] (Sub.nil _) ?_
        refine XC.sr ?_
        refine XO.as rfl rfl ?_
        refine XO.nk [(6, _)] (S1 rfl) ?_
        refine XC.ret ?_
        refine XE.ret1 rfl rfl (post_of .h1 rfl ?_)
        first
        | (rw [PS.turn_err (by assumption)]; exact ⟨(errv_pos _ (by assumption)).symm, rfl⟩)
        | (rw [PS.turn_state (by assumption) (by assumption)]; exact ⟨rfl, rfl⟩)
        | (rw [PS.turn_ok (by assumption) (by assumption) (by omega)]; exact ⟨rfl, rfl⟩)
        | (rw [PS.turn_zero (by assumption) (by assumption) (by omega)]; refine ⟨rfl, ?_⟩; exact congrArg (fun e => [Ent.cells b o 24 (encP { b := fset s.b n ⟨#[]⟩, e := e })]) (drop_eq (by omega) (by omega)))
  · skip
    refine XO.mv rfl rfl ?_
    refine XO.v (V.extract rfl rfl) rfl ?_
    refine XO.v (V.extract rfl rfl) rfl ?_
    refine XO.as rfl rfl ?_
    refine XO.as rfl rfl ?_
    refine XO.nk [(2, _), (7, _), (8, _)] (S3 rfl rfl rfl) ?_
    refine XC.seq ?_
    refine XC.sr ?_
    refine XO.mv rfl rfl ?_
    refine XO.v (V.ifaceNil rfl Tryz.underlying36 rfl) rfl ?_
    refine XO.nk [(2, _), (7, _), (8, _), (16, _)] (S4 rfl rfl rfl rfl) ?_
    refine XC.condT rfl rfl ?_
    refine XC.sr ?_
    refine XO.mv rfl rfl ?_
    refine XO.as rfl rfl ?_
    refine XO.nk [(6, _)] (S1 rfl) ?_
    refine XC.ret ?_
    refine XE.thenRet ?_
    refine XE.ret1 rfl rfl (post_of .h1 rfl ?_)
    first
        | (rw [PS.turn_err (by assumption)]; exact ⟨(errv_pos _ (by assumption)).symm, rfl⟩)
        | (rw [PS.turn_state (by assumption) (by assumption)]; exact ⟨rfl, rfl⟩)
        | (rw [PS.turn_ok (by assumption) (by assumption) (by omega)]; exact ⟨rfl, rfl⟩)
        | (rw [PS.turn_zero (by assumption) (by assumption) (by omega)]; refine ⟨rfl, ?_⟩; exact congrArg (fun e => [Ent.cells b o 24 (encP { b := fset s.b n ⟨#[]⟩, e := e })]) (drop_eq (by omega) (by omega)))

set_option maxRecDepth 10000 in
set_option maxHeartbeats 400000 in
theorem p_Drop_false (b o : Nat) (K : Int) (hK : K ≤ 1000000) (s : PS) (hI : s.Inv K) (n : Int) : Spec Tryz.prog 89 [ptr b o 0, .int .i64 n, .bool false]
    [.cells b o 24 (encP s)]
    (fun v H1 => v = errv 82 (s.turn n false (-1)).1 ∧ H1 = [.cells b o 24 (encP (s.turn n false (-1)).2)]) := by
  have b0 := hI.e0 n
  have b1 := hI.e1 n
  have bl := hI.len n
  have hnew : (s.e n (sel false) = 0) = (s.e n 0 = 0) := by simp [sel]
  refine Spec.intro Tryz.func89 rfl rfl ?_
  intro W
  refine XC.sr ?_
  refine XO.as rfl rfl ?_
  refine XO.nk [(0, _), (1, _), (2, _)] (S3 rfl rfl rfl) ?_
  refine XC.sr ?_
  refine XO.mv rfl rfl ?_
  refine XO.mv rfl rfl ?_
  refine XO.call rfl (p_is _ _ K hK s hI _) .h1 cl_98 rfl ?_
  rintro _ _ (⟨h1, rfl, rfl⟩ | ⟨h1, rfl, rfl⟩)
  · skip
    obtain ⟨h1, h2, h3⟩ := h1
    refine XO.mv rfl rfl ?_
    refine XO.v (V.extract rfl rfl) rfl ?_
    refine XO.v (V.extract rfl rfl) rfl ?_
    refine XO.as rfl rfl ?_
    refine XO.as rfl rfl ?_
    refine XO.nk [(2, _), (7, _), (8, _)] (S3 rfl rfl rfl) ?_
    refine XC.seq ?_
    refine XC.sr ?_
    refine XO.mv rfl rfl ?_
    refine XO.v (V.nilNil rfl Tryz.underlying36 rfl) rfl ?_
    refine XO.nk [(2, _), (7, _), (8, _), (16, _)] (S4 rfl rfl rfl rfl) ?_
    refine XC.condF rfl rfl ?_
    refine XC.skip ?_
    refine XE.next ?_
    refine XC.keep [(2, _), (7, _)] (S2 rfl rfl) ?_
    refine XC.seq ?_
    refine XC.sr ?_
    refine XO.mv rfl rfl ?_
    refine XO.mv rfl rfl ?_
    refine XO.call rfl (p_end_false _ _ _) .nil cl_104 rfl ?_
    rintro _ _ ⟨rfl, rfl⟩
    refine XO.v (V.nilCheckP rfl) rfl ?_
    refine XO.v (V.load rfl (inXM .here) (encP.ld_p_I_reads _ _ (by omega)) sc_3) rfl ?_
    refine XO.v (V.cmp rfl rfl rfl) rfl ?_
    refine XO.nk [(2, _), (7, _), (23, _)] (S3 rfl rfl rfl) ?_
    refine XC.condP rfl (fun h4 => ?_) (fun h4 => ?_)
    · skip
      refine XC.sr ?_
      refine XO.v (V.makeIface rfl Tryz.underlying82 (by simp)) rfl ?_
      refine XO.as rfl rfl ?_
      refine XO.nk [(6, _)] (S1 rfl) ?_
      refine XC.ret ?_
      refine XE.thenRet ?_
      refine XE.ret1 rfl rfl (post_of .h1 rfl ?_)
      first
        | (rw [PS.turn_err (by assumption)]; exact ⟨(errv_pos _ (by assumption)).symm, rfl⟩)
        | (rw [PS.turn_state (by assumption) (by assumption)]; exact ⟨rfl, rfl⟩)
        | (rw [PS.turn_ok (by assumption) (by assumption) (by omega)]; exact ⟨rfl, rfl⟩)
        | (rw [PS.turn_zero (by assumption) (by assumption) (by omega)]; refine ⟨rfl, ?_⟩; exact congrArg (fun e => [Ent.cells b o 24 (encP { b := fset s.b n ⟨#[]⟩, e := e })]) (drop_eq (by omega) (by omega)))
    · skip
      refine XC.skip ?_
      refine XE.next ?_
      refine XC.keep [(2, _), (7, _)] (S2 rfl rfl) ?_
      refine XC.sr ?_
      refine XO.mv rfl rfl ?_
      refine XO.mv rfl rfl ?_
      refine XO.call rfl (p_end_false _ _ _) .nil cl_104 rfl ?_
      rintro _ _ ⟨rfl, rfl⟩
      refine XO.v (V.nilCheckP rfl) rfl ?_
      refine XO.v (V.load rfl (inXM .here) (encP.ld_p_I_reads _ _ (by omega)) sc_3) rfl ?_
      refine XO.v (V.sub rfl rfl _ (IntWalk.i64_in _ (by omega))) rfl ?_
      refine XO.v (V.nilCheckP rfl) rfl ?_
      refine XO.store rfl rfl .here (encP.st_p_I_reads _ _ (by omega) _) rfl sz_3_1 ?_
      refine XO.nk [(7, _)] (S1 rfl) ?_
      refine XC.seq ?_
      refine XC.seq ?_
      refine XC.regionQ mixed (f := 10) (l := #[false, false, false, false, false, false, false, false, false, false]) rfl rfl XM.drawn' ?_
      have c0 : ({ s with e := fset2 s.e n 0 (s.e n 0 - 1) } : PS).e n 0 = s.e n 0 + -1 := by simp [fset2]; omega
      have c0f : fset2 s.e n 0 (s.e n 0 - 1) n 0 = s.e n 0 + -1 := by simp [fset2]; omega
      have c1 : ({ s with e := fset2 s.e n 0 (s.e n 0 - 1) } : PS).e n 1 = s.e n 1 + 0 := by simp [fset2]
      have c1f : fset2 s.e n 0 (s.e n 0 - 1) n 1 = s.e n 1 + 0 := by simp [fset2]
      refine XQ.pv (i := 0) (l' := #[tt,ff,ff,ff,ff,ff,ff,ff,ff,ff]) rfl (by kernel_rfl) rfl (V.move rfl) rfl rfl ?_
      refine XQ.pv (i := 1) (l' := #[tt,tt,ff,ff,ff,ff,ff,ff,ff,ff]) rfl (by kernel_rfl) rfl (V.nilCheckP rfl) rfl rfl ?_
      refine XQ.pv (i := 2) (l' := #[tt,tt,tt,ff,ff,ff,ff,ff,ff,ff]) rfl (by kernel_rfl) rfl (V.fieldAddr rfl fo_43_1) rfl rfl ?_
      refine XQ.load (i := 3) (l' := #[tt,tt,tt,tt,ff,ff,ff,ff,ff,ff]) (.cells _ _ _ _) [] rfl (by kernel_rfl) rfl .here (V.load rfl inEnt (encP.ld_p_I_reads _ _ (by omega)) sc_3) rfl (by kernel_rfl) rfl ?_
      refine XQ.pv (i := 4) (l' := #[tt,tt,tt,tt,tt,ff,ff,ff,ff,ff]) rfl (by kernel_rfl) rfl (V.move rfl) rfl rfl ?_
      refine XQ.pv (i := 5) (l' := #[tt,tt,tt,tt,tt,tt,ff,ff,ff,ff]) rfl (by kernel_rfl) rfl (V.nilCheckP rfl) rfl rfl ?_
      refine XQ.pv (i := 6) (l' := #[tt,tt,tt,tt,tt,tt,tt,ff,ff,ff]) rfl (by kernel_rfl) rfl (V.fieldAddr rfl fo_43_2) rfl rfl ?_
      refine XQ.load (i := 7) (l' := #[tt,tt,tt,tt,tt,tt,tt,tt,ff,ff]) (.cells _ _ _ _) [] rfl (by kernel_rfl) rfl .here (V.load rfl inEnt (encP.ld_p_I_writes _ _ (by omega)) sc_3) rfl (by kernel_rfl) rfl ?_
      refine XQ.pv (i := 8) (l' := #[tt,tt,tt,tt,tt,tt,tt,tt,tt,ff]) rfl (by kernel_rfl) rfl (V.add rfl rfl _ (IntWalk.i64_in _ (by omega))) rfl rfl ?_
      refine XQ.pv (i := 9) (l' := #[tt,tt,tt,tt,tt,tt,tt,tt,tt,tt]) rfl (by kernel_rfl) rfl (V.cmp rfl rfl rfl) rfl rfl ?_
      refine XQ.done (by kernel_rfl) ?_
      refine XE.next ?_
      refine XC.keep [(7, _), (41, _)] (S2 rfl rfl) ?_
      refine XC.condP rfl (fun h5 => ?_) (fun h5 => ?_)
      · skip
        refine XC.region ?_
        refine XO.mv rfl rfl ?_
        refine XO.v (V.build (vs := #[]) rfl (v := .agg #[.string ⟨#[]⟩, .int .i64 0, .int .i64 0]) (fun _ => by kernel_rfl)) rfl ?_
        refine XO.v (V.nilCheckP rfl) rfl ?_
        refine XO.storeAgg rfl rfl .here (encP_drop _ (by omega)) ⟨rfl, rfl⟩ sz_43_3 ?_
        refine XO.nk [] (Sub.nil _) ?_
        refine XC.sr ?_
        refine XO.as rfl rfl ?_
        refine XO.nk [(6, _)] (S1 rfl) ?_
        refine XC.ret ?_
        refine XE.ret1 rfl rfl (post_of .h1 rfl ?_)
        first
        | (rw [PS.turn_err (by assumption)]; exact ⟨(errv_pos _ (by assumption)).symm, rfl⟩)
        | (rw [PS.turn_state (by assumption) (by assumption)]; exact ⟨rfl, rfl⟩)
        | (rw [PS.turn_ok (by assumption) (by assumption) (by omega)]; exact ⟨rfl, rfl⟩)
        | (rw [PS.turn_zero (by assumption) (by assumption) (by omega)]; refine ⟨rfl, ?_⟩; exact congrArg (fun e => [Ent.cells b o 24 (encP { b := fset s.b n ⟨#[]⟩, e := e })]) (drop_eq (by omega) (by omega)))
      · skip
        refine XC.skip ?_
        refine XE.next ?_
        refine XC.keep [] (Sub.nil _) ?_
        refine XC.sr ?_
        refine XO.as rfl rfl ?_
        refine XO.nk [(6, _)] (S1 rfl) ?_
        refine XC.ret ?_
        refine XE.ret1 rfl rfl (post_of .h1 rfl ?_)
        first
        | (rw [PS.turn_err (by assumption)]; exact ⟨(errv_pos _ (by assumption)).symm, rfl⟩)
        | (rw [PS.turn_state (by assumption) (by assumption)]; exact ⟨rfl, rfl⟩)
        | (rw [PS.turn_ok (by assumption) (by assumption) (by omega)]; exact ⟨rfl, rfl⟩)
        | (rw [PS.turn_zero (by assumption) (by assumption) (by omega)]; refine ⟨rfl, ?_⟩; exact congrArg (fun e => [Ent.cells b o 24 (encP { b := fset s.b n ⟨#[]⟩, e := e })]) (drop_eq (by omega) (by omega)))
  · skip
    refine XO.mv rfl rfl ?_
    refine XO.v (V.extract rfl rfl) rfl ?_
    refine XO.v (V.extract rfl rfl) rfl ?_
    refine XO.as rfl rfl ?_
    refine XO.as rfl rfl ?_
    refine XO.nk [(2, _), (7, _), (8, _)] (S3 rfl rfl rfl) ?_
    refine XC.seq ?_
    refine XC.sr ?_
    refine XO.mv rfl rfl ?_
    refine XO.v (V.ifaceNil rfl Tryz.underlying36 rfl) rfl ?_
    refine XO.nk [(2, _), (7, _), (8, _), (16, _)] (S4 rfl rfl rfl rfl) ?_
    refine XC.condT rfl rfl ?_
    refine XC.sr ?_
    refine XO.mv rfl rfl ?_
    refine XO.as rfl rfl ?_
    refine XO.nk [(6, _)] (S1 rfl) ?_
    refine XC.ret ?_
    refine XE.thenRet ?_
    refine XE.ret1 rfl rfl (post_of .h1 rfl ?_)
    first
        | (rw [PS.turn_err (by assumption)]; exact ⟨(errv_pos _ (by assumption)).symm, rfl⟩)
        | (rw [PS.turn_state (by assumption) (by assumption)]; exact ⟨rfl, rfl⟩)
        | (rw [PS.turn_ok (by assumption) (by assumption) (by omega)]; exact ⟨rfl, rfl⟩)
        | (rw [PS.turn_zero (by assumption) (by assumption) (by omega)]; refine ⟨rfl, ?_⟩; exact congrArg (fun e => [Ent.cells b o 24 (encP { b := fset s.b n ⟨#[]⟩, e := e })]) (drop_eq (by omega) (by omega)))
set_option maxRecDepth 10000 in
set_option maxHeartbeats 400000 in
theorem p_Read (b o : Nat) (K : Int) (hK : K ≤ 1000000) (s : PS) (hI : s.Inv K) (n m : Int) : Spec Tryz.prog 91 [ptr b o 0, .int .i64 n, .int .i64 m]
    [.cells b o 24 (encP s)]
    (fun v H1 => v = .tuple #[.string (s.read n m).1, errv 82 (s.read n m).2.1] ∧ H1 = [.cells b o 24 (encP (s.read n m).2.2)]) := by
  have b0 := hI.e0 n
  have b1 := hI.e1 n
  have bl := hI.len n
  refine Spec.intro Tryz.func91 rfl rfl ?_
  intro W
  refine XC.sr ?_
  refine XO.as rfl rfl ?_
  refine XO.as rfl rfl ?_
  refine XO.nk [(0, _), (1, _), (2, _)] (S3 rfl rfl rfl) ?_
  refine XC.sr ?_
  refine XO.mv rfl rfl ?_
  refine XO.mv rfl rfl ?_
  refine XO.call rfl (p_is _ _ K hK s hI _) .h1 cl_98 rfl ?_
  rintro _ _ (⟨h1, rfl, rfl⟩ | ⟨h1, rfl, rfl⟩)
  · skip
    obtain ⟨h1, h2, h3⟩ := h1
    refine XO.mv rfl rfl ?_
    refine XO.v (V.extract rfl rfl) rfl ?_
    refine XO.v (V.extract rfl rfl) rfl ?_
    refine XO.as rfl rfl ?_
    refine XO.as rfl rfl ?_
    refine XO.nk [(2, _), (8, _), (9, _)] (S3 rfl rfl rfl) ?_
    refine XC.seq ?_
    refine XC.sr ?_
    refine XO.mv rfl rfl ?_
    refine XO.v (V.nilNil rfl Tryz.underlying36 rfl) rfl ?_
    refine XO.nk [(2, _), (8, _), (9, _), (19, _)] (S4 rfl rfl rfl rfl) ?_
    refine XC.condF rfl rfl ?_
    refine XC.skip ?_
    refine XE.next ?_
    refine XC.keep [(2, _), (8, _)] (S2 rfl rfl) ?_
    refine XC.seq ?_
    refine XC.sr ?_
    refine XO.mv rfl rfl ?_
    refine XO.v (V.nilCheckP rfl) rfl ?_
    refine XO.v (V.fieldAddr rfl fo_43_1) rfl ?_
    refine XO.v (V.load rfl (inXM .here) (encP.ld_p_I_reads _ _ (by omega)) sc_3) rfl ?_
    refine XO.v (V.cmp rfl rfl rfl) rfl ?_
    refine XO.nk [(2, _), (8, _), (25, _)] (S3 rfl rfl rfl) ?_
    refine XC.condP rfl (fun h4 => ?_) (fun h4 => ?_)
    · skip
      refine XC.sr ?_
      refine XO.v (V.makeIface rfl Tryz.underlying82 (by simp)) rfl ?_
      refine XO.as rfl rfl ?_
      refine XO.as rfl rfl ?_
      refine XO.nk [(6, _), (7, _)] (S2 rfl rfl) ?_
      refine XC.ret ?_
      refine XE.thenRet ?_
      refine XE.ret2 rfl rfl rfl (post_of .h1 rfl ?_)
      first
      | (rw [PS.read_err (by assumption)]; exact ⟨by show _ = Value.tuple #[_, errv 82 (s.is n)]; rw [errv_pos _ (by assumption)], rfl⟩)
      | (rw [PS.read_state (by assumption) (by assumption)]; exact ⟨rfl, rfl⟩)
      | (rw [PS.read_bound (by assumption) (by assumption) (by omega)]; exact ⟨rfl, rfl⟩)
      | (rw [PS.read_again (by assumption) (by assumption) (by omega) ⟨by assumption, by omega, by omega⟩]; exact ⟨rfl, rfl⟩)
      | (rw [PS.read_ok (by assumption) (by assumption) (by omega) (by rintro ⟨q1, q2, q3⟩; first | contradiction | omega)]; exact ⟨rfl, rfl⟩)
    · skip
      refine XC.skip ?_
      refine XE.next ?_
      refine XC.keep [(2, _), (8, _)] (S2 rfl rfl) ?_
      refine XC.seq ?_
      refine XC.sr ?_
      refine XO.mv rfl rfl ?_
      refine XO.v (V.cmp rfl rfl rfl) rfl ?_
      refine XO.nk [(2, _), (8, _), (28, _)] (S3 rfl rfl rfl) ?_
      refine XC.condP rfl (fun h5 => ?_) (fun h5 => ?_)
      · skip
        refine XC.sr ?_
        refine XO.v (V.makeIface rfl Tryz.underlying82 (by simp)) rfl ?_
        refine XO.as rfl rfl ?_
        refine XO.as rfl rfl ?_
        refine XO.nk [(6, _), (7, _)] (S2 rfl rfl) ?_
        refine XC.ret ?_
        refine XE.thenRet ?_
        refine XE.ret2 rfl rfl rfl (post_of .h1 rfl ?_)
        first
        | (rw [PS.read_err (by assumption)]; exact ⟨by show _ = Value.tuple #[_, errv 82 (s.is n)]; rw [errv_pos _ (by assumption)], rfl⟩)
        | (rw [PS.read_state (by assumption) (by assumption)]; exact ⟨rfl, rfl⟩)
        | (rw [PS.read_bound (by assumption) (by assumption) (by omega)]; exact ⟨rfl, rfl⟩)
        | (rw [PS.read_again (by assumption) (by assumption) (by omega) ⟨by assumption, by omega, by omega⟩]; exact ⟨rfl, rfl⟩)
        | (rw [PS.read_ok (by assumption) (by assumption) (by omega) (by rintro ⟨q1, q2, q3⟩; first | contradiction | omega)]; exact ⟨rfl, rfl⟩)
      · skip
        refine XC.skip ?_
        refine XE.next ?_
        refine XC.keep [(2, _), (8, _)] (S2 rfl rfl) ?_
        refine XC.seq ?_
        refine XC.sr ?_
        refine XO.mv rfl rfl ?_
        refine XO.v (V.nilCheckP rfl) rfl ?_
        refine XO.v (V.fieldAddr rfl fo_43_0) rfl ?_
        refine XO.v (V.load rfl (inXM .here) (encP.ld_p_I_b _ _ (by omega)) sc_9) rfl ?_
        refine XO.v (V.strCmp rfl rfl rfl) rfl ?_
        refine XO.mv rfl rfl ?_
        refine XO.splitP (d := 35) rfl (fun h6 => ?_) (fun h6 => ?_)
        · skip
          refine XO.guardRun rfl rfl rfl ?_
          refine XO.mv rfl rfl ?_
          refine XO.guardRun rfl rfl rfl ?_
          refine XO.v (V.nilCheckP rfl) rfl ?_
          refine XO.guardRun rfl rfl rfl ?_
          refine XO.v (V.fieldAddr rfl fo_43_2) rfl ?_
          refine XO.guardRun rfl rfl rfl ?_
          refine XO.v (V.load rfl (inXM .here) (encP.ld_p_I_writes _ _ (by omega)) sc_3) rfl ?_
          refine XO.guardRun rfl rfl rfl ?_
          refine XO.v (V.cmp rfl rfl rfl) rfl ?_
          refine XO.v (V.pick rfl rfl rfl rfl) rfl ?_
          refine XO.mv rfl rfl ?_
          refine XO.splitP (d := 42) rfl (fun h7 => ?_) (fun h7 => ?_)
          · skip
            refine XO.guardRun rfl rfl rfl ?_
            refine XO.mv rfl rfl ?_
            refine XO.guardRun rfl rfl rfl ?_
            refine XO.v (V.cmp rfl rfl rfl) rfl ?_
            refine XO.v (V.pick rfl rfl rfl rfl) rfl ?_
            refine XO.nk [(2, _), (8, _), (45, _)] (S3 rfl rfl rfl) ?_
            refine XC.condP rfl (fun h8 => ?_) (fun h8 => ?_)
            · skip
              refine XC.sr ?_
              refine XO.v (V.makeIface rfl Tryz.underlying82 (by simp)) rfl ?_
              refine XO.as rfl rfl ?_
              refine XO.as rfl rfl ?_
              refine XO.nk [(6, _), (7, _)] (S2 rfl rfl) ?_
              refine XC.ret ?_
              refine XE.thenRet ?_
              refine XE.ret2 rfl rfl rfl (post_of .h1 rfl ?_)
              first
              | (rw [PS.read_err (by assumption)]; exact ⟨by show _ = Value.tuple #[_, errv 82 (s.is n)]; rw [errv_pos _ (by assumption)], rfl⟩)
              | (rw [PS.read_state (by assumption) (by assumption)]; exact ⟨rfl, rfl⟩)
              | (rw [PS.read_bound (by assumption) (by assumption) (by omega)]; exact ⟨rfl, rfl⟩)
              | (rw [PS.read_again (by assumption) (by assumption) (by omega) ⟨by assumption, by omega, by omega⟩]; exact ⟨rfl, rfl⟩)
              | (rw [PS.read_ok (by assumption) (by assumption) (by omega) (by rintro ⟨q1, q2, q3⟩; first | contradiction | omega)]; exact ⟨rfl, rfl⟩)
            · skip
              refine XC.skip ?_
              refine XE.next ?_
              refine XC.keep [(2, _), (8, _)] (S2 rfl rfl) ?_
              refine XC.sr ?_
              refine XO.mv rfl rfl ?_
              refine XO.mv rfl rfl ?_
              refine XO.v (V.nilCheckP rfl) rfl ?_
              refine XO.v (V.fieldAddr rfl fo_43_0) rfl ?_
              refine XO.v (V.load rfl (inXM .here) (encP.ld_p_I_b _ _ (by omega)) sc_9) rfl ?_
              refine XO.v (V.lenStr rfl Tryz.underlying9) rfl ?_
              refine XO.v (V.min2 rfl rfl) rfl ?_
              refine XO.as rfl rfl ?_
              refine XO.nk [(8, _), (10, _)] (S2 rfl rfl) ?_
              refine XC.sr ?_
              refine XO.mv rfl rfl ?_
              refine XO.v (V.nilCheckP rfl) rfl ?_
              refine XO.v (V.fieldAddr rfl fo_43_0) rfl ?_
              refine XO.v (V.load rfl (inXM .here) (encP.ld_p_I_b _ _ (by omega)) sc_9) rfl ?_
              refine XO.mv rfl rfl ?_
              refine XO.v (V.sliceTo rfl rfl Tryz.underlying9 (by omega)) rfl ?_
              refine XO.as rfl rfl ?_
              refine XO.nk [(8, _), (10, _), (11, _)] (S3 rfl rfl rfl) ?_
              refine XC.sr ?_
              refine XO.mv rfl rfl ?_
              refine XO.mv rfl rfl ?_
              refine XO.v (V.nilCheckP rfl) rfl ?_
              refine XO.v (V.fieldAddr rfl fo_43_0) rfl ?_
              refine XO.v (V.load rfl (inXM .here) (encP.ld_p_I_b _ _ (by omega)) sc_9) rfl ?_
              refine XO.mv rfl rfl ?_
              refine XO.v (V.sliceFrom rfl rfl Tryz.underlying9 (by omega)) rfl ?_
              refine XO.v (V.nilCheckP rfl) rfl ?_
              refine XO.v (V.fieldAddr rfl fo_43_0) rfl ?_
              refine XO.store rfl rfl .here (encP.st_p_I_b _ _ (by omega) _) rfl sz_9_1 ?_
              refine XO.nk [(11, _)] (S1 rfl) ?_
              refine XC.sr ?_
              refine XO.mv rfl rfl ?_
              refine XO.as rfl rfl ?_
              refine XO.as rfl rfl ?_
              refine XO.nk [(6, _), (7, _)] (S2 rfl rfl) ?_
              refine XC.ret ?_
              refine XE.ret2 rfl rfl rfl (post_of .h1 rfl ?_)
              first
              | (rw [PS.read_err (by assumption)]; exact ⟨by show _ = Value.tuple #[_, errv 82 (s.is n)]; rw [errv_pos _ (by assumption)], rfl⟩)
              | (rw [PS.read_state (by assumption) (by assumption)]; exact ⟨rfl, rfl⟩)
              | (rw [PS.read_bound (by assumption) (by assumption) (by omega)]; exact ⟨rfl, rfl⟩)
              | (rw [PS.read_again (by assumption) (by assumption) (by omega) ⟨by assumption, by omega, by omega⟩]; exact ⟨rfl, rfl⟩)
              | (rw [PS.read_ok (by assumption) (by assumption) (by omega) (by rintro ⟨q1, q2, q3⟩; first | contradiction | omega)]; exact ⟨rfl, rfl⟩)
          · skip
            refine XO.guardSkip rfl rfl rfl rfl rfl ?_
            refine XO.guardSkip rfl rfl rfl rfl rfl ?_
            refine XO.v (V.pick rfl rfl rfl rfl) rfl ?_
            refine XO.nk [(2, _), (8, _), (45, _)] (S3 rfl rfl rfl) ?_
            refine XC.condF rfl rfl ?_
            refine XC.skip ?_
            refine XE.next ?_
            refine XC.keep [(2, _), (8, _)] (S2 rfl rfl) ?_
            refine XC.sr ?_
            refine XO.mv rfl rfl ?_
            refine XO.mv rfl rfl ?_
            refine XO.v (V.nilCheckP rfl) rfl ?_
            refine XO.v (V.fieldAddr rfl fo_43_0) rfl ?_
            refine XO.v (V.load rfl (inXM .here) (encP.ld_p_I_b _ _ (by omega)) sc_9) rfl ?_
            refine XO.v (V.lenStr rfl Tryz.underlying9) rfl ?_
            refine XO.v (V.min2 rfl rfl) rfl ?_
            refine XO.as rfl rfl ?_
            refine XO.nk [(8, _), (10, _)] (S2 rfl rfl) ?_
            refine XC.sr ?_
            refine XO.mv rfl rfl ?_
            refine XO.v (V.nilCheckP rfl) rfl ?_
            refine XO.v (V.fieldAddr rfl fo_43_0) rfl ?_
            refine XO.v (V.load rfl (inXM .here) (encP.ld_p_I_b _ _ (by omega)) sc_9) rfl ?_
            refine XO.mv rfl rfl ?_
            refine XO.v (V.sliceTo rfl rfl Tryz.underlying9 (by omega)) rfl ?_
            refine XO.as rfl rfl ?_
            refine XO.nk [(8, _), (10, _), (11, _)] (S3 rfl rfl rfl) ?_
            refine XC.sr ?_
            refine XO.mv rfl rfl ?_
            refine XO.mv rfl rfl ?_
            refine XO.v (V.nilCheckP rfl) rfl ?_
            refine XO.v (V.fieldAddr rfl fo_43_0) rfl ?_
            refine XO.v (V.load rfl (inXM .here) (encP.ld_p_I_b _ _ (by omega)) sc_9) rfl ?_
            refine XO.mv rfl rfl ?_
            refine XO.v (V.sliceFrom rfl rfl Tryz.underlying9 (by omega)) rfl ?_
            refine XO.v (V.nilCheckP rfl) rfl ?_
            refine XO.v (V.fieldAddr rfl fo_43_0) rfl ?_
            refine XO.store rfl rfl .here (encP.st_p_I_b _ _ (by omega) _) rfl sz_9_1 ?_
            refine XO.nk [(11, _)] (S1 rfl) ?_
            refine XC.sr ?_
            refine XO.mv rfl rfl ?_
            refine XO.as rfl rfl ?_
            refine XO.as rfl rfl ?_
            refine XO.nk [(6, _), (7, _)] (S2 rfl rfl) ?_
            refine XC.ret ?_
            refine XE.ret2 rfl rfl rfl (post_of .h1 rfl ?_)
            first
            | (rw [PS.read_err (by assumption)]; exact ⟨by show _ = Value.tuple #[_, errv 82 (s.is n)]; rw [errv_pos _ (by assumption)], rfl⟩)
            | (rw [PS.read_state (by assumption) (by assumption)]; exact ⟨rfl, rfl⟩)
            | (rw [PS.read_bound (by assumption) (by assumption) (by omega)]; exact ⟨rfl, rfl⟩)
            | (rw [PS.read_again (by assumption) (by assumption) (by omega) ⟨by assumption, by omega, by omega⟩]; exact ⟨rfl, rfl⟩)
            | (rw [PS.read_ok (by assumption) (by assumption) (by omega) (by rintro ⟨q1, q2, q3⟩; first | contradiction | omega)]; exact ⟨rfl, rfl⟩)
        · skip
          refine XO.guardSkip rfl rfl rfl rfl rfl ?_
          refine XO.guardSkip rfl rfl rfl rfl rfl ?_
          refine XO.guardSkip rfl rfl rfl rfl rfl ?_
          refine XO.guardSkip rfl rfl rfl rfl rfl ?_
          refine XO.guardSkip rfl rfl rfl rfl rfl ?_
          refine XO.v (V.pick rfl rfl rfl rfl) rfl ?_
          refine XO.mv rfl rfl ?_
          refine XO.guardSkip rfl rfl rfl rfl rfl ?_
          refine XO.guardSkip rfl rfl rfl rfl rfl ?_
          refine XO.v (V.pick rfl rfl rfl rfl) rfl ?_
          refine XO.nk [(2, _), (8, _), (45, _)] (S3 rfl rfl rfl) ?_
          refine XC.condF rfl rfl ?_
          refine XC.skip ?_
          refine XE.next ?_
          refine XC.keep [(2, _), (8, _)] (S2 rfl rfl) ?_
          refine XC.sr ?_
          refine XO.mv rfl rfl ?_
          refine XO.mv rfl rfl ?_
          refine XO.v (V.nilCheckP rfl) rfl ?_
          refine XO.v (V.fieldAddr rfl fo_43_0) rfl ?_
          refine XO.v (V.load rfl (inXM .here) (encP.ld_p_I_b _ _ (by omega)) sc_9) rfl ?_
          refine XO.v (V.lenStr rfl Tryz.underlying9) rfl ?_
          refine XO.v (V.min2 rfl rfl) rfl ?_
          refine XO.as rfl rfl ?_
          refine XO.nk [(8, _), (10, _)] (S2 rfl rfl) ?_
          refine XC.sr ?_
          refine XO.mv rfl rfl ?_
          refine XO.v (V.nilCheckP rfl) rfl ?_
          refine XO.v (V.fieldAddr rfl fo_43_0) rfl ?_
          refine XO.v (V.load rfl (inXM .here) (encP.ld_p_I_b _ _ (by omega)) sc_9) rfl ?_
          refine XO.mv rfl rfl ?_
          refine XO.v (V.sliceTo rfl rfl Tryz.underlying9 (by omega)) rfl ?_
          refine XO.as rfl rfl ?_
          refine XO.nk [(8, _), (10, _), (11, _)] (S3 rfl rfl rfl) ?_
          refine XC.sr ?_
          refine XO.mv rfl rfl ?_
          refine XO.mv rfl rfl ?_
          refine XO.v (V.nilCheckP rfl) rfl ?_
          refine XO.v (V.fieldAddr rfl fo_43_0) rfl ?_
          refine XO.v (V.load rfl (inXM .here) (encP.ld_p_I_b _ _ (by omega)) sc_9) rfl ?_
          refine XO.mv rfl rfl ?_
          refine XO.v (V.sliceFrom rfl rfl Tryz.underlying9 (by omega)) rfl ?_
          refine XO.v (V.nilCheckP rfl) rfl ?_
          refine XO.v (V.fieldAddr rfl fo_43_0) rfl ?_
          refine XO.store rfl rfl .here (encP.st_p_I_b _ _ (by omega) _) rfl sz_9_1 ?_
          refine XO.nk [(11, _)] (S1 rfl) ?_
          refine XC.sr ?_
          refine XO.mv rfl rfl ?_
          refine XO.as rfl rfl ?_
          refine XO.as rfl rfl ?_
          refine XO.nk [(6, _), (7, _)] (S2 rfl rfl) ?_
          refine XC.ret ?_
          refine XE.ret2 rfl rfl rfl (post_of .h1 rfl ?_)
          first
          | (rw [PS.read_err (by assumption)]; exact ⟨by show _ = Value.tuple #[_, errv 82 (s.is n)]; rw [errv_pos _ (by assumption)], rfl⟩)
          | (rw [PS.read_state (by assumption) (by assumption)]; exact ⟨rfl, rfl⟩)
          | (rw [PS.read_bound (by assumption) (by assumption) (by omega)]; exact ⟨rfl, rfl⟩)
          | (rw [PS.read_again (by assumption) (by assumption) (by omega) ⟨by assumption, by omega, by omega⟩]; exact ⟨rfl, rfl⟩)
          | (rw [PS.read_ok (by assumption) (by assumption) (by omega) (by rintro ⟨q1, q2, q3⟩; first | contradiction | omega)]; exact ⟨rfl, rfl⟩)
  · skip
    refine XO.mv rfl rfl ?_
    refine XO.v (V.extract rfl rfl) rfl ?_
    refine XO.v (V.extract rfl rfl) rfl ?_
    refine XO.as rfl rfl ?_
    refine XO.as rfl rfl ?_
    refine XO.nk [(2, _), (8, _), (9, _)] (S3 rfl rfl rfl) ?_
    refine XC.seq ?_
    refine XC.sr ?_
    refine XO.mv rfl rfl ?_
    refine XO.v (V.ifaceNil rfl Tryz.underlying36 rfl) rfl ?_
    refine XO.nk [(2, _), (8, _), (9, _), (19, _)] (S4 rfl rfl rfl rfl) ?_
    refine XC.condT rfl rfl ?_
    refine XC.sr ?_
    refine XO.mv rfl rfl ?_
    refine XO.as rfl rfl ?_
    refine XO.as rfl rfl ?_
    refine XO.nk [(6, _), (7, _)] (S2 rfl rfl) ?_
    refine XC.ret ?_
    refine XE.thenRet ?_
    refine XE.ret2 rfl rfl rfl (post_of .h1 rfl ?_)
    first
    | (rw [PS.read_err (by assumption)]; exact ⟨by show _ = Value.tuple #[_, errv 82 (s.is n)]; rw [errv_pos _ (by assumption)], rfl⟩)
    | (rw [PS.read_state (by assumption) (by assumption)]; exact ⟨rfl, rfl⟩)
    | (rw [PS.read_bound (by assumption) (by assumption) (by omega)]; exact ⟨rfl, rfl⟩)
    | (rw [PS.read_again (by assumption) (by assumption) (by omega) ⟨by assumption, by omega, by omega⟩]; exact ⟨rfl, rfl⟩)
    | (rw [PS.read_ok (by assumption) (by assumption) (by omega) (by rintro ⟨q1, q2, q3⟩; first | contradiction | omega)]; exact ⟨rfl, rfl⟩)
set_option maxRecDepth 10000 in
set_option maxHeartbeats 400000 in
theorem p_Write (b o : Nat) (K : Int) (hK : K ≤ 1000000) (s : PS) (hI : s.Inv K) (n : Int) (t : ByteArray) (ht : t.size ≤ 1000000) : Spec Tryz.prog 73 [ptr b o 0, .int .i64 n, .string t]
    [.cells b o 24 (encP s)]
    (fun v H1 => v = .tuple #[.int .i64 (s.write n t).1, errv 82 (s.write n t).2.1] ∧ H1 = [.cells b o 24 (encP (s.write n t).2.2)]) := by
  have b0 := hI.e0 n
  have b1 := hI.e1 n
  have bl := hI.len n
  have he := str_empty t
  refine Spec.intro Tryz.func73 rfl rfl ?_
  intro W
  refine XC.sr ?_
  refine XO.as rfl rfl ?_
  refine XO.as rfl rfl ?_
  refine XO.nk [(0, _), (1, _), (2, _)] (S3 rfl rfl rfl) ?_
  refine XC.sr ?_
  refine XO.mv rfl rfl ?_
  refine XO.mv rfl rfl ?_
  refine XO.call rfl (p_is _ _ K hK s hI _) .h1 cl_98 rfl ?_
  rintro _ _ (⟨h1, rfl, rfl⟩ | ⟨h1, rfl, rfl⟩)
  · skip
    obtain ⟨h1, h2, h3⟩ := h1
    refine XO.mv rfl rfl ?_
    refine XO.v (V.extract rfl rfl) rfl ?_
    refine XO.v (V.extract rfl rfl) rfl ?_
    refine XO.as rfl rfl ?_
    refine XO.as rfl rfl ?_
    refine XO.nk [(2, _), (8, _), (9, _)] (S3 rfl rfl rfl) ?_
    refine XC.seq ?_
    refine XC.sr ?_
    refine XO.mv rfl rfl ?_
    refine XO.v (V.nilNil rfl Tryz.underlying36 rfl) rfl ?_
    refine XO.nk [(2, _), (8, _), (9, _), (18, _)] (S4 rfl rfl rfl rfl) ?_
    refine XC.condF rfl rfl ?_
    refine XC.skip ?_
    refine XE.next ?_
    refine XC.keep [(2, _), (8, _)] (S2 rfl rfl) ?_
    refine XC.seq ?_
    refine XC.sr ?_
    refine XO.mv rfl rfl ?_
    refine XO.v (V.nilCheckP rfl) rfl ?_
    refine XO.v (V.fieldAddr rfl fo_43_2) rfl ?_
    refine XO.v (V.load rfl (inXM .here) (encP.ld_p_I_writes _ _ (by omega)) sc_3) rfl ?_
    refine XO.v (V.cmp rfl rfl rfl) rfl ?_
    refine XO.nk [(2, _), (8, _), (24, _)] (S3 rfl rfl rfl) ?_
    refine XC.condP rfl (fun h4 => ?_) (fun h4 => ?_)
    · skip
      refine XC.sr ?_
      refine XO.v (V.makeIface rfl Tryz.underlying82 (by simp)) rfl ?_
      refine XO.as rfl rfl ?_
      refine XO.as rfl rfl ?_
      refine XO.nk [(6, _), (7, _)] (S2 rfl rfl) ?_
      refine XC.ret ?_
      refine XE.thenRet ?_
      refine XE.ret2 rfl rfl rfl (post_of .h1 rfl ?_)
      first
      | (rw [PS.write_err (by assumption)]; exact ⟨by show _ = Value.tuple #[_, errv 82 (s.is n)]; rw [errv_pos _ (by assumption)], rfl⟩)
      | (rw [PS.write_state (by assumption) (by assumption)]; exact ⟨rfl, rfl⟩)
      | (rw [PS.write_broken (by assumption) (by assumption) (by assumption)]; exact ⟨rfl, rfl⟩)
      | (rw [PS.write_again (by assumption) (by assumption) (by assumption) ⟨by assumption, by first | omega | (have hq := mt he.2 (by assumption); omega)⟩]; exact ⟨rfl, rfl⟩)
      | (rw [PS.write_ok (by assumption) (by assumption) (by assumption) (by first | omega | (have hq := he.1 (Decidable.not_not.1 (by assumption)); omega))]; exact ⟨rfl, rfl⟩)
    · skip
      refine XC.skip ?_
      refine XE.next ?_
      refine XC.keep [(2, _), (8, _)] (S2 rfl rfl) ?_
      refine XC.seq ?_
      refine XC.sr ?_
      refine XO.mv rfl rfl ?_
      refine XO.v (V.nilCheckP rfl) rfl ?_
      refine XO.v (V.fieldAddr rfl fo_43_1) rfl ?_
      refine XO.v (V.load rfl (inXM .here) (encP.ld_p_I_reads _ _ (by omega)) sc_3) rfl ?_
      refine XO.v (V.cmp rfl rfl rfl) rfl ?_
      refine XO.nk [(2, _), (8, _), (30, _)] (S3 rfl rfl rfl) ?_
      refine XC.condP rfl (fun h5 => ?_) (fun h5 => ?_)
      · skip
        refine XC.sr ?_
        refine XO.v (V.makeIface rfl Tryz.underlying82 (by simp)) rfl ?_
        refine XO.as rfl rfl ?_
        refine XO.as rfl rfl ?_
        refine XO.nk [(6, _), (7, _)] (S2 rfl rfl) ?_
        refine XC.ret ?_
        refine XE.thenRet ?_
        refine XE.ret2 rfl rfl rfl (post_of .h1 rfl ?_)
        first
        | (rw [PS.write_err (by assumption)]; exact ⟨by show _ = Value.tuple #[_, errv 82 (s.is n)]; rw [errv_pos _ (by assumption)], rfl⟩)
        | (rw [PS.write_state (by assumption) (by assumption)]; exact ⟨rfl, rfl⟩)
        | (rw [PS.write_broken (by assumption) (by assumption) (by assumption)]; exact ⟨rfl, rfl⟩)
        | (rw [PS.write_again (by assumption) (by assumption) (by assumption) ⟨by assumption, by first | omega | (have hq := mt he.2 (by assumption); omega)⟩]; exact ⟨rfl, rfl⟩)
        | (rw [PS.write_ok (by assumption) (by assumption) (by assumption) (by first | omega | (have hq := he.1 (Decidable.not_not.1 (by assumption)); omega))]; exact ⟨rfl, rfl⟩)
      · skip
        refine XC.skip ?_
        refine XE.next ?_
        refine XC.keep [(2, _), (8, _)] (S2 rfl rfl) ?_
        refine XC.sr ?_
        refine XO.mv rfl rfl ?_
        refine XO.v (V.lenStr rfl Tryz.underlying9) rfl ?_
        refine XO.mv rfl rfl ?_
        refine XO.v (V.nilCheckP rfl) rfl ?_
        refine XO.v (V.fieldAddr rfl fo_43_0) rfl ?_
        refine XO.v (V.load rfl (inXM .here) (encP.ld_p_I_b _ _ (by omega)) sc_9) rfl ?_
        refine XO.v (V.lenStr rfl Tryz.underlying9) rfl ?_
        refine XO.v (V.sub rfl rfl _ (IntWalk.i64_in _ (by omega))) rfl ?_
        refine XO.v (V.min2 rfl rfl) rfl ?_
        refine XO.as rfl rfl ?_
        refine XO.nk [(2, _), (8, _), (10, _)] (S3 rfl rfl rfl) ?_
        refine XC.seq ?_
        refine XC.sr ?_
        refine XO.mv rfl rfl ?_
        refine XO.v (V.cmp rfl rfl rfl) rfl ?_
        refine XO.mv rfl rfl ?_
        refine XO.splitP (d := 43) rfl (fun h6 => ?_) (fun h6 => ?_)
        · skip
          refine XO.guardRun rfl rfl rfl ?_
          refine XO.mv rfl rfl ?_
          refine XO.guardRun rfl rfl rfl ?_
          refine XO.v (V.strCmp rfl rfl rfl) rfl ?_
          refine XO.v (V.pick rfl rfl rfl rfl) rfl ?_
          refine XO.nk [(2, _), (8, _), (10, _), (46, _)] (S4 rfl rfl rfl rfl) ?_
          refine XC.condP rfl (fun h7 => ?_) (fun h7 => ?_)
          · skip
            refine XC.sr ?_
            refine XO.v (V.makeIface rfl Tryz.underlying82 (by simp)) rfl ?_
            refine XO.as rfl rfl ?_
            refine XO.as rfl rfl ?_
            refine XO.nk [(6, _), (7, _)] (S2 rfl rfl) ?_
            refine XC.ret ?_
            refine XE.thenRet ?_
            refine XE.ret2 rfl rfl rfl (post_of .h1 rfl ?_)
            first
            | (rw [PS.write_err (by assumption)]; exact ⟨by show _ = Value.tuple #[_, errv 82 (s.is n)]; rw [errv_pos _ (by assumption)], rfl⟩)
            | (rw [PS.write_state (by assumption) (by assumption)]; exact ⟨rfl, rfl⟩)
            | (rw [PS.write_broken (by assumption) (by assumption) (by assumption)]; exact ⟨rfl, rfl⟩)
            | (rw [PS.write_again (by assumption) (by assumption) (by assumption) ⟨by assumption, by first | omega | (have hq := mt he.2 (by assumption); omega)⟩]; exact ⟨rfl, rfl⟩)
            | (rw [PS.write_ok (by assumption) (by assumption) (by assumption) (by first | omega | (have hq := he.1 (Decidable.not_not.1 (by assumption)); omega))]; exact ⟨rfl, rfl⟩)
          · skip
            refine XC.skip ?_
            refine XE.next ?_
            refine XC.keep [(2, _), (8, _), (10, _)] (S3 rfl rfl rfl) ?_
            refine XC.seq ?_
            refine XC.regionQ mixed (f := 11) (l := #[false, false, false, false, false, false, false, false, false, false, false]) rfl rfl XM.drawn' ?_
            refine XQ.pv (i := 0) (l' := #[tt,ff,ff,ff,ff,ff,ff,ff,ff,ff,ff]) rfl (by kernel_rfl) rfl (V.move rfl) rfl rfl ?_
            refine XQ.pv (i := 1) (l' := #[tt,tt,ff,ff,ff,ff,ff,ff,ff,ff,ff]) rfl (by kernel_rfl) rfl (V.nilCheckP rfl) rfl rfl ?_
            refine XQ.pv (i := 2) (l' := #[tt,tt,tt,ff,ff,ff,ff,ff,ff,ff,ff]) rfl (by kernel_rfl) rfl (V.fieldAddr rfl fo_43_0) rfl rfl ?_
            refine XQ.load (i := 3) (l' := #[tt,tt,tt,tt,ff,ff,ff,ff,ff,ff,ff]) (.cells _ _ _ _) [10] rfl (by kernel_rfl) rfl .here (V.load rfl inEnt (encP.ld_p_I_b _ _ (by omega)) sc_9) rfl (by kernel_rfl) rfl ?_
            refine XQ.pv (i := 4) (l' := #[tt,tt,tt,tt,tt,ff,ff,ff,ff,ff,ff]) rfl (by kernel_rfl) rfl (V.move rfl) rfl rfl ?_
            refine XQ.pv (i := 5) (l' := #[tt,tt,tt,tt,tt,tt,ff,ff,ff,ff,ff]) rfl (by kernel_rfl) rfl (V.move rfl) rfl rfl ?_
            refine XQ.pv (i := 6) (l' := #[tt,tt,tt,tt,tt,tt,tt,ff,ff,ff,ff]) rfl (by kernel_rfl) rfl (V.sliceTo rfl rfl Tryz.underlying9 (by omega)) rfl rfl ?_
            refine XQ.pv (i := 7) (l' := #[tt,tt,tt,tt,tt,tt,tt,tt,ff,ff,ff]) rfl (by kernel_rfl) rfl (V.concat rfl rfl (by simp only [ByteArray.size_extract]; omega)) rfl rfl ?_
            refine XQ.pv (i := 8) (l' := #[tt,tt,tt,tt,tt,tt,tt,tt,tt,ff,ff]) rfl (by kernel_rfl) rfl (V.nilCheckP rfl) rfl rfl ?_
            refine XQ.pv (i := 9) (l' := #[tt,tt,tt,tt,tt,tt,tt,tt,tt,tt,ff]) rfl (by kernel_rfl) rfl (V.fieldAddr rfl fo_43_0) rfl rfl ?_
            refine XQ.store (i := 10) (l' := #[tt,tt,tt,tt,tt,tt,tt,tt,tt,tt,tt]) rfl (by kernel_rfl) rfl rfl rfl .here (encP.st_p_I_b _ _ (by omega) _) rfl sz_9_1 (fun _ hw' => ⟨fun hs => (hs 10 (by first | (simp; done) | (simp; rfl)) rfl).elim, trivial⟩) ?_
            refine XQ.done (by kernel_rfl) ?_
            refine XE.next ?_
            refine XC.keep [(10, _)] (S1 rfl) ?_
            refine XC.sr ?_
            refine XO.mv rfl rfl ?_
            refine XO.as rfl rfl ?_
            refine XO.as rfl rfl ?_
            refine XO.nk [(6, _), (7, _)] (S2 rfl rfl) ?_
            refine XC.ret ?_
            refine XE.ret2 rfl rfl rfl (post_of .h1 rfl ?_)
            first
            | (rw [PS.write_err (by assumption)]; exact ⟨by show _ = Value.tuple #[_, errv 82 (s.is n)]; rw [errv_pos _ (by assumption)], rfl⟩)
            | (rw [PS.write_state (by assumption) (by assumption)]; exact ⟨rfl, rfl⟩)
            | (rw [PS.write_broken (by assumption) (by assumption) (by assumption)]; exact ⟨rfl, rfl⟩)
            | (rw [PS.write_again (by assumption) (by assumption) (by assumption) ⟨by assumption, by first | omega | (have hq := mt he.2 (by assumption); omega)⟩]; exact ⟨rfl, rfl⟩)
            | (rw [PS.write_ok (by assumption) (by assumption) (by assumption) (by first | omega | (have hq := he.1 (Decidable.not_not.1 (by assumption)); omega))]; exact ⟨rfl, rfl⟩)
        · skip
          refine XO.guardSkip rfl rfl rfl rfl rfl ?_
          refine XO.guardSkip rfl rfl rfl rfl rfl ?_
          refine XO.v (V.pick rfl rfl rfl rfl) rfl ?_
          refine XO.nk [(2, _), (8, _), (10, _), (46, _)] (S4 rfl rfl rfl rfl) ?_
          refine XC.condF rfl rfl ?_
          refine XC.skip ?_
          refine XE.next ?_
          refine XC.keep [(2, _), (8, _), (10, _)] (S3 rfl rfl rfl) ?_
          refine XC.seq ?_
          refine XC.regionQ mixed (f := 11) (l := #[false, false, false, false, false, false, false, false, false, false, false]) rfl rfl XM.drawn' ?_
          refine XQ.pv (i := 0) (l' := #[tt,ff,ff,ff,ff,ff,ff,ff,ff,ff,ff]) rfl (by kernel_rfl) rfl (V.move rfl) rfl rfl ?_
          refine XQ.pv (i := 1) (l' := #[tt,tt,ff,ff,ff,ff,ff,ff,ff,ff,ff]) rfl (by kernel_rfl) rfl (V.nilCheckP rfl) rfl rfl ?_
          refine XQ.pv (i := 2) (l' := #[tt,tt,tt,ff,ff,ff,ff,ff,ff,ff,ff]) rfl (by kernel_rfl) rfl (V.fieldAddr rfl fo_43_0) rfl rfl ?_
          refine XQ.load (i := 3) (l' := #[tt,tt,tt,tt,ff,ff,ff,ff,ff,ff,ff]) (.cells _ _ _ _) [10] rfl (by kernel_rfl) rfl .here (V.load rfl inEnt (encP.ld_p_I_b _ _ (by omega)) sc_9) rfl (by kernel_rfl) rfl ?_
          refine XQ.pv (i := 4) (l' := #[tt,tt,tt,tt,tt,ff,ff,ff,ff,ff,ff]) rfl (by kernel_rfl) rfl (V.move rfl) rfl rfl ?_
          refine XQ.pv (i := 5) (l' := #[tt,tt,tt,tt,tt,tt,ff,ff,ff,ff,ff]) rfl (by kernel_rfl) rfl (V.move rfl) rfl rfl ?_
          refine XQ.pv (i := 6) (l' := #[tt,tt,tt,tt,tt,tt,tt,ff,ff,ff,ff]) rfl (by kernel_rfl) rfl (V.sliceTo rfl rfl Tryz.underlying9 (by omega)) rfl rfl ?_
          refine XQ.pv (i := 7) (l' := #[tt,tt,tt,tt,tt,tt,tt,tt,ff,ff,ff]) rfl (by kernel_rfl) rfl (V.concat rfl rfl (by simp only [ByteArray.size_extract]; omega)) rfl rfl ?_
          refine XQ.pv (i := 8) (l' := #[tt,tt,tt,tt,tt,tt,tt,tt,tt,ff,ff]) rfl (by kernel_rfl) rfl (V.nilCheckP rfl) rfl rfl ?_
          refine XQ.pv (i := 9) (l' := #[tt,tt,tt,tt,tt,tt,tt,tt,tt,tt,ff]) rfl (by kernel_rfl) rfl (V.fieldAddr rfl fo_43_0) rfl rfl ?_
          refine XQ.store (i := 10) (l' := #[tt,tt,tt,tt,tt,tt,tt,tt,tt,tt,tt]) rfl (by kernel_rfl) rfl rfl rfl .here (encP.st_p_I_b _ _ (by omega) _) rfl sz_9_1 (fun _ hw' => ⟨fun hs => (hs 10 (by first | (simp; done) | (simp; rfl)) rfl).elim, trivial⟩) ?_
          refine XQ.done (by kernel_rfl) ?_
          refine XE.next ?_
          refine XC.keep [(10, _)] (S1 rfl) ?_
          refine XC.sr ?_
          refine XO.mv rfl rfl ?_
          refine XO.as rfl rfl ?_
          refine XO.as rfl rfl ?_
          refine XO.nk [(6, _), (7, _)] (S2 rfl rfl) ?_
          refine XC.ret ?_
          refine XE.ret2 rfl rfl rfl (post_of .h1 rfl ?_)
          first
          | (rw [PS.write_err (by assumption)]; exact ⟨by show _ = Value.tuple #[_, errv 82 (s.is n)]; rw [errv_pos _ (by assumption)], rfl⟩)
          | (rw [PS.write_state (by assumption) (by assumption)]; exact ⟨rfl, rfl⟩)
          | (rw [PS.write_broken (by assumption) (by assumption) (by assumption)]; exact ⟨rfl, rfl⟩)
          | (rw [PS.write_again (by assumption) (by assumption) (by assumption) ⟨by assumption, by first | omega | (have hq := mt he.2 (by assumption); omega)⟩]; exact ⟨rfl, rfl⟩)
          | (rw [PS.write_ok (by assumption) (by assumption) (by assumption) (by first | omega | (have hq := he.1 (Decidable.not_not.1 (by assumption)); omega))]; exact ⟨rfl, rfl⟩)
  · skip
    refine XO.mv rfl rfl ?_
    refine XO.v (V.extract rfl rfl) rfl ?_
    refine XO.v (V.extract rfl rfl) rfl ?_
    refine XO.as rfl rfl ?_
    refine XO.as rfl rfl ?_
    refine XO.nk [(2, _), (8, _), (9, _)] (S3 rfl rfl rfl) ?_
    refine XC.seq ?_
    refine XC.sr ?_
    refine XO.mv rfl rfl ?_
    refine XO.v (V.ifaceNil rfl Tryz.underlying36 rfl) rfl ?_
    refine XO.nk [(2, _), (8, _), (9, _), (18, _)] (S4 rfl rfl rfl rfl) ?_
    refine XC.condT rfl rfl ?_
    refine XC.sr ?_
    refine XO.mv rfl rfl ?_
    refine XO.as rfl rfl ?_
    refine XO.as rfl rfl ?_
    refine XO.nk [(6, _), (7, _)] (S2 rfl rfl) ?_
    refine XC.ret ?_
    refine XE.thenRet ?_
    refine XE.ret2 rfl rfl rfl (post_of .h1 rfl ?_)
    first
    | (rw [PS.write_err (by assumption)]; exact ⟨by show _ = Value.tuple #[_, errv 82 (s.is n)]; rw [errv_pos _ (by assumption)], rfl⟩)
    | (rw [PS.write_state (by assumption) (by assumption)]; exact ⟨rfl, rfl⟩)
    | (rw [PS.write_broken (by assumption) (by assumption) (by assumption)]; exact ⟨rfl, rfl⟩)
    | (rw [PS.write_again (by assumption) (by assumption) (by assumption) ⟨by assumption, by first | omega | (have hq := mt he.2 (by assumption); omega)⟩]; exact ⟨rfl, rfl⟩)
    | (rw [PS.write_ok (by assumption) (by assumption) (by assumption) (by first | omega | (have hq := he.1 (Decidable.not_not.1 (by assumption)); omega))]; exact ⟨rfl, rfl⟩)

set_option maxRecDepth 10000 in
set_option maxHeartbeats 400000 in
theorem p_Pipes (b o : Nat) (K : Int) (hK : K ≤ 1000000) (s : PS) (hI : s.Inv K) : Spec Tryz.prog 18 [ptr b o 0]
    [.cells b o 24 (encP s)]
    (fun v H1 => v = .int .i64 s.open ∧ H1 = [.cells b o 24 (encP s)]) := by
 refine Spec.intro Tryz.func18 rfl rfl ?_
 intro W
 refine XC.sr ?_
 refine XO.as rfl rfl ?_
 refine XO.nk [(0, _)] (S1 rfl) ?_
 refine XC.sr ?_
 refine XO.as rfl rfl ?_
 refine XO.nk [(0, _), (3, _)] (S2 rfl rfl) ?_
 refine XC.seq ?_
 refine XC.sr ?_
 refine XO.mv rfl rfl ?_
 refine XO.nk [(0, _), (3, _), (5, _)] (S3 rfl rfl rfl) ?_
 refine XC.block ?_
 refine XC.loop (σ := Nat) (fun k => 8 - k) (fun k => k ≤ 8) (fun k => [(3, .int .i64 (cntN (fun i => decide (s.e i 0 + s.e i 1 > 0)) k)), (5, .int .i64 k), (0, ptr b o 0)]) (fun k => XM W (foot [.cells b o 24 (encP s)]) [.cells b o 24 (encP s)]) (0) ?_ (S3 rfl rfl rfl) (fun _ hw => XM.pick .h1 hw) ?_
 ·
  omega
 intro k hk
 have b0 := hI.e0 k
 have b1 := hI.e1 k
 have bc := cntN_le (fun i => decide (s.e i 0 + s.e i 1 > 0)) k
 refine XC.sr ?_
 refine XO.v (V.cmp rfl rfl rfl) rfl ?_
 refine XO.nk [(0, _), (3, _), (5, _), (6, _)] (S4 rfl rfl rfl rfl) ?_
 refine XC.seq ?_
 refine XC.condP rfl (fun h1 => ?_) (fun h1 => ?_)
 ·
  refine XC.skip ?_
  refine XE.next ?_
  refine XC.keep [(0, _), (3, _), (5, _)] (S3 rfl rfl rfl) ?_
  refine XC.seq ?_
  refine XC.block ?_
  refine XC.sr ?_
  refine XO.mv rfl rfl ?_
  refine XO.as rfl rfl ?_
  refine XO.nk [(0, _), (3, _), (4, _), (5, _)] (S4 rfl rfl rfl rfl) ?_
  refine XC.seq ?_
  refine XC.regionQ mixed (f := 16) (l := #[false, false, false, false, false, false, false, false, false, false, false, false, false, false, false, false]) rfl rfl XM.drawn' ?_
  refine XQ.pv (i := 0) (l' := #[tt,ff,ff,ff,ff,ff,ff,ff,ff,ff,ff,ff,ff,ff,ff,ff]) rfl (by kernel_rfl) rfl (V.move rfl) rfl rfl ?_
  refine XQ.pv (i := 1) (l' := #[tt,tt,ff,ff,ff,ff,ff,ff,ff,ff,ff,ff,ff,ff,ff,ff]) rfl (by kernel_rfl) rfl (V.move rfl) rfl rfl ?_
  refine XQ.pv (i := 2) (l' := #[tt,tt,tt,ff,ff,ff,ff,ff,ff,ff,ff,ff,ff,ff,ff,ff]) rfl (by kernel_rfl) rfl (V.nilCheckP rfl) rfl rfl ?_
  refine XQ.pv (i := 3) (l' := #[tt,tt,tt,tt,ff,ff,ff,ff,ff,ff,ff,ff,ff,ff,ff,ff]) rfl (by kernel_rfl) rfl (V.fieldAddr rfl fo_46_0) rfl rfl ?_
  refine XQ.pv (i := 4) (l' := #[tt,tt,tt,tt,tt,ff,ff,ff,ff,ff,ff,ff,ff,ff,ff,ff]) rfl (by kernel_rfl) rfl (V.indexArr rfl rfl ar_44 (by omega)) rfl rfl ?_
  refine XQ.pv (i := 5) (l' := #[tt,tt,tt,tt,tt,tt,ff,ff,ff,ff,ff,ff,ff,ff,ff,ff]) rfl (by kernel_rfl) rfl (V.fieldAddr rfl fo_43_1) rfl rfl ?_
  refine XQ.load (i := 6) (l' := #[tt,tt,tt,tt,tt,tt,tt,ff,ff,ff,ff,ff,ff,ff,ff,ff]) (.cells _ _ _ _) [] rfl (by kernel_rfl) rfl .here (V.load rfl inEnt (encP.ld_p_I_reads _ _ (by omega)) sc_3) rfl (by kernel_rfl) rfl ?_
  refine XQ.pv (i := 7) (l' := #[tt,tt,tt,tt,tt,tt,tt,tt,ff,ff,ff,ff,ff,ff,ff,ff]) rfl (by kernel_rfl) rfl (V.move rfl) rfl rfl ?_
  refine XQ.pv (i := 8) (l' := #[tt,tt,tt,tt,tt,tt,tt,tt,tt,ff,ff,ff,ff,ff,ff,ff]) rfl (by kernel_rfl) rfl (V.move rfl) rfl rfl ?_
  refine XQ.pv (i := 9) (l' := #[tt,tt,tt,tt,tt,tt,tt,tt,tt,tt,ff,ff,ff,ff,ff,ff]) rfl (by kernel_rfl) rfl (V.nilCheckP rfl) rfl rfl ?_
  refine XQ.pv (i := 10) (l' := #[tt,tt,tt,tt,tt,tt,tt,tt,tt,tt,tt,ff,ff,ff,ff,ff]) rfl (by kernel_rfl) rfl (V.fieldAddr rfl fo_46_0) rfl rfl ?_
  refine XQ.pv (i := 11) (l' := #[tt,tt,tt,tt,tt,tt,tt,tt,tt,tt,tt,tt,ff,ff,ff,ff]) rfl (by kernel_rfl) rfl (V.indexArr rfl rfl ar_44 (by omega)) rfl rfl ?_
  refine XQ.pv (i := 12) (l' := #[tt,tt,tt,tt,tt,tt,tt,tt,tt,tt,tt,tt,tt,ff,ff,ff]) rfl (by kernel_rfl) rfl (V.fieldAddr rfl fo_43_2) rfl rfl ?_
  refine XQ.load (i := 13) (l' := #[tt,tt,tt,tt,tt,tt,tt,tt,tt,tt,tt,tt,tt,tt,ff,ff]) (.cells _ _ _ _) [] rfl (by kernel_rfl) rfl .here (V.load rfl inEnt (encP.ld_p_I_writes _ _ (by omega)) sc_3) rfl (by kernel_rfl) rfl ?_
  refine XQ.pv (i := 14) (l' := #[tt,tt,tt,tt,tt,tt,tt,tt,tt,tt,tt,tt,tt,tt,tt,ff]) rfl (by kernel_rfl) rfl (V.add rfl rfl _ (IntWalk.i64_in _ (by omega))) rfl rfl ?_
  refine XQ.pv (i := 15) (l' := #[tt,tt,tt,tt,tt,tt,tt,tt,tt,tt,tt,tt,tt,tt,tt,tt]) rfl (by kernel_rfl) rfl (V.cmp rfl rfl rfl) rfl rfl ?_
  refine XQ.done (by kernel_rfl) ?_
  refine XE.next ?_
  refine XC.keep [(0, _), (3, _), (5, _), (23, _)] (S4 rfl rfl rfl rfl) ?_
  refine XC.condP rfl (fun h2 => ?_) (fun h2 => ?_)
  ·
   refine XC.region ?_
   refine XO.mv rfl rfl ?_
   refine XO.v (V.add rfl rfl _ (IntWalk.i64_in _ (by omega))) rfl ?_
   refine XO.as rfl rfl ?_
   refine XO.nil ?_
   refine XE.blockNormal ?_
   refine XE.next ?_
   refine XC.keep [(0, _), (3, _), (5, _)] (S3 rfl rfl rfl) ?_
   refine XC.region ?_
   refine XO.v (V.add rfl rfl _ (IntWalk.i64_in _ (by omega))) rfl ?_
   refine XO.mv rfl rfl ?_
   refine XO.nil ?_
   refine XE.again (k+1) ?_ ?_ (Sub.cons (eqi (by simp only [cntN]; simp; omega)) (S2 rfl rfl)) (fun _ hw => XM.pick .h1 hw)
   ·
    (first | omega | (simp; done) | (simp; omega))
   ·
    (first | omega | (simp; done) | (simp; omega))
  ·
   refine XC.skip ?_
   refine XE.blockNormal ?_
   refine XE.next ?_
   refine XC.keep [(0, _), (3, _), (5, _)] (S3 rfl rfl rfl) ?_
   refine XC.region ?_
   refine XO.v (V.add rfl rfl _ (IntWalk.i64_in _ (by omega))) rfl ?_
   refine XO.mv rfl rfl ?_
   refine XO.nil ?_
   refine XE.again (k+1) ?_ ?_ (Sub.cons (eqi (by simp only [cntN]; simp; omega)) (S2 rfl rfl)) (fun _ hw => XM.pick .h1 hw)
   ·
    (first | omega | (simp; done) | (simp; omega))
   ·
    (first | omega | (simp; done) | (simp; omega))
 ·
  refine XC.exit ?_
  refine XE.thenExit ?_
  refine XE.thenExit ?_
  refine XE.blockExit ?_
  refine XE.next ?_
  refine XC.keep [(3, _)] (S1 rfl) ?_
  refine XC.sr ?_
  refine XO.mv rfl rfl ?_
  refine XO.as rfl rfl ?_
  refine XO.nk [(2, _)] (S1 rfl) ?_
  refine XC.ret ?_
  refine XE.ret1 rfl rfl (post_of .h1 rfl ?_)
  obtain rfl : k = 8 := by omega
  exact ⟨rfl, rfl⟩
set_option maxRecDepth 10000 in
set_option maxHeartbeats 400000 in
theorem pr_Pipes (b o : Nat) (K : Int) (hK : K ≤ 1000000) (s : PS) (hI : s.Inv K) : Spec Tryz.prog 19 [ptr b o 0]
    [.cells b o 24 (encR s)]
    (fun v H1 => v = .int .i64 s.open ∧ H1 = [.cells b o 24 (encR s)]) := by
 refine Spec.intro Tryz.func19 rfl rfl ?_
 intro W
 refine XC.sr ?_
 refine XO.as rfl rfl ?_
 refine XO.nk [(0, _)] (S1 rfl) ?_
 refine XC.sr ?_
 refine XO.as rfl rfl ?_
 refine XO.nk [(0, _), (3, _)] (S2 rfl rfl) ?_
 refine XC.seq ?_
 refine XC.sr ?_
 refine XO.as rfl rfl ?_
 refine XO.nk [(0, _), (3, _), (4, _)] (S3 rfl rfl rfl) ?_
 refine XC.block ?_
 refine XC.loop (σ := Nat) (fun k => 8 - k) (fun k => k ≤ 8) (fun k => [(3, .int .i64 (cntN (fun i => decide (s.e i 0 + s.e i 1 > 0)) k)), (4, .int .i64 k), (0, ptr b o 0)]) (fun k => XM W (foot [.cells b o 24 (encR s)]) [.cells b o 24 (encR s)]) (0) ?_ (S3 rfl rfl rfl) (fun _ hw => XM.pick .h1 hw) ?_
 ·
  omega
 intro k hk
 have b0 := hI.e0 k
 have b1 := hI.e1 k
 have bc := cntN_le (fun i => decide (s.e i 0 + s.e i 1 > 0)) k
 refine XC.seq ?_
 refine XC.sr ?_
 refine XO.mv rfl rfl ?_
 refine XO.v (V.cmp rfl rfl rfl) rfl ?_
 refine XO.nk [(0, _), (3, _), (4, _), (6, _)] (S4 rfl rfl rfl rfl) ?_
 refine XC.condP rfl (fun h1 => ?_) (fun h1 => ?_)
 ·
  refine XC.skip ?_
  refine XE.next ?_
  refine XC.keep [(0, _), (3, _), (4, _)] (S3 rfl rfl rfl) ?_
  refine XC.seq ?_
  refine XC.block ?_
  refine XC.seq ?_
  refine XC.regionQ mixed (f := 16) (l := #[false, false, false, false, false, false, false, false, false, false, false, false, false, false, false, false]) rfl rfl XM.drawn' ?_
  refine XQ.pv (i := 0) (l' := #[tt,ff,ff,ff,ff,ff,ff,ff,ff,ff,ff,ff,ff,ff,ff,ff]) rfl (by kernel_rfl) rfl (V.move rfl) rfl rfl ?_
  refine XQ.pv (i := 1) (l' := #[tt,tt,ff,ff,ff,ff,ff,ff,ff,ff,ff,ff,ff,ff,ff,ff]) rfl (by kernel_rfl) rfl (V.move rfl) rfl rfl ?_
  refine XQ.pv (i := 2) (l' := #[tt,tt,tt,ff,ff,ff,ff,ff,ff,ff,ff,ff,ff,ff,ff,ff]) rfl (by kernel_rfl) rfl (V.nilCheckP rfl) rfl rfl ?_
  refine XQ.pv (i := 3) (l' := #[tt,tt,tt,tt,ff,ff,ff,ff,ff,ff,ff,ff,ff,ff,ff,ff]) rfl (by kernel_rfl) rfl (V.fieldAddr rfl fo_52_1) rfl rfl ?_
  refine XQ.pv (i := 4) (l' := #[tt,tt,tt,tt,tt,ff,ff,ff,ff,ff,ff,ff,ff,ff,ff,ff]) rfl (by kernel_rfl) rfl (V.indexArr rfl rfl ar_50 (by omega)) rfl rfl ?_
  refine XQ.pv (i := 5) (l' := #[tt,tt,tt,tt,tt,tt,ff,ff,ff,ff,ff,ff,ff,ff,ff,ff]) rfl (by kernel_rfl) rfl (V.indexArr rfl rfl ar_49 (by omega)) rfl rfl ?_
  refine XQ.load (i := 6) (l' := #[tt,tt,tt,tt,tt,tt,tt,ff,ff,ff,ff,ff,ff,ff,ff,ff]) (.cells _ _ _ _) [] rfl (by kernel_rfl) rfl .here (V.load rfl inEnt (encR.ld_Ends_I_I _ _ _ (by omega) (by omega)) sc_3) rfl (by kernel_rfl) rfl ?_
  refine XQ.pv (i := 7) (l' := #[tt,tt,tt,tt,tt,tt,tt,tt,ff,ff,ff,ff,ff,ff,ff,ff]) rfl (by kernel_rfl) rfl (V.move rfl) rfl rfl ?_
  refine XQ.pv (i := 8) (l' := #[tt,tt,tt,tt,tt,tt,tt,tt,tt,ff,ff,ff,ff,ff,ff,ff]) rfl (by kernel_rfl) rfl (V.move rfl) rfl rfl ?_
  refine XQ.pv (i := 9) (l' := #[tt,tt,tt,tt,tt,tt,tt,tt,tt,tt,ff,ff,ff,ff,ff,ff]) rfl (by kernel_rfl) rfl (V.nilCheckP rfl) rfl rfl ?_
  refine XQ.pv (i := 10) (l' := #[tt,tt,tt,tt,tt,tt,tt,tt,tt,tt,tt,ff,ff,ff,ff,ff]) rfl (by kernel_rfl) rfl (V.fieldAddr rfl fo_52_1) rfl rfl ?_
  refine XQ.pv (i := 11) (l' := #[tt,tt,tt,tt,tt,tt,tt,tt,tt,tt,tt,tt,ff,ff,ff,ff]) rfl (by kernel_rfl) rfl (V.indexArr rfl rfl ar_50 (by omega)) rfl rfl ?_
  refine XQ.pv (i := 12) (l' := #[tt,tt,tt,tt,tt,tt,tt,tt,tt,tt,tt,tt,tt,ff,ff,ff]) rfl (by kernel_rfl) rfl (V.indexArr rfl rfl ar_49 (by omega)) rfl rfl ?_
  refine XQ.load (i := 13) (l' := #[tt,tt,tt,tt,tt,tt,tt,tt,tt,tt,tt,tt,tt,tt,ff,ff]) (.cells _ _ _ _) [] rfl (by kernel_rfl) rfl .here (V.load rfl inEnt (encR.ld_Ends_I_I _ _ _ (by omega) (by omega)) sc_3) rfl (by kernel_rfl) rfl ?_
  refine XQ.pv (i := 14) (l' := #[tt,tt,tt,tt,tt,tt,tt,tt,tt,tt,tt,tt,tt,tt,tt,ff]) rfl (by kernel_rfl) rfl (V.add rfl rfl _ (IntWalk.i64_in _ (by omega))) rfl rfl ?_
  refine XQ.pv (i := 15) (l' := #[tt,tt,tt,tt,tt,tt,tt,tt,tt,tt,tt,tt,tt,tt,tt,tt]) rfl (by kernel_rfl) rfl (V.cmp rfl rfl rfl) rfl rfl ?_
  refine XQ.done (by kernel_rfl) ?_
  refine XE.next ?_
  refine XC.keep [(0, _), (3, _), (4, _), (24, _)] (S4 rfl rfl rfl rfl) ?_
  refine XC.condP rfl (fun h2 => ?_) (fun h2 => ?_)
  ·
   refine XC.region ?_
   refine XO.mv rfl rfl ?_
   refine XO.v (V.add rfl rfl _ (IntWalk.i64_in _ (by omega))) rfl ?_
   refine XO.as rfl rfl ?_
   refine XO.nil ?_
   refine XE.blockNormal ?_
   refine XE.next ?_
   refine XC.keep [(0, _), (3, _), (4, _)] (S3 rfl rfl rfl) ?_
   refine XC.region ?_
   refine XO.mv rfl rfl ?_
   refine XO.v (V.add rfl rfl _ (IntWalk.i64_in _ (by omega))) rfl ?_
   refine XO.as rfl rfl ?_
   refine XO.nil ?_
   refine XE.again (k+1) ?_ ?_ (Sub.cons (eqi (by simp only [cntN]; simp; omega)) (S2 rfl rfl)) (fun _ hw => XM.pick .h1 hw)
   ·
    (first | omega | (simp; done) | (simp; omega))
   ·
    (first | omega | (simp; done) | (simp; omega))
  ·
   refine XC.skip ?_
   refine XE.blockNormal ?_
   refine XE.next ?_
   refine XC.keep [(0, _), (3, _), (4, _)] (S3 rfl rfl rfl) ?_
   refine XC.region ?_
   refine XO.mv rfl rfl ?_
   refine XO.v (V.add rfl rfl _ (IntWalk.i64_in _ (by omega))) rfl ?_
   refine XO.as rfl rfl ?_
   refine XO.nil ?_
   refine XE.again (k+1) ?_ ?_ (Sub.cons (eqi (by simp only [cntN]; simp; omega)) (S2 rfl rfl)) (fun _ hw => XM.pick .h1 hw)
   ·
    (first | omega | (simp; done) | (simp; omega))
   ·
    (first | omega | (simp; done) | (simp; omega))
 ·
  refine XC.exit ?_
  refine XE.thenExit ?_
  refine XE.thenExit ?_
  refine XE.blockExit ?_
  refine XE.next ?_
  refine XC.keep [(3, _)] (S1 rfl) ?_
  refine XC.sr ?_
  refine XO.mv rfl rfl ?_
  refine XO.as rfl rfl ?_
  refine XO.nk [(2, _)] (S1 rfl) ?_
  refine XC.ret ?_
  refine XE.ret1 rfl rfl (post_of .h1 rfl ?_)
  obtain rfl : k = 8 := by omega
  exact ⟨rfl, rfl⟩
set_option maxRecDepth 10000 in
set_option maxHeartbeats 400000 in
theorem pr_Is (b o : Nat) (K : Int) (hK : K ≤ 1000000) (s : PS) (hI : s.Inv K) (n : Int) : Spec Tryz.prog 105 [ptr b o 0, .int .i64 n]
    [.cells b o 24 (encR s)]
    (fun v H1 => (v = .int .i64 (s.is n) ∧ (s.is n = 0 → 0 ≤ n ∧ n < 8)) ∧ H1 = [.cells b o 24 (encR s)]) := by
 have b0 := hI.e0 n
 have b1 := hI.e1 n
 have bl := hI.len n
 refine Spec.intro Tryz.func105 rfl rfl ?_
 intro W
 refine XC.sr ?_
 refine XO.as rfl rfl ?_
 refine XO.nk [(0, _), (1, _)] (S2 rfl rfl) ?_
 refine XC.seq ?_
 refine XC.sr ?_
 refine XO.mv rfl rfl ?_
 refine XO.v (V.cmp rfl rfl rfl) rfl ?_
 refine XO.mv rfl rfl ?_
 refine XO.splitP (d := 7) rfl (fun h1 => ?_) (fun h1 => ?_)
 ·
  refine XO.guardSkip rfl rfl rfl rfl rfl ?_
  refine XO.guardSkip rfl rfl rfl rfl rfl ?_
  refine XO.v (V.pick rfl rfl rfl rfl) rfl ?_
  refine XO.nk [(0, _), (1, _), (10, _)] (S3 rfl rfl rfl) ?_
  refine XC.condT rfl rfl ?_
  refine XC.sr ?_
  refine XO.as rfl rfl ?_
  refine XO.nk [(4, _)] (S1 rfl) ?_
  refine XC.ret ?_
  refine XE.thenRet ?_
  refine XE.ret1 rfl rfl (post_of .h1 rfl ?_)
  rcases PS.is_cases s n with ⟨q, q1⟩ | ⟨q, q1⟩ | ⟨q, q1⟩ <;> first | (exfalso; omega) | exact ⟨⟨by rw [q], fun _ => by omega⟩, rfl⟩
 ·
  refine XO.guardRun rfl rfl rfl ?_
  refine XO.mv rfl rfl ?_
  refine XO.guardRun rfl rfl rfl ?_
  refine XO.v (V.cmp rfl rfl rfl) rfl ?_
  refine XO.v (V.pick rfl rfl rfl rfl) rfl ?_
  refine XO.nk [(0, _), (1, _), (10, _)] (S3 rfl rfl rfl) ?_
  refine XC.condP rfl (fun h2 => ?_) (fun h2 => ?_)
  ·
   refine XC.sr ?_
   refine XO.as rfl rfl ?_
   refine XO.nk [(4, _)] (S1 rfl) ?_
   refine XC.ret ?_
   refine XE.thenRet ?_
   refine XE.ret1 rfl rfl (post_of .h1 rfl ?_)
   rcases PS.is_cases s n with ⟨q, q1⟩ | ⟨q, q1⟩ | ⟨q, q1⟩ <;> first | (exfalso; omega) | exact ⟨⟨by rw [q], fun _ => by omega⟩, rfl⟩
  ·
   refine XC.skip ?_
   refine XE.next ?_
   refine XC.keep [(0, _), (1, _)] (S2 rfl rfl) ?_
   refine XC.seq ?_
   refine XC.seq ?_
   refine XC.regionQ mixed (f := 16) (l := #[false, false, false, false, false, false, false, false, false, false, false, false, false, false, false, false]) rfl rfl XM.drawn' ?_
   refine XQ.pv (i := 0) (l' := #[tt,ff,ff,ff,ff,ff,ff,ff,ff,ff,ff,ff,ff,ff,ff,ff]) rfl (by kernel_rfl) rfl (V.move rfl) rfl rfl ?_
   refine XQ.pv (i := 1) (l' := #[tt,tt,ff,ff,ff,ff,ff,ff,ff,ff,ff,ff,ff,ff,ff,ff]) rfl (by kernel_rfl) rfl (V.move rfl) rfl rfl ?_
   refine XQ.pv (i := 2) (l' := #[tt,tt,tt,ff,ff,ff,ff,ff,ff,ff,ff,ff,ff,ff,ff,ff]) rfl (by kernel_rfl) rfl (V.nilCheckP rfl) rfl rfl ?_
   refine XQ.pv (i := 3) (l' := #[tt,tt,tt,tt,ff,ff,ff,ff,ff,ff,ff,ff,ff,ff,ff,ff]) rfl (by kernel_rfl) rfl (V.fieldAddr rfl fo_52_1) rfl rfl ?_
   refine XQ.pv (i := 4) (l' := #[tt,tt,tt,tt,tt,ff,ff,ff,ff,ff,ff,ff,ff,ff,ff,ff]) rfl (by kernel_rfl) rfl (V.indexArr rfl rfl ar_50 (by omega)) rfl rfl ?_
   refine XQ.pv (i := 5) (l' := #[tt,tt,tt,tt,tt,tt,ff,ff,ff,ff,ff,ff,ff,ff,ff,ff]) rfl (by kernel_rfl) rfl (V.indexArr rfl rfl ar_49 (by omega)) rfl rfl ?_
   refine XQ.load (i := 6) (l' := #[tt,tt,tt,tt,tt,tt,tt,ff,ff,ff,ff,ff,ff,ff,ff,ff]) (.cells _ _ _ _) [] rfl (by kernel_rfl) rfl .here (V.load rfl inEnt (encR.ld_Ends_I_I _ _ _ (by omega) (by omega)) sc_3) rfl (by kernel_rfl) rfl ?_
   refine XQ.pv (i := 7) (l' := #[tt,tt,tt,tt,tt,tt,tt,tt,ff,ff,ff,ff,ff,ff,ff,ff]) rfl (by kernel_rfl) rfl (V.move rfl) rfl rfl ?_
   refine XQ.pv (i := 8) (l' := #[tt,tt,tt,tt,tt,tt,tt,tt,tt,ff,ff,ff,ff,ff,ff,ff]) rfl (by kernel_rfl) rfl (V.move rfl) rfl rfl ?_
   refine XQ.pv (i := 9) (l' := #[tt,tt,tt,tt,tt,tt,tt,tt,tt,tt,ff,ff,ff,ff,ff,ff]) rfl (by kernel_rfl) rfl (V.nilCheckP rfl) rfl rfl ?_
   refine XQ.pv (i := 10) (l' := #[tt,tt,tt,tt,tt,tt,tt,tt,tt,tt,tt,ff,ff,ff,ff,ff]) rfl (by kernel_rfl) rfl (V.fieldAddr rfl fo_52_1) rfl rfl ?_
   refine XQ.pv (i := 11) (l' := #[tt,tt,tt,tt,tt,tt,tt,tt,tt,tt,tt,tt,ff,ff,ff,ff]) rfl (by kernel_rfl) rfl (V.indexArr rfl rfl ar_50 (by omega)) rfl rfl ?_
   refine XQ.pv (i := 12) (l' := #[tt,tt,tt,tt,tt,tt,tt,tt,tt,tt,tt,tt,tt,ff,ff,ff]) rfl (by kernel_rfl) rfl (V.indexArr rfl rfl ar_49 (by omega)) rfl rfl ?_
   refine XQ.load (i := 13) (l' := #[tt,tt,tt,tt,tt,tt,tt,tt,tt,tt,tt,tt,tt,tt,ff,ff]) (.cells _ _ _ _) [] rfl (by kernel_rfl) rfl .here (V.load rfl inEnt (encR.ld_Ends_I_I _ _ _ (by omega) (by omega)) sc_3) rfl (by kernel_rfl) rfl ?_
   refine XQ.pv (i := 14) (l' := #[tt,tt,tt,tt,tt,tt,tt,tt,tt,tt,tt,tt,tt,tt,tt,ff]) rfl (by kernel_rfl) rfl (V.add rfl rfl _ (IntWalk.i64_in _ (by omega))) rfl rfl ?_
   refine XQ.pv (i := 15) (l' := #[tt,tt,tt,tt,tt,tt,tt,tt,tt,tt,tt,tt,tt,tt,tt,tt]) rfl (by kernel_rfl) rfl (V.cmp rfl rfl rfl) rfl rfl ?_
   refine XQ.done (by kernel_rfl) ?_
   refine XE.next ?_
   refine XC.keep [(26, _)] (S1 rfl) ?_
   refine XC.condP rfl (fun h3 => ?_) (fun h3 => ?_)
   ·
    refine XC.sr ?_
    refine XO.as rfl rfl ?_
    refine XO.nk [(4, _)] (S1 rfl) ?_
    refine XC.ret ?_
    refine XE.thenRet ?_
    refine XE.ret1 rfl rfl (post_of .h1 rfl ?_)
    rcases PS.is_cases s n with ⟨q, q1⟩ | ⟨q, q1⟩ | ⟨q, q1⟩ <;> first | (exfalso; omega) | exact ⟨⟨by rw [q], fun _ => by omega⟩, rfl⟩
   ·
    refine XC.skip ?_
    refine XE.next ?_
    refine XC.keep [] (Sub.nil _) ?_
    refine XC.sr ?_
    refine XO.as rfl rfl ?_
    refine XO.nk [(4, _)] (S1 rfl) ?_
    refine XC.ret ?_
    refine XE.ret1 rfl rfl (post_of .h1 rfl ?_)
    rcases PS.is_cases s n with ⟨q, q1⟩ | ⟨q, q1⟩ | ⟨q, q1⟩ <;> first | (exfalso; omega) | exact ⟨⟨by rw [q], fun _ => by omega⟩, rfl⟩
set_option maxRecDepth 10000 in
set_option maxHeartbeats 400000 in
theorem pr_Make (b o : Nat) (K : Int) (hK : K ≤ 1000000) (s : PS) (hI : s.Inv K) : Spec Tryz.prog 88 [ptr b o 0]
    [.cells b o 24 (encR s)]
    (fun v H1 => v = .tuple #[.int .i64 s.make.1, .int .i64 s.make.2.1] ∧ H1 = [.cells b o 24 (encR s.make.2.2)]) := by
 refine Spec.intro Tryz.func88 rfl rfl ?_
 intro W
 refine XC.sr ?_
 refine XO.as rfl rfl ?_
 refine XO.as rfl rfl ?_
 refine XO.nk [(0, _)] (S1 rfl) ?_
 refine XC.seq ?_
 refine XC.sr ?_
 refine XO.as rfl rfl ?_
 refine XO.nk [(0, _), (4, _)] (S2 rfl rfl) ?_
 refine XC.block ?_
 refine XC.loop (σ := Int) (fun k => (8 - k).toNat) (fun k => (0 ≤ k ∧ k ≤ 8) ∧ ∀ j : Int, 0 ≤ j → j < k → s.e j 0 + s.e j 1 ≠ 0) (fun k => [(4, .int .i64 k), (0, ptr b o 0)]) (fun k => XM W (foot [.cells b o 24 (encR s)]) [.cells b o 24 (encR s)]) (0) ?_ (S2 rfl rfl) (fun _ hw => XM.pick .h1 hw) ?_
 ·
  exact ⟨by omega, fun j h1 h2 => by omega⟩
 intro k hk
 obtain ⟨hk, hn⟩ := hk
 have b0 := hI.e0 k
 have b1 := hI.e1 k
 refine XC.seq ?_
 refine XC.sr ?_
 refine XO.mv rfl rfl ?_
 refine XO.v (V.cmp rfl rfl rfl) rfl ?_
 refine XO.nk [(0, _), (4, _), (6, _)] (S3 rfl rfl rfl) ?_
 refine XC.condP rfl (fun h1 => ?_) (fun h1 => ?_)
 ·
  refine XC.skip ?_
  refine XE.next ?_
  refine XC.keep [(0, _), (4, _)] (S2 rfl rfl) ?_
  refine XC.seq ?_
  refine XC.block ?_
  refine XC.seq ?_
  refine XC.regionQ mixed (f := 16) (l := #[false, false, false, false, false, false, false, false, false, false, false, false, false, false, false, false]) rfl rfl XM.drawn' ?_
  refine XQ.pv (i := 0) (l' := #[tt,ff,ff,ff,ff,ff,ff,ff,ff,ff,ff,ff,ff,ff,ff,ff]) rfl (by kernel_rfl) rfl (V.move rfl) rfl rfl ?_
  refine XQ.pv (i := 1) (l' := #[tt,tt,ff,ff,ff,ff,ff,ff,ff,ff,ff,ff,ff,ff,ff,ff]) rfl (by kernel_rfl) rfl (V.move rfl) rfl rfl ?_
  refine XQ.pv (i := 2) (l' := #[tt,tt,tt,ff,ff,ff,ff,ff,ff,ff,ff,ff,ff,ff,ff,ff]) rfl (by kernel_rfl) rfl (V.nilCheckP rfl) rfl rfl ?_
  refine XQ.pv (i := 3) (l' := #[tt,tt,tt,tt,ff,ff,ff,ff,ff,ff,ff,ff,ff,ff,ff,ff]) rfl (by kernel_rfl) rfl (V.fieldAddr rfl fo_52_1) rfl rfl ?_
  refine XQ.pv (i := 4) (l' := #[tt,tt,tt,tt,tt,ff,ff,ff,ff,ff,ff,ff,ff,ff,ff,ff]) rfl (by kernel_rfl) rfl (V.indexArr rfl rfl ar_50 (by omega)) rfl rfl ?_
  refine XQ.pv (i := 5) (l' := #[tt,tt,tt,tt,tt,tt,ff,ff,ff,ff,ff,ff,ff,ff,ff,ff]) rfl (by kernel_rfl) rfl (V.indexArr rfl rfl ar_49 (by omega)) rfl rfl ?_
  refine XQ.load (i := 6) (l' := #[tt,tt,tt,tt,tt,tt,tt,ff,ff,ff,ff,ff,ff,ff,ff,ff]) (.cells _ _ _ _) [] rfl (by kernel_rfl) rfl .here (V.load rfl inEnt (encR.ld_Ends_I_I _ _ _ (by omega) (by omega)) sc_3) rfl (by kernel_rfl) rfl ?_
  refine XQ.pv (i := 7) (l' := #[tt,tt,tt,tt,tt,tt,tt,tt,ff,ff,ff,ff,ff,ff,ff,ff]) rfl (by kernel_rfl) rfl (V.move rfl) rfl rfl ?_
  refine XQ.pv (i := 8) (l' := #[tt,tt,tt,tt,tt,tt,tt,tt,tt,ff,ff,ff,ff,ff,ff,ff]) rfl (by kernel_rfl) rfl (V.move rfl) rfl rfl ?_
  refine XQ.pv (i := 9) (l' := #[tt,tt,tt,tt,tt,tt,tt,tt,tt,tt,ff,ff,ff,ff,ff,ff]) rfl (by kernel_rfl) rfl (V.nilCheckP rfl) rfl rfl ?_
  refine XQ.pv (i := 10) (l' := #[tt,tt,tt,tt,tt,tt,tt,tt,tt,tt,tt,ff,ff,ff,ff,ff]) rfl (by kernel_rfl) rfl (V.fieldAddr rfl fo_52_1) rfl rfl ?_
  refine XQ.pv (i := 11) (l' := #[tt,tt,tt,tt,tt,tt,tt,tt,tt,tt,tt,tt,ff,ff,ff,ff]) rfl (by kernel_rfl) rfl (V.indexArr rfl rfl ar_50 (by omega)) rfl rfl ?_
  refine XQ.pv (i := 12) (l' := #[tt,tt,tt,tt,tt,tt,tt,tt,tt,tt,tt,tt,tt,ff,ff,ff]) rfl (by kernel_rfl) rfl (V.indexArr rfl rfl ar_49 (by omega)) rfl rfl ?_
  refine XQ.load (i := 13) (l' := #[tt,tt,tt,tt,tt,tt,tt,tt,tt,tt,tt,tt,tt,tt,ff,ff]) (.cells _ _ _ _) [] rfl (by kernel_rfl) rfl .here (V.load rfl inEnt (encR.ld_Ends_I_I _ _ _ (by omega) (by omega)) sc_3) rfl (by kernel_rfl) rfl ?_
  refine XQ.pv (i := 14) (l' := #[tt,tt,tt,tt,tt,tt,tt,tt,tt,tt,tt,tt,tt,tt,tt,ff]) rfl (by kernel_rfl) rfl (V.add rfl rfl _ (IntWalk.i64_in _ (by omega))) rfl rfl ?_
  refine XQ.pv (i := 15) (l' := #[tt,tt,tt,tt,tt,tt,tt,tt,tt,tt,tt,tt,tt,tt,tt,tt]) rfl (by kernel_rfl) rfl (V.cmp rfl rfl rfl) rfl rfl ?_
  refine XQ.done (by kernel_rfl) ?_
  refine XE.next ?_
  refine XC.keep [(0, _), (4, _), (24, _)] (S3 rfl rfl rfl) ?_
  refine XC.condP rfl (fun h2 => ?_) (fun h2 => ?_)
  ·
   refine XC.sr ?_
   refine XO.mv rfl rfl ?_
   refine XO.mv rfl rfl ?_
   refine XO.v (V.build (vs := #[(0, .int .i64 1), (1, .int .i64 1)]) rfl (v := .agg #[.int .i64 1, .int .i64 1]) (fun _ => by kernel_rfl)) rfl ?_
   refine XO.v (V.nilCheckP rfl) rfl ?_
   refine XO.v (V.fieldAddr rfl fo_52_1) rfl ?_
   refine XO.v (V.indexArr rfl rfl ar_50 (by omega)) rfl ?_
   refine XO.storeAgg rfl rfl .here (encR_make _ (by omega)) ⟨rfl, rfl⟩ sz_49_2 ?_
   refine XO.nk [(4, _)] (S1 rfl) ?_
   refine XC.sr ?_
   refine XO.mv rfl rfl ?_
   refine XO.as rfl rfl ?_
   refine XO.as rfl rfl ?_
   refine XO.nk [(2, _), (3, _)] (S2 rfl rfl) ?_
   refine XC.ret ?_
   refine XE.blockRet ?_
   refine XE.thenRet ?_
   refine XE.thenRet ?_
   refine XE.blockRet ?_
   refine XE.thenRet ?_
   refine XE.ret2 rfl rfl rfl (post_of .h1 rfl ?_)
   rw [PS.make_some (by omega) (by assumption) hn]; exact ⟨rfl, rfl⟩
  ·
   refine XC.skip ?_
   refine XE.blockNormal ?_
   refine XE.next ?_
   refine XC.keep [(0, _), (4, _)] (S2 rfl rfl) ?_
   refine XC.region ?_
   refine XO.mv rfl rfl ?_
   refine XO.v (V.add rfl rfl _ (IntWalk.i64_in _ (by omega))) rfl ?_
   refine XO.as rfl rfl ?_
   refine XO.nil ?_
   refine XE.again (k + 1) ?_ ?_ (S2 rfl rfl) (fun _ hw => XM.pick .h1 hw)
   ·
    (first | omega | (simp; done) | (simp; omega))
   ·
    refine ⟨by omega, fun j h1 h2 => ?_⟩
    by_cases hjk : j = k
    ·
     subst hjk; assumption
    ·
     exact hn j h1 (by omega)
 ·
  refine XC.exit ?_
  refine XE.thenExit ?_
  refine XE.thenExit ?_
  refine XE.blockExit ?_
  refine XE.next ?_
  refine XC.keep [] (Sub.nil _) ?_
  refine XC.sr ?_
  refine XO.as rfl rfl ?_
  refine XO.as rfl rfl ?_
  refine XO.nk [(2, _), (3, _)] (S2 rfl rfl) ?_
  refine XC.ret ?_
  refine XE.ret2 rfl rfl rfl (post_of .h1 rfl ?_)
  obtain rfl : k = 8 := by omega
  rw [PS.make_none hn]; exact ⟨rfl, rfl⟩
set_option maxRecDepth 10000 in
set_option maxHeartbeats 400000 in
theorem pr_Turn_true (b o : Nat) (K : Int) (hK : K ≤ 1000000) (s : PS) (hI : s.Inv K) (n d : Int) (hd : -1 ≤ d ∧ d ≤ 1) : Spec Tryz.prog 90 [ptr b o 0, .int .i64 n, .bool true, .int .i64 d]
    [.cells b o 24 (encR s)]
    (fun v H1 => v = .int .i64 (s.turn n true d).1 ∧ H1 = [.cells b o 24 (encR (s.turn n true d).2)]) := by
  have b0 := hI.e0 n
  have b1 := hI.e1 n
  have bl := hI.len n
  have hnew : (s.e n (sel true) = 0) = (s.e n 1 = 0) := by simp [sel]
  refine Spec.intro Tryz.func90 rfl rfl ?_
  intro W
  refine XC.sr ?_
  refine XO.as rfl rfl ?_
  refine XO.nk [(0, _), (1, _), (2, _), (3, _)] (S4 rfl rfl rfl rfl) ?_
  refine XC.seq ?_
  refine XC.sr ?_
  refine XO.mv rfl rfl ?_
  refine XO.mv rfl rfl ?_
  refine XO.call rfl (pr_Is _ _ K hK s hI _) .h1 cl_105 rfl ?_
  rintro _ _ ⟨⟨rfl, h1⟩, rfl⟩
  refine XO.as rfl rfl ?_
  refine XO.nk [(0, _), (1, _), (2, _), (3, _), (9, _)] (S5 rfl rfl rfl rfl rfl) ?_
  refine XC.sr ?_
  refine XO.mv rfl rfl ?_
  refine XO.v (V.cmp rfl rfl rfl) rfl ?_
  refine XO.nk [(0, _), (1, _), (2, _), (3, _), (9, _), (15, _)] (S6 rfl rfl rfl rfl rfl rfl) ?_
  refine XC.condP rfl (fun h2 => ?_) (fun h2 => ?_)
  · skip
    have hz : s.is n ≠ 0 := by omega
    refine XC.sr ?_
    refine XO.mv rfl rfl ?_
    refine XO.as rfl rfl ?_
    refine XO.nk [(8, _)] (S1 rfl) ?_
    refine XC.ret ?_
    refine XE.thenRet ?_
    refine XE.ret1 rfl rfl (post_of .h1 rfl ?_)
    first
    | (rw [PS.turn_err (by assumption)]; exact ⟨rfl, rfl⟩)
    | (rw [PS.turn_state (by assumption) (by assumption)]; exact ⟨rfl, rfl⟩)
    | (rw [PS.turn_ok (by assumption) (by assumption) (by omega)]; exact ⟨rfl, rfl⟩)
    | (rw [PS.turn_zero (by assumption) (by assumption) (by omega)]; exact ⟨rfl, rfl⟩)
  · skip
    have hz : s.is n = 0 := by rcases PS.is_cases s n with ⟨q, q1⟩ | ⟨q, q1⟩ | ⟨q, q1⟩ <;> omega
    obtain ⟨n0, n8⟩ : 0 ≤ n ∧ n < 8 := by rcases PS.is_cases s n with ⟨q, q1⟩ | ⟨q, q1⟩ | ⟨q, q1⟩ <;> omega
    refine XC.skip ?_
    refine XE.next ?_
    refine XC.keep [(0, _), (1, _), (2, _), (3, _)] (S4 rfl rfl rfl rfl) ?_
    refine XC.sr ?_
    refine XO.as rfl rfl ?_
    refine XO.nk [(0, _), (1, _), (2, _), (3, _), (10, _)] (S5 rfl rfl rfl rfl rfl) ?_
    refine XC.seq ?_
    refine XC.sr ?_
    refine XO.mv rfl rfl ?_
    refine XO.nk [(0, _), (1, _), (3, _), (10, _), (17, _)] (S5 rfl rfl rfl rfl rfl) ?_
    refine XC.condT rfl rfl ?_
    refine XC.region ?_
    refine XO.as rfl rfl ?_
    refine XO.nk [(0, _), (1, _), (3, _), (10, _)] (S4 rfl rfl rfl rfl) ?_
    refine XC.seq ?_
    refine XC.sr ?_
    refine XO.mv rfl rfl ?_
    refine XO.mv rfl rfl ?_
    refine XO.mv rfl rfl ?_
    refine XO.v (V.nilCheckP rfl) rfl ?_
    refine XO.v (V.fieldAddr rfl fo_52_1) rfl ?_
    refine XO.v (V.indexArr rfl rfl ar_50 (by omega)) rfl ?_
    refine XO.v (V.indexArr rfl rfl ar_49 (by omega)) rfl ?_
    refine XO.v (V.load rfl (inXM .here) (encR.ld_Ends_I_I _ _ _ (by omega) (by omega)) sc_3) rfl ?_
    refine XO.v (V.cmp rfl rfl rfl) rfl ?_
    refine XO.nk [(0, _), (1, _), (3, _), (10, _), (26, _)] (S5 rfl rfl rfl rfl rfl) ?_
    refine XC.condP rfl (fun h3 => ?_) (fun h3 => ?_)
    · skip
      refine XC.sr ?_
      refine XO.as rfl rfl ?_
      refine XO.nk [(8, _)] (S1 rfl) ?_
      refine XC.ret ?_
      refine XE.thenRet ?_
      refine XE.ret1 rfl rfl (post_of .h1 rfl ?_)
      first
      | (rw [PS.turn_err (by assumption)]; exact ⟨rfl, rfl⟩)
      | (rw [PS.turn_state (by assumption) (by assumption)]; exact ⟨rfl, rfl⟩)
      | (rw [PS.turn_ok (by assumption) (by assumption) (by omega)]; exact ⟨rfl, rfl⟩)
      | (rw [PS.turn_zero (by assumption) (by assumption) (by omega)]; exact ⟨rfl, rfl⟩)
    · skip
      refine XC.skip ?_
      refine XE.next ?_
      refine XC.keep [(0, _), (1, _), (3, _), (10, _)] (S4 rfl rfl rfl rfl) ?_
      refine XC.seq ?_
      refine XC.regionQ mixed (f := 18) (l := #[false, false, false, false, false, false, false, false, false, false, false, false, false, false, false, false, false, false]) rfl rfl XM.drawn' ?_
      refine XQ.pv (i := 0) (l' := #[tt,ff,ff,ff,ff,ff,ff,ff,ff,ff,ff,ff,ff,ff,ff,ff,ff,ff]) rfl (by kernel_rfl) rfl (V.move rfl) rfl rfl ?_
      refine XQ.pv (i := 1) (l' := #[tt,tt,ff,ff,ff,ff,ff,ff,ff,ff,ff,ff,ff,ff,ff,ff,ff,ff]) rfl (by kernel_rfl) rfl (V.move rfl) rfl rfl ?_
      refine XQ.pv (i := 2) (l' := #[tt,tt,tt,ff,ff,ff,ff,ff,ff,ff,ff,ff,ff,ff,ff,ff,ff,ff]) rfl (by kernel_rfl) rfl (V.move rfl) rfl rfl ?_
      refine XQ.pv (i := 3) (l' := #[tt,tt,tt,tt,ff,ff,ff,ff,ff,ff,ff,ff,ff,ff,ff,ff,ff,ff]) rfl (by kernel_rfl) rfl (V.move rfl) rfl rfl ?_
      refine XQ.pv (i := 4) (l' := #[tt,tt,tt,tt,tt,ff,ff,ff,ff,ff,ff,ff,ff,ff,ff,ff,ff,ff]) rfl (by kernel_rfl) rfl (V.move rfl) rfl rfl ?_
      refine XQ.pv (i := 5) (l' := #[tt,tt,tt,tt,tt,tt,ff,ff,ff,ff,ff,ff,ff,ff,ff,ff,ff,ff]) rfl (by kernel_rfl) rfl (V.move rfl) rfl rfl ?_
      refine XQ.pv (i := 6) (l' := #[tt,tt,tt,tt,tt,tt,tt,ff,ff,ff,ff,ff,ff,ff,ff,ff,ff,ff]) rfl (by kernel_rfl) rfl (V.nilCheckP rfl) rfl rfl ?_
      refine XQ.pv (i := 7) (l' := #[tt,tt,tt,tt,tt,tt,tt,tt,ff,ff,ff,ff,ff,ff,ff,ff,ff,ff]) rfl (by kernel_rfl) rfl (V.fieldAddr rfl fo_52_1) rfl rfl ?_
      refine XQ.pv (i := 8) (l' := #[tt,tt,tt,tt,tt,tt,tt,tt,tt,ff,ff,ff,ff,ff,ff,ff,ff,ff]) rfl (by kernel_rfl) rfl (V.indexArr rfl rfl ar_50 (by omega)) rfl rfl ?_
      refine XQ.pv (i := 9) (l' := #[tt,tt,tt,tt,tt,tt,tt,tt,tt,tt,ff,ff,ff,ff,ff,ff,ff,ff]) rfl (by kernel_rfl) rfl (V.indexArr rfl rfl ar_49 (by omega)) rfl rfl ?_
      refine XQ.load (i := 10) (l' := #[tt,tt,tt,tt,tt,tt,tt,tt,tt,tt,tt,ff,ff,ff,ff,ff,ff,ff]) (.cells _ _ _ _) [17] rfl (by kernel_rfl) rfl .here (V.load rfl inEnt (encR.ld_Ends_I_I _ _ _ (by omega) (by omega)) sc_3) rfl (by kernel_rfl) rfl ?_
      refine XQ.pv (i := 11) (l' := #[tt,tt,tt,tt,tt,tt,tt,tt,tt,tt,tt,tt,ff,ff,ff,ff,ff,ff]) rfl (by kernel_rfl) rfl (V.move rfl) rfl rfl ?_
      refine XQ.pv (i := 12) (l' := #[tt,tt,tt,tt,tt,tt,tt,tt,tt,tt,tt,tt,tt,ff,ff,ff,ff,ff]) rfl (by kernel_rfl) rfl (V.add rfl rfl _ (IntWalk.i64_in _ (by omega))) rfl rfl ?_
      refine XQ.pv (i := 13) (l' := #[tt,tt,tt,tt,tt,tt,tt,tt,tt,tt,tt,tt,tt,tt,ff,ff,ff,ff]) rfl (by kernel_rfl) rfl (V.nilCheckP rfl) rfl rfl ?_
      refine XQ.pv (i := 14) (l' := #[tt,tt,tt,tt,tt,tt,tt,tt,tt,tt,tt,tt,tt,tt,tt,ff,ff,ff]) rfl (by kernel_rfl) rfl (V.fieldAddr rfl fo_52_1) rfl rfl ?_
      refine XQ.pv (i := 15) (l' := #[tt,tt,tt,tt,tt,tt,tt,tt,tt,tt,tt,tt,tt,tt,tt,tt,ff,ff]) rfl (by kernel_rfl) rfl (V.indexArr rfl rfl ar_50 (by omega)) rfl rfl ?_
      refine XQ.pv (i := 16) (l' := #[tt,tt,tt,tt,tt,tt,tt,tt,tt,tt,tt,tt,tt,tt,tt,tt,tt,ff]) rfl (by kernel_rfl) rfl (V.indexArr rfl rfl ar_49 (by omega)) rfl rfl ?_
      refine XQ.store (i := 17) (l' := #[tt,tt,tt,tt,tt,tt,tt,tt,tt,tt,tt,tt,tt,tt,tt,tt,tt,tt]) rfl (by kernel_rfl) rfl rfl rfl .here (encR.st_Ends_I_I _ _ _ (by omega) (by omega) _) rfl sz_3_1 (fun _ hw' => ⟨fun hs => (hs 17 (by first | (simp; done) | (simp; rfl)) rfl).elim, trivial⟩) ?_
      refine XQ.done (by kernel_rfl) ?_
      refine XE.next ?_
      refine XC.keep [(0, _), (1, _)] (S2 rfl rfl) ?_
      refine XC.seq ?_
      refine XC.seq ?_
      refine XC.regionQ mixed (f := 16) (l := #[false, false, false, false, false, false, false, false, false, false, false, false, false, false, false, false]) rfl rfl XM.drawn' ?_
      have c0 : ({ s with e := fset2 s.e n 1 (s.e n 1 + d) } : PS).e n 0 = s.e n 0 + 0 := by simp [fset2]
      have c0f : fset2 s.e n 1 (s.e n 1 + d) n 0 = s.e n 0 + 0 := by simp [fset2]
      have c1 : ({ s with e := fset2 s.e n 1 (s.e n 1 + d) } : PS).e n 1 = s.e n 1 + d := by simp [fset2]
      have c1f : fset2 s.e n 1 (s.e n 1 + d) n 1 = s.e n 1 + d := by simp [fset2]
      refine XQ.pv (i := 0) (l' := #[tt,ff,ff,ff,ff,ff,ff,ff,ff,ff,ff,ff,ff,ff,ff,ff]) rfl (by kernel_rfl) rfl (V.move rfl) rfl rfl ?_
      refine XQ.pv (i := 1) (l' := #[tt,tt,ff,ff,ff,ff,ff,ff,ff,ff,ff,ff,ff,ff,ff,ff]) rfl (by kernel_rfl) rfl (V.move rfl) rfl rfl ?_
      refine XQ.pv (i := 2) (l' := #[tt,tt,tt,ff,ff,ff,ff,ff,ff,ff,ff,ff,ff,ff,ff,ff]) rfl (by kernel_rfl) rfl (V.nilCheckP rfl) rfl rfl ?_
      refine XQ.pv (i := 3) (l' := #[tt,tt,tt,tt,ff,ff,ff,ff,ff,ff,ff,ff,ff,ff,ff,ff]) rfl (by kernel_rfl) rfl (V.fieldAddr rfl fo_52_1) rfl rfl ?_
      refine XQ.pv (i := 4) (l' := #[tt,tt,tt,tt,tt,ff,ff,ff,ff,ff,ff,ff,ff,ff,ff,ff]) rfl (by kernel_rfl) rfl (V.indexArr rfl rfl ar_50 (by omega)) rfl rfl ?_
      refine XQ.pv (i := 5) (l' := #[tt,tt,tt,tt,tt,tt,ff,ff,ff,ff,ff,ff,ff,ff,ff,ff]) rfl (by kernel_rfl) rfl (V.indexArr rfl rfl ar_49 (by omega)) rfl rfl ?_
      refine XQ.load (i := 6) (l' := #[tt,tt,tt,tt,tt,tt,tt,ff,ff,ff,ff,ff,ff,ff,ff,ff]) (.cells _ _ _ _) [] rfl (by kernel_rfl) rfl .here (V.load rfl inEnt (encR.ld_Ends_I_I _ _ _ (by omega) (by omega)) sc_3) rfl (by kernel_rfl) rfl ?_
      refine XQ.pv (i := 7) (l' := #[tt,tt,tt,tt,tt,tt,tt,tt,ff,ff,ff,ff,ff,ff,ff,ff]) rfl (by kernel_rfl) rfl (V.move rfl) rfl rfl ?_
      refine XQ.pv (i := 8) (l' := #[tt,tt,tt,tt,tt,tt,tt,tt,tt,ff,ff,ff,ff,ff,ff,ff]) rfl (by kernel_rfl) rfl (V.move rfl) rfl rfl ?_
      refine XQ.pv (i := 9) (l' := #[tt,tt,tt,tt,tt,tt,tt,tt,tt,tt,ff,ff,ff,ff,ff,ff]) rfl (by kernel_rfl) rfl (V.nilCheckP rfl) rfl rfl ?_
      refine XQ.pv (i := 10) (l' := #[tt,tt,tt,tt,tt,tt,tt,tt,tt,tt,tt,ff,ff,ff,ff,ff]) rfl (by kernel_rfl) rfl (V.fieldAddr rfl fo_52_1) rfl rfl ?_
      refine XQ.pv (i := 11) (l' := #[tt,tt,tt,tt,tt,tt,tt,tt,tt,tt,tt,tt,ff,ff,ff,ff]) rfl (by kernel_rfl) rfl (V.indexArr rfl rfl ar_50 (by omega)) rfl rfl ?_
      refine XQ.pv (i := 12) (l' := #[tt,tt,tt,tt,tt,tt,tt,tt,tt,tt,tt,tt,tt,ff,ff,ff]) rfl (by kernel_rfl) rfl (V.indexArr rfl rfl ar_49 (by omega)) rfl rfl ?_
      refine XQ.load (i := 13) (l' := #[tt,tt,tt,tt,tt,tt,tt,tt,tt,tt,tt,tt,tt,tt,ff,ff]) (.cells _ _ _ _) [] rfl (by kernel_rfl) rfl .here (V.load rfl inEnt (encR.ld_Ends_I_I _ _ _ (by omega) (by omega)) sc_3) rfl (by kernel_rfl) rfl ?_
      refine XQ.pv (i := 14) (l' := #[tt,tt,tt,tt,tt,tt,tt,tt,tt,tt,tt,tt,tt,tt,tt,ff]) rfl (by kernel_rfl) rfl (V.add rfl rfl _ (IntWalk.i64_in _ (by omega))) rfl rfl ?_
      refine XQ.pv (i := 15) (l' := #[tt,tt,tt,tt,tt,tt,tt,tt,tt,tt,tt,tt,tt,tt,tt,tt]) rfl (by kernel_rfl) rfl (V.cmp rfl rfl rfl) rfl rfl ?_
      refine XQ.done (by kernel_rfl) ?_
      refine XE.next ?_
      refine XC.keep [(0, _), (1, _), (59, _)] (S3 rfl rfl rfl) ?_
      refine XC.condP rfl (fun h4 => ?_) (fun h4 => ?_)
      · skip
        refine XC.region ?_
        refine XO.mv rfl rfl ?_
        refine XO.mv rfl rfl ?_
        refine XO.v (V.nilCheckP rfl) rfl ?_
        refine XO.v (V.fieldAddr rfl fo_52_0) rfl ?_
        refine XO.v (V.indexArr rfl rfl ar_48 (by omega)) rfl ?_
        refine XO.store rfl rfl .here (encR.st_B_I _ _ (by omega) _) rfl sz_9_1 ?_
        refine XO.nk [] (Sub.nil _) ?_
        refine XC.sr ?_
        refine XO.as rfl rfl ?_
        refine XO.nk [(8, _)] (S1 rfl) ?_
        refine XC.ret ?_
        refine XE.ret1 rfl rfl (post_of .h1 rfl ?_)
        first
        | (rw [PS.turn_err (by assumption)]; exact ⟨rfl, rfl⟩)
        | (rw [PS.turn_state (by assumption) (by assumption)]; exact ⟨rfl, rfl⟩)
        | (rw [PS.turn_ok (by assumption) (by assumption) (by omega)]; exact ⟨rfl, rfl⟩)
        | (rw [PS.turn_zero (by assumption) (by assumption) (by omega)]; exact ⟨rfl, rfl⟩)
      · skip
        refine XC.skip ?_
        refine XE.next ?_
        refine XC.keep [] (Sub.nil _) ?_
        refine XC.sr ?_
        refine XO.as rfl rfl ?_
        refine XO.nk [(8, _)] (S1 rfl) ?_
        refine XC.ret ?_
        refine XE.ret1 rfl rfl (post_of .h1 rfl ?_)
        first
        | (rw [PS.turn_err (by assumption)]; exact ⟨rfl, rfl⟩)
        | (rw [PS.turn_state (by assumption) (by assumption)]; exact ⟨rfl, rfl⟩)
        | (rw [PS.turn_ok (by assumption) (by assumption) (by omega)]; exact ⟨rfl, rfl⟩)
        | (rw [PS.turn_zero (by assumption) (by assumption) (by omega)]; exact ⟨rfl, rfl⟩)
set_option maxRecDepth 10000 in
set_option maxHeartbeats 400000 in
theorem pr_Turn_false (b o : Nat) (K : Int) (hK : K ≤ 1000000) (s : PS) (hI : s.Inv K) (n d : Int) (hd : -1 ≤ d ∧ d ≤ 1) : Spec Tryz.prog 90 [ptr b o 0, .int .i64 n, .bool false, .int .i64 d]
    [.cells b o 24 (encR s)]
    (fun v H1 => v = .int .i64 (s.turn n false d).1 ∧ H1 = [.cells b o 24 (encR (s.turn n false d).2)]) := by
  have b0 := hI.e0 n
  have b1 := hI.e1 n
  have bl := hI.len n
  have hnew : (s.e n (sel false) = 0) = (s.e n 0 = 0) := by simp [sel]
  refine Spec.intro Tryz.func90 rfl rfl ?_
  intro W
  refine XC.sr ?_
  refine XO.as rfl rfl ?_
  refine XO.nk [(0, _), (1, _), (2, _), (3, _)] (S4 rfl rfl rfl rfl) ?_
  refine XC.seq ?_
  refine XC.sr ?_
  refine XO.mv rfl rfl ?_
  refine XO.mv rfl rfl ?_
  refine XO.call rfl (pr_Is _ _ K hK s hI _) .h1 cl_105 rfl ?_
  rintro _ _ ⟨⟨rfl, h1⟩, rfl⟩
  refine XO.as rfl rfl ?_
  refine XO.nk [(0, _), (1, _), (2, _), (3, _), (9, _)] (S5 rfl rfl rfl rfl rfl) ?_
  refine XC.sr ?_
  refine XO.mv rfl rfl ?_
  refine XO.v (V.cmp rfl rfl rfl) rfl ?_
  refine XO.nk [(0, _), (1, _), (2, _), (3, _), (9, _), (15, _)] (S6 rfl rfl rfl rfl rfl rfl) ?_
  refine XC.condP rfl (fun h2 => ?_) (fun h2 => ?_)
  · skip
    have hz : s.is n ≠ 0 := by omega
    refine XC.sr ?_
    refine XO.mv rfl rfl ?_
    refine XO.as rfl rfl ?_
    refine XO.nk [(8, _)] (S1 rfl) ?_
    refine XC.ret ?_
    refine XE.thenRet ?_
    refine XE.ret1 rfl rfl (post_of .h1 rfl ?_)
    first
    | (rw [PS.turn_err (by assumption)]; exact ⟨rfl, rfl⟩)
    | (rw [PS.turn_state (by assumption) (by assumption)]; exact ⟨rfl, rfl⟩)
    | (rw [PS.turn_ok (by assumption) (by assumption) (by omega)]; exact ⟨rfl, rfl⟩)
    | (rw [PS.turn_zero (by assumption) (by assumption) (by omega)]; exact ⟨rfl, rfl⟩)
  · skip
    have hz : s.is n = 0 := by rcases PS.is_cases s n with ⟨q, q1⟩ | ⟨q, q1⟩ | ⟨q, q1⟩ <;> omega
    obtain ⟨n0, n8⟩ : 0 ≤ n ∧ n < 8 := by rcases PS.is_cases s n with ⟨q, q1⟩ | ⟨q, q1⟩ | ⟨q, q1⟩ <;> omega
    refine XC.skip ?_
    refine XE.next ?_
    refine XC.keep [(0, _), (1, _), (2, _), (3, _)] (S4 rfl rfl rfl rfl) ?_
    refine XC.sr ?_
    refine XO.as rfl rfl ?_
    refine XO.nk [(0, _), (1, _), (2, _), (3, _), (10, _)] (S5 rfl rfl rfl rfl rfl) ?_
    refine XC.seq ?_
    refine XC.sr ?_
    refine XO.mv rfl rfl ?_
    refine XO.nk [(0, _), (1, _), (3, _), (10, _), (17, _)] (S5 rfl rfl rfl rfl rfl) ?_
    refine XC.condF rfl rfl ?_
    refine XC.skip ?_
    refine XE.next ?_
    refine XC.keep [(0, _), (1, _), (3, _), (10, _)] (S4 rfl rfl rfl rfl) ?_
    refine XC.seq ?_
    refine XC.sr ?_
    refine XO.mv rfl rfl ?_
    refine XO.mv rfl rfl ?_
    refine XO.mv rfl rfl ?_
    refine XO.v (V.nilCheckP rfl) rfl ?_
    refine XO.v (V.fieldAddr rfl fo_52_1) rfl ?_
    refine XO.v (V.indexArr rfl rfl ar_50 (by omega)) rfl ?_
    refine XO.v (V.indexArr rfl rfl ar_49 (by omega)) rfl ?_
    refine XO.v (V.load rfl (inXM .here) (encR.ld_Ends_I_I _ _ _ (by omega) (by omega)) sc_3) rfl ?_
    refine XO.v (V.cmp rfl rfl rfl) rfl ?_
    refine XO.nk [(0, _), (1, _), (3, _), (10, _), (26, _)] (S5 rfl rfl rfl rfl rfl) ?_
    refine XC.condP rfl (fun h3 => ?_) (fun h3 => ?_)
    · skip
      refine XC.sr ?_
      refine XO.as rfl rfl ?_
      refine XO.nk [(8, _)] (S1 rfl) ?_
      refine XC.ret ?_
      refine XE.thenRet ?_
      refine XE.ret1 rfl rfl (post_of .h1 rfl ?_)
      first
      | (rw [PS.turn_err (by assumption)]; exact ⟨rfl, rfl⟩)
      | (rw [PS.turn_state (by assumption) (by assumption)]; exact ⟨rfl, rfl⟩)
      | (rw [PS.turn_ok (by assumption) (by assumption) (by omega)]; exact ⟨rfl, rfl⟩)
      | (rw [PS.turn_zero (by assumption) (by assumption) (by omega)]; exact ⟨rfl, rfl⟩)
    · skip
      refine XC.skip ?_
      refine XE.next ?_
      refine XC.keep [(0, _), (1, _), (3, _), (10, _)] (S4 rfl rfl rfl rfl) ?_
      refine XC.seq ?_
      refine XC.regionQ mixed (f := 18) (l := #[false, false, false, false, false, false, false, false, false, false, false, false, false, false, false, false, false, false]) rfl rfl XM.drawn' ?_
      refine XQ.pv (i := 0) (l' := #[tt,ff,ff,ff,ff,ff,ff,ff,ff,ff,ff,ff,ff,ff,ff,ff,ff,ff]) rfl (by kernel_rfl) rfl (V.move rfl) rfl rfl ?_
      refine XQ.pv (i := 1) (l' := #[tt,tt,ff,ff,ff,ff,ff,ff,ff,ff,ff,ff,ff,ff,ff,ff,ff,ff]) rfl (by kernel_rfl) rfl (V.move rfl) rfl rfl ?_
      refine XQ.pv (i := 2) (l' := #[tt,tt,tt,ff,ff,ff,ff,ff,ff,ff,ff,ff,ff,ff,ff,ff,ff,ff]) rfl (by kernel_rfl) rfl (V.move rfl) rfl rfl ?_
      refine XQ.pv (i := 3) (l' := #[tt,tt,tt,tt,ff,ff,ff,ff,ff,ff,ff,ff,ff,ff,ff,ff,ff,ff]) rfl (by kernel_rfl) rfl (V.move rfl) rfl rfl ?_
      refine XQ.pv (i := 4) (l' := #[tt,tt,tt,tt,tt,ff,ff,ff,ff,ff,ff,ff,ff,ff,ff,ff,ff,ff]) rfl (by kernel_rfl) rfl (V.move rfl) rfl rfl ?_
      refine XQ.pv (i := 5) (l' := #[tt,tt,tt,tt,tt,tt,ff,ff,ff,ff,ff,ff,ff,ff,ff,ff,ff,ff]) rfl (by kernel_rfl) rfl (V.move rfl) rfl rfl ?_
      refine XQ.pv (i := 6) (l' := #[tt,tt,tt,tt,tt,tt,tt,ff,ff,ff,ff,ff,ff,ff,ff,ff,ff,ff]) rfl (by kernel_rfl) rfl (V.nilCheckP rfl) rfl rfl ?_
      refine XQ.pv (i := 7) (l' := #[tt,tt,tt,tt,tt,tt,tt,tt,ff,ff,ff,ff,ff,ff,ff,ff,ff,ff]) rfl (by kernel_rfl) rfl (V.fieldAddr rfl fo_52_1) rfl rfl ?_
      refine XQ.pv (i := 8) (l' := #[tt,tt,tt,tt,tt,tt,tt,tt,tt,ff,ff,ff,ff,ff,ff,ff,ff,ff]) rfl (by kernel_rfl) rfl (V.indexArr rfl rfl ar_50 (by omega)) rfl rfl ?_
      refine XQ.pv (i := 9) (l' := #[tt,tt,tt,tt,tt,tt,tt,tt,tt,tt,ff,ff,ff,ff,ff,ff,ff,ff]) rfl (by kernel_rfl) rfl (V.indexArr rfl rfl ar_49 (by omega)) rfl rfl ?_
      refine XQ.load (i := 10) (l' := #[tt,tt,tt,tt,tt,tt,tt,tt,tt,tt,tt,ff,ff,ff,ff,ff,ff,ff]) (.cells _ _ _ _) [17] rfl (by kernel_rfl) rfl .here (V.load rfl inEnt (encR.ld_Ends_I_I _ _ _ (by omega) (by omega)) sc_3) rfl (by kernel_rfl) rfl ?_
      refine XQ.pv (i := 11) (l' := #[tt,tt,tt,tt,tt,tt,tt,tt,tt,tt,tt,tt,ff,ff,ff,ff,ff,ff]) rfl (by kernel_rfl) rfl (V.move rfl) rfl rfl ?_
      refine XQ.pv (i := 12) (l' := #[tt,tt,tt,tt,tt,tt,tt,tt,tt,tt,tt,tt,tt,ff,ff,ff,ff,ff]) rfl (by kernel_rfl) rfl (V.add rfl rfl _ (IntWalk.i64_in _ (by omega))) rfl rfl ?_
      refine XQ.pv (i := 13) (l' := #[tt,tt,tt,tt,tt,tt,tt,tt,tt,tt,tt,tt,tt,tt,ff,ff,ff,ff]) rfl (by kernel_rfl) rfl (V.nilCheckP rfl) rfl rfl ?_
      refine XQ.pv (i := 14) (l' := #[tt,tt,tt,tt,tt,tt,tt,tt,tt,tt,tt,tt,tt,tt,tt,ff,ff,ff]) rfl (by kernel_rfl) rfl (V.fieldAddr rfl fo_52_1) rfl rfl ?_
      refine XQ.pv (i := 15) (l' := #[tt,tt,tt,tt,tt,tt,tt,tt,tt,tt,tt,tt,tt,tt,tt,tt,ff,ff]) rfl (by kernel_rfl) rfl (V.indexArr rfl rfl ar_50 (by omega)) rfl rfl ?_
      refine XQ.pv (i := 16) (l' := #[tt,tt,tt,tt,tt,tt,tt,tt,tt,tt,tt,tt,tt,tt,tt,tt,tt,ff]) rfl (by kernel_rfl) rfl (V.indexArr rfl rfl ar_49 (by omega)) rfl rfl ?_
      refine XQ.store (i := 17) (l' := #[tt,tt,tt,tt,tt,tt,tt,tt,tt,tt,tt,tt,tt,tt,tt,tt,tt,tt]) rfl (by kernel_rfl) rfl rfl rfl .here (encR.st_Ends_I_I _ _ _ (by omega) (by omega) _) rfl sz_3_1 (fun _ hw' => ⟨fun hs => (hs 17 (by first | (simp; done) | (simp; rfl)) rfl).elim, trivial⟩) ?_
      refine XQ.done (by kernel_rfl) ?_
      refine XE.next ?_
      refine XC.keep [(0, _), (1, _)] (S2 rfl rfl) ?_
      refine XC.seq ?_
      refine XC.seq ?_
      refine XC.regionQ mixed (f := 16) (l := #[false, false, false, false, false, false, false, false, false, false, false, false, false, false, false, false]) rfl rfl XM.drawn' ?_
      have c0 : ({ s with e := fset2 s.e n 0 (s.e n 0 + d) } : PS).e n 0 = s.e n 0 + d := by simp [fset2]
      have c0f : fset2 s.e n 0 (s.e n 0 + d) n 0 = s.e n 0 + d := by simp [fset2]
      have c1 : ({ s with e := fset2 s.e n 0 (s.e n 0 + d) } : PS).e n 1 = s.e n 1 + 0 := by simp [fset2]
      have c1f : fset2 s.e n 0 (s.e n 0 + d) n 1 = s.e n 1 + 0 := by simp [fset2]
      refine XQ.pv (i := 0) (l' := #[tt,ff,ff,ff,ff,ff,ff,ff,ff,ff,ff,ff,ff,ff,ff,ff]) rfl (by kernel_rfl) rfl (V.move rfl) rfl rfl ?_
      refine XQ.pv (i := 1) (l' := #[tt,tt,ff,ff,ff,ff,ff,ff,ff,ff,ff,ff,ff,ff,ff,ff]) rfl (by kernel_rfl) rfl (V.move rfl) rfl rfl ?_
      refine XQ.pv (i := 2) (l' := #[tt,tt,tt,ff,ff,ff,ff,ff,ff,ff,ff,ff,ff,ff,ff,ff]) rfl (by kernel_rfl) rfl (V.nilCheckP rfl) rfl rfl ?_
      refine XQ.pv (i := 3) (l' := #[tt,tt,tt,tt,ff,ff,ff,ff,ff,ff,ff,ff,ff,ff,ff,ff]) rfl (by kernel_rfl) rfl (V.fieldAddr rfl fo_52_1) rfl rfl ?_
      refine XQ.pv (i := 4) (l' := #[tt,tt,tt,tt,tt,ff,ff,ff,ff,ff,ff,ff,ff,ff,ff,ff]) rfl (by kernel_rfl) rfl (V.indexArr rfl rfl ar_50 (by omega)) rfl rfl ?_
      refine XQ.pv (i := 5) (l' := #[tt,tt,tt,tt,tt,tt,ff,ff,ff,ff,ff,ff,ff,ff,ff,ff]) rfl (by kernel_rfl) rfl (V.indexArr rfl rfl ar_49 (by omega)) rfl rfl ?_
      refine XQ.load (i := 6) (l' := #[tt,tt,tt,tt,tt,tt,tt,ff,ff,ff,ff,ff,ff,ff,ff,ff]) (.cells _ _ _ _) [] rfl (by kernel_rfl) rfl .here (V.load rfl inEnt (encR.ld_Ends_I_I _ _ _ (by omega) (by omega)) sc_3) rfl (by kernel_rfl) rfl ?_
      refine XQ.pv (i := 7) (l' := #[tt,tt,tt,tt,tt,tt,tt,tt,ff,ff,ff,ff,ff,ff,ff,ff]) rfl (by kernel_rfl) rfl (V.move rfl) rfl rfl ?_
      refine XQ.pv (i := 8) (l' := #[tt,tt,tt,tt,tt,tt,tt,tt,tt,ff,ff,ff,ff,ff,ff,ff]) rfl (by kernel_rfl) rfl (V.move rfl) rfl rfl ?_
      refine XQ.pv (i := 9) (l' := #[tt,tt,tt,tt,tt,tt,tt,tt,tt,tt,ff,ff,ff,ff,ff,ff]) rfl (by kernel_rfl) rfl (V.nilCheckP rfl) rfl rfl ?_
      refine XQ.pv (i := 10) (l' := #[tt,tt,tt,tt,tt,tt,tt,tt,tt,tt,tt,ff,ff,ff,ff,ff]) rfl (by kernel_rfl) rfl (V.fieldAddr rfl fo_52_1) rfl rfl ?_
      refine XQ.pv (i := 11) (l' := #[tt,tt,tt,tt,tt,tt,tt,tt,tt,tt,tt,tt,ff,ff,ff,ff]) rfl (by kernel_rfl) rfl (V.indexArr rfl rfl ar_50 (by omega)) rfl rfl ?_
      refine XQ.pv (i := 12) (l' := #[tt,tt,tt,tt,tt,tt,tt,tt,tt,tt,tt,tt,tt,ff,ff,ff]) rfl (by kernel_rfl) rfl (V.indexArr rfl rfl ar_49 (by omega)) rfl rfl ?_
      refine XQ.load (i := 13) (l' := #[tt,tt,tt,tt,tt,tt,tt,tt,tt,tt,tt,tt,tt,tt,ff,ff]) (.cells _ _ _ _) [] rfl (by kernel_rfl) rfl .here (V.load rfl inEnt (encR.ld_Ends_I_I _ _ _ (by omega) (by omega)) sc_3) rfl (by kernel_rfl) rfl ?_
      refine XQ.pv (i := 14) (l' := #[tt,tt,tt,tt,tt,tt,tt,tt,tt,tt,tt,tt,tt,tt,tt,ff]) rfl (by kernel_rfl) rfl (V.add rfl rfl _ (IntWalk.i64_in _ (by omega))) rfl rfl ?_
      refine XQ.pv (i := 15) (l' := #[tt,tt,tt,tt,tt,tt,tt,tt,tt,tt,tt,tt,tt,tt,tt,tt]) rfl (by kernel_rfl) rfl (V.cmp rfl rfl rfl) rfl rfl ?_
      refine XQ.done (by kernel_rfl) ?_
      refine XE.next ?_
      refine XC.keep [(0, _), (1, _), (59, _)] (S3 rfl rfl rfl) ?_
      refine XC.condP rfl (fun h4 => ?_) (fun h4 => ?_)
      · skip
        refine XC.region ?_
        refine XO.mv rfl rfl ?_
        refine XO.mv rfl rfl ?_
        refine XO.v (V.nilCheckP rfl) rfl ?_
        refine XO.v (V.fieldAddr rfl fo_52_0) rfl ?_
        refine XO.v (V.indexArr rfl rfl ar_48 (by omega)) rfl ?_
        refine XO.store rfl rfl .here (encR.st_B_I _ _ (by omega) _) rfl sz_9_1 ?_
        refine XO.nk [] (Sub.nil _) ?_
        refine XC.sr ?_
        refine XO.as rfl rfl ?_
        refine XO.nk [(8, _)] (S1 rfl) ?_
        refine XC.ret ?_
        refine XE.ret1 rfl rfl (post_of .h1 rfl ?_)
        first
        | (rw [PS.turn_err (by assumption)]; exact ⟨rfl, rfl⟩)
        | (rw [PS.turn_state (by assumption) (by assumption)]; exact ⟨rfl, rfl⟩)
        | (rw [PS.turn_ok (by assumption) (by assumption) (by omega)]; exact ⟨rfl, rfl⟩)
        | (rw [PS.turn_zero (by assumption) (by assumption) (by omega)]; exact ⟨rfl, rfl⟩)
      · skip
        refine XC.skip ?_
        refine XE.next ?_
        refine XC.keep [] (Sub.nil _) ?_
        refine XC.sr ?_
        refine XO.as rfl rfl ?_
        refine XO.nk [(8, _)] (S1 rfl) ?_
        refine XC.ret ?_
        refine XE.ret1 rfl rfl (post_of .h1 rfl ?_)
        first
        | (rw [PS.turn_err (by assumption)]; exact ⟨rfl, rfl⟩)
        | (rw [PS.turn_state (by assumption) (by assumption)]; exact ⟨rfl, rfl⟩)
        | (rw [PS.turn_ok (by assumption) (by assumption) (by omega)]; exact ⟨rfl, rfl⟩)
        | (rw [PS.turn_zero (by assumption) (by assumption) (by omega)]; exact ⟨rfl, rfl⟩)
set_option maxRecDepth 10000 in
set_option maxHeartbeats 400000 in
theorem pr_Read (b o : Nat) (K : Int) (hK : K ≤ 1000000) (s : PS) (hI : s.Inv K) (n m : Int) : Spec Tryz.prog 92 [ptr b o 0, .int .i64 n, .int .i64 m]
    [.cells b o 24 (encR s)]
    (fun v H1 => v = .tuple #[.string (s.read n m).1, .int .i64 (s.read n m).2.1] ∧ H1 = [.cells b o 24 (encR (s.read n m).2.2)]) := by
  have b0 := hI.e0 n
  have b1 := hI.e1 n
  have bl := hI.len n
  refine Spec.intro Tryz.func92 rfl rfl ?_
  intro W
  refine XC.sr ?_
  refine XO.as rfl rfl ?_
  refine XO.as rfl rfl ?_
  refine XO.nk [(0, _), (1, _), (2, _)] (S3 rfl rfl rfl) ?_
  refine XC.seq ?_
  refine XC.sr ?_
  refine XO.mv rfl rfl ?_
  refine XO.mv rfl rfl ?_
  refine XO.call rfl (pr_Is _ _ K hK s hI _) .h1 cl_105 rfl ?_
  rintro _ _ ⟨⟨rfl, h1⟩, rfl⟩
  refine XO.as rfl rfl ?_
  refine XO.nk [(0, _), (1, _), (2, _), (8, _)] (S4 rfl rfl rfl rfl) ?_
  refine XC.sr ?_
  refine XO.mv rfl rfl ?_
  refine XO.v (V.cmp rfl rfl rfl) rfl ?_
  refine XO.nk [(0, _), (1, _), (2, _), (8, _), (15, _)] (S5 rfl rfl rfl rfl rfl) ?_
  refine XC.condP rfl (fun h2 => ?_) (fun h2 => ?_)
  · skip
    have hz : s.is n ≠ 0 := by omega
    refine XC.sr ?_
    refine XO.mv rfl rfl ?_
    refine XO.as rfl rfl ?_
    refine XO.as rfl rfl ?_
    refine XO.nk [(6, _), (7, _)] (S2 rfl rfl) ?_
    refine XC.ret ?_
    refine XE.thenRet ?_
    refine XE.ret2 rfl rfl rfl (post_of .h1 rfl ?_)
    first
    | (rw [PS.read_err (by assumption)]; exact ⟨rfl, rfl⟩)
    | (rw [PS.read_state (by assumption) (by assumption)]; exact ⟨rfl, rfl⟩)
    | (rw [PS.read_bound (by assumption) (by assumption) (by omega)]; exact ⟨rfl, rfl⟩)
    | (rw [PS.read_again (by assumption) (by assumption) (by omega) ⟨by assumption, by omega, by omega⟩]; exact ⟨rfl, rfl⟩)
    | (rw [PS.read_ok (by assumption) (by assumption) (by omega) (by rintro ⟨q1, q2, q3⟩; first | contradiction | omega)]; exact ⟨rfl, rfl⟩)
  · skip
    have hz : s.is n = 0 := by rcases PS.is_cases s n with ⟨q, q1⟩ | ⟨q, q1⟩ | ⟨q, q1⟩ <;> omega
    obtain ⟨n0, n8⟩ : 0 ≤ n ∧ n < 8 := by rcases PS.is_cases s n with ⟨q, q1⟩ | ⟨q, q1⟩ | ⟨q, q1⟩ <;> omega
    refine XC.skip ?_
    refine XE.next ?_
    refine XC.keep [(0, _), (1, _), (2, _)] (S3 rfl rfl rfl) ?_
    refine XC.seq ?_
    refine XC.sr ?_
    refine XO.mv rfl rfl ?_
    refine XO.mv rfl rfl ?_
    refine XO.v (V.nilCheckP rfl) rfl ?_
    refine XO.v (V.fieldAddr rfl fo_52_1) rfl ?_
    refine XO.v (V.indexArr rfl rfl ar_50 (by omega)) rfl ?_
    refine XO.v (V.indexArr rfl rfl ar_49 (by omega)) rfl ?_
    refine XO.v (V.load rfl (inXM .here) (encR.ld_Ends_I_I _ _ _ (by omega) (by omega)) sc_3) rfl ?_
    refine XO.v (V.cmp rfl rfl rfl) rfl ?_
    refine XO.nk [(0, _), (1, _), (2, _), (24, _)] (S4 rfl rfl rfl rfl) ?_
    refine XC.condP rfl (fun h3 => ?_) (fun h3 => ?_)
    · skip
      refine XC.sr ?_
      refine XO.as rfl rfl ?_
      refine XO.as rfl rfl ?_
      refine XO.nk [(6, _), (7, _)] (S2 rfl rfl) ?_
      refine XC.ret ?_
      refine XE.thenRet ?_
      refine XE.ret2 rfl rfl rfl (post_of .h1 rfl ?_)
      first
      | (rw [PS.read_err (by assumption)]; exact ⟨rfl, rfl⟩)
      | (rw [PS.read_state (by assumption) (by assumption)]; exact ⟨rfl, rfl⟩)
      | (rw [PS.read_bound (by assumption) (by assumption) (by omega)]; exact ⟨rfl, rfl⟩)
      | (rw [PS.read_again (by assumption) (by assumption) (by omega) ⟨by assumption, by omega, by omega⟩]; exact ⟨rfl, rfl⟩)
      | (rw [PS.read_ok (by assumption) (by assumption) (by omega) (by rintro ⟨q1, q2, q3⟩; first | contradiction | omega)]; exact ⟨rfl, rfl⟩)
    · skip
      refine XC.skip ?_
      refine XE.next ?_
      refine XC.keep [(0, _), (1, _), (2, _)] (S3 rfl rfl rfl) ?_
      refine XC.seq ?_
      refine XC.sr ?_
      refine XO.mv rfl rfl ?_
      refine XO.v (V.cmp rfl rfl rfl) rfl ?_
      refine XO.nk [(0, _), (1, _), (2, _), (26, _)] (S4 rfl rfl rfl rfl) ?_
      refine XC.condP rfl (fun h4 => ?_) (fun h4 => ?_)
      · skip
        refine XC.sr ?_
        refine XO.as rfl rfl ?_
        refine XO.as rfl rfl ?_
        refine XO.nk [(6, _), (7, _)] (S2 rfl rfl) ?_
        refine XC.ret ?_
        refine XE.thenRet ?_
        refine XE.ret2 rfl rfl rfl (post_of .h1 rfl ?_)
        first
        | (rw [PS.read_err (by assumption)]; exact ⟨rfl, rfl⟩)
        | (rw [PS.read_state (by assumption) (by assumption)]; exact ⟨rfl, rfl⟩)
        | (rw [PS.read_bound (by assumption) (by assumption) (by omega)]; exact ⟨rfl, rfl⟩)
        | (rw [PS.read_again (by assumption) (by assumption) (by omega) ⟨by assumption, by omega, by omega⟩]; exact ⟨rfl, rfl⟩)
        | (rw [PS.read_ok (by assumption) (by assumption) (by omega) (by rintro ⟨q1, q2, q3⟩; first | contradiction | omega)]; exact ⟨rfl, rfl⟩)
      · skip
        refine XC.skip ?_
        refine XE.next ?_
        refine XC.keep [(0, _), (1, _), (2, _)] (S3 rfl rfl rfl) ?_
        refine XC.seq ?_
        refine XC.sr ?_
        refine XO.mv rfl rfl ?_
        refine XO.mv rfl rfl ?_
        refine XO.v (V.nilCheckP rfl) rfl ?_
        refine XO.v (V.fieldAddr rfl fo_52_0) rfl ?_
        refine XO.v (V.indexArr rfl rfl ar_48 (by omega)) rfl ?_
        refine XO.v (V.load rfl (inXM .here) (encR.ld_B_I _ _ (by omega)) sc_9) rfl ?_
        refine XO.v (V.strCmp rfl rfl rfl) rfl ?_
        refine XO.mv rfl rfl ?_
        refine XO.splitP (d := 34) rfl (fun h5 => ?_) (fun h5 => ?_)
        · skip
          refine XO.guardRun rfl rfl rfl ?_
          refine XO.mv rfl rfl ?_
          refine XO.guardRun rfl rfl rfl ?_
          refine XO.mv rfl rfl ?_
          refine XO.guardRun rfl rfl rfl ?_
          refine XO.v (V.nilCheckP rfl) rfl ?_
          refine XO.guardRun rfl rfl rfl ?_
          refine XO.v (V.fieldAddr rfl fo_52_1) rfl ?_
          refine XO.guardRun rfl rfl rfl ?_
          refine XO.v (V.indexArr rfl rfl ar_50 (by omega)) rfl ?_
          refine XO.guardRun rfl rfl rfl ?_
          refine XO.v (V.indexArr rfl rfl ar_49 (by omega)) rfl ?_
          refine XO.guardRun rfl rfl rfl ?_
          refine XO.v (V.load rfl (inXM .here) (encR.ld_Ends_I_I _ _ _ (by omega) (by omega)) sc_3) rfl ?_
          refine XO.guardRun rfl rfl rfl ?_
          refine XO.v (V.cmp rfl rfl rfl) rfl ?_
          refine XO.v (V.pick rfl rfl rfl rfl) rfl ?_
          refine XO.mv rfl rfl ?_
          refine XO.splitP (d := 44) rfl (fun h6 => ?_) (fun h6 => ?_)
          · skip
            refine XO.guardRun rfl rfl rfl ?_
            refine XO.mv rfl rfl ?_
            refine XO.guardRun rfl rfl rfl ?_
            refine XO.v (V.cmp rfl rfl rfl) rfl ?_
            refine XO.v (V.pick rfl rfl rfl rfl) rfl ?_
            refine XO.nk [(0, _), (1, _), (2, _), (47, _)] (S4 rfl rfl rfl rfl) ?_
            refine XC.condP rfl (fun h7 => ?_) (fun h7 => ?_)
            · skip
              refine XC.sr ?_
              refine XO.as rfl rfl ?_
              refine XO.as rfl rfl ?_
              refine XO.nk [(6, _), (7, _)] (S2 rfl rfl) ?_
              refine XC.ret ?_
              refine XE.thenRet ?_
              refine XE.ret2 rfl rfl rfl (post_of .h1 rfl ?_)
              first
              | (rw [PS.read_err (by assumption)]; exact ⟨rfl, rfl⟩)
              | (rw [PS.read_state (by assumption) (by assumption)]; exact ⟨rfl, rfl⟩)
              | (rw [PS.read_bound (by assumption) (by assumption) (by omega)]; exact ⟨rfl, rfl⟩)
              | (rw [PS.read_again (by assumption) (by assumption) (by omega) ⟨by assumption, by omega, by omega⟩]; exact ⟨rfl, rfl⟩)
              | (rw [PS.read_ok (by assumption) (by assumption) (by omega) (by rintro ⟨q1, q2, q3⟩; first | contradiction | omega)]; exact ⟨rfl, rfl⟩)
            · skip
              refine XC.skip ?_
              refine XE.next ?_
              refine XC.keep [(0, _), (1, _), (2, _)] (S3 rfl rfl rfl) ?_
              refine XC.sr ?_
              refine XO.mv rfl rfl ?_
              refine XO.mv rfl rfl ?_
              refine XO.mv rfl rfl ?_
              refine XO.v (V.nilCheckP rfl) rfl ?_
              refine XO.v (V.fieldAddr rfl fo_52_0) rfl ?_
              refine XO.v (V.indexArr rfl rfl ar_48 (by omega)) rfl ?_
              refine XO.v (V.load rfl (inXM .here) (encR.ld_B_I _ _ (by omega)) sc_9) rfl ?_
              refine XO.v (V.lenStr rfl Tryz.underlying9) rfl ?_
              refine XO.v (V.min2 rfl rfl) rfl ?_
              refine XO.as rfl rfl ?_
              refine XO.nk [(0, _), (1, _), (9, _)] (S3 rfl rfl rfl) ?_
              refine XC.sr ?_
              refine XO.mv rfl rfl ?_
              refine XO.mv rfl rfl ?_
              refine XO.v (V.nilCheckP rfl) rfl ?_
              refine XO.v (V.fieldAddr rfl fo_52_0) rfl ?_
              refine XO.v (V.indexArr rfl rfl ar_48 (by omega)) rfl ?_
              refine XO.v (V.load rfl (inXM .here) (encR.ld_B_I _ _ (by omega)) sc_9) rfl ?_
              refine XO.mv rfl rfl ?_
              refine XO.v (V.sliceTo rfl rfl Tryz.underlying9 (by omega)) rfl ?_
              refine XO.as rfl rfl ?_
              refine XO.nk [(0, _), (1, _), (9, _), (10, _)] (S4 rfl rfl rfl rfl) ?_
              refine XC.seq ?_
              refine XC.regionQ mixed (f := 14) (l := #[false, false, false, false, false, false, false, false, false, false, false, false, false, false]) rfl rfl XM.drawn' ?_
              refine XQ.pv (i := 0) (l' := #[tt,ff,ff,ff,ff,ff,ff,ff,ff,ff,ff,ff,ff,ff]) rfl (by kernel_rfl) rfl (V.move rfl) rfl rfl ?_
              refine XQ.pv (i := 1) (l' := #[tt,tt,ff,ff,ff,ff,ff,ff,ff,ff,ff,ff,ff,ff]) rfl (by kernel_rfl) rfl (V.move rfl) rfl rfl ?_
              refine XQ.pv (i := 2) (l' := #[tt,tt,tt,ff,ff,ff,ff,ff,ff,ff,ff,ff,ff,ff]) rfl (by kernel_rfl) rfl (V.move rfl) rfl rfl ?_
              refine XQ.pv (i := 3) (l' := #[tt,tt,tt,tt,ff,ff,ff,ff,ff,ff,ff,ff,ff,ff]) rfl (by kernel_rfl) rfl (V.move rfl) rfl rfl ?_
              refine XQ.pv (i := 4) (l' := #[tt,tt,tt,tt,tt,ff,ff,ff,ff,ff,ff,ff,ff,ff]) rfl (by kernel_rfl) rfl (V.nilCheckP rfl) rfl rfl ?_
              refine XQ.pv (i := 5) (l' := #[tt,tt,tt,tt,tt,tt,ff,ff,ff,ff,ff,ff,ff,ff]) rfl (by kernel_rfl) rfl (V.fieldAddr rfl fo_52_0) rfl rfl ?_
              refine XQ.pv (i := 6) (l' := #[tt,tt,tt,tt,tt,tt,tt,ff,ff,ff,ff,ff,ff,ff]) rfl (by kernel_rfl) rfl (V.indexArr rfl rfl ar_48 (by omega)) rfl rfl ?_
              refine XQ.load (i := 7) (l' := #[tt,tt,tt,tt,tt,tt,tt,tt,ff,ff,ff,ff,ff,ff]) (.cells _ _ _ _) [13] rfl (by kernel_rfl) rfl .here (V.load rfl inEnt (encR.ld_B_I _ _ (by omega)) sc_9) rfl (by kernel_rfl) rfl ?_
              refine XQ.pv (i := 8) (l' := #[tt,tt,tt,tt,tt,tt,tt,tt,tt,ff,ff,ff,ff,ff]) rfl (by kernel_rfl) rfl (V.move rfl) rfl rfl ?_
              refine XQ.pv (i := 9) (l' := #[tt,tt,tt,tt,tt,tt,tt,tt,tt,tt,ff,ff,ff,ff]) rfl (by kernel_rfl) rfl (V.sliceFrom rfl rfl Tryz.underlying9 (by omega)) rfl rfl ?_
              refine XQ.pv (i := 10) (l' := #[tt,tt,tt,tt,tt,tt,tt,tt,tt,tt,tt,ff,ff,ff]) rfl (by kernel_rfl) rfl (V.nilCheckP rfl) rfl rfl ?_
              refine XQ.pv (i := 11) (l' := #[tt,tt,tt,tt,tt,tt,tt,tt,tt,tt,tt,tt,ff,ff]) rfl (by kernel_rfl) rfl (V.fieldAddr rfl fo_52_0) rfl rfl ?_
              refine XQ.pv (i := 12) (l' := #[tt,tt,tt,tt,tt,tt,tt,tt,tt,tt,tt,tt,tt,ff]) rfl (by kernel_rfl) rfl (V.indexArr rfl rfl ar_48 (by omega)) rfl rfl ?_
              refine XQ.store (i := 13) (l' := #[tt,tt,tt,tt,tt,tt,tt,tt,tt,tt,tt,tt,tt,tt]) rfl (by kernel_rfl) rfl rfl rfl .here (encR.st_B_I _ _ (by omega) _) rfl sz_9_1 (fun _ hw' => ⟨fun hs => (hs 13 (by first | (simp; done) | (simp; rfl)) rfl).elim, trivial⟩) ?_
              refine XQ.done (by kernel_rfl) ?_
              refine XE.next ?_
              refine XC.keep [(10, _)] (S1 rfl) ?_
              refine XC.sr ?_
              refine XO.mv rfl rfl ?_
              refine XO.as rfl rfl ?_
              refine XO.as rfl rfl ?_
              refine XO.nk [(6, _), (7, _)] (S2 rfl rfl) ?_
              refine XC.ret ?_
              refine XE.ret2 rfl rfl rfl (post_of .h1 rfl ?_)
              first
              | (rw [PS.read_err (by assumption)]; exact ⟨rfl, rfl⟩)
              | (rw [PS.read_state (by assumption) (by assumption)]; exact ⟨rfl, rfl⟩)
              | (rw [PS.read_bound (by assumption) (by assumption) (by omega)]; exact ⟨rfl, rfl⟩)
              | (rw [PS.read_again (by assumption) (by assumption) (by omega) ⟨by assumption, by omega, by omega⟩]; exact ⟨rfl, rfl⟩)
              | (rw [PS.read_ok (by assumption) (by assumption) (by omega) (by rintro ⟨q1, q2, q3⟩; first | contradiction | omega)]; exact ⟨rfl, rfl⟩)
          · skip
            refine XO.guardSkip rfl rfl rfl rfl rfl ?_
            refine XO.guardSkip rfl rfl rfl rfl rfl ?_
            refine XO.v (V.pick rfl rfl rfl rfl) rfl ?_
            refine XO.nk [(0, _), (1, _), (2, _), (47, _)] (S4 rfl rfl rfl rfl) ?_
            refine XC.condF rfl rfl ?_
            refine XC.skip ?_
            refine XE.next ?_
            refine XC.keep [(0, _), (1, _), (2, _)] (S3 rfl rfl rfl) ?_
            refine XC.sr ?_
            refine XO.mv rfl rfl ?_
            refine XO.mv rfl rfl ?_
            refine XO.mv rfl rfl ?_
            refine XO.v (V.nilCheckP rfl) rfl ?_
            refine XO.v (V.fieldAddr rfl fo_52_0) rfl ?_
            refine XO.v (V.indexArr rfl rfl ar_48 (by omega)) rfl ?_
            refine XO.v (V.load rfl (inXM .here) (encR.ld_B_I _ _ (by omega)) sc_9) rfl ?_
            refine XO.v (V.lenStr rfl Tryz.underlying9) rfl ?_
            refine XO.v (V.min2 rfl rfl) rfl ?_
            refine XO.as rfl rfl ?_
            refine XO.nk [(0, _), (1, _), (9, _)] (S3 rfl rfl rfl) ?_
            refine XC.sr ?_
            refine XO.mv rfl rfl ?_
            refine XO.mv rfl rfl ?_
            refine XO.v (V.nilCheckP rfl) rfl ?_
            refine XO.v (V.fieldAddr rfl fo_52_0) rfl ?_
            refine XO.v (V.indexArr rfl rfl ar_48 (by omega)) rfl ?_
            refine XO.v (V.load rfl (inXM .here) (encR.ld_B_I _ _ (by omega)) sc_9) rfl ?_
            refine XO.mv rfl rfl ?_
            refine XO.v (V.sliceTo rfl rfl Tryz.underlying9 (by omega)) rfl ?_
            refine XO.as rfl rfl ?_
            refine XO.nk [(0, _), (1, _), (9, _), (10, _)] (S4 rfl rfl rfl rfl) ?_
            refine XC.seq ?_
            refine XC.regionQ mixed (f := 14) (l := #[false, false, false, false, false, false, false, false, false, false, false, false, false, false]) rfl rfl XM.drawn' ?_
            refine XQ.pv (i := 0) (l' := #[tt,ff,ff,ff,ff,ff,ff,ff,ff,ff,ff,ff,ff,ff]) rfl (by kernel_rfl) rfl (V.move rfl) rfl rfl ?_
            refine XQ.pv (i := 1) (l' := #[tt,tt,ff,ff,ff,ff,ff,ff,ff,ff,ff,ff,ff,ff]) rfl (by kernel_rfl) rfl (V.move rfl) rfl rfl ?_
            refine XQ.pv (i := 2) (l' := #[tt,tt,tt,ff,ff,ff,ff,ff,ff,ff,ff,ff,ff,ff]) rfl (by kernel_rfl) rfl (V.move rfl) rfl rfl ?_
            refine XQ.pv (i := 3) (l' := #[tt,tt,tt,tt,ff,ff,ff,ff,ff,ff,ff,ff,ff,ff]) rfl (by kernel_rfl) rfl (V.move rfl) rfl rfl ?_
            refine XQ.pv (i := 4) (l' := #[tt,tt,tt,tt,tt,ff,ff,ff,ff,ff,ff,ff,ff,ff]) rfl (by kernel_rfl) rfl (V.nilCheckP rfl) rfl rfl ?_
            refine XQ.pv (i := 5) (l' := #[tt,tt,tt,tt,tt,tt,ff,ff,ff,ff,ff,ff,ff,ff]) rfl (by kernel_rfl) rfl (V.fieldAddr rfl fo_52_0) rfl rfl ?_
            refine XQ.pv (i := 6) (l' := #[tt,tt,tt,tt,tt,tt,tt,ff,ff,ff,ff,ff,ff,ff]) rfl (by kernel_rfl) rfl (V.indexArr rfl rfl ar_48 (by omega)) rfl rfl ?_
            refine XQ.load (i := 7) (l' := #[tt,tt,tt,tt,tt,tt,tt,tt,ff,ff,ff,ff,ff,ff]) (.cells _ _ _ _) [13] rfl (by kernel_rfl) rfl .here (V.load rfl inEnt (encR.ld_B_I _ _ (by omega)) sc_9) rfl (by kernel_rfl) rfl ?_
            refine XQ.pv (i := 8) (l' := #[tt,tt,tt,tt,tt,tt,tt,tt,tt,ff,ff,ff,ff,ff]) rfl (by kernel_rfl) rfl (V.move rfl) rfl rfl ?_
            refine XQ.pv (i := 9) (l' := #[tt,tt,tt,tt,tt,tt,tt,tt,tt,tt,ff,ff,ff,ff]) rfl (by kernel_rfl) rfl (V.sliceFrom rfl rfl Tryz.underlying9 (by omega)) rfl rfl ?_
            refine XQ.pv (i := 10) (l' := #[tt,tt,tt,tt,tt,tt,tt,tt,tt,tt,tt,ff,ff,ff]) rfl (by kernel_rfl) rfl (V.nilCheckP rfl) rfl rfl ?_
            refine XQ.pv (i := 11) (l' := #[tt,tt,tt,tt,tt,tt,tt,tt,tt,tt,tt,tt,ff,ff]) rfl (by kernel_rfl) rfl (V.fieldAddr rfl fo_52_0) rfl rfl ?_
            refine XQ.pv (i := 12) (l' := #[tt,tt,tt,tt,tt,tt,tt,tt,tt,tt,tt,tt,tt,ff]) rfl (by kernel_rfl) rfl (V.indexArr rfl rfl ar_48 (by omega)) rfl rfl ?_
            refine XQ.store (i := 13) (l' := #[tt,tt,tt,tt,tt,tt,tt,tt,tt,tt,tt,tt,tt,tt]) rfl (by kernel_rfl) rfl rfl rfl .here (encR.st_B_I _ _ (by omega) _) rfl sz_9_1 (fun _ hw' => ⟨fun hs => (hs 13 (by first | (simp; done) | (simp; rfl)) rfl).elim, trivial⟩) ?_
            refine XQ.done (by kernel_rfl) ?_
            refine XE.next ?_
            refine XC.keep [(10, _)] (S1 rfl) ?_
            refine XC.sr ?_
            refine XO.mv rfl rfl ?_
            refine XO.as rfl rfl ?_
            refine XO.as rfl rfl ?_
            refine XO.nk [(6, _), (7, _)] (S2 rfl rfl) ?_
            refine XC.ret ?_
            refine XE.ret2 rfl rfl rfl (post_of .h1 rfl ?_)
            first
            | (rw [PS.read_err (by assumption)]; exact ⟨rfl, rfl⟩)
            | (rw [PS.read_state (by assumption) (by assumption)]; exact ⟨rfl, rfl⟩)
            | (rw [PS.read_bound (by assumption) (by assumption) (by omega)]; exact ⟨rfl, rfl⟩)
            | (rw [PS.read_again (by assumption) (by assumption) (by omega) ⟨by assumption, by omega, by omega⟩]; exact ⟨rfl, rfl⟩)
            | (rw [PS.read_ok (by assumption) (by assumption) (by omega) (by rintro ⟨q1, q2, q3⟩; first | contradiction | omega)]; exact ⟨rfl, rfl⟩)
        · skip
          refine XO.guardSkip rfl rfl rfl rfl rfl ?_
          refine XO.guardSkip rfl rfl rfl rfl rfl ?_
          refine XO.guardSkip rfl rfl rfl rfl rfl ?_
          refine XO.guardSkip rfl rfl rfl rfl rfl ?_
          refine XO.guardSkip rfl rfl rfl rfl rfl ?_
          refine XO.guardSkip rfl rfl rfl rfl rfl ?_
          refine XO.guardSkip rfl rfl rfl rfl rfl ?_
          refine XO.guardSkip rfl rfl rfl rfl rfl ?_
          refine XO.v (V.pick rfl rfl rfl rfl) rfl ?_
          refine XO.mv rfl rfl ?_
          refine XO.guardSkip rfl rfl rfl rfl rfl ?_
          refine XO.guardSkip rfl rfl rfl rfl rfl ?_
          refine XO.v (V.pick rfl rfl rfl rfl) rfl ?_
          refine XO.nk [(0, _), (1, _), (2, _), (47, _)] (S4 rfl rfl rfl rfl) ?_
          refine XC.condF rfl rfl ?_
          refine XC.skip ?_
          refine XE.next ?_
          refine XC.keep [(0, _), (1, _), (2, _)] (S3 rfl rfl rfl) ?_
          refine XC.sr ?_
          refine XO.mv rfl rfl ?_
          refine XO.mv rfl rfl ?_
          refine XO.mv rfl rfl ?_
          refine XO.v (V.nilCheckP rfl) rfl ?_
          refine XO.v (V.fieldAddr rfl fo_52_0) rfl ?_
          refine XO.v (V.indexArr rfl rfl ar_48 (by omega)) rfl ?_
          refine XO.v (V.load rfl (inXM .here) (encR.ld_B_I _ _ (by omega)) sc_9) rfl ?_
          refine XO.v (V.lenStr rfl Tryz.underlying9) rfl ?_
          refine XO.v (V.min2 rfl rfl) rfl ?_
          refine XO.as rfl rfl ?_
          refine XO.nk [(0, _), (1, _), (9, _)] (S3 rfl rfl rfl) ?_
          refine XC.sr ?_
          refine XO.mv rfl rfl ?_
          refine XO.mv rfl rfl ?_
          refine XO.v (V.nilCheckP rfl) rfl ?_
          refine XO.v (V.fieldAddr rfl fo_52_0) rfl ?_
          refine XO.v (V.indexArr rfl rfl ar_48 (by omega)) rfl ?_
          refine XO.v (V.load rfl (inXM .here) (encR.ld_B_I _ _ (by omega)) sc_9) rfl ?_
          refine XO.mv rfl rfl ?_
          refine XO.v (V.sliceTo rfl rfl Tryz.underlying9 (by omega)) rfl ?_
          refine XO.as rfl rfl ?_
          refine XO.nk [(0, _), (1, _), (9, _), (10, _)] (S4 rfl rfl rfl rfl) ?_
          refine XC.seq ?_
          refine XC.regionQ mixed (f := 14) (l := #[false, false, false, false, false, false, false, false, false, false, false, false, false, false]) rfl rfl XM.drawn' ?_
          refine XQ.pv (i := 0) (l' := #[tt,ff,ff,ff,ff,ff,ff,ff,ff,ff,ff,ff,ff,ff]) rfl (by kernel_rfl) rfl (V.move rfl) rfl rfl ?_
          refine XQ.pv (i := 1) (l' := #[tt,tt,ff,ff,ff,ff,ff,ff,ff,ff,ff,ff,ff,ff]) rfl (by kernel_rfl) rfl (V.move rfl) rfl rfl ?_
          refine XQ.pv (i := 2) (l' := #[tt,tt,tt,ff,ff,ff,ff,ff,ff,ff,ff,ff,ff,ff]) rfl (by kernel_rfl) rfl (V.move rfl) rfl rfl ?_
          refine XQ.pv (i := 3) (l' := #[tt,tt,tt,tt,ff,ff,ff,ff,ff,ff,ff,ff,ff,ff]) rfl (by kernel_rfl) rfl (V.move rfl) rfl rfl ?_
          refine XQ.pv (i := 4) (l' := #[tt,tt,tt,tt,tt,ff,ff,ff,ff,ff,ff,ff,ff,ff]) rfl (by kernel_rfl) rfl (V.nilCheckP rfl) rfl rfl ?_
          refine XQ.pv (i := 5) (l' := #[tt,tt,tt,tt,tt,tt,ff,ff,ff,ff,ff,ff,ff,ff]) rfl (by kernel_rfl) rfl (V.fieldAddr rfl fo_52_0) rfl rfl ?_
          refine XQ.pv (i := 6) (l' := #[tt,tt,tt,tt,tt,tt,tt,ff,ff,ff,ff,ff,ff,ff]) rfl (by kernel_rfl) rfl (V.indexArr rfl rfl ar_48 (by omega)) rfl rfl ?_
          refine XQ.load (i := 7) (l' := #[tt,tt,tt,tt,tt,tt,tt,tt,ff,ff,ff,ff,ff,ff]) (.cells _ _ _ _) [13] rfl (by kernel_rfl) rfl .here (V.load rfl inEnt (encR.ld_B_I _ _ (by omega)) sc_9) rfl (by kernel_rfl) rfl ?_
          refine XQ.pv (i := 8) (l' := #[tt,tt,tt,tt,tt,tt,tt,tt,tt,ff,ff,ff,ff,ff]) rfl (by kernel_rfl) rfl (V.move rfl) rfl rfl ?_
          refine XQ.pv (i := 9) (l' := #[tt,tt,tt,tt,tt,tt,tt,tt,tt,tt,ff,ff,ff,ff]) rfl (by kernel_rfl) rfl (V.sliceFrom rfl rfl Tryz.underlying9 (by omega)) rfl rfl ?_
          refine XQ.pv (i := 10) (l' := #[tt,tt,tt,tt,tt,tt,tt,tt,tt,tt,tt,ff,ff,ff]) rfl (by kernel_rfl) rfl (V.nilCheckP rfl) rfl rfl ?_
          refine XQ.pv (i := 11) (l' := #[tt,tt,tt,tt,tt,tt,tt,tt,tt,tt,tt,tt,ff,ff]) rfl (by kernel_rfl) rfl (V.fieldAddr rfl fo_52_0) rfl rfl ?_
          refine XQ.pv (i := 12) (l' := #[tt,tt,tt,tt,tt,tt,tt,tt,tt,tt,tt,tt,tt,ff]) rfl (by kernel_rfl) rfl (V.indexArr rfl rfl ar_48 (by omega)) rfl rfl ?_
          refine XQ.store (i := 13) (l' := #[tt,tt,tt,tt,tt,tt,tt,tt,tt,tt,tt,tt,tt,tt]) rfl (by kernel_rfl) rfl rfl rfl .here (encR.st_B_I _ _ (by omega) _) rfl sz_9_1 (fun _ hw' => ⟨fun hs => (hs 13 (by first | (simp; done) | (simp; rfl)) rfl).elim, trivial⟩) ?_
          refine XQ.done (by kernel_rfl) ?_
          refine XE.next ?_
          refine XC.keep [(10, _)] (S1 rfl) ?_
          refine XC.sr ?_
          refine XO.mv rfl rfl ?_
          refine XO.as rfl rfl ?_
          refine XO.as rfl rfl ?_
          refine XO.nk [(6, _), (7, _)] (S2 rfl rfl) ?_
          refine XC.ret ?_
          refine XE.ret2 rfl rfl rfl (post_of .h1 rfl ?_)
          first
          | (rw [PS.read_err (by assumption)]; exact ⟨rfl, rfl⟩)
          | (rw [PS.read_state (by assumption) (by assumption)]; exact ⟨rfl, rfl⟩)
          | (rw [PS.read_bound (by assumption) (by assumption) (by omega)]; exact ⟨rfl, rfl⟩)
          | (rw [PS.read_again (by assumption) (by assumption) (by omega) ⟨by assumption, by omega, by omega⟩]; exact ⟨rfl, rfl⟩)
          | (rw [PS.read_ok (by assumption) (by assumption) (by omega) (by rintro ⟨q1, q2, q3⟩; first | contradiction | omega)]; exact ⟨rfl, rfl⟩)
set_option maxRecDepth 10000 in
set_option maxHeartbeats 400000 in
theorem pr_Write (b o : Nat) (K : Int) (hK : K ≤ 1000000) (s : PS) (hI : s.Inv K) (n : Int) (t : ByteArray) (ht : t.size ≤ 1000000) : Spec Tryz.prog 93 [ptr b o 0, .int .i64 n, .string t]
    [.cells b o 24 (encR s)]
    (fun v H1 => v = .tuple #[.int .i64 (s.write n t).1, .int .i64 (s.write n t).2.1] ∧ H1 = [.cells b o 24 (encR (s.write n t).2.2)]) := by
  have b0 := hI.e0 n
  have b1 := hI.e1 n
  have bl := hI.len n
  refine Spec.intro Tryz.func93 rfl rfl ?_
  intro W
  refine XC.sr ?_
  refine XO.as rfl rfl ?_
  refine XO.as rfl rfl ?_
  refine XO.nk [(0, _), (1, _), (2, _)] (S3 rfl rfl rfl) ?_
  refine XC.seq ?_
  refine XC.sr ?_
  refine XO.mv rfl rfl ?_
  refine XO.mv rfl rfl ?_
  refine XO.call rfl (pr_Is _ _ K hK s hI _) .h1 cl_105 rfl ?_
  rintro _ _ ⟨⟨rfl, h1⟩, rfl⟩
  refine XO.as rfl rfl ?_
  refine XO.nk [(0, _), (1, _), (2, _), (8, _)] (S4 rfl rfl rfl rfl) ?_
  refine XC.sr ?_
  refine XO.mv rfl rfl ?_
  refine XO.v (V.cmp rfl rfl rfl) rfl ?_
  refine XO.nk [(0, _), (1, _), (2, _), (8, _), (14, _)] (S5 rfl rfl rfl rfl rfl) ?_
  refine XC.condP rfl (fun h2 => ?_) (fun h2 => ?_)
  · skip
    have hz : s.is n ≠ 0 := by omega
    refine XC.sr ?_
    refine XO.mv rfl rfl ?_
    refine XO.as rfl rfl ?_
    refine XO.as rfl rfl ?_
    refine XO.nk [(6, _), (7, _)] (S2 rfl rfl) ?_
    refine XC.ret ?_
    refine XE.thenRet ?_
    refine XE.ret2 rfl rfl rfl (post_of .h1 rfl ?_)
    first
    | (rw [PS.write_err (by assumption)]; exact ⟨rfl, rfl⟩)
    | (rw [PS.write_state (by assumption) (by assumption)]; exact ⟨rfl, rfl⟩)
    | (rw [PS.write_broken (by assumption) (by assumption) (by assumption)]; exact ⟨rfl, rfl⟩)
    | (have hq : min (t.size : Int) (12 - (s.b n).size) = k := by omega
       rw [PS.write_again (by assumption) (by assumption) (by assumption) (by omega)]; refine ⟨rfl, ?_⟩; have hk0 : k = 0 := by omega
       subst hk0; rw [show ({ s with b := fset s.b n (s.b n ++ t.extract 0 (0 : Int).toNat) } : PS) = s from by rw [fset_same s.b (by simp)]])
    | (have hq : min (t.size : Int) (12 - (s.b n).size) = k := by omega
       rw [PS.write_ok (by assumption) (by assumption) (by assumption) (by omega), hq]; exact ⟨rfl, rfl⟩)
  · skip
    have hz : s.is n = 0 := by rcases PS.is_cases s n with ⟨q, q1⟩ | ⟨q, q1⟩ | ⟨q, q1⟩ <;> omega
    obtain ⟨n0, n8⟩ : 0 ≤ n ∧ n < 8 := by rcases PS.is_cases s n with ⟨q, q1⟩ | ⟨q, q1⟩ | ⟨q, q1⟩ <;> omega
    refine XC.skip ?_
    refine XE.next ?_
    refine XC.keep [(0, _), (1, _), (2, _)] (S3 rfl rfl rfl) ?_
    refine XC.seq ?_
    refine XC.sr ?_
    refine XO.mv rfl rfl ?_
    refine XO.mv rfl rfl ?_
    refine XO.v (V.nilCheckP rfl) rfl ?_
    refine XO.v (V.fieldAddr rfl fo_52_1) rfl ?_
    refine XO.v (V.indexArr rfl rfl ar_50 (by omega)) rfl ?_
    refine XO.v (V.indexArr rfl rfl ar_49 (by omega)) rfl ?_
    refine XO.v (V.load rfl (inXM .here) (encR.ld_Ends_I_I _ _ _ (by omega) (by omega)) sc_3) rfl ?_
    refine XO.v (V.cmp rfl rfl rfl) rfl ?_
    refine XO.nk [(0, _), (1, _), (2, _), (23, _)] (S4 rfl rfl rfl rfl) ?_
    refine XC.condP rfl (fun h3 => ?_) (fun h3 => ?_)
    · skip
      refine XC.sr ?_
      refine XO.as rfl rfl ?_
      refine XO.as rfl rfl ?_
      refine XO.nk [(6, _), (7, _)] (S2 rfl rfl) ?_
      refine XC.ret ?_
      refine XE.thenRet ?_
      refine XE.ret2 rfl rfl rfl (post_of .h1 rfl ?_)
      first
      | (rw [PS.write_err (by assumption)]; exact ⟨rfl, rfl⟩)
      | (rw [PS.write_state (by assumption) (by assumption)]; exact ⟨rfl, rfl⟩)
      | (rw [PS.write_broken (by assumption) (by assumption) (by assumption)]; exact ⟨rfl, rfl⟩)
      | (have hq : min (t.size : Int) (12 - (s.b n).size) = k := by omega
         rw [PS.write_again (by assumption) (by assumption) (by assumption) (by omega)]; refine ⟨rfl, ?_⟩; have hk0 : k = 0 := by omega
         subst hk0; rw [show ({ s with b := fset s.b n (s.b n ++ t.extract 0 (0 : Int).toNat) } : PS) = s from by rw [fset_same s.b (by simp)]])
      | (have hq : min (t.size : Int) (12 - (s.b n).size) = k := by omega
         rw [PS.write_ok (by assumption) (by assumption) (by assumption) (by omega), hq]; exact ⟨rfl, rfl⟩)
    · skip
      refine XC.skip ?_
      refine XE.next ?_
      refine XC.keep [(0, _), (1, _), (2, _)] (S3 rfl rfl rfl) ?_
      refine XC.seq ?_
      refine XC.sr ?_
      refine XO.mv rfl rfl ?_
      refine XO.mv rfl rfl ?_
      refine XO.v (V.nilCheckP rfl) rfl ?_
      refine XO.v (V.fieldAddr rfl fo_52_1) rfl ?_
      refine XO.v (V.indexArr rfl rfl ar_50 (by omega)) rfl ?_
      refine XO.v (V.indexArr rfl rfl ar_49 (by omega)) rfl ?_
      refine XO.v (V.load rfl (inXM .here) (encR.ld_Ends_I_I _ _ _ (by omega) (by omega)) sc_3) rfl ?_
      refine XO.v (V.cmp rfl rfl rfl) rfl ?_
      refine XO.nk [(0, _), (1, _), (2, _), (31, _)] (S4 rfl rfl rfl rfl) ?_
      refine XC.condP rfl (fun h4 => ?_) (fun h4 => ?_)
      · skip
        refine XC.sr ?_
        refine XO.as rfl rfl ?_
        refine XO.as rfl rfl ?_
        refine XO.nk [(6, _), (7, _)] (S2 rfl rfl) ?_
        refine XC.ret ?_
        refine XE.thenRet ?_
        refine XE.ret2 rfl rfl rfl (post_of .h1 rfl ?_)
        first
        | (rw [PS.write_err (by assumption)]; exact ⟨rfl, rfl⟩)
        | (rw [PS.write_state (by assumption) (by assumption)]; exact ⟨rfl, rfl⟩)
        | (rw [PS.write_broken (by assumption) (by assumption) (by assumption)]; exact ⟨rfl, rfl⟩)
        | (have hq : min (t.size : Int) (12 - (s.b n).size) = k := by omega
           rw [PS.write_again (by assumption) (by assumption) (by assumption) (by omega)]; refine ⟨rfl, ?_⟩; have hk0 : k = 0 := by omega
           subst hk0; rw [show ({ s with b := fset s.b n (s.b n ++ t.extract 0 (0 : Int).toNat) } : PS) = s from by rw [fset_same s.b (by simp)]])
        | (have hq : min (t.size : Int) (12 - (s.b n).size) = k := by omega
           rw [PS.write_ok (by assumption) (by assumption) (by assumption) (by omega), hq]; exact ⟨rfl, rfl⟩)
      · skip
        refine XC.skip ?_
        refine XE.next ?_
        refine XC.keep [(0, _), (1, _), (2, _)] (S3 rfl rfl rfl) ?_
        refine XC.sr ?_
        refine XO.as rfl rfl ?_
        refine XO.nk [(0, _), (1, _), (2, _), (9, _)] (S4 rfl rfl rfl rfl) ?_
        refine XC.seq ?_
        refine XC.block ?_
        refine XC.loop (σ := Int) (fun k => (12 - k).toNat) (fun k => 0 ≤ k ∧ k ≤ t.size ∧ (s.b n).size + k ≤ 12) (fun k => [(9, .int .i64 k), (0, ptr b o 0), (1, .int .i64 n), (2, .string t)]) (fun k => XM W (foot [.cells b o 24 (encR s)]) [.cells b o 24 (encR { s with b := fset s.b n (s.b n ++ t.extract 0 k.toNat) })]) (0) ?_ (S4 rfl rfl rfl rfl) (fun _ hw => by rw [show ({ s with b := fset s.b n (s.b n ++ t.extract 0 (0 : Int).toNat) } : PS) = s from by rw [fset_same s.b (by simp)]]; exact XM.pick .h1 hw) ?_
        · skip
          refine ⟨by omega, by omega, by omega⟩
        intro k hk
        have hsz : (({ s with b := fset s.b n (s.b n ++ t.extract 0 k.toNat) } : PS).b n).size = (s.b n).size + k.toNat := by simp [fset, ByteArray.size_append]; omega
        have hsf : (fset s.b n (s.b n ++ t.extract 0 k.toNat) n).size = (s.b n).size + k.toNat := hsz
        refine XC.seq ?_
        refine XC.sr ?_
        refine XO.mv rfl rfl ?_
        refine XO.mv rfl rfl ?_
        refine XO.v (V.lenStr rfl Tryz.underlying9) rfl ?_
        refine XO.v (V.cmp rfl rfl rfl) rfl ?_
        refine XO.mv rfl rfl ?_
        refine XO.splitP (d := 36) rfl (fun h5 => ?_) (fun h5 => ?_)
        · skip
          refine XO.guardRun rfl rfl rfl ?_
          refine XO.mv rfl rfl ?_
          refine XO.guardRun rfl rfl rfl ?_
          refine XO.mv rfl rfl ?_
          refine XO.guardRun rfl rfl rfl ?_
          refine XO.v (V.nilCheckP rfl) rfl ?_
          refine XO.guardRun rfl rfl rfl ?_
          refine XO.v (V.fieldAddr rfl fo_52_0) rfl ?_
          refine XO.guardRun rfl rfl rfl ?_
          refine XO.v (V.indexArr rfl rfl ar_48 (by omega)) rfl ?_
          refine XO.guardRun rfl rfl rfl ?_
          refine XO.v (V.load rfl (inXM .here) (encR.ld_B_I _ _ (by omega)) sc_9) rfl ?_
          refine XO.guardRun rfl rfl rfl ?_
          refine XO.v (V.lenStr rfl Tryz.underlying9) rfl ?_
          refine XO.guardRun rfl rfl rfl ?_
          refine XO.v (V.cmp rfl rfl rfl) rfl ?_
          refine XO.v (V.pick rfl rfl rfl rfl) rfl ?_
          refine XO.nk [(0, _), (1, _), (2, _), (9, _), (45, _)] (S5 rfl rfl rfl rfl rfl) ?_
          refine XC.condP rfl (fun h6 => ?_) (fun h6 => ?_)
          · skip
            refine XC.skip ?_
            refine XE.next ?_
            refine XC.keep [(0, _), (1, _), (2, _), (9, _)] (S4 rfl rfl rfl rfl) ?_
            refine XC.block ?_
            refine XC.seq ?_
            refine XC.regionQ mixed (f := 18) (l := #[false, false, false, false, false, false, false, false, false, false, false, false, false, false, false, false, false, false]) rfl rfl XM.drawn' ?_
            refine XQ.pv (i := 0) (l' := #[tt,ff,ff,ff,ff,ff,ff,ff,ff,ff,ff,ff,ff,ff,ff,ff,ff,ff]) rfl (by kernel_rfl) rfl (V.move rfl) rfl rfl ?_
            refine XQ.pv (i := 1) (l' := #[tt,tt,ff,ff,ff,ff,ff,ff,ff,ff,ff,ff,ff,ff,ff,ff,ff,ff]) rfl (by kernel_rfl) rfl (V.move rfl) rfl rfl ?_
            refine XQ.pv (i := 2) (l' := #[tt,tt,tt,ff,ff,ff,ff,ff,ff,ff,ff,ff,ff,ff,ff,ff,ff,ff]) rfl (by kernel_rfl) rfl (V.move rfl) rfl rfl ?_
            refine XQ.pv (i := 3) (l' := #[tt,tt,tt,tt,ff,ff,ff,ff,ff,ff,ff,ff,ff,ff,ff,ff,ff,ff]) rfl (by kernel_rfl) rfl (V.move rfl) rfl rfl ?_
            refine XQ.pv (i := 4) (l' := #[tt,tt,tt,tt,tt,ff,ff,ff,ff,ff,ff,ff,ff,ff,ff,ff,ff,ff]) rfl (by kernel_rfl) rfl (V.nilCheckP rfl) rfl rfl ?_
            refine XQ.pv (i := 5) (l' := #[tt,tt,tt,tt,tt,tt,ff,ff,ff,ff,ff,ff,ff,ff,ff,ff,ff,ff]) rfl (by kernel_rfl) rfl (V.fieldAddr rfl fo_52_0) rfl rfl ?_
            refine XQ.pv (i := 6) (l' := #[tt,tt,tt,tt,tt,tt,tt,ff,ff,ff,ff,ff,ff,ff,ff,ff,ff,ff]) rfl (by kernel_rfl) rfl (V.indexArr rfl rfl ar_48 (by omega)) rfl rfl ?_
            refine XQ.load (i := 7) (l' := #[tt,tt,tt,tt,tt,tt,tt,tt,ff,ff,ff,ff,ff,ff,ff,ff,ff,ff]) (.cells _ _ _ _) [17] rfl (by kernel_rfl) rfl .here (V.load rfl inEnt (encR.ld_B_I _ _ (by omega)) sc_9) rfl (by kernel_rfl) rfl ?_
            refine XQ.pv (i := 8) (l' := #[tt,tt,tt,tt,tt,tt,tt,tt,tt,ff,ff,ff,ff,ff,ff,ff,ff,ff]) rfl (by kernel_rfl) rfl (V.move rfl) rfl rfl ?_
            refine XQ.pv (i := 9) (l' := #[tt,tt,tt,tt,tt,tt,tt,tt,tt,tt,ff,ff,ff,ff,ff,ff,ff,ff]) rfl (by kernel_rfl) rfl (V.move rfl) rfl rfl ?_
            refine XQ.pv (i := 10) (l' := #[tt,tt,tt,tt,tt,tt,tt,tt,tt,tt,tt,ff,ff,ff,ff,ff,ff,ff]) rfl (by kernel_rfl) rfl (V.move rfl) rfl rfl ?_
            refine XQ.pv (i := 11) (l' := #[tt,tt,tt,tt,tt,tt,tt,tt,tt,tt,tt,tt,ff,ff,ff,ff,ff,ff]) rfl (by kernel_rfl) rfl (V.add rfl rfl _ (IntWalk.i64_in _ (by omega))) rfl rfl ?_
            refine XQ.pv (i := 12) (l' := #[tt,tt,tt,tt,tt,tt,tt,tt,tt,tt,tt,tt,tt,ff,ff,ff,ff,ff]) rfl (by kernel_rfl) rfl (V.slice2 rfl rfl rfl Tryz.underlying9 (by omega)) rfl rfl ?_
            refine XQ.pv (i := 13) (l' := #[tt,tt,tt,tt,tt,tt,tt,tt,tt,tt,tt,tt,tt,tt,ff,ff,ff,ff]) rfl (by kernel_rfl) rfl (V.concat rfl rfl (by rw [ByteArray.size_extract]; omega)) rfl rfl ?_
            refine XQ.pv (i := 14) (l' := #[tt,tt,tt,tt,tt,tt,tt,tt,tt,tt,tt,tt,tt,tt,tt,ff,ff,ff]) rfl (by kernel_rfl) rfl (V.nilCheckP rfl) rfl rfl ?_
            refine XQ.pv (i := 15) (l' := #[tt,tt,tt,tt,tt,tt,tt,tt,tt,tt,tt,tt,tt,tt,tt,tt,ff,ff]) rfl (by kernel_rfl) rfl (V.fieldAddr rfl fo_52_0) rfl rfl ?_
            refine XQ.pv (i := 16) (l' := #[tt,tt,tt,tt,tt,tt,tt,tt,tt,tt,tt,tt,tt,tt,tt,tt,tt,ff]) rfl (by kernel_rfl) rfl (V.indexArr rfl rfl ar_48 (by omega)) rfl rfl ?_
            refine XQ.store (i := 17) (l' := #[tt,tt,tt,tt,tt,tt,tt,tt,tt,tt,tt,tt,tt,tt,tt,tt,tt,tt]) rfl (by kernel_rfl) rfl rfl rfl .here (encR.st_B_I _ _ (by omega) _) rfl sz_9_1 (fun _ hw' => ⟨fun hs => (hs 17 (by first | (simp; done) | (simp; rfl)) rfl).elim, trivial⟩) ?_
            refine XQ.done (by kernel_rfl) ?_
            refine XE.next ?_
            refine XC.keep [(0, _), (1, _), (2, _), (9, _)] (S4 rfl rfl rfl rfl) ?_
            refine XC.region ?_
            refine XO.mv rfl rfl ?_
            refine XO.v (V.add rfl rfl _ (IntWalk.i64_in _ (by omega))) rfl ?_
            refine XO.as rfl rfl ?_
            refine XO.nil ?_
            refine XE.blockNormal ?_
            refine XE.again (k + 1) ?_ ?_ (S4 rfl rfl rfl rfl) (fun _ hw => by rw [← write_step s n t k (by omega)]; exact XM.pick .h1 hw)
            · skip
              (first | omega | (simp; done) | (simp; omega))
            · skip
              (first | omega | (simp; done) | (simp; omega))
          · skip
            refine XC.exit ?_
            refine XE.thenExit ?_
            refine XE.thenExit ?_
            refine XE.blockExit ?_
            refine XE.next ?_
            refine XC.keep [(2, _), (9, _)] (S2 rfl rfl) ?_
            refine XC.seq ?_
            refine XC.sr ?_
            refine XO.mv rfl rfl ?_
            refine XO.v (V.cmp rfl rfl rfl) rfl ?_
            refine XO.mv rfl rfl ?_
            refine XO.splitP (d := 67) rfl (fun h7 => ?_) (fun h7 => ?_)
            · skip
              refine XO.guardRun rfl rfl rfl ?_
              refine XO.mv rfl rfl ?_
              refine XO.guardRun rfl rfl rfl ?_
              refine XO.v (V.lenStr rfl Tryz.underlying9) rfl ?_
              refine XO.guardRun rfl rfl rfl ?_
              refine XO.v (V.cmp rfl rfl rfl) rfl ?_
              refine XO.v (V.pick rfl rfl rfl rfl) rfl ?_
              refine XO.nk [(9, _), (71, _)] (S2 rfl rfl) ?_
              refine XC.condP rfl (fun h8 => ?_) (fun h8 => ?_)
              · skip
                refine XC.sr ?_
                refine XO.as rfl rfl ?_
                refine XO.as rfl rfl ?_
                refine XO.nk [(6, _), (7, _)] (S2 rfl rfl) ?_
                refine XC.ret ?_
                refine XE.thenRet ?_
                refine XE.ret2 rfl rfl rfl (post_of .h1 rfl ?_)
                first
                | (rw [PS.write_err (by assumption)]; exact ⟨rfl, rfl⟩)
                | (rw [PS.write_state (by assumption) (by assumption)]; exact ⟨rfl, rfl⟩)
                | (rw [PS.write_broken (by assumption) (by assumption) (by assumption)]; exact ⟨rfl, rfl⟩)
                | (have hq : min (t.size : Int) (12 - (s.b n).size) = k := by omega
                   rw [PS.write_again (by assumption) (by assumption) (by assumption) (by omega)]; refine ⟨rfl, ?_⟩; have hk0 : k = 0 := by omega
                   subst hk0; rw [show ({ s with b := fset s.b n (s.b n ++ t.extract 0 (0 : Int).toNat) } : PS) = s from by rw [fset_same s.b (by simp)]])
                | (have hq : min (t.size : Int) (12 - (s.b n).size) = k := by omega
                   rw [PS.write_ok (by assumption) (by assumption) (by assumption) (by omega), hq]; exact ⟨rfl, rfl⟩)
              · skip
                refine XC.skip ?_
                refine XE.next ?_
                refine XC.keep [(9, _)] (S1 rfl) ?_
                refine XC.sr ?_
                refine XO.mv rfl rfl ?_
                refine XO.as rfl rfl ?_
                refine XO.as rfl rfl ?_
                refine XO.nk [(6, _), (7, _)] (S2 rfl rfl) ?_
                refine XC.ret ?_
                refine XE.ret2 rfl rfl rfl (post_of .h1 rfl ?_)
                first
                | (rw [PS.write_err (by assumption)]; exact ⟨rfl, rfl⟩)
                | (rw [PS.write_state (by assumption) (by assumption)]; exact ⟨rfl, rfl⟩)
                | (rw [PS.write_broken (by assumption) (by assumption) (by assumption)]; exact ⟨rfl, rfl⟩)
                | (have hq : min (t.size : Int) (12 - (s.b n).size) = k := by omega
                   rw [PS.write_again (by assumption) (by assumption) (by assumption) (by omega)]; refine ⟨rfl, ?_⟩; have hk0 : k = 0 := by omega
                   subst hk0; rw [show ({ s with b := fset s.b n (s.b n ++ t.extract 0 (0 : Int).toNat) } : PS) = s from by rw [fset_same s.b (by simp)]])
                | (have hq : min (t.size : Int) (12 - (s.b n).size) = k := by omega
                   rw [PS.write_ok (by assumption) (by assumption) (by assumption) (by omega), hq]; exact ⟨rfl, rfl⟩)
            · skip
              refine XO.guardSkip rfl rfl rfl rfl rfl ?_
              refine XO.guardSkip rfl rfl rfl rfl rfl ?_
              refine XO.guardSkip rfl rfl rfl rfl rfl ?_
              refine XO.v (V.pick rfl rfl rfl rfl) rfl ?_
              refine XO.nk [(9, _), (71, _)] (S2 rfl rfl) ?_
              refine XC.condF rfl rfl ?_
              refine XC.skip ?_
              refine XE.next ?_
              refine XC.keep [(9, _)] (S1 rfl) ?_
              refine XC.sr ?_
              refine XO.mv rfl rfl ?_
              refine XO.as rfl rfl ?_
              refine XO.as rfl rfl ?_
              refine XO.nk [(6, _), (7, _)] (S2 rfl rfl) ?_
              refine XC.ret ?_
              refine XE.ret2 rfl rfl rfl (post_of .h1 rfl ?_)
              first
              | (rw [PS.write_err (by assumption)]; exact ⟨rfl, rfl⟩)
              | (rw [PS.write_state (by assumption) (by assumption)]; exact ⟨rfl, rfl⟩)
              | (rw [PS.write_broken (by assumption) (by assumption) (by assumption)]; exact ⟨rfl, rfl⟩)
              | (have hq : min (t.size : Int) (12 - (s.b n).size) = k := by omega
                 rw [PS.write_again (by assumption) (by assumption) (by assumption) (by omega)]; refine ⟨rfl, ?_⟩; have hk0 : k = 0 := by omega
                 subst hk0; rw [show ({ s with b := fset s.b n (s.b n ++ t.extract 0 (0 : Int).toNat) } : PS) = s from by rw [fset_same s.b (by simp)]])
              | (have hq : min (t.size : Int) (12 - (s.b n).size) = k := by omega
                 rw [PS.write_ok (by assumption) (by assumption) (by assumption) (by omega), hq]; exact ⟨rfl, rfl⟩)
        · skip
          refine XO.guardSkip rfl rfl rfl rfl rfl ?_
          refine XO.guardSkip rfl rfl rfl rfl rfl ?_
          refine XO.guardSkip rfl rfl rfl rfl rfl ?_
          refine XO.guardSkip rfl rfl rfl rfl rfl ?_
          refine XO.guardSkip rfl rfl rfl rfl rfl ?_
          refine XO.guardSkip rfl rfl rfl rfl rfl ?_
          refine XO.guardSkip rfl rfl rfl rfl rfl ?_
          refine XO.guardSkip rfl rfl rfl rfl rfl ?_
          refine XO.v (V.pick rfl rfl rfl rfl) rfl ?_
          refine XO.nk [(0, _), (1, _), (2, _), (9, _), (45, _)] (S5 rfl rfl rfl rfl rfl) ?_
          refine XC.condF rfl rfl ?_
          refine XC.exit ?_
          refine XE.thenExit ?_
          refine XE.thenExit ?_
          refine XE.blockExit ?_
          refine XE.next ?_
          refine XC.keep [(2, _), (9, _)] (S2 rfl rfl) ?_
          refine XC.seq ?_
          refine XC.sr ?_
          refine XO.mv rfl rfl ?_
          refine XO.v (V.cmp rfl rfl rfl) rfl ?_
          refine XO.mv rfl rfl ?_
          refine XO.splitP (d := 67) rfl (fun h9 => ?_) (fun h9 => ?_)
          · skip
            refine XO.guardRun rfl rfl rfl ?_
            refine XO.mv rfl rfl ?_
            refine XO.guardRun rfl rfl rfl ?_
            refine XO.v (V.lenStr rfl Tryz.underlying9) rfl ?_
            refine XO.guardRun rfl rfl rfl ?_
            refine XO.v (V.cmp rfl rfl rfl) rfl ?_
            refine XO.v (V.pick rfl rfl rfl rfl) rfl ?_
            refine XO.nk [(9, _), (71, _)] (S2 rfl rfl) ?_
            refine XC.condP rfl (fun h10 => ?_) (fun h10 => ?_)
            · skip
              refine XC.sr ?_
              refine XO.as rfl rfl ?_
              refine XO.as rfl rfl ?_
              refine XO.nk [(6, _), (7, _)] (S2 rfl rfl) ?_
              refine XC.ret ?_
              refine XE.thenRet ?_
              refine XE.ret2 rfl rfl rfl (post_of .h1 rfl ?_)
              first
              | (rw [PS.write_err (by assumption)]; exact ⟨rfl, rfl⟩)
              | (rw [PS.write_state (by assumption) (by assumption)]; exact ⟨rfl, rfl⟩)
              | (rw [PS.write_broken (by assumption) (by assumption) (by assumption)]; exact ⟨rfl, rfl⟩)
              | (have hq : min (t.size : Int) (12 - (s.b n).size) = k := by omega
                 rw [PS.write_again (by assumption) (by assumption) (by assumption) (by omega)]; refine ⟨rfl, ?_⟩; have hk0 : k = 0 := by omega
                 subst hk0; rw [show ({ s with b := fset s.b n (s.b n ++ t.extract 0 (0 : Int).toNat) } : PS) = s from by rw [fset_same s.b (by simp)]])
              | (have hq : min (t.size : Int) (12 - (s.b n).size) = k := by omega
                 rw [PS.write_ok (by assumption) (by assumption) (by assumption) (by omega), hq]; exact ⟨rfl, rfl⟩)
            · skip
              refine XC.skip ?_
              refine XE.next ?_
              refine XC.keep [(9, _)] (S1 rfl) ?_
              refine XC.sr ?_
              refine XO.mv rfl rfl ?_
              refine XO.as rfl rfl ?_
              refine XO.as rfl rfl ?_
              refine XO.nk [(6, _), (7, _)] (S2 rfl rfl) ?_
              refine XC.ret ?_
              refine XE.ret2 rfl rfl rfl (post_of .h1 rfl ?_)
              first
              | (rw [PS.write_err (by assumption)]; exact ⟨rfl, rfl⟩)
              | (rw [PS.write_state (by assumption) (by assumption)]; exact ⟨rfl, rfl⟩)
              | (rw [PS.write_broken (by assumption) (by assumption) (by assumption)]; exact ⟨rfl, rfl⟩)
              | (have hq : min (t.size : Int) (12 - (s.b n).size) = k := by omega
                 rw [PS.write_again (by assumption) (by assumption) (by assumption) (by omega)]; refine ⟨rfl, ?_⟩; have hk0 : k = 0 := by omega
                 subst hk0; rw [show ({ s with b := fset s.b n (s.b n ++ t.extract 0 (0 : Int).toNat) } : PS) = s from by rw [fset_same s.b (by simp)]])
              | (have hq : min (t.size : Int) (12 - (s.b n).size) = k := by omega
                 rw [PS.write_ok (by assumption) (by assumption) (by assumption) (by omega), hq]; exact ⟨rfl, rfl⟩)
          · skip
            refine XO.guardSkip rfl rfl rfl rfl rfl ?_
            refine XO.guardSkip rfl rfl rfl rfl rfl ?_
            refine XO.guardSkip rfl rfl rfl rfl rfl ?_
            refine XO.v (V.pick rfl rfl rfl rfl) rfl ?_
            refine XO.nk [(9, _), (71, _)] (S2 rfl rfl) ?_
            refine XC.condF rfl rfl ?_
            refine XC.skip ?_
            refine XE.next ?_
            refine XC.keep [(9, _)] (S1 rfl) ?_
            refine XC.sr ?_
            refine XO.mv rfl rfl ?_
            refine XO.as rfl rfl ?_
            refine XO.as rfl rfl ?_
            refine XO.nk [(6, _), (7, _)] (S2 rfl rfl) ?_
            refine XC.ret ?_
            refine XE.ret2 rfl rfl rfl (post_of .h1 rfl ?_)
            first
            | (rw [PS.write_err (by assumption)]; exact ⟨rfl, rfl⟩)
            | (rw [PS.write_state (by assumption) (by assumption)]; exact ⟨rfl, rfl⟩)
            | (rw [PS.write_broken (by assumption) (by assumption) (by assumption)]; exact ⟨rfl, rfl⟩)
            | (have hq : min (t.size : Int) (12 - (s.b n).size) = k := by omega
               rw [PS.write_again (by assumption) (by assumption) (by assumption) (by omega)]; refine ⟨rfl, ?_⟩; have hk0 : k = 0 := by omega
               subst hk0; rw [show ({ s with b := fset s.b n (s.b n ++ t.extract 0 (0 : Int).toNat) } : PS) = s from by rw [fset_same s.b (by simp)]])
            | (have hq : min (t.size : Int) (12 - (s.b n).size) = k := by omega
               rw [PS.write_ok (by assumption) (by assumption) (by assumption) (by omega), hq]; exact ⟨rfl, rfl⟩)
end Go.X
