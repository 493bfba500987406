import Derived.Test.YtmklfkjfgjagaaaGreatXShort
import Derived.Test.YtmklfkjfgjagaaaGreatZOPW
namespace Go.X
open Go Go.Proofs
theorem ag_86 : aggT Tryz.prog 86 = true := by kernel_rfl
theorem ar_87 : arrOf Tryz.prog 87 = some (24, 5) := by kernel_rfl
theorem cl_57 : callable Tryz.prog 57 = true := by kernel_rfl
theorem cl_58 : callable Tryz.prog 58 = true := by kernel_rfl
theorem cl_73 : callable Tryz.prog 73 = true := by kernel_rfl
theorem cl_87 : callable Tryz.prog 87 = true := by kernel_rfl
theorem cl_89 : callable Tryz.prog 89 = true := by kernel_rfl
theorem cl_91 : callable Tryz.prog 91 = true := by kernel_rfl
theorem fo_119_0 : fieldOff Tryz.prog 119 0 = some 0 := by kernel_rfl
theorem fo_86_0 : fieldOff Tryz.prog 86 0 = some 0 := by kernel_rfl
theorem fo_86_1 : fieldOff Tryz.prog 86 1 = some 1 := by kernel_rfl
theorem fo_86_2 : fieldOff Tryz.prog 86 2 = some 2 := by kernel_rfl
theorem fo_86_3 : fieldOff Tryz.prog 86 3 = some 3 := by kernel_rfl
theorem fo_86_4 : fieldOff Tryz.prog 86 4 = some 4 := by kernel_rfl
theorem fo_89_0 : fieldOff Tryz.prog 89 0 = some 0 := by kernel_rfl
theorem fo_89_1 : fieldOff Tryz.prog 89 1 = some 1 := by kernel_rfl
theorem fo_89_2 : fieldOff Tryz.prog 89 2 = some 2 := by kernel_rfl
theorem sc_25 : scal Tryz.prog 25 = true := by kernel_rfl
theorem sc_4 : scal Tryz.prog 4 = true := by kernel_rfl
theorem sc_41 : scal Tryz.prog 41 = true := by kernel_rfl
theorem sz_86_5 : szOf Tryz.prog 86 = some 5 := by kernel_rfl
theorem p_Drop (b o : Nat) (K : Int) (hK : K ≤ 1000000) (s : PS) (hI : s.Inv K) (n : Int) (w : Bool) : Spec Tryz.prog 89 [ptr b o 0, .int .i64 n, .bool w] [.cells b o 24 (encP s)] (fun v H1 => v = errv 82 (s.turn n w (-1)).1 ∧ H1 = [.cells b o 24 (encP (s.turn n w (-1)).2)]) := by
  cases w
  · exact p_Drop_false b o K hK s hI n
  · exact p_Drop_true b o K hK s hI n
set_option maxRecDepth 10000 in
set_option maxHeartbeats 400000 in
theorem f_is (bo oo bf bp : Nat) (O : OS) (n : Int) : Spec Tryz.prog 57 [ptr bo oo 0, .int .i64 n]
    [.cells bo oo 122 (encO bf bp O)]
    (fun v H1 => ((O.is n = 0 ∧ 0 ≤ n ∧ n < 24) ∧ v = .tuple #[ptr bo oo (0 + 2 + n.toNat * 5), .nilIface] ∧ H1 = [.cells bo oo 122 (encO bf bp O)]) ∨ (O.is n ≠ 0 ∧ v = .tuple #[.pointer none, .iface 82 (.int .i64 (O.is n))] ∧ H1 = [.cells bo oo 122 (encO bf bp O)])) := by
 refine Spec.intro Tryz.func57 rfl rfl ?_
 intro W
 refine XC.sr ?_
 refine XO.as rfl rfl ?_
 refine XO.as rfl rfl ?_
 refine XO.nk [(0, _), (1, _)] (S2 rfl rfl) ?_
 refine XC.seq ?_
 refine XC.sr ?_
 refine XO.mv rfl rfl ?_
 refine XO.v (V.cmp rfl rfl rfl) rfl ?_
 refine XO.mv rfl rfl ?_
 refine XO.splitP (d := 8) rfl (fun h1 => ?_) (fun h1 => ?_)
 ·
  refine XO.guardSkip rfl rfl rfl rfl rfl ?_
  refine XO.guardSkip rfl rfl rfl rfl rfl ?_
  refine XO.v (V.pick rfl rfl rfl rfl) rfl ?_
  refine XO.nk [(0, _), (1, _), (11, _)] (S3 rfl rfl rfl) ?_
  refine XC.condT rfl rfl ?_
  refine XC.sr ?_
  refine XO.v (V.makeIface rfl Tryz.underlying82 (by simp)) rfl ?_
  refine XO.as rfl rfl ?_
  refine XO.as rfl rfl ?_
  refine XO.nk [(4, _), (5, _)] (S2 rfl rfl) ?_
  refine XC.ret ?_
  refine XE.thenRet ?_
  refine XE.ret2 rfl rfl rfl (post_of .h1 rfl ?_)
  rcases OS.is_cases O n with ⟨q0, q1⟩ | ⟨q0, q1⟩ | ⟨q0, q1⟩ <;> first | (exfalso; omega) | exact .inl ⟨⟨q0, by omega, by omega⟩, rfl, rfl⟩ | exact .inr ⟨by omega, by rw [q0], rfl⟩
 ·
  refine XO.guardRun rfl rfl rfl ?_
  refine XO.mv rfl rfl ?_
  refine XO.guardRun rfl rfl rfl ?_
  refine XO.v (V.cmp rfl rfl rfl) rfl ?_
  refine XO.v (V.pick rfl rfl rfl rfl) rfl ?_
  refine XO.nk [(0, _), (1, _), (11, _)] (S3 rfl rfl rfl) ?_
  refine XC.condP rfl (fun h2 => ?_) (fun h2 => ?_)
  ·
   refine XC.sr ?_
   refine XO.v (V.makeIface rfl Tryz.underlying82 (by simp)) rfl ?_
   refine XO.as rfl rfl ?_
   refine XO.as rfl rfl ?_
   refine XO.nk [(4, _), (5, _)] (S2 rfl rfl) ?_
   refine XC.ret ?_
   refine XE.thenRet ?_
   refine XE.ret2 rfl rfl rfl (post_of .h1 rfl ?_)
   rcases OS.is_cases O n with ⟨q0, q1⟩ | ⟨q0, q1⟩ | ⟨q0, q1⟩ <;> first | (exfalso; omega) | exact .inl ⟨⟨q0, by omega, by omega⟩, rfl, rfl⟩ | exact .inr ⟨by omega, by rw [q0], rfl⟩
  ·
   refine XC.skip ?_
   refine XE.next ?_
   refine XC.keep [(0, _), (1, _)] (S2 rfl rfl) ?_
   refine XC.seq ?_
   refine XC.sr ?_
   refine XO.mv rfl rfl ?_
   refine XO.mv rfl rfl ?_
   refine XO.v (V.nilCheckP rfl) rfl ?_
   refine XO.v (V.fieldAddr rfl fo_89_2) rfl ?_
   refine XO.v (V.indexArr rfl rfl ar_87 (by omega)) rfl ?_
   refine XO.v (V.fieldAddr rfl fo_86_4) rfl ?_
   refine XO.v (V.load rfl (inXM .here) (encO.ld_o_refs _ _ (by omega)) sc_3) rfl ?_
   refine XO.v (V.cmp rfl rfl rfl) rfl ?_
   refine XO.nk [(0, _), (1, _), (20, _)] (S3 rfl rfl rfl) ?_
   refine XC.condP rfl (fun h3 => ?_) (fun h3 => ?_)
   ·
    refine XC.sr ?_
    refine XO.v (V.makeIface rfl Tryz.underlying82 (by simp)) rfl ?_
    refine XO.as rfl rfl ?_
    refine XO.as rfl rfl ?_
    refine XO.nk [(4, _), (5, _)] (S2 rfl rfl) ?_
    refine XC.ret ?_
    refine XE.thenRet ?_
    refine XE.ret2 rfl rfl rfl (post_of .h1 rfl ?_)
    rcases OS.is_cases O n with ⟨q0, q1⟩ | ⟨q0, q1⟩ | ⟨q0, q1⟩ <;> first | (exfalso; omega) | exact .inl ⟨⟨q0, by omega, by omega⟩, rfl, rfl⟩ | exact .inr ⟨by omega, by rw [q0], rfl⟩
   ·
    refine XC.skip ?_
    refine XE.next ?_
    refine XC.keep [(0, _), (1, _)] (S2 rfl rfl) ?_
    refine XC.sr ?_
    refine XO.mv rfl rfl ?_
    refine XO.mv rfl rfl ?_
    refine XO.v (V.nilCheckP rfl) rfl ?_
    refine XO.v (V.fieldAddr rfl fo_89_2) rfl ?_
    refine XO.v (V.indexArr rfl rfl ar_87 (by omega)) rfl ?_
    refine XO.as rfl rfl ?_
    refine XO.as rfl rfl ?_
    refine XO.nk [(4, _), (5, _)] (S2 rfl rfl) ?_
    refine XC.ret ?_
    refine XE.ret2 rfl rfl rfl (post_of .h1 rfl ?_)
    rcases OS.is_cases O n with ⟨q0, q1⟩ | ⟨q0, q1⟩ | ⟨q0, q1⟩ <;> first | (exfalso; omega) | exact .inl ⟨⟨q0, by omega, by omega⟩, rfl, rfl⟩ | exact .inr ⟨by omega, by rw [q0], rfl⟩
set_option maxRecDepth 10000 in
set_option maxHeartbeats 1000000 in
theorem f_free (bo oo bf bp : Nat) (O : OS) (m : Int) : Spec Tryz.prog 58 [ptr bo oo 0, .int .i64 m]
    [.cells bo oo 122 (encO bf bp O)]
    (fun v H1 => (((O.freeT m 24).length : Int) < m ∧ v = .slice none 0 0 ∧ H1 = [.cells bo oo 122 (encO bf bp O)]) ∨ (¬ ((O.freeT m 24).length : Int) < m ∧ ∃ p c, v = .slice p (O.freeT m 24).length c ∧ H1 = [irow p c 3 (O.freeT m 24), .cells bo oo 122 (encO bf bp O)])) := by
 refine Spec.intro Tryz.func58 rfl rfl ?_
 intro W
 refine XC.sr ?_
 refine XO.as rfl rfl ?_
 refine XO.nk [(0, _), (1, _)] (S2 rfl rfl) ?_
 refine XC.sr ?_
 refine XO.as rfl rfl ?_
 refine XO.nilRow 3 1 ?_
 refine XO.nk [(0, _), (1, _), (5, _)] (S3 rfl rfl rfl) ?_
 refine XC.seq ?_
 refine XC.sr ?_
 refine XO.mv rfl rfl ?_
 refine XO.nk [(0, _), (1, _), (5, _), (7, _)] (S4 rfl rfl rfl rfl) ?_
 refine XC.block ?_
 refine XC.loop (σ := Int × Option Addr × Nat) (fun x => (24 - x.1).toNat) (fun x => 0 ≤ x.1 ∧ x.1 ≤ 24) (fun x => [(5, .slice x.2.1 (O.freeT m x.1.toNat).length x.2.2), (7, .int .i64 x.1), (0, ptr bo oo 0), (1, .int .i64 m)]) (fun x => XM W (foot [.cells bo oo 122 (encO bf bp O)]) [irow x.2.1 x.2.2 3 (O.freeT m x.1.toNat), .cells bo oo 122 (encO bf bp O)]) ((0, none, 0)) ?_ (S4 rfl rfl rfl rfl) (fun _ hw => XM.pick .h2 hw) ?_
 ·
  exact ⟨by omega, by omega⟩
 intro x hx
 obtain ⟨hx0, hx1⟩ := hx
 have hst := O.freeT_next m hx0
 have hln := O.freeT_len m x.1.toNat
 refine XC.sr ?_
 refine XO.v (V.cmp rfl rfl rfl) rfl ?_
 refine XO.nk [(0, _), (1, _), (5, _), (7, _), (8, _)] (S5 rfl rfl rfl rfl rfl) ?_
 refine XC.seq ?_
 refine XC.condP rfl (fun h1 => ?_) (fun h1 => ?_)
 ·
  refine XC.skip ?_
  refine XE.next ?_
  refine XC.keep [(0, _), (1, _), (5, _), (7, _)] (S4 rfl rfl rfl rfl) ?_
  refine XC.seq ?_
  refine XC.block ?_
  refine XC.sr ?_
  refine XO.mv rfl rfl ?_
  refine XO.as rfl rfl ?_
  refine XO.nk [(0, _), (1, _), (5, _), (6, _), (7, _)] (S5 rfl rfl rfl rfl rfl) ?_
  refine XC.sr ?_
  refine XO.mv rfl rfl ?_
  refine XO.mv rfl rfl ?_
  refine XO.v (V.nilCheckP rfl) rfl ?_
  refine XO.v (V.fieldAddr rfl fo_89_2) rfl ?_
  refine XO.v (V.indexArr rfl rfl ar_87 (by omega)) rfl ?_
  refine XO.v (V.fieldAddr rfl fo_86_4) rfl ?_
  refine XO.v (V.load rfl (inXM (.there .here)) (encO.ld_o_refs _ _ (by omega)) sc_3) rfl ?_
  refine XO.v (V.cmp rfl rfl rfl) rfl ?_
  refine XO.mv rfl rfl ?_
  refine XO.splitP (d := 18) rfl (fun h2 => ?_) (fun h2 => ?_)
  ·
   refine XO.guardRun rfl rfl rfl ?_
   refine XO.mv rfl rfl ?_
   refine XO.guardRun rfl rfl rfl ?_
   refine XO.v (V.lenSl rfl Tryz.underlying29) rfl ?_
   refine XO.guardRun rfl rfl rfl ?_
   refine XO.mv rfl rfl ?_
   refine XO.guardRun rfl rfl rfl ?_
   refine XO.v (V.cmp rfl rfl rfl) rfl ?_
   refine XO.v (V.pick rfl rfl rfl rfl) rfl ?_
   refine XO.nk [(0, _), (1, _), (5, _), (6, _), (7, _), (23, _)] (S6 rfl rfl rfl rfl rfl rfl) ?_
   refine XC.condP rfl (fun h3 => ?_) (fun h3 => ?_)
   ·
    have e1 : O.freeT m (x.1 + 1).toNat = O.freeT m x.1.toNat ++ [x.1] := by rw [hst, if_pos ⟨by assumption, by assumption⟩]
    refine XC.region ?_
    refine XO.mv rfl rfl ?_
    refine XO.mv rfl rfl ?_
    refine XO.buildSlice (A := #[.int .i64 _]) (vs := #[(0, .int .i64 _)]) rfl (bs1_29 _) rfl rfl ?_
    intro h4
    refine XO.appendI (e := 3) rfl rfl Tryz.underlying29 rt_3_1 (.there .here) .here (by omega) rfl ?_
    intro pa ca
    refine XO.as rfl rfl ?_
    refine XO.nil ?_
    refine XE.blockNormal ?_
    refine XE.next ?_
    refine XC.keep [(0, _), (1, _), (5, _), (7, _)] (S4 rfl rfl rfl rfl) ?_
    refine XC.region ?_
    refine XO.v (V.add rfl rfl _ (IntWalk.i64_in _ (by omega))) rfl ?_
    refine XO.mv rfl rfl ?_
    refine XO.nil ?_
    refine XE.again ((x.1 + 1, pa, ca)) ?_ ?_ (Sub.cons (by rw [e1]; try rfl) (S3 rfl rfl rfl)) (fun _ hw => by rw [e1]; exact XM.pick (.cons .here (.cons (.there .here) .nil)) hw)
    ·
     (first | omega | (simp; done) | (simp; omega))
    ·
     (first | omega | (simp; done) | (simp; omega))
   ·
    have e1 : O.freeT m (x.1 + 1).toNat = O.freeT m x.1.toNat := by rw [hst, if_neg (fun q => absurd q.2 (by assumption))]
    refine XC.skip ?_
    refine XE.blockNormal ?_
    refine XE.next ?_
    refine XC.keep [(0, _), (1, _), (5, _), (7, _)] (S4 rfl rfl rfl rfl) ?_
    refine XC.region ?_
    refine XO.v (V.add rfl rfl _ (IntWalk.i64_in _ (by omega))) rfl ?_
    refine XO.mv rfl rfl ?_
    refine XO.nil ?_
    refine XE.again ((x.1 + 1, x.2.1, x.2.2)) ?_ ?_ (Sub.cons (by rw [e1]; try rfl) (S3 rfl rfl rfl)) (fun _ hw => by rw [e1]; exact XM.pick .h2 hw)
    ·
     (first | omega | (simp; done) | (simp; omega))
    ·
     (first | omega | (simp; done) | (simp; omega))
  ·
   have e1 : O.freeT m (x.1 + 1).toNat = O.freeT m x.1.toNat := by rw [hst, if_neg (fun q => absurd q.1 (by assumption))]
   refine XO.guardSkip rfl rfl rfl rfl rfl ?_
   refine XO.guardSkip rfl rfl rfl rfl rfl ?_
   refine XO.guardSkip rfl rfl rfl rfl rfl ?_
   refine XO.guardSkip rfl rfl rfl rfl rfl ?_
   refine XO.v (V.pick rfl rfl rfl rfl) rfl ?_
   refine XO.nk [(0, _), (1, _), (5, _), (6, _), (7, _), (23, _)] (S6 rfl rfl rfl rfl rfl rfl) ?_
   refine XC.condF rfl rfl ?_
   refine XC.skip ?_
   refine XE.blockNormal ?_
   refine XE.next ?_
   refine XC.keep [(0, _), (1, _), (5, _), (7, _)] (S4 rfl rfl rfl rfl) ?_
   refine XC.region ?_
   refine XO.v (V.add rfl rfl _ (IntWalk.i64_in _ (by omega))) rfl ?_
   refine XO.mv rfl rfl ?_
   refine XO.nil ?_
   refine XE.again ((x.1 + 1, x.2.1, x.2.2)) ?_ ?_ (Sub.cons (by rw [e1]; try rfl) (S3 rfl rfl rfl)) (fun _ hw => by rw [e1]; exact XM.pick .h2 hw)
   ·
    (first | omega | (simp; done) | (simp; omega))
   ·
    (first | omega | (simp; done) | (simp; omega))
 ·
  have e24 : x.1 = 24 := by omega
  rw [e24]
  refine XC.exit ?_
  refine XE.thenExit ?_
  refine XE.thenExit ?_
  refine XE.blockExit ?_
  refine XE.next ?_
  refine XC.keep [(1, _), (5, _)] (S2 rfl rfl) ?_
  refine XC.seq ?_
  refine XC.sr ?_
  refine XO.mv rfl rfl ?_
  refine XO.v (V.lenSl rfl Tryz.underlying29) rfl ?_
  refine XO.mv rfl rfl ?_
  refine XO.v (V.cmp rfl rfl rfl) rfl ?_
  refine XO.nk [(5, _), (32, _)] (S2 rfl rfl) ?_
  refine XC.condP rfl (fun h7 => ?_) (fun h7 => ?_)
  ·
   refine XC.sr ?_
   refine XO.as rfl rfl ?_
   refine XO.nk [(4, _)] (S1 rfl) ?_
   refine XC.ret ?_
   refine XE.thenRet ?_
   refine XE.ret1 rfl rfl (post_of (.cons (.there .here) .nil) rfl ?_)
   exact .inl ⟨by assumption, rfl, rfl⟩
  ·
   refine XC.skip ?_
   refine XE.next ?_
   refine XC.keep [(5, _)] (S1 rfl) ?_
   refine XC.sr ?_
   refine XO.mv rfl rfl ?_
   refine XO.as rfl rfl ?_
   refine XO.nk [(4, _)] (S1 rfl) ?_
   refine XC.ret ?_
   refine XE.ret1 rfl rfl (post_of .h2 rfl ?_)
   exact .inr ⟨by assumption, _, _, rfl, rfl⟩
set_option maxRecDepth 10000 in
set_option maxHeartbeats 4000000 in
theorem f_Node (bo oo bf bp : Nat) (O : OS) (s : FC) (hI : s.toFF.Sh) (n : Int) (w : Bool) : Spec Tryz.prog 23 [ptr bo oo 0, .int .i64 n, .bool w]
    [.cells bo oo 122 (encO bf bp O), .cells bf 0 321 (encF s), .fam fam40 (FC.rowsN 9 s), .fam fam40 (FC.rowsK 3 s)]
    (fun v H1 => v = .tuple #[.int .i64 (onodeV s.toFF O n), errv 82 (onodeE s.toFF O n)] ∧ ∃ t : FC, t.toFF = onodeF s.toFF O n ∧ t.rP = s.rP ∧ t.rC = s.rC ∧ H1 = [.cells bo oo 122 (encO bf bp (onodeO s.toFF O n w)), .cells bf 0 321 (encF t), .fam fam40 (FC.rowsN 9 t), .fam fam40 (FC.rowsK 3 t)]) := by
 refine Spec.intro Tryz.func23 rfl rfl ?_
 intro W
 refine XC.sr ?_
 refine XO.as rfl rfl ?_
 refine XO.as rfl rfl ?_
 refine XO.nk [(0, _), (1, _), (2, _)] (S3 rfl rfl rfl) ?_
 refine XC.sr ?_
 refine XO.mv rfl rfl ?_
 refine XO.v (V.nilCheckP rfl) rfl ?_
 refine XO.v (V.fieldAddr rfl fo_89_0) rfl ?_
 refine XO.v (V.load rfl (inXM .here) (encO.ld_f _) sc_25) rfl ?_
 refine XO.mv rfl rfl ?_
 refine XO.call rfl (t_Of _ _ _ hI _) (.cons (.there .here) .nil) cl_59 rfl ?_
 rintro _ _ ⟨rfl, rfl⟩
 refine XO.mv rfl rfl ?_
 refine XO.v (V.extract rfl rfl) rfl ?_
 refine XO.v (V.extract rfl rfl) rfl ?_
 refine XO.allocZ (z := .agg NV.zero.arr) (m := 4) (C := encNV NV.zero) (by kernel_rfl) rfl (encNV_box _) rfl ?_
 intro bx
 refine XO.storeAgg rfl rfl .here (encNV_st _ _) ⟨rfl, rfl⟩ sz_119_4 ?_
 refine XO.as rfl rfl ?_
 refine XO.nk [(0, _), (1, _), (2, _), (8, _), (9, _)] (S5 rfl rfl rfl rfl rfl) ?_
 refine XC.seq ?_
 refine XC.sr ?_
 refine XO.mv rfl rfl ?_
 refine XO.v (V.errNil rfl Tryz.underlying36 rfl) rfl ?_
 refine XO.nk [(0, _), (1, _), (2, _), (8, _), (9, _), (21, _)] (S6 rfl rfl rfl rfl rfl rfl) ?_
 refine XC.condP rfl (fun h1 => ?_) (fun h1 => ?_)
 ·
  have j0 : s.isE n 0 ≠ 0 := by assumption
  have jn := FF.isE_nn s.toFF n 0
  have hn1 : s.isE n 1 = s.isE n 0 := (FF.isE_k j0).symm
  refine XC.sr ?_
  refine XO.mv rfl rfl ?_
  refine XO.as rfl rfl ?_
  refine XO.as rfl rfl ?_
  refine XO.nk [(6, _), (7, _)] (S2 rfl rfl) ?_
  refine XC.ret ?_
  refine XE.thenRet ?_
  refine XE.ret2 rfl rfl rfl (post_of (.cons (.t2 .here) (.cons (.there .here) (.cons (.there .here) (.cons (.there .here) .nil)))) rfl ?_)
  have e : onodeE s.toFF O n = s.isE n 0 := by unfold onodeE; rw [if_pos (by omega), hn1]
  exact ⟨by rw [show onodeV s.toFF O n = 0 from by unfold onodeV; rw [if_neg (by omega)], e], s, by unfold onodeF; rw [if_neg (by omega)], rfl, rfl, by rw [show onodeO s.toFF O n w = O from by unfold onodeO; rw [if_neg (by omega)]]⟩
 ·
  have j0 : s.isE n 0 = 0 := by simpa using h1
  obtain ⟨j1, j2, j3⟩ := FF.isE_0 j0
  obtain ⟨ov1, _, _⟩ := FF.ofV_ok j0
  refine XC.skip ?_
  refine XE.next ?_
  refine XC.keep [(0, _), (1, _), (2, _), (8, _)] (S4 rfl rfl rfl rfl) ?_
  refine XC.seq ?_
  refine XC.sr ?_
  refine XO.v (V.fieldAddr rfl fo_119_0) rfl ?_
  refine XO.v (V.load rfl (inXM .here) (encNV_kind _) sc_3) rfl ?_
  refine XO.v (V.cmp rfl rfl rfl) rfl ?_
  refine XO.nk [(0, _), (1, _), (2, _), (25, _)] (S4 rfl rfl rfl rfl) ?_
  refine XC.condP rfl (fun h2 => ?_) (fun h2 => ?_)
  ·
   have hn1 : s.isE n 1 = 11 := by rw [ov1] at h2; unfold FF.isE; rw [if_neg (by omega), if_neg (by omega), if_pos (by omega)]
   refine XC.sr ?_
   refine XO.v (V.makeIface rfl Tryz.underlying82 (by simp)) rfl ?_
   refine XO.as rfl rfl ?_
   refine XO.as rfl rfl ?_
   refine XO.nk [(6, _), (7, _)] (S2 rfl rfl) ?_
   refine XC.ret ?_
   refine XE.thenRet ?_
   refine XE.ret2 rfl rfl rfl (post_of (.cons (.t2 .here) (.cons (.there .here) (.cons (.there .here) (.cons (.there .here) .nil)))) rfl ?_)
   have e : onodeE s.toFF O n = 11 := by unfold onodeE; rw [if_pos (by omega), hn1]
   exact ⟨by rw [show onodeV s.toFF O n = 0 from by unfold onodeV; rw [if_neg (by omega)], e]; rfl, s, by unfold onodeF; rw [if_neg (by omega)], rfl, rfl, by rw [show onodeO s.toFF O n w = O from by unfold onodeO; rw [if_neg (by omega)]]⟩
  ·
   have hn1 : s.isE n 1 = 0 := by rw [ov1] at h2; unfold FF.isE; rw [if_neg (by omega), if_neg (by omega), if_neg (by omega)]
   refine XC.skip ?_
   refine XE.next ?_
   refine XC.keep [(0, _), (1, _), (2, _)] (S3 rfl rfl rfl) ?_
   refine XC.sr ?_
   refine XO.mv rfl rfl ?_
   refine XO.call rfl (f_free _ _ _ _ _ _) (.cons (.t2 .here) .nil) cl_58 rfl ?_
   rintro _ _ (⟨f0, rfl, rfl⟩ | ⟨f0, p1, c1, rfl, rfl⟩)
   ·
    refine XO.as rfl rfl ?_
    refine XO.nk [(0, _), (1, _), (2, _), (10, _)] (S4 rfl rfl rfl rfl) ?_
    refine XC.seq ?_
    refine XC.sr ?_
    refine XO.mv rfl rfl ?_
    refine XO.v (V.sliceNil rfl Tryz.underlying29 rfl) rfl ?_
    refine XO.nk [(0, _), (1, _), (2, _), (10, _), (30, _)] (S5 rfl rfl rfl rfl rfl) ?_
    refine XC.condTP rfl (rfl) ?_
    refine XC.sr ?_
    refine XO.v (V.makeIface rfl Tryz.underlying82 (by simp)) rfl ?_
    refine XO.as rfl rfl ?_
    refine XO.as rfl rfl ?_
    refine XO.nk [(6, _), (7, _)] (S2 rfl rfl) ?_
    refine XC.ret ?_
    refine XE.thenRet ?_
    refine XE.ret2 rfl rfl rfl (post_of (.cons .here (.cons (.there .here) (.cons (.there .here) (.cons (.there .here) .nil)))) rfl ?_)
    have hf := OS.free_no f0
    have e : onodeE s.toFF O n = 4 := by unfold onodeE; rw [if_neg (by omega), if_pos hf]
    exact ⟨by rw [show onodeV s.toFF O n = 0 from by unfold onodeV; rw [if_neg (by omega)], e]; rfl, s, by unfold onodeF; rw [if_neg (by omega)], rfl, rfl, by rw [show onodeO s.toFF O n w = O from by unfold onodeO; rw [if_neg (by omega)]]⟩
   ·
    obtain ⟨hf1, hf2⟩ := OS.free_yes f0
    have hf3 := OS.first_ok hf1
    rw [hf2]
    refine XO.as rfl rfl ?_
    refine XO.nk [(0, _), (1, _), (2, _), (10, _)] (S4 rfl rfl rfl rfl) ?_
    refine XC.seq ?_
    refine XC.sr ?_
    refine XO.openRow .here (by show 0 < 1; omega) ?_
    intro g hg
    subst hg
    refine XO.mv rfl rfl ?_
    refine XO.v (V.sliceNil rfl Tryz.underlying29 rfl) rfl ?_
    refine XO.nk [(0, _), (1, _), (2, _), (10, _), (30, _)] (S5 rfl rfl rfl rfl rfl) ?_
    refine XC.condFP rfl (by simp) ?_
    refine XC.skip ?_
    refine XE.next ?_
    refine XC.keep [(0, _), (1, _), (2, _), (10, _)] (S4 rfl rfl rfl rfl) ?_
    refine XC.sr ?_
    refine XO.mv rfl rfl ?_
    refine XO.v (V.nilCheckP rfl) rfl ?_
    refine XO.v (V.fieldAddr rfl fo_89_0) rfl ?_
    refine XO.v (V.load rfl (inXM (.there .here)) (encO.ld_f _) sc_25) rfl ?_
    refine XO.mv rfl rfl ?_
    refine XO.call rfl (t_Hold _ _ _ hI _) (.cons (.t3 .here) (.cons (.t3 .here) (.cons (.t3 .here) .nil))) cl_34 rfl ?_
    rintro _ _ ⟨rfl, t, ht, tp, tc, rfl⟩
    refine XO.nk [(0, _), (1, _), (2, _), (10, _)] (S4 rfl rfl rfl rfl) ?_
    refine XC.seq ?_
    refine XC.regionQ mixed (f := 11) (l := #[false, false, false, false, false, false, false, false, false, false, false]) rfl rfl XM.drawn' ?_
    refine XQ.pv (i := 0) (l' := #[tt,ff,ff,ff,ff,ff,ff,ff,ff,ff,ff]) rfl (by kernel_rfl) rfl (V.move rfl) rfl rfl ?_
    refine XQ.pv (i := 1) (l' := #[tt,tt,ff,ff,ff,ff,ff,ff,ff,ff,ff]) rfl (by kernel_rfl) rfl (V.move rfl) rfl rfl ?_
    refine XQ.pv (i := 2) (l' := #[tt,tt,tt,ff,ff,ff,ff,ff,ff,ff,ff]) rfl (by kernel_rfl) rfl (V.indexSl rfl rfl sl_29 (by show (0 : Int) ≤ 0 ∧ (0 : Int) < 1; omega)) rfl rfl ?_
    refine XQ.load (i := 3) (l' := #[tt,tt,tt,tt,ff,ff,ff,ff,ff,ff,ff]) (.row _ _ _ _ _) [10] rfl (by kernel_rfl) rfl (.t3 .here) (V.loadRow rfl inEnt (ints1 _) sc_3) rfl (by kernel_rfl) rfl ?_
    refine XQ.pv (i := 4) (l' := #[tt,tt,tt,tt,tt,ff,ff,ff,ff,ff,ff]) rfl (by kernel_rfl) rfl (V.move rfl) rfl rfl ?_
    refine XQ.pv (i := 5) (l' := #[tt,tt,tt,tt,tt,tt,ff,ff,ff,ff,ff]) rfl (by kernel_rfl) rfl (V.move rfl) rfl rfl ?_
    refine XQ.pv (i := 6) (l' := #[tt,tt,tt,tt,tt,tt,tt,ff,ff,ff,ff]) rfl (by kernel_rfl) rfl (V.build (vs := #[(0, .int .i64 1), (1, .int .i64 n), (3, .bool w), (4, .int .i64 1)]) rfl (v := .agg (encO.arr ⟨1, n, 0, w, 1⟩)) (fun _ => by kernel_rfl)) rfl rfl ?_
    refine XQ.pv (i := 7) (l' := #[tt,tt,tt,tt,tt,tt,tt,tt,ff,ff,ff]) rfl (by kernel_rfl) rfl (V.nilCheckP rfl) rfl rfl ?_
    refine XQ.pv (i := 8) (l' := #[tt,tt,tt,tt,tt,tt,tt,tt,tt,ff,ff]) rfl (by kernel_rfl) rfl (V.fieldAddr rfl fo_89_2) rfl rfl ?_
    refine XQ.pv (i := 9) (l' := #[tt,tt,tt,tt,tt,tt,tt,tt,tt,tt,ff]) rfl (by kernel_rfl) rfl (V.indexArr rfl rfl ar_87 ⟨hf3.1, hf3.2.1⟩) rfl rfl ?_
    refine XQ.storeAgg (i := 10) (l' := #[tt,tt,tt,tt,tt,tt,tt,tt,tt,tt,tt]) rfl (by kernel_rfl) rfl rfl rfl (.t4 .here) (encO.put O O.first 1 n w 1 ⟨hf3.1, hf3.2.1⟩) ⟨rfl, rfl⟩ sz_86_5 (fun _ hw' => ⟨fun hs => (hs 10 (by first | (simp; done) | (simp; rfl)) rfl).elim, trivial⟩) ?_
    refine XQ.done (by kernel_rfl) ?_
    refine XE.next ?_
    refine XC.keep [(10, _)] (S1 rfl) ?_
    refine XC.sr ?_
    refine XO.mv rfl rfl ?_
    refine XO.v (V.indexSl rfl rfl sl_29 (by show (0 : Int) ≤ 0 ∧ (0 : Int) < 1; omega)) rfl ?_
    refine XO.v (V.loadRow rfl (inXM (.t3 .here)) (ints1 _) sc_3) rfl ?_
    refine XO.as rfl rfl ?_
    refine XO.as rfl rfl ?_
    refine XO.nk [(6, _), (7, _)] (S2 rfl rfl) ?_
    refine XC.ret ?_
    refine XE.ret2 rfl rfl rfl (post_of (.cons (.t4 .here) .h3) rfl ?_)
    have e : onodeE s.toFF O n = 0 := by unfold onodeE; rw [if_neg (by omega), if_neg hf1]
    exact ⟨by rw [show onodeV s.toFF O n = O.first from by unfold onodeV; rw [if_pos e], e]; rfl, t, by rw [ht]; unfold onodeF; rw [if_pos e], tp, tc, by rw [show onodeO s.toFF O n w = O.lay O.first 1 n w from by unfold onodeO; rw [if_pos e]]; rfl⟩
set_option maxRecDepth 10000 in
set_option maxHeartbeats 1000000 in
theorem f_Share (bo oo bf bp : Nat) (O : OS) (J : Int) (hJ : J ≤ 1000000) (hO : O.Inv J) (n : Int) : Spec Tryz.prog 48 [ptr bo oo 0, .int .i64 n]
    [.cells bo oo 122 (encO bf bp O)]
    (fun v H1 => v = errv 82 (O.is n) ∧ H1 = [.cells bo oo 122 (encO bf bp (shareO O n))]) := by
 refine Spec.intro Tryz.func48 rfl rfl ?_
 intro W
 refine XC.sr ?_
 refine XO.as rfl rfl ?_
 refine XO.nk [(0, _), (1, _)] (S2 rfl rfl) ?_
 refine XC.sr ?_
 refine XO.mv rfl rfl ?_
 refine XO.mv rfl rfl ?_
 refine XO.call rfl (f_is _ _ _ _ _ _) .h1 cl_57 rfl ?_
 rintro _ _ (⟨⟨i0, i1, i2⟩, rfl, rfl⟩ | ⟨i0, rfl, rfl⟩)
 ·
  refine XO.mv rfl rfl ?_
  refine XO.v (V.extract rfl rfl) rfl ?_
  refine XO.v (V.extract rfl rfl) rfl ?_
  refine XO.as rfl rfl ?_
  refine XO.as rfl rfl ?_
  refine XO.nk [(5, _), (6, _)] (S2 rfl rfl) ?_
  refine XC.seq ?_
  refine XC.sr ?_
  refine XO.mv rfl rfl ?_
  refine XO.v (V.nilNil rfl Tryz.underlying36 rfl) rfl ?_
  refine XO.nk [(5, _), (6, _), (14, _)] (S3 rfl rfl rfl) ?_
  refine XC.condT rfl rfl ?_
  refine XC.region ?_
  have hrb := hO.refs n i1 i2
  refine XO.mv rfl rfl ?_
  refine XO.v (V.nilCheckP rfl) rfl ?_
  refine XO.v (V.fieldAddr rfl fo_86_4) rfl ?_
  refine XO.v (V.load rfl (inXM .here) (encO.ld_o_refs _ _ (by omega)) sc_3) rfl ?_
  refine XO.v (V.add rfl rfl _ (IntWalk.i64_in _ (by omega))) rfl ?_
  refine XO.v (V.nilCheckP rfl) rfl ?_
  refine XO.v (V.fieldAddr rfl fo_86_4) rfl ?_
  refine XO.store rfl rfl .here (encO.st_o_refs _ _ (by omega) _) rfl sz_3_1 ?_
  refine XO.nk [(6, _)] (S1 rfl) ?_
  refine XC.sr ?_
  refine XO.mv rfl rfl ?_
  refine XO.as rfl rfl ?_
  refine XO.nk [(4, _)] (S1 rfl) ?_
  refine XC.ret ?_
  refine XE.ret1 rfl rfl (post_of .h1 rfl ?_)
  exact ⟨by rw [i0]; rfl, by unfold shareO; rw [if_pos i0]⟩
 ·
  refine XO.mv rfl rfl ?_
  refine XO.v (V.extract rfl rfl) rfl ?_
  refine XO.v (V.extract rfl rfl) rfl ?_
  refine XO.as rfl rfl ?_
  refine XO.as rfl rfl ?_
  refine XO.nk [(5, _), (6, _)] (S2 rfl rfl) ?_
  refine XC.seq ?_
  refine XC.sr ?_
  refine XO.mv rfl rfl ?_
  refine XO.v (V.ifaceNil rfl Tryz.underlying36 rfl) rfl ?_
  refine XO.nk [(5, _), (6, _), (14, _)] (S3 rfl rfl rfl) ?_
  refine XC.condF rfl rfl ?_
  refine XC.skip ?_
  refine XE.next ?_
  refine XC.keep [(6, _)] (S1 rfl) ?_
  refine XC.sr ?_
  refine XO.mv rfl rfl ?_
  refine XO.as rfl rfl ?_
  refine XO.nk [(4, _)] (S1 rfl) ?_
  refine XC.ret ?_
  refine XE.ret1 rfl rfl (post_of .h1 rfl ?_)
  exact ⟨by rw [errv_pos _ i0], by unfold shareO; rw [if_neg i0]⟩
set_option maxRecDepth 10000 in
set_option maxHeartbeats 1000000 in
theorem f_Open (bo oo bf bp : Nat) (O : OS) : Spec Tryz.prog 16 [ptr bo oo 0]
    [.cells bo oo 122 (encO bf bp O)]
    (fun v H1 => v = .int .i64 O.opens ∧ H1 = [.cells bo oo 122 (encO bf bp O)]) := by
 refine Spec.intro Tryz.func16 rfl rfl ?_
 intro W
 refine XC.sr ?_
 refine XO.as rfl rfl ?_
 refine XO.nk [(0, _)] (S1 rfl) ?_
 refine XC.sr ?_
 refine XO.as rfl rfl ?_
 refine XO.nk [(0, _), (3, _)] (S2 rfl rfl) ?_
 refine XC.seq ?_
 refine XC.sr ?_
 refine XO.mv rfl rfl ?_
 refine XO.nk [(0, _), (3, _), (5, _)] (S3 rfl rfl rfl) ?_
 refine XC.block ?_
 refine XC.loop (σ := Int) (fun i => (24 - i).toNat) (fun i => (0 ≤ i ∧ i ≤ 24) ∧ 0 ≤ O.cntT i.toNat ∧ O.cntT i.toNat ≤ i) (fun i => [(5, .int .i64 i), (3, .int .i64 (O.cntT i.toNat)), (0, ptr bo oo 0)]) (fun i => XM W (foot [.cells bo oo 122 (encO bf bp O)]) [.cells bo oo 122 (encO bf bp O)]) (0) ?_ (S3 rfl rfl rfl) (fun _ hw => XM.pick .h1 hw) ?_
 ·
  exact ⟨by omega, by show (0:Int) ≤ 0; omega, by show (0:Int) ≤ 0; omega⟩
 intro i hi
 obtain ⟨hi, ho⟩ := hi
 have hst := O.cntT_next hi.1
 refine XC.sr ?_
 refine XO.v (V.cmp rfl rfl rfl) rfl ?_
 refine XO.nk [(0, _), (3, _), (5, _), (6, _)] (S4 rfl rfl rfl rfl) ?_
 refine XC.seq ?_
 refine XC.condP rfl (fun h1 => ?_) (fun h1 => ?_)
 ·
  refine XC.skip ?_
  refine XE.next ?_
  refine XC.keep [(0, _), (3, _), (5, _)] (S3 rfl rfl rfl) ?_
  refine XC.seq ?_
  refine XC.block ?_
  refine XC.sr ?_
  refine XO.mv rfl rfl ?_
  refine XO.as rfl rfl ?_
  refine XO.nk [(0, _), (3, _), (4, _), (5, _)] (S4 rfl rfl rfl rfl) ?_
  refine XC.sr ?_
  refine XO.mv rfl rfl ?_
  refine XO.mv rfl rfl ?_
  refine XO.v (V.nilCheckP rfl) rfl ?_
  refine XO.v (V.fieldAddr rfl fo_89_2) rfl ?_
  refine XO.v (V.indexArr rfl rfl ar_87 (by omega)) rfl ?_
  refine XO.v (V.fieldAddr rfl fo_86_4) rfl ?_
  refine XO.v (V.load rfl (inXM .here) (encO.ld_o_refs _ _ (by omega)) sc_3) rfl ?_
  refine XO.v (V.cmp rfl rfl rfl) rfl ?_
  refine XO.nk [(0, _), (3, _), (5, _), (15, _)] (S4 rfl rfl rfl rfl) ?_
  refine XC.condP rfl (fun h2 => ?_) (fun h2 => ?_)
  ·
   refine XC.region ?_
   refine XO.mv rfl rfl ?_
   refine XO.v (V.add rfl rfl _ (IntWalk.i64_in _ (by omega))) rfl ?_
   refine XO.as rfl rfl ?_
   refine XO.nil ?_
   refine XE.blockNormal ?_
   refine XE.next ?_
   refine XC.keep [(0, _), (3, _), (5, _)] (S3 rfl rfl rfl) ?_
   refine XC.region ?_
   refine XO.v (V.add rfl rfl _ (IntWalk.i64_in _ (by omega))) rfl ?_
   refine XO.mv rfl rfl ?_
   refine XO.nil ?_
   refine XE.again (i + 1) ?_ ?_ (Sub.cons rfl (Sub.cons (eqi (by rw [hst, if_pos (by assumption)])) (S1 rfl))) (fun _ hw => XM.pick .h1 hw)
   ·
    (first | omega | (simp; done) | (simp; omega))
   ·
    rw [hst, if_pos (by assumption)]; omega
  ·
   refine XC.skip ?_
   refine XE.blockNormal ?_
   refine XE.next ?_
   refine XC.keep [(0, _), (3, _), (5, _)] (S3 rfl rfl rfl) ?_
   refine XC.region ?_
   refine XO.v (V.add rfl rfl _ (IntWalk.i64_in _ (by omega))) rfl ?_
   refine XO.mv rfl rfl ?_
   refine XO.nil ?_
   refine XE.again (i + 1) ?_ ?_ (Sub.cons rfl (Sub.cons (eqi (by rw [hst, if_neg (by omega)]; omega)) (S1 rfl))) (fun _ hw => XM.pick .h1 hw)
   ·
    (first | omega | (simp; done) | (simp; omega))
   ·
    rw [hst, if_neg (by omega)]; omega
 ·
  refine XC.exit ?_
  refine XE.thenExit ?_
  refine XE.thenExit ?_
  refine XE.blockExit ?_
  refine XE.next ?_
  refine XC.keep [(3, _)] (S1 rfl) ?_
  refine XC.sr ?_
  refine XO.mv rfl rfl ?_
  refine XO.as rfl rfl ?_
  refine XO.nk [(2, _)] (S1 rfl) ?_
  refine XC.ret ?_
  refine XE.ret1 rfl rfl (post_of .h1 rfl ?_)
  have e : i = 24 := by omega
  subst e
  exact ⟨rfl, rfl⟩
end Go.X
