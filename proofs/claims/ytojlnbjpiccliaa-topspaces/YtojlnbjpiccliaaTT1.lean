import Derived.Test.YtojlnbjpiccliaaTL2
namespace Go.X
open Go Go.Proofs
theorem ar_112 : arrOf Try.prog 112 = some (6, 1) := by kernel_rfl
theorem ar_46 : arrOf Try.prog 46 = some (6, 1) := by kernel_rfl
theorem sz_4_1 : szOf Try.prog 4 = some 1 := by kernel_rfl
set_option maxRecDepth 10000 in
set_option maxHeartbeats 400000 in
theorem number_nil  : Spec Try.prog 24 [.nilIface]
    []
    (fun v H1 => v = .int .i64 0 ∧ H1 = []) := by
  refine Spec.intro Try.func24 rfl rfl ?_
  intro W
  refine XC.seq ?_
  refine XC.region ?_
  refine XO.v (V.assign rfl) rfl ?_
  refine XO.nil ?_
  refine XE.next ?_
  refine XC.keep [(0, _)] (Sub.cons rfl (Sub.nil _)) ?_
  refine XC.seq ?_
  refine XC.seq ?_
  refine XC.region ?_
  refine XO.v (V.move rfl) rfl ?_
  refine XO.v (V.nilNil rfl Try.underlying33 rfl) rfl ?_
  refine XO.nil ?_
  refine XE.next ?_
  refine XC.keep [(0, _), (6, _)] (Sub.cons rfl (Sub.cons rfl (Sub.nil _))) ?_
  refine XC.condT rfl rfl ?_
  refine XC.seq ?_
  refine XC.region ?_
  refine XO.v (V.assign rfl) rfl ?_
  refine XO.nil ?_
  refine XE.next ?_
  refine XC.keep [(2, _)] (Sub.cons rfl (Sub.nil _)) ?_
  refine XC.ret ?_
  refine XE.thenRet ?_
  refine XE.ret1 rfl rfl (post_of .nil rfl ?_)
  exact ⟨rfl, rfl⟩
set_option maxRecDepth 10000 in
set_option maxHeartbeats 400000 in
theorem number_err (e : Int) : Spec Try.prog 24 [.iface 106 (.int .i64 e)]
    []
    (fun v H1 => v = .int .i64 e ∧ H1 = []) := by
  refine Spec.intro Try.func24 rfl rfl ?_
  intro W
  refine XC.seq ?_
  refine XC.region ?_
  refine XO.v (V.assign rfl) rfl ?_
  refine XO.nil ?_
  refine XE.next ?_
  refine XC.keep [(0, _)] (Sub.cons rfl (Sub.nil _)) ?_
  refine XC.seq ?_
  refine XC.seq ?_
  refine XC.region ?_
  refine XO.v (V.move rfl) rfl ?_
  refine XO.v (V.ifaceNil rfl Try.underlying33 rfl) rfl ?_
  refine XO.nil ?_
  refine XE.next ?_
  refine XC.keep [(0, _), (6, _)] (Sub.cons rfl (Sub.cons rfl (Sub.nil _))) ?_
  refine XC.condF rfl rfl ?_
  refine XC.skip ?_
  refine XE.next ?_
  refine XC.keep [(0, _)] (Sub.cons rfl (Sub.nil _)) ?_
  refine XC.seq ?_
  refine XC.region ?_
  refine XO.v (V.move rfl) rfl ?_
  refine XO.v (V.assertOk rfl Try.underlying106 (by simp)) rfl ?_
  refine XO.v (V.move rfl) rfl ?_
  refine XO.v (V.extract rfl rfl) rfl ?_
  refine XO.v (V.extract rfl rfl) rfl ?_
  refine XO.v (V.assign rfl) rfl ?_
  refine XO.v (V.assign rfl) rfl ?_
  refine XO.nil ?_
  refine XE.next ?_
  refine XC.keep [(3, _), (4, _)] (Sub.cons rfl (Sub.cons rfl (Sub.nil _))) ?_
  refine XC.seq ?_
  refine XC.seq ?_
  refine XC.region ?_
  refine XO.v (V.move rfl) rfl ?_
  refine XO.v (V.not rfl) rfl ?_
  refine XO.nil ?_
  refine XE.next ?_
  refine XC.keep [(3, _), (13, _)] (Sub.cons rfl (Sub.cons rfl (Sub.nil _))) ?_
  refine XC.condF rfl rfl ?_
  refine XC.skip ?_
  refine XE.next ?_
  refine XC.keep [(3, _)] (Sub.cons rfl (Sub.nil _)) ?_
  refine XC.seq ?_
  refine XC.region ?_
  refine XO.v (V.move rfl) rfl ?_
  refine XO.v (V.assign rfl) rfl ?_
  refine XO.nil ?_
  refine XE.next ?_
  refine XC.keep [(2, _)] (Sub.cons rfl (Sub.nil _)) ?_
  refine XC.ret ?_
  refine XE.ret1 rfl rfl (post_of .nil rfl ?_)
  exact ⟨rfl, rfl⟩
theorem number_any (e : Int) : Spec Try.prog 24 [errv 106 e] [] (fun v H1 => v = .int .i64 e ∧ H1 = []) := by
  by_cases h : e = 0
  · subst h; exact number_nil
  · rw [errv_pos _ h]; exact number_err e
set_option maxRecDepth 10000 in
set_option maxHeartbeats 1000000 in
theorem placed_any (bs : Nat) (s : SS) (dep : Int → Nat) (hI : s.Inv dep) (f : Int → Int) (hf : ∀ n, s.here n = true → f n = s.par n) (p : Int) (hp : 0 ≤ p ∧ p < 20) : Spec Try.prog 25 [ptr bs 0 0, .agg (arrV f 6), .int .i64 p]
    [.cells bs 0 158 (encT s)]
    (fun v H1 => v = .bool true ∧ H1 = [.cells bs 0 158 (encT s)]) := by
  have hD := hI.D
  have hal := allL_length s.here 6
  refine Spec.intro Try.func25 rfl rfl ?_
  intro W
  refine XC.seq ?_
  refine XC.region ?_
  refine XO.box (m := 6) (C := encI f 6) rfl (arrV_size f 6) (encI.box f 6) rfl ?_
  intro bp
  refine XO.v (V.assign rfl) rfl ?_
  refine XO.nil ?_
  refine XE.next ?_
  refine XC.keep [(0, _), (2, _), (4, _)] (Sub.cons rfl (Sub.cons rfl (Sub.cons rfl (Sub.nil _)))) ?_
  refine XC.seq ?_
  refine XC.region ?_
  refine XO.v (V.move rfl) rfl ?_
  refine XO.v (V.move rfl) rfl ?_
  refine XO.call rfl (t_Of _ _ _ _) (.cons (.there .here) .nil) cl_68 rfl ?_
  rintro _ _ ⟨⟨rfl, hin⟩, rfl⟩
  refine XO.v (V.move rfl) rfl ?_
  refine XO.v (V.extract rfl rfl) rfl ?_
  refine XO.v (V.extract rfl rfl) rfl ?_
  refine XO.v (V.assign rfl) rfl ?_
  refine XO.v (V.assign rfl) rfl ?_
  refine XO.nil ?_
  refine XE.next ?_
  refine XC.keep [(0, _), (2, _), (4, _), (7, _), (8, _)] (Sub.cons rfl (Sub.cons rfl (Sub.cons rfl (Sub.cons rfl (Sub.cons rfl (Sub.nil _)))))) ?_
  refine XC.seq ?_
  refine XC.region ?_
  refine XO.allocZ (z := .agg (arrB (fun _ => false) 6)) (m := 6) (C := encBl (fun _ => false) 6) (by kernel_rfl) (arrB_size (fun _ => false) 6) (encBl.box (fun _ => false) 6) rfl ?_
  intro bh
  refine XO.nil ?_
  refine XE.next ?_
  refine XC.keep [(0, _), (2, _), (4, _), (7, _), (8, _), (9, _)] (Sub.cons rfl (Sub.cons rfl (Sub.cons rfl (Sub.cons rfl (Sub.cons rfl (Sub.cons rfl (Sub.nil _))))))) ?_
  refine XC.cut [(0, ptr bs 0 0), (2, .int .i64 p), (9, ptr bh 0 0)] (XM W (foot [.cells bs 0 158 (encT s)]) [.cells bh 0 6 (encBl (fun a => decide (a ∈ (s.whereL dep p))) 6), .cells bs 0 158 (encT s)]) ?_ ?_
  · skip
    refine XC.seq ?_
    refine XC.region ?_
    refine XO.v (V.move rfl) rfl ?_
    refine XO.v (V.errNil rfl Try.underlying33 rfl) rfl ?_
    refine XO.nil ?_
    refine XE.next ?_
    refine XC.keep [(0, _), (2, _), (4, _), (7, _), (9, _), (24, _)] (Sub.cons rfl (Sub.cons rfl (Sub.cons rfl (Sub.cons rfl (Sub.cons rfl (Sub.cons rfl (Sub.nil _))))))) ?_
    refine XC.condP rfl (fun h1 => ?_) (fun h1 => ?_)
    · skip
      obtain ⟨_, j0, j1⟩ := hin h1
      have j2 : 0 ≤ (s.in_ p).1 ∧ (s.in_ p).1 < 6 ∧ s.here (s.in_ p).1 = true := by rw [j1]; exact ⟨j0, (hI.loc p).2, hI.at_ p hp.1 hp.2 j0⟩
      have j3 : (s.whereL dep p) = (s.way dep (s.in_ p).1) := by unfold SS.whereL; rw [if_pos j0, j1]
      refine XC.seq ?_
      refine XC.region ?_
      refine XO.v (V.move rfl) rfl ?_
      refine XO.v (V.assign rfl) rfl ?_
      refine XO.nil ?_
      refine XE.next ?_
      refine XC.keep [(0, _), (2, _), (4, _), (9, _), (10, _)] (Sub.cons rfl (Sub.cons rfl (Sub.cons rfl (Sub.cons rfl (Sub.cons rfl (Sub.nil _)))))) ?_
      refine XC.block ?_
      refine XC.loop (σ := Int × List Int) (fun x => if x.1 = -1 then 0 else dep x.1) (fun x => (x.1 = -1 ∧ x.2 = (s.way dep (s.in_ p).1)) ∨ ((0 ≤ x.1 ∧ x.1 < 6 ∧ s.here x.1 = true) ∧ x.2 ++ s.wayF (dep x.1) x.1 = (s.way dep (s.in_ p).1))) (fun x => [(10, .int .i64 x.1), (0, ptr bs 0 0), (2, .int .i64 p), (4, ptr bp 0 0), (9, ptr bh 0 0)]) (fun x => XM W (foot [.cells bs 0 158 (encT s)]) [.cells bh 0 6 (encBl (fun a => decide (a ∈ x.2)) 6), .cells bp 0 6 (encI f 6), .cells bs 0 158 (encT s)]) (((s.in_ p).1, [])) ?_ (Sub.cons rfl (Sub.cons rfl (Sub.cons rfl (Sub.cons rfl (Sub.cons rfl (Sub.nil _)))))) (fun _ hw2 => by rw [mem_nil]; exact XM.pick (.cons .here (.cons (.there .here) (.cons .here .nil))) hw2) ?_
      · skip
        exact .inr ⟨j2, rfl⟩
      intro x hx
      refine XC.seq ?_
      refine XC.seq ?_
      refine XC.region ?_
      refine XO.v (V.move rfl) rfl ?_
      refine XO.v (V.cmp rfl rfl rfl) rfl ?_
      refine XO.nil ?_
      refine XE.next ?_
      refine XC.keep [(0, _), (2, _), (4, _), (9, _), (10, _), (27, _)] (Sub.cons rfl (Sub.cons rfl (Sub.cons rfl (Sub.cons rfl (Sub.cons rfl (Sub.cons rfl (Sub.nil _))))))) ?_
      refine XC.condP rfl (fun h2 => ?_) (fun h2 => ?_)
      · skip
        obtain ⟨hx, hw⟩ := hx.resolve_left (by omega)
        obtain ⟨hx1, hx2, hx3⟩ := id hx
        refine XC.skip ?_
        refine XE.next ?_
        refine XC.keep [(0, _), (2, _), (4, _), (9, _), (10, _)] (Sub.cons rfl (Sub.cons rfl (Sub.cons rfl (Sub.cons rfl (Sub.cons rfl (Sub.nil _)))))) ?_
        refine XC.seq ?_
        refine XC.block ?_
        refine XC.region ?_
        refine XO.v (V.move rfl) rfl ?_
        refine XO.v (V.indexArr rfl rfl ar_112 (by omega)) rfl ?_
        refine XO.store rfl rfl .here (encBl.st _ _ _ _ (by omega)) rfl sz_4_1 ?_
        refine XO.nil ?_
        refine XE.blockNormal ?_
        refine XE.next ?_
        refine XC.keep [(0, _), (2, _), (4, _), (9, _), (10, _)] (Sub.cons rfl (Sub.cons rfl (Sub.cons rfl (Sub.cons rfl (Sub.cons rfl (Sub.nil _)))))) ?_
        refine XC.region ?_
        refine XO.v (V.move rfl) rfl ?_
        refine XO.v (V.indexArr rfl rfl ar_46 (by omega)) rfl ?_
        refine XO.v (V.load rfl (inXM (.there .here)) (encI.ld _ _ _ (by omega)) sc_3) rfl ?_
        refine XO.v (V.assign rfl) rfl ?_
        refine XO.nil ?_
        refine XE.again ((s.par x.1, x.2 ++ [x.1])) ?_ ?_ (Sub.cons (eqi (hf _ (by assumption))) (Sub.cons rfl (Sub.cons rfl (Sub.cons rfl (Sub.cons rfl (Sub.nil _)))))) (fun _ hw2 => by rw [mem_snoc]; exact XM.pick (.cons .here (.cons .here (.cons .here .nil))) hw2)
        · skip
          show (if s.par x.1 = -1 then 0 else dep (s.par x.1)) < (if x.1 = -1 then 0 else dep x.1)
          obtain ⟨h1, h2, h3⟩ := hx
          by_cases q : s.par x.1 = -1
          · have := (hD.d x.1 h1 h2 h3).1
            rw [if_pos q, if_neg (by omega)]; omega
          · have := (SS.way_next hD ⟨h1, h2, h3⟩ q).2.2.2.2
            rw [if_neg q, if_neg (by omega)]; omega
        · skip
          by_cases q : s.par x.1 = -1
          · refine .inl ⟨q, ?_⟩
            rw [← hw, SS.way_nil hD hx q]
          · obtain ⟨e1, e2, e3, e4, _⟩ := SS.way_next hD hx q
            refine .inr ⟨⟨e2, e3, e4⟩, ?_⟩
            rw [← hw, e1]; simp
      · skip
        have j4 : x.2 = (s.way dep (s.in_ p).1) := by
          rcases hx with ⟨_, q⟩ | ⟨⟨q, _⟩, _⟩
          · exact q
          · omega
        refine XC.exit ?_
        refine XE.thenExit ?_
        refine XE.thenExit ?_
        refine XE.blockExit ?_
        refine XE.meet (Sub.cons rfl (Sub.cons rfl (Sub.cons rfl (Sub.nil _)))) (fun _ hw2 => by first | (rw [j3, ← j4]; exact XM.pick (.cons .here (.cons (.there .here) .nil)) hw2) | (rw [j3, mem_nil]; exact XM.pick (.cons .here (.cons (.there .here) .nil)) hw2))
    · skip
      have j3 : (s.whereL dep p) = [] := by
        unfold SS.whereL
        refine if_neg (fun q => ?_)
        have : (s.in_ p).2 = 0 := by rw [SS.in_ok (by omega) (by omega)]
        omega
      refine XC.skip ?_
      refine XE.meet (Sub.cons rfl (Sub.cons rfl (Sub.cons rfl (Sub.nil _)))) (fun _ hw2 => by first | (rw [j3, ← j4]; exact XM.pick (.cons .here (.cons .here .nil)) hw2) | (rw [j3, mem_nil]; exact XM.pick (.cons .here (.cons .here .nil)) hw2))
  refine XC.seq ?_
  refine XC.region ?_
  refine XO.v (V.move rfl) rfl ?_
  refine XO.call rfl (t_All _ _ _) (.cons (.there .here) .nil) cl_72 rfl ?_
  rintro _ _ ⟨pl, cl, rfl, rfl⟩
  refine XO.v (V.assign rfl) rfl ?_
  refine XO.nil ?_
  refine XE.next ?_
  refine XC.keep [(0, _), (2, _), (9, _), (11, _)] (Sub.cons rfl (Sub.cons rfl (Sub.cons rfl (Sub.cons rfl (Sub.nil _))))) ?_
  refine XC.seq ?_
  refine XC.seq ?_
  refine XC.region ?_
  refine XO.v (V.assign rfl) rfl ?_
  refine XO.nil ?_
  refine XE.next ?_
  refine XC.keep [(0, _), (2, _), (9, _), (11, _), (12, _)] (Sub.cons rfl (Sub.cons rfl (Sub.cons rfl (Sub.cons rfl (Sub.cons rfl (Sub.nil _)))))) ?_
  refine XC.block ?_
  refine XC.loop (σ := Int) (fun i => ((allL s.here 6).length - i).toNat) (fun i => 0 ≤ i ∧ i ≤ (allL s.here 6).length) (fun i => [(12, .int .i64 i), (0, ptr bs 0 0), (2, .int .i64 p), (9, ptr bh 0 0), (11, .slice pl (allL s.here 6).length cl)]) (fun i => XM W (foot [.cells bs 0 158 (encT s)]) [irow pl cl 3 (allL s.here 6), .cells bh 0 6 (encBl (fun a => decide (a ∈ (s.whereL dep p))) 6), .cells bs 0 158 (encT s)]) (0) ?_ (Sub.cons rfl (Sub.cons rfl (Sub.cons rfl (Sub.cons rfl (Sub.cons rfl (Sub.nil _)))))) (fun _ hw => XM.pick (.cons .here (.cons (.there .here) (.cons .here .nil))) hw) ?_
  · skip
    omega
  intro i hi
  refine XC.seq ?_
  refine XC.seq ?_
  refine XC.region ?_
  refine XO.v (V.move rfl) rfl ?_
  refine XO.v (V.move rfl) rfl ?_
  refine XO.v (V.lenSl rfl Try.underlying85) rfl ?_
  refine XO.v (V.cmp rfl rfl rfl) rfl ?_
  refine XO.nil ?_
  refine XE.next ?_
  refine XC.keep [(0, _), (2, _), (9, _), (11, _), (12, _), (38, _)] (Sub.cons rfl (Sub.cons rfl (Sub.cons rfl (Sub.cons rfl (Sub.cons rfl (Sub.cons rfl (Sub.nil _))))))) ?_
  refine XC.condP rfl (fun h3 => ?_) (fun h3 => ?_)
  · skip
    obtain ⟨a0, a1, a2⟩ := allL_mem (at0_mem (zs := (allL s.here 6)) (z := i) ⟨hi.1, by omega⟩)
    obtain ⟨k1, k2⟩ := hI.pid_iff (p := p) (n := (at0 (allL s.here 6) i)) hp ⟨a0, by omega, a2⟩
    refine XC.skip ?_
    refine XE.next ?_
    refine XC.keep [(0, _), (2, _), (9, _), (11, _), (12, _)] (Sub.cons rfl (Sub.cons rfl (Sub.cons rfl (Sub.cons rfl (Sub.cons rfl (Sub.nil _)))))) ?_
    refine XC.seq ?_
    refine XC.block ?_
    refine XC.seq ?_
    refine XC.openRow .here (by omega) ?_
    intro gA h4
    subst h4
    refine XC.region ?_
    refine XO.v (V.move rfl) rfl ?_
    refine XO.v (V.move rfl) rfl ?_
    refine XO.v (V.move rfl) rfl ?_
    refine XO.v (V.move rfl) rfl ?_
    refine XO.v (V.indexSl rfl rfl sl_85 (by omega)) rfl ?_
    refine XO.v (V.loadRow rfl (inXM .here) (ints_at (by omega)) sc_3) rfl ?_
    refine XO.call rfl (t_Pid _ _ _ _ _) (.cons (.there (.there .here)) .nil) cl_66 rfl ?_
    rintro _ _ ⟨rfl, rfl⟩
    refine XO.v (V.move rfl) rfl ?_
    refine XO.v (V.extract rfl rfl) rfl ?_
    refine XO.v (V.extract rfl rfl) rfl ?_
    refine XO.v (V.assign rfl) rfl ?_
    refine XO.v (V.assign rfl) rfl ?_
    refine XO.nil ?_
    refine XE.next ?_
    refine XC.keep [(0, _), (2, _), (9, _), (11, _), (12, _), (13, _), (14, _)] (Sub.cons rfl (Sub.cons rfl (Sub.cons rfl (Sub.cons rfl (Sub.cons rfl (Sub.cons rfl (Sub.cons rfl (Sub.nil _)))))))) ?_
    refine XC.seq ?_
    refine XC.seq ?_
    refine XC.regionQ mixed (f := 9) (l := #[false, false, false, false, false, false, false, false, false]) rfl rfl XM.drawn' ?_
    refine XQ.pv (i := 0) (l' := #[true, false, false, false, false, false, false, false, false]) rfl (by kernel_rfl) rfl (V.move rfl) rfl rfl ?_
    refine XQ.pv (i := 1) (l' := #[true, true, false, false, false, false, false, false, false]) rfl (by kernel_rfl) rfl (V.errNil rfl Try.underlying33 rfl) rfl rfl ?_
    refine XQ.pv (i := 2) (l' := #[true, true, true, false, false, false, false, false, false]) rfl (by kernel_rfl) rfl (V.move rfl) rfl rfl ?_
    refine XQ.pv (i := 3) (l' := #[true, true, true, true, false, false, false, false, false]) rfl (by kernel_rfl) rfl (V.move rfl) rfl rfl ?_
    refine XQ.pv (i := 4) (l' := #[true, true, true, true, true, false, false, false, false]) rfl (by kernel_rfl) rfl (V.indexSl rfl rfl sl_85 (by omega)) rfl rfl ?_
    refine XQ.load (i := 5) (l' := #[true, true, true, true, true, true, false, false, false]) (.row _ _ _ _ _) [] rfl (by kernel_rfl) rfl (.there .here) (V.loadRow rfl inEnt (ints_at (by omega)) sc_3) rfl (by kernel_rfl) rfl ?_
    refine XQ.pv (i := 6) (l' := #[true, true, true, true, true, true, true, false, false]) rfl (by kernel_rfl) rfl (V.indexArr rfl rfl ar_112 (by omega)) rfl rfl ?_
    refine XQ.load (i := 7) (l' := #[true, true, true, true, true, true, true, true, false]) (.cells _ _ _ _) [] rfl (by kernel_rfl) rfl (.there (.there .here)) (V.load rfl inEnt (encBl.ld _ _ _ (by omega)) sc_4) rfl (by kernel_rfl) rfl ?_
    refine XQ.pv (i := 8) (l' := #[true, true, true, true, true, true, true, true, true]) rfl (by kernel_rfl) rfl (V.boolEq rfl rfl Try.underlying4 rfl) rfl rfl ?_
    refine XQ.done (by kernel_rfl) ?_
    refine XE.next ?_
    refine XC.keep [(0, _), (2, _), (9, _), (11, _), (12, _), (13, _), (14, _), (59, _)] (Sub.cons rfl (Sub.cons rfl (Sub.cons rfl (Sub.cons rfl (Sub.cons rfl (Sub.cons rfl (Sub.cons rfl (Sub.cons rfl (Sub.nil _))))))))) ?_
    refine XC.condF rfl (by simp [k1]) ?_
    refine XC.skip ?_
    refine XE.next ?_
    refine XC.keep [(0, _), (2, _), (9, _), (11, _), (12, _), (13, _), (14, _)] (Sub.cons rfl (Sub.cons rfl (Sub.cons rfl (Sub.cons rfl (Sub.cons rfl (Sub.cons rfl (Sub.cons rfl (Sub.nil _)))))))) ?_
    refine XC.seq ?_
    refine XC.seq ?_
    refine XC.region ?_
    refine XO.v (V.move rfl) rfl ?_
    refine XO.v (V.errNil rfl Try.underlying33 rfl) rfl ?_
    refine XO.nil ?_
    refine XE.next ?_
    refine XC.keep [(0, _), (2, _), (9, _), (11, _), (12, _), (13, _), (61, _)] (Sub.cons rfl (Sub.cons rfl (Sub.cons rfl (Sub.cons rfl (Sub.cons rfl (Sub.cons rfl (Sub.cons rfl (Sub.nil _)))))))) ?_
    refine XC.condP rfl (fun h5 => ?_) (fun h5 => ?_)
    · skip
      refine XC.exit ?_
      refine XE.thenExit ?_
      refine XE.blockExit ?_
      refine XE.next ?_
      refine XC.keep [(0, _), (2, _), (9, _), (11, _), (12, _)] (Sub.cons rfl (Sub.cons rfl (Sub.cons rfl (Sub.cons rfl (Sub.cons rfl (Sub.nil _)))))) ?_
      refine XC.region ?_
      refine XO.v (V.move rfl) rfl ?_
      refine XO.v (V.add rfl rfl _ (IntWalk.i64_in _ (by omega))) rfl ?_
      refine XO.v (V.assign rfl) rfl ?_
      refine XO.nil ?_
      refine XE.again (i + 1) ?_ ?_ (Sub.cons rfl (Sub.cons rfl (Sub.cons rfl (Sub.cons rfl (Sub.cons rfl (Sub.nil _)))))) (fun _ hw => XM.pick (.cons (.there .here) (.cons (.there .here) (.cons .here .nil))) hw)
      · skip
        (first | omega | (simp; done) | (simp; omega))
      · skip
        (first | omega | (simp; done) | (simp; omega))
    · skip
      obtain ⟨k3, k4, k5⟩ := k2 (by omega)
      have k6 : (s.find (at0 (allL s.here 6) i) (s.pid p (at0 (allL s.here 6) i)).1).2 = 0 := by rw [k5]
      have k7 : (s.find (at0 (allL s.here 6) i) (s.pid p (at0 (allL s.here 6) i)).1).1 = p := by rw [k5]
      refine XC.skip ?_
      refine XE.next ?_
      refine XC.keep [(0, _), (2, _), (9, _), (11, _), (12, _), (13, _)] (Sub.cons rfl (Sub.cons rfl (Sub.cons rfl (Sub.cons rfl (Sub.cons rfl (Sub.cons rfl (Sub.nil _))))))) ?_
      refine XC.seq ?_
      refine XC.region ?_
      refine XO.v (V.move rfl) rfl ?_
      refine XO.v (V.move rfl) rfl ?_
      refine XO.v (V.move rfl) rfl ?_
      refine XO.v (V.indexSl rfl rfl sl_85 (by omega)) rfl ?_
      refine XO.v (V.loadRow rfl (inXM (.there .here)) (ints_at (by omega)) sc_3) rfl ?_
      refine XO.v (V.move rfl) rfl ?_
      refine XO.call rfl (t_Find _ _ _ _ _) (.cons .here .nil) cl_23 rfl ?_
      rintro _ _ ⟨rfl, rfl⟩
      refine XO.v (V.move rfl) rfl ?_
      refine XO.v (V.extract rfl rfl) rfl ?_
      refine XO.v (V.extract rfl rfl) rfl ?_
      refine XO.v (V.assign rfl) rfl ?_
      refine XO.v (V.assign rfl) rfl ?_
      refine XO.nil ?_
      refine XE.next ?_
      refine XC.keep [(0, _), (2, _), (9, _), (11, _), (12, _), (13, _), (15, _), (16, _)] (Sub.cons rfl (Sub.cons rfl (Sub.cons rfl (Sub.cons rfl (Sub.cons rfl (Sub.cons rfl (Sub.cons rfl (Sub.cons rfl (Sub.nil _))))))))) ?_
      refine XC.seq ?_
      refine XC.region ?_
      refine XO.v (V.move rfl) rfl ?_
      refine XO.v (V.errNil rfl Try.underlying33 rfl) rfl ?_
      refine XO.v (V.move rfl) rfl ?_
      refine XO.splitF (d := 74) rfl (by simp [k6]) ?_
      refine XO.guardRun rfl rfl rfl ?_
      refine XO.v (V.move rfl) rfl ?_
      refine XO.guardRun rfl rfl rfl ?_
      refine XO.v (V.move rfl) rfl ?_
      refine XO.guardRun rfl rfl rfl ?_
      refine XO.v (V.cmp rfl rfl rfl) rfl ?_
      refine XO.v (V.pick rfl rfl rfl rfl) rfl ?_
      refine XO.v (V.move rfl) rfl ?_
      refine XO.splitF (d := 79) rfl (by simp [k7]) ?_
      refine XO.guardRun rfl rfl rfl ?_
      refine XO.v (V.move rfl) rfl ?_
      refine XO.guardRun rfl rfl rfl ?_
      refine XO.v (V.cmp rfl rfl rfl) rfl ?_
      refine XO.v (V.pick rfl rfl rfl rfl) rfl ?_
      refine XO.v (V.move rfl) rfl ?_
      refine XO.splitF (d := 83) rfl (by omega) ?_
      refine XO.guardRun rfl rfl rfl ?_
      refine XO.v (V.move rfl) rfl ?_
      refine XO.guardRun rfl rfl rfl ?_
      refine XO.v (V.cmp rfl rfl rfl) rfl ?_
      refine XO.v (V.pick rfl rfl rfl rfl) rfl ?_
      refine XO.nil ?_
      refine XE.next ?_
      refine XC.keep [(0, _), (2, _), (9, _), (11, _), (12, _), (86, _)] (Sub.cons rfl (Sub.cons rfl (Sub.cons rfl (Sub.cons rfl (Sub.cons rfl (Sub.cons rfl (Sub.nil _))))))) ?_
      refine XC.condFP rfl (by omega) ?_
      refine XC.skip ?_
      refine XE.blockNormal ?_
      refine XE.next ?_
      refine XC.keep [(0, _), (2, _), (9, _), (11, _), (12, _)] (Sub.cons rfl (Sub.cons rfl (Sub.cons rfl (Sub.cons rfl (Sub.cons rfl (Sub.nil _)))))) ?_
      refine XC.region ?_
      refine XO.v (V.move rfl) rfl ?_
      refine XO.v (V.add rfl rfl _ (IntWalk.i64_in _ (by omega))) rfl ?_
      refine XO.v (V.assign rfl) rfl ?_
      refine XO.nil ?_
      refine XE.again (i + 1) ?_ ?_ (Sub.cons rfl (Sub.cons rfl (Sub.cons rfl (Sub.cons rfl (Sub.cons rfl (Sub.nil _)))))) (fun _ hw => XM.pick (.cons (.there .here) (.cons (.there .here) (.cons .here .nil))) hw)
      · skip
        (first | omega | (simp; done) | (simp; omega))
      · skip
        (first | omega | (simp; done) | (simp; omega))
  · skip
    refine XC.exit ?_
    refine XE.thenExit ?_
    refine XE.thenExit ?_
    refine XE.blockExit ?_
    refine XE.next ?_
    refine XC.keep [] (Sub.nil _) ?_
    refine XC.seq ?_
    refine XC.region ?_
    refine XO.v (V.assign rfl) rfl ?_
    refine XO.nil ?_
    refine XE.next ?_
    refine XC.keep [(6, _)] (Sub.cons rfl (Sub.nil _)) ?_
    refine XC.ret ?_
    refine XE.ret1 rfl rfl (post_of (.cons (.there (.there .here)) .nil) rfl ?_)
    exact ⟨rfl, rfl⟩
end Go.X
