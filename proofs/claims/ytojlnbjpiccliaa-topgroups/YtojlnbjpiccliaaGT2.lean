import Derived.Test.YtojlnbjpiccliaaGT1
namespace Go.X
open Go Go.Proofs
theorem ag_61 : aggT Try.prog 61 = true := by kernel_rfl
theorem ag_64 : aggT Try.prog 64 = true := by kernel_rfl
theorem cl_47 : callable Try.prog 47 = true := by kernel_rfl
theorem sz_60_2 : szOf Try.prog 60 = some 2 := by kernel_rfl
theorem sz_61_20 : szOf Try.prog 61 = some 20 := by kernel_rfl
theorem sz_64_50 : szOf Try.prog 64 = some 50 := by kernel_rfl
set_option maxRecDepth 10000 in
set_option maxHeartbeats 4000000 in
theorem top_some (bl ol len cap : Nat) (hlen : len ≤ cap) (A : Int → ActV) (hA : ∀ z : Int, 0 ≤ z → z < len → (A z).ok) : Spec Try.prog 6 [.slice (some ⟨bl, ol, none⟩) len cap]
    [.ro bl ol (8 * len) (encActs A)]
    (fun v H1 => v = .bool true ∧ H1 = []) := by
  refine Spec.intro Try.func6 rfl rfl ?_
  intro W
  refine XC.seq ?_
  refine XC.region ?_
  refine XO.v (V.assign rfl) rfl ?_
  refine XO.nil ?_
  refine XE.next ?_
  refine XC.keep [(0, _)] (Sub.cons rfl (Sub.nil _)) ?_
  refine XC.seq ?_
  refine XC.region ?_
  refine XO.call rfl (g_new) .nil cl_27 rfl ?_
  rintro _ _ ⟨bs, rfl, rfl⟩
  refine XO.v (V.assign rfl) rfl ?_
  refine XO.nil ?_
  refine XE.next ?_
  refine XC.keep [(0, _), (3, _)] (Sub.cons rfl (Sub.cons rfl (Sub.nil _))) ?_
  refine XC.seq ?_
  refine XC.seq ?_
  refine XC.region ?_
  refine XO.v (V.move rfl) rfl ?_
  refine XO.v (V.ptrNilP rfl Try.underlying48 rfl) rfl ?_
  refine XO.nil ?_
  refine XE.next ?_
  refine XC.keep [(0, _), (3, _), (15, _)] (Sub.cons rfl (Sub.cons rfl (Sub.cons rfl (Sub.nil _)))) ?_
  refine XC.condF rfl rfl ?_
  refine XC.skip ?_
  refine XE.next ?_
  refine XC.keep [(0, _), (3, _)] (Sub.cons rfl (Sub.cons rfl (Sub.nil _))) ?_
  refine XC.seq ?_
  refine XC.seq ?_
  refine XC.region ?_
  refine XO.v (V.move rfl) rfl ?_
  refine XO.call rfl (light_any _ _ _ _) .nil cl_10 rfl ?_
  rintro _ _ ⟨rfl, rfl⟩
  refine XO.v (V.notP rfl) rfl ?_
  refine XO.nil ?_
  refine XE.next ?_
  refine XC.keep [(0, _), (3, _), (18, _)] (Sub.cons rfl (Sub.cons rfl (Sub.cons rfl (Sub.nil _)))) ?_
  refine XC.condP rfl (fun h1 => ?_) (fun h1 => ?_)
  · skip
    refine XC.seq ?_
    refine XC.region ?_
    refine XO.v (V.assign rfl) rfl ?_
    refine XO.nil ?_
    refine XE.next ?_
    refine XC.keep [(2, _)] (Sub.cons rfl (Sub.nil _)) ?_
    refine XC.ret ?_
    refine XE.thenRet ?_
    refine XE.ret1 rfl rfl (post_of .nil rfl ?_)
    exact ⟨rfl, rfl⟩
  · skip
    refine XC.skip ?_
    refine XE.next ?_
    refine XC.keep [(0, _), (3, _)] (Sub.cons rfl (Sub.cons rfl (Sub.nil _))) ?_
    refine XC.seq ?_
    refine XC.region ?_
    refine XO.allocZ (z := .agg (arrO (fun _ => 0) (fun _ => 0))) (m := 20) (C := encO (fun _ => 0) (fun _ => 0)) (by kernel_rfl) (arrO_size _ _) (encO.box _ _) rfl ?_
    intro bo
    refine XO.nil ?_
    refine XE.next ?_
    refine XC.keep [(0, _), (3, _), (4, _)] (Sub.cons rfl (Sub.cons rfl (Sub.cons rfl (Sub.nil _)))) ?_
    refine XC.seq ?_
    refine XC.seq ?_
    refine XC.region ?_
    refine XO.v (V.assign rfl) rfl ?_
    refine XO.nil ?_
    refine XE.next ?_
    refine XC.keep [(0, _), (3, _), (4, _), (5, _)] (Sub.cons rfl (Sub.cons rfl (Sub.cons rfl (Sub.cons rfl (Sub.nil _))))) ?_
    refine XC.block ?_
    refine XC.loop (σ := TG × (Int → Int) × (Int → Int) × Int) (fun x => (len - x.2.2.2).toNat) (fun x => x.1.Inv ∧ x.1.Small (1000 * x.2.2.2) ∧ x.1.Own x.2.1 x.2.2.1 ∧ 0 ≤ x.2.2.2 ∧ x.2.2.2 ≤ len) (fun x => [(5, .int .i64 x.2.2.2), (0, .slice (some ⟨bl, ol, none⟩) len cap), (3, ptr bs 0 0), (4, ptr bo 0 0)]) (fun x => XM W (foot [.ro bl ol (8 * len) (encActs A)]) [.cells bs 0 60 (encGt x.1), .cells bo 0 20 (encO x.2.1 x.2.2.1), .ro bl ol (8 * len) (encActs A)]) ((TG.init, (fun _ => 0), (fun _ => 0), 0)) ?_ (Sub.cons rfl (Sub.cons rfl (Sub.cons rfl (Sub.cons rfl (Sub.nil _))))) (fun _ hw => XM.pick (.cons (.there .here) (.cons .here (.cons .here .nil))) hw) ?_
    · skip
      exact ⟨TG.Inv.init, TG.Small.init, TG.Own.init, by simp, by simp⟩
    intro x hx
    obtain ⟨hI, hS, hOw, hx0, hx1⟩ := hx
    have hO := hI.ok
    refine XC.seq ?_
    refine XC.seq ?_
    refine XC.region ?_
    refine XO.v (V.move rfl) rfl ?_
    refine XO.v (V.move rfl) rfl ?_
    refine XO.v (V.lenSl rfl Try.underlying22) rfl ?_
    refine XO.v (V.cmp rfl rfl rfl) rfl ?_
    refine XO.nil ?_
    refine XE.next ?_
    refine XC.keep [(0, _), (3, _), (4, _), (5, _), (22, _)] (Sub.cons rfl (Sub.cons rfl (Sub.cons rfl (Sub.cons rfl (Sub.cons rfl (Sub.nil _)))))) ?_
    refine XC.condP rfl (fun h2 => ?_) (fun h2 => ?_)
    · skip
      refine XC.skip ?_
      refine XE.next ?_
      refine XC.keep [(0, _), (3, _), (4, _), (5, _)] (Sub.cons rfl (Sub.cons rfl (Sub.cons rfl (Sub.cons rfl (Sub.nil _))))) ?_
      refine XC.seq ?_
      refine XC.block ?_
      refine XC.seq ?_
      refine XC.region ?_
      refine XO.v (V.move rfl) rfl ?_
      refine XO.v (V.move rfl) rfl ?_
      refine XO.v (V.indexSl rfl rfl sl_22 (by omega)) rfl ?_
      refine XO.v (V.loadAggRo rfl (inXM (.there (.there .here))) (acts_load A len _ (by omega)) ag_31 sz_31_8) rfl ?_
      refine XO.allocZ (z := .agg actZero) (m := 8) (C := cellsOf actZero) (by kernel_rfl) rfl (fun _ _ => rfl) rfl ?_
      intro ba
      refine XO.storeAgg rfl rfl .here (acts_store _) ⟨rfl, rfl⟩ sz_31_8 ?_
      refine XO.nil ?_
      refine XE.next ?_
      refine XC.keep [(0, _), (3, _), (4, _), (5, _), (6, _)] (Sub.cons rfl (Sub.cons rfl (Sub.cons rfl (Sub.cons rfl (Sub.cons rfl (Sub.nil _)))))) ?_
      refine XC.seq ?_
      refine XC.region ?_
      refine XO.allocZ (z := .agg (arrW (fun _ => GV.zero))) (m := 50) (C := encW (fun _ => GV.zero)) (by kernel_rfl) (arrW_size _) (encW.box _) rfl ?_
      intro bw
      refine XO.nil ?_
      refine XE.next ?_
      refine XC.keep [(0, _), (3, _), (4, _), (5, _), (6, _), (7, _)] (Sub.cons rfl (Sub.cons rfl (Sub.cons rfl (Sub.cons rfl (Sub.cons rfl (Sub.cons rfl (Sub.nil _))))))) ?_
      refine XC.seq ?_
      refine XC.seq ?_
      refine XC.region ?_
      refine XO.v (V.assign rfl) rfl ?_
      refine XO.nil ?_
      refine XE.next ?_
      refine XC.keep [(0, _), (3, _), (4, _), (5, _), (6, _), (7, _), (8, _)] (Sub.cons rfl (Sub.cons rfl (Sub.cons rfl (Sub.cons rfl (Sub.cons rfl (Sub.cons rfl (Sub.cons rfl (Sub.nil _)))))))) ?_
      refine XC.block ?_
      refine XC.loop (σ := Int) (fun k => (10 - k).toNat) (fun k => 0 ≤ k ∧ k ≤ 10) (fun k => [(8, .int .i64 k), (0, .slice (some ⟨bl, ol, none⟩) len cap), (3, ptr bs 0 0), (4, ptr bo 0 0), (5, .int .i64 x.2.2.2), (6, ptr ba 0 0), (7, ptr bw 0 0)]) (fun k => XM W (foot [.ro bl ol (8 * len) (encActs A)]) [.cells bw 0 50 (encW (wasK x.1 k)), .cells ba 0 8 (encAct (A x.2.2.2)), .cells bs 0 60 (encGt x.1), .cells bo 0 20 (encO x.2.1 x.2.2.1), .ro bl ol (8 * len) (encActs A)]) (0) ?_ (Sub.cons rfl (Sub.cons rfl (Sub.cons rfl (Sub.cons rfl (Sub.cons rfl (Sub.cons rfl (Sub.cons rfl (Sub.nil _)))))))) (fun _ hw => by rw [wasK_zero]; exact XM.pick (.cons .here (.cons .here (.cons .here (.cons .here (.cons .here .nil))))) hw) ?_
      · skip
        omega
      intro k hk
      refine XC.seq ?_
      refine XC.seq ?_
      refine XC.region ?_
      refine XO.v (V.move rfl) rfl ?_
      refine XO.v (V.cmp rfl rfl rfl) rfl ?_
      refine XO.nil ?_
      refine XE.next ?_
      refine XC.keep [(0, _), (3, _), (4, _), (5, _), (6, _), (7, _), (8, _), (30, _)] (Sub.cons rfl (Sub.cons rfl (Sub.cons rfl (Sub.cons rfl (Sub.cons rfl (Sub.cons rfl (Sub.cons rfl (Sub.cons rfl (Sub.nil _))))))))) ?_
      refine XC.condP rfl (fun h3 => ?_) (fun h3 => ?_)
      · skip
        refine XC.skip ?_
        refine XE.next ?_
        refine XC.keep [(0, _), (3, _), (4, _), (5, _), (6, _), (7, _), (8, _)] (Sub.cons rfl (Sub.cons rfl (Sub.cons rfl (Sub.cons rfl (Sub.cons rfl (Sub.cons rfl (Sub.cons rfl (Sub.nil _)))))))) ?_
        refine XC.seq ?_
        refine XC.block ?_
        refine XC.region ?_
        refine XO.v (V.move rfl) rfl ?_
        refine XO.v (V.move rfl) rfl ?_
        refine XO.v (V.move rfl) rfl ?_
        refine XO.call rfl (g_of _ _ _ _) (.cons (.there (.there .here)) .nil) cl_46 rfl ?_
        rintro _ _ ⟨rfl, rfl⟩
        refine XO.v (V.move rfl) rfl ?_
        refine XO.v (V.extract rfl rfl) rfl ?_
        refine XO.v (V.extract rfl rfl) rfl ?_
        refine XO.v (V.indexArr rfl rfl ar_64 (by omega)) rfl ?_
        refine XO.storeAgg rfl rfl (.there .here) (encW.st _ _ (by omega) _) ⟨rfl, rfl⟩ sz_63_5 ?_
        refine XO.nil ?_
        refine XE.blockNormal ?_
        refine XE.next ?_
        refine XC.keep [(0, _), (3, _), (4, _), (5, _), (6, _), (7, _), (8, _)] (Sub.cons rfl (Sub.cons rfl (Sub.cons rfl (Sub.cons rfl (Sub.cons rfl (Sub.cons rfl (Sub.cons rfl (Sub.nil _)))))))) ?_
        refine XC.region ?_
        refine XO.v (V.move rfl) rfl ?_
        refine XO.v (V.add rfl rfl _ (IntWalk.i64_in _ (by omega))) rfl ?_
        refine XO.v (V.assign rfl) rfl ?_
        refine XO.nil ?_
        refine XE.again (k + 1) ?_ ?_ (Sub.cons rfl (Sub.cons rfl (Sub.cons rfl (Sub.cons rfl (Sub.cons rfl (Sub.cons rfl (Sub.cons rfl (Sub.nil _)))))))) (fun _ hw => by rw [← wasK_next x.1 hk.1]; exact XM.pick (.cons (.there .here) (.cons (.there .here) (.cons .here (.cons .here (.cons .here .nil))))) hw)
        · skip
          (first | omega | (simp; done) | (simp; omega))
        · skip
          (first | omega | (simp; done) | (simp; omega))
      · skip
        obtain rfl : k = 10 := by omega
        refine XC.exit ?_
        refine XE.thenExit ?_
        refine XE.thenExit ?_
        refine XE.blockExit ?_
        refine XE.next ?_
        refine XC.keep [(0, _), (3, _), (4, _), (5, _), (6, _), (7, _)] (Sub.cons rfl (Sub.cons rfl (Sub.cons rfl (Sub.cons rfl (Sub.cons rfl (Sub.cons rfl (Sub.nil _))))))) ?_
        refine XC.cutG (σ := TG × (Int → Int) × (Int → Int)) (fun y => y.1.Inv ∧ y.1.Small (1000 * x.2.2.2 + 1000) ∧ y.1.Own y.2.1 y.2.2 ∧ x.1.Lim y.1) (fun y => [(0, .slice (some ⟨bl, ol, none⟩) len cap), (3, ptr bs 0 0), (4, ptr bo 0 0), (5, .int .i64 x.2.2.2), (7, ptr bw 0 0)]) (fun y => XM W (foot [.ro bl ol (8 * len) (encActs A)]) [.cells bs 0 60 (encGt y.1), .cells bo 0 20 (encO y.2.1 y.2.2), .cells bw 0 50 (encW (wasK x.1 10)), .ro bl ol (8 * len) (encActs A)]) ?_ ?_
        · skip
          refine XC.seq ?_
          refine XC.region ?_
          refine XO.v (V.fieldAddr rfl fo_31_0) rfl ?_
          refine XO.v (V.load rfl (inXM (.there .here)) (encAct.ld_Kind _) sc_9) rfl ?_
          refine XO.nil ?_
          refine XE.next ?_
          refine XC.keep [(0, _), (3, _), (4, _), (5, _), (6, _), (7, _), (42, _)] (Sub.cons rfl (Sub.cons rfl (Sub.cons rfl (Sub.cons rfl (Sub.cons rfl (Sub.cons rfl (Sub.cons rfl (Sub.nil _)))))))) ?_
          refine XC.block ?_
          refine XC.seq ?_
          refine XC.region ?_
          refine XO.v (V.strCmp rfl rfl rfl) rfl ?_
          refine XO.v (V.assign rfl) rfl ?_
          refine XO.nil ?_
          refine XE.next ?_
          refine XC.keep [(0, _), (3, _), (4, _), (5, _), (6, _), (7, _), (42, _), (100, _)] (Sub.cons rfl (Sub.cons rfl (Sub.cons rfl (Sub.cons rfl (Sub.cons rfl (Sub.cons rfl (Sub.cons rfl (Sub.cons rfl (Sub.nil _))))))))) ?_
          refine XC.condP rfl (fun h4 => ?_) (fun h4 => ?_)
          · skip
            refine XC.seq ?_
            refine XC.region ?_
            refine XO.v (V.move rfl) rfl ?_
            refine XO.v (V.fieldAddr rfl fo_31_1) rfl ?_
            refine XO.v (V.load rfl (inXM (.there .here)) (encAct.ld_A _) sc_3) rfl ?_
            refine XO.call rfl (g_Add _ _ _ hO _) (.cons (.there (.there .here)) .nil) cl_29 rfl ?_
            rintro _ _ ⟨rfl, rfl⟩
            refine XO.v (V.move rfl) rfl ?_
            refine XO.v (V.extract rfl rfl) rfl ?_
            refine XO.v (V.extract rfl rfl) rfl ?_
            refine XO.v (V.assign rfl) rfl ?_
            refine XO.v (V.assign rfl) rfl ?_
            refine XO.nil ?_
            refine XE.next ?_
            refine XC.keep [(0, _), (3, _), (4, _), (5, _), (7, _), (9, _), (10, _)] (Sub.cons rfl (Sub.cons rfl (Sub.cons rfl (Sub.cons rfl (Sub.cons rfl (Sub.cons rfl (Sub.cons rfl (Sub.nil _)))))))) ?_
            refine XC.seq ?_
            refine XC.region ?_
            refine XO.v (V.move rfl) rfl ?_
            refine XO.v (V.errNil rfl Try.underlying33 rfl) rfl ?_
            refine XO.nil ?_
            refine XE.next ?_
            refine XC.keep [(0, _), (3, _), (4, _), (5, _), (7, _), (9, _), (110, _)] (Sub.cons rfl (Sub.cons rfl (Sub.cons rfl (Sub.cons rfl (Sub.cons rfl (Sub.cons rfl (Sub.cons rfl (Sub.nil _)))))))) ?_
            refine XC.condP rfl (fun h5 => ?_) (fun h5 => ?_)
            · skip
              obtain ⟨_, _, n0, n1, _, _⟩ := TG.addE_0 (s := x.1) (a := (A x.2.2.2).a) h5
              refine XC.region ?_
              refine XO.v (V.move rfl) rfl ?_
              refine XO.v (V.build (vs := #[]) rfl (v := .agg #[.int .i64 0, .int .i64 0]) (fun _ => by kernel_rfl)) rfl ?_
              refine XO.v (V.indexArr rfl rfl ar_61 (by omega)) rfl ?_
              refine XO.storeAgg rfl rfl (.there (.there (.there .here))) (encO.clr _ _ _ (by omega)) ⟨rfl, rfl⟩ sz_60_2 ?_
              refine XO.nil ?_
              refine XE.blockNormal ?_
              refine XE.meetG ((x.1.add (A x.2.2.2).a, fset x.2.1 (x.1.addN (A x.2.2.2).a) 0, fset x.2.2.1 (x.1.addN (A x.2.2.2).a) 0)) ?_ (Sub.cons rfl (Sub.cons rfl (Sub.cons rfl (Sub.cons rfl (Sub.cons rfl (Sub.nil _)))))) (fun _ hw => XM.pick (.cons .here (.cons (.there (.there .here)) (.cons .here (.cons (.there .here) .nil)))) hw)
              · exact ⟨hI.add _, (hS.add (by omega) _).mono (by omega), hOw.add hO (by assumption), TG.Lim.add _ _⟩
            · skip
              refine XC.skip ?_
              refine XE.blockNormal ?_
              refine XE.meetG ((x.1.add (A x.2.2.2).a, x.2.1, x.2.2.1)) ?_ (Sub.cons rfl (Sub.cons rfl (Sub.cons rfl (Sub.cons rfl (Sub.cons rfl (Sub.nil _)))))) (fun _ hw => XM.pick (.cons .here (.cons (.there (.there .here)) (.cons .here (.cons (.there .here) .nil)))) hw)
              · exact ⟨hI.add _, (hS.add (by omega) _).mono (by omega), hOw.add_no (by assumption), TG.Lim.add _ _⟩
          · skip
            refine XC.seq ?_
            refine XC.region ?_
            refine XO.v (V.strCmp rfl rfl rfl) rfl ?_
            refine XO.v (V.assign rfl) rfl ?_
            refine XO.nil ?_
            refine XE.next ?_
            refine XC.keep [(0, _), (3, _), (4, _), (5, _), (6, _), (7, _), (42, _), (114, _)] (Sub.cons rfl (Sub.cons rfl (Sub.cons rfl (Sub.cons rfl (Sub.cons rfl (Sub.cons rfl (Sub.cons rfl (Sub.cons rfl (Sub.nil _))))))))) ?_
            refine XC.condP rfl (fun h6 => ?_) (fun h6 => ?_)
            · skip
              refine XC.region ?_
              refine XO.v (V.move rfl) rfl ?_
              refine XO.v (V.fieldAddr rfl fo_31_1) rfl ?_
              refine XO.v (V.load rfl (inXM (.there .here)) (encAct.ld_A _) sc_3) rfl ?_
              refine XO.call rfl (g_Remove _ _ _ _) (.cons (.there (.there .here)) .nil) cl_31 rfl ?_
              rintro _ _ ⟨rfl, rfl⟩
              refine XO.nil ?_
              refine XE.blockNormal ?_
              refine XE.meetG ((x.1.remove (A x.2.2.2).a, x.2.1, x.2.2.1)) ?_ (Sub.cons rfl (Sub.cons rfl (Sub.cons rfl (Sub.cons rfl (Sub.cons rfl (Sub.nil _)))))) (fun _ hw => XM.pick (.cons .here (.cons (.there (.there .here)) (.cons .here (.cons (.there .here) .nil)))) hw)
              · exact ⟨hI.remove _, (hS.remove (by omega) _).mono (by omega), hOw.remove hI _, TG.Lim.remove _ _⟩
            · skip
              refine XC.seq ?_
              refine XC.region ?_
              refine XO.v (V.strCmp rfl rfl rfl) rfl ?_
              refine XO.v (V.assign rfl) rfl ?_
              refine XO.nil ?_
              refine XE.next ?_
              refine XC.keep [(0, _), (3, _), (4, _), (5, _), (6, _), (7, _), (42, _), (120, _)] (Sub.cons rfl (Sub.cons rfl (Sub.cons rfl (Sub.cons rfl (Sub.cons rfl (Sub.cons rfl (Sub.cons rfl (Sub.cons rfl (Sub.nil _))))))))) ?_
              refine XC.condP rfl (fun h7 => ?_) (fun h7 => ?_)
              · skip
                refine XC.seq ?_
                refine XC.region ?_
                refine XO.v (V.move rfl) rfl ?_
                refine XO.v (V.fieldAddr rfl fo_31_1) rfl ?_
                refine XO.v (V.load rfl (inXM (.there .here)) (encAct.ld_A _) sc_3) rfl ?_
                refine XO.v (V.fieldAddr rfl fo_31_2) rfl ?_
                refine XO.v (V.load rfl (inXM (.there .here)) (encAct.ld_B _) sc_3) rfl ?_
                refine XO.v (V.fieldAddr rfl fo_31_3) rfl ?_
                refine XO.v (V.load rfl (inXM (.there .here)) (encAct.ld_C _) sc_3) rfl ?_
                refine XO.call rfl (g_limit _ _ _ _ _ _) (.cons (.there (.there .here)) .nil) cl_33 rfl ?_
                rintro _ _ ⟨rfl, rfl⟩
                refine XO.nil ?_
                refine XE.next ?_
                refine XC.keep [(0, _), (3, _), (4, _), (5, _)] (Sub.cons rfl (Sub.cons rfl (Sub.cons rfl (Sub.cons rfl (Sub.nil _))))) ?_
                refine XC.exit ?_
                refine XE.blockOther rfl ?_
                refine XE.thenExit ?_
                refine XE.blockExit ?_
                refine XE.next ?_
                refine XC.keep [(0, _), (3, _), (4, _), (5, _)] (Sub.cons rfl (Sub.cons rfl (Sub.cons rfl (Sub.cons rfl (Sub.nil _))))) ?_
                refine XC.region ?_
                refine XO.v (V.move rfl) rfl ?_
                refine XO.v (V.add rfl rfl _ (IntWalk.i64_in _ (by omega))) rfl ?_
                refine XO.v (V.assign rfl) rfl ?_
                refine XO.nil ?_
                refine XE.again ((x.1.limit (A x.2.2.2).a (A x.2.2.2).b (A x.2.2.2).c, x.2.1, x.2.2.1, x.2.2.2 + 1)) ?_ ?_ (Sub.cons rfl (Sub.cons rfl (Sub.cons rfl (Sub.cons rfl (Sub.nil _))))) (fun _ hw => XM.pick (.cons .here (.cons (.there (.there .here)) (.cons (.there (.there .here)) .nil))) hw)
                · skip
                  (simp; omega)
                · skip
                  exact ⟨hI.limit _ _ _, (hS.limit _ _ _).mono (by simp; omega), hOw.limit _ _ _, by simp; omega, by simp; omega⟩
              · skip
                refine XC.seq ?_
                refine XC.region ?_
                refine XO.v (V.strCmp rfl rfl rfl) rfl ?_
                refine XO.v (V.assign rfl) rfl ?_
                refine XO.nil ?_
                refine XE.next ?_
                refine XC.keep [(0, _), (3, _), (4, _), (5, _), (6, _), (7, _), (42, _), (130, _)] (Sub.cons rfl (Sub.cons rfl (Sub.cons rfl (Sub.cons rfl (Sub.cons rfl (Sub.cons rfl (Sub.cons rfl (Sub.cons rfl (Sub.nil _))))))))) ?_
                refine XC.condP rfl (fun h8 => ?_) (fun h8 => ?_)
                · skip
                  refine XC.seq ?_
                  refine XC.region ?_
                  refine XO.v (V.move rfl) rfl ?_
                  refine XO.v (V.fieldAddr rfl fo_31_1) rfl ?_
                  refine XO.v (V.load rfl (inXM (.there .here)) (encAct.ld_A _) sc_3) rfl ?_
                  refine XO.v (V.fieldAddr rfl fo_31_2) rfl ?_
                  refine XO.v (V.load rfl (inXM (.there .here)) (encAct.ld_B _) sc_3) rfl ?_
                  refine XO.v (V.fieldAddr rfl fo_31_3) rfl ?_
                  refine XO.v (V.load rfl (inXM (.there .here)) (encAct.ld_C _) sc_3) rfl ?_
                  refine XO.call rfl (g_charge _ _ _ hO _ _ _ (1000 * x.2.2.2) (by omega) hS) (.cons (.there (.there .here)) .nil) cl_35 rfl ?_
                  rintro _ _ ⟨rfl, rfl⟩
                  refine XO.v (V.errNil rfl Try.underlying33 rfl) rfl ?_
                  refine XO.nil ?_
                  refine XE.next ?_
                  refine XC.keep [(0, _), (3, _), (4, _), (5, _), (6, _), (7, _), (140, _)] (Sub.cons rfl (Sub.cons rfl (Sub.cons rfl (Sub.cons rfl (Sub.cons rfl (Sub.cons rfl (Sub.cons rfl (Sub.nil _)))))))) ?_
                  refine XC.condP rfl (fun h9 => ?_) (fun h9 => ?_)
                  · skip
                    obtain ⟨⟨n0, n1, n2⟩, p0, p1, m0, m1⟩ := TG.chargeE_0 (s := x.1) h9
                    obtain ⟨hf1, hf2⟩ := hOw _ n0 n1 n2
                    have hls := TG.left_small hS (by omega) n0 n1
                    refine XC.seq ?_
                    refine XC.regionQ mixed (f := 13) (l := #[false, false, false, false, false, false, false, false, false, false, false, false, false]) rfl rfl XM.drawn' ?_
                    refine XQ.pv (i := 0) (l' := #[true, false, false, false, false, false, false, false, false, false, false, false, false]) rfl (by kernel_rfl) rfl (V.fieldAddr rfl fo_31_1) rfl rfl ?_
                    refine XQ.load (i := 1) (l' := #[true, true, false, false, false, false, false, false, false, false, false, false, false]) (.cells _ _ _ _) [12] rfl (by kernel_rfl) rfl (.there (.there .here)) (V.load rfl inEnt (encAct.ld_A _) sc_3) rfl (by kernel_rfl) rfl ?_
                    refine XQ.pv (i := 2) (l' := #[true, true, true, false, false, false, false, false, false, false, false, false, false]) rfl (by kernel_rfl) rfl (V.fieldAddr rfl fo_31_1) rfl rfl ?_
                    refine XQ.load (i := 3) (l' := #[true, true, true, true, false, false, false, false, false, false, false, false, false]) (.cells _ _ _ _) [12] rfl (by kernel_rfl) rfl (.there (.there .here)) (V.load rfl inEnt (encAct.ld_A _) sc_3) rfl (by kernel_rfl) rfl ?_
                    refine XQ.pv (i := 4) (l' := #[true, true, true, true, true, false, false, false, false, false, false, false, false]) rfl (by kernel_rfl) rfl (V.indexArr rfl rfl ar_61 (by omega)) rfl rfl ?_
                    refine XQ.pv (i := 5) (l' := #[true, true, true, true, true, true, false, false, false, false, false, false, false]) rfl (by kernel_rfl) rfl (V.indexArr rfl rfl ar_60 (by omega)) rfl rfl ?_
                    refine XQ.load (i := 6) (l' := #[true, true, true, true, true, true, true, false, false, false, false, false, false]) (.cells _ _ _ _) [12] rfl (by kernel_rfl) rfl (.there (.there (.there .here))) (V.load rfl inEnt (encO.ld0 _ _ _ (by omega)) sc_3) rfl (by kernel_rfl) rfl ?_
                    refine XQ.pv (i := 7) (l' := #[true, true, true, true, true, true, true, true, false, false, false, false, false]) rfl (by kernel_rfl) rfl (V.fieldAddr rfl fo_31_2) rfl rfl ?_
                    refine XQ.load (i := 8) (l' := #[true, true, true, true, true, true, true, true, true, false, false, false, false]) (.cells _ _ _ _) [12] rfl (by kernel_rfl) rfl (.there (.there .here)) (V.load rfl inEnt (encAct.ld_B _) sc_3) rfl (by kernel_rfl) rfl ?_
                    refine XQ.pv (i := 9) (l' := #[true, true, true, true, true, true, true, true, true, true, false, false, false]) rfl (by kernel_rfl) rfl (V.add rfl rfl _ (IntWalk.i64_in _ (by omega))) rfl rfl ?_
                    refine XQ.pv (i := 10) (l' := #[true, true, true, true, true, true, true, true, true, true, true, false, false]) rfl (by kernel_rfl) rfl (V.indexArr rfl rfl ar_61 (by omega)) rfl rfl ?_
                    refine XQ.pv (i := 11) (l' := #[true, true, true, true, true, true, true, true, true, true, true, true, false]) rfl (by kernel_rfl) rfl (V.indexArr rfl rfl ar_60 (by omega)) rfl rfl ?_
                    refine XQ.store (i := 12) (l' := #[true, true, true, true, true, true, true, true, true, true, true, true, true]) rfl (by kernel_rfl) rfl rfl rfl (.there (.there (.there .here))) (encO.st0 _ _ _ _ (by omega)) rfl sz_3_1 (fun _ hw' => ⟨fun hs => (hs 12 (by simp) rfl).elim, fun hs => (hs 12 (by simp) rfl).elim, fun hs => (hs 12 (by simp) rfl).elim, fun hs => (hs 12 (by simp) rfl).elim, trivial⟩) ?_
                    refine XQ.done (by kernel_rfl) ?_
                    refine XE.next ?_
                    refine XC.keep [(0, _), (3, _), (4, _), (5, _), (6, _), (7, _)] (Sub.cons rfl (Sub.cons rfl (Sub.cons rfl (Sub.cons rfl (Sub.cons rfl (Sub.cons rfl (Sub.nil _))))))) ?_
                    refine XC.regionQ mixed (f := 13) (l := #[false, false, false, false, false, false, false, false, false, false, false, false, false]) rfl rfl XM.drawn' ?_
                    refine XQ.pv (i := 0) (l' := #[true, false, false, false, false, false, false, false, false, false, false, false, false]) rfl (by kernel_rfl) rfl (V.fieldAddr rfl fo_31_1) rfl rfl ?_
                    refine XQ.load (i := 1) (l' := #[true, true, false, false, false, false, false, false, false, false, false, false, false]) (.cells _ _ _ _) [12] rfl (by kernel_rfl) rfl (.there (.there .here)) (V.load rfl inEnt (encAct.ld_A _) sc_3) rfl (by kernel_rfl) rfl ?_
                    refine XQ.pv (i := 2) (l' := #[true, true, true, false, false, false, false, false, false, false, false, false, false]) rfl (by kernel_rfl) rfl (V.fieldAddr rfl fo_31_1) rfl rfl ?_
                    refine XQ.load (i := 3) (l' := #[true, true, true, true, false, false, false, false, false, false, false, false, false]) (.cells _ _ _ _) [12] rfl (by kernel_rfl) rfl (.there (.there .here)) (V.load rfl inEnt (encAct.ld_A _) sc_3) rfl (by kernel_rfl) rfl ?_
                    refine XQ.pv (i := 4) (l' := #[true, true, true, true, true, false, false, false, false, false, false, false, false]) rfl (by kernel_rfl) rfl (V.indexArr rfl rfl ar_61 (by omega)) rfl rfl ?_
                    refine XQ.pv (i := 5) (l' := #[true, true, true, true, true, true, false, false, false, false, false, false, false]) rfl (by kernel_rfl) rfl (V.indexArr rfl rfl ar_60 (by omega)) rfl rfl ?_
                    refine XQ.load (i := 6) (l' := #[true, true, true, true, true, true, true, false, false, false, false, false, false]) (.cells _ _ _ _) [12] rfl (by kernel_rfl) rfl (.there (.there (.there .here))) (V.load rfl inEnt (encO.ld1 _ _ _ (by omega)) sc_3) rfl (by kernel_rfl) rfl ?_
                    refine XQ.pv (i := 7) (l' := #[true, true, true, true, true, true, true, true, false, false, false, false, false]) rfl (by kernel_rfl) rfl (V.fieldAddr rfl fo_31_3) rfl rfl ?_
                    refine XQ.load (i := 8) (l' := #[true, true, true, true, true, true, true, true, true, false, false, false, false]) (.cells _ _ _ _) [12] rfl (by kernel_rfl) rfl (.there (.there .here)) (V.load rfl inEnt (encAct.ld_C _) sc_3) rfl (by kernel_rfl) rfl ?_
                    refine XQ.pv (i := 9) (l' := #[true, true, true, true, true, true, true, true, true, true, false, false, false]) rfl (by kernel_rfl) rfl (V.add rfl rfl _ (IntWalk.i64_in _ (by omega))) rfl rfl ?_
                    refine XQ.pv (i := 10) (l' := #[true, true, true, true, true, true, true, true, true, true, true, false, false]) rfl (by kernel_rfl) rfl (V.indexArr rfl rfl ar_61 (by omega)) rfl rfl ?_
                    refine XQ.pv (i := 11) (l' := #[true, true, true, true, true, true, true, true, true, true, true, true, false]) rfl (by kernel_rfl) rfl (V.indexArr rfl rfl ar_60 (by omega)) rfl rfl ?_
                    refine XQ.store (i := 12) (l' := #[true, true, true, true, true, true, true, true, true, true, true, true, true]) rfl (by kernel_rfl) rfl rfl rfl (.there (.there (.there .here))) (encO.st1 _ _ _ _ (by omega)) rfl sz_3_1 (fun _ hw' => ⟨fun hs => (hs 12 (by simp) rfl).elim, fun hs => (hs 12 (by simp) rfl).elim, fun hs => (hs 12 (by simp) rfl).elim, fun hs => (hs 12 (by simp) rfl).elim, trivial⟩) ?_
                    refine XQ.done (by kernel_rfl) ?_
                    refine XE.blockNormal ?_
                    refine XE.meetG ((x.1.charge (A x.2.2.2).a (A x.2.2.2).b (A x.2.2.2).c, fset x.2.1 (A x.2.2.2).a (x.2.1 (A x.2.2.2).a + (A x.2.2.2).b), fset x.2.2.1 (A x.2.2.2).a (x.2.2.1 (A x.2.2.2).a + (A x.2.2.2).c))) ?_ (Sub.cons rfl (Sub.cons rfl (Sub.cons rfl (Sub.cons rfl (Sub.cons rfl (Sub.nil _)))))) (fun _ hw => XM.pick (.cons .here (.cons (.there (.there .here)) (.cons .here (.cons (.there .here) .nil)))) hw)
                    · exact ⟨hI.charge _ _ _, (hS.charge hO _ _ _).mono (by omega), hOw.charge hO (by assumption), TG.Lim.charge hO _ _ _⟩
                  · skip
                    refine XC.skip ?_
                    refine XE.blockNormal ?_
                    refine XE.meetG ((x.1.charge (A x.2.2.2).a (A x.2.2.2).b (A x.2.2.2).c, x.2.1, x.2.2.1)) ?_ (Sub.cons rfl (Sub.cons rfl (Sub.cons rfl (Sub.cons rfl (Sub.cons rfl (Sub.nil _)))))) (fun _ hw => XM.pick (.cons .here (.cons (.there (.there .here)) (.cons .here (.cons (.there .here) .nil)))) hw)
                    · exact ⟨hI.charge _ _ _, (hS.charge hO _ _ _).mono (by omega), hOw.same (by unfold TG.charge; rw [if_neg (by assumption)]), TG.Lim.charge hO _ _ _⟩
                · skip
                  refine XC.seq ?_
                  refine XC.region ?_
                  refine XO.v (V.strCmp rfl rfl rfl) rfl ?_
                  refine XO.v (V.assign rfl) rfl ?_
                  refine XO.nil ?_
                  refine XE.next ?_
                  refine XC.keep [(0, _), (3, _), (4, _), (5, _), (6, _), (7, _), (165, _)] (Sub.cons rfl (Sub.cons rfl (Sub.cons rfl (Sub.cons rfl (Sub.cons rfl (Sub.cons rfl (Sub.cons rfl (Sub.nil _)))))))) ?_
                  refine XC.condP rfl (fun h10 => ?_) (fun h10 => ?_)
                  · skip
                    refine XC.seq ?_
                    refine XC.region ?_
                    refine XO.v (V.move rfl) rfl ?_
                    refine XO.v (V.fieldAddr rfl fo_31_1) rfl ?_
                    refine XO.v (V.load rfl (inXM (.there .here)) (encAct.ld_A _) sc_3) rfl ?_
                    refine XO.v (V.fieldAddr rfl fo_31_2) rfl ?_
                    refine XO.v (V.load rfl (inXM (.there .here)) (encAct.ld_B _) sc_3) rfl ?_
                    refine XO.v (V.fieldAddr rfl fo_31_3) rfl ?_
                    refine XO.v (V.load rfl (inXM (.there .here)) (encAct.ld_C _) sc_3) rfl ?_
                    refine XO.call rfl (g_uncharge _ _ _ hO _ _ _ (1000 * x.2.2.2) (by omega) hS) (.cons (.there (.there .here)) .nil) cl_37 rfl ?_
                    rintro _ _ ⟨rfl, rfl⟩
                    refine XO.v (V.errNil rfl Try.underlying33 rfl) rfl ?_
                    refine XO.nil ?_
                    refine XE.next ?_
                    refine XC.keep [(0, _), (3, _), (4, _), (5, _), (6, _), (7, _), (175, _)] (Sub.cons rfl (Sub.cons rfl (Sub.cons rfl (Sub.cons rfl (Sub.cons rfl (Sub.cons rfl (Sub.cons rfl (Sub.nil _)))))))) ?_
                    refine XC.condP rfl (fun h11 => ?_) (fun h11 => ?_)
                    · skip
                      obtain ⟨⟨n0, n1, n2⟩, p0, p1, m0, m1⟩ := TG.unchE_0 (s := x.1) h11
                      obtain ⟨hf1, hf2⟩ := hOw _ n0 n1 n2
                      have hls := TG.left_small hS (by omega) n0 n1
                      refine XC.seq ?_
                      refine XC.regionQ mixed (f := 13) (l := #[false, false, false, false, false, false, false, false, false, false, false, false, false]) rfl rfl XM.drawn' ?_
                      refine XQ.pv (i := 0) (l' := #[true, false, false, false, false, false, false, false, false, false, false, false, false]) rfl (by kernel_rfl) rfl (V.fieldAddr rfl fo_31_1) rfl rfl ?_
                      refine XQ.load (i := 1) (l' := #[true, true, false, false, false, false, false, false, false, false, false, false, false]) (.cells _ _ _ _) [12] rfl (by kernel_rfl) rfl (.there (.there .here)) (V.load rfl inEnt (encAct.ld_A _) sc_3) rfl (by kernel_rfl) rfl ?_
                      refine XQ.pv (i := 2) (l' := #[true, true, true, false, false, false, false, false, false, false, false, false, false]) rfl (by kernel_rfl) rfl (V.fieldAddr rfl fo_31_1) rfl rfl ?_
                      refine XQ.load (i := 3) (l' := #[true, true, true, true, false, false, false, false, false, false, false, false, false]) (.cells _ _ _ _) [12] rfl (by kernel_rfl) rfl (.there (.there .here)) (V.load rfl inEnt (encAct.ld_A _) sc_3) rfl (by kernel_rfl) rfl ?_
                      refine XQ.pv (i := 4) (l' := #[true, true, true, true, true, false, false, false, false, false, false, false, false]) rfl (by kernel_rfl) rfl (V.indexArr rfl rfl ar_61 (by omega)) rfl rfl ?_
                      refine XQ.pv (i := 5) (l' := #[true, true, true, true, true, true, false, false, false, false, false, false, false]) rfl (by kernel_rfl) rfl (V.indexArr rfl rfl ar_60 (by omega)) rfl rfl ?_
                      refine XQ.load (i := 6) (l' := #[true, true, true, true, true, true, true, false, false, false, false, false, false]) (.cells _ _ _ _) [12] rfl (by kernel_rfl) rfl (.there (.there (.there .here))) (V.load rfl inEnt (encO.ld0 _ _ _ (by omega)) sc_3) rfl (by kernel_rfl) rfl ?_
                      refine XQ.pv (i := 7) (l' := #[true, true, true, true, true, true, true, true, false, false, false, false, false]) rfl (by kernel_rfl) rfl (V.fieldAddr rfl fo_31_2) rfl rfl ?_
                      refine XQ.load (i := 8) (l' := #[true, true, true, true, true, true, true, true, true, false, false, false, false]) (.cells _ _ _ _) [12] rfl (by kernel_rfl) rfl (.there (.there .here)) (V.load rfl inEnt (encAct.ld_B _) sc_3) rfl (by kernel_rfl) rfl ?_
                      refine XQ.pv (i := 9) (l' := #[true, true, true, true, true, true, true, true, true, true, false, false, false]) rfl (by kernel_rfl) rfl (V.sub rfl rfl _ (IntWalk.i64_in _ (by omega))) rfl rfl ?_
                      refine XQ.pv (i := 10) (l' := #[true, true, true, true, true, true, true, true, true, true, true, false, false]) rfl (by kernel_rfl) rfl (V.indexArr rfl rfl ar_61 (by omega)) rfl rfl ?_
                      refine XQ.pv (i := 11) (l' := #[true, true, true, true, true, true, true, true, true, true, true, true, false]) rfl (by kernel_rfl) rfl (V.indexArr rfl rfl ar_60 (by omega)) rfl rfl ?_
                      refine XQ.store (i := 12) (l' := #[true, true, true, true, true, true, true, true, true, true, true, true, true]) rfl (by kernel_rfl) rfl rfl rfl (.there (.there (.there .here))) (encO.st0 _ _ _ _ (by omega)) rfl sz_3_1 (fun _ hw' => ⟨fun hs => (hs 12 (by simp) rfl).elim, fun hs => (hs 12 (by simp) rfl).elim, fun hs => (hs 12 (by simp) rfl).elim, fun hs => (hs 12 (by simp) rfl).elim, trivial⟩) ?_
                      refine XQ.done (by kernel_rfl) ?_
                      refine XE.next ?_
                      refine XC.keep [(0, _), (3, _), (4, _), (5, _), (6, _), (7, _)] (Sub.cons rfl (Sub.cons rfl (Sub.cons rfl (Sub.cons rfl (Sub.cons rfl (Sub.cons rfl (Sub.nil _))))))) ?_
                      refine XC.regionQ mixed (f := 13) (l := #[false, false, false, false, false, false, false, false, false, false, false, false, false]) rfl rfl XM.drawn' ?_
                      refine XQ.pv (i := 0) (l' := #[true, false, false, false, false, false, false, false, false, false, false, false, false]) rfl (by kernel_rfl) rfl (V.fieldAddr rfl fo_31_1) rfl rfl ?_
                      refine XQ.load (i := 1) (l' := #[true, true, false, false, false, false, false, false, false, false, false, false, false]) (.cells _ _ _ _) [12] rfl (by kernel_rfl) rfl (.there (.there .here)) (V.load rfl inEnt (encAct.ld_A _) sc_3) rfl (by kernel_rfl) rfl ?_
                      refine XQ.pv (i := 2) (l' := #[true, true, true, false, false, false, false, false, false, false, false, false, false]) rfl (by kernel_rfl) rfl (V.fieldAddr rfl fo_31_1) rfl rfl ?_
                      refine XQ.load (i := 3) (l' := #[true, true, true, true, false, false, false, false, false, false, false, false, false]) (.cells _ _ _ _) [12] rfl (by kernel_rfl) rfl (.there (.there .here)) (V.load rfl inEnt (encAct.ld_A _) sc_3) rfl (by kernel_rfl) rfl ?_
                      refine XQ.pv (i := 4) (l' := #[true, true, true, true, true, false, false, false, false, false, false, false, false]) rfl (by kernel_rfl) rfl (V.indexArr rfl rfl ar_61 (by omega)) rfl rfl ?_
                      refine XQ.pv (i := 5) (l' := #[true, true, true, true, true, true, false, false, false, false, false, false, false]) rfl (by kernel_rfl) rfl (V.indexArr rfl rfl ar_60 (by omega)) rfl rfl ?_
                      refine XQ.load (i := 6) (l' := #[true, true, true, true, true, true, true, false, false, false, false, false, false]) (.cells _ _ _ _) [12] rfl (by kernel_rfl) rfl (.there (.there (.there .here))) (V.load rfl inEnt (encO.ld1 _ _ _ (by omega)) sc_3) rfl (by kernel_rfl) rfl ?_
                      refine XQ.pv (i := 7) (l' := #[true, true, true, true, true, true, true, true, false, false, false, false, false]) rfl (by kernel_rfl) rfl (V.fieldAddr rfl fo_31_3) rfl rfl ?_
                      refine XQ.load (i := 8) (l' := #[true, true, true, true, true, true, true, true, true, false, false, false, false]) (.cells _ _ _ _) [12] rfl (by kernel_rfl) rfl (.there (.there .here)) (V.load rfl inEnt (encAct.ld_C _) sc_3) rfl (by kernel_rfl) rfl ?_
                      refine XQ.pv (i := 9) (l' := #[true, true, true, true, true, true, true, true, true, true, false, false, false]) rfl (by kernel_rfl) rfl (V.sub rfl rfl _ (IntWalk.i64_in _ (by omega))) rfl rfl ?_
                      refine XQ.pv (i := 10) (l' := #[true, true, true, true, true, true, true, true, true, true, true, false, false]) rfl (by kernel_rfl) rfl (V.indexArr rfl rfl ar_61 (by omega)) rfl rfl ?_
                      refine XQ.pv (i := 11) (l' := #[true, true, true, true, true, true, true, true, true, true, true, true, false]) rfl (by kernel_rfl) rfl (V.indexArr rfl rfl ar_60 (by omega)) rfl rfl ?_
                      refine XQ.store (i := 12) (l' := #[true, true, true, true, true, true, true, true, true, true, true, true, true]) rfl (by kernel_rfl) rfl rfl rfl (.there (.there (.there .here))) (encO.st1 _ _ _ _ (by omega)) rfl sz_3_1 (fun _ hw' => ⟨fun hs => (hs 12 (by simp) rfl).elim, fun hs => (hs 12 (by simp) rfl).elim, fun hs => (hs 12 (by simp) rfl).elim, fun hs => (hs 12 (by simp) rfl).elim, trivial⟩) ?_
                      refine XQ.done (by kernel_rfl) ?_
                      refine XE.blockNormal ?_
                      refine XE.meetG ((x.1.unch (A x.2.2.2).a (A x.2.2.2).b (A x.2.2.2).c, fset x.2.1 (A x.2.2.2).a (x.2.1 (A x.2.2.2).a - (A x.2.2.2).b), fset x.2.2.1 (A x.2.2.2).a (x.2.2.1 (A x.2.2.2).a - (A x.2.2.2).c))) ?_ (Sub.cons rfl (Sub.cons rfl (Sub.cons rfl (Sub.cons rfl (Sub.cons rfl (Sub.nil _)))))) (fun _ hw => XM.pick (.cons .here (.cons (.there (.there .here)) (.cons .here (.cons (.there .here) .nil)))) hw)
                      · exact ⟨hI.unch _ _ _, (hS.unch hO _ _ _).mono (by omega), hOw.unch hO (by assumption), TG.Lim.unch _ _ _ _⟩
                    · skip
                      refine XC.skip ?_
                      refine XE.blockNormal ?_
                      refine XE.meetG ((x.1.unch (A x.2.2.2).a (A x.2.2.2).b (A x.2.2.2).c, x.2.1, x.2.2.1)) ?_ (Sub.cons rfl (Sub.cons rfl (Sub.cons rfl (Sub.cons rfl (Sub.cons rfl (Sub.nil _)))))) (fun _ hw => XM.pick (.cons .here (.cons (.there (.there .here)) (.cons .here (.cons (.there .here) .nil)))) hw)
                      · exact ⟨hI.unch _ _ _, (hS.unch hO _ _ _).mono (by omega), hOw.same (by unfold TG.unch; rw [if_neg (by assumption)]), TG.Lim.unch _ _ _ _⟩
                  · skip
                    refine XC.seq ?_
                    refine XC.region ?_
                    refine XO.v (V.fieldAddr rfl fo_31_4) rfl ?_
                    refine XO.v (V.load rfl (inXM (.there .here)) (encAct.ld_Key _) sc_29) rfl ?_
                    refine XO.v (V.convInt rfl Try.underlying29 Try.underlying3 _ rfl) rfl ?_
                    refine XO.v (V.assign rfl) rfl ?_
                    refine XO.nil ?_
                    refine XE.next ?_
                    refine XC.keep [(0, _), (3, _), (4, _), (5, _), (6, _), (7, _), (11, _)] (Sub.cons rfl (Sub.cons rfl (Sub.cons rfl (Sub.cons rfl (Sub.cons rfl (Sub.cons rfl (Sub.cons rfl (Sub.nil _)))))))) ?_
                    refine XC.seq ?_
                    refine XC.region ?_
                    refine XO.v (V.move rfl) rfl ?_
                    refine XO.v (V.fieldAddr rfl fo_31_1) rfl ?_
                    refine XO.v (V.load rfl (inXM (.there .here)) (encAct.ld_A _) sc_3) rfl ?_
                    refine XO.v (V.move rfl) rfl ?_
                    refine XO.v (V.fieldAddr rfl fo_31_2) rfl ?_
                    refine XO.v (V.load rfl (inXM (.there .here)) (encAct.ld_B _) sc_3) rfl ?_
                    refine XO.v (V.fieldAddr rfl fo_31_3) rfl ?_
                    refine XO.v (V.load rfl (inXM (.there .here)) (encAct.ld_C _) sc_3) rfl ?_
                    refine XO.call rfl (g_move _ _ _ hO _ _ _ _ (1000 * x.2.2.2) (by omega) hS) (.cons (.there (.there .here)) .nil) cl_43 rfl ?_
                    rintro _ _ ⟨rfl, rfl⟩
                    refine XO.v (V.errNil rfl Try.underlying33 rfl) rfl ?_
                    refine XO.nil ?_
                    refine XE.next ?_
                    refine XC.keep [(0, _), (3, _), (4, _), (5, _), (6, _), (7, _), (11, _), (55, _)] (Sub.cons rfl (Sub.cons rfl (Sub.cons rfl (Sub.cons rfl (Sub.cons rfl (Sub.cons rfl (Sub.cons rfl (Sub.cons rfl (Sub.nil _))))))))) ?_
                    refine XC.condP rfl (fun h12 => ?_) (fun h12 => ?_)
                    · skip
                      obtain ⟨u1, u2, u3⟩ := TG.moveE_0 (s := x.1) h12
                      obtain ⟨⟨n0, n1, n2⟩, p0, p1, m0, m1⟩ := TG.unchE_0 u1
                      obtain ⟨hf1, hf2⟩ := hOw _ n0 n1 n2
                      have hls := TG.left_small hS (by omega) n0 n1
                      obtain ⟨⟨t0, t1, t2⟩, _⟩ := TG.chargeE_0 u2
                      rw [(TG.unch_le (s := x.1) (A x.2.2.2).a (A x.2.2.2).b (A x.2.2.2).c (x := 0)).1] at t2
                      obtain ⟨hg1, hg2⟩ := hOw _ t0 t1 t2
                      have hlt := TG.left_small hS (by omega) t0 t1
                      have hb1 : -12000000 ≤ fset x.2.1 (A x.2.2.2).a (x.2.1 (A x.2.2.2).a - (A x.2.2.2).b) (IntKind.i64.wrap (A x.2.2.2).key) ∧ fset x.2.1 (A x.2.2.2).a (x.2.1 (A x.2.2.2).a - (A x.2.2.2).b) (IntKind.i64.wrap (A x.2.2.2).key) ≤ 12000000 := by unfold fset; split <;> omega
                      have hb2 : -12000000 ≤ fset x.2.2.1 (A x.2.2.2).a (x.2.2.1 (A x.2.2.2).a - (A x.2.2.2).c) (IntKind.i64.wrap (A x.2.2.2).key) ∧ fset x.2.2.1 (A x.2.2.2).a (x.2.2.1 (A x.2.2.2).a - (A x.2.2.2).c) (IntKind.i64.wrap (A x.2.2.2).key) ≤ 12000000 := by unfold fset; split <;> omega
                      refine XC.seq ?_
                      refine XC.regionQ mixed (f := 13) (l := #[false, false, false, false, false, false, false, false, false, false, false, false, false]) rfl rfl XM.drawn' ?_
                      refine XQ.pv (i := 0) (l' := #[true, false, false, false, false, false, false, false, false, false, false, false, false]) rfl (by kernel_rfl) rfl (V.fieldAddr rfl fo_31_1) rfl rfl ?_
                      refine XQ.load (i := 1) (l' := #[true, true, false, false, false, false, false, false, false, false, false, false, false]) (.cells _ _ _ _) [12] rfl (by kernel_rfl) rfl (.there (.there .here)) (V.load rfl inEnt (encAct.ld_A _) sc_3) rfl (by kernel_rfl) rfl ?_
                      refine XQ.pv (i := 2) (l' := #[true, true, true, false, false, false, false, false, false, false, false, false, false]) rfl (by kernel_rfl) rfl (V.fieldAddr rfl fo_31_1) rfl rfl ?_
                      refine XQ.load (i := 3) (l' := #[true, true, true, true, false, false, false, false, false, false, false, false, false]) (.cells _ _ _ _) [12] rfl (by kernel_rfl) rfl (.there (.there .here)) (V.load rfl inEnt (encAct.ld_A _) sc_3) rfl (by kernel_rfl) rfl ?_
                      refine XQ.pv (i := 4) (l' := #[true, true, true, true, true, false, false, false, false, false, false, false, false]) rfl (by kernel_rfl) rfl (V.indexArr rfl rfl ar_61 (by omega)) rfl rfl ?_
                      refine XQ.pv (i := 5) (l' := #[true, true, true, true, true, true, false, false, false, false, false, false, false]) rfl (by kernel_rfl) rfl (V.indexArr rfl rfl ar_60 (by omega)) rfl rfl ?_
                      refine XQ.load (i := 6) (l' := #[true, true, true, true, true, true, true, false, false, false, false, false, false]) (.cells _ _ _ _) [12] rfl (by kernel_rfl) rfl (.there (.there (.there .here))) (V.load rfl inEnt (encO.ld0 _ _ _ (by omega)) sc_3) rfl (by kernel_rfl) rfl ?_
                      refine XQ.pv (i := 7) (l' := #[true, true, true, true, true, true, true, true, false, false, false, false, false]) rfl (by kernel_rfl) rfl (V.fieldAddr rfl fo_31_2) rfl rfl ?_
                      refine XQ.load (i := 8) (l' := #[true, true, true, true, true, true, true, true, true, false, false, false, false]) (.cells _ _ _ _) [12] rfl (by kernel_rfl) rfl (.there (.there .here)) (V.load rfl inEnt (encAct.ld_B _) sc_3) rfl (by kernel_rfl) rfl ?_
                      refine XQ.pv (i := 9) (l' := #[true, true, true, true, true, true, true, true, true, true, false, false, false]) rfl (by kernel_rfl) rfl (V.sub rfl rfl _ (IntWalk.i64_in _ (by omega))) rfl rfl ?_
                      refine XQ.pv (i := 10) (l' := #[true, true, true, true, true, true, true, true, true, true, true, false, false]) rfl (by kernel_rfl) rfl (V.indexArr rfl rfl ar_61 (by omega)) rfl rfl ?_
                      refine XQ.pv (i := 11) (l' := #[true, true, true, true, true, true, true, true, true, true, true, true, false]) rfl (by kernel_rfl) rfl (V.indexArr rfl rfl ar_60 (by omega)) rfl rfl ?_
                      refine XQ.store (i := 12) (l' := #[true, true, true, true, true, true, true, true, true, true, true, true, true]) rfl (by kernel_rfl) rfl rfl rfl (.there (.there (.there .here))) (encO.st0 _ _ _ _ (by omega)) rfl sz_3_1 (fun _ hw' => ⟨fun hs => (hs 12 (by simp) rfl).elim, fun hs => (hs 12 (by simp) rfl).elim, fun hs => (hs 12 (by simp) rfl).elim, fun hs => (hs 12 (by simp) rfl).elim, trivial⟩) ?_
                      refine XQ.done (by kernel_rfl) ?_
                      refine XE.next ?_
                      refine XC.keep [(0, _), (3, _), (4, _), (5, _), (6, _), (7, _), (11, _)] (Sub.cons rfl (Sub.cons rfl (Sub.cons rfl (Sub.cons rfl (Sub.cons rfl (Sub.cons rfl (Sub.cons rfl (Sub.nil _)))))))) ?_
                      refine XC.seq ?_
                      refine XC.regionQ mixed (f := 13) (l := #[false, false, false, false, false, false, false, false, false, false, false, false, false]) rfl rfl XM.drawn' ?_
                      refine XQ.pv (i := 0) (l' := #[true, false, false, false, false, false, false, false, false, false, false, false, false]) rfl (by kernel_rfl) rfl (V.fieldAddr rfl fo_31_1) rfl rfl ?_
                      refine XQ.load (i := 1) (l' := #[true, true, false, false, false, false, false, false, false, false, false, false, false]) (.cells _ _ _ _) [12] rfl (by kernel_rfl) rfl (.there (.there .here)) (V.load rfl inEnt (encAct.ld_A _) sc_3) rfl (by kernel_rfl) rfl ?_
                      refine XQ.pv (i := 2) (l' := #[true, true, true, false, false, false, false, false, false, false, false, false, false]) rfl (by kernel_rfl) rfl (V.fieldAddr rfl fo_31_1) rfl rfl ?_
                      refine XQ.load (i := 3) (l' := #[true, true, true, true, false, false, false, false, false, false, false, false, false]) (.cells _ _ _ _) [12] rfl (by kernel_rfl) rfl (.there (.there .here)) (V.load rfl inEnt (encAct.ld_A _) sc_3) rfl (by kernel_rfl) rfl ?_
                      refine XQ.pv (i := 4) (l' := #[true, true, true, true, true, false, false, false, false, false, false, false, false]) rfl (by kernel_rfl) rfl (V.indexArr rfl rfl ar_61 (by omega)) rfl rfl ?_
                      refine XQ.pv (i := 5) (l' := #[true, true, true, true, true, true, false, false, false, false, false, false, false]) rfl (by kernel_rfl) rfl (V.indexArr rfl rfl ar_60 (by omega)) rfl rfl ?_
                      refine XQ.load (i := 6) (l' := #[true, true, true, true, true, true, true, false, false, false, false, false, false]) (.cells _ _ _ _) [12] rfl (by kernel_rfl) rfl (.there (.there (.there .here))) (V.load rfl inEnt (encO.ld1 _ _ _ (by omega)) sc_3) rfl (by kernel_rfl) rfl ?_
                      refine XQ.pv (i := 7) (l' := #[true, true, true, true, true, true, true, true, false, false, false, false, false]) rfl (by kernel_rfl) rfl (V.fieldAddr rfl fo_31_3) rfl rfl ?_
                      refine XQ.load (i := 8) (l' := #[true, true, true, true, true, true, true, true, true, false, false, false, false]) (.cells _ _ _ _) [12] rfl (by kernel_rfl) rfl (.there (.there .here)) (V.load rfl inEnt (encAct.ld_C _) sc_3) rfl (by kernel_rfl) rfl ?_
                      refine XQ.pv (i := 9) (l' := #[true, true, true, true, true, true, true, true, true, true, false, false, false]) rfl (by kernel_rfl) rfl (V.sub rfl rfl _ (IntWalk.i64_in _ (by omega))) rfl rfl ?_
                      refine XQ.pv (i := 10) (l' := #[true, true, true, true, true, true, true, true, true, true, true, false, false]) rfl (by kernel_rfl) rfl (V.indexArr rfl rfl ar_61 (by omega)) rfl rfl ?_
                      refine XQ.pv (i := 11) (l' := #[true, true, true, true, true, true, true, true, true, true, true, true, false]) rfl (by kernel_rfl) rfl (V.indexArr rfl rfl ar_60 (by omega)) rfl rfl ?_
                      refine XQ.store (i := 12) (l' := #[true, true, true, true, true, true, true, true, true, true, true, true, true]) rfl (by kernel_rfl) rfl rfl rfl (.there (.there (.there .here))) (encO.st1 _ _ _ _ (by omega)) rfl sz_3_1 (fun _ hw' => ⟨fun hs => (hs 12 (by simp) rfl).elim, fun hs => (hs 12 (by simp) rfl).elim, fun hs => (hs 12 (by simp) rfl).elim, fun hs => (hs 12 (by simp) rfl).elim, trivial⟩) ?_
                      refine XQ.done (by kernel_rfl) ?_
                      refine XE.next ?_
                      refine XC.keep [(0, _), (3, _), (4, _), (5, _), (6, _), (7, _), (11, _)] (Sub.cons rfl (Sub.cons rfl (Sub.cons rfl (Sub.cons rfl (Sub.cons rfl (Sub.cons rfl (Sub.cons rfl (Sub.nil _)))))))) ?_
                      refine XC.seq ?_
                      refine XC.regionQ mixed (f := 11) (l := #[false, false, false, false, false, false, false, false, false, false, false]) rfl rfl XM.drawn' ?_
                      refine XQ.pv (i := 0) (l' := #[true, false, false, false, false, false, false, false, false, false, false]) rfl (by kernel_rfl) rfl (V.move rfl) rfl rfl ?_
                      refine XQ.pv (i := 1) (l' := #[true, true, false, false, false, false, false, false, false, false, false]) rfl (by kernel_rfl) rfl (V.move rfl) rfl rfl ?_
                      refine XQ.pv (i := 2) (l' := #[true, true, true, false, false, false, false, false, false, false, false]) rfl (by kernel_rfl) rfl (V.indexArr rfl rfl ar_61 (by omega)) rfl rfl ?_
                      refine XQ.pv (i := 3) (l' := #[true, true, true, true, false, false, false, false, false, false, false]) rfl (by kernel_rfl) rfl (V.indexArr rfl rfl ar_60 (by omega)) rfl rfl ?_
                      refine XQ.load (i := 4) (l' := #[true, true, true, true, true, false, false, false, false, false, false]) (.cells _ _ _ _) [10] rfl (by kernel_rfl) rfl (.there (.there (.there .here))) (V.load rfl inEnt (encO.ld0 _ _ _ (by omega)) sc_3) rfl (by kernel_rfl) rfl ?_
                      refine XQ.pv (i := 5) (l' := #[true, true, true, true, true, true, false, false, false, false, false]) rfl (by kernel_rfl) rfl (V.fieldAddr rfl fo_31_2) rfl rfl ?_
                      refine XQ.load (i := 6) (l' := #[true, true, true, true, true, true, true, false, false, false, false]) (.cells _ _ _ _) [10] rfl (by kernel_rfl) rfl (.there (.there .here)) (V.load rfl inEnt (encAct.ld_B _) sc_3) rfl (by kernel_rfl) rfl ?_
                      refine XQ.pv (i := 7) (l' := #[true, true, true, true, true, true, true, true, false, false, false]) rfl (by kernel_rfl) rfl (V.add rfl rfl _ (IntWalk.i64_in _ (by omega))) rfl rfl ?_
                      refine XQ.pv (i := 8) (l' := #[true, true, true, true, true, true, true, true, true, false, false]) rfl (by kernel_rfl) rfl (V.indexArr rfl rfl ar_61 (by omega)) rfl rfl ?_
                      refine XQ.pv (i := 9) (l' := #[true, true, true, true, true, true, true, true, true, true, false]) rfl (by kernel_rfl) rfl (V.indexArr rfl rfl ar_60 (by omega)) rfl rfl ?_
                      refine XQ.store (i := 10) (l' := #[true, true, true, true, true, true, true, true, true, true, true]) rfl (by kernel_rfl) rfl rfl rfl (.there (.there (.there .here))) (encO.st0 _ _ _ _ (by omega)) rfl sz_3_1 (fun _ hw' => ⟨fun hs => (hs 10 (by simp) rfl).elim, fun hs => (hs 10 (by simp) rfl).elim, trivial⟩) ?_
                      refine XQ.done (by kernel_rfl) ?_
                      refine XE.next ?_
                      refine XC.keep [(0, _), (3, _), (4, _), (5, _), (6, _), (7, _), (11, _)] (Sub.cons rfl (Sub.cons rfl (Sub.cons rfl (Sub.cons rfl (Sub.cons rfl (Sub.cons rfl (Sub.cons rfl (Sub.nil _)))))))) ?_
                      refine XC.regionQ mixed (f := 11) (l := #[false, false, false, false, false, false, false, false, false, false, false]) rfl rfl XM.drawn' ?_
                      refine XQ.pv (i := 0) (l' := #[true, false, false, false, false, false, false, false, false, false, false]) rfl (by kernel_rfl) rfl (V.move rfl) rfl rfl ?_
                      refine XQ.pv (i := 1) (l' := #[true, true, false, false, false, false, false, false, false, false, false]) rfl (by kernel_rfl) rfl (V.move rfl) rfl rfl ?_
                      refine XQ.pv (i := 2) (l' := #[true, true, true, false, false, false, false, false, false, false, false]) rfl (by kernel_rfl) rfl (V.indexArr rfl rfl ar_61 (by omega)) rfl rfl ?_
                      refine XQ.pv (i := 3) (l' := #[true, true, true, true, false, false, false, false, false, false, false]) rfl (by kernel_rfl) rfl (V.indexArr rfl rfl ar_60 (by omega)) rfl rfl ?_
                      refine XQ.load (i := 4) (l' := #[true, true, true, true, true, false, false, false, false, false, false]) (.cells _ _ _ _) [10] rfl (by kernel_rfl) rfl (.there (.there (.there .here))) (V.load rfl inEnt (encO.ld1 _ _ _ (by omega)) sc_3) rfl (by kernel_rfl) rfl ?_
                      refine XQ.pv (i := 5) (l' := #[true, true, true, true, true, true, false, false, false, false, false]) rfl (by kernel_rfl) rfl (V.fieldAddr rfl fo_31_3) rfl rfl ?_
                      refine XQ.load (i := 6) (l' := #[true, true, true, true, true, true, true, false, false, false, false]) (.cells _ _ _ _) [10] rfl (by kernel_rfl) rfl (.there (.there .here)) (V.load rfl inEnt (encAct.ld_C _) sc_3) rfl (by kernel_rfl) rfl ?_
                      refine XQ.pv (i := 7) (l' := #[true, true, true, true, true, true, true, true, false, false, false]) rfl (by kernel_rfl) rfl (V.add rfl rfl _ (IntWalk.i64_in _ (by omega))) rfl rfl ?_
                      refine XQ.pv (i := 8) (l' := #[true, true, true, true, true, true, true, true, true, false, false]) rfl (by kernel_rfl) rfl (V.indexArr rfl rfl ar_61 (by omega)) rfl rfl ?_
                      refine XQ.pv (i := 9) (l' := #[true, true, true, true, true, true, true, true, true, true, false]) rfl (by kernel_rfl) rfl (V.indexArr rfl rfl ar_60 (by omega)) rfl rfl ?_
                      refine XQ.store (i := 10) (l' := #[true, true, true, true, true, true, true, true, true, true, true]) rfl (by kernel_rfl) rfl rfl rfl (.there (.there (.there .here))) (encO.st1 _ _ _ _ (by omega)) rfl sz_3_1 (fun _ hw' => ⟨fun hs => (hs 10 (by simp) rfl).elim, fun hs => (hs 10 (by simp) rfl).elim, trivial⟩) ?_
                      refine XQ.done (by kernel_rfl) ?_
                      refine XE.blockNormal ?_
                      refine XE.meetG ((x.1.move (A x.2.2.2).a (IntKind.i64.wrap (A x.2.2.2).key) (A x.2.2.2).b (A x.2.2.2).c, (fset (fset x.2.1 (A x.2.2.2).a (x.2.1 (A x.2.2.2).a - (A x.2.2.2).b)) (IntKind.i64.wrap (A x.2.2.2).key) (fset x.2.1 (A x.2.2.2).a (x.2.1 (A x.2.2.2).a - (A x.2.2.2).b) (IntKind.i64.wrap (A x.2.2.2).key) + (A x.2.2.2).b)), (fset (fset x.2.2.1 (A x.2.2.2).a (x.2.2.1 (A x.2.2.2).a - (A x.2.2.2).c)) (IntKind.i64.wrap (A x.2.2.2).key) (fset x.2.2.1 (A x.2.2.2).a (x.2.2.1 (A x.2.2.2).a - (A x.2.2.2).c) (IntKind.i64.wrap (A x.2.2.2).key) + (A x.2.2.2).c)))) ?_ (Sub.cons rfl (Sub.cons rfl (Sub.cons rfl (Sub.cons rfl (Sub.cons rfl (Sub.nil _)))))) (fun _ hw => XM.pick (.cons .here (.cons (.there (.there .here)) (.cons .here (.cons (.there .here) .nil)))) hw)
                      · exact ⟨hI.move _ _ _ _, (hS.move hO _ _ _ _).mono (by omega), hOw.move hO (by assumption), TG.Lim.move hO _ _ _ _⟩
                    · skip
                      refine XC.skip ?_
                      refine XE.blockNormal ?_
                      refine XE.meetG ((x.1.move (A x.2.2.2).a (IntKind.i64.wrap (A x.2.2.2).key) (A x.2.2.2).b (A x.2.2.2).c, x.2.1, x.2.2.1)) ?_ (Sub.cons rfl (Sub.cons rfl (Sub.cons rfl (Sub.cons rfl (Sub.cons rfl (Sub.nil _)))))) (fun _ hw => XM.pick (.cons .here (.cons (.there (.there .here)) (.cons .here (.cons (.there .here) .nil)))) hw)
                      · exact ⟨hI.move _ _ _ _, (hS.move hO _ _ _ _).mono (by omega), hOw.same (TG.moveE_no (by assumption)), TG.Lim.move hO _ _ _ _⟩
        intro y hy
        obtain ⟨hyI, hyS, hyO, hyL⟩ := hy
        refine XC.seq ?_
        refine XC.region ?_
        refine XO.v (V.move rfl) rfl ?_
        refine XO.v (V.loadAgg rfl (inXM (.there .here)) (encO.agg _ _) ag_61 sz_61_20) rfl ?_
        refine XO.v (V.loadAgg rfl (inXM (.there (.there .here))) (encW.agg _) ag_64 sz_64_50) rfl ?_
        refine XO.call rfl (summed_any _ _ hyI (1000 * x.2.2.2 + 1000) (by omega) hyS _ _ hyO (wasK x.1 10) (fun n h0 h1 h2 => by rw [wasK_all h0 h1]; exact hyL n h0 h1 h2)) (.cons .here .nil) cl_47 rfl ?_
        rintro _ _ ⟨rfl, rfl⟩
        refine XO.v (V.assign rfl) rfl ?_
        refine XO.nil ?_
        refine XE.next ?_
        refine XC.keep [(0, _), (3, _), (4, _), (5, _), (12, _)] (Sub.cons rfl (Sub.cons rfl (Sub.cons rfl (Sub.cons rfl (Sub.cons rfl (Sub.nil _)))))) ?_
        refine XC.seq ?_
        refine XC.region ?_
        refine XO.v (V.move rfl) rfl ?_
        refine XO.v (V.not rfl) rfl ?_
        refine XO.nil ?_
        refine XE.next ?_
        refine XC.keep [(0, _), (3, _), (4, _), (5, _), (205, _)] (Sub.cons rfl (Sub.cons rfl (Sub.cons rfl (Sub.cons rfl (Sub.cons rfl (Sub.nil _)))))) ?_
        refine XC.condF rfl rfl ?_
        refine XC.skip ?_
        refine XE.blockNormal ?_
        refine XE.next ?_
        refine XC.keep [(0, _), (3, _), (4, _), (5, _)] (Sub.cons rfl (Sub.cons rfl (Sub.cons rfl (Sub.cons rfl (Sub.nil _))))) ?_
        refine XC.region ?_
        refine XO.v (V.move rfl) rfl ?_
        refine XO.v (V.add rfl rfl _ (IntWalk.i64_in _ (by omega))) rfl ?_
        refine XO.v (V.assign rfl) rfl ?_
        refine XO.nil ?_
        refine XE.again ((y.1, y.2.1, y.2.2, x.2.2.2 + 1)) ?_ ?_ (Sub.cons rfl (Sub.cons rfl (Sub.cons rfl (Sub.cons rfl (Sub.nil _))))) (fun _ hw => XM.pick (.cons .here (.cons .here (.cons (.there .here) .nil))) hw)
        · skip
          (simp; omega)
        · skip
          exact ⟨hyI, hyS.mono (by simp; omega), hyO, by simp; omega, by simp; omega⟩
    · skip
      refine XC.exit ?_
      refine XE.thenExit ?_
      refine XE.thenExit ?_
      refine XE.blockExit ?_
      refine XE.next ?_
      refine XC.keep [] (Sub.nil _) ?_
      refine XC.seq ?_
      refine XC.region ?_
      refine XO.v (V.assign rfl) rfl ?_
      refine XO.nil ?_
      refine XE.next ?_
      refine XC.keep [(2, _)] (Sub.cons rfl (Sub.nil _)) ?_
      refine XC.ret ?_
      refine XE.ret1 rfl rfl (post_of .nil rfl ?_)
      exact ⟨rfl, rfl⟩
end Go.X
