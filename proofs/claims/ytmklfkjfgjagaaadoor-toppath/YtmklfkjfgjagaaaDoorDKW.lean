import Derived.Test.YtmklfkjfgjagaaaDoorDNW5
import Derived.Test.YtmklfkjfgjagaaaDoorKSP
import Derived.Test.YtmklfkjfgjagaaaDoorDKSH
namespace Go.X
open Go Go.Proofs
theorem ag_42 : aggT Tryd.prog 42 = true := by kernel_rfl
theorem ag_59 : aggT Tryd.prog 59 = true := by kernel_rfl
theorem cl_43 : callable Tryd.prog 43 = true := by kernel_rfl
theorem fo_59_0 : fieldOff Tryd.prog 59 0 = some 0 := by kernel_rfl
theorem fo_59_1 : fieldOff Tryd.prog 59 1 = some 2 := by kernel_rfl
theorem fo_72_2 : fieldOff Tryd.prog 72 2 = some 3 := by kernel_rfl
theorem sc_34 : scal Tryd.prog 34 = true := by kernel_rfl
theorem sl_34 : sliceOf Tryd.prog 34 = some (59, 4) := by kernel_rfl
theorem sl_61 : sliceOf Tryd.prog 61 = some (9, 1) := by kernel_rfl
theorem sz_42_2 : szOf Tryd.prog 42 = some 2 := by kernel_rfl
theorem sz_59_4 : szOf Tryd.prog 59 = some 4 := by kernel_rfl

theorem whEq : (Tryd.prog.underlying 42 = some (.struct (Tryd.prog.fieldsOf 42)) ∧ Tryd.prog.stoodInHeld 42 = false) ∧ Tryd.prog.eqGuardType Tryd.prog.depth 42 = false ∧ two Tryd.prog 42 = true := ⟨⟨by kernel_rfl, by kernel_rfl⟩, by kernel_rfl, by kernel_rfl⟩
theorem s_split (s : ByteArray) (hs : s.size ≤ 1000000) : Spec Tryd.prog 43 [.string s, .string ⟨#[47]⟩] [] (fun v H1 => ∃ b, v = .slice (some ⟨b, 0, none⟩) (pieces s).length (pieces s).length ∧ H1 = [srow (some ⟨b, 0, none⟩) (pieces s).length 9 (pieces s)]) :=
  split_spec Go.Proofs.trydSplit (by kernel_rfl) s hs
set_option maxRecDepth 10000 in
set_option maxHeartbeats 2000000 in
theorem m_over (bt bf : Nat) (r : WH) (l : List MT) (p : Option Addr) (cap k c : Nat) (C : Nat → Value) (hv : RV.ok ⟨p, cap, k, l.length, c, C⟩) (hC : MC C l) (hm6 : l.length ≤ 6) (w : WH) : Spec Tryd.prog 44 [ptr bt 0 0, .agg (WH.arr w)]
    [.cells bt 0 4 (encT bf r (.slice p l.length c)), frow p cap 59 4 k C]
    (fun v H1 => v = .agg (WH.arr (over l w)) ∧ H1 = [.cells bt 0 4 (encT bf r (.slice p l.length c)), frow p cap 59 4 k C]) := by
  have hlk := RV.ok_le hv
  have hlk : l.length ≤ k := hlk
  refine Spec.intro Tryd.func44 rfl rfl ?_
  intro W
  refine XC.seq ?_
  refine XC.region ?_
  refine XO.box (m := 2) (C := encW (w)) rfl rfl (encW.box _) rfl ?_
  intro bw
  refine XO.allocZ (z := .agg (WH.arr WH.nil)) (m := 2) (C := encW WH.nil) (by kernel_rfl) rfl (encW.box _) rfl ?_
  intro br
  refine XO.nil ?_
  refine XE.next ?_
  refine XC.keep [(0, _), (3, _), (4, _)] (Sub.cons rfl (Sub.cons rfl (Sub.cons rfl (Sub.nil _)))) ?_
  refine XC.seq ?_
  refine XC.seq ?_
  refine XC.region ?_
  refine XO.v (V.move rfl) rfl ?_
  refine XO.nil ?_
  refine XE.next ?_
  refine XC.keep [(0, _), (3, _), (4, _), (8, _)] (Sub.cons rfl (Sub.cons rfl (Sub.cons rfl (Sub.cons rfl (Sub.nil _))))) ?_
  refine XC.block ?_
  refine XC.loop (σ := Int × WH) (fun x => (6 - x.1).toNat) (fun x => (0 ≤ x.1 ∧ x.1 ≤ 6) ∧ ovN l (6 - x.1).toNat x.2 = over l w) (fun x => [(8, .int .i64 x.1), (0, ptr bt 0 0), (3, ptr bw 0 0), (4, ptr br 0 0)]) (fun x => XM W (foot [.cells bt 0 4 (encT bf r (.slice p l.length c)), frow p cap 59 4 k C]) [.cells bw 0 2 (encW x.2), .cells br 0 2 (encW WH.nil), .cells bt 0 4 (encT bf r (.slice p l.length c)), frow p cap 59 4 k C]) ((0, w)) ?_ (Sub.cons rfl (Sub.cons rfl (Sub.cons rfl (Sub.cons rfl (Sub.nil _))))) (fun _ hw => XM.pick (.cons (.there .here) (.cons .here (.cons .here (.cons .here .nil)))) hw) ?_
  · skip
    exact ⟨⟨by simp, by simp⟩, rfl⟩
  intro x hx
  obtain ⟨⟨hx0, hx1⟩, hov⟩ := hx
  refine XC.seq ?_
  refine XC.region ?_
  refine XO.v (V.cmp rfl rfl rfl) rfl ?_
  refine XO.nil ?_
  refine XE.next ?_
  refine XC.keep [(0, _), (3, _), (4, _), (8, _), (9, _)] (Sub.cons rfl (Sub.cons rfl (Sub.cons rfl (Sub.cons rfl (Sub.cons rfl (Sub.nil _)))))) ?_
  refine XC.seq ?_
  refine XC.condP rfl (fun h1 => ?_) (fun h1 => ?_)
  · skip
    refine XC.skip ?_
    refine XE.next ?_
    refine XC.keep [(0, _), (3, _), (4, _), (8, _)] (Sub.cons rfl (Sub.cons rfl (Sub.cons rfl (Sub.cons rfl (Sub.nil _))))) ?_
    refine XC.seq ?_
    refine XC.block ?_
    refine XC.seq ?_
    refine XC.region ?_
    refine XO.v (V.assign rfl) rfl ?_
    refine XO.nil ?_
    refine XE.next ?_
    refine XC.keep [(0, _), (3, _), (4, _), (5, _), (8, _)] (Sub.cons rfl (Sub.cons rfl (Sub.cons rfl (Sub.cons rfl (Sub.cons rfl (Sub.nil _)))))) ?_
    refine XC.seq ?_
    refine XC.seq ?_
    refine XC.region ?_
    refine XO.v (V.move rfl) rfl ?_
    refine XO.v (V.nilCheckP rfl) rfl ?_
    refine XO.v (V.fieldAddr rfl fo_72_2) rfl ?_
    refine XO.v (V.load rfl (inXM (.there (.there .here))) (encT.ld2 _ _) sc_34) rfl ?_
    refine XO.v (V.lenSl rfl Tryd.underlying34) rfl ?_
    refine XO.v (V.move rfl) rfl ?_
    refine XO.nil ?_
    refine XE.next ?_
    refine XC.keep [(0, _), (3, _), (4, _), (5, _), (8, _), (13, _), (14, _), (15, _)] (Sub.cons rfl (Sub.cons rfl (Sub.cons rfl (Sub.cons rfl (Sub.cons rfl (Sub.cons rfl (Sub.cons rfl (Sub.cons rfl (Sub.nil _))))))))) ?_
    refine XC.block ?_
    refine XC.loop (σ := Int) (fun i => (l.length - i).toNat) (fun i => (0 ≤ i ∧ i ≤ l.length) ∧ ∀ j : Int, 0 ≤ j → j < i → (mat l j).at_ ≠ x.2) (fun i => [(5, .bool false), (15, .int .i64 i), (0, ptr bt 0 0), (3, ptr bw 0 0), (4, ptr br 0 0), (8, .int .i64 x.1), (13, .slice p l.length c), (14, .int .i64 l.length)]) (fun i => XM W (foot [.cells bt 0 4 (encT bf r (.slice p l.length c)), frow p cap 59 4 k C]) [.cells bw 0 2 (encW x.2), .cells br 0 2 (encW WH.nil), .cells bt 0 4 (encT bf r (.slice p l.length c)), frow p cap 59 4 k C]) (0) ?_ (Sub.cons rfl (Sub.cons rfl (Sub.cons rfl (Sub.cons rfl (Sub.cons rfl (Sub.cons rfl (Sub.cons rfl (Sub.cons rfl (Sub.nil _))))))))) (fun _ hw => XM.pick (.cons .here (.cons .here (.cons .here (.cons .here .nil)))) hw) ?_
    · skip
      exact ⟨⟨by omega, by omega⟩, fun j a b => by omega⟩
    intro i hi
    obtain ⟨⟨hi0, hi1⟩, hno⟩ := hi
    refine XC.seq ?_
    refine XC.region ?_
    refine XO.v (V.cmp rfl rfl rfl) rfl ?_
    refine XO.nil ?_
    refine XE.next ?_
    refine XC.keep [(0, _), (3, _), (4, _), (5, _), (8, _), (13, _), (14, _), (15, _), (16, _)] (Sub.cons rfl (Sub.cons rfl (Sub.cons rfl (Sub.cons rfl (Sub.cons rfl (Sub.cons rfl (Sub.cons rfl (Sub.cons rfl (Sub.cons rfl (Sub.nil _)))))))))) ?_
    refine XC.seq ?_
    refine XC.condP rfl (fun h2 => ?_) (fun h2 => ?_)
    · skip
      refine XC.skip ?_
      refine XE.next ?_
      refine XC.keep [(0, _), (3, _), (4, _), (5, _), (8, _), (13, _), (14, _), (15, _)] (Sub.cons rfl (Sub.cons rfl (Sub.cons rfl (Sub.cons rfl (Sub.cons rfl (Sub.cons rfl (Sub.cons rfl (Sub.cons rfl (Sub.nil _))))))))) ?_
      refine XC.seq ?_
      refine XC.block ?_
      refine XC.seq ?_
      refine XC.region ?_
      refine XO.openRow (.there (.there (.there .here))) (by omega) ?_
      intro g hg
      subst hg
      refine XO.v (V.indexSl rfl rfl sl_34 (by omega)) rfl ?_
      refine XO.v (V.loadFA rfl (inXM (.there (.there (.there .here)))) (hC.ld hlk _ (by omega)) ag_59 sz_59_4) rfl ?_
      refine XO.allocZ (z := .agg (MT.arr MT.nil)) (m := 4) (C := encMt MT.nil) (by kernel_rfl) rfl (encMt.box _) rfl ?_
      intro bm
      refine XO.storeAgg rfl rfl .here (encMt.st _ _) ⟨rfl, rfl⟩ sz_59_4 ?_
      refine XO.nil ?_
      refine XE.next ?_
      refine XC.keep [(0, _), (3, _), (4, _), (5, _), (7, _), (8, _), (13, _), (14, _), (15, _)] (Sub.cons rfl (Sub.cons rfl (Sub.cons rfl (Sub.cons rfl (Sub.cons rfl (Sub.cons rfl (Sub.cons rfl (Sub.cons rfl (Sub.cons rfl (Sub.nil _)))))))))) ?_
      refine XC.seq ?_
      refine XC.region ?_
      refine XO.v (V.fieldAddr rfl fo_59_0) rfl ?_
      refine XO.v (V.loadAgg rfl (inXM .here) (encMt.ldA _) ag_42 sz_42_2) rfl ?_
      refine XO.v (V.loadAgg rfl (inXM (.there .here)) (encW.agg _) ag_42 sz_42_2) rfl ?_
      refine XO.v (V.eqW rfl rfl whEq) rfl ?_
      refine XO.nil ?_
      refine XE.next ?_
      refine XC.keep [(0, _), (3, _), (4, _), (5, _), (7, _), (8, _), (13, _), (14, _), (15, _), (22, _)] (Sub.cons rfl (Sub.cons rfl (Sub.cons rfl (Sub.cons rfl (Sub.cons rfl (Sub.cons rfl (Sub.cons rfl (Sub.cons rfl (Sub.cons rfl (Sub.cons rfl (Sub.nil _))))))))))) ?_
      refine XC.condP rfl (fun h3 => ?_) (fun h3 => ?_)
      · skip
        have hs := ov1_some (l := l) ⟨by omega, by omega⟩ hno h3
        refine XC.seq ?_
        refine XC.region ?_
        refine XO.v (V.fieldAddr rfl fo_59_1) rfl ?_
        refine XO.v (V.loadAgg rfl (inXM .here) (encMt.ldT _) ag_42 sz_42_2) rfl ?_
        refine XO.storeAgg rfl rfl (.there .here) (encW.st _ _) ⟨rfl, rfl⟩ sz_42_2 ?_
        refine XO.v (V.assign rfl) rfl ?_
        refine XO.nil ?_
        refine XE.next ?_
        refine XC.keep [(0, _), (3, _), (4, _), (5, _), (8, _)] (Sub.cons rfl (Sub.cons rfl (Sub.cons rfl (Sub.cons rfl (Sub.cons rfl (Sub.nil _)))))) ?_
        refine XC.exit ?_
        refine XE.blockOther rfl ?_
        refine XE.thenExit ?_
        refine XE.thenExit ?_
        refine XE.blockExit ?_
        refine XE.next ?_
        refine XC.keep [(0, _), (3, _), (4, _), (5, _), (8, _)] (Sub.cons rfl (Sub.cons rfl (Sub.cons rfl (Sub.cons rfl (Sub.cons rfl (Sub.nil _)))))) ?_
        refine XC.seq ?_
        refine XC.region ?_
        refine XO.v (V.move rfl) rfl ?_
        refine XO.v (V.not rfl) rfl ?_
        refine XO.nil ?_
        refine XE.next ?_
        refine XC.keep [(0, _), (3, _), (4, _), (8, _), (27, _)] (Sub.cons rfl (Sub.cons rfl (Sub.cons rfl (Sub.cons rfl (Sub.cons rfl (Sub.nil _)))))) ?_
        refine XC.condF rfl rfl ?_
        refine XC.skip ?_
        refine XE.blockNormal ?_
        refine XE.next ?_
        refine XC.keep [(0, _), (3, _), (4, _), (8, _)] (Sub.cons rfl (Sub.cons rfl (Sub.cons rfl (Sub.cons rfl (Sub.nil _))))) ?_
        refine XC.region ?_
        refine XO.v (V.add rfl rfl _ (IntWalk.i64_in _ (by omega))) rfl ?_
        refine XO.v (V.move rfl) rfl ?_
        refine XO.nil ?_
        refine XE.again ((x.1 + 1, (mat l i).to)) ?_ ?_ (Sub.cons rfl (Sub.cons rfl (Sub.cons rfl (Sub.cons rfl (Sub.nil _))))) (fun _ hw => XM.pick (.cons (.there .here) (.cons (.there .here) (.cons (.there .here) (.cons (.there .here) .nil)))) hw)
        · skip
          (simp; omega)
        · skip
          exact ⟨⟨by simp; omega, by simp; omega⟩, by rw [← hov, show (6 - x.1).toNat = (6 - (x.1 + 1)).toNat + 1 from by omega, ovN_some hs]⟩
      · skip
        refine XC.skip ?_
        refine XE.blockNormal ?_
        refine XE.next ?_
        refine XC.keep [(0, _), (3, _), (4, _), (5, _), (8, _), (13, _), (14, _), (15, _)] (Sub.cons rfl (Sub.cons rfl (Sub.cons rfl (Sub.cons rfl (Sub.cons rfl (Sub.cons rfl (Sub.cons rfl (Sub.cons rfl (Sub.nil _))))))))) ?_
        refine XC.region ?_
        refine XO.v (V.add rfl rfl _ (IntWalk.i64_in _ (by omega))) rfl ?_
        refine XO.v (V.move rfl) rfl ?_
        refine XO.nil ?_
        refine XE.again (i + 1) ?_ ?_ (Sub.cons rfl (Sub.cons rfl (Sub.cons rfl (Sub.cons rfl (Sub.cons rfl (Sub.cons rfl (Sub.cons rfl (Sub.cons rfl (Sub.nil _))))))))) (fun _ hw => XM.pick (.cons (.there .here) (.cons (.there .here) (.cons (.there .here) (.cons (.there .here) .nil)))) hw)
        · skip
          (first | omega | (simp; done) | (simp; omega))
        · skip
          refine ⟨⟨by omega, by omega⟩, fun j a b => ?_⟩
          by_cases e : j = i
          · subst e; assumption
          · exact hno j a (by omega)
    · skip
      have hs := ov1_none (l := l) (w := x.2) (fun j a b => hno j a (by omega))
      refine XC.exit ?_
      refine XE.thenExit ?_
      refine XE.thenExit ?_
      refine XE.blockExit ?_
      refine XE.next ?_
      refine XC.keep [(0, _), (3, _), (4, _), (5, _), (8, _)] (Sub.cons rfl (Sub.cons rfl (Sub.cons rfl (Sub.cons rfl (Sub.cons rfl (Sub.nil _)))))) ?_
      refine XC.seq ?_
      refine XC.region ?_
      refine XO.v (V.move rfl) rfl ?_
      refine XO.v (V.not rfl) rfl ?_
      refine XO.nil ?_
      refine XE.next ?_
      refine XC.keep [(0, _), (3, _), (4, _), (8, _), (27, _)] (Sub.cons rfl (Sub.cons rfl (Sub.cons rfl (Sub.cons rfl (Sub.cons rfl (Sub.nil _)))))) ?_
      refine XC.condT rfl rfl ?_
      refine XC.exit ?_
      refine XE.blockOther rfl ?_
      refine XE.thenExit ?_
      refine XE.thenExit ?_
      refine XE.blockExit ?_
      refine XE.next ?_
      refine XC.keep [(3, _), (4, _)] (Sub.cons rfl (Sub.cons rfl (Sub.nil _))) ?_
      refine XC.seq ?_
      refine XC.region ?_
      refine XO.v (V.loadAgg rfl (inXM .here) (encW.agg _) ag_42 sz_42_2) rfl ?_
      refine XO.storeAgg rfl rfl (.there .here) (encW.st _ _) ⟨rfl, rfl⟩ sz_42_2 ?_
      refine XO.nil ?_
      refine XE.next ?_
      refine XC.keep [(4, _)] (Sub.cons rfl (Sub.nil _)) ?_
      refine XC.ret ?_
      refine XE.retG1 rfl (.agg rfl (.there .here) (encW.agg _) ag_42 sz_42_2) (post_of (.cons (.there (.there .here)) (.cons (.there (.there .here)) .nil)) rfl ?_)
      exact ⟨by rw [← hov, ovN_none hs], rfl⟩
  · skip
    refine XC.exit ?_
    refine XE.thenExit ?_
    refine XE.thenExit ?_
    refine XE.blockExit ?_
    refine XE.next ?_
    refine XC.keep [(3, _), (4, _)] (Sub.cons rfl (Sub.cons rfl (Sub.nil _))) ?_
    refine XC.seq ?_
    refine XC.region ?_
    refine XO.v (V.loadAgg rfl (inXM .here) (encW.agg _) ag_42 sz_42_2) rfl ?_
    refine XO.storeAgg rfl rfl (.there .here) (encW.st _ _) ⟨rfl, rfl⟩ sz_42_2 ?_
    refine XO.nil ?_
    refine XE.next ?_
    refine XC.keep [(4, _)] (Sub.cons rfl (Sub.nil _)) ?_
    refine XC.ret ?_
    refine XE.retG1 rfl (.agg rfl (.there .here) (encW.agg _) ag_42 sz_42_2) (post_of (.cons (.there (.there .here)) (.cons (.there (.there .here)) .nil)) rfl ?_)
    have e6 : x.1 = 6 := by omega
    exact ⟨by rw [← hov, e6]; rfl, rfl⟩
set_option maxRecDepth 10000 in
set_option maxHeartbeats 2000000 in
theorem m_Split (x : ByteArray) (hx : x.size ≤ 1000000) : Spec Tryd.prog 32 [.string x]
    []
    (fun v H1 => (splitE x = 9 ∧ v = .tuple #[.slice none 0 0, .iface 68 (.int .i64 9)] ∧ H1 = []) ∨ (splitE x = 0 ∧ ∃ q c, v = .tuple #[.slice q (splitV x).length c, .nilIface] ∧ H1 = [srow q c 9 (splitV x)])) := by
  refine Spec.intro Tryd.func32 rfl rfl ?_
  intro W
  refine XC.seq ?_
  refine XC.region ?_
  refine XO.v (V.assign rfl) rfl ?_
  refine XO.v (V.assign rfl) rfl ?_
  refine XO.nil ?_
  refine XE.next ?_
  refine XC.keep [(0, _)] (Sub.cons rfl (Sub.nil _)) ?_
  refine XC.seq ?_
  refine XC.seq ?_
  refine XC.region ?_
  refine XO.v (V.move rfl) rfl ?_
  refine XO.v (V.lenStr rfl Tryd.underlying9) rfl ?_
  refine XO.v (V.cmp rfl rfl rfl) rfl ?_
  refine XO.v (V.move rfl) rfl ?_
  refine XO.splitP (d := 10) rfl (fun h1 => ?_) (fun h1 => ?_)
  · skip
    refine XO.guardSkip rfl rfl rfl rfl rfl ?_
    refine XO.guardSkip rfl rfl rfl rfl rfl ?_
    refine XO.v (V.pick rfl rfl rfl rfl) rfl ?_
    refine XO.v (V.move rfl) rfl ?_
    refine XO.guardSkip rfl rfl rfl rfl rfl ?_
    refine XO.guardSkip rfl rfl rfl rfl rfl ?_
    refine XO.guardSkip rfl rfl rfl rfl rfl ?_
    refine XO.v (V.pick rfl rfl rfl rfl) rfl ?_
    refine XO.nil ?_
    refine XE.next ?_
    refine XC.keep [(0, _), (18, _)] (Sub.cons rfl (Sub.cons rfl (Sub.nil _))) ?_
    refine XC.condT rfl rfl ?_
    refine XC.seq ?_
    refine XC.region ?_
    refine XO.v (V.makeIface rfl Tryd.underlying68 (by simp)) rfl ?_
    refine XO.v (V.assign rfl) rfl ?_
    refine XO.v (V.assign rfl) rfl ?_
    refine XO.nil ?_
    refine XE.next ?_
    refine XC.keep [(2, _), (3, _)] (Sub.cons rfl (Sub.cons rfl (Sub.nil _))) ?_
    refine XC.ret ?_
    refine XE.thenRet ?_
    refine XE.ret2 rfl rfl rfl (post_of .nil rfl ?_)
    exact .inl ⟨splitE_cond (.inl (by omega)), rfl, rfl⟩
  · skip
    have hx6 : ¬ 60 < x.size := by omega
    refine XO.guardRun rfl rfl rfl ?_
    refine XO.v (V.move rfl) rfl ?_
    refine XO.guardRun rfl rfl rfl ?_
    refine XO.v (V.strCmp rfl rfl rfl) rfl ?_
    refine XO.v (V.pick rfl rfl rfl rfl) rfl ?_
    refine XO.v (V.move rfl) rfl ?_
    refine XO.splitP (d := 14) rfl (fun h2 => ?_) (fun h2 => ?_)
    · skip
      refine XO.guardSkip rfl rfl rfl rfl rfl ?_
      refine XO.guardSkip rfl rfl rfl rfl rfl ?_
      refine XO.guardSkip rfl rfl rfl rfl rfl ?_
      refine XO.v (V.pick rfl rfl rfl rfl) rfl ?_
      refine XO.nil ?_
      refine XE.next ?_
      refine XC.keep [(0, _), (18, _)] (Sub.cons rfl (Sub.cons rfl (Sub.nil _))) ?_
      refine XC.condT rfl rfl ?_
      refine XC.seq ?_
      refine XC.region ?_
      refine XO.v (V.makeIface rfl Tryd.underlying68 (by simp)) rfl ?_
      refine XO.v (V.assign rfl) rfl ?_
      refine XO.v (V.assign rfl) rfl ?_
      refine XO.nil ?_
      refine XE.next ?_
      refine XC.keep [(2, _), (3, _)] (Sub.cons rfl (Sub.cons rfl (Sub.nil _))) ?_
      refine XC.ret ?_
      refine XE.thenRet ?_
      refine XE.ret2 rfl rfl rfl (post_of .nil rfl ?_)
      exact .inl ⟨splitE_cond (.inr (.inl (by assumption))), rfl, rfl⟩
    · skip
      have hne : ¬ x = ⟨#[]⟩ := by assumption
      obtain ⟨u, hu⟩ := get_some (s := x) (j := (0 : Int).toNat) (by have h0 : ¬ x.size = 0 := fun q => hne (size_nil.2 q)
                                                                     show 0 < x.size; omega)
      have hg : x.get! 0 = u := get_of hu
      refine XO.guardRun rfl rfl rfl ?_
      refine XO.v (V.move rfl) rfl ?_
      refine XO.guardRun rfl rfl rfl ?_
      refine XO.v (V.indexStr rfl rfl Tryd.underlying9 (by omega) hu) rfl ?_
      refine XO.guardRun rfl rfl rfl ?_
      refine XO.v (V.cmp rfl rfl rfl) rfl ?_
      refine XO.v (V.pick rfl rfl rfl rfl) rfl ?_
      refine XO.nil ?_
      refine XE.next ?_
      refine XC.keep [(0, _), (18, _)] (Sub.cons rfl (Sub.cons rfl (Sub.nil _))) ?_
      refine XC.condP rfl (fun h3 => ?_) (fun h3 => ?_)
      · skip
        refine XC.seq ?_
        refine XC.region ?_
        refine XO.v (V.makeIface rfl Tryd.underlying68 (by simp)) rfl ?_
        refine XO.v (V.assign rfl) rfl ?_
        refine XO.v (V.assign rfl) rfl ?_
        refine XO.nil ?_
        refine XE.next ?_
        refine XC.keep [(2, _), (3, _)] (Sub.cons rfl (Sub.cons rfl (Sub.nil _))) ?_
        refine XC.ret ?_
        refine XE.thenRet ?_
        refine XE.ret2 rfl rfl rfl (post_of .nil rfl ?_)
        exact .inl ⟨splitE_cond (.inr (.inr (fun q => (by assumption : ¬ ((u.toNat : Nat) : Int) = 47) (by rw [hg] at q; rw [q]; rfl)))), rfl, rfl⟩
      · skip
        have hc : ¬ (60 < x.size ∨ x = ⟨#[]⟩ ∨ x.get! 0 ≠ 47) := by
          rintro (a | a | a)
          · omega
          · exact hne a
          · exact a (by rw [hg]; exact UInt8.toNat_inj.1 (by show u.toNat = 47; omega))
        have hx1 : 1 ≤ x.size := by
          have h0 : ¬ x.size = 0 := fun q => hne (size_nil.2 q)
          omega
        refine XC.skip ?_
        refine XE.next ?_
        refine XC.keep [(0, _)] (Sub.cons rfl (Sub.nil _)) ?_
        refine XC.seq ?_
        refine XC.seq ?_
        refine XC.region ?_
        refine XO.v (V.move rfl) rfl ?_
        refine XO.v (V.strCmp rfl rfl rfl) rfl ?_
        refine XO.nil ?_
        refine XE.next ?_
        refine XC.keep [(0, _), (21, _)] (Sub.cons rfl (Sub.cons rfl (Sub.nil _))) ?_
        refine XC.condP rfl (fun h4 => ?_) (fun h4 => ?_)
        · skip
          refine XC.seq ?_
          refine XC.region ?_
          refine XO.v (V.assign rfl) rfl ?_
          refine XO.nilRow 9 1 ?_
          refine XO.v (V.assign rfl) rfl ?_
          refine XO.nil ?_
          refine XE.next ?_
          refine XC.keep [(2, _), (3, _)] (Sub.cons rfl (Sub.cons rfl (Sub.nil _))) ?_
          refine XC.ret ?_
          refine XE.thenRet ?_
          refine XE.ret2 rfl rfl rfl (post_of (.cons .here .nil) rfl ?_)
          have hsl : x = slash := by assumption
          have e := splitE_slash hsl
          exact .inr ⟨e.1, none, 0, by rw [e.2]; rfl, by rw [e.2]; rfl⟩
        · skip
          have hsl : ¬ x = slash := by assumption
          refine XC.skip ?_
          refine XE.next ?_
          refine XC.keep [(0, _)] (Sub.cons rfl (Sub.nil _)) ?_
          refine XC.seq ?_
          refine XC.region ?_
          refine XO.v (V.move rfl) rfl ?_
          refine XO.v (V.sliceFrom rfl rfl Tryd.underlying9 ⟨by omega, by omega⟩) rfl ?_
          refine XO.call rfl (s_split _ (by rw [ByteArray.size_extract]; omega)) .nil cl_43 rfl ?_
          rintro _ _ ⟨b1, rfl, rfl⟩
          have hps : ((1 : Int).toNat) = 1 := rfl
          refine XO.v (V.assign rfl) rfl ?_
          refine XO.nil ?_
          refine XE.next ?_
          refine XC.keep [(4, _)] (Sub.cons rfl (Sub.nil _)) ?_
          refine XC.seq ?_
          refine XC.seq ?_
          refine XC.region ?_
          refine XO.v (V.move rfl) rfl ?_
          refine XO.v (V.lenSl rfl Tryd.underlying61) rfl ?_
          refine XO.v (V.move rfl) rfl ?_
          refine XO.nil ?_
          refine XE.next ?_
          refine XC.keep [(4, _), (25, _), (26, _), (27, _)] (Sub.cons rfl (Sub.cons rfl (Sub.cons rfl (Sub.cons rfl (Sub.nil _))))) ?_
          refine XC.block ?_
          refine XC.loop (σ := Int) (fun i => ((pieces (x.extract 1 x.size)).length - i).toNat) (fun i => (0 ≤ i ∧ i ≤ (pieces (x.extract 1 x.size)).length) ∧ ∀ j : Int, 0 ≤ j → j < i → partOk (sat0 (pieces (x.extract 1 x.size)) j) = true) (fun i => [(27, .int .i64 i), (4, .slice (some ⟨b1, 0, none⟩) (pieces (x.extract 1 x.size)).length (pieces (x.extract 1 x.size)).length), (25, .slice (some ⟨b1, 0, none⟩) (pieces (x.extract 1 x.size)).length (pieces (x.extract 1 x.size)).length), (26, .int .i64 (pieces (x.extract 1 x.size)).length)]) (fun i => XM W (foot []) [srow (some ⟨b1, 0, none⟩) (pieces (x.extract 1 x.size)).length 9 (pieces (x.extract 1 x.size))]) (0) ?_ (Sub.cons rfl (Sub.cons rfl (Sub.cons rfl (Sub.cons rfl (Sub.nil _))))) (fun _ hw => XM.pick (.cons .here .nil) hw) ?_
          · skip
            exact ⟨⟨by omega, by omega⟩, fun j a b => by omega⟩
          intro i hi
          obtain ⟨⟨hi0, hi1⟩, hok⟩ := hi
          have hpc := pieces_cnt (x.extract 1 x.size)
          rw [ByteArray.size_extract] at hpc
          refine XC.seq ?_
          refine XC.region ?_
          refine XO.v (V.cmp rfl rfl rfl) rfl ?_
          refine XO.nil ?_
          refine XE.next ?_
          refine XC.keep [(4, _), (25, _), (26, _), (27, _), (28, _)] (Sub.cons rfl (Sub.cons rfl (Sub.cons rfl (Sub.cons rfl (Sub.cons rfl (Sub.nil _)))))) ?_
          refine XC.seq ?_
          refine XC.condP rfl (fun h5 => ?_) (fun h5 => ?_)
          · skip
            refine XC.skip ?_
            refine XE.next ?_
            refine XC.keep [(4, _), (25, _), (26, _), (27, _)] (Sub.cons rfl (Sub.cons rfl (Sub.cons rfl (Sub.cons rfl (Sub.nil _))))) ?_
            refine XC.seq ?_
            refine XC.block ?_
            refine XC.seq ?_
            refine XC.region ?_
            refine XO.v (V.indexSl rfl rfl sl_61 (by omega)) rfl ?_
            refine XO.v (V.loadRow rfl (inXM .here) (strs_at (by omega)) sc_9) rfl ?_
            refine XO.v (V.assign rfl) rfl ?_
            refine XO.nil ?_
            refine XE.next ?_
            refine XC.keep [(4, _), (6, _), (25, _), (26, _), (27, _)] (Sub.cons rfl (Sub.cons rfl (Sub.cons rfl (Sub.cons rfl (Sub.cons rfl (Sub.nil _)))))) ?_
            refine XC.seq ?_
            refine XC.region ?_
            refine XO.v (V.move rfl) rfl ?_
            refine XO.v (V.strCmp rfl rfl rfl) rfl ?_
            refine XO.v (V.move rfl) rfl ?_
            refine XO.splitP (d := 33) rfl (fun h6 => ?_) (fun h6 => ?_)
            · skip
              refine XO.guardRun rfl rfl rfl ?_
              refine XO.v (V.move rfl) rfl ?_
              refine XO.guardRun rfl rfl rfl ?_
              refine XO.call rfl (t_Name _ (by have := pieces_le (x.extract 1 x.size) (z := i) ⟨by omega, by omega⟩; rw [ByteArray.size_extract] at this; omega)) .nil cl_22 rfl ?_
              rintro _ _ ⟨rfl, rfl⟩
              refine XO.guardRun rfl rfl rfl ?_
              refine XO.v (V.not rfl) rfl ?_
              refine XO.v (V.pick rfl rfl rfl rfl) rfl ?_
              refine XO.nil ?_
              refine XE.next ?_
              refine XC.keep [(4, _), (25, _), (26, _), (27, _), (37, _)] (Sub.cons rfl (Sub.cons rfl (Sub.cons rfl (Sub.cons rfl (Sub.cons rfl (Sub.nil _)))))) ?_
              refine XC.cond rfl (fun h7 => ?_) (fun h7 => ?_)
              · try simp only [sb] at h7
                refine XC.seq ?_
                refine XC.region ?_
                refine XO.v (V.makeIface rfl Tryd.underlying68 (by simp)) rfl ?_
                refine XO.v (V.assign rfl) rfl ?_
                refine XO.v (V.assign rfl) rfl ?_
                refine XO.nil ?_
                refine XE.next ?_
                refine XC.keep [(2, _), (3, _)] (Sub.cons rfl (Sub.cons rfl (Sub.nil _))) ?_
                refine XC.ret ?_
                refine XE.blockRet ?_
                refine XE.thenRet ?_
                refine XE.thenRet ?_
                refine XE.blockRet ?_
                refine XE.thenRet ?_
                refine XE.ret2 rfl rfl rfl (post_of .nil rfl ?_)
                exact .inl ⟨splitE_bad hc hsl (i := i) ⟨hi0, by omega⟩ (by unfold partOk; simp_all [dd]), rfl, rfl⟩
              · try simp only [sb] at h7
                refine XC.skip ?_
                refine XE.blockNormal ?_
                refine XE.next ?_
                refine XC.keep [(4, _), (25, _), (26, _), (27, _)] (Sub.cons rfl (Sub.cons rfl (Sub.cons rfl (Sub.cons rfl (Sub.nil _))))) ?_
                refine XC.region ?_
                refine XO.v (V.add rfl rfl _ (IntWalk.i64_in _ (by omega))) rfl ?_
                refine XO.v (V.move rfl) rfl ?_
                refine XO.nil ?_
                refine XE.again (i + 1) ?_ ?_ (Sub.cons rfl (Sub.cons rfl (Sub.cons rfl (Sub.cons rfl (Sub.nil _))))) (fun _ hw => XM.pick (.cons .here .nil) hw)
                · skip
                  (first | omega | (simp; done) | (simp; omega))
                · skip
                  refine ⟨⟨by omega, by omega⟩, fun j a b => ?_⟩
                  by_cases e : j = i
                  · subst e; unfold partOk; simp_all [dd]
                  · exact hok j a (by omega)
            · skip
              refine XO.guardSkip rfl rfl rfl rfl rfl ?_
              refine XO.guardSkip rfl rfl rfl rfl rfl ?_
              refine XO.guardSkip rfl rfl rfl rfl rfl ?_
              refine XO.v (V.pick rfl rfl rfl rfl) rfl ?_
              refine XO.nil ?_
              refine XE.next ?_
              refine XC.keep [(4, _), (25, _), (26, _), (27, _), (37, _)] (Sub.cons rfl (Sub.cons rfl (Sub.cons rfl (Sub.cons rfl (Sub.cons rfl (Sub.nil _)))))) ?_
              refine XC.condF rfl rfl ?_
              refine XC.skip ?_
              refine XE.blockNormal ?_
              refine XE.next ?_
              refine XC.keep [(4, _), (25, _), (26, _), (27, _)] (Sub.cons rfl (Sub.cons rfl (Sub.cons rfl (Sub.cons rfl (Sub.nil _))))) ?_
              refine XC.region ?_
              refine XO.v (V.add rfl rfl _ (IntWalk.i64_in _ (by omega))) rfl ?_
              refine XO.v (V.move rfl) rfl ?_
              refine XO.nil ?_
              refine XE.again (i + 1) ?_ ?_ (Sub.cons rfl (Sub.cons rfl (Sub.cons rfl (Sub.cons rfl (Sub.nil _))))) (fun _ hw => XM.pick (.cons .here .nil) hw)
              · skip
                (first | omega | (simp; done) | (simp; omega))
              · skip
                refine ⟨⟨by omega, by omega⟩, fun j a b => ?_⟩
                by_cases e : j = i
                · subst e; unfold partOk; simp_all [dd]
                · exact hok j a (by omega)
          · skip
            refine XC.exit ?_
            refine XE.thenExit ?_
            refine XE.thenExit ?_
            refine XE.blockExit ?_
            refine XE.next ?_
            refine XC.keep [(4, _)] (Sub.cons rfl (Sub.nil _)) ?_
            refine XC.seq ?_
            refine XC.region ?_
            refine XO.v (V.move rfl) rfl ?_
            refine XO.v (V.assign rfl) rfl ?_
            refine XO.v (V.assign rfl) rfl ?_
            refine XO.nil ?_
            refine XE.next ?_
            refine XC.keep [(2, _), (3, _)] (Sub.cons rfl (Sub.cons rfl (Sub.nil _))) ?_
            refine XC.ret ?_
            refine XE.ret2 rfl rfl rfl (post_of (.cons .here .nil) rfl ?_)
            have e := splitE_good hc hsl (fun j a b => hok j a (by omega))
            exact .inr ⟨e.1, _, _, by rw [e.2], by rw [e.2]⟩
end Go.X
