import Derived.Test.YtmklfkjfgjagaaaGreatDoorXShort
import Derived.Test.YtmklfkjfgjagaaaGreatDoorYNL2
import Derived.Test.YtmklfkjfgjagaaaGreatDoorKSP
import Derived.Test.YtmklfkjfgjagaaaGreatDoorYKSH
namespace Go.X
open Go Go.Proofs
theorem ag_56 : aggT Tryz.prog 56 = true := by kernel_rfl
theorem ag_98 : aggT Tryz.prog 98 = true := by kernel_rfl
theorem cl_86 : callable Tryz.prog 86 = true := by kernel_rfl
theorem fo_75_2 : fieldOff Tryz.prog 75 2 = some 3 := by kernel_rfl
theorem fo_98_0 : fieldOff Tryz.prog 98 0 = some 0 := by kernel_rfl
theorem fo_98_1 : fieldOff Tryz.prog 98 1 = some 2 := by kernel_rfl
theorem sc_58 : scal Tryz.prog 58 = true := by kernel_rfl
theorem sl_58 : sliceOf Tryz.prog 58 = some (98, 4) := by kernel_rfl
theorem sz_56_2 : szOf Tryz.prog 56 = some 2 := by kernel_rfl
theorem sz_98_4 : szOf Tryz.prog 98 = some 4 := by kernel_rfl

theorem whEq : (Tryz.prog.underlying 56 = some (.struct (Tryz.prog.fieldsOf 56)) ∧ Tryz.prog.stoodInHeld 56 = false) ∧ Tryz.prog.eqGuardType Tryz.prog.depth 56 = false ∧ two Tryz.prog 56 = true := ⟨⟨by kernel_rfl, by kernel_rfl⟩, by kernel_rfl, by kernel_rfl⟩
theorem s_split (s : ByteArray) (hs : s.size ≤ 1000000) : Spec Tryz.prog 86 [.string s, .string ⟨#[47]⟩] [] (fun v H1 => ∃ b, v = .slice (some ⟨b, 0, none⟩) (pieces s).length (pieces s).length ∧ H1 = [srow (some ⟨b, 0, none⟩) (pieces s).length 9 (pieces s)]) :=
  split_spec Go.Proofs.tryzSplit (by kernel_rfl) s hs
set_option maxRecDepth 10000 in
set_option maxHeartbeats 2000000 in
theorem m_over (bt bf : Nat) (r : WH) (l : List MT) (p : Option Addr) (cap k c : Nat) (C : Nat → Value) (hv : RV.ok ⟨p, cap, k, l.length, c, C⟩) (hC : MC C l) (hm6 : l.length ≤ 6) (w : WH) : Spec Tryz.prog 92 [ptr bt 0 0, .agg (WH.arr w)]
    [.cells bt 0 4 (encT bf r (.slice p l.length c)), frow p cap 98 4 k C]
    (fun v H1 => v = .agg (WH.arr (over l w)) ∧ H1 = [.cells bt 0 4 (encT bf r (.slice p l.length c)), frow p cap 98 4 k C]) := by
 have hlk := RV.ok_le hv
 have hlk : l.length ≤ k := hlk
 refine Spec.intro Tryz.func92 rfl rfl ?_
 intro W
 refine XC.sr ?_
 refine XO.box (m := 2) (C := encW (w)) rfl rfl (encW.box _) rfl ?_
 intro bw
 refine XO.allocZ (z := .agg (WH.arr WH.nil)) (m := 2) (C := encW WH.nil) (by kernel_rfl) rfl (encW.box _) rfl ?_
 intro br
 refine XO.nk [(0, _), (3, _), (4, _)] (S3 rfl rfl rfl) ?_
 refine XC.seq ?_
 refine XC.sr ?_
 refine XO.mv rfl rfl ?_
 refine XO.nk [(0, _), (3, _), (4, _), (8, _)] (S4 rfl rfl rfl rfl) ?_
 refine XC.block ?_
 refine XC.loop (σ := Int × WH) (fun x => (6 - x.1).toNat) (fun x => (0 ≤ x.1 ∧ x.1 ≤ 6) ∧ ovN l (6 - x.1).toNat x.2 = over l w) (fun x => [(8, .int .i64 x.1), (0, ptr bt 0 0), (3, ptr bw 0 0), (4, ptr br 0 0)]) (fun x => XM W (foot [.cells bt 0 4 (encT bf r (.slice p l.length c)), frow p cap 98 4 k C]) [.cells bw 0 2 (encW x.2), .cells br 0 2 (encW WH.nil), .cells bt 0 4 (encT bf r (.slice p l.length c)), frow p cap 98 4 k C]) ((0, w)) ?_ (S4 rfl rfl rfl rfl) (fun _ hw => XM.pick (.cons (.there .here) .h3) hw) ?_
 ·
  exact ⟨⟨by simp, by simp⟩, rfl⟩
 intro x hx
 obtain ⟨⟨hx0, hx1⟩, hov⟩ := hx
 refine XC.sr ?_
 refine XO.v (V.cmp rfl rfl rfl) rfl ?_
 refine XO.nk [(0, _), (3, _), (4, _), (8, _), (9, _)] (S5 rfl rfl rfl rfl rfl) ?_
 refine XC.seq ?_
 refine XC.condP rfl (fun h1 => ?_) (fun h1 => ?_)
 ·
  refine XC.skip ?_
  refine XE.next ?_
  refine XC.keep [(0, _), (3, _), (4, _), (8, _)] (S4 rfl rfl rfl rfl) ?_
  refine XC.seq ?_
  refine XC.block ?_
  refine XC.sr ?_
  refine XO.as rfl rfl ?_
  refine XO.nk [(0, _), (3, _), (4, _), (5, _), (8, _)] (S5 rfl rfl rfl rfl rfl) ?_
  refine XC.seq ?_
  refine XC.sr ?_
  refine XO.mv rfl rfl ?_
  refine XO.v (V.nilCheckP rfl) rfl ?_
  refine XO.v (V.fieldAddr rfl fo_75_2) rfl ?_
  refine XO.v (V.load rfl (inXM (.t2 .here)) (encT.ld2 _ _) sc_58) rfl ?_
  refine XO.v (V.lenSl rfl Tryz.underlying58) rfl ?_
  refine XO.mv rfl rfl ?_
  refine XO.nk [(0, _), (3, _), (4, _), (5, _), (8, _), (13, _), (14, _), (15, _)] (S8 rfl rfl rfl rfl rfl rfl rfl rfl) ?_
  refine XC.block ?_
  refine XC.loop (σ := Int) (fun i => (l.length - i).toNat) (fun i => (0 ≤ i ∧ i ≤ l.length) ∧ ∀ j : Int, 0 ≤ j → j < i → (mat l j).at_ ≠ x.2) (fun i => [(5, .bool false), (15, .int .i64 i), (0, ptr bt 0 0), (3, ptr bw 0 0), (4, ptr br 0 0), (8, .int .i64 x.1), (13, .slice p l.length c), (14, .int .i64 l.length)]) (fun i => XM W (foot [.cells bt 0 4 (encT bf r (.slice p l.length c)), frow p cap 98 4 k C]) [.cells bw 0 2 (encW x.2), .cells br 0 2 (encW WH.nil), .cells bt 0 4 (encT bf r (.slice p l.length c)), frow p cap 98 4 k C]) (0) ?_ (S8 rfl rfl rfl rfl rfl rfl rfl rfl) (fun _ hw => XM.pick .h4 hw) ?_
  ·
   exact ⟨⟨by omega, by omega⟩, fun j a b => by omega⟩
  intro i hi
  obtain ⟨⟨hi0, hi1⟩, hno⟩ := hi
  refine XC.sr ?_
  refine XO.v (V.cmp rfl rfl rfl) rfl ?_
  refine XO.nk [(0, _), (3, _), (4, _), (5, _), (8, _), (13, _), (14, _), (15, _), (16, _)] (Sub.cons rfl (S8 rfl rfl rfl rfl rfl rfl rfl rfl)) ?_
  refine XC.seq ?_
  refine XC.condP rfl (fun h2 => ?_) (fun h2 => ?_)
  ·
   refine XC.skip ?_
   refine XE.next ?_
   refine XC.keep [(0, _), (3, _), (4, _), (5, _), (8, _), (13, _), (14, _), (15, _)] (S8 rfl rfl rfl rfl rfl rfl rfl rfl) ?_
   refine XC.seq ?_
   refine XC.block ?_
   refine XC.sr ?_
   refine XO.openRow (.t3 .here) (by omega) ?_
   intro g hg
   subst hg
   refine XO.v (V.indexSl rfl rfl sl_58 (by omega)) rfl ?_
   refine XO.v (V.loadFA rfl (inXM (.t3 .here)) (hC.ld hlk _ (by omega)) ag_98 sz_98_4) rfl ?_
   refine XO.allocZ (z := .agg (MT.arr MT.nil)) (m := 4) (C := encMt MT.nil) (by kernel_rfl) rfl (encMt.box _) rfl ?_
   intro bm
   refine XO.storeAgg rfl rfl .here (encMt.st _ _) ⟨rfl, rfl⟩ sz_98_4 ?_
   refine XO.nk [(0, _), (3, _), (4, _), (5, _), (7, _), (8, _), (13, _), (14, _), (15, _)] (Sub.cons rfl (S8 rfl rfl rfl rfl rfl rfl rfl rfl)) ?_
   refine XC.sr ?_
   refine XO.v (V.fieldAddr rfl fo_98_0) rfl ?_
   refine XO.v (V.loadAgg rfl (inXM .here) (encMt.ldA _) ag_56 sz_56_2) rfl ?_
   refine XO.v (V.loadAgg rfl (inXM (.there .here)) (encW.agg _) ag_56 sz_56_2) rfl ?_
   refine XO.v (V.eqW rfl rfl whEq) rfl ?_
   refine XO.nk [(0, _), (3, _), (4, _), (5, _), (7, _), (8, _), (13, _), (14, _), (15, _), (22, _)] (Sub.cons rfl (Sub.cons rfl (S8 rfl rfl rfl rfl rfl rfl rfl rfl))) ?_
   refine XC.condP rfl (fun h3 => ?_) (fun h3 => ?_)
   ·
    have hs := ov1_some (l := l) ⟨by omega, by omega⟩ hno h3
    refine XC.sr ?_
    refine XO.v (V.fieldAddr rfl fo_98_1) rfl ?_
    refine XO.v (V.loadAgg rfl (inXM .here) (encMt.ldT _) ag_56 sz_56_2) rfl ?_
    refine XO.storeAgg rfl rfl (.there .here) (encW.st _ _) ⟨rfl, rfl⟩ sz_56_2 ?_
    refine XO.as rfl rfl ?_
    refine XO.nk [(0, _), (3, _), (4, _), (5, _), (8, _)] (S5 rfl rfl rfl rfl rfl) ?_
    refine XC.exit ?_
    refine XE.blockOther rfl ?_
    refine XE.thenExit ?_
    refine XE.thenExit ?_
    refine XE.blockExit ?_
    refine XE.next ?_
    refine XC.keep [(0, _), (3, _), (4, _), (5, _), (8, _)] (S5 rfl rfl rfl rfl rfl) ?_
    refine XC.sr ?_
    refine XO.mv rfl rfl ?_
    refine XO.v (V.not rfl) rfl ?_
    refine XO.nk [(0, _), (3, _), (4, _), (8, _), (27, _)] (S5 rfl rfl rfl rfl rfl) ?_
    refine XC.condF rfl rfl ?_
    refine XC.skip ?_
    refine XE.blockNormal ?_
    refine XE.next ?_
    refine XC.keep [(0, _), (3, _), (4, _), (8, _)] (S4 rfl rfl rfl rfl) ?_
    refine XC.region ?_
    refine XO.v (V.add rfl rfl _ (IntWalk.i64_in _ (by omega))) rfl ?_
    refine XO.mv rfl rfl ?_
    refine XO.nil ?_
    refine XE.again ((x.1 + 1, (mat l i).to)) ?_ ?_ (S4 rfl rfl rfl rfl) (fun _ hw => XM.pick (.cons (.there .here) (.cons (.there .here) (.cons (.there .here) (.cons (.there .here) .nil)))) hw)
    ·
     (simp; omega)
    ·
     exact ⟨⟨by simp; omega, by simp; omega⟩, by rw [← hov, show (6 - x.1).toNat = (6 - (x.1 + 1)).toNat + 1 from by omega, ovN_some hs]⟩
   ·
    refine XC.skip ?_
    refine XE.blockNormal ?_
    refine XE.next ?_
    refine XC.keep [(0, _), (3, _), (4, _), (5, _), (8, _), (13, _), (14, _), (15, _)] (S8 rfl rfl rfl rfl rfl rfl rfl rfl) ?_
    refine XC.region ?_
    refine XO.v (V.add rfl rfl _ (IntWalk.i64_in _ (by omega))) rfl ?_
    refine XO.mv rfl rfl ?_
    refine XO.nil ?_
    refine XE.again (i + 1) ?_ ?_ (S8 rfl rfl rfl rfl rfl rfl rfl rfl) (fun _ hw => XM.pick (.cons (.there .here) (.cons (.there .here) (.cons (.there .here) (.cons (.there .here) .nil)))) hw)
    ·
     (first | omega | (simp; done) | (simp; omega))
    ·
     refine ⟨⟨by omega, by omega⟩, fun j a b => ?_⟩
     by_cases e : j = i
     ·
      subst e; assumption
     ·
      exact hno j a (by omega)
  ·
   have hs := ov1_none (l := l) (w := x.2) (fun j a b => hno j a (by omega))
   refine XC.exit ?_
   refine XE.thenExit ?_
   refine XE.thenExit ?_
   refine XE.blockExit ?_
   refine XE.next ?_
   refine XC.keep [(0, _), (3, _), (4, _), (5, _), (8, _)] (S5 rfl rfl rfl rfl rfl) ?_
   refine XC.sr ?_
   refine XO.mv rfl rfl ?_
   refine XO.v (V.not rfl) rfl ?_
   refine XO.nk [(0, _), (3, _), (4, _), (8, _), (27, _)] (S5 rfl rfl rfl rfl rfl) ?_
   refine XC.condT rfl rfl ?_
   refine XC.exit ?_
   refine XE.blockOther rfl ?_
   refine XE.thenExit ?_
   refine XE.thenExit ?_
   refine XE.blockExit ?_
   refine XE.next ?_
   refine XC.keep [(3, _), (4, _)] (S2 rfl rfl) ?_
   refine XC.sr ?_
   refine XO.v (V.loadAgg rfl (inXM .here) (encW.agg _) ag_56 sz_56_2) rfl ?_
   refine XO.storeAgg rfl rfl (.there .here) (encW.st _ _) ⟨rfl, rfl⟩ sz_56_2 ?_
   refine XO.nk [(4, _)] (S1 rfl) ?_
   refine XC.ret ?_
   refine XE.retG1 rfl (.agg rfl (.there .here) (encW.agg _) ag_56 sz_56_2) (post_of (.cons (.t2 .here) (.cons (.t2 .here) .nil)) rfl ?_)
   exact ⟨by rw [← hov, ovN_none hs], rfl⟩
 ·
  refine XC.exit ?_
  refine XE.thenExit ?_
  refine XE.thenExit ?_
  refine XE.blockExit ?_
  refine XE.next ?_
  refine XC.keep [(3, _), (4, _)] (S2 rfl rfl) ?_
  refine XC.sr ?_
  refine XO.v (V.loadAgg rfl (inXM .here) (encW.agg _) ag_56 sz_56_2) rfl ?_
  refine XO.storeAgg rfl rfl (.there .here) (encW.st _ _) ⟨rfl, rfl⟩ sz_56_2 ?_
  refine XO.nk [(4, _)] (S1 rfl) ?_
  refine XC.ret ?_
  refine XE.retG1 rfl (.agg rfl (.there .here) (encW.agg _) ag_56 sz_56_2) (post_of (.cons (.t2 .here) (.cons (.t2 .here) .nil)) rfl ?_)
  have e6 : x.1 = 6 := by omega
  exact ⟨by rw [← hov, e6]; rfl, rfl⟩
set_option maxRecDepth 10000 in
set_option maxHeartbeats 2000000 in
theorem m_Split (x : ByteArray) (hx : x.size ≤ 1000000) : Spec Tryz.prog 56 [.string x]
    []
    (fun v H1 => (splitE x = 9 ∧ v = .tuple #[.slice none 0 0, .iface 76 (.int .i64 9)] ∧ H1 = []) ∨ (splitE x = 0 ∧ ∃ q c, v = .tuple #[.slice q (splitV x).length c, .nilIface] ∧ H1 = [srow q c 9 (splitV x)])) := by
  refine Spec.intro Tryz.func56 rfl rfl ?_
  intro W
  refine XC.sr ?_
  refine XO.as rfl rfl ?_
  refine XO.as rfl rfl ?_
  refine XO.nk [(0, _)] (S1 rfl) ?_
  refine XC.seq ?_
  refine XC.sr ?_
  refine XO.mv rfl rfl ?_
  refine XO.v (V.lenStr rfl Tryz.underlying9) rfl ?_
  refine XO.v (V.cmp rfl rfl rfl) rfl ?_
  refine XO.mv rfl rfl ?_
  refine XO.splitP (d := 10) rfl (fun h1 => ?_) (fun h1 => ?_)
  · skip
    refine XO.guardSkip rfl rfl rfl rfl rfl ?_
    refine XO.guardSkip rfl rfl rfl rfl rfl ?_
    refine XO.v (V.pick rfl rfl rfl rfl) rfl ?_
    refine XO.mv rfl rfl ?_
    refine XO.guardSkip rfl rfl rfl rfl rfl ?_
    refine XO.guardSkip rfl rfl rfl rfl rfl ?_
    refine XO.guardSkip rfl rfl rfl rfl rfl ?_
    refine XO.v (V.pick rfl rfl rfl rfl) rfl ?_
    refine XO.nk [(0, _), (18, _)] (S2 rfl rfl) ?_
    refine XC.condT rfl rfl ?_
    refine XC.sr ?_
    refine XO.v (V.makeIface rfl Tryz.underlying76 (by simp)) rfl ?_
    refine XO.as rfl rfl ?_
    refine XO.as rfl rfl ?_
    refine XO.nk [(2, _), (3, _)] (S2 rfl rfl) ?_
    refine XC.ret ?_
    refine XE.thenRet ?_
    refine XE.ret2 rfl rfl rfl (post_of .nil rfl ?_)
    exact .inl ⟨splitE_cond (.inl (by omega)), rfl, rfl⟩
  · skip
    have hx6 : ¬ 60 < x.size := by omega
    refine XO.guardRun rfl rfl rfl ?_
    refine XO.mv rfl rfl ?_
    refine XO.guardRun rfl rfl rfl ?_
    refine XO.v (V.strCmp rfl rfl rfl) rfl ?_
    refine XO.v (V.pick rfl rfl rfl rfl) rfl ?_
    refine XO.mv rfl rfl ?_
    refine XO.splitP (d := 14) rfl (fun h2 => ?_) (fun h2 => ?_)
    · skip
      refine XO.guardSkip rfl rfl rfl rfl rfl ?_
      refine XO.guardSkip rfl rfl rfl rfl rfl ?_
      refine XO.guardSkip rfl rfl rfl rfl rfl ?_
      refine XO.v (V.pick rfl rfl rfl rfl) rfl ?_
      refine XO.nk [(0, _), (18, _)] (S2 rfl rfl) ?_
      refine XC.condT rfl rfl ?_
      refine XC.sr ?_
      refine XO.v (V.makeIface rfl Tryz.underlying76 (by simp)) rfl ?_
      refine XO.as rfl rfl ?_
      refine XO.as rfl rfl ?_
      refine XO.nk [(2, _), (3, _)] (S2 rfl rfl) ?_
      refine XC.ret ?_
      refine XE.thenRet ?_
      refine XE.ret2 rfl rfl rfl (post_of .nil rfl ?_)
      exact .inl ⟨splitE_cond (.inr (.inl (by assumption))), rfl, rfl⟩
    · skip
      have hne : ¬ x = ⟨#[]⟩ := by assumption
      obtain ⟨u, hu⟩ := get_some (s := x) (j := (0 : Int).toNat) (by have h0 : ¬ x.size = 0 := fun q => hne (size_nil.2 q)
                                                                     show 0 < x.size; omega)
      have hg : x.get! 0 = u := get_of hu
      refine XO.guardRun rfl rfl rfl ?_
      refine XO.mv rfl rfl ?_
      refine XO.guardRun rfl rfl rfl ?_
      refine XO.v (V.indexStr rfl rfl Tryz.underlying9 (by omega) hu) rfl ?_
      refine XO.guardRun rfl rfl rfl ?_
      refine XO.v (V.cmp rfl rfl rfl) rfl ?_
      refine XO.v (V.pick rfl rfl rfl rfl) rfl ?_
      refine XO.nk [(0, _), (18, _)] (S2 rfl rfl) ?_
      refine XC.condP rfl (fun h3 => ?_) (fun h3 => ?_)
      · skip
        refine XC.sr ?_
        refine XO.v (V.makeIface rfl Tryz.underlying76 (by simp)) rfl ?_
        refine XO.as rfl rfl ?_
        refine XO.as rfl rfl ?_
        refine XO.nk [(2, _), (3, _)] (S2 rfl rfl) ?_
        refine XC.ret ?_
        refine XE.thenRet ?_
        refine XE.ret2 rfl rfl rfl (post_of .nil rfl ?_)
        exact .inl ⟨splitE_cond (.inr (.inr (fun q => (by assumption : ¬ ((u.toNat : Nat) : Int) = 47) (by rw [hg] at q; rw [q]; rfl)))), rfl, rfl⟩
      · skip
        have hc : ¬ (60 < x.size ∨ x = ⟨#[]⟩ ∨ x.get! 0 ≠ 47) := by
          rintro (a | a | a)
          · omega
          · exact hne a
          · exact a (by rw [hg]; exact UInt8.toNat_inj.1 (by show u.toNat = 47; omega))
        have hx1 : 1 ≤ x.size := by
          have h0 : ¬ x.size = 0 := fun q => hne (size_nil.2 q)
          omega
        refine XC.skip ?_
        refine XE.next ?_
        refine XC.keep [(0, _)] (S1 rfl) ?_
        refine XC.seq ?_
        refine XC.sr ?_
        refine XO.mv rfl rfl ?_
        refine XO.v (V.strCmp rfl rfl rfl) rfl ?_
        refine XO.nk [(0, _), (21, _)] (S2 rfl rfl) ?_
        refine XC.condP rfl (fun h4 => ?_) (fun h4 => ?_)
        · skip
          refine XC.sr ?_
          refine XO.as rfl rfl ?_
          refine XO.nilRow 9 1 ?_
          refine XO.as rfl rfl ?_
          refine XO.nk [(2, _), (3, _)] (S2 rfl rfl) ?_
          refine XC.ret ?_
          refine XE.thenRet ?_
          refine XE.ret2 rfl rfl rfl (post_of .h1 rfl ?_)
          have hsl : x = slash := by assumption
          have e := splitE_slash hsl
          exact .inr ⟨e.1, none, 0, by rw [e.2]; rfl, by rw [e.2]; rfl⟩
        · skip
          have hsl : ¬ x = slash := by assumption
          refine XC.skip ?_
          refine XE.next ?_
          refine XC.keep [(0, _)] (S1 rfl) ?_
          refine XC.sr ?_
          refine XO.mv rfl rfl ?_
          refine XO.v (V.sliceFrom rfl rfl Tryz.underlying9 ⟨by omega, by omega⟩) rfl ?_
          refine XO.call rfl (s_split _ (by rw [ByteArray.size_extract]; omega)) .nil cl_86 rfl ?_
          rintro _ _ ⟨b1, rfl, rfl⟩
          have hps : ((1 : Int).toNat) = 1 := rfl
          refine XO.as rfl rfl ?_
          refine XO.nk [(4, _)] (S1 rfl) ?_
          refine XC.seq ?_
          refine XC.sr ?_
          refine XO.mv rfl rfl ?_
          refine XO.v (V.lenSl rfl Tryz.underlying28) rfl ?_
          refine XO.mv rfl rfl ?_
          refine XO.nk [(4, _), (25, _), (26, _), (27, _)] (S4 rfl rfl rfl rfl) ?_
          refine XC.block ?_
          refine XC.loop (σ := Int) (fun i => ((pieces (x.extract 1 x.size)).length - i).toNat) (fun i => (0 ≤ i ∧ i ≤ (pieces (x.extract 1 x.size)).length) ∧ ∀ j : Int, 0 ≤ j → j < i → partOk (sat0 (pieces (x.extract 1 x.size)) j) = true) (fun i => [(27, .int .i64 i), (4, .slice (some ⟨b1, 0, none⟩) (pieces (x.extract 1 x.size)).length (pieces (x.extract 1 x.size)).length), (25, .slice (some ⟨b1, 0, none⟩) (pieces (x.extract 1 x.size)).length (pieces (x.extract 1 x.size)).length), (26, .int .i64 (pieces (x.extract 1 x.size)).length)]) (fun i => XM W (foot []) [srow (some ⟨b1, 0, none⟩) (pieces (x.extract 1 x.size)).length 9 (pieces (x.extract 1 x.size))]) (0) ?_ (S4 rfl rfl rfl rfl) (fun _ hw => XM.pick .h1 hw) ?_
          · skip
            exact ⟨⟨by omega, by omega⟩, fun j a b => by omega⟩
          intro i hi
          obtain ⟨⟨hi0, hi1⟩, hok⟩ := hi
          have hpc := pieces_cnt (x.extract 1 x.size)
          rw [ByteArray.size_extract] at hpc
          refine XC.sr ?_
          refine XO.v (V.cmp rfl rfl rfl) rfl ?_
          refine XO.nk [(4, _), (25, _), (26, _), (27, _), (28, _)] (S5 rfl rfl rfl rfl rfl) ?_
          refine XC.seq ?_
          refine XC.condP rfl (fun h5 => ?_) (fun h5 => ?_)
          · skip
            refine XC.skip ?_
            refine XE.next ?_
            refine XC.keep [(4, _), (25, _), (26, _), (27, _)] (S4 rfl rfl rfl rfl) ?_
            refine XC.seq ?_
            refine XC.block ?_
            refine XC.sr ?_
            refine XO.v (V.indexSl rfl rfl sl_28 (by omega)) rfl ?_
            refine XO.v (V.loadRow rfl (inXM .here) (strs_at (by omega)) sc_9) rfl ?_
            refine XO.as rfl rfl ?_
            refine XO.nk [(4, _), (6, _), (25, _), (26, _), (27, _)] (S5 rfl rfl rfl rfl rfl) ?_
            refine XC.sr ?_
            refine XO.mv rfl rfl ?_
            refine XO.v (V.strCmp rfl rfl rfl) rfl ?_
            refine XO.mv rfl rfl ?_
            refine XO.splitP (d := 33) rfl (fun h6 => ?_) (fun h6 => ?_)
            · skip
              refine XO.guardRun rfl rfl rfl ?_
              refine XO.mv rfl rfl ?_
              refine XO.guardRun rfl rfl rfl ?_
              refine XO.call rfl (t_Name _ (by have := pieces_le (x.extract 1 x.size) (z := i) ⟨by omega, by omega⟩; rw [ByteArray.size_extract] at this; omega)) .nil cl_87 rfl ?_
              rintro _ _ ⟨rfl, rfl⟩
              refine XO.guardRun rfl rfl rfl ?_
              refine XO.v (V.not rfl) rfl ?_
              refine XO.v (V.pick rfl rfl rfl rfl) rfl ?_
              refine XO.nk [(4, _), (25, _), (26, _), (27, _), (37, _)] (S5 rfl rfl rfl rfl rfl) ?_
              refine XC.cond rfl (fun h7 => ?_) (fun h7 => ?_)
              · try simp only [sb] at h7
                refine XC.sr ?_
                refine XO.v (V.makeIface rfl Tryz.underlying76 (by simp)) rfl ?_
                refine XO.as rfl rfl ?_
                refine XO.as rfl rfl ?_
                refine XO.nk [(2, _), (3, _)] (S2 rfl rfl) ?_
                refine XC.ret ?_
                refine XE.blockRet ?_
                refine XE.thenRet ?_
                refine XE.thenRet ?_
                refine XE.blockRet ?_
                refine XE.thenRet ?_
                refine XE.ret2 rfl rfl rfl (post_of .nil rfl ?_)
                exact .inl ⟨splitE_bad hc hsl (i := i) ⟨hi0, by omega⟩ (by unfold partOk; simp_all [dd]), rfl, rfl⟩
              · try simp only [sb] at h7
                refine XC.skip ?_
                refine XE.blockNormal ?_
                refine XE.next ?_
                refine XC.keep [(4, _), (25, _), (26, _), (27, _)] (S4 rfl rfl rfl rfl) ?_
                refine XC.region ?_
                refine XO.v (V.add rfl rfl _ (IntWalk.i64_in _ (by omega))) rfl ?_
                refine XO.mv rfl rfl ?_
                refine XO.nil ?_
                refine XE.again (i + 1) ?_ ?_ (S4 rfl rfl rfl rfl) (fun _ hw => XM.pick .h1 hw)
                · skip
                  (first | omega | (simp; done) | (simp; omega))
                · skip
                  refine ⟨⟨by omega, by omega⟩, fun j a b => ?_⟩
                  by_cases e : j = i
                  · subst e; unfold partOk; simp_all [dd]
                  · exact hok j a (by omega)
            · skip
              refine XO.guardSkip rfl rfl rfl rfl rfl ?_
              refine XO.guardSkip rfl rfl rfl rfl rfl ?_
              refine XO.guardSkip rfl rfl rfl rfl rfl ?_
              refine XO.v (V.pick rfl rfl rfl rfl) rfl ?_
              refine XO.nk [(4, _), (25, _), (26, _), (27, _), (37, _)] (S5 rfl rfl rfl rfl rfl) ?_
              refine XC.condF rfl rfl ?_
              refine XC.skip ?_
              refine XE.blockNormal ?_
              refine XE.next ?_
              refine XC.keep [(4, _), (25, _), (26, _), (27, _)] (S4 rfl rfl rfl rfl) ?_
              refine XC.region ?_
              refine XO.v (V.add rfl rfl _ (IntWalk.i64_in _ (by omega))) rfl ?_
              refine XO.mv rfl rfl ?_
              refine XO.nil ?_
              refine XE.again (i + 1) ?_ ?_ (S4 rfl rfl rfl rfl) (fun _ hw => XM.pick .h1 hw)
              · skip
                (first | omega | (simp; done) | (simp; omega))
              · skip
                refine ⟨⟨by omega, by omega⟩, fun j a b => ?_⟩
                by_cases e : j = i
                · subst e; unfold partOk; simp_all [dd]
                · exact hok j a (by omega)
          · skip
            refine XC.exit ?_
            refine XE.thenExit ?_
            refine XE.thenExit ?_
            refine XE.blockExit ?_
            refine XE.next ?_
            refine XC.keep [(4, _)] (S1 rfl) ?_
            refine XC.sr ?_
            refine XO.mv rfl rfl ?_
            refine XO.as rfl rfl ?_
            refine XO.as rfl rfl ?_
            refine XO.nk [(2, _), (3, _)] (S2 rfl rfl) ?_
            refine XC.ret ?_
            refine XE.ret2 rfl rfl rfl (post_of .h1 rfl ?_)
            have e := splitE_good hc hsl (fun j a b => hok j a (by omega))
            exact .inr ⟨e.1, _, _, by rw [e.2], by rw [e.2]⟩
end Go.X
