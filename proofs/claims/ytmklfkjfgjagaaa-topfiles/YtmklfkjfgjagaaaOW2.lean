import Derived.Test.YtmklfkjfgjagaaaOW
namespace Go.X
open Go Go.Proofs
theorem ag_114 : aggT Try.prog 114 = true := by kernel_rfl
theorem cl_71 : callable Try.prog 71 = true := by kernel_rfl
theorem cl_72 : callable Try.prog 72 = true := by kernel_rfl
theorem cl_73 : callable Try.prog 73 = true := by kernel_rfl
theorem fo_114_0 : fieldOff Try.prog 114 0 = some 0 := by kernel_rfl
theorem fo_114_1 : fieldOff Try.prog 114 1 = some 1 := by kernel_rfl
theorem fo_114_2 : fieldOff Try.prog 114 2 = some 2 := by kernel_rfl
theorem fo_114_3 : fieldOff Try.prog 114 3 = some 3 := by kernel_rfl
theorem fo_117_1 : fieldOff Try.prog 117 1 = some 1 := by kernel_rfl
theorem sc_4 : scal Try.prog 4 = true := by kernel_rfl
theorem sc_67 : scal Try.prog 67 = true := by kernel_rfl

def arrO (bf bp : Nat) : Array Value := ((List.range 122).map (encO bf bp OS.void)).toArray
theorem arrO_size (bf bp : Nat) : (arrO bf bp).size = 122 := by simp [arrO]
theorem arrO_box (bf bp : Nat) : ∀ i, i < 122 → cellsOf (arrO bf bp) i = encO bf bp OS.void i := fun i hi => by simp [cellsOf, arrO, hi]
set_option maxRecDepth 10000 in
set_option maxHeartbeats 4000000 in
theorem f_Write (bo oo bf bp : Nat) (O : OS) (J : Int) (hJ : J ≤ 1000000) (hO : O.Inv J) (s : FC) (hI : s.toFF.Sh) (K : Int) (hK : K ≤ 1000000) (q : PS) (hq : q.Inv K) (n : Int) (x : ByteArray) (hx : x.size ≤ 1000000) : Spec Try.prog 35 [ptr bo oo 0, .int .i64 n, .string x]
    [.cells bo oo 122 (encO bf bp O), .cells bf 0 321 (encF s), .fam fam40 (FC.rowsN 9 s), .fam fam40 (FC.rowsK 3 s), .cells bp 0 24 (encP q)]
    (fun v H1 => v = .tuple #[.int .i64 (owriteV s.toFF q O n x), errv 100 (owriteE s.toFF q O n x)] ∧ ∃ t : FC, t.toFF = owriteF s.toFF O n x ∧ t.rP = s.rP ∧ t.rC = s.rC ∧ H1 = [.cells bo oo 122 (encO bf bp (owriteO s.toFF O n x)), .cells bf 0 321 (encF t), .fam fam40 (FC.rowsN 9 t), .fam fam40 (FC.rowsK 3 t), .cells bp 0 24 (encP (owriteP q O n x))]) := by
  refine Spec.intro Try.func35 rfl rfl ?_
  intro W
  refine XC.seq ?_
  refine XC.region ?_
  refine XO.v (V.assign rfl) rfl ?_
  refine XO.v (V.assign rfl) rfl ?_
  refine XO.nil ?_
  refine XE.next ?_
  refine XC.keep [(0, _), (1, _), (2, _)] (Sub.cons rfl (Sub.cons rfl (Sub.cons rfl (Sub.nil _)))) ?_
  refine XC.seq ?_
  refine XC.region ?_
  refine XO.v (V.move rfl) rfl ?_
  refine XO.v (V.move rfl) rfl ?_
  refine XO.call rfl (f_is _ _ _ _ _ _) (.cons .here .nil) cl_70 rfl ?_
  rintro _ _ (⟨⟨i0, i1, i2⟩, rfl, rfl⟩ | ⟨i0, rfl, rfl⟩)
  · skip
    refine XO.v (V.move rfl) rfl ?_
    refine XO.v (V.extract rfl rfl) rfl ?_
    refine XO.v (V.extract rfl rfl) rfl ?_
    refine XO.v (V.assign rfl) rfl ?_
    refine XO.v (V.assign rfl) rfl ?_
    refine XO.nil ?_
    refine XE.next ?_
    refine XC.keep [(0, _), (2, _), (8, _), (9, _)] (Sub.cons rfl (Sub.cons rfl (Sub.cons rfl (Sub.cons rfl (Sub.nil _))))) ?_
    refine XC.seq ?_
    refine XC.seq ?_
    refine XC.region ?_
    refine XO.v (V.move rfl) rfl ?_
    refine XO.v (V.nilNil rfl Try.underlying43 rfl) rfl ?_
    refine XO.nil ?_
    refine XE.next ?_
    refine XC.keep [(0, _), (2, _), (8, _), (9, _), (17, _)] (Sub.cons rfl (Sub.cons rfl (Sub.cons rfl (Sub.cons rfl (Sub.cons rfl (Sub.nil _)))))) ?_
    refine XC.condF rfl rfl ?_
    refine XC.skip ?_
    refine XE.next ?_
    refine XC.keep [(0, _), (2, _), (8, _)] (Sub.cons rfl (Sub.cons rfl (Sub.cons rfl (Sub.nil _)))) ?_
    refine XC.seq ?_
    refine XC.block ?_
    refine XC.seq ?_
    refine XC.region ?_
    have hra := hO.refs n i1 i2
    have haa := hO.at_ n i1 i2
    have hka := hO.kind n i1 i2 (OS.is_0 i0).2.2
    refine XO.v (V.move rfl) rfl ?_
    refine XO.v (V.nilCheckP rfl) rfl ?_
    refine XO.v (V.fieldAddr rfl fo_114_0) rfl ?_
    refine XO.v (V.load rfl (inXM .here) (encO.ld_o_kind _ _ (by omega)) sc_3) rfl ?_
    refine XO.v (V.cmp rfl rfl rfl) rfl ?_
    refine XO.v (V.assign rfl) rfl ?_
    refine XO.nil ?_
    refine XE.next ?_
    refine XC.keep [(0, _), (2, _), (8, _), (19, _)] (Sub.cons rfl (Sub.cons rfl (Sub.cons rfl (Sub.cons rfl (Sub.nil _))))) ?_
    refine XC.condP rfl (fun h1 => ?_) (fun h1 => ?_)
    · skip
      refine XC.seq ?_
      refine XC.regionQ mixed (f := 14) (l := #[false, false, false, false, false, false, false, false, false, false, false, false, false, false]) rfl rfl XM.drawn' ?_
      refine XQ.pv (i := 0) (l' := #[true, false, false, false, false, false, false, false, false, false, false, false, false, false]) rfl (by kernel_rfl) rfl (V.move rfl) rfl rfl ?_
      refine XQ.pv (i := 1) (l' := #[true, true, false, false, false, false, false, false, false, false, false, false, false, false]) rfl (by kernel_rfl) rfl (V.nilCheckP rfl) rfl rfl ?_
      refine XQ.pv (i := 2) (l' := #[true, true, true, false, false, false, false, false, false, false, false, false, false, false]) rfl (by kernel_rfl) rfl (V.fieldAddr rfl fo_117_1) rfl rfl ?_
      refine XQ.load (i := 3) (l' := #[true, true, true, true, false, false, false, false, false, false, false, false, false, false]) (.cells _ _ _ _) [9] rfl (by kernel_rfl) rfl .here (V.load rfl inEnt (encO.ld_p _) sc_67) rfl (by kernel_rfl) rfl ?_
      refine XQ.pv (i := 4) (l' := #[true, true, true, true, true, false, false, false, false, false, false, false, false, false]) rfl (by kernel_rfl) rfl (V.move rfl) rfl rfl ?_
      refine XQ.pv (i := 5) (l' := #[true, true, true, true, true, true, false, false, false, false, false, false, false, false]) rfl (by kernel_rfl) rfl (V.nilCheckP rfl) rfl rfl ?_
      refine XQ.pv (i := 6) (l' := #[true, true, true, true, true, true, true, false, false, false, false, false, false, false]) rfl (by kernel_rfl) rfl (V.fieldAddr rfl fo_114_1) rfl rfl ?_
      refine XQ.load (i := 7) (l' := #[true, true, true, true, true, true, true, true, false, false, false, false, false, false]) (.cells _ _ _ _) [9] rfl (by kernel_rfl) rfl .here (V.load rfl inEnt (encO.ld_o_n _ _ (by omega)) sc_3) rfl (by kernel_rfl) rfl ?_
      refine XQ.pv (i := 8) (l' := #[true, true, true, true, true, true, true, true, true, false, false, false, false, false]) rfl (by kernel_rfl) rfl (V.move rfl) rfl rfl ?_
      refine XQ.call (i := 9) (l' := #[true, true, true, true, true, true, true, true, true, true, false, false, false, false]) rfl (by kernel_rfl) rfl rfl (p_Write _ _ K hK q hq _ _ hx) (.cons (.there (.there (.there (.there .here)))) .nil) cl_71 rfl (by rintro _ _ ⟨rfl, rfl⟩; all_goals (intro _ hw'; exact ⟨fun hs => (hs 9 (by first | (simp; done) | (simp; rfl)) rfl).elim, fun hs => (hs 9 (by first | (simp; done) | (simp; rfl)) rfl).elim, trivial⟩)) ?_
      rintro _ _ ⟨rfl, rfl⟩
      refine XQ.pv (i := 10) (l' := #[true, true, true, true, true, true, true, true, true, true, true, false, false, false]) rfl (by kernel_rfl) rfl (V.extract rfl rfl) rfl rfl ?_
      refine XQ.pv (i := 11) (l' := #[true, true, true, true, true, true, true, true, true, true, true, true, false, false]) rfl (by kernel_rfl) rfl (V.extract rfl rfl) rfl rfl ?_
      refine XQ.pv (i := 12) (l' := #[true, true, true, true, true, true, true, true, true, true, true, true, true, false]) rfl (by kernel_rfl) rfl (V.assign rfl) rfl rfl ?_
      refine XQ.pv (i := 13) (l' := #[true, true, true, true, true, true, true, true, true, true, true, true, true, true]) rfl (by kernel_rfl) rfl (V.assign rfl) rfl rfl ?_
      refine XQ.done (by kernel_rfl) ?_
      refine XE.next ?_
      refine XC.keep [(6, _), (7, _)] (Sub.cons rfl (Sub.cons rfl (Sub.nil _))) ?_
      refine XC.ret ?_
      refine XE.blockRet ?_
      refine XE.thenRet ?_
      refine XE.ret2 rfl rfl rfl (post_of (.cons (.there .here) (.cons (.there .here) (.cons (.there .here) (.cons (.there .here) (.cons .here .nil))))) rfl ?_)
      have hk : O.kind n = 3 := by assumption
      have eE : owriteE s.toFF q O n x = (q.write (O.n n) x).2.1 := by unfold owriteE; rw [if_neg (by omega), if_pos hk]
      have eV : owriteV s.toFF q O n x = (q.write (O.n n) x).1 := by unfold owriteV; rw [if_pos ⟨i0, hk⟩]
      have eF : owriteF s.toFF O n x = s.toFF := by unfold owriteF; rw [if_neg (fun h => h.2.1 hk)]
      have eO : owriteO s.toFF O n x = O := by unfold owriteO; rw [if_neg (fun h => h.1.2.1 hk)]
      have eP : owriteP q O n x = (q.write (O.n n) x).2.2 := by unfold owriteP; rw [if_pos ⟨i0, hk⟩]
      exact ⟨by rw [eE, eV], s, by rw [eF], rfl, rfl, by rw [eO, eP]⟩
    · skip
      refine XC.seq ?_
      refine XC.region ?_
      refine XO.v (V.move rfl) rfl ?_
      refine XO.v (V.nilCheckP rfl) rfl ?_
      refine XO.v (V.fieldAddr rfl fo_114_0) rfl ?_
      refine XO.v (V.load rfl (inXM .here) (encO.ld_o_kind _ _ (by omega)) sc_3) rfl ?_
      refine XO.v (V.cmp rfl rfl rfl) rfl ?_
      refine XO.v (V.move rfl) rfl ?_
      refine XO.splitP (d := 43) rfl (fun h2 => ?_) (fun h2 => ?_)
      · skip
        refine XO.guardSkip rfl rfl rfl rfl rfl ?_
        refine XO.guardSkip rfl rfl rfl rfl rfl ?_
        refine XO.guardSkip rfl rfl rfl rfl rfl ?_
        refine XO.guardSkip rfl rfl rfl rfl rfl ?_
        refine XO.guardSkip rfl rfl rfl rfl rfl ?_
        refine XO.v (V.pick rfl rfl rfl rfl) rfl ?_
        refine XO.v (V.assign rfl) rfl ?_
        refine XO.nil ?_
        refine XE.next ?_
        refine XC.keep [(0, _), (2, _), (8, _), (37, _)] (Sub.cons rfl (Sub.cons rfl (Sub.cons rfl (Sub.cons rfl (Sub.nil _))))) ?_
        refine XC.condT rfl rfl ?_
        refine XC.seq ?_
        refine XC.region ?_
        refine XO.v (V.makeIface rfl Try.underlying100 (by simp)) rfl ?_
        refine XO.v (V.assign rfl) rfl ?_
        refine XO.v (V.assign rfl) rfl ?_
        refine XO.nil ?_
        refine XE.next ?_
        refine XC.keep [(6, _), (7, _)] (Sub.cons rfl (Sub.cons rfl (Sub.nil _))) ?_
        refine XC.ret ?_
        refine XE.blockRet ?_
        refine XE.thenRet ?_
        refine XE.ret2 rfl rfl rfl (post_of (.cons .here (.cons .here (.cons .here (.cons .here (.cons .here .nil))))) rfl ?_)
        have hk : ¬ O.kind n = 3 := by assumption
        have h2 : O.kind n = 2 := by assumption
        have eE : owriteE s.toFF q O n x = 8 := by unfold owriteE; rw [if_neg (by omega), if_neg hk, if_pos (.inl h2)]
        have eV : owriteV s.toFF q O n x = 0 := by unfold owriteV; rw [if_neg (fun h => hk h.2), if_neg (fun h => h.1.2.2 (.inl h2))]
        have eF : owriteF s.toFF O n x = s.toFF := by unfold owriteF; rw [if_neg (fun h => h.2.2 (.inl h2))]
        have eO : owriteO s.toFF O n x = O := by unfold owriteO; rw [if_neg (fun h => h.1.2.2 (.inl h2))]
        have eP : owriteP q O n x = q := by unfold owriteP; rw [if_neg (fun h => hk h.2)]
        exact ⟨by rw [eE, eV]; rfl, s, by rw [eF], rfl, rfl, by rw [eO, eP]⟩
      · skip
        skip
        refine XO.guardRun rfl rfl rfl ?_
        refine XO.v (V.move rfl) rfl ?_
        refine XO.guardRun rfl rfl rfl ?_
        refine XO.v (V.nilCheckP rfl) rfl ?_
        refine XO.guardRun rfl rfl rfl ?_
        refine XO.v (V.fieldAddr rfl fo_114_3) rfl ?_
        refine XO.guardRun rfl rfl rfl ?_
        refine XO.v (V.load rfl (inXM .here) (encO.ld_o_write _ _ (by omega)) sc_4) rfl ?_
        refine XO.guardRun rfl rfl rfl ?_
        refine XO.v (V.not rfl) rfl ?_
        refine XO.v (V.pick rfl rfl rfl rfl) rfl ?_
        refine XO.v (V.assign rfl) rfl ?_
        refine XO.nil ?_
        refine XE.next ?_
        refine XC.keep [(0, _), (2, _), (8, _), (37, _)] (Sub.cons rfl (Sub.cons rfl (Sub.cons rfl (Sub.cons rfl (Sub.nil _))))) ?_
        refine XC.cond rfl (fun h3 => ?_) (fun h3 => ?_)
        · try simp only [sb] at h3
          have hwf : O.write n = false := by simpa using h3
          refine XC.seq ?_
          refine XC.region ?_
          refine XO.v (V.makeIface rfl Try.underlying100 (by simp)) rfl ?_
          refine XO.v (V.assign rfl) rfl ?_
          refine XO.v (V.assign rfl) rfl ?_
          refine XO.nil ?_
          refine XE.next ?_
          refine XC.keep [(6, _), (7, _)] (Sub.cons rfl (Sub.cons rfl (Sub.nil _))) ?_
          refine XC.ret ?_
          refine XE.blockRet ?_
          refine XE.thenRet ?_
          refine XE.ret2 rfl rfl rfl (post_of (.cons .here (.cons .here (.cons .here (.cons .here (.cons .here .nil))))) rfl ?_)
          have hk : ¬ O.kind n = 3 := by assumption
          have eE : owriteE s.toFF q O n x = 8 := by unfold owriteE; rw [if_neg (by omega), if_neg hk, if_pos (.inr hwf)]
          have eV : owriteV s.toFF q O n x = 0 := by unfold owriteV; rw [if_neg (fun h => hk h.2), if_neg (fun h => h.1.2.2 (.inr hwf))]
          have eF : owriteF s.toFF O n x = s.toFF := by unfold owriteF; rw [if_neg (fun h => h.2.2 (.inr hwf))]
          have eO : owriteO s.toFF O n x = O := by unfold owriteO; rw [if_neg (fun h => h.1.2.2 (.inr hwf))]
          have eP : owriteP q O n x = q := by unfold owriteP; rw [if_neg (fun h => hk h.2)]
          exact ⟨by rw [eE, eV]; rfl, s, by rw [eF], rfl, rfl, by rw [eO, eP]⟩
        · try simp only [sb] at h3
          have hwt : O.write n = true := by simpa using h3
          refine XC.skip ?_
          refine XE.blockNormal ?_
          refine XE.next ?_
          refine XC.keep [(0, _), (2, _), (8, _)] (Sub.cons rfl (Sub.cons rfl (Sub.cons rfl (Sub.nil _)))) ?_
          refine XC.seq ?_
          refine XC.regionQ mixed (f := 15) (l := #[false, false, false, false, false, false, false, false, false, false, false, false, false, false, false]) rfl rfl XM.drawn' ?_
          refine XQ.pv (i := 0) (l' := #[true, false, false, false, false, false, false, false, false, false, false, false, false, false, false]) rfl (by kernel_rfl) rfl (V.move rfl) rfl rfl ?_
          refine XQ.pv (i := 1) (l' := #[true, true, false, false, false, false, false, false, false, false, false, false, false, false, false]) rfl (by kernel_rfl) rfl (V.nilCheckP rfl) rfl rfl ?_
          refine XQ.pv (i := 2) (l' := #[true, true, true, false, false, false, false, false, false, false, false, false, false, false, false]) rfl (by kernel_rfl) rfl (V.fieldAddr rfl fo_117_0) rfl rfl ?_
          refine XQ.load (i := 3) (l' := #[true, true, true, true, false, false, false, false, false, false, false, false, false, false, false]) (.cells _ _ _ _) [13] rfl (by kernel_rfl) rfl .here (V.load rfl inEnt (encO.ld_f _) sc_25) rfl (by kernel_rfl) rfl ?_
          refine XQ.pv (i := 4) (l' := #[true, true, true, true, true, false, false, false, false, false, false, false, false, false, false]) rfl (by kernel_rfl) rfl (V.move rfl) rfl rfl ?_
          refine XQ.pv (i := 5) (l' := #[true, true, true, true, true, true, false, false, false, false, false, false, false, false, false]) rfl (by kernel_rfl) rfl (V.nilCheckP rfl) rfl rfl ?_
          refine XQ.pv (i := 6) (l' := #[true, true, true, true, true, true, true, false, false, false, false, false, false, false, false]) rfl (by kernel_rfl) rfl (V.fieldAddr rfl fo_114_1) rfl rfl ?_
          refine XQ.load (i := 7) (l' := #[true, true, true, true, true, true, true, true, false, false, false, false, false, false, false]) (.cells _ _ _ _) [13] rfl (by kernel_rfl) rfl .here (V.load rfl inEnt (encO.ld_o_n _ _ (by omega)) sc_3) rfl (by kernel_rfl) rfl ?_
          refine XQ.pv (i := 8) (l' := #[true, true, true, true, true, true, true, true, true, false, false, false, false, false, false]) rfl (by kernel_rfl) rfl (V.move rfl) rfl rfl ?_
          refine XQ.pv (i := 9) (l' := #[true, true, true, true, true, true, true, true, true, true, false, false, false, false, false]) rfl (by kernel_rfl) rfl (V.nilCheckP rfl) rfl rfl ?_
          refine XQ.pv (i := 10) (l' := #[true, true, true, true, true, true, true, true, true, true, true, false, false, false, false]) rfl (by kernel_rfl) rfl (V.fieldAddr rfl fo_114_2) rfl rfl ?_
          refine XQ.load (i := 11) (l' := #[true, true, true, true, true, true, true, true, true, true, true, true, false, false, false]) (.cells _ _ _ _) [13] rfl (by kernel_rfl) rfl .here (V.load rfl inEnt (encO.ld_o_at _ _ (by omega)) sc_3) rfl (by kernel_rfl) rfl ?_
          refine XQ.pv (i := 12) (l' := #[true, true, true, true, true, true, true, true, true, true, true, true, true, false, false]) rfl (by kernel_rfl) rfl (V.move rfl) rfl rfl ?_
          refine XQ.call (i := 13) (l' := #[true, true, true, true, true, true, true, true, true, true, true, true, true, true, false]) rfl (by kernel_rfl) rfl rfl (t_Write _ _ _ hI _ _ _ (by omega)) (.cons (.there .here) (.cons (.there .here) (.cons (.there .here) .nil))) cl_19 rfl (by rintro _ _ ⟨rfl, t, ht, tp, tc, rfl⟩; all_goals (intro _ hw'; exact ⟨fun hs => (hs 13 (by first | (simp; done) | (simp; rfl)) rfl).elim, fun hs => (hs 13 (by first | (simp; done) | (simp; rfl)) rfl).elim, fun hs => (hs 13 (by first | (simp; done) | (simp; rfl)) rfl).elim, trivial⟩)) ?_
          rintro _ _ ⟨rfl, t, ht, tp, tc, rfl⟩
          refine XQ.pv (i := 14) (l' := #[true, true, true, true, true, true, true, true, true, true, true, true, true, true, true]) rfl (by kernel_rfl) rfl (V.assign rfl) rfl rfl ?_
          refine XQ.done (by kernel_rfl) ?_
          refine XE.next ?_
          refine XC.keep [(2, _), (8, _), (9, _)] (Sub.cons rfl (Sub.cons rfl (Sub.cons rfl (Sub.nil _)))) ?_
          refine XC.seq ?_
          refine XC.seq ?_
          refine XC.region ?_
          refine XO.v (V.move rfl) rfl ?_
          refine XO.v (V.errNil rfl Try.underlying43 rfl) rfl ?_
          refine XO.nil ?_
          refine XE.next ?_
          refine XC.keep [(2, _), (8, _), (9, _), (66, _)] (Sub.cons rfl (Sub.cons rfl (Sub.cons rfl (Sub.cons rfl (Sub.nil _))))) ?_
          refine XC.condP rfl (fun h4 => ?_) (fun h4 => ?_)
          · skip
            refine XC.seq ?_
            refine XC.region ?_
            refine XO.v (V.move rfl) rfl ?_
            refine XO.v (V.assign rfl) rfl ?_
            refine XO.v (V.assign rfl) rfl ?_
            refine XO.nil ?_
            refine XE.next ?_
            refine XC.keep [(6, _), (7, _)] (Sub.cons rfl (Sub.cons rfl (Sub.nil _))) ?_
            refine XC.ret ?_
            refine XE.thenRet ?_
            refine XE.ret2 rfl rfl rfl (post_of (.cons (.there (.there (.there .here))) (.cons .here (.cons .here (.cons .here (.cons .here .nil))))) rfl ?_)
            have hk : ¬ O.kind n = 3 := by assumption
            have h2 : ¬ O.kind n = 2 := by assumption
            have hfw : fileW O n := ⟨i0, hk, fun h => by rcases h with h | h; exact h2 h; rw [hwt] at h; cases h⟩
            have hwe : s.toFF.writeE (O.n n) (O.at_ n) x ≠ 0 := by assumption
            have eE : owriteE s.toFF q O n x = s.toFF.writeE (O.n n) (O.at_ n) x := by unfold owriteE; rw [if_neg (by omega), if_neg hk, if_neg hfw.2.2]
            have eV : owriteV s.toFF q O n x = 0 := by unfold owriteV; rw [if_neg (fun h => hk h.2), if_neg (fun h => hwe h.2)]
            have eF : owriteF s.toFF O n x = s.toFF.write (O.n n) (O.at_ n) x := by unfold owriteF; rw [if_pos hfw]
            have eO : owriteO s.toFF O n x = O := by unfold owriteO; rw [if_neg (fun h => hwe h.2)]
            have eP : owriteP q O n x = q := by unfold owriteP; rw [if_neg (fun h => hk h.2)]
            exact ⟨by rw [eE, eV], t, by rw [eF]; exact ht, tp, tc, by rw [eO, eP]⟩
          · skip
            refine XC.skip ?_
            refine XE.next ?_
            refine XC.keep [(2, _), (8, _)] (Sub.cons rfl (Sub.cons rfl (Sub.nil _))) ?_
            refine XC.seq ?_
            refine XC.region ?_
            refine XO.v (V.move rfl) rfl ?_
            refine XO.v (V.nilCheckP rfl) rfl ?_
            refine XO.v (V.fieldAddr rfl fo_114_2) rfl ?_
            refine XO.v (V.load rfl (inXM (.there (.there (.there .here)))) (encO.ld_o_at _ _ (by omega)) sc_3) rfl ?_
            refine XO.v (V.move rfl) rfl ?_
            refine XO.v (V.lenStr rfl Try.underlying9) rfl ?_
            refine XO.v (V.add rfl rfl _ (IntWalk.i64_in _ (by omega))) rfl ?_
            refine XO.v (V.nilCheckP rfl) rfl ?_
            refine XO.v (V.fieldAddr rfl fo_114_2) rfl ?_
            refine XO.store rfl rfl (.there (.there (.there .here))) (encO.st_o_at _ _ (by omega) _) rfl sz_3_1 ?_
            refine XO.nil ?_
            refine XE.next ?_
            refine XC.keep [(2, _)] (Sub.cons rfl (Sub.nil _)) ?_
            refine XC.seq ?_
            refine XC.region ?_
            refine XO.v (V.move rfl) rfl ?_
            refine XO.v (V.lenStr rfl Try.underlying9) rfl ?_
            refine XO.v (V.assign rfl) rfl ?_
            refine XO.v (V.assign rfl) rfl ?_
            refine XO.nil ?_
            refine XE.next ?_
            refine XC.keep [(6, _), (7, _)] (Sub.cons rfl (Sub.cons rfl (Sub.nil _))) ?_
            refine XC.ret ?_
            refine XE.ret2 rfl rfl rfl (post_of (.cons (.there (.there (.there .here))) (.cons .here (.cons .here (.cons .here (.cons .here .nil))))) rfl ?_)
            have hk : ¬ O.kind n = 3 := by assumption
            have h2 : ¬ O.kind n = 2 := by assumption
            have hfw : fileW O n := ⟨i0, hk, fun h => by rcases h with h | h; exact h2 h; rw [hwt] at h; cases h⟩
            have hwe : s.toFF.writeE (O.n n) (O.at_ n) x = 0 := Decidable.byContradiction (by assumption)
            have eE : owriteE s.toFF q O n x = 0 := by unfold owriteE; rw [if_neg (by omega), if_neg hk, if_neg hfw.2.2, hwe]
            have eV : owriteV s.toFF q O n x = (x.size : Int) := by unfold owriteV; rw [if_neg (fun h => hk h.2), if_pos ⟨hfw, hwe⟩]
            have eF : owriteF s.toFF O n x = s.toFF.write (O.n n) (O.at_ n) x := by unfold owriteF; rw [if_pos hfw]
            have eO : owriteO s.toFF O n x = O.move n (x.size) := by unfold owriteO; rw [if_pos ⟨hfw, hwe⟩]
            have eP : owriteP q O n x = q := by unfold owriteP; rw [if_neg (fun h => hk h.2)]
            exact ⟨by rw [eE, eV]; rfl, t, by rw [eF]; exact ht, tp, tc, by rw [eO, eP]; rfl⟩
  · skip
    refine XO.v (V.move rfl) rfl ?_
    refine XO.v (V.extract rfl rfl) rfl ?_
    refine XO.v (V.extract rfl rfl) rfl ?_
    refine XO.v (V.assign rfl) rfl ?_
    refine XO.v (V.assign rfl) rfl ?_
    refine XO.nil ?_
    refine XE.next ?_
    refine XC.keep [(0, _), (2, _), (8, _), (9, _)] (Sub.cons rfl (Sub.cons rfl (Sub.cons rfl (Sub.cons rfl (Sub.nil _))))) ?_
    refine XC.seq ?_
    refine XC.seq ?_
    refine XC.region ?_
    refine XO.v (V.move rfl) rfl ?_
    refine XO.v (V.ifaceNil rfl Try.underlying43 rfl) rfl ?_
    refine XO.nil ?_
    refine XE.next ?_
    refine XC.keep [(0, _), (2, _), (8, _), (9, _), (17, _)] (Sub.cons rfl (Sub.cons rfl (Sub.cons rfl (Sub.cons rfl (Sub.cons rfl (Sub.nil _)))))) ?_
    refine XC.condT rfl rfl ?_
    refine XC.seq ?_
    refine XC.region ?_
    refine XO.v (V.move rfl) rfl ?_
    refine XO.v (V.assign rfl) rfl ?_
    refine XO.v (V.assign rfl) rfl ?_
    refine XO.nil ?_
    refine XE.next ?_
    refine XC.keep [(6, _), (7, _)] (Sub.cons rfl (Sub.cons rfl (Sub.nil _))) ?_
    refine XC.ret ?_
    refine XE.thenRet ?_
    refine XE.ret2 rfl rfl rfl (post_of (.cons .here (.cons .here (.cons .here (.cons .here (.cons .here .nil))))) rfl ?_)
    have eE : owriteE s.toFF q O n x = O.is n := by unfold owriteE; rw [if_pos i0]
    have eV : owriteV s.toFF q O n x = 0 := by unfold owriteV; rw [if_neg (fun h => i0 h.1), if_neg (fun h => i0 h.1.1)]
    have eF : owriteF s.toFF O n x = s.toFF := by unfold owriteF; rw [if_neg (fun h => i0 h.1)]
    have eO : owriteO s.toFF O n x = O := by unfold owriteO; rw [if_neg (fun h => i0 h.1.1)]
    have eP : owriteP q O n x = q := by unfold owriteP; rw [if_neg (fun h => i0 h.1)]
    exact ⟨by rw [eE, eV, errv_pos _ i0], s, by rw [eF], rfl, rfl, by rw [eO, eP]⟩
set_option maxRecDepth 10000 in
set_option maxHeartbeats 4000000 in
theorem f_Read (bo oo bf bp : Nat) (O : OS) (J : Int) (hJ : J ≤ 1000000) (hO : O.Inv J) (s : FC) (hI : s.toFF.Sh) (K : Int) (hK : K ≤ 1000000) (q : PS) (hq : q.Inv K) (n m : Int) : Spec Try.prog 37 [ptr bo oo 0, .int .i64 n, .int .i64 m]
    [.cells bo oo 122 (encO bf bp O), .cells bf 0 321 (encF s), .fam fam40 (FC.rowsN 9 s), .fam fam40 (FC.rowsK 3 s), .cells bp 0 24 (encP q)]
    (fun v H1 => v = .tuple #[.string (oreadV s.toFF q O n m), errv 100 (oreadE s.toFF q O n m)] ∧ H1 = [.cells bo oo 122 (encO bf bp (oreadO s.toFF O n m)), .cells bf 0 321 (encF s), .fam fam40 (FC.rowsN 9 s), .fam fam40 (FC.rowsK 3 s), .cells bp 0 24 (encP (oreadP q O n m))]) := by
  refine Spec.intro Try.func37 rfl rfl ?_
  intro W
  refine XC.seq ?_
  refine XC.region ?_
  refine XO.v (V.assign rfl) rfl ?_
  refine XO.v (V.assign rfl) rfl ?_
  refine XO.nil ?_
  refine XE.next ?_
  refine XC.keep [(0, _), (1, _), (2, _)] (Sub.cons rfl (Sub.cons rfl (Sub.cons rfl (Sub.nil _)))) ?_
  refine XC.seq ?_
  refine XC.region ?_
  refine XO.v (V.move rfl) rfl ?_
  refine XO.v (V.move rfl) rfl ?_
  refine XO.call rfl (f_is _ _ _ _ _ _) (.cons .here .nil) cl_70 rfl ?_
  rintro _ _ (⟨⟨i0, i1, i2⟩, rfl, rfl⟩ | ⟨i0, rfl, rfl⟩)
  · skip
    refine XO.v (V.move rfl) rfl ?_
    refine XO.v (V.extract rfl rfl) rfl ?_
    refine XO.v (V.extract rfl rfl) rfl ?_
    refine XO.v (V.assign rfl) rfl ?_
    refine XO.v (V.assign rfl) rfl ?_
    refine XO.nil ?_
    refine XE.next ?_
    refine XC.keep [(0, _), (2, _), (8, _), (9, _)] (Sub.cons rfl (Sub.cons rfl (Sub.cons rfl (Sub.cons rfl (Sub.nil _))))) ?_
    refine XC.seq ?_
    refine XC.seq ?_
    refine XC.region ?_
    refine XO.v (V.move rfl) rfl ?_
    refine XO.v (V.nilNil rfl Try.underlying43 rfl) rfl ?_
    refine XO.nil ?_
    refine XE.next ?_
    refine XC.keep [(0, _), (2, _), (8, _), (9, _), (18, _)] (Sub.cons rfl (Sub.cons rfl (Sub.cons rfl (Sub.cons rfl (Sub.cons rfl (Sub.nil _)))))) ?_
    refine XC.condF rfl rfl ?_
    refine XC.skip ?_
    refine XE.next ?_
    refine XC.keep [(0, _), (2, _), (8, _)] (Sub.cons rfl (Sub.cons rfl (Sub.cons rfl (Sub.nil _)))) ?_
    refine XC.seq ?_
    refine XC.seq ?_
    refine XC.region ?_
    have hra := hO.refs n i1 i2
    have haa := hO.at_ n i1 i2
    have hka := hO.kind n i1 i2 (OS.is_0 i0).2.2
    refine XO.v (V.move rfl) rfl ?_
    refine XO.v (V.nilCheckP rfl) rfl ?_
    refine XO.v (V.fieldAddr rfl fo_114_0) rfl ?_
    refine XO.v (V.load rfl (inXM .here) (encO.ld_o_kind _ _ (by omega)) sc_3) rfl ?_
    refine XO.nil ?_
    refine XE.next ?_
    refine XC.keep [(0, _), (2, _), (8, _), (23, _)] (Sub.cons rfl (Sub.cons rfl (Sub.cons rfl (Sub.cons rfl (Sub.nil _))))) ?_
    refine XC.block ?_
    refine XC.seq ?_
    refine XC.region ?_
    refine XO.v (V.cmp rfl rfl rfl) rfl ?_
    refine XO.v (V.assign rfl) rfl ?_
    refine XO.nil ?_
    refine XE.next ?_
    refine XC.keep [(0, _), (2, _), (8, _), (23, _), (24, _)] (Sub.cons rfl (Sub.cons rfl (Sub.cons rfl (Sub.cons rfl (Sub.cons rfl (Sub.nil _)))))) ?_
    refine XC.condP rfl (fun h1 => ?_) (fun h1 => ?_)
    · skip
      refine XC.seq ?_
      refine XC.region ?_
      refine XO.v (V.makeIface rfl Try.underlying100 (by simp)) rfl ?_
      refine XO.v (V.assign rfl) rfl ?_
      refine XO.v (V.assign rfl) rfl ?_
      refine XO.nil ?_
      refine XE.next ?_
      refine XC.keep [(6, _), (7, _)] (Sub.cons rfl (Sub.cons rfl (Sub.nil _))) ?_
      refine XC.ret ?_
      refine XE.blockRet ?_
      refine XE.thenRet ?_
      refine XE.ret2 rfl rfl rfl (post_of (.cons .here (.cons .here (.cons .here (.cons .here (.cons .here .nil))))) rfl ?_)
      have hk : O.kind n = 3 := by assumption
      have eE : oreadE s.toFF q O n m = 8 := by unfold oreadE; rw [if_neg (by omega), if_pos hk]
      have eV : oreadV s.toFF q O n m = ⟨#[]⟩ := by unfold oreadV; rw [if_neg (by omega), if_pos hk]
      have eO : oreadO s.toFF O n m = O := by unfold oreadO; rw [if_neg (fun h => h.2.1 hk)]
      have eP : oreadP q O n m = q := by unfold oreadP; rw [if_neg (fun h => by omega)]
      exact ⟨by rw [eE, eV]; rfl, by rw [eO, eP]⟩
    · skip
      refine XC.seq ?_
      refine XC.region ?_
      refine XO.v (V.cmp rfl rfl rfl) rfl ?_
      refine XO.v (V.assign rfl) rfl ?_
      refine XO.nil ?_
      refine XE.next ?_
      refine XC.keep [(0, _), (2, _), (8, _), (27, _)] (Sub.cons rfl (Sub.cons rfl (Sub.cons rfl (Sub.cons rfl (Sub.nil _))))) ?_
      refine XC.condP rfl (fun h2 => ?_) (fun h2 => ?_)
      · skip
        refine XC.seq ?_
        refine XC.regionQ mixed (f := 14) (l := #[false, false, false, false, false, false, false, false, false, false, false, false, false, false]) rfl rfl XM.drawn' ?_
        refine XQ.pv (i := 0) (l' := #[true, false, false, false, false, false, false, false, false, false, false, false, false, false]) rfl (by kernel_rfl) rfl (V.move rfl) rfl rfl ?_
        refine XQ.pv (i := 1) (l' := #[true, true, false, false, false, false, false, false, false, false, false, false, false, false]) rfl (by kernel_rfl) rfl (V.nilCheckP rfl) rfl rfl ?_
        refine XQ.pv (i := 2) (l' := #[true, true, true, false, false, false, false, false, false, false, false, false, false, false]) rfl (by kernel_rfl) rfl (V.fieldAddr rfl fo_117_1) rfl rfl ?_
        refine XQ.load (i := 3) (l' := #[true, true, true, true, false, false, false, false, false, false, false, false, false, false]) (.cells _ _ _ _) [9] rfl (by kernel_rfl) rfl .here (V.load rfl inEnt (encO.ld_p _) sc_67) rfl (by kernel_rfl) rfl ?_
        refine XQ.pv (i := 4) (l' := #[true, true, true, true, true, false, false, false, false, false, false, false, false, false]) rfl (by kernel_rfl) rfl (V.move rfl) rfl rfl ?_
        refine XQ.pv (i := 5) (l' := #[true, true, true, true, true, true, false, false, false, false, false, false, false, false]) rfl (by kernel_rfl) rfl (V.nilCheckP rfl) rfl rfl ?_
        refine XQ.pv (i := 6) (l' := #[true, true, true, true, true, true, true, false, false, false, false, false, false, false]) rfl (by kernel_rfl) rfl (V.fieldAddr rfl fo_114_1) rfl rfl ?_
        refine XQ.load (i := 7) (l' := #[true, true, true, true, true, true, true, true, false, false, false, false, false, false]) (.cells _ _ _ _) [9] rfl (by kernel_rfl) rfl .here (V.load rfl inEnt (encO.ld_o_n _ _ (by omega)) sc_3) rfl (by kernel_rfl) rfl ?_
        refine XQ.pv (i := 8) (l' := #[true, true, true, true, true, true, true, true, true, false, false, false, false, false]) rfl (by kernel_rfl) rfl (V.move rfl) rfl rfl ?_
        refine XQ.call (i := 9) (l' := #[true, true, true, true, true, true, true, true, true, true, false, false, false, false]) rfl (by kernel_rfl) rfl rfl (p_Read _ _ K hK q hq _ _) (.cons (.there (.there (.there (.there .here)))) .nil) cl_73 rfl (by rintro _ _ ⟨rfl, rfl⟩; all_goals (intro _ hw'; exact ⟨fun hs => (hs 9 (by first | (simp; done) | (simp; rfl)) rfl).elim, fun hs => (hs 9 (by first | (simp; done) | (simp; rfl)) rfl).elim, trivial⟩)) ?_
        rintro _ _ ⟨rfl, rfl⟩
        refine XQ.pv (i := 10) (l' := #[true, true, true, true, true, true, true, true, true, true, true, false, false, false]) rfl (by kernel_rfl) rfl (V.extract rfl rfl) rfl rfl ?_
        refine XQ.pv (i := 11) (l' := #[true, true, true, true, true, true, true, true, true, true, true, true, false, false]) rfl (by kernel_rfl) rfl (V.extract rfl rfl) rfl rfl ?_
        refine XQ.pv (i := 12) (l' := #[true, true, true, true, true, true, true, true, true, true, true, true, true, false]) rfl (by kernel_rfl) rfl (V.assign rfl) rfl rfl ?_
        refine XQ.pv (i := 13) (l' := #[true, true, true, true, true, true, true, true, true, true, true, true, true, true]) rfl (by kernel_rfl) rfl (V.assign rfl) rfl rfl ?_
        refine XQ.done (by kernel_rfl) ?_
        refine XE.next ?_
        refine XC.keep [(6, _), (7, _)] (Sub.cons rfl (Sub.cons rfl (Sub.nil _))) ?_
        refine XC.ret ?_
        refine XE.blockRet ?_
        refine XE.thenRet ?_
        refine XE.ret2 rfl rfl rfl (post_of (.cons (.there .here) (.cons (.there .here) (.cons (.there .here) (.cons (.there .here) (.cons .here .nil))))) rfl ?_)
        have hk : ¬ O.kind n = 3 := by assumption
        have h2 : O.kind n = 2 := by assumption
        have eE : oreadE s.toFF q O n m = (q.read (O.n n) m).2.1 := by unfold oreadE; rw [if_neg (by omega), if_neg hk, if_pos h2]
        have eV : oreadV s.toFF q O n m = (q.read (O.n n) m).1 := by unfold oreadV; rw [if_neg (by omega), if_neg hk, if_pos h2]
        have eO : oreadO s.toFF O n m = O := by unfold oreadO; rw [if_neg (fun h => h.2.2 h2)]
        have eP : oreadP q O n m = (q.read (O.n n) m).2.2 := by unfold oreadP; rw [if_pos ⟨i0, h2⟩]
        exact ⟨by rw [eE, eV], by rw [eO, eP]⟩
      · skip
        refine XC.skip ?_
        refine XE.blockNormal ?_
        refine XE.next ?_
        refine XC.keep [(0, _), (2, _), (8, _)] (Sub.cons rfl (Sub.cons rfl (Sub.cons rfl (Sub.nil _)))) ?_
        refine XC.seq ?_
        refine XC.regionQ mixed (f := 19) (l := #[false, false, false, false, false, false, false, false, false, false, false, false, false, false, false, false, false, false, false]) rfl rfl XM.drawn' ?_
        refine XQ.pv (i := 0) (l' := #[true, false, false, false, false, false, false, false, false, false, false, false, false, false, false, false, false, false, false]) rfl (by kernel_rfl) rfl (V.move rfl) rfl rfl ?_
        refine XQ.pv (i := 1) (l' := #[true, true, false, false, false, false, false, false, false, false, false, false, false, false, false, false, false, false, false]) rfl (by kernel_rfl) rfl (V.nilCheckP rfl) rfl rfl ?_
        refine XQ.pv (i := 2) (l' := #[true, true, true, false, false, false, false, false, false, false, false, false, false, false, false, false, false, false, false]) rfl (by kernel_rfl) rfl (V.fieldAddr rfl fo_117_0) rfl rfl ?_
        refine XQ.load (i := 3) (l' := #[true, true, true, true, false, false, false, false, false, false, false, false, false, false, false, false, false, false, false]) (.cells _ _ _ _) [13] rfl (by kernel_rfl) rfl .here (V.load rfl inEnt (encO.ld_f _) sc_25) rfl (by kernel_rfl) rfl ?_
        refine XQ.pv (i := 4) (l' := #[true, true, true, true, true, false, false, false, false, false, false, false, false, false, false, false, false, false, false]) rfl (by kernel_rfl) rfl (V.move rfl) rfl rfl ?_
        refine XQ.pv (i := 5) (l' := #[true, true, true, true, true, true, false, false, false, false, false, false, false, false, false, false, false, false, false]) rfl (by kernel_rfl) rfl (V.nilCheckP rfl) rfl rfl ?_
        refine XQ.pv (i := 6) (l' := #[true, true, true, true, true, true, true, false, false, false, false, false, false, false, false, false, false, false, false]) rfl (by kernel_rfl) rfl (V.fieldAddr rfl fo_114_1) rfl rfl ?_
        refine XQ.load (i := 7) (l' := #[true, true, true, true, true, true, true, true, false, false, false, false, false, false, false, false, false, false, false]) (.cells _ _ _ _) [13] rfl (by kernel_rfl) rfl .here (V.load rfl inEnt (encO.ld_o_n _ _ (by omega)) sc_3) rfl (by kernel_rfl) rfl ?_
        refine XQ.pv (i := 8) (l' := #[true, true, true, true, true, true, true, true, true, false, false, false, false, false, false, false, false, false, false]) rfl (by kernel_rfl) rfl (V.move rfl) rfl rfl ?_
        refine XQ.pv (i := 9) (l' := #[true, true, true, true, true, true, true, true, true, true, false, false, false, false, false, false, false, false, false]) rfl (by kernel_rfl) rfl (V.nilCheckP rfl) rfl rfl ?_
        refine XQ.pv (i := 10) (l' := #[true, true, true, true, true, true, true, true, true, true, true, false, false, false, false, false, false, false, false]) rfl (by kernel_rfl) rfl (V.fieldAddr rfl fo_114_2) rfl rfl ?_
        refine XQ.load (i := 11) (l' := #[true, true, true, true, true, true, true, true, true, true, true, true, false, false, false, false, false, false, false]) (.cells _ _ _ _) [13] rfl (by kernel_rfl) rfl .here (V.load rfl inEnt (encO.ld_o_at _ _ (by omega)) sc_3) rfl (by kernel_rfl) rfl ?_
        refine XQ.pv (i := 12) (l' := #[true, true, true, true, true, true, true, true, true, true, true, true, true, false, false, false, false, false, false]) rfl (by kernel_rfl) rfl (V.move rfl) rfl rfl ?_
        refine XQ.call (i := 13) (l' := #[true, true, true, true, true, true, true, true, true, true, true, true, true, true, false, false, false, false, false]) rfl (by kernel_rfl) rfl rfl (t_Read _ _ _ hI _ _ _) (.cons (.there .here) .nil) cl_22 rfl (by rintro _ _ ⟨rfl, rfl⟩; all_goals (intro _ hw'; exact ⟨fun hs => (hs 13 (by first | (simp; done) | (simp; rfl)) rfl).elim, fun hs => (hs 13 (by first | (simp; done) | (simp; rfl)) rfl).elim, fun hs => (hs 13 (by first | (simp; done) | (simp; rfl)) rfl).elim, trivial⟩)) ?_
        rintro _ _ ⟨rfl, rfl⟩
        refine XQ.pv (i := 14) (l' := #[true, true, true, true, true, true, true, true, true, true, true, true, true, true, true, false, false, false, false]) rfl (by kernel_rfl) rfl (V.move rfl) rfl rfl ?_
        refine XQ.pv (i := 15) (l' := #[true, true, true, true, true, true, true, true, true, true, true, true, true, true, true, true, false, false, false]) rfl (by kernel_rfl) rfl (V.extract rfl rfl) rfl rfl ?_
        refine XQ.pv (i := 16) (l' := #[true, true, true, true, true, true, true, true, true, true, true, true, true, true, true, true, true, false, false]) rfl (by kernel_rfl) rfl (V.extract rfl rfl) rfl rfl ?_
        refine XQ.pv (i := 17) (l' := #[true, true, true, true, true, true, true, true, true, true, true, true, true, true, true, true, true, true, false]) rfl (by kernel_rfl) rfl (V.assign rfl) rfl rfl ?_
        refine XQ.pv (i := 18) (l' := #[true, true, true, true, true, true, true, true, true, true, true, true, true, true, true, true, true, true, true]) rfl (by kernel_rfl) rfl (V.assign rfl) rfl rfl ?_
        refine XQ.done (by kernel_rfl) ?_
        refine XE.next ?_
        refine XC.keep [(8, _), (9, _), (10, _)] (Sub.cons rfl (Sub.cons rfl (Sub.cons rfl (Sub.nil _)))) ?_
        refine XC.seq ?_
        refine XC.region ?_
        have hrl := FF.readV_le hI (O.n n) (O.at_ n) m
        refine XO.v (V.move rfl) rfl ?_
        refine XO.v (V.nilCheckP rfl) rfl ?_
        refine XO.v (V.fieldAddr rfl fo_114_2) rfl ?_
        refine XO.v (V.load rfl (inXM (.there .here)) (encO.ld_o_at _ _ (by omega)) sc_3) rfl ?_
        refine XO.v (V.move rfl) rfl ?_
        refine XO.v (V.lenStr rfl Try.underlying9) rfl ?_
        refine XO.v (V.add rfl rfl _ (IntWalk.i64_in _ (by omega))) rfl ?_
        refine XO.v (V.nilCheckP rfl) rfl ?_
        refine XO.v (V.fieldAddr rfl fo_114_2) rfl ?_
        refine XO.store rfl rfl (.there .here) (encO.st_o_at _ _ (by omega) _) rfl sz_3_1 ?_
        refine XO.nil ?_
        refine XE.next ?_
        refine XC.keep [(9, _), (10, _)] (Sub.cons rfl (Sub.cons rfl (Sub.nil _))) ?_
        refine XC.seq ?_
        refine XC.region ?_
        refine XO.v (V.move rfl) rfl ?_
        refine XO.v (V.move rfl) rfl ?_
        refine XO.v (V.assign rfl) rfl ?_
        refine XO.v (V.assign rfl) rfl ?_
        refine XO.nil ?_
        refine XE.next ?_
        refine XC.keep [(6, _), (7, _)] (Sub.cons rfl (Sub.cons rfl (Sub.nil _))) ?_
        refine XC.ret ?_
        refine XE.ret2 rfl rfl rfl (post_of (.cons (.there .here) (.cons .here (.cons .here (.cons .here (.cons .here .nil))))) rfl ?_)
        have hk : ¬ O.kind n = 3 := by assumption
        have h2 : ¬ O.kind n = 2 := by assumption
        have eE : oreadE s.toFF q O n m = s.toFF.readE (O.n n) (O.at_ n) m := by unfold oreadE; rw [if_neg (by omega), if_neg hk, if_neg h2]
        have eV : oreadV s.toFF q O n m = s.toFF.readV (O.n n) (O.at_ n) m := by unfold oreadV; rw [if_neg (by omega), if_neg hk, if_neg h2]
        have eO : oreadO s.toFF O n m = O.move n ((s.toFF.readV (O.n n) (O.at_ n) m).size) := by unfold oreadO; rw [if_pos ⟨i0, hk, h2⟩]
        have eP : oreadP q O n m = q := by unfold oreadP; rw [if_neg (fun h => h2 h.2)]
        exact ⟨by rw [eE, eV], by rw [eO, eP]; rfl⟩
  · skip
    refine XO.v (V.move rfl) rfl ?_
    refine XO.v (V.extract rfl rfl) rfl ?_
    refine XO.v (V.extract rfl rfl) rfl ?_
    refine XO.v (V.assign rfl) rfl ?_
    refine XO.v (V.assign rfl) rfl ?_
    refine XO.nil ?_
    refine XE.next ?_
    refine XC.keep [(0, _), (2, _), (8, _), (9, _)] (Sub.cons rfl (Sub.cons rfl (Sub.cons rfl (Sub.cons rfl (Sub.nil _))))) ?_
    refine XC.seq ?_
    refine XC.seq ?_
    refine XC.region ?_
    refine XO.v (V.move rfl) rfl ?_
    refine XO.v (V.ifaceNil rfl Try.underlying43 rfl) rfl ?_
    refine XO.nil ?_
    refine XE.next ?_
    refine XC.keep [(0, _), (2, _), (8, _), (9, _), (18, _)] (Sub.cons rfl (Sub.cons rfl (Sub.cons rfl (Sub.cons rfl (Sub.cons rfl (Sub.nil _)))))) ?_
    refine XC.condT rfl rfl ?_
    refine XC.seq ?_
    refine XC.region ?_
    refine XO.v (V.move rfl) rfl ?_
    refine XO.v (V.assign rfl) rfl ?_
    refine XO.v (V.assign rfl) rfl ?_
    refine XO.nil ?_
    refine XE.next ?_
    refine XC.keep [(6, _), (7, _)] (Sub.cons rfl (Sub.cons rfl (Sub.nil _))) ?_
    refine XC.ret ?_
    refine XE.thenRet ?_
    refine XE.ret2 rfl rfl rfl (post_of (.cons .here (.cons .here (.cons .here (.cons .here (.cons .here .nil))))) rfl ?_)
    have eE : oreadE s.toFF q O n m = O.is n := by unfold oreadE; rw [if_pos i0]
    have eV : oreadV s.toFF q O n m = ⟨#[]⟩ := by unfold oreadV; rw [if_pos i0]
    have eO : oreadO s.toFF O n m = O := by unfold oreadO; rw [if_neg (fun h => i0 h.1)]
    have eP : oreadP q O n m = q := by unfold oreadP; rw [if_neg (fun h => i0 h.1)]
    exact ⟨by rw [eE, eV, errv_pos _ i0], by rw [eO, eP]⟩
set_option maxRecDepth 10000 in
set_option maxHeartbeats 4000000 in
theorem f_Close (bo oo bf bp : Nat) (O : OS) (J : Int) (hJ : J ≤ 1000000) (hO : O.Inv J) (s : FC) (hI : s.toFF.Sh) (K : Int) (hK : K ≤ 1000000) (q : PS) (hq : q.Inv K) (n : Int) : Spec Try.prog 36 [ptr bo oo 0, .int .i64 n]
    [.cells bo oo 122 (encO bf bp O), .cells bf 0 321 (encF s), .fam fam40 (FC.rowsN 9 s), .fam fam40 (FC.rowsK 3 s), .cells bp 0 24 (encP q)]
    (fun v H1 => v = errv 100 (closeE s.toFF q O n) ∧ ∃ t : FC, t.toFF = closeF s.toFF O n ∧ t.rP = s.rP ∧ t.rC = s.rC ∧ H1 = [.cells bo oo 122 (encO bf bp (closeO O n)), .cells bf 0 321 (encF t), .fam fam40 (FC.rowsN 9 t), .fam fam40 (FC.rowsK 3 t), .cells bp 0 24 (encP (closeP q O n))]) := by
  refine Spec.intro Try.func36 rfl rfl ?_
  intro W
  refine XC.seq ?_
  refine XC.region ?_
  refine XO.v (V.assign rfl) rfl ?_
  refine XO.nil ?_
  refine XE.next ?_
  refine XC.keep [(0, _), (1, _)] (Sub.cons rfl (Sub.cons rfl (Sub.nil _))) ?_
  refine XC.seq ?_
  refine XC.region ?_
  refine XO.v (V.move rfl) rfl ?_
  refine XO.v (V.move rfl) rfl ?_
  refine XO.call rfl (f_is _ _ _ _ _ _) (.cons .here .nil) cl_70 rfl ?_
  rintro _ _ (⟨⟨i0, i1, i2⟩, rfl, rfl⟩ | ⟨i0, rfl, rfl⟩)
  · skip
    refine XO.v (V.move rfl) rfl ?_
    refine XO.v (V.extract rfl rfl) rfl ?_
    refine XO.v (V.extract rfl rfl) rfl ?_
    refine XO.v (V.assign rfl) rfl ?_
    refine XO.v (V.assign rfl) rfl ?_
    refine XO.nil ?_
    refine XE.next ?_
    refine XC.keep [(0, _), (5, _), (6, _)] (Sub.cons rfl (Sub.cons rfl (Sub.cons rfl (Sub.nil _)))) ?_
    refine XC.seq ?_
    refine XC.seq ?_
    refine XC.region ?_
    refine XO.v (V.move rfl) rfl ?_
    refine XO.v (V.nilNil rfl Try.underlying43 rfl) rfl ?_
    refine XO.nil ?_
    refine XE.next ?_
    refine XC.keep [(0, _), (5, _), (6, _), (15, _)] (Sub.cons rfl (Sub.cons rfl (Sub.cons rfl (Sub.cons rfl (Sub.nil _))))) ?_
    refine XC.condF rfl rfl ?_
    refine XC.skip ?_
    refine XE.next ?_
    refine XC.keep [(0, _), (5, _)] (Sub.cons rfl (Sub.cons rfl (Sub.nil _))) ?_
    refine XC.seq ?_
    refine XC.region ?_
    have hra := hO.refs n i1 i2
    have haa := hO.at_ n i1 i2
    have hka := hO.kind n i1 i2 (OS.is_0 i0).2.2
    refine XO.v (V.move rfl) rfl ?_
    refine XO.v (V.nilCheckP rfl) rfl ?_
    refine XO.v (V.fieldAddr rfl fo_114_4) rfl ?_
    refine XO.v (V.load rfl (inXM .here) (encO.ld_o_refs _ _ (by omega)) sc_3) rfl ?_
    refine XO.v (V.sub rfl rfl _ (IntWalk.i64_in _ (by omega))) rfl ?_
    refine XO.v (V.nilCheckP rfl) rfl ?_
    refine XO.v (V.fieldAddr rfl fo_114_4) rfl ?_
    refine XO.store rfl rfl .here (encO.st_o_refs _ _ (by omega) _) rfl sz_3_1 ?_
    refine XO.nil ?_
    refine XE.next ?_
    refine XC.keep [(0, _), (5, _)] (Sub.cons rfl (Sub.cons rfl (Sub.nil _))) ?_
    refine XC.seq ?_
    refine XC.seq ?_
    refine XC.region ?_
    refine XO.v (V.move rfl) rfl ?_
    refine XO.v (V.nilCheckP rfl) rfl ?_
    refine XO.v (V.fieldAddr rfl fo_114_4) rfl ?_
    refine XO.v (V.load rfl (inXM .here) (encO.ld_o_refs _ _ (by omega)) sc_3) rfl ?_
    refine XO.v (V.cmp rfl rfl rfl) rfl ?_
    refine XO.nil ?_
    refine XE.next ?_
    refine XC.keep [(0, _), (5, _), (28, _)] (Sub.cons rfl (Sub.cons rfl (Sub.cons rfl (Sub.nil _)))) ?_
    refine XC.condP rfl (fun h1 => ?_) (fun h1 => ?_)
    · skip
      have e9 : fset O.refs n (O.refs n - 1) n = O.refs n - 1 := fset_eq _ _ _
      have h9 : fset O.refs n (O.refs n - 1) n > 0 := h1
      have hrg : 0 < O.refs n - 1 := by omega
      refine XC.seq ?_
      refine XC.region ?_
      refine XO.v (V.assign rfl) rfl ?_
      refine XO.nil ?_
      refine XE.next ?_
      refine XC.keep [(4, _)] (Sub.cons rfl (Sub.nil _)) ?_
      refine XC.ret ?_
      refine XE.thenRet ?_
      refine XE.ret1 rfl rfl (post_of (.cons .here (.cons .here (.cons .here (.cons .here (.cons .here .nil))))) rfl ?_)
      have eE : closeE s.toFF q O n = 0 := by unfold closeE; rw [if_neg (by omega), if_pos hrg]
      have eF : closeF s.toFF O n = s.toFF := by unfold closeF; rw [if_neg (fun h => h.1.2 hrg)]
      have eP : closeP q O n = q := by unfold closeP; rw [if_neg (fun h => h.1.2 hrg)]
      have eO : closeO O n = downO O n := by unfold closeO; rw [if_neg (by omega), if_pos hrg]
      exact ⟨by rw [eE]; rfl, s, by rw [eF], rfl, rfl, by rw [eO, eP]; rfl⟩
    · skip
      have e9 : fset O.refs n (O.refs n - 1) n = O.refs n - 1 := fset_eq _ _ _
      have h9 : ¬ fset O.refs n (O.refs n - 1) n > 0 := h1
      have hrg : ¬ 0 < O.refs n - 1 := by omega
      refine XC.skip ?_
      refine XE.next ?_
      refine XC.keep [(0, _), (5, _)] (Sub.cons rfl (Sub.cons rfl (Sub.nil _))) ?_
      refine XC.seq ?_
      refine XC.region ?_
      refine XO.v (V.move rfl) rfl ?_
      refine XO.v (V.nilCheckP rfl) rfl ?_
      refine XO.v (V.loadAgg rfl (inXM .here) (encO.un_agg _ _ (by omega)) ag_114 sz_114_5) rfl ?_
      refine XO.allocZ (z := .agg (encO.arr ⟨0, 0, 0, false, 0⟩)) (m := 5) (C := encO.cell ⟨0, 0, 0, false, 0⟩) (by kernel_rfl) rfl (encO.box _) rfl ?_
      intro bx
      refine XO.storeAgg rfl rfl .here (encO.ust _ _) ⟨rfl, rfl⟩ sz_114_5 ?_
      refine XO.nil ?_
      refine XE.next ?_
      refine XC.keep [(0, _), (5, _), (7, _)] (Sub.cons rfl (Sub.cons rfl (Sub.cons rfl (Sub.nil _)))) ?_
      refine XC.seq ?_
      refine XC.region ?_
      refine XO.v (V.move rfl) rfl ?_
      refine XO.v (V.build (vs := #[]) rfl (v := .agg (encO.arr ⟨0, 0, 0, false, 0⟩)) (fun _ => by kernel_rfl)) rfl ?_
      refine XO.v (V.nilCheckP rfl) rfl ?_
      refine XO.storeAgg rfl rfl (.there .here) (encO.put (downO O n) n 0 0 false 0 ⟨i1, i2⟩) ⟨rfl, rfl⟩ sz_114_5 ?_
      refine XO.nil ?_
      refine XE.next ?_
      refine XC.keep [(0, _), (7, _)] (Sub.cons rfl (Sub.cons rfl (Sub.nil _))) ?_
      refine XC.seq ?_
      refine XC.seq ?_
      refine XC.region ?_
      refine XO.v (V.fieldAddr rfl fo_114_0) rfl ?_
      refine XO.v (V.load rfl (inXM .here) (encO.u_0 _) sc_3) rfl ?_
      refine XO.v (V.cmp rfl rfl rfl) rfl ?_
      refine XO.nil ?_
      refine XE.next ?_
      refine XC.keep [(0, _), (7, _), (37, _)] (Sub.cons rfl (Sub.cons rfl (Sub.cons rfl (Sub.nil _)))) ?_
      refine XC.condP rfl (fun h2 => ?_) (fun h2 => ?_)
      · skip
        refine XC.seq ?_
        refine XC.regionQ mixed (f := 8) (l := #[false, false, false, false, false, false, false, false]) rfl rfl XM.drawn' ?_
        refine XQ.pv (i := 0) (l' := #[true, false, false, false, false, false, false, false]) rfl (by kernel_rfl) rfl (V.move rfl) rfl rfl ?_
        refine XQ.pv (i := 1) (l' := #[true, true, false, false, false, false, false, false]) rfl (by kernel_rfl) rfl (V.nilCheckP rfl) rfl rfl ?_
        refine XQ.pv (i := 2) (l' := #[true, true, true, false, false, false, false, false]) rfl (by kernel_rfl) rfl (V.fieldAddr rfl fo_117_0) rfl rfl ?_
        refine XQ.load (i := 3) (l' := #[true, true, true, true, false, false, false, false]) (.cells _ _ _ _) [6] rfl (by kernel_rfl) rfl (.there .here) (V.load rfl inEnt (encO.ld_f _) sc_25) rfl (by kernel_rfl) rfl ?_
        refine XQ.pv (i := 4) (l' := #[true, true, true, true, true, false, false, false]) rfl (by kernel_rfl) rfl (V.fieldAddr rfl fo_114_1) rfl rfl ?_
        refine XQ.load (i := 5) (l' := #[true, true, true, true, true, true, false, false]) (.cells _ _ _ _) [6] rfl (by kernel_rfl) rfl .here (V.load rfl inEnt (encO.u_1 _) sc_3) rfl (by kernel_rfl) rfl ?_
        refine XQ.call (i := 6) (l' := #[true, true, true, true, true, true, true, false]) rfl (by kernel_rfl) rfl rfl (t_Let _ _ _ hI _) (.cons (.there (.there .here)) (.cons (.there (.there .here)) (.cons (.there (.there .here)) .nil))) cl_29 rfl (by rintro _ _ ⟨rfl, t, ht, tp, tc, rfl⟩; all_goals (intro _ hw'; exact ⟨fun hs => (hs 6 (by first | (simp; done) | (simp; rfl)) rfl).elim, fun hs => (hs 6 (by first | (simp; done) | (simp; rfl)) rfl).elim, trivial⟩)) ?_
        rintro _ _ ⟨rfl, t, ht, tp, tc, rfl⟩
        refine XQ.pv (i := 7) (l' := #[true, true, true, true, true, true, true, true]) rfl (by kernel_rfl) rfl (V.assign rfl) rfl rfl ?_
        refine XQ.done (by kernel_rfl) ?_
        refine XE.next ?_
        refine XC.keep [(4, _)] (Sub.cons rfl (Sub.nil _)) ?_
        refine XC.ret ?_
        refine XE.thenRet ?_
        refine XE.ret1 rfl rfl (post_of (.cons (.there (.there (.there (.there .here)))) (.cons .here (.cons .here (.cons .here (.cons (.there .here) .nil))))) rfl ?_)
        have hk : O.kind n = 1 := by assumption
        have eE : closeE s.toFF q O n = s.toFF.letE (O.n n) := by unfold closeE; rw [if_neg (by omega), if_neg hrg, if_pos hk]
        have eF : closeF s.toFF O n = s.toFF.letF (O.n n) := by unfold closeF; rw [if_pos ⟨⟨i0, hrg⟩, hk⟩]
        have eP : closeP q O n = q := by unfold closeP; rw [if_neg (fun h => h.2 hk)]
        have eO : closeO O n = O.clr n := by unfold closeO; rw [if_neg (by omega), if_neg hrg]
        exact ⟨by rw [eE]; rfl, t, by rw [eF]; exact ht, tp, tc, by rw [eO, eP, ← OS.clr_down]; rfl⟩
      · skip
        refine XC.skip ?_
        refine XE.next ?_
        refine XC.keep [(0, _), (7, _)] (Sub.cons rfl (Sub.cons rfl (Sub.nil _))) ?_
        refine XC.seq ?_
        refine XC.regionQ mixed (f := 11) (l := #[false, false, false, false, false, false, false, false, false, false, false]) rfl rfl XM.drawn' ?_
        refine XQ.pv (i := 0) (l' := #[true, false, false, false, false, false, false, false, false, false, false]) rfl (by kernel_rfl) rfl (V.move rfl) rfl rfl ?_
        refine XQ.pv (i := 1) (l' := #[true, true, false, false, false, false, false, false, false, false, false]) rfl (by kernel_rfl) rfl (V.nilCheckP rfl) rfl rfl ?_
        refine XQ.pv (i := 2) (l' := #[true, true, true, false, false, false, false, false, false, false, false]) rfl (by kernel_rfl) rfl (V.fieldAddr rfl fo_117_1) rfl rfl ?_
        refine XQ.load (i := 3) (l' := #[true, true, true, true, false, false, false, false, false, false, false]) (.cells _ _ _ _) [9] rfl (by kernel_rfl) rfl (.there .here) (V.load rfl inEnt (encO.ld_p _) sc_67) rfl (by kernel_rfl) rfl ?_
        refine XQ.pv (i := 4) (l' := #[true, true, true, true, true, false, false, false, false, false, false]) rfl (by kernel_rfl) rfl (V.fieldAddr rfl fo_114_1) rfl rfl ?_
        refine XQ.load (i := 5) (l' := #[true, true, true, true, true, true, false, false, false, false, false]) (.cells _ _ _ _) [9] rfl (by kernel_rfl) rfl .here (V.load rfl inEnt (encO.u_1 _) sc_3) rfl (by kernel_rfl) rfl ?_
        refine XQ.pv (i := 6) (l' := #[true, true, true, true, true, true, true, false, false, false, false]) rfl (by kernel_rfl) rfl (V.fieldAddr rfl fo_114_0) rfl rfl ?_
        refine XQ.load (i := 7) (l' := #[true, true, true, true, true, true, true, true, false, false, false]) (.cells _ _ _ _) [9] rfl (by kernel_rfl) rfl .here (V.load rfl inEnt (encO.u_0 _) sc_3) rfl (by kernel_rfl) rfl ?_
        refine XQ.pv (i := 8) (l' := #[true, true, true, true, true, true, true, true, true, false, false]) rfl (by kernel_rfl) rfl (V.cmp rfl rfl rfl) rfl rfl ?_
        refine XQ.call (i := 9) (l' := #[true, true, true, true, true, true, true, true, true, true, false]) rfl (by kernel_rfl) rfl rfl (p_Drop _ _ K hK q hq _ _) (.cons (.there (.there (.there (.there (.there .here))))) .nil) cl_72 rfl (by rintro _ _ ⟨rfl, rfl⟩; all_goals (intro _ hw'; exact ⟨fun hs => (hs 9 (by first | (simp; done) | (simp; rfl)) rfl).elim, fun hs => (hs 9 (by first | (simp; done) | (simp; rfl)) rfl).elim, fun hs => (hs 9 (by first | (simp; done) | (simp; rfl)) rfl).elim, trivial⟩)) ?_
        rintro _ _ ⟨rfl, rfl⟩
        refine XQ.pv (i := 10) (l' := #[true, true, true, true, true, true, true, true, true, true, true]) rfl (by kernel_rfl) rfl (V.assign rfl) rfl rfl ?_
        refine XQ.done (by kernel_rfl) ?_
        refine XE.next ?_
        refine XC.keep [(4, _)] (Sub.cons rfl (Sub.nil _)) ?_
        refine XC.ret ?_
        refine XE.ret1 rfl rfl (post_of (.cons (.there (.there .here)) (.cons (.there (.there .here)) (.cons (.there (.there .here)) (.cons (.there (.there .here)) (.cons .here .nil))))) rfl ?_)
        have hk : ¬ O.kind n = 1 := by assumption
        have eE : closeE s.toFF q O n = (q.turn (O.n n) (decide (O.kind n = 3)) (-1)).1 := by unfold closeE; rw [if_neg (by omega), if_neg hrg, if_neg hk]
        have eF : closeF s.toFF O n = s.toFF := by unfold closeF; rw [if_neg (fun h => hk h.2)]
        have eP : closeP q O n = (q.turn (O.n n) (decide (O.kind n = 3)) (-1)).2 := by unfold closeP; rw [if_pos ⟨⟨i0, hrg⟩, hk⟩]
        have eO : closeO O n = O.clr n := by unfold closeO; rw [if_neg (by omega), if_neg hrg]
        exact ⟨by rw [eE]; rfl, s, by rw [eF], rfl, rfl, by rw [eO, eP, ← OS.clr_down]; rfl⟩
  · skip
    refine XO.v (V.move rfl) rfl ?_
    refine XO.v (V.extract rfl rfl) rfl ?_
    refine XO.v (V.extract rfl rfl) rfl ?_
    refine XO.v (V.assign rfl) rfl ?_
    refine XO.v (V.assign rfl) rfl ?_
    refine XO.nil ?_
    refine XE.next ?_
    refine XC.keep [(0, _), (5, _), (6, _)] (Sub.cons rfl (Sub.cons rfl (Sub.cons rfl (Sub.nil _)))) ?_
    refine XC.seq ?_
    refine XC.seq ?_
    refine XC.region ?_
    refine XO.v (V.move rfl) rfl ?_
    refine XO.v (V.ifaceNil rfl Try.underlying43 rfl) rfl ?_
    refine XO.nil ?_
    refine XE.next ?_
    refine XC.keep [(0, _), (5, _), (6, _), (15, _)] (Sub.cons rfl (Sub.cons rfl (Sub.cons rfl (Sub.cons rfl (Sub.nil _))))) ?_
    refine XC.condT rfl rfl ?_
    refine XC.seq ?_
    refine XC.region ?_
    refine XO.v (V.move rfl) rfl ?_
    refine XO.v (V.assign rfl) rfl ?_
    refine XO.nil ?_
    refine XE.next ?_
    refine XC.keep [(4, _)] (Sub.cons rfl (Sub.nil _)) ?_
    refine XC.ret ?_
    refine XE.thenRet ?_
    refine XE.ret1 rfl rfl (post_of (.cons .here (.cons .here (.cons .here (.cons .here (.cons .here .nil))))) rfl ?_)
    have eE : closeE s.toFF q O n = O.is n := by unfold closeE; rw [if_pos i0]
    have eF : closeF s.toFF O n = s.toFF := by unfold closeF; rw [if_neg (fun h => i0 h.1.1)]
    have eP : closeP q O n = q := by unfold closeP; rw [if_neg (fun h => i0 h.1.1)]
    have eO : closeO O n = O := by unfold closeO; rw [if_pos i0]
    exact ⟨by rw [eE, errv_pos _ i0], s, by rw [eF], rfl, rfl, by rw [eO, eP]⟩
set_option maxRecDepth 10000 in
set_option maxHeartbeats 400000 in
theorem f_New (bf bp : Nat) : Spec Try.prog 31 [ptr bf 0 0, ptr bp 0 0]
    []
    (fun v H1 => ∃ b, v = ptr b 0 0 ∧ H1 = [.cells b 0 122 (encO bf bp OS.void)]) := by
  refine Spec.intro Try.func31 rfl rfl ?_
  intro W
  refine XC.seq ?_
  refine XC.region ?_
  refine XO.v (V.assign rfl) rfl ?_
  refine XO.nil ?_
  refine XE.next ?_
  refine XC.keep [(0, _), (1, _)] (Sub.cons rfl (Sub.cons rfl (Sub.nil _))) ?_
  refine XC.seq ?_
  refine XC.region ?_
  refine XO.v (V.move rfl) rfl ?_
  refine XO.v (V.move rfl) rfl ?_
  refine XO.v (V.build (vs := #[(0, ptr bf 0 0), (1, ptr bp 0 0)]) rfl (v := .agg (arrO bf bp)) (fun _ => by kernel_rfl)) rfl ?_
  refine XO.box (m := 122) (C := encO bf bp OS.void) rfl (arrO_size bf bp) (arrO_box bf bp) rfl ?_
  intro b
  refine XO.v (V.assign rfl) rfl ?_
  refine XO.nil ?_
  refine XE.next ?_
  refine XC.keep [(4, _)] (Sub.cons rfl (Sub.nil _)) ?_
  refine XC.ret ?_
  refine XE.ret1 rfl rfl (post_of (.cons .here .nil) rfl ?_)
  exact ⟨_, rfl, rfl⟩
end Go.X
