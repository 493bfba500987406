import Derived.Test.YtmklfkjfgjagaaaGreatXShort
import Derived.Test.YtmklfkjfgjagaaaGreatZOW
namespace Go.X
open Go Go.Proofs

def arrO (bf bp : Nat) : Array Value := ((List.range 122).map (encO bf bp OS.void)).toArray
theorem arrO_size (bf bp : Nat) : (arrO bf bp).size = 122 := by simp [arrO]
theorem arrO_box (bf bp : Nat) : ∀ i, i < 122 → cellsOf (arrO bf bp) i = encO bf bp OS.void i := fun i hi => by simp [cellsOf, arrO, hi]
set_option maxRecDepth 10000 in
set_option maxHeartbeats 4000000 in
theorem f_Write (bo oo bf bp : Nat) (O : OS) (J : Int) (hJ : J ≤ 1000000) (hO : O.Inv J) (s : FC) (hI : s.toFF.Sh) (K : Int) (hK : K ≤ 1000000) (q : PS) (hq : q.Inv K) (n : Int) (x : ByteArray) (hx : x.size ≤ 1000000) : Spec Tryz.prog 24 [ptr bo oo 0, .int .i64 n, .string x]
    [.cells bo oo 122 (encO bf bp O), .cells bf 0 321 (encF s), .fam fam40 (FC.rowsN 9 s), .fam fam40 (FC.rowsK 3 s), .cells bp 0 24 (encP q)]
    (fun v H1 => v = .tuple #[.int .i64 (owriteV s.toFF q O n x), errv 82 (owriteE s.toFF q O n x)] ∧ ∃ t : FC, t.toFF = owriteF s.toFF O n x ∧ t.rP = s.rP ∧ t.rC = s.rC ∧ H1 = [.cells bo oo 122 (encO bf bp (owriteO s.toFF O n x)), .cells bf 0 321 (encF t), .fam fam40 (FC.rowsN 9 t), .fam fam40 (FC.rowsK 3 t), .cells bp 0 24 (encP (owriteP q O n x))]) := by
 refine Spec.intro Tryz.func24 rfl rfl ?_
 intro W
 refine XC.sr ?_
 refine XO.as rfl rfl ?_
 refine XO.as rfl rfl ?_
 refine XO.nk [(0, _), (1, _), (2, _)] (S3 rfl rfl rfl) ?_
 refine XC.sr ?_
 refine XO.mv rfl rfl ?_
 refine XO.mv rfl rfl ?_
 refine XO.call rfl (f_is _ _ _ _ _ _) .h1 cl_57 rfl ?_
 rintro _ _ (⟨⟨i0, i1, i2⟩, rfl, rfl⟩ | ⟨i0, rfl, rfl⟩)
 ·
  refine XO.mv rfl rfl ?_
  refine XO.v (V.extract rfl rfl) rfl ?_
  refine XO.v (V.extract rfl rfl) rfl ?_
  refine XO.as rfl rfl ?_
  refine XO.as rfl rfl ?_
  refine XO.nk [(0, _), (2, _), (8, _), (9, _)] (S4 rfl rfl rfl rfl) ?_
  refine XC.seq ?_
  refine XC.sr ?_
  refine XO.mv rfl rfl ?_
  refine XO.v (V.nilNil rfl Tryz.underlying36 rfl) rfl ?_
  refine XO.nk [(0, _), (2, _), (8, _), (9, _), (17, _)] (S5 rfl rfl rfl rfl rfl) ?_
  refine XC.condF rfl rfl ?_
  refine XC.skip ?_
  refine XE.next ?_
  refine XC.keep [(0, _), (2, _), (8, _)] (S3 rfl rfl rfl) ?_
  refine XC.seq ?_
  refine XC.block ?_
  refine XC.sr ?_
  have hra := hO.refs n i1 i2
  have haa := hO.at_ n i1 i2
  have hka := hO.kind n i1 i2 (OS.is_0 i0).2.2
  refine XO.mv rfl rfl ?_
  refine XO.v (V.nilCheckP rfl) rfl ?_
  refine XO.v (V.fieldAddr rfl fo_86_0) rfl ?_
  refine XO.v (V.load rfl (inXM .here) (encO.ld_o_kind _ _ (by omega)) sc_3) rfl ?_
  refine XO.v (V.cmp rfl rfl rfl) rfl ?_
  refine XO.as rfl rfl ?_
  refine XO.nk [(0, _), (2, _), (8, _), (19, _)] (S4 rfl rfl rfl rfl) ?_
  refine XC.condP rfl (fun h1 => ?_) (fun h1 => ?_)
  ·
   refine XC.seq ?_
   refine XC.regionQ mixed (f := 14) (l := #[false, false, false, false, false, false, false, false, false, false, false, false, false, false]) rfl rfl XM.drawn' ?_
   refine XQ.pv (i := 0) (l' := #[tt,ff,ff,ff,ff,ff,ff,ff,ff,ff,ff,ff,ff,ff]) rfl (by kernel_rfl) rfl (V.move rfl) rfl rfl ?_
   refine XQ.pv (i := 1) (l' := #[tt,tt,ff,ff,ff,ff,ff,ff,ff,ff,ff,ff,ff,ff]) rfl (by kernel_rfl) rfl (V.nilCheckP rfl) rfl rfl ?_
   refine XQ.pv (i := 2) (l' := #[tt,tt,tt,ff,ff,ff,ff,ff,ff,ff,ff,ff,ff,ff]) rfl (by kernel_rfl) rfl (V.fieldAddr rfl fo_89_1) rfl rfl ?_
   refine XQ.load (i := 3) (l' := #[tt,tt,tt,tt,ff,ff,ff,ff,ff,ff,ff,ff,ff,ff]) (.cells _ _ _ _) [9] rfl (by kernel_rfl) rfl .here (V.load rfl inEnt (encO.ld_p _) sc_41) rfl (by kernel_rfl) rfl ?_
   refine XQ.pv (i := 4) (l' := #[tt,tt,tt,tt,tt,ff,ff,ff,ff,ff,ff,ff,ff,ff]) rfl (by kernel_rfl) rfl (V.move rfl) rfl rfl ?_
   refine XQ.pv (i := 5) (l' := #[tt,tt,tt,tt,tt,tt,ff,ff,ff,ff,ff,ff,ff,ff]) rfl (by kernel_rfl) rfl (V.nilCheckP rfl) rfl rfl ?_
   refine XQ.pv (i := 6) (l' := #[tt,tt,tt,tt,tt,tt,tt,ff,ff,ff,ff,ff,ff,ff]) rfl (by kernel_rfl) rfl (V.fieldAddr rfl fo_86_1) rfl rfl ?_
   refine XQ.load (i := 7) (l' := #[tt,tt,tt,tt,tt,tt,tt,tt,ff,ff,ff,ff,ff,ff]) (.cells _ _ _ _) [9] rfl (by kernel_rfl) rfl .here (V.load rfl inEnt (encO.ld_o_n _ _ (by omega)) sc_3) rfl (by kernel_rfl) rfl ?_
   refine XQ.pv (i := 8) (l' := #[tt,tt,tt,tt,tt,tt,tt,tt,tt,ff,ff,ff,ff,ff]) rfl (by kernel_rfl) rfl (V.move rfl) rfl rfl ?_
   refine XQ.call (i := 9) (l' := #[tt,tt,tt,tt,tt,tt,tt,tt,tt,tt,ff,ff,ff,ff]) rfl (by kernel_rfl) rfl rfl (p_Write _ _ K hK q hq _ _ hx) (.cons (.t4 .here) .nil) cl_73 rfl (by rintro _ _ ⟨rfl, rfl⟩; all_goals (intro _ hw'; exact ⟨fun hs => (hs 9 (by first | (simp; done) | (simp; rfl)) rfl).elim, fun hs => (hs 9 (by first | (simp; done) | (simp; rfl)) rfl).elim, trivial⟩)) ?_
   rintro _ _ ⟨rfl, rfl⟩
   refine XQ.pv (i := 10) (l' := #[tt,tt,tt,tt,tt,tt,tt,tt,tt,tt,tt,ff,ff,ff]) rfl (by kernel_rfl) rfl (V.extract rfl rfl) rfl rfl ?_
   refine XQ.pv (i := 11) (l' := #[tt,tt,tt,tt,tt,tt,tt,tt,tt,tt,tt,tt,ff,ff]) rfl (by kernel_rfl) rfl (V.extract rfl rfl) rfl rfl ?_
   refine XQ.pv (i := 12) (l' := #[tt,tt,tt,tt,tt,tt,tt,tt,tt,tt,tt,tt,tt,ff]) rfl (by kernel_rfl) rfl (V.assign rfl) rfl rfl ?_
   refine XQ.pv (i := 13) (l' := #[tt,tt,tt,tt,tt,tt,tt,tt,tt,tt,tt,tt,tt,tt]) rfl (by kernel_rfl) rfl (V.assign rfl) rfl rfl ?_
   refine XQ.done (by kernel_rfl) ?_
   refine XE.next ?_
   refine XC.keep [(6, _), (7, _)] (S2 rfl rfl) ?_
   refine XC.ret ?_
   refine XE.blockRet ?_
   refine XE.thenRet ?_
   refine XE.ret2 rfl rfl rfl (post_of (.cons (.there .here) (.cons (.there .here) (.cons (.there .here) (.cons (.there .here) .h1)))) rfl ?_)
   have hk : O.kind n = 3 := by assumption
   have eE : owriteE s.toFF q O n x = (q.write (O.n n) x).2.1 := by unfold owriteE; rw [if_neg (by omega), if_pos hk]
   have eV : owriteV s.toFF q O n x = (q.write (O.n n) x).1 := by unfold owriteV; rw [if_pos ⟨i0, hk⟩]
   have eF : owriteF s.toFF O n x = s.toFF := by unfold owriteF; rw [if_neg (fun h => h.2.1 hk)]
   have eO : owriteO s.toFF O n x = O := by unfold owriteO; rw [if_neg (fun h => h.1.2.1 hk)]
   have eP : owriteP q O n x = (q.write (O.n n) x).2.2 := by unfold owriteP; rw [if_pos ⟨i0, hk⟩]
   exact ⟨by rw [eE, eV], s, by rw [eF], rfl, rfl, by rw [eO, eP]⟩
  ·
   refine XC.sr ?_
   refine XO.mv rfl rfl ?_
   refine XO.v (V.nilCheckP rfl) rfl ?_
   refine XO.v (V.fieldAddr rfl fo_86_0) rfl ?_
   refine XO.v (V.load rfl (inXM .here) (encO.ld_o_kind _ _ (by omega)) sc_3) rfl ?_
   refine XO.v (V.cmp rfl rfl rfl) rfl ?_
   refine XO.mv rfl rfl ?_
   refine XO.splitP (d := 43) rfl (fun h2 => ?_) (fun h2 => ?_)
   ·
    refine XO.guardSkip rfl rfl rfl rfl rfl ?_
    refine XO.guardSkip rfl rfl rfl rfl rfl ?_
    refine XO.guardSkip rfl rfl rfl rfl rfl ?_
    refine XO.guardSkip rfl rfl rfl rfl rfl ?_
    refine XO.guardSkip rfl rfl rfl rfl rfl ?_
    refine XO.v (V.pick rfl rfl rfl rfl) rfl ?_
    refine XO.as rfl rfl ?_
    refine XO.nk [(0, _), (2, _), (8, _), (37, _)] (S4 rfl rfl rfl rfl) ?_
    refine XC.condT rfl rfl ?_
    refine XC.sr ?_
    refine XO.v (V.makeIface rfl Tryz.underlying82 (by simp)) rfl ?_
    refine XO.as rfl rfl ?_
    refine XO.as rfl rfl ?_
    refine XO.nk [(6, _), (7, _)] (S2 rfl rfl) ?_
    refine XC.ret ?_
    refine XE.blockRet ?_
    refine XE.thenRet ?_
    refine XE.ret2 rfl rfl rfl (post_of .h5 rfl ?_)
    have hk : ¬ O.kind n = 3 := by assumption
    have h2 : O.kind n = 2 := by assumption
    have eE : owriteE s.toFF q O n x = 8 := by unfold owriteE; rw [if_neg (by omega), if_neg hk, if_pos (.inl h2)]
    have eV : owriteV s.toFF q O n x = 0 := by unfold owriteV; rw [if_neg (fun h => hk h.2), if_neg (fun h => h.1.2.2 (.inl h2))]
    have eF : owriteF s.toFF O n x = s.toFF := by unfold owriteF; rw [if_neg (fun h => h.2.2 (.inl h2))]
    have eO : owriteO s.toFF O n x = O := by unfold owriteO; rw [if_neg (fun h => h.1.2.2 (.inl h2))]
    have eP : owriteP q O n x = q := by unfold owriteP; rw [if_neg (fun h => hk h.2)]
    exact ⟨by rw [eE, eV]; rfl, s, by rw [eF], rfl, rfl, by rw [eO, eP]⟩
   ·
    refine XO.guardRun rfl rfl rfl ?_
    refine XO.mv rfl rfl ?_
    refine XO.guardRun rfl rfl rfl ?_
    refine XO.v (V.nilCheckP rfl) rfl ?_
    refine XO.guardRun rfl rfl rfl ?_
    refine XO.v (V.fieldAddr rfl fo_86_3) rfl ?_
    refine XO.guardRun rfl rfl rfl ?_
    refine XO.v (V.load rfl (inXM .here) (encO.ld_o_write _ _ (by omega)) sc_4) rfl ?_
    refine XO.guardRun rfl rfl rfl ?_
    refine XO.v (V.not rfl) rfl ?_
    refine XO.v (V.pick rfl rfl rfl rfl) rfl ?_
    refine XO.as rfl rfl ?_
    refine XO.nk [(0, _), (2, _), (8, _), (37, _)] (S4 rfl rfl rfl rfl) ?_
    refine XC.cond rfl (fun h3 => ?_) (fun h3 => ?_)
    ·
     try simp only [sb] at h3
     have hwf : O.write n = false := by simpa using h3
     refine XC.sr ?_
     refine XO.v (V.makeIface rfl Tryz.underlying82 (by simp)) rfl ?_
     refine XO.as rfl rfl ?_
     refine XO.as rfl rfl ?_
     refine XO.nk [(6, _), (7, _)] (S2 rfl rfl) ?_
     refine XC.ret ?_
     refine XE.blockRet ?_
     refine XE.thenRet ?_
     refine XE.ret2 rfl rfl rfl (post_of .h5 rfl ?_)
     have hk : ¬ O.kind n = 3 := by assumption
     have eE : owriteE s.toFF q O n x = 8 := by unfold owriteE; rw [if_neg (by omega), if_neg hk, if_pos (.inr hwf)]
     have eV : owriteV s.toFF q O n x = 0 := by unfold owriteV; rw [if_neg (fun h => hk h.2), if_neg (fun h => h.1.2.2 (.inr hwf))]
     have eF : owriteF s.toFF O n x = s.toFF := by unfold owriteF; rw [if_neg (fun h => h.2.2 (.inr hwf))]
     have eO : owriteO s.toFF O n x = O := by unfold owriteO; rw [if_neg (fun h => h.1.2.2 (.inr hwf))]
     have eP : owriteP q O n x = q := by unfold owriteP; rw [if_neg (fun h => hk h.2)]
     exact ⟨by rw [eE, eV]; rfl, s, by rw [eF], rfl, rfl, by rw [eO, eP]⟩
    ·
     try simp only [sb] at h3
     have hwt : O.write n = true := by simpa using h3
     refine XC.skip ?_
     refine XE.blockNormal ?_
     refine XE.next ?_
     refine XC.keep [(0, _), (2, _), (8, _)] (S3 rfl rfl rfl) ?_
     refine XC.seq ?_
     refine XC.regionQ mixed (f := 15) (l := #[false, false, false, false, false, false, false, false, false, false, false, false, false, false, false]) rfl rfl XM.drawn' ?_
     refine XQ.pv (i := 0) (l' := #[tt,ff,ff,ff,ff,ff,ff,ff,ff,ff,ff,ff,ff,ff,ff]) rfl (by kernel_rfl) rfl (V.move rfl) rfl rfl ?_
     refine XQ.pv (i := 1) (l' := #[tt,tt,ff,ff,ff,ff,ff,ff,ff,ff,ff,ff,ff,ff,ff]) rfl (by kernel_rfl) rfl (V.nilCheckP rfl) rfl rfl ?_
     refine XQ.pv (i := 2) (l' := #[tt,tt,tt,ff,ff,ff,ff,ff,ff,ff,ff,ff,ff,ff,ff]) rfl (by kernel_rfl) rfl (V.fieldAddr rfl fo_89_0) rfl rfl ?_
     refine XQ.load (i := 3) (l' := #[tt,tt,tt,tt,ff,ff,ff,ff,ff,ff,ff,ff,ff,ff,ff]) (.cells _ _ _ _) [13] rfl (by kernel_rfl) rfl .here (V.load rfl inEnt (encO.ld_f _) sc_25) rfl (by kernel_rfl) rfl ?_
     refine XQ.pv (i := 4) (l' := #[tt,tt,tt,tt,tt,ff,ff,ff,ff,ff,ff,ff,ff,ff,ff]) rfl (by kernel_rfl) rfl (V.move rfl) rfl rfl ?_
     refine XQ.pv (i := 5) (l' := #[tt,tt,tt,tt,tt,tt,ff,ff,ff,ff,ff,ff,ff,ff,ff]) rfl (by kernel_rfl) rfl (V.nilCheckP rfl) rfl rfl ?_
     refine XQ.pv (i := 6) (l' := #[tt,tt,tt,tt,tt,tt,tt,ff,ff,ff,ff,ff,ff,ff,ff]) rfl (by kernel_rfl) rfl (V.fieldAddr rfl fo_86_1) rfl rfl ?_
     refine XQ.load (i := 7) (l' := #[tt,tt,tt,tt,tt,tt,tt,tt,ff,ff,ff,ff,ff,ff,ff]) (.cells _ _ _ _) [13] rfl (by kernel_rfl) rfl .here (V.load rfl inEnt (encO.ld_o_n _ _ (by omega)) sc_3) rfl (by kernel_rfl) rfl ?_
     refine XQ.pv (i := 8) (l' := #[tt,tt,tt,tt,tt,tt,tt,tt,tt,ff,ff,ff,ff,ff,ff]) rfl (by kernel_rfl) rfl (V.move rfl) rfl rfl ?_
     refine XQ.pv (i := 9) (l' := #[tt,tt,tt,tt,tt,tt,tt,tt,tt,tt,ff,ff,ff,ff,ff]) rfl (by kernel_rfl) rfl (V.nilCheckP rfl) rfl rfl ?_
     refine XQ.pv (i := 10) (l' := #[tt,tt,tt,tt,tt,tt,tt,tt,tt,tt,tt,ff,ff,ff,ff]) rfl (by kernel_rfl) rfl (V.fieldAddr rfl fo_86_2) rfl rfl ?_
     refine XQ.load (i := 11) (l' := #[tt,tt,tt,tt,tt,tt,tt,tt,tt,tt,tt,tt,ff,ff,ff]) (.cells _ _ _ _) [13] rfl (by kernel_rfl) rfl .here (V.load rfl inEnt (encO.ld_o_at _ _ (by omega)) sc_3) rfl (by kernel_rfl) rfl ?_
     refine XQ.pv (i := 12) (l' := #[tt,tt,tt,tt,tt,tt,tt,tt,tt,tt,tt,tt,tt,ff,ff]) rfl (by kernel_rfl) rfl (V.move rfl) rfl rfl ?_
     refine XQ.call (i := 13) (l' := #[tt,tt,tt,tt,tt,tt,tt,tt,tt,tt,tt,tt,tt,tt,ff]) rfl (by kernel_rfl) rfl rfl (t_Write _ _ _ hI _ _ _ (by omega)) (.cons (.there .here) (.cons (.there .here) (.cons (.there .here) .nil))) cl_41 rfl (by rintro _ _ ⟨rfl, t, ht, tp, tc, rfl⟩; all_goals (intro _ hw'; exact ⟨fun hs => (hs 13 (by first | (simp; done) | (simp; rfl)) rfl).elim, fun hs => (hs 13 (by first | (simp; done) | (simp; rfl)) rfl).elim, fun hs => (hs 13 (by first | (simp; done) | (simp; rfl)) rfl).elim, trivial⟩)) ?_
     rintro _ _ ⟨rfl, t, ht, tp, tc, rfl⟩
     refine XQ.pv (i := 14) (l' := #[tt,tt,tt,tt,tt,tt,tt,tt,tt,tt,tt,tt,tt,tt,tt]) rfl (by kernel_rfl) rfl (V.assign rfl) rfl rfl ?_
     refine XQ.done (by kernel_rfl) ?_
     refine XE.next ?_
     refine XC.keep [(2, _), (8, _), (9, _)] (S3 rfl rfl rfl) ?_
     refine XC.seq ?_
     refine XC.sr ?_
     refine XO.mv rfl rfl ?_
     refine XO.v (V.errNil rfl Tryz.underlying36 rfl) rfl ?_
     refine XO.nk [(2, _), (8, _), (9, _), (66, _)] (S4 rfl rfl rfl rfl) ?_
     refine XC.condP rfl (fun h4 => ?_) (fun h4 => ?_)
     ·
      refine XC.sr ?_
      refine XO.mv rfl rfl ?_
      refine XO.as rfl rfl ?_
      refine XO.as rfl rfl ?_
      refine XO.nk [(6, _), (7, _)] (S2 rfl rfl) ?_
      refine XC.ret ?_
      refine XE.thenRet ?_
      refine XE.ret2 rfl rfl rfl (post_of (.cons (.t3 .here) .h4) rfl ?_)
      have hk : ¬ O.kind n = 3 := by assumption
      have h2 : ¬ O.kind n = 2 := by assumption
      have hfw : fileW O n := ⟨i0, hk, fun h => by rcases h with h | h; exact h2 h; rw [hwt] at h; cases h⟩
      have hwe : s.toFF.writeE (O.n n) (O.at_ n) x ≠ 0 := by assumption
      have eE : owriteE s.toFF q O n x = s.toFF.writeE (O.n n) (O.at_ n) x := by unfold owriteE; rw [if_neg (by omega), if_neg hk, if_neg hfw.2.2]
      have eV : owriteV s.toFF q O n x = 0 := by unfold owriteV; rw [if_neg (fun h => hk h.2), if_neg (fun h => hwe h.2)]
      have eF : owriteF s.toFF O n x = s.toFF.write (O.n n) (O.at_ n) x := by unfold owriteF; rw [if_pos hfw]
      have eO : owriteO s.toFF O n x = O := by unfold owriteO; rw [if_neg (fun h => hwe h.2)]
      have eP : owriteP q O n x = q := by unfold owriteP; rw [if_neg (fun h => hk h.2)]
      exact ⟨by rw [eE, eV], t, by rw [eF]; exact ht, tp, tc, by rw [eO, eP]⟩
     ·
      refine XC.skip ?_
      refine XE.next ?_
      refine XC.keep [(2, _), (8, _)] (S2 rfl rfl) ?_
      refine XC.sr ?_
      refine XO.mv rfl rfl ?_
      refine XO.v (V.nilCheckP rfl) rfl ?_
      refine XO.v (V.fieldAddr rfl fo_86_2) rfl ?_
      refine XO.v (V.load rfl (inXM (.t3 .here)) (encO.ld_o_at _ _ (by omega)) sc_3) rfl ?_
      refine XO.mv rfl rfl ?_
      refine XO.v (V.lenStr rfl Tryz.underlying9) rfl ?_
      refine XO.v (V.add rfl rfl _ (IntWalk.i64_in _ (by omega))) rfl ?_
      refine XO.v (V.nilCheckP rfl) rfl ?_
      refine XO.v (V.fieldAddr rfl fo_86_2) rfl ?_
      refine XO.store rfl rfl (.t3 .here) (encO.st_o_at _ _ (by omega) _) rfl sz_3_1 ?_
      refine XO.nk [(2, _)] (S1 rfl) ?_
      refine XC.sr ?_
      refine XO.mv rfl rfl ?_
      refine XO.v (V.lenStr rfl Tryz.underlying9) rfl ?_
      refine XO.as rfl rfl ?_
      refine XO.as rfl rfl ?_
      refine XO.nk [(6, _), (7, _)] (S2 rfl rfl) ?_
      refine XC.ret ?_
      refine XE.ret2 rfl rfl rfl (post_of (.cons (.t3 .here) .h4) rfl ?_)
      have hk : ¬ O.kind n = 3 := by assumption
      have h2 : ¬ O.kind n = 2 := by assumption
      have hfw : fileW O n := ⟨i0, hk, fun h => by rcases h with h | h; exact h2 h; rw [hwt] at h; cases h⟩
      have hwe : s.toFF.writeE (O.n n) (O.at_ n) x = 0 := Decidable.byContradiction (by assumption)
      have eE : owriteE s.toFF q O n x = 0 := by unfold owriteE; rw [if_neg (by omega), if_neg hk, if_neg hfw.2.2, hwe]
      have eV : owriteV s.toFF q O n x = (x.size : Int) := by unfold owriteV; rw [if_neg (fun h => hk h.2), if_pos ⟨hfw, hwe⟩]
      have eF : owriteF s.toFF O n x = s.toFF.write (O.n n) (O.at_ n) x := by unfold owriteF; rw [if_pos hfw]
      have eO : owriteO s.toFF O n x = O.move n (x.size) := by unfold owriteO; rw [if_pos ⟨hfw, hwe⟩]
      have eP : owriteP q O n x = q := by unfold owriteP; rw [if_neg (fun h => hk h.2)]
      exact ⟨by rw [eE, eV]; rfl, t, by rw [eF]; exact ht, tp, tc, by rw [eO, eP]; rfl⟩
 ·
  refine XO.mv rfl rfl ?_
  refine XO.v (V.extract rfl rfl) rfl ?_
  refine XO.v (V.extract rfl rfl) rfl ?_
  refine XO.as rfl rfl ?_
  refine XO.as rfl rfl ?_
  refine XO.nk [(0, _), (2, _), (8, _), (9, _)] (S4 rfl rfl rfl rfl) ?_
  refine XC.seq ?_
  refine XC.sr ?_
  refine XO.mv rfl rfl ?_
  refine XO.v (V.ifaceNil rfl Tryz.underlying36 rfl) rfl ?_
  refine XO.nk [(0, _), (2, _), (8, _), (9, _), (17, _)] (S5 rfl rfl rfl rfl rfl) ?_
  refine XC.condT rfl rfl ?_
  refine XC.sr ?_
  refine XO.mv rfl rfl ?_
  refine XO.as rfl rfl ?_
  refine XO.as rfl rfl ?_
  refine XO.nk [(6, _), (7, _)] (S2 rfl rfl) ?_
  refine XC.ret ?_
  refine XE.thenRet ?_
  refine XE.ret2 rfl rfl rfl (post_of .h5 rfl ?_)
  have eE : owriteE s.toFF q O n x = O.is n := by unfold owriteE; rw [if_pos i0]
  have eV : owriteV s.toFF q O n x = 0 := by unfold owriteV; rw [if_neg (fun h => i0 h.1), if_neg (fun h => i0 h.1.1)]
  have eF : owriteF s.toFF O n x = s.toFF := by unfold owriteF; rw [if_neg (fun h => i0 h.1)]
  have eO : owriteO s.toFF O n x = O := by unfold owriteO; rw [if_neg (fun h => i0 h.1.1)]
  have eP : owriteP q O n x = q := by unfold owriteP; rw [if_neg (fun h => i0 h.1)]
  exact ⟨by rw [eE, eV, errv_pos _ i0], s, by rw [eF], rfl, rfl, by rw [eO, eP]⟩
set_option maxRecDepth 10000 in
set_option maxHeartbeats 4000000 in
theorem f_Read (bo oo bf bp : Nat) (O : OS) (J : Int) (hJ : J ≤ 1000000) (hO : O.Inv J) (s : FC) (hI : s.toFF.Sh) (K : Int) (hK : K ≤ 1000000) (q : PS) (hq : q.Inv K) (n m : Int) : Spec Tryz.prog 52 [ptr bo oo 0, .int .i64 n, .int .i64 m]
    [.cells bo oo 122 (encO bf bp O), .cells bf 0 321 (encF s), .fam fam40 (FC.rowsN 9 s), .fam fam40 (FC.rowsK 3 s), .cells bp 0 24 (encP q)]
    (fun v H1 => v = .tuple #[.string (oreadV s.toFF q O n m), errv 82 (oreadE s.toFF q O n m)] ∧ H1 = [.cells bo oo 122 (encO bf bp (oreadO s.toFF O n m)), .cells bf 0 321 (encF s), .fam fam40 (FC.rowsN 9 s), .fam fam40 (FC.rowsK 3 s), .cells bp 0 24 (encP (oreadP q O n m))]) := by
 refine Spec.intro Tryz.func52 rfl rfl ?_
 intro W
 refine XC.sr ?_
 refine XO.as rfl rfl ?_
 refine XO.as rfl rfl ?_
 refine XO.nk [(0, _), (1, _), (2, _)] (S3 rfl rfl rfl) ?_
 refine XC.sr ?_
 refine XO.mv rfl rfl ?_
 refine XO.mv rfl rfl ?_
 refine XO.call rfl (f_is _ _ _ _ _ _) .h1 cl_57 rfl ?_
 rintro _ _ (⟨⟨i0, i1, i2⟩, rfl, rfl⟩ | ⟨i0, rfl, rfl⟩)
 ·
  refine XO.mv rfl rfl ?_
  refine XO.v (V.extract rfl rfl) rfl ?_
  refine XO.v (V.extract rfl rfl) rfl ?_
  refine XO.as rfl rfl ?_
  refine XO.as rfl rfl ?_
  refine XO.nk [(0, _), (2, _), (8, _), (9, _)] (S4 rfl rfl rfl rfl) ?_
  refine XC.seq ?_
  refine XC.sr ?_
  refine XO.mv rfl rfl ?_
  refine XO.v (V.nilNil rfl Tryz.underlying36 rfl) rfl ?_
  refine XO.nk [(0, _), (2, _), (8, _), (9, _), (18, _)] (S5 rfl rfl rfl rfl rfl) ?_
  refine XC.condF rfl rfl ?_
  refine XC.skip ?_
  refine XE.next ?_
  refine XC.keep [(0, _), (2, _), (8, _)] (S3 rfl rfl rfl) ?_
  refine XC.seq ?_
  refine XC.sr ?_
  have hra := hO.refs n i1 i2
  have haa := hO.at_ n i1 i2
  have hka := hO.kind n i1 i2 (OS.is_0 i0).2.2
  refine XO.mv rfl rfl ?_
  refine XO.v (V.nilCheckP rfl) rfl ?_
  refine XO.v (V.fieldAddr rfl fo_86_0) rfl ?_
  refine XO.v (V.load rfl (inXM .here) (encO.ld_o_kind _ _ (by omega)) sc_3) rfl ?_
  refine XO.nk [(0, _), (2, _), (8, _), (23, _)] (S4 rfl rfl rfl rfl) ?_
  refine XC.block ?_
  refine XC.sr ?_
  refine XO.v (V.cmp rfl rfl rfl) rfl ?_
  refine XO.as rfl rfl ?_
  refine XO.nk [(0, _), (2, _), (8, _), (23, _), (24, _)] (S5 rfl rfl rfl rfl rfl) ?_
  refine XC.condP rfl (fun h1 => ?_) (fun h1 => ?_)
  ·
   refine XC.sr ?_
   refine XO.v (V.makeIface rfl Tryz.underlying82 (by simp)) rfl ?_
   refine XO.as rfl rfl ?_
   refine XO.as rfl rfl ?_
   refine XO.nk [(6, _), (7, _)] (S2 rfl rfl) ?_
   refine XC.ret ?_
   refine XE.blockRet ?_
   refine XE.thenRet ?_
   refine XE.ret2 rfl rfl rfl (post_of .h5 rfl ?_)
   have hk : O.kind n = 3 := by assumption
   have eE : oreadE s.toFF q O n m = 8 := by unfold oreadE; rw [if_neg (by omega), if_pos hk]
   have eV : oreadV s.toFF q O n m = ⟨#[]⟩ := by unfold oreadV; rw [if_neg (by omega), if_pos hk]
   have eO : oreadO s.toFF O n m = O := by unfold oreadO; rw [if_neg (fun h => h.2.1 hk)]
   have eP : oreadP q O n m = q := by unfold oreadP; rw [if_neg (fun h => by omega)]
   exact ⟨by rw [eE, eV]; rfl, by rw [eO, eP]⟩
  ·
   refine XC.sr ?_
   refine XO.v (V.cmp rfl rfl rfl) rfl ?_
   refine XO.as rfl rfl ?_
   refine XO.nk [(0, _), (2, _), (8, _), (27, _)] (S4 rfl rfl rfl rfl) ?_
   refine XC.condP rfl (fun h2 => ?_) (fun h2 => ?_)
   ·
    refine XC.seq ?_
    refine XC.regionQ mixed (f := 14) (l := #[false, false, false, false, false, false, false, false, false, false, false, false, false, false]) rfl rfl XM.drawn' ?_
    refine XQ.pv (i := 0) (l' := #[tt,ff,ff,ff,ff,ff,ff,ff,ff,ff,ff,ff,ff,ff]) rfl (by kernel_rfl) rfl (V.move rfl) rfl rfl ?_
    refine XQ.pv (i := 1) (l' := #[tt,tt,ff,ff,ff,ff,ff,ff,ff,ff,ff,ff,ff,ff]) rfl (by kernel_rfl) rfl (V.nilCheckP rfl) rfl rfl ?_
    refine XQ.pv (i := 2) (l' := #[tt,tt,tt,ff,ff,ff,ff,ff,ff,ff,ff,ff,ff,ff]) rfl (by kernel_rfl) rfl (V.fieldAddr rfl fo_89_1) rfl rfl ?_
    refine XQ.load (i := 3) (l' := #[tt,tt,tt,tt,ff,ff,ff,ff,ff,ff,ff,ff,ff,ff]) (.cells _ _ _ _) [9] rfl (by kernel_rfl) rfl .here (V.load rfl inEnt (encO.ld_p _) sc_41) rfl (by kernel_rfl) rfl ?_
    refine XQ.pv (i := 4) (l' := #[tt,tt,tt,tt,tt,ff,ff,ff,ff,ff,ff,ff,ff,ff]) rfl (by kernel_rfl) rfl (V.move rfl) rfl rfl ?_
    refine XQ.pv (i := 5) (l' := #[tt,tt,tt,tt,tt,tt,ff,ff,ff,ff,ff,ff,ff,ff]) rfl (by kernel_rfl) rfl (V.nilCheckP rfl) rfl rfl ?_
    refine XQ.pv (i := 6) (l' := #[tt,tt,tt,tt,tt,tt,tt,ff,ff,ff,ff,ff,ff,ff]) rfl (by kernel_rfl) rfl (V.fieldAddr rfl fo_86_1) rfl rfl ?_
    refine XQ.load (i := 7) (l' := #[tt,tt,tt,tt,tt,tt,tt,tt,ff,ff,ff,ff,ff,ff]) (.cells _ _ _ _) [9] rfl (by kernel_rfl) rfl .here (V.load rfl inEnt (encO.ld_o_n _ _ (by omega)) sc_3) rfl (by kernel_rfl) rfl ?_
    refine XQ.pv (i := 8) (l' := #[tt,tt,tt,tt,tt,tt,tt,tt,tt,ff,ff,ff,ff,ff]) rfl (by kernel_rfl) rfl (V.move rfl) rfl rfl ?_
    refine XQ.call (i := 9) (l' := #[tt,tt,tt,tt,tt,tt,tt,tt,tt,tt,ff,ff,ff,ff]) rfl (by kernel_rfl) rfl rfl (p_Read _ _ K hK q hq _ _) (.cons (.t4 .here) .nil) cl_91 rfl (by rintro _ _ ⟨rfl, rfl⟩; all_goals (intro _ hw'; exact ⟨fun hs => (hs 9 (by first | (simp; done) | (simp; rfl)) rfl).elim, fun hs => (hs 9 (by first | (simp; done) | (simp; rfl)) rfl).elim, trivial⟩)) ?_
    rintro _ _ ⟨rfl, rfl⟩
    refine XQ.pv (i := 10) (l' := #[tt,tt,tt,tt,tt,tt,tt,tt,tt,tt,tt,ff,ff,ff]) rfl (by kernel_rfl) rfl (V.extract rfl rfl) rfl rfl ?_
    refine XQ.pv (i := 11) (l' := #[tt,tt,tt,tt,tt,tt,tt,tt,tt,tt,tt,tt,ff,ff]) rfl (by kernel_rfl) rfl (V.extract rfl rfl) rfl rfl ?_
    refine XQ.pv (i := 12) (l' := #[tt,tt,tt,tt,tt,tt,tt,tt,tt,tt,tt,tt,tt,ff]) rfl (by kernel_rfl) rfl (V.assign rfl) rfl rfl ?_
    refine XQ.pv (i := 13) (l' := #[tt,tt,tt,tt,tt,tt,tt,tt,tt,tt,tt,tt,tt,tt]) rfl (by kernel_rfl) rfl (V.assign rfl) rfl rfl ?_
    refine XQ.done (by kernel_rfl) ?_
    refine XE.next ?_
    refine XC.keep [(6, _), (7, _)] (S2 rfl rfl) ?_
    refine XC.ret ?_
    refine XE.blockRet ?_
    refine XE.thenRet ?_
    refine XE.ret2 rfl rfl rfl (post_of (.cons (.there .here) (.cons (.there .here) (.cons (.there .here) (.cons (.there .here) .h1)))) rfl ?_)
    have hk : ¬ O.kind n = 3 := by assumption
    have h2 : O.kind n = 2 := by assumption
    have eE : oreadE s.toFF q O n m = (q.read (O.n n) m).2.1 := by unfold oreadE; rw [if_neg (by omega), if_neg hk, if_pos h2]
    have eV : oreadV s.toFF q O n m = (q.read (O.n n) m).1 := by unfold oreadV; rw [if_neg (by omega), if_neg hk, if_pos h2]
    have eO : oreadO s.toFF O n m = O := by unfold oreadO; rw [if_neg (fun h => h.2.2 h2)]
    have eP : oreadP q O n m = (q.read (O.n n) m).2.2 := by unfold oreadP; rw [if_pos ⟨i0, h2⟩]
    exact ⟨by rw [eE, eV], by rw [eO, eP]⟩
   ·
    refine XC.skip ?_
    refine XE.blockNormal ?_
    refine XE.next ?_
    refine XC.keep [(0, _), (2, _), (8, _)] (S3 rfl rfl rfl) ?_
    refine XC.seq ?_
    refine XC.regionQ mixed (f := 19) (l := #[false, false, false, false, false, false, false, false, false, false, false, false, false, false, false, false, false, false, false]) rfl rfl XM.drawn' ?_
    refine XQ.pv (i := 0) (l' := #[tt,ff,ff,ff,ff,ff,ff,ff,ff,ff,ff,ff,ff,ff,ff,ff,ff,ff,ff]) rfl (by kernel_rfl) rfl (V.move rfl) rfl rfl ?_
    refine XQ.pv (i := 1) (l' := #[tt,tt,ff,ff,ff,ff,ff,ff,ff,ff,ff,ff,ff,ff,ff,ff,ff,ff,ff]) rfl (by kernel_rfl) rfl (V.nilCheckP rfl) rfl rfl ?_
    refine XQ.pv (i := 2) (l' := #[tt,tt,tt,ff,ff,ff,ff,ff,ff,ff,ff,ff,ff,ff,ff,ff,ff,ff,ff]) rfl (by kernel_rfl) rfl (V.fieldAddr rfl fo_89_0) rfl rfl ?_
    refine XQ.load (i := 3) (l' := #[tt,tt,tt,tt,ff,ff,ff,ff,ff,ff,ff,ff,ff,ff,ff,ff,ff,ff,ff]) (.cells _ _ _ _) [13] rfl (by kernel_rfl) rfl .here (V.load rfl inEnt (encO.ld_f _) sc_25) rfl (by kernel_rfl) rfl ?_
    refine XQ.pv (i := 4) (l' := #[tt,tt,tt,tt,tt,ff,ff,ff,ff,ff,ff,ff,ff,ff,ff,ff,ff,ff,ff]) rfl (by kernel_rfl) rfl (V.move rfl) rfl rfl ?_
    refine XQ.pv (i := 5) (l' := #[tt,tt,tt,tt,tt,tt,ff,ff,ff,ff,ff,ff,ff,ff,ff,ff,ff,ff,ff]) rfl (by kernel_rfl) rfl (V.nilCheckP rfl) rfl rfl ?_
    refine XQ.pv (i := 6) (l' := #[tt,tt,tt,tt,tt,tt,tt,ff,ff,ff,ff,ff,ff,ff,ff,ff,ff,ff,ff]) rfl (by kernel_rfl) rfl (V.fieldAddr rfl fo_86_1) rfl rfl ?_
    refine XQ.load (i := 7) (l' := #[tt,tt,tt,tt,tt,tt,tt,tt,ff,ff,ff,ff,ff,ff,ff,ff,ff,ff,ff]) (.cells _ _ _ _) [13] rfl (by kernel_rfl) rfl .here (V.load rfl inEnt (encO.ld_o_n _ _ (by omega)) sc_3) rfl (by kernel_rfl) rfl ?_
    refine XQ.pv (i := 8) (l' := #[tt,tt,tt,tt,tt,tt,tt,tt,tt,ff,ff,ff,ff,ff,ff,ff,ff,ff,ff]) rfl (by kernel_rfl) rfl (V.move rfl) rfl rfl ?_
    refine XQ.pv (i := 9) (l' := #[tt,tt,tt,tt,tt,tt,tt,tt,tt,tt,ff,ff,ff,ff,ff,ff,ff,ff,ff]) rfl (by kernel_rfl) rfl (V.nilCheckP rfl) rfl rfl ?_
    refine XQ.pv (i := 10) (l' := #[tt,tt,tt,tt,tt,tt,tt,tt,tt,tt,tt,ff,ff,ff,ff,ff,ff,ff,ff]) rfl (by kernel_rfl) rfl (V.fieldAddr rfl fo_86_2) rfl rfl ?_
    refine XQ.load (i := 11) (l' := #[tt,tt,tt,tt,tt,tt,tt,tt,tt,tt,tt,tt,ff,ff,ff,ff,ff,ff,ff]) (.cells _ _ _ _) [13] rfl (by kernel_rfl) rfl .here (V.load rfl inEnt (encO.ld_o_at _ _ (by omega)) sc_3) rfl (by kernel_rfl) rfl ?_
    refine XQ.pv (i := 12) (l' := #[tt,tt,tt,tt,tt,tt,tt,tt,tt,tt,tt,tt,tt,ff,ff,ff,ff,ff,ff]) rfl (by kernel_rfl) rfl (V.move rfl) rfl rfl ?_
    refine XQ.call (i := 13) (l' := #[tt,tt,tt,tt,tt,tt,tt,tt,tt,tt,tt,tt,tt,tt,ff,ff,ff,ff,ff]) rfl (by kernel_rfl) rfl rfl (t_Read _ _ _ hI _ _ _) (.cons (.there .here) .nil) cl_39 rfl (by rintro _ _ ⟨rfl, rfl⟩; all_goals (intro _ hw'; exact ⟨fun hs => (hs 13 (by first | (simp; done) | (simp; rfl)) rfl).elim, fun hs => (hs 13 (by first | (simp; done) | (simp; rfl)) rfl).elim, fun hs => (hs 13 (by first | (simp; done) | (simp; rfl)) rfl).elim, trivial⟩)) ?_
    rintro _ _ ⟨rfl, rfl⟩
    refine XQ.pv (i := 14) (l' := #[tt,tt,tt,tt,tt,tt,tt,tt,tt,tt,tt,tt,tt,tt,tt,ff,ff,ff,ff]) rfl (by kernel_rfl) rfl (V.move rfl) rfl rfl ?_
    refine XQ.pv (i := 15) (l' := #[tt,tt,tt,tt,tt,tt,tt,tt,tt,tt,tt,tt,tt,tt,tt,tt,ff,ff,ff]) rfl (by kernel_rfl) rfl (V.extract rfl rfl) rfl rfl ?_
    refine XQ.pv (i := 16) (l' := #[tt,tt,tt,tt,tt,tt,tt,tt,tt,tt,tt,tt,tt,tt,tt,tt,tt,ff,ff]) rfl (by kernel_rfl) rfl (V.extract rfl rfl) rfl rfl ?_
    refine XQ.pv (i := 17) (l' := #[tt,tt,tt,tt,tt,tt,tt,tt,tt,tt,tt,tt,tt,tt,tt,tt,tt,tt,ff]) rfl (by kernel_rfl) rfl (V.assign rfl) rfl rfl ?_
    refine XQ.pv (i := 18) (l' := #[tt,tt,tt,tt,tt,tt,tt,tt,tt,tt,tt,tt,tt,tt,tt,tt,tt,tt,tt]) rfl (by kernel_rfl) rfl (V.assign rfl) rfl rfl ?_
    refine XQ.done (by kernel_rfl) ?_
    refine XE.next ?_
    refine XC.keep [(8, _), (9, _), (10, _)] (S3 rfl rfl rfl) ?_
    refine XC.sr ?_
    have hrl := FF.readV_le hI (O.n n) (O.at_ n) m
    refine XO.mv rfl rfl ?_
    refine XO.v (V.nilCheckP rfl) rfl ?_
    refine XO.v (V.fieldAddr rfl fo_86_2) rfl ?_
    refine XO.v (V.load rfl (inXM (.there .here)) (encO.ld_o_at _ _ (by omega)) sc_3) rfl ?_
    refine XO.mv rfl rfl ?_
    refine XO.v (V.lenStr rfl Tryz.underlying9) rfl ?_
    refine XO.v (V.add rfl rfl _ (IntWalk.i64_in _ (by omega))) rfl ?_
    refine XO.v (V.nilCheckP rfl) rfl ?_
    refine XO.v (V.fieldAddr rfl fo_86_2) rfl ?_
    refine XO.store rfl rfl (.there .here) (encO.st_o_at _ _ (by omega) _) rfl sz_3_1 ?_
    refine XO.nk [(9, _), (10, _)] (S2 rfl rfl) ?_
    refine XC.sr ?_
    refine XO.mv rfl rfl ?_
    refine XO.mv rfl rfl ?_
    refine XO.as rfl rfl ?_
    refine XO.as rfl rfl ?_
    refine XO.nk [(6, _), (7, _)] (S2 rfl rfl) ?_
    refine XC.ret ?_
    refine XE.ret2 rfl rfl rfl (post_of (.cons (.there .here) .h4) rfl ?_)
    have hk : ¬ O.kind n = 3 := by assumption
    have h2 : ¬ O.kind n = 2 := by assumption
    have eE : oreadE s.toFF q O n m = s.toFF.readE (O.n n) (O.at_ n) m := by unfold oreadE; rw [if_neg (by omega), if_neg hk, if_neg h2]
    have eV : oreadV s.toFF q O n m = s.toFF.readV (O.n n) (O.at_ n) m := by unfold oreadV; rw [if_neg (by omega), if_neg hk, if_neg h2]
    have eO : oreadO s.toFF O n m = O.move n ((s.toFF.readV (O.n n) (O.at_ n) m).size) := by unfold oreadO; rw [if_pos ⟨i0, hk, h2⟩]
    have eP : oreadP q O n m = q := by unfold oreadP; rw [if_neg (fun h => h2 h.2)]
    exact ⟨by rw [eE, eV], by rw [eO, eP]; rfl⟩
 ·
  refine XO.mv rfl rfl ?_
  refine XO.v (V.extract rfl rfl) rfl ?_
  refine XO.v (V.extract rfl rfl) rfl ?_
  refine XO.as rfl rfl ?_
  refine XO.as rfl rfl ?_
  refine XO.nk [(0, _), (2, _), (8, _), (9, _)] (S4 rfl rfl rfl rfl) ?_
  refine XC.seq ?_
  refine XC.sr ?_
  refine XO.mv rfl rfl ?_
  refine XO.v (V.ifaceNil rfl Tryz.underlying36 rfl) rfl ?_
  refine XO.nk [(0, _), (2, _), (8, _), (9, _), (18, _)] (S5 rfl rfl rfl rfl rfl) ?_
  refine XC.condT rfl rfl ?_
  refine XC.sr ?_
  refine XO.mv rfl rfl ?_
  refine XO.as rfl rfl ?_
  refine XO.as rfl rfl ?_
  refine XO.nk [(6, _), (7, _)] (S2 rfl rfl) ?_
  refine XC.ret ?_
  refine XE.thenRet ?_
  refine XE.ret2 rfl rfl rfl (post_of .h5 rfl ?_)
  have eE : oreadE s.toFF q O n m = O.is n := by unfold oreadE; rw [if_pos i0]
  have eV : oreadV s.toFF q O n m = ⟨#[]⟩ := by unfold oreadV; rw [if_pos i0]
  have eO : oreadO s.toFF O n m = O := by unfold oreadO; rw [if_neg (fun h => i0 h.1)]
  have eP : oreadP q O n m = q := by unfold oreadP; rw [if_neg (fun h => i0 h.1)]
  exact ⟨by rw [eE, eV, errv_pos _ i0], by rw [eO, eP]⟩
set_option maxRecDepth 10000 in
set_option maxHeartbeats 4000000 in
theorem f_Close (bo oo bf bp : Nat) (O : OS) (J : Int) (hJ : J ≤ 1000000) (hO : O.Inv J) (s : FC) (hI : s.toFF.Sh) (K : Int) (hK : K ≤ 1000000) (q : PS) (hq : q.Inv K) (n : Int) : Spec Tryz.prog 50 [ptr bo oo 0, .int .i64 n]
    [.cells bo oo 122 (encO bf bp O), .cells bf 0 321 (encF s), .fam fam40 (FC.rowsN 9 s), .fam fam40 (FC.rowsK 3 s), .cells bp 0 24 (encP q)]
    (fun v H1 => v = errv 82 (closeE s.toFF q O n) ∧ ∃ t : FC, t.toFF = closeF s.toFF O n ∧ t.rP = s.rP ∧ t.rC = s.rC ∧ H1 = [.cells bo oo 122 (encO bf bp (closeO O n)), .cells bf 0 321 (encF t), .fam fam40 (FC.rowsN 9 t), .fam fam40 (FC.rowsK 3 t), .cells bp 0 24 (encP (closeP q O n))]) := by
 refine Spec.intro Tryz.func50 rfl rfl ?_
 intro W
 refine XC.sr ?_
 refine XO.as rfl rfl ?_
 refine XO.nk [(0, _), (1, _)] (S2 rfl rfl) ?_
 refine XC.sr ?_
 refine XO.mv rfl rfl ?_
 refine XO.mv rfl rfl ?_
 refine XO.call rfl (f_is _ _ _ _ _ _) .h1 cl_57 rfl ?_
 rintro _ _ (⟨⟨i0, i1, i2⟩, rfl, rfl⟩ | ⟨i0, rfl, rfl⟩)
 ·
  refine XO.mv rfl rfl ?_
  refine XO.v (V.extract rfl rfl) rfl ?_
  refine XO.v (V.extract rfl rfl) rfl ?_
  refine XO.as rfl rfl ?_
  refine XO.as rfl rfl ?_
  refine XO.nk [(0, _), (5, _), (6, _)] (S3 rfl rfl rfl) ?_
  refine XC.seq ?_
  refine XC.sr ?_
  refine XO.mv rfl rfl ?_
  refine XO.v (V.nilNil rfl Tryz.underlying36 rfl) rfl ?_
  refine XO.nk [(0, _), (5, _), (6, _), (15, _)] (S4 rfl rfl rfl rfl) ?_
  refine XC.condF rfl rfl ?_
  refine XC.skip ?_
  refine XE.next ?_
  refine XC.keep [(0, _), (5, _)] (S2 rfl rfl) ?_
  refine XC.sr ?_
  have hra := hO.refs n i1 i2
  have haa := hO.at_ n i1 i2
  have hka := hO.kind n i1 i2 (OS.is_0 i0).2.2
  refine XO.mv rfl rfl ?_
  refine XO.v (V.nilCheckP rfl) rfl ?_
  refine XO.v (V.fieldAddr rfl fo_86_4) rfl ?_
  refine XO.v (V.load rfl (inXM .here) (encO.ld_o_refs _ _ (by omega)) sc_3) rfl ?_
  refine XO.v (V.sub rfl rfl _ (IntWalk.i64_in _ (by omega))) rfl ?_
  refine XO.v (V.nilCheckP rfl) rfl ?_
  refine XO.v (V.fieldAddr rfl fo_86_4) rfl ?_
  refine XO.store rfl rfl .here (encO.st_o_refs _ _ (by omega) _) rfl sz_3_1 ?_
  refine XO.nk [(0, _), (5, _)] (S2 rfl rfl) ?_
  refine XC.seq ?_
  refine XC.sr ?_
  refine XO.mv rfl rfl ?_
  refine XO.v (V.nilCheckP rfl) rfl ?_
  refine XO.v (V.fieldAddr rfl fo_86_4) rfl ?_
  refine XO.v (V.load rfl (inXM .here) (encO.ld_o_refs _ _ (by omega)) sc_3) rfl ?_
  refine XO.v (V.cmp rfl rfl rfl) rfl ?_
  refine XO.nk [(0, _), (5, _), (28, _)] (S3 rfl rfl rfl) ?_
  refine XC.condP rfl (fun h1 => ?_) (fun h1 => ?_)
  ·
   have e9 : fset O.refs n (O.refs n - 1) n = O.refs n - 1 := fset_eq _ _ _
   have h9 : fset O.refs n (O.refs n - 1) n > 0 := h1
   have hrg : 0 < O.refs n - 1 := by omega
   refine XC.sr ?_
   refine XO.as rfl rfl ?_
   refine XO.nk [(4, _)] (S1 rfl) ?_
   refine XC.ret ?_
   refine XE.thenRet ?_
   refine XE.ret1 rfl rfl (post_of .h5 rfl ?_)
   have eE : closeE s.toFF q O n = 0 := by unfold closeE; rw [if_neg (by omega), if_pos hrg]
   have eF : closeF s.toFF O n = s.toFF := by unfold closeF; rw [if_neg (fun h => h.1.2 hrg)]
   have eP : closeP q O n = q := by unfold closeP; rw [if_neg (fun h => h.1.2 hrg)]
   have eO : closeO O n = downO O n := by unfold closeO; rw [if_neg (by omega), if_pos hrg]
   exact ⟨by rw [eE]; rfl, s, by rw [eF], rfl, rfl, by rw [eO, eP]; rfl⟩
  ·
   have e9 : fset O.refs n (O.refs n - 1) n = O.refs n - 1 := fset_eq _ _ _
   have h9 : ¬ fset O.refs n (O.refs n - 1) n > 0 := h1
   have hrg : ¬ 0 < O.refs n - 1 := by omega
   refine XC.skip ?_
   refine XE.next ?_
   refine XC.keep [(0, _), (5, _)] (S2 rfl rfl) ?_
   refine XC.sr ?_
   refine XO.mv rfl rfl ?_
   refine XO.v (V.nilCheckP rfl) rfl ?_
   refine XO.v (V.loadAgg rfl (inXM .here) (encO.un_agg _ _ (by omega)) ag_86 sz_86_5) rfl ?_
   refine XO.allocZ (z := .agg (encO.arr ⟨0, 0, 0, false, 0⟩)) (m := 5) (C := encO.cell ⟨0, 0, 0, false, 0⟩) (by kernel_rfl) rfl (encO.box _) rfl ?_
   intro bx
   refine XO.storeAgg rfl rfl .here (encO.ust _ _) ⟨rfl, rfl⟩ sz_86_5 ?_
   refine XO.nk [(0, _), (5, _), (7, _)] (S3 rfl rfl rfl) ?_
   refine XC.sr ?_
   refine XO.mv rfl rfl ?_
   refine XO.v (V.build (vs := #[]) rfl (v := .agg (encO.arr ⟨0, 0, 0, false, 0⟩)) (fun _ => by kernel_rfl)) rfl ?_
   refine XO.v (V.nilCheckP rfl) rfl ?_
   refine XO.storeAgg rfl rfl (.there .here) (encO.put (downO O n) n 0 0 false 0 ⟨i1, i2⟩) ⟨rfl, rfl⟩ sz_86_5 ?_
   refine XO.nk [(0, _), (7, _)] (S2 rfl rfl) ?_
   refine XC.seq ?_
   refine XC.sr ?_
   refine XO.v (V.fieldAddr rfl fo_86_0) rfl ?_
   refine XO.v (V.load rfl (inXM .here) (encO.u_0 _) sc_3) rfl ?_
   refine XO.v (V.cmp rfl rfl rfl) rfl ?_
   refine XO.nk [(0, _), (7, _), (37, _)] (S3 rfl rfl rfl) ?_
   refine XC.condP rfl (fun h2 => ?_) (fun h2 => ?_)
   ·
    refine XC.seq ?_
    refine XC.regionQ mixed (f := 8) (l := #[false, false, false, false, false, false, false, false]) rfl rfl XM.drawn' ?_
    refine XQ.pv (i := 0) (l' := #[tt,ff,ff,ff,ff,ff,ff,ff]) rfl (by kernel_rfl) rfl (V.move rfl) rfl rfl ?_
    refine XQ.pv (i := 1) (l' := #[tt,tt,ff,ff,ff,ff,ff,ff]) rfl (by kernel_rfl) rfl (V.nilCheckP rfl) rfl rfl ?_
    refine XQ.pv (i := 2) (l' := #[tt,tt,tt,ff,ff,ff,ff,ff]) rfl (by kernel_rfl) rfl (V.fieldAddr rfl fo_89_0) rfl rfl ?_
    refine XQ.load (i := 3) (l' := #[tt,tt,tt,tt,ff,ff,ff,ff]) (.cells _ _ _ _) [6] rfl (by kernel_rfl) rfl (.there .here) (V.load rfl inEnt (encO.ld_f _) sc_25) rfl (by kernel_rfl) rfl ?_
    refine XQ.pv (i := 4) (l' := #[tt,tt,tt,tt,tt,ff,ff,ff]) rfl (by kernel_rfl) rfl (V.fieldAddr rfl fo_86_1) rfl rfl ?_
    refine XQ.load (i := 5) (l' := #[tt,tt,tt,tt,tt,tt,ff,ff]) (.cells _ _ _ _) [6] rfl (by kernel_rfl) rfl .here (V.load rfl inEnt (encO.u_1 _) sc_3) rfl (by kernel_rfl) rfl ?_
    refine XQ.call (i := 6) (l' := #[tt,tt,tt,tt,tt,tt,tt,ff]) rfl (by kernel_rfl) rfl rfl (t_Let _ _ _ hI _) (.cons (.t2 .here) (.cons (.t2 .here) (.cons (.t2 .here) .nil))) cl_36 rfl (by rintro _ _ ⟨rfl, t, ht, tp, tc, rfl⟩; all_goals (intro _ hw'; exact ⟨fun hs => (hs 6 (by first | (simp; done) | (simp; rfl)) rfl).elim, fun hs => (hs 6 (by first | (simp; done) | (simp; rfl)) rfl).elim, trivial⟩)) ?_
    rintro _ _ ⟨rfl, t, ht, tp, tc, rfl⟩
    refine XQ.pv (i := 7) (l' := #[tt,tt,tt,tt,tt,tt,tt,tt]) rfl (by kernel_rfl) rfl (V.assign rfl) rfl rfl ?_
    refine XQ.done (by kernel_rfl) ?_
    refine XE.next ?_
    refine XC.keep [(4, _)] (S1 rfl) ?_
    refine XC.ret ?_
    refine XE.thenRet ?_
    refine XE.ret1 rfl rfl (post_of (.cons (.t4 .here) (.cons .here (.cons .here (.cons .here (.cons (.there .here) .nil))))) rfl ?_)
    have hk : O.kind n = 1 := by assumption
    have eE : closeE s.toFF q O n = s.toFF.letE (O.n n) := by unfold closeE; rw [if_neg (by omega), if_neg hrg, if_pos hk]
    have eF : closeF s.toFF O n = s.toFF.letF (O.n n) := by unfold closeF; rw [if_pos ⟨⟨i0, hrg⟩, hk⟩]
    have eP : closeP q O n = q := by unfold closeP; rw [if_neg (fun h => h.2 hk)]
    have eO : closeO O n = O.clr n := by unfold closeO; rw [if_neg (by omega), if_neg hrg]
    exact ⟨by rw [eE]; rfl, t, by rw [eF]; exact ht, tp, tc, by rw [eO, eP, ← OS.clr_down]; rfl⟩
   ·
    refine XC.skip ?_
    refine XE.next ?_
    refine XC.keep [(0, _), (7, _)] (S2 rfl rfl) ?_
    refine XC.seq ?_
    refine XC.regionQ mixed (f := 11) (l := #[false, false, false, false, false, false, false, false, false, false, false]) rfl rfl XM.drawn' ?_
    refine XQ.pv (i := 0) (l' := #[tt,ff,ff,ff,ff,ff,ff,ff,ff,ff,ff]) rfl (by kernel_rfl) rfl (V.move rfl) rfl rfl ?_
    refine XQ.pv (i := 1) (l' := #[tt,tt,ff,ff,ff,ff,ff,ff,ff,ff,ff]) rfl (by kernel_rfl) rfl (V.nilCheckP rfl) rfl rfl ?_
    refine XQ.pv (i := 2) (l' := #[tt,tt,tt,ff,ff,ff,ff,ff,ff,ff,ff]) rfl (by kernel_rfl) rfl (V.fieldAddr rfl fo_89_1) rfl rfl ?_
    refine XQ.load (i := 3) (l' := #[tt,tt,tt,tt,ff,ff,ff,ff,ff,ff,ff]) (.cells _ _ _ _) [9] rfl (by kernel_rfl) rfl (.there .here) (V.load rfl inEnt (encO.ld_p _) sc_41) rfl (by kernel_rfl) rfl ?_
    refine XQ.pv (i := 4) (l' := #[tt,tt,tt,tt,tt,ff,ff,ff,ff,ff,ff]) rfl (by kernel_rfl) rfl (V.fieldAddr rfl fo_86_1) rfl rfl ?_
    refine XQ.load (i := 5) (l' := #[tt,tt,tt,tt,tt,tt,ff,ff,ff,ff,ff]) (.cells _ _ _ _) [9] rfl (by kernel_rfl) rfl .here (V.load rfl inEnt (encO.u_1 _) sc_3) rfl (by kernel_rfl) rfl ?_
    refine XQ.pv (i := 6) (l' := #[tt,tt,tt,tt,tt,tt,tt,ff,ff,ff,ff]) rfl (by kernel_rfl) rfl (V.fieldAddr rfl fo_86_0) rfl rfl ?_
    refine XQ.load (i := 7) (l' := #[tt,tt,tt,tt,tt,tt,tt,tt,ff,ff,ff]) (.cells _ _ _ _) [9] rfl (by kernel_rfl) rfl .here (V.load rfl inEnt (encO.u_0 _) sc_3) rfl (by kernel_rfl) rfl ?_
    refine XQ.pv (i := 8) (l' := #[tt,tt,tt,tt,tt,tt,tt,tt,tt,ff,ff]) rfl (by kernel_rfl) rfl (V.cmp rfl rfl rfl) rfl rfl ?_
    refine XQ.call (i := 9) (l' := #[tt,tt,tt,tt,tt,tt,tt,tt,tt,tt,ff]) rfl (by kernel_rfl) rfl rfl (p_Drop _ _ K hK q hq _ _) (.cons (.t5 .here) .nil) cl_89 rfl (by rintro _ _ ⟨rfl, rfl⟩; all_goals (intro _ hw'; exact ⟨fun hs => (hs 9 (by first | (simp; done) | (simp; rfl)) rfl).elim, fun hs => (hs 9 (by first | (simp; done) | (simp; rfl)) rfl).elim, fun hs => (hs 9 (by first | (simp; done) | (simp; rfl)) rfl).elim, trivial⟩)) ?_
    rintro _ _ ⟨rfl, rfl⟩
    refine XQ.pv (i := 10) (l' := #[tt,tt,tt,tt,tt,tt,tt,tt,tt,tt,tt]) rfl (by kernel_rfl) rfl (V.assign rfl) rfl rfl ?_
    refine XQ.done (by kernel_rfl) ?_
    refine XE.next ?_
    refine XC.keep [(4, _)] (S1 rfl) ?_
    refine XC.ret ?_
    refine XE.ret1 rfl rfl (post_of (.cons (.t2 .here) (.cons (.t2 .here) (.cons (.t2 .here) (.cons (.t2 .here) .h1)))) rfl ?_)
    have hk : ¬ O.kind n = 1 := by assumption
    have eE : closeE s.toFF q O n = (q.turn (O.n n) (decide (O.kind n = 3)) (-1)).1 := by unfold closeE; rw [if_neg (by omega), if_neg hrg, if_neg hk]
    have eF : closeF s.toFF O n = s.toFF := by unfold closeF; rw [if_neg (fun h => hk h.2)]
    have eP : closeP q O n = (q.turn (O.n n) (decide (O.kind n = 3)) (-1)).2 := by unfold closeP; rw [if_pos ⟨⟨i0, hrg⟩, hk⟩]
    have eO : closeO O n = O.clr n := by unfold closeO; rw [if_neg (by omega), if_neg hrg]
    exact ⟨by rw [eE]; rfl, s, by rw [eF], rfl, rfl, by rw [eO, eP, ← OS.clr_down]; rfl⟩
 ·
  refine XO.mv rfl rfl ?_
  refine XO.v (V.extract rfl rfl) rfl ?_
  refine XO.v (V.extract rfl rfl) rfl ?_
  refine XO.as rfl rfl ?_
  refine XO.as rfl rfl ?_
  refine XO.nk [(0, _), (5, _), (6, _)] (S3 rfl rfl rfl) ?_
  refine XC.seq ?_
  refine XC.sr ?_
  refine XO.mv rfl rfl ?_
  refine XO.v (V.ifaceNil rfl Tryz.underlying36 rfl) rfl ?_
  refine XO.nk [(0, _), (5, _), (6, _), (15, _)] (S4 rfl rfl rfl rfl) ?_
  refine XC.condT rfl rfl ?_
  refine XC.sr ?_
  refine XO.mv rfl rfl ?_
  refine XO.as rfl rfl ?_
  refine XO.nk [(4, _)] (S1 rfl) ?_
  refine XC.ret ?_
  refine XE.thenRet ?_
  refine XE.ret1 rfl rfl (post_of .h5 rfl ?_)
  have eE : closeE s.toFF q O n = O.is n := by unfold closeE; rw [if_pos i0]
  have eF : closeF s.toFF O n = s.toFF := by unfold closeF; rw [if_neg (fun h => i0 h.1.1)]
  have eP : closeP q O n = q := by unfold closeP; rw [if_neg (fun h => i0 h.1.1)]
  have eO : closeO O n = O := by unfold closeO; rw [if_pos i0]
  exact ⟨by rw [eE, errv_pos _ i0], s, by rw [eF], rfl, rfl, by rw [eO, eP]⟩
set_option maxRecDepth 10000 in
set_option maxHeartbeats 400000 in
theorem f_New (bf bp : Nat) : Spec Tryz.prog 10 [ptr bf 0 0, ptr bp 0 0]
    []
    (fun v H1 => ∃ b, v = ptr b 0 0 ∧ H1 = [.cells b 0 122 (encO bf bp OS.void)]) := by
 refine Spec.intro Tryz.func10 rfl rfl ?_
 intro W
 refine XC.sr ?_
 refine XO.as rfl rfl ?_
 refine XO.nk [(0, _), (1, _)] (S2 rfl rfl) ?_
 refine XC.sr ?_
 refine XO.mv rfl rfl ?_
 refine XO.mv rfl rfl ?_
 refine XO.v (V.build (vs := #[(0, ptr bf 0 0), (1, ptr bp 0 0)]) rfl (v := .agg (arrO bf bp)) (fun _ => by kernel_rfl)) rfl ?_
 refine XO.box (m := 122) (C := encO bf bp OS.void) rfl (arrO_size bf bp) (arrO_box bf bp) rfl ?_
 intro b
 refine XO.as rfl rfl ?_
 refine XO.nk [(4, _)] (S1 rfl) ?_
 refine XC.ret ?_
 refine XE.ret1 rfl rfl (post_of .h1 rfl ?_)
 exact ⟨_, rfl, rfl⟩
end Go.X
