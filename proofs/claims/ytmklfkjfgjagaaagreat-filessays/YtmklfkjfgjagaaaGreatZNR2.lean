import Derived.Test.YtmklfkjfgjagaaaGreatXShort
import Derived.Test.YtmklfkjfgjagaaaGreatZNR
namespace Go.X
open Go Go.Proofs
theorem cl_85 : callable Tryz.prog 85 = true := by kernel_rfl
theorem cl_99 : callable Tryz.prog 99 = true := by kernel_rfl
theorem fo_31_7 : fieldOff Tryz.prog 31 7 = some 7 := by kernel_rfl
theorem sl_28 : sliceOf Tryz.prog 28 = some (9, 1) := by kernel_rfl
set_option maxRecDepth 10000 in
set_option maxHeartbeats 1000000 in
theorem r_NameMay (x : ByteArray) (hx : x.size ≤ 9223372036854775807) : Spec Tryz.prog 99 [.string x]
    []
    (fun v H1 => v = .bool (nameOk x) ∧ H1 = []) := by
 refine Spec.intro Tryz.func99 rfl rfl ?_
 intro W
 refine XC.sr ?_
 refine XO.as rfl rfl ?_
 refine XO.nk [(0, _)] (S1 rfl) ?_
 refine XC.seq ?_
 refine XC.sr ?_
 refine XO.mv rfl rfl ?_
 refine XO.v (V.lenStr rfl Tryz.underlying9) rfl ?_
 refine XO.v (V.cmp rfl rfl rfl) rfl ?_
 refine XO.mv rfl rfl ?_
 refine XO.splitP (d := 8) rfl (fun h1 => ?_) (fun h1 => ?_)
 ·
  refine XO.guardSkip rfl rfl rfl rfl rfl ?_
  refine XO.guardSkip rfl rfl rfl rfl rfl ?_
  refine XO.guardSkip rfl rfl rfl rfl rfl ?_
  refine XO.v (V.pick rfl rfl rfl rfl) rfl ?_
  refine XO.mv rfl rfl ?_
  refine XO.guardSkip rfl rfl rfl rfl rfl ?_
  refine XO.guardSkip rfl rfl rfl rfl rfl ?_
  refine XO.v (V.pick rfl rfl rfl rfl) rfl ?_
  refine XO.mv rfl rfl ?_
  refine XO.guardSkip rfl rfl rfl rfl rfl ?_
  refine XO.guardSkip rfl rfl rfl rfl rfl ?_
  refine XO.v (V.pick rfl rfl rfl rfl) rfl ?_
  refine XO.nk [(0, _), (20, _)] (S2 rfl rfl) ?_
  refine XC.condT rfl rfl ?_
  refine XC.sr ?_
  refine XO.as rfl rfl ?_
  refine XO.nk [(2, _)] (S1 rfl) ?_
  refine XC.ret ?_
  refine XE.thenRet ?_
  refine XE.ret1 rfl rfl (post_of .nil rfl ?_)
  exact ⟨congrArg Value.bool (nameOk_len (by omega)).symm, rfl⟩
 ·
  refine XO.guardRun rfl rfl rfl ?_
  refine XO.mv rfl rfl ?_
  refine XO.guardRun rfl rfl rfl ?_
  refine XO.v (V.lenStr rfl Tryz.underlying9) rfl ?_
  refine XO.guardRun rfl rfl rfl ?_
  refine XO.v (V.cmp rfl rfl rfl) rfl ?_
  refine XO.v (V.pick rfl rfl rfl rfl) rfl ?_
  refine XO.mv rfl rfl ?_
  refine XO.splitP (d := 13) rfl (fun h2 => ?_) (fun h2 => ?_)
  ·
   refine XO.guardSkip rfl rfl rfl rfl rfl ?_
   refine XO.guardSkip rfl rfl rfl rfl rfl ?_
   refine XO.v (V.pick rfl rfl rfl rfl) rfl ?_
   refine XO.mv rfl rfl ?_
   refine XO.guardSkip rfl rfl rfl rfl rfl ?_
   refine XO.guardSkip rfl rfl rfl rfl rfl ?_
   refine XO.v (V.pick rfl rfl rfl rfl) rfl ?_
   refine XO.nk [(0, _), (20, _)] (S2 rfl rfl) ?_
   refine XC.condT rfl rfl ?_
   refine XC.sr ?_
   refine XO.as rfl rfl ?_
   refine XO.nk [(2, _)] (S1 rfl) ?_
   refine XC.ret ?_
   refine XE.thenRet ?_
   refine XE.ret1 rfl rfl (post_of .nil rfl ?_)
   exact ⟨congrArg Value.bool (nameOk_len (by omega)).symm, rfl⟩
  ·
   refine XO.guardRun rfl rfl rfl ?_
   refine XO.mv rfl rfl ?_
   refine XO.guardRun rfl rfl rfl ?_
   refine XO.v (V.strCmp rfl rfl rfl) rfl ?_
   refine XO.v (V.pick rfl rfl rfl rfl) rfl ?_
   refine XO.mv rfl rfl ?_
   refine XO.splitP (d := 17) rfl (fun h3 => ?_) (fun h3 => ?_)
   ·
    refine XO.guardSkip rfl rfl rfl rfl rfl ?_
    refine XO.guardSkip rfl rfl rfl rfl rfl ?_
    refine XO.v (V.pick rfl rfl rfl rfl) rfl ?_
    refine XO.nk [(0, _), (20, _)] (S2 rfl rfl) ?_
    refine XC.condT rfl rfl ?_
    refine XC.sr ?_
    refine XO.as rfl rfl ?_
    refine XO.nk [(2, _)] (S1 rfl) ?_
    refine XC.ret ?_
    refine XE.thenRet ?_
    refine XE.ret1 rfl rfl (post_of .nil rfl ?_)
    exact ⟨congrArg Value.bool (nameOk_dot (.inl (by assumption))).symm, rfl⟩
   ·
    refine XO.guardRun rfl rfl rfl ?_
    refine XO.mv rfl rfl ?_
    refine XO.guardRun rfl rfl rfl ?_
    refine XO.v (V.strCmp rfl rfl rfl) rfl ?_
    refine XO.v (V.pick rfl rfl rfl rfl) rfl ?_
    refine XO.nk [(0, _), (20, _)] (S2 rfl rfl) ?_
    refine XC.condP rfl (fun h4 => ?_) (fun h4 => ?_)
    ·
     refine XC.sr ?_
     refine XO.as rfl rfl ?_
     refine XO.nk [(2, _)] (S1 rfl) ?_
     refine XC.ret ?_
     refine XE.thenRet ?_
     refine XE.ret1 rfl rfl (post_of .nil rfl ?_)
     exact ⟨congrArg Value.bool (nameOk_dot (.inr (by assumption))).symm, rfl⟩
    ·
     refine XC.skip ?_
     refine XE.next ?_
     refine XC.keep [(0, _)] (S1 rfl) ?_
     refine XC.seq ?_
     refine XC.sr ?_
     refine XO.as rfl rfl ?_
     refine XO.nk [(0, _), (3, _)] (S2 rfl rfl) ?_
     refine XC.block ?_
     refine XC.loop (σ := Int) (fun i => (x.size - i).toNat) (fun i => (0 ≤ i ∧ i ≤ x.size) ∧ ∀ j, j < i.toNat → okB (x.get! j) = true) (fun i => [(3, .int .i64 i), (0, .string x)]) (fun i => XM W (foot []) []) (0) ?_ (S2 rfl rfl) (fun _ hw => XM.pick .nil hw) ?_
     ·
      exact ⟨by omega, fun j h => by simp at h⟩
     intro i hi
     obtain ⟨hi, ho⟩ := hi
     refine XC.seq ?_
     refine XC.sr ?_
     refine XO.mv rfl rfl ?_
     refine XO.mv rfl rfl ?_
     refine XO.v (V.lenStr rfl Tryz.underlying9) rfl ?_
     refine XO.v (V.cmp rfl rfl rfl) rfl ?_
     refine XO.nk [(0, _), (3, _), (24, _)] (S3 rfl rfl rfl) ?_
     refine XC.condP rfl (fun h5 => ?_) (fun h5 => ?_)
     ·
      obtain ⟨u, hu⟩ := get_some (s := x) (j := i.toNat) (by omega)
      have hg := get_of hu
      refine XC.skip ?_
      refine XE.next ?_
      refine XC.keep [(0, _), (3, _)] (S2 rfl rfl) ?_
      refine XC.seq ?_
      refine XC.block ?_
      refine XC.sr ?_
      refine XO.mv rfl rfl ?_
      refine XO.mv rfl rfl ?_
      refine XO.v (V.indexStr rfl rfl Tryz.underlying9 (by omega) hu) rfl ?_
      refine XO.as rfl rfl ?_
      refine XO.nk [(0, _), (3, _), (4, _)] (S3 rfl rfl rfl) ?_
      refine XC.sr ?_
      refine XO.mv rfl rfl ?_
      refine XO.v (V.cmp rfl rfl rfl) rfl ?_
      refine XO.mv rfl rfl ?_
      refine XO.splitP (d := 32) rfl (fun h6 => ?_) (fun h6 => ?_)
      ·
       refine XO.guardRun rfl rfl rfl ?_
       refine XO.mv rfl rfl ?_
       refine XO.guardRun rfl rfl rfl ?_
       refine XO.v (V.cmp rfl rfl rfl) rfl ?_
       refine XO.v (V.pick rfl rfl rfl rfl) rfl ?_
       refine XO.mv rfl rfl ?_
       refine XO.splitP (d := 36) rfl (fun h7 => ?_) (fun h7 => ?_)
       ·
        refine XO.guardSkip rfl rfl rfl rfl rfl ?_
        refine XO.guardSkip rfl rfl rfl rfl rfl ?_
        refine XO.guardSkip rfl rfl rfl rfl rfl ?_
        refine XO.guardSkipU rfl rfl rfl rfl rfl ?_
        refine XO.guardSkipU rfl rfl rfl rfl rfl ?_
        refine XO.guardSkip rfl rfl rfl rfl rfl ?_
        refine XO.v (V.pick rfl rfl rfl rfl) rfl ?_
        refine XO.mv rfl rfl ?_
        refine XO.guardSkip rfl rfl rfl rfl rfl ?_
        refine XO.guardSkip rfl rfl rfl rfl rfl ?_
        refine XO.v (V.pick rfl rfl rfl rfl) rfl ?_
        refine XO.v (V.not rfl) rfl ?_
        refine XO.nk [(0, _), (3, _), (48, _)] (S3 rfl rfl rfl) ?_
        refine XC.condF rfl rfl ?_
        refine XC.skip ?_
        refine XE.blockNormal ?_
        refine XE.next ?_
        refine XC.keep [(0, _), (3, _)] (S2 rfl rfl) ?_
        refine XC.region ?_
        refine XO.mv rfl rfl ?_
        refine XO.v (V.add rfl rfl _ (IntWalk.i64_in _ (by omega))) rfl ?_
        refine XO.as rfl rfl ?_
        refine XO.nil ?_
        refine XE.again (i + 1) ?_ ?_ (S2 rfl rfl) (fun _ hw => XM.pick .nil hw)
        ·
         (first | omega | (simp; done) | (simp; omega))
        ·
         refine ⟨by omega, fun j hj => ?_⟩
         by_cases c : j = i.toNat
         ·
          subst c; rw [hg]; unfold okB; simp; omega
         ·
          exact ho j (by omega)
       ·
        refine XO.guardRun rfl rfl rfl ?_
        refine XO.mv rfl rfl ?_
        refine XO.guardRun rfl rfl rfl ?_
        refine XO.v (V.cmp rfl rfl rfl) rfl ?_
        refine XO.guardRun rfl rfl rfl ?_
        refine XO.mv rfl rfl ?_
        refine XO.splitP (d := 39) rfl (fun h8 => ?_) (fun h8 => ?_)
        ·
         refine XO.guardRun rfl rfl rfl ?_
         refine XO.mv rfl rfl ?_
         refine XO.guardRun rfl rfl rfl ?_
         refine XO.v (V.cmp rfl rfl rfl) rfl ?_
         refine XO.guardRun rfl rfl rfl ?_
         refine XO.v (V.pick rfl rfl rfl rfl) rfl ?_
         refine XO.v (V.pick rfl rfl rfl rfl) rfl ?_
         refine XO.mv rfl rfl ?_
         refine XO.splitP (d := 44) rfl (fun h9 => ?_) (fun h9 => ?_)
         ·
          refine XO.guardSkip rfl rfl rfl rfl rfl ?_
          refine XO.guardSkip rfl rfl rfl rfl rfl ?_
          refine XO.v (V.pick rfl rfl rfl rfl) rfl ?_
          refine XO.v (V.not rfl) rfl ?_
          refine XO.nk [(0, _), (3, _), (48, _)] (S3 rfl rfl rfl) ?_
          refine XC.condF rfl rfl ?_
          refine XC.skip ?_
          refine XE.blockNormal ?_
          refine XE.next ?_
          refine XC.keep [(0, _), (3, _)] (S2 rfl rfl) ?_
          refine XC.region ?_
          refine XO.mv rfl rfl ?_
          refine XO.v (V.add rfl rfl _ (IntWalk.i64_in _ (by omega))) rfl ?_
          refine XO.as rfl rfl ?_
          refine XO.nil ?_
          refine XE.again (i + 1) ?_ ?_ (S2 rfl rfl) (fun _ hw => XM.pick .nil hw)
          ·
           (first | omega | (simp; done) | (simp; omega))
          ·
           refine ⟨by omega, fun j hj => ?_⟩
           by_cases c : j = i.toNat
           ·
            subst c; rw [hg]; unfold okB; simp; omega
           ·
            exact ho j (by omega)
         ·
          refine XO.guardRun rfl rfl rfl ?_
          refine XO.mv rfl rfl ?_
          refine XO.guardRun rfl rfl rfl ?_
          refine XO.v (V.cmp rfl rfl rfl) rfl ?_
          refine XO.v (V.pick rfl rfl rfl rfl) rfl ?_
          refine XO.v (V.notP rfl) rfl ?_
          refine XO.nk [(0, _), (3, _), (48, _)] (S3 rfl rfl rfl) ?_
          refine XC.condP rfl (fun h10 => ?_) (fun h10 => ?_)
          ·
           refine XC.sr ?_
           refine XO.as rfl rfl ?_
           refine XO.nk [(2, _)] (S1 rfl) ?_
           refine XC.ret ?_
           refine XE.blockRet ?_
           refine XE.thenRet ?_
           refine XE.thenRet ?_
           refine XE.blockRet ?_
           refine XE.thenRet ?_
           refine XE.ret1 rfl rfl (post_of .nil rfl ?_)
           exact ⟨congrArg Value.bool (nameOk_bad (j := i.toNat) (by omega) (by rw [hg]; unfold okB; simp; omega)).symm, rfl⟩
          ·
           refine XC.skip ?_
           refine XE.blockNormal ?_
           refine XE.next ?_
           refine XC.keep [(0, _), (3, _)] (S2 rfl rfl) ?_
           refine XC.region ?_
           refine XO.mv rfl rfl ?_
           refine XO.v (V.add rfl rfl _ (IntWalk.i64_in _ (by omega))) rfl ?_
           refine XO.as rfl rfl ?_
           refine XO.nil ?_
           refine XE.again (i + 1) ?_ ?_ (S2 rfl rfl) (fun _ hw => XM.pick .nil hw)
           ·
            (first | omega | (simp; done) | (simp; omega))
           ·
            refine ⟨by omega, fun j hj => ?_⟩
            by_cases c : j = i.toNat
            ·
             subst c; rw [hg]; unfold okB; simp; omega
            ·
             exact ho j (by omega)
        ·
         refine XO.guardSkip rfl rfl rfl rfl rfl ?_
         refine XO.guardSkip rfl rfl rfl rfl rfl ?_
         refine XO.guardRun rfl rfl rfl ?_
         refine XO.v (V.pick rfl rfl rfl rfl) rfl ?_
         refine XO.v (V.pick rfl rfl rfl rfl) rfl ?_
         refine XO.mv rfl rfl ?_
         refine XO.guardRun rfl rfl rfl ?_
         refine XO.mv rfl rfl ?_
         refine XO.guardRun rfl rfl rfl ?_
         refine XO.v (V.cmp rfl rfl rfl) rfl ?_
         refine XO.v (V.pick rfl rfl rfl rfl) rfl ?_
         refine XO.v (V.notP rfl) rfl ?_
         refine XO.nk [(0, _), (3, _), (48, _)] (S3 rfl rfl rfl) ?_
         refine XC.condP rfl (fun h11 => ?_) (fun h11 => ?_)
         ·
          refine XC.sr ?_
          refine XO.as rfl rfl ?_
          refine XO.nk [(2, _)] (S1 rfl) ?_
          refine XC.ret ?_
          refine XE.blockRet ?_
          refine XE.thenRet ?_
          refine XE.thenRet ?_
          refine XE.blockRet ?_
          refine XE.thenRet ?_
          refine XE.ret1 rfl rfl (post_of .nil rfl ?_)
          exact ⟨congrArg Value.bool (nameOk_bad (j := i.toNat) (by omega) (by rw [hg]; unfold okB; simp; omega)).symm, rfl⟩
         ·
          refine XC.skip ?_
          refine XE.blockNormal ?_
          refine XE.next ?_
          refine XC.keep [(0, _), (3, _)] (S2 rfl rfl) ?_
          refine XC.region ?_
          refine XO.mv rfl rfl ?_
          refine XO.v (V.add rfl rfl _ (IntWalk.i64_in _ (by omega))) rfl ?_
          refine XO.as rfl rfl ?_
          refine XO.nil ?_
          refine XE.again (i + 1) ?_ ?_ (S2 rfl rfl) (fun _ hw => XM.pick .nil hw)
          ·
           (first | omega | (simp; done) | (simp; omega))
          ·
           refine ⟨by omega, fun j hj => ?_⟩
           by_cases c : j = i.toNat
           ·
            subst c; rw [hg]; unfold okB; simp; omega
           ·
            exact ho j (by omega)
      ·
       refine XO.guardSkip rfl rfl rfl rfl rfl ?_
       refine XO.guardSkip rfl rfl rfl rfl rfl ?_
       refine XO.v (V.pick rfl rfl rfl rfl) rfl ?_
       refine XO.mv rfl rfl ?_
       refine XO.guardRun rfl rfl rfl ?_
       refine XO.mv rfl rfl ?_
       refine XO.guardRun rfl rfl rfl ?_
       refine XO.v (V.cmp rfl rfl rfl) rfl ?_
       refine XO.guardRun rfl rfl rfl ?_
       refine XO.mv rfl rfl ?_
       refine XO.splitP (d := 39) rfl (fun h12 => ?_) (fun h12 => ?_)
       ·
        refine XO.guardRun rfl rfl rfl ?_
        refine XO.mv rfl rfl ?_
        refine XO.guardRun rfl rfl rfl ?_
        refine XO.v (V.cmp rfl rfl rfl) rfl ?_
        refine XO.guardRun rfl rfl rfl ?_
        refine XO.v (V.pick rfl rfl rfl rfl) rfl ?_
        refine XO.v (V.pick rfl rfl rfl rfl) rfl ?_
        refine XO.mv rfl rfl ?_
        refine XO.splitP (d := 44) rfl (fun h13 => ?_) (fun h13 => ?_)
        ·
         refine XO.guardSkip rfl rfl rfl rfl rfl ?_
         refine XO.guardSkip rfl rfl rfl rfl rfl ?_
         refine XO.v (V.pick rfl rfl rfl rfl) rfl ?_
         refine XO.v (V.not rfl) rfl ?_
         refine XO.nk [(0, _), (3, _), (48, _)] (S3 rfl rfl rfl) ?_
         refine XC.condF rfl rfl ?_
         refine XC.skip ?_
         refine XE.blockNormal ?_
         refine XE.next ?_
         refine XC.keep [(0, _), (3, _)] (S2 rfl rfl) ?_
         refine XC.region ?_
         refine XO.mv rfl rfl ?_
         refine XO.v (V.add rfl rfl _ (IntWalk.i64_in _ (by omega))) rfl ?_
         refine XO.as rfl rfl ?_
         refine XO.nil ?_
         refine XE.again (i + 1) ?_ ?_ (S2 rfl rfl) (fun _ hw => XM.pick .nil hw)
         ·
          (first | omega | (simp; done) | (simp; omega))
         ·
          refine ⟨by omega, fun j hj => ?_⟩
          by_cases c : j = i.toNat
          ·
           subst c; rw [hg]; unfold okB; simp; omega
          ·
           exact ho j (by omega)
        ·
         refine XO.guardRun rfl rfl rfl ?_
         refine XO.mv rfl rfl ?_
         refine XO.guardRun rfl rfl rfl ?_
         refine XO.v (V.cmp rfl rfl rfl) rfl ?_
         refine XO.v (V.pick rfl rfl rfl rfl) rfl ?_
         refine XO.v (V.notP rfl) rfl ?_
         refine XO.nk [(0, _), (3, _), (48, _)] (S3 rfl rfl rfl) ?_
         refine XC.condP rfl (fun h14 => ?_) (fun h14 => ?_)
         ·
          refine XC.sr ?_
          refine XO.as rfl rfl ?_
          refine XO.nk [(2, _)] (S1 rfl) ?_
          refine XC.ret ?_
          refine XE.blockRet ?_
          refine XE.thenRet ?_
          refine XE.thenRet ?_
          refine XE.blockRet ?_
          refine XE.thenRet ?_
          refine XE.ret1 rfl rfl (post_of .nil rfl ?_)
          exact ⟨congrArg Value.bool (nameOk_bad (j := i.toNat) (by omega) (by rw [hg]; unfold okB; simp; omega)).symm, rfl⟩
         ·
          refine XC.skip ?_
          refine XE.blockNormal ?_
          refine XE.next ?_
          refine XC.keep [(0, _), (3, _)] (S2 rfl rfl) ?_
          refine XC.region ?_
          refine XO.mv rfl rfl ?_
          refine XO.v (V.add rfl rfl _ (IntWalk.i64_in _ (by omega))) rfl ?_
          refine XO.as rfl rfl ?_
          refine XO.nil ?_
          refine XE.again (i + 1) ?_ ?_ (S2 rfl rfl) (fun _ hw => XM.pick .nil hw)
          ·
           (first | omega | (simp; done) | (simp; omega))
          ·
           refine ⟨by omega, fun j hj => ?_⟩
           by_cases c : j = i.toNat
           ·
            subst c; rw [hg]; unfold okB; simp; omega
           ·
            exact ho j (by omega)
       ·
        refine XO.guardSkip rfl rfl rfl rfl rfl ?_
        refine XO.guardSkip rfl rfl rfl rfl rfl ?_
        refine XO.guardRun rfl rfl rfl ?_
        refine XO.v (V.pick rfl rfl rfl rfl) rfl ?_
        refine XO.v (V.pick rfl rfl rfl rfl) rfl ?_
        refine XO.mv rfl rfl ?_
        refine XO.guardRun rfl rfl rfl ?_
        refine XO.mv rfl rfl ?_
        refine XO.guardRun rfl rfl rfl ?_
        refine XO.v (V.cmp rfl rfl rfl) rfl ?_
        refine XO.v (V.pick rfl rfl rfl rfl) rfl ?_
        refine XO.v (V.notP rfl) rfl ?_
        refine XO.nk [(0, _), (3, _), (48, _)] (S3 rfl rfl rfl) ?_
        refine XC.condP rfl (fun h15 => ?_) (fun h15 => ?_)
        ·
         refine XC.sr ?_
         refine XO.as rfl rfl ?_
         refine XO.nk [(2, _)] (S1 rfl) ?_
         refine XC.ret ?_
         refine XE.blockRet ?_
         refine XE.thenRet ?_
         refine XE.thenRet ?_
         refine XE.blockRet ?_
         refine XE.thenRet ?_
         refine XE.ret1 rfl rfl (post_of .nil rfl ?_)
         exact ⟨congrArg Value.bool (nameOk_bad (j := i.toNat) (by omega) (by rw [hg]; unfold okB; simp; omega)).symm, rfl⟩
        ·
         refine XC.skip ?_
         refine XE.blockNormal ?_
         refine XE.next ?_
         refine XC.keep [(0, _), (3, _)] (S2 rfl rfl) ?_
         refine XC.region ?_
         refine XO.mv rfl rfl ?_
         refine XO.v (V.add rfl rfl _ (IntWalk.i64_in _ (by omega))) rfl ?_
         refine XO.as rfl rfl ?_
         refine XO.nil ?_
         refine XE.again (i + 1) ?_ ?_ (S2 rfl rfl) (fun _ hw => XM.pick .nil hw)
         ·
          (first | omega | (simp; done) | (simp; omega))
         ·
          refine ⟨by omega, fun j hj => ?_⟩
          by_cases c : j = i.toNat
          ·
           subst c; rw [hg]; unfold okB; simp; omega
          ·
           exact ho j (by omega)
     ·
      have hall : ∀ j, j < x.size → okB (x.get! j) = true := fun j hj => ho j (by omega)
      refine XC.exit ?_
      refine XE.thenExit ?_
      refine XE.thenExit ?_
      refine XE.blockExit ?_
      refine XE.next ?_
      refine XC.keep [] (Sub.nil _) ?_
      refine XC.sr ?_
      refine XO.as rfl rfl ?_
      refine XO.nk [(2, _)] (S1 rfl) ?_
      refine XC.ret ?_
      refine XE.ret1 rfl rfl (post_of .nil rfl ?_)
      exact ⟨congrArg Value.bool (by rw [nameOk_all hall, decide_eq_true (p := x ≠ ⟨#[46]⟩) (by assumption), decide_eq_true (p := x ≠ ⟨#[46, 46]⟩) (by assumption), Bool.and_true, Bool.and_true]; symm; exact decide_eq_true (by omega)), rfl⟩
set_option maxRecDepth 10000 in
set_option maxHeartbeats 1000000 in
theorem r_place (b o : Nat) (s : FC) (hI : s.toFF.Sh) (n : Int) (hn : 0 ≤ n ∧ n < 40) (x : ByteArray) : Spec Tryz.prog 85 [ptr b o (0 + 0 + n.toNat * 8), .string x]
    [.cells b o 321 (encM s), .fam fam40 (s.rowsN 9)]
    (fun v H1 => v = .int .i64 (placeR (s.names n) x) ∧ H1 = [.cells b o 321 (encM s), .fam fam40 (s.rowsN 9)]) := by
 obtain ⟨hr, hk, h8, _⟩ := hI.rise n (by omega) (by omega)
 refine Spec.intro Tryz.func85 rfl rfl ?_
 intro W
 refine XC.sr ?_
 refine XO.as rfl rfl ?_
 refine XO.nk [(0, _), (1, _)] (S2 rfl rfl) ?_
 refine XC.seq ?_
 refine XC.sr ?_
 refine XO.as rfl rfl ?_
 refine XO.nk [(0, _), (1, _), (5, _)] (S3 rfl rfl rfl) ?_
 refine XC.block ?_
 refine XC.loop (σ := Int) (fun i => ((s.names n).length - i).toNat) (fun i => (0 ≤ i ∧ i ≤ (s.names n).length) ∧ ∀ j, j < i.toNat → ats (s.names n) j ≠ x) (fun i => [(5, .int .i64 i), (0, ptr b o (0 + 0 + n.toNat * 8)), (1, .string x)]) (fun i => XM W (foot [.cells b o 321 (encM s), .fam fam40 (s.rowsN 9)]) [.cells b o 321 (encM s), .fam fam40 (s.rowsN 9)]) (0) ?_ (S3 rfl rfl rfl) (fun _ hw => XM.pick .h2 hw) ?_
 ·
  exact ⟨by omega, fun j h => by simp at h⟩
 intro i hi
 obtain ⟨hi, ho⟩ := hi
 refine XC.seq ?_
 refine XC.sr ?_
 refine XO.mv rfl rfl ?_
 refine XO.mv rfl rfl ?_
 refine XO.v (V.nilCheckP rfl) rfl ?_
 refine XO.v (V.fieldAddr rfl fo_31_6) rfl ?_
 refine XO.v (V.load rfl (inXM .here) (encM.ld_N_Names _ _ (by omega)) sc_28) rfl ?_
 refine XO.v (V.lenSl rfl Tryz.underlying28) rfl ?_
 refine XO.v (V.cmp rfl rfl rfl) rfl ?_
 refine XO.nk [(0, _), (1, _), (5, _), (12, _)] (S4 rfl rfl rfl rfl) ?_
 refine XC.condP rfl (fun h1 => ?_) (fun h1 => ?_)
 ·
  refine XC.skip ?_
  refine XE.next ?_
  refine XC.keep [(0, _), (1, _), (5, _)] (S3 rfl rfl rfl) ?_
  refine XC.seq ?_
  refine XC.block ?_
  refine XC.sr ?_
  refine XO.mv rfl rfl ?_
  refine XO.v (V.nilCheckP rfl) rfl ?_
  refine XO.v (V.fieldAddr rfl fo_31_6) rfl ?_
  refine XO.v (V.load rfl (inXM .here) (encM.ld_N_Names _ _ (by omega)) sc_28) rfl ?_
  refine XO.mono (fun _ hw3 => XM.openN (s := s) (z := n) (by omega) (.cons (.there .here) .nil) hw3) ?_
  refine XO.openRow .here (by omega) ?_
  intro g hg
  rw [hg]
  refine XO.mv rfl rfl ?_
  refine XO.v (V.indexSl rfl rfl sl_28 (by omega)) rfl ?_
  refine XO.v (V.loadRow rfl (inXM .here) (strs_at (by omega)) sc_9) rfl ?_
  refine XO.mono (fun _ hw3 => XM.closeN (s := s) s (z := n) (by omega) rfl (fset_same _ rfl).symm (fset_same _ hg).symm (fset_same _ rfl).symm .h2 hw3) ?_
  refine XO.mv rfl rfl ?_
  refine XO.v (V.strCmp rfl rfl rfl) rfl ?_
  refine XO.nk [(0, _), (1, _), (5, _), (23, _)] (S4 rfl rfl rfl rfl) ?_
  refine XC.condP rfl (fun h2 => ?_) (fun h2 => ?_)
  ·
   refine XC.sr ?_
   refine XO.mv rfl rfl ?_
   refine XO.as rfl rfl ?_
   refine XO.nk [(4, _)] (S1 rfl) ?_
   refine XC.ret ?_
   refine XE.blockRet ?_
   refine XE.thenRet ?_
   refine XE.thenRet ?_
   refine XE.blockRet ?_
   refine XE.thenRet ?_
   refine XE.ret1 rfl rfl (post_of (.cons (.there .here) .h1) rfl ?_)
   exact ⟨by rw [place_at hr (i := i.toNat) (by omega) (by assumption), show ((i.toNat : Nat) : Int) = i by omega], rfl⟩
  ·
   refine XC.skip ?_
   refine XE.blockNormal ?_
   refine XE.next ?_
   refine XC.keep [(0, _), (1, _), (5, _)] (S3 rfl rfl rfl) ?_
   refine XC.region ?_
   refine XO.mv rfl rfl ?_
   refine XO.v (V.add rfl rfl _ (IntWalk.i64_in _ (by omega))) rfl ?_
   refine XO.as rfl rfl ?_
   refine XO.nil ?_
   refine XE.again (i + 1) ?_ ?_ (S3 rfl rfl rfl) (fun _ hw => XM.pick (.cons (.there .here) .h1) hw)
   ·
    (first | omega | (simp; done) | (simp; omega))
   ·
    refine ⟨by omega, fun j hj => ?_⟩
    by_cases c : j = i.toNat
    ·
     subst c; assumption
    ·
     exact ho j (by omega)
 ·
  refine XC.exit ?_
  refine XE.thenExit ?_
  refine XE.thenExit ?_
  refine XE.blockExit ?_
  refine XE.next ?_
  refine XC.keep [] (Sub.nil _) ?_
  refine XC.sr ?_
  refine XO.as rfl rfl ?_
  refine XO.nk [(4, _)] (S1 rfl) ?_
  refine XC.ret ?_
  refine XE.ret1 rfl rfl (post_of .h2 rfl ?_)
  exact ⟨by rw [place_no (fun j hj => ho j (by omega))], rfl⟩
set_option maxRecDepth 10000 in
set_option maxHeartbeats 1000000 in
theorem r_Find (b o : Nat) (s : FC) (hI : s.toFF.Sh) (n : Int) (x : ByteArray) : Spec Tryz.prog 38 [ptr b o 0, .int .i64 n, .string x]
    [.cells b o 321 (encM s), .fam fam40 (s.rowsN 9), .fam fam40 (s.rowsK 3)]
    (fun v H1 => v = .tuple #[.int .i64 (s.findV n x), .int .i64 (s.findE n x)] ∧ H1 = [.cells b o 321 (encM s), .fam fam40 (FC.rowsN 9 s), .fam fam40 (FC.rowsK 3 s)]) := by
  refine Spec.intro Tryz.func38 rfl rfl ?_
  intro W
  refine XC.sr ?_
  refine XO.as rfl rfl ?_
  refine XO.as rfl rfl ?_
  refine XO.nk [(0, _), (1, _), (2, _)] (S3 rfl rfl rfl) ?_
  refine XC.seq ?_
  refine XC.sr ?_
  refine XO.mv rfl rfl ?_
  refine XO.mv rfl rfl ?_
  refine XO.call rfl (r_Is _ _ _ _ _) .h1 cl_66 rfl ?_
  rintro _ _ ⟨rfl, rfl⟩
  refine XO.as rfl rfl ?_
  refine XO.nk [(0, _), (1, _), (2, _), (8, _)] (S4 rfl rfl rfl rfl) ?_
  refine XC.sr ?_
  refine XO.mv rfl rfl ?_
  refine XO.v (V.cmp rfl rfl rfl) rfl ?_
  refine XO.nk [(0, _), (1, _), (2, _), (8, _), (14, _)] (S5 rfl rfl rfl rfl rfl) ?_
  refine XC.condP rfl (fun h1 => ?_) (fun h1 => ?_)
  · skip
    refine XC.sr ?_
    refine XO.mv rfl rfl ?_
    refine XO.as rfl rfl ?_
    refine XO.as rfl rfl ?_
    refine XO.nk [(6, _), (7, _)] (S2 rfl rfl) ?_
    refine XC.ret ?_
    refine XE.thenRet ?_
    refine XE.ret2 rfl rfl rfl (post_of .h3 rfl ?_)
    have e : s.findE n x = s.isE n 2 := by unfold FF.findE; rw [if_pos (by omega)]
    exact ⟨by rw [show s.findV n x = 0 from by unfold FF.findV; rw [if_neg (by omega)], e], rfl⟩
  · skip
    have i0 : s.isE n 2 = 0 := by have := FF.isE_nn s.toFF n 2; omega
    obtain ⟨i1, i2, i3, i4⟩ := FF.isE_k0 i0
    obtain ⟨hr, hk, h8, _⟩ := hI.rise n i1 i2
    refine XC.skip ?_
    refine XE.next ?_
    refine XC.keep [(0, _), (1, _), (2, _)] (S3 rfl rfl rfl) ?_
    refine XC.sr ?_
    refine XO.mv rfl rfl ?_
    refine XO.mv rfl rfl ?_
    refine XO.v (V.nilCheckP rfl) rfl ?_
    refine XO.v (V.fieldAddr rfl fo_34_0) rfl ?_
    refine XO.v (V.indexArr rfl rfl ar_32 (by omega)) rfl ?_
    refine XO.mv rfl rfl ?_
    refine XO.call rfl (r_place _ _ _ hI _ (by omega) _) .h2 cl_85 rfl ?_
    rintro _ _ ⟨rfl, rfl⟩
    refine XO.as rfl rfl ?_
    refine XO.nk [(0, _), (1, _), (9, _)] (S3 rfl rfl rfl) ?_
    refine XC.seq ?_
    refine XC.sr ?_
    refine XO.mv rfl rfl ?_
    refine XO.v (V.cmp rfl rfl rfl) rfl ?_
    refine XO.nk [(0, _), (1, _), (9, _), (24, _)] (S4 rfl rfl rfl rfl) ?_
    refine XC.condP rfl (fun h2 => ?_) (fun h2 => ?_)
    · skip
      have hh : hasn (s.names n) x = false := place_neg.1 (by assumption)
      refine XC.sr ?_
      refine XO.as rfl rfl ?_
      refine XO.as rfl rfl ?_
      refine XO.nk [(6, _), (7, _)] (S2 rfl rfl) ?_
      refine XC.ret ?_
      refine XE.thenRet ?_
      refine XE.ret2 rfl rfl rfl (post_of .h3 rfl ?_)
      have e : s.findE n x = 2 := by unfold FF.findE; rw [if_neg (by omega), if_neg (by rw [hh]; simp)]
      exact ⟨by rw [show s.findV n x = 0 from by unfold FF.findV; rw [if_neg (by omega)], e], rfl⟩
    · skip
      have hh : hasn (s.names n) x = true := by cases q : hasn (s.names n) x with
        | true => rfl
        | false => exact absurd (place_neg.2 q) (by assumption)
      have hpr : placeR (s.names n) x = posn (s.names n) x := by unfold placeR; rw [if_pos hh]
      obtain ⟨hp1, hp2⟩ := hasn_iff.1 hh
      refine XC.skip ?_
      refine XE.next ?_
      refine XC.keep [(0, _), (1, _), (9, _)] (S3 rfl rfl rfl) ?_
      refine XC.sr ?_
      refine XO.mv rfl rfl ?_
      refine XO.mv rfl rfl ?_
      refine XO.v (V.nilCheckP rfl) rfl ?_
      refine XO.v (V.fieldAddr rfl fo_34_0) rfl ?_
      refine XO.v (V.indexArr rfl rfl ar_32 (by omega)) rfl ?_
      refine XO.v (V.fieldAddr rfl fo_31_7) rfl ?_
      refine XO.v (V.load rfl (inXM .here) (encM.ld_N_Kids _ _ (by omega)) sc_29) rfl ?_
      refine XO.mono (fun _ hw3 => XM.openK (s := s) (z := n) (by omega) (.cons (.t2 .here) .nil) hw3) ?_
      refine XO.openRow .here (by omega) ?_
      intro g hg
      rw [hg]
      refine XO.mv rfl rfl ?_
      refine XO.v (V.indexSl rfl rfl sl_29 (by omega)) rfl ?_
      refine XO.v (V.loadRow rfl (inXM .here) (ints_at (by omega)) sc_3) rfl ?_
      refine XO.as rfl rfl ?_
      refine XO.as rfl rfl ?_
      refine XO.mono (fun _ hw3 => XM.closeK (s := s) s (z := n) (by omega) rfl (fset_same _ rfl).symm (fset_same _ hg).symm (fset_same _ rfl).symm .h2 hw3) ?_
      refine XO.nk [(6, _), (7, _)] (S2 rfl rfl) ?_
      refine XC.ret ?_
      refine XE.ret2 rfl rfl rfl (post_of (.cons (.there .here) (.cons (.there .here) .h1)) rfl ?_)
      have e : s.findE n x = 0 := by unfold FF.findE; rw [if_neg (by omega), if_pos hh]
      exact ⟨by rw [show s.findV n x = at0 (s.kids n) (posn (s.names n) x) from by unfold FF.findV; rw [if_pos e], e, hpr], rfl⟩
set_option maxRecDepth 10000 in
set_option maxHeartbeats 1000000 in
theorem r_Room (b o : Nat) (s : FC) (hI : s.toFF.Sh) (n : Int) (x : ByteArray) (hx : x.size ≤ 9223372036854775807) : Spec Tryz.prog 74 [ptr b o 0, .int .i64 n, .string x]
    [.cells b o 321 (encM s), .fam fam40 (s.rowsN 9), .fam fam40 (s.rowsK 3)]
    (fun v H1 => v = .int .i64 (s.roomE n x) ∧ H1 = [.cells b o 321 (encM s), .fam fam40 (FC.rowsN 9 s), .fam fam40 (FC.rowsK 3 s)]) := by
  refine Spec.intro Tryz.func74 rfl rfl ?_
  intro W
  refine XC.sr ?_
  refine XO.as rfl rfl ?_
  refine XO.nk [(0, _), (1, _), (2, _)] (S3 rfl rfl rfl) ?_
  refine XC.seq ?_
  refine XC.sr ?_
  refine XO.mv rfl rfl ?_
  refine XO.mv rfl rfl ?_
  refine XO.call rfl (r_Is _ _ _ _ _) .h1 cl_66 rfl ?_
  rintro _ _ ⟨rfl, rfl⟩
  refine XO.as rfl rfl ?_
  refine XO.nk [(0, _), (1, _), (2, _), (7, _)] (S4 rfl rfl rfl rfl) ?_
  refine XC.sr ?_
  refine XO.mv rfl rfl ?_
  refine XO.v (V.cmp rfl rfl rfl) rfl ?_
  refine XO.nk [(0, _), (1, _), (2, _), (7, _), (13, _)] (S5 rfl rfl rfl rfl rfl) ?_
  refine XC.condP rfl (fun h1 => ?_) (fun h1 => ?_)
  · skip
    refine XC.sr ?_
    refine XO.mv rfl rfl ?_
    refine XO.as rfl rfl ?_
    refine XO.nk [(6, _)] (S1 rfl) ?_
    refine XC.ret ?_
    refine XE.thenRet ?_
    refine XE.ret1 rfl rfl (post_of .h3 rfl ?_)
    have e : s.roomE n x = s.isE n 2 := by unfold FF.roomE; rw [if_pos (by omega)]
    exact ⟨by rw [e], rfl⟩
  · skip
    have i0 : s.isE n 2 = 0 := by have := FF.isE_nn s.toFF n 2; omega
    obtain ⟨i1, i2, i3, i4⟩ := FF.isE_k0 i0
    obtain ⟨hr, hk, h8, _⟩ := hI.rise n i1 i2
    refine XC.skip ?_
    refine XE.next ?_
    refine XC.keep [(0, _), (1, _), (2, _)] (S3 rfl rfl rfl) ?_
    refine XC.sr ?_
    refine XO.mv rfl rfl ?_
    refine XO.call rfl (r_NameMay _ (by omega)) .nil cl_99 rfl ?_
    rintro _ _ ⟨rfl, rfl⟩
    refine XO.as rfl rfl ?_
    refine XO.nk [(0, _), (1, _), (2, _), (8, _)] (S4 rfl rfl rfl rfl) ?_
    refine XC.seq ?_
    refine XC.sr ?_
    refine XO.mv rfl rfl ?_
    refine XO.v (V.not rfl) rfl ?_
    refine XO.nk [(0, _), (1, _), (2, _), (18, _)] (S4 rfl rfl rfl rfl) ?_
    refine XC.cond rfl (fun h2 => ?_) (fun h2 => ?_)
    · try simp only [sb] at h2
      have hn : nameOk x = false := by simpa using h2
      refine XC.sr ?_
      refine XO.as rfl rfl ?_
      refine XO.nk [(6, _)] (S1 rfl) ?_
      refine XC.ret ?_
      refine XE.thenRet ?_
      refine XE.ret1 rfl rfl (post_of .h3 rfl ?_)
      have e : s.roomE n x = 9 := by unfold FF.roomE; rw [if_neg (by omega), if_pos hn]
      exact ⟨by rw [e], rfl⟩
    · try simp only [sb] at h2
      have hn : nameOk x = true := by simpa using h2
      refine XC.skip ?_
      refine XE.next ?_
      refine XC.keep [(0, _), (1, _), (2, _)] (S3 rfl rfl rfl) ?_
      refine XC.seq ?_
      refine XC.sr ?_
      refine XO.mv rfl rfl ?_
      refine XO.mv rfl rfl ?_
      refine XO.v (V.nilCheckP rfl) rfl ?_
      refine XO.v (V.fieldAddr rfl fo_34_0) rfl ?_
      refine XO.v (V.indexArr rfl rfl ar_32 (by omega)) rfl ?_
      refine XO.mv rfl rfl ?_
      refine XO.call rfl (r_place _ _ _ hI _ (by omega) _) .h2 cl_85 rfl ?_
      rintro _ _ ⟨rfl, rfl⟩
      refine XO.v (V.cmp rfl rfl rfl) rfl ?_
      refine XO.nk [(0, _), (1, _), (26, _)] (S3 rfl rfl rfl) ?_
      refine XC.condP rfl (fun h3 => ?_) (fun h3 => ?_)
      · skip
        have hh : hasn (s.names n) x = true := by cases q : hasn (s.names n) x with
          | true => rfl
          | false => exact absurd (place_neg.2 q) (by omega)
        refine XC.sr ?_
        refine XO.as rfl rfl ?_
        refine XO.nk [(6, _)] (S1 rfl) ?_
        refine XC.ret ?_
        refine XE.thenRet ?_
        refine XE.ret1 rfl rfl (post_of .h3 rfl ?_)
        have e : s.roomE n x = 3 := by unfold FF.roomE; rw [if_neg (by omega), if_neg (by rw [hn]; simp), if_pos hh]
        exact ⟨by rw [e], rfl⟩
      · skip
        have hh : hasn (s.names n) x = false := place_neg.1 (by omega)
        refine XC.skip ?_
        refine XE.next ?_
        refine XC.keep [(0, _), (1, _)] (S2 rfl rfl) ?_
        refine XC.seq ?_
        refine XC.sr ?_
        refine XO.mv rfl rfl ?_
        refine XO.mv rfl rfl ?_
        refine XO.v (V.nilCheckP rfl) rfl ?_
        refine XO.v (V.fieldAddr rfl fo_34_0) rfl ?_
        refine XO.v (V.indexArr rfl rfl ar_32 (by omega)) rfl ?_
        refine XO.v (V.fieldAddr rfl fo_31_6) rfl ?_
        refine XO.v (V.load rfl (inXM .here) (encM.ld_N_Names _ _ (by omega)) sc_28) rfl ?_
        refine XO.v (V.lenSl rfl Tryz.underlying28) rfl ?_
        refine XO.v (V.cmp rfl rfl rfl) rfl ?_
        refine XO.nk [(35, _)] (S1 rfl) ?_
        refine XC.condP rfl (fun h4 => ?_) (fun h4 => ?_)
        · skip
          refine XC.sr ?_
          refine XO.as rfl rfl ?_
          refine XO.nk [(6, _)] (S1 rfl) ?_
          refine XC.ret ?_
          refine XE.thenRet ?_
          refine XE.ret1 rfl rfl (post_of .h3 rfl ?_)
          have e : s.roomE n x = 4 := by unfold FF.roomE; rw [if_neg (by omega), if_neg (by rw [hn]; simp), if_neg (by rw [hh]; simp), if_pos (by omega)]
          exact ⟨by rw [e], rfl⟩
        · skip
          refine XC.skip ?_
          refine XE.next ?_
          refine XC.keep [] (Sub.nil _) ?_
          refine XC.sr ?_
          refine XO.as rfl rfl ?_
          refine XO.nk [(6, _)] (S1 rfl) ?_
          refine XC.ret ?_
          refine XE.ret1 rfl rfl (post_of .h3 rfl ?_)
          have e : s.roomE n x = 0 := by unfold FF.roomE; rw [if_neg (by omega), if_neg (by rw [hn]; simp), if_neg (by rw [hh]; simp), if_neg (by omega)]
          exact ⟨by rw [e], rfl⟩
end Go.X
