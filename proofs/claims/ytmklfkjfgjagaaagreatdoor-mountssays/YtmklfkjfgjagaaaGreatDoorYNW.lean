import Derived.Test.YtmklfkjfgjagaaaGreatDoorXShort
import Derived.Test.YtmklfkjfgjagaaaGreatDoorNRO
import Derived.Test.YtmklfkjfgjagaaaGreatDoorYNSH
import Derived.KernelRfl
namespace Go.X
open Go Go.Proofs
theorem mixed : Tryz.prog.follows .mixedOrders = true := by kernel_rfl
theorem ar_70 : arrOf Tryz.prog 70 = some (40, 8) := by kernel_rfl
theorem cl_71 : callable Tryz.prog 71 = true := by kernel_rfl
theorem cl_79 : callable Tryz.prog 79 = true := by kernel_rfl
theorem cl_81 : callable Tryz.prog 81 = true := by kernel_rfl
theorem fo_69_0 : fieldOff Tryz.prog 69 0 = some 0 := by kernel_rfl
theorem fo_69_5 : fieldOff Tryz.prog 69 5 = some 5 := by kernel_rfl
theorem fo_69_6 : fieldOff Tryz.prog 69 6 = some 6 := by kernel_rfl
theorem fo_72_0 : fieldOff Tryz.prog 72 0 = some 0 := by kernel_rfl
theorem sc_28 : scal Tryz.prog 28 = true := by kernel_rfl
theorem sc_29 : scal Tryz.prog 29 = true := by kernel_rfl
theorem sc_3 : scal Tryz.prog 3 = true := by kernel_rfl
theorem sl_29 : sliceOf Tryz.prog 29 = some (3, 1) := by kernel_rfl


theorem s_search (p : Option Addr) (cap : Nat) (l : List ByteArray) (x : ByteArray) (hl : l.length ≤ 1000000) : Spec Tryz.prog 81 [.slice p l.length cap, .string x] [srow p cap 9 l] (fun v H1 => v = .tuple #[.int .i64 (bsS l x), .bool (bsHit l x)] ∧ H1 = [srow p cap 9 l]) := search_row Go.Proofs.trySearchS p cap 9 l x hl
theorem s_insS (p : Option Addr) (cap : Nat) (l : List ByteArray) (i : Nat) (hi : i ≤ l.length) (x : ByteArray) (vb : Nat) (hl : l.length ≤ 1000000) : Spec Tryz.prog 90 [.slice p l.length cap, .int .i64 i, .slice (some ⟨vb, 0, none⟩) 1 1] [srow p cap 9 l, .row (.slice (some ⟨vb, 0, none⟩) 1 1) 9 1 1 [.string x]]
      (fun v H1 => ∃ p' cap', v = .slice p' (l.length + 1) cap' ∧ H1 = [.row (.slice p' (l.length + 1) cap') 9 1 (l.length + 1) (strs (l.insertIdx i x)), .row (.slice (some ⟨vb, 0, none⟩) 1 1) 9 1 1 [.string x]]) := insert_string Go.Proofs.tryInsertS p cap l i hi x vb 9 hl
theorem s_insI (p : Option Addr) (cap : Nat) (l : List Int) (i : Nat) (hi : i ≤ l.length) (x : Int) (vb : Nat) (hl : l.length ≤ 1000000) : Spec Tryz.prog 91 [.slice p l.length cap, .int .i64 i, .slice (some ⟨vb, 0, none⟩) 1 1] [irow p cap 3 l, .row (.slice (some ⟨vb, 0, none⟩) 1 1) 3 1 1 [.int .i64 x]]
      (fun v H1 => ∃ p' cap', v = .slice p' (l.length + 1) cap' ∧ H1 = [.row (.slice p' (l.length + 1) cap') 3 1 (l.length + 1) (ints (l.insertIdx i x)), .row (.slice (some ⟨vb, 0, none⟩) 1 1) 3 1 1 [.int .i64 x]]) := insert_int Go.Proofs.tryInsertI p cap l i hi x vb 3 hl
theorem s_delS (p : Option Addr) (cap : Nat) (l : List ByteArray) (i : Nat) (hi : i < l.length) (hl : l.length ≤ 1000000) : Spec Tryz.prog 93 [.slice p l.length cap, .int .i64 i, .int .i64 (i + 1)] [srow p cap 9 l] (fun v H1 => v = .slice p (l.length - 1) cap ∧ H1 = [.row (.slice p (l.length - 1) cap) 9 1 (l.length - 1) (strs (l.eraseIdx i))]) := delete_string Go.Proofs.tryDeleteS p cap l i hi 9 hl
theorem s_delI (p : Option Addr) (cap : Nat) (l : List Int) (i : Nat) (hi : i < l.length) (hl : l.length ≤ 1000000) : Spec Tryz.prog 94 [.slice p l.length cap, .int .i64 i, .int .i64 (i + 1)] [irow p cap 3 l] (fun v H1 => v = .slice p (l.length - 1) cap ∧ H1 = [.row (.slice p (l.length - 1) cap) 3 1 (l.length - 1) (ints (l.eraseIdx i))]) := delete_int Go.Proofs.tryDeleteI p cap l i hi 3 hl
theorem s_clone (p : Option Addr) (cap : Nat) (l : List ByteArray) (hl : l.length ≤ 1000000) : Spec Tryz.prog 89 [.slice p l.length cap] [srow p cap 9 l] (fun v H1 => ∃ p' cap', v = .slice p' l.length cap' ∧ H1 = [srow p' cap' 9 l, srow p cap 9 l]) := clone_string Go.Proofs.tryCloneS p cap 9 l hl
set_option maxRecDepth 10000 in
set_option maxHeartbeats 1000000 in
theorem t_Name (x : ByteArray) (hx : x.size ≤ 9223372036854775807) : Spec Tryz.prog 87 [.string x]
    []
    (fun v H1 => v = .bool (nameOk x) ∧ H1 = []) := by
 refine Spec.intro Tryz.func87 rfl rfl ?_
 intro W
 refine XC.sr ?_
 refine XO.as rfl rfl ?_
 refine XO.nk [(0, _)] (S1 rfl) ?_
 refine XC.seq ?_
 refine XC.sr ?_
 refine XO.mv rfl rfl ?_
 refine XO.v (V.lenStr rfl Tryz.underlying9) rfl ?_
 refine XO.mv rfl rfl ?_
 refine XO.nk [(0, _), (5, _), (6, _)] (S3 rfl rfl rfl) ?_
 refine XC.block ?_
 refine XC.loop (σ := Int) (fun i => (x.size - i).toNat) (fun i => (0 ≤ i ∧ i ≤ x.size) ∧ ∀ j, j < i.toNat → okB (x.get! j) = true) (fun i => [(6, .int .i64 i), (0, .string x), (5, .int .i64 x.size)]) (fun i => XM W (foot []) []) (0) ?_ (S3 rfl rfl rfl) (fun _ hw => XM.pick .nil hw) ?_
 ·
  exact ⟨by omega, fun j h => by simp at h⟩
 intro i hi
 obtain ⟨hi, ho⟩ := hi
 refine XC.sr ?_
 refine XO.v (V.cmp rfl rfl rfl) rfl ?_
 refine XO.nk [(0, _), (5, _), (6, _), (7, _)] (S4 rfl rfl rfl rfl) ?_
 refine XC.seq ?_
 refine XC.condP rfl (fun h1 => ?_) (fun h1 => ?_)
 ·
  obtain ⟨u, hu⟩ := get_some (s := x) (j := i.toNat) (by omega)
  have hg := get_of hu
  refine XC.skip ?_
  refine XE.next ?_
  refine XC.keep [(0, _), (5, _), (6, _)] (S3 rfl rfl rfl) ?_
  refine XC.seq ?_
  refine XC.block ?_
  refine XC.sr ?_
  refine XO.mv rfl rfl ?_
  refine XO.as rfl rfl ?_
  refine XO.nk [(0, _), (3, _), (5, _), (6, _)] (S4 rfl rfl rfl rfl) ?_
  refine XC.sr ?_
  refine XO.mv rfl rfl ?_
  refine XO.mv rfl rfl ?_
  refine XO.v (V.indexStr rfl rfl Tryz.underlying9 (by omega) hu) rfl ?_
  refine XO.v (V.cmp rfl rfl rfl) rfl ?_
  refine XO.mv rfl rfl ?_
  refine XO.splitP (d := 13) rfl (fun h2 => ?_) (fun h2 => ?_)
  ·
   refine XO.guardSkip rfl rfl rfl rfl rfl ?_
   refine XO.guardSkip rfl rfl rfl rfl rfl ?_
   refine XO.guardSkip rfl rfl rfl rfl rfl ?_
   refine XO.guardSkip rfl rfl rfl rfl rfl ?_
   refine XO.v (V.pick rfl rfl rfl rfl) rfl ?_
   refine XO.mv rfl rfl ?_
   refine XO.guardRun rfl rfl rfl ?_
   refine XO.mv rfl rfl ?_
   refine XO.guardRun rfl rfl rfl ?_
   refine XO.mv rfl rfl ?_
   refine XO.guardRun rfl rfl rfl ?_
   refine XO.v (V.indexStr rfl rfl Tryz.underlying9 (by omega) hu) rfl ?_
   refine XO.guardRun rfl rfl rfl ?_
   refine XO.v (V.cmp rfl rfl rfl) rfl ?_
   refine XO.guardRun rfl rfl rfl ?_
   refine XO.mv rfl rfl ?_
   refine XO.splitP (d := 24) rfl (fun h3 => ?_) (fun h3 => ?_)
   ·
    refine XO.guardSkip rfl rfl rfl rfl rfl ?_
    refine XO.guardSkip rfl rfl rfl rfl rfl ?_
    refine XO.guardSkip rfl rfl rfl rfl rfl ?_
    refine XO.guardSkip rfl rfl rfl rfl rfl ?_
    refine XO.guardRun rfl rfl rfl ?_
    refine XO.v (V.pick rfl rfl rfl rfl) rfl ?_
    refine XO.v (V.pick rfl rfl rfl rfl) rfl ?_
    refine XO.mv rfl rfl ?_
    refine XO.guardRun rfl rfl rfl ?_
    refine XO.mv rfl rfl ?_
    refine XO.guardRun rfl rfl rfl ?_
    refine XO.mv rfl rfl ?_
    refine XO.guardRun rfl rfl rfl ?_
    refine XO.v (V.indexStr rfl rfl Tryz.underlying9 (by omega) hu) rfl ?_
    refine XO.guardRun rfl rfl rfl ?_
    refine XO.v (V.cmp rfl rfl rfl) rfl ?_
    refine XO.v (V.pick rfl rfl rfl rfl) rfl ?_
    refine XO.nk [(0, _), (5, _), (6, _), (36, _)] (S4 rfl rfl rfl rfl) ?_
    refine XC.condP rfl (fun h4 => ?_) (fun h4 => ?_)
    ·
     refine XC.sr ?_
     refine XO.as rfl rfl ?_
     refine XO.nk [(2, _)] (S1 rfl) ?_
     refine XC.ret ?_
     refine XE.blockRet ?_
     refine XE.thenRet ?_
     refine XE.thenRet ?_
     refine XE.blockRet ?_
     refine XE.thenRet ?_
     refine XE.ret1 rfl rfl (post_of .nil rfl ?_)
     exact ⟨congrArg Value.bool (nameOk_bad (j := i.toNat) (by omega) (by rw [hg]; unfold okB; simp; omega)).symm, rfl⟩
    ·
     refine XC.skip ?_
     refine XE.blockNormal ?_
     refine XE.next ?_
     refine XC.keep [(0, _), (5, _), (6, _)] (S3 rfl rfl rfl) ?_
     refine XC.region ?_
     refine XO.v (V.add rfl rfl _ (IntWalk.i64_in _ (by omega))) rfl ?_
     refine XO.mv rfl rfl ?_
     refine XO.nil ?_
     refine XE.again (i + 1) ?_ ?_ (S3 rfl rfl rfl) (fun _ hw => XM.pick .nil hw)
     ·
      (first | omega | (simp; done) | (simp; omega))
     ·
      refine ⟨by omega, fun j hj => ?_⟩
      by_cases c : j = i.toNat
      ·
       subst c; rw [hg]; unfold okB; simp; omega
      ·
       exact ho j (by omega)
   ·
    refine XO.guardRun rfl rfl rfl ?_
    refine XO.mv rfl rfl ?_
    refine XO.guardRun rfl rfl rfl ?_
    refine XO.mv rfl rfl ?_
    refine XO.guardRun rfl rfl rfl ?_
    refine XO.v (V.indexStr rfl rfl Tryz.underlying9 (by omega) hu) rfl ?_
    refine XO.guardRun rfl rfl rfl ?_
    refine XO.v (V.cmp rfl rfl rfl) rfl ?_
    refine XO.guardRun rfl rfl rfl ?_
    refine XO.v (V.pick rfl rfl rfl rfl) rfl ?_
    refine XO.v (V.pick rfl rfl rfl rfl) rfl ?_
    refine XO.mv rfl rfl ?_
    refine XO.splitP (d := 31) rfl (fun h5 => ?_) (fun h5 => ?_)
    ·
     refine XO.guardRun rfl rfl rfl ?_
     refine XO.mv rfl rfl ?_
     refine XO.guardRun rfl rfl rfl ?_
     refine XO.mv rfl rfl ?_
     refine XO.guardRun rfl rfl rfl ?_
     refine XO.v (V.indexStr rfl rfl Tryz.underlying9 (by omega) hu) rfl ?_
     refine XO.guardRun rfl rfl rfl ?_
     refine XO.v (V.cmp rfl rfl rfl) rfl ?_
     refine XO.v (V.pick rfl rfl rfl rfl) rfl ?_
     refine XO.nk [(0, _), (5, _), (6, _), (36, _)] (S4 rfl rfl rfl rfl) ?_
     refine XC.condP rfl (fun h6 => ?_) (fun h6 => ?_)
     ·
      refine XC.sr ?_
      refine XO.as rfl rfl ?_
      refine XO.nk [(2, _)] (S1 rfl) ?_
      refine XC.ret ?_
      refine XE.blockRet ?_
      refine XE.thenRet ?_
      refine XE.thenRet ?_
      refine XE.blockRet ?_
      refine XE.thenRet ?_
      refine XE.ret1 rfl rfl (post_of .nil rfl ?_)
      exact ⟨congrArg Value.bool (nameOk_bad (j := i.toNat) (by omega) (by rw [hg]; unfold okB; simp; omega)).symm, rfl⟩
     ·
      refine XC.skip ?_
      refine XE.blockNormal ?_
      refine XE.next ?_
      refine XC.keep [(0, _), (5, _), (6, _)] (S3 rfl rfl rfl) ?_
      refine XC.region ?_
      refine XO.v (V.add rfl rfl _ (IntWalk.i64_in _ (by omega))) rfl ?_
      refine XO.mv rfl rfl ?_
      refine XO.nil ?_
      refine XE.again (i + 1) ?_ ?_ (S3 rfl rfl rfl) (fun _ hw => XM.pick .nil hw)
      ·
       (first | omega | (simp; done) | (simp; omega))
      ·
       refine ⟨by omega, fun j hj => ?_⟩
       by_cases c : j = i.toNat
       ·
        subst c; rw [hg]; unfold okB; simp; omega
       ·
        exact ho j (by omega)
    ·
     refine XO.guardSkip rfl rfl rfl rfl rfl ?_
     refine XO.guardSkip rfl rfl rfl rfl rfl ?_
     refine XO.guardSkip rfl rfl rfl rfl rfl ?_
     refine XO.guardSkip rfl rfl rfl rfl rfl ?_
     refine XO.v (V.pick rfl rfl rfl rfl) rfl ?_
     refine XO.nk [(0, _), (5, _), (6, _), (36, _)] (S4 rfl rfl rfl rfl) ?_
     refine XC.condF rfl rfl ?_
     refine XC.skip ?_
     refine XE.blockNormal ?_
     refine XE.next ?_
     refine XC.keep [(0, _), (5, _), (6, _)] (S3 rfl rfl rfl) ?_
     refine XC.region ?_
     refine XO.v (V.add rfl rfl _ (IntWalk.i64_in _ (by omega))) rfl ?_
     refine XO.mv rfl rfl ?_
     refine XO.nil ?_
     refine XE.again (i + 1) ?_ ?_ (S3 rfl rfl rfl) (fun _ hw => XM.pick .nil hw)
     ·
      (first | omega | (simp; done) | (simp; omega))
     ·
      refine ⟨by omega, fun j hj => ?_⟩
      by_cases c : j = i.toNat
      ·
       subst c; rw [hg]; unfold okB; simp; omega
      ·
       exact ho j (by omega)
  ·
   refine XO.guardRun rfl rfl rfl ?_
   refine XO.mv rfl rfl ?_
   refine XO.guardRun rfl rfl rfl ?_
   refine XO.mv rfl rfl ?_
   refine XO.guardRun rfl rfl rfl ?_
   refine XO.v (V.indexStr rfl rfl Tryz.underlying9 (by omega) hu) rfl ?_
   refine XO.guardRun rfl rfl rfl ?_
   refine XO.v (V.cmp rfl rfl rfl) rfl ?_
   refine XO.v (V.pick rfl rfl rfl rfl) rfl ?_
   refine XO.mv rfl rfl ?_
   refine XO.splitP (d := 19) rfl (fun h7 => ?_) (fun h7 => ?_)
   ·
    refine XO.guardRun rfl rfl rfl ?_
    refine XO.mv rfl rfl ?_
    refine XO.guardRun rfl rfl rfl ?_
    refine XO.mv rfl rfl ?_
    refine XO.guardRun rfl rfl rfl ?_
    refine XO.v (V.indexStr rfl rfl Tryz.underlying9 (by omega) hu) rfl ?_
    refine XO.guardRun rfl rfl rfl ?_
    refine XO.v (V.cmp rfl rfl rfl) rfl ?_
    refine XO.guardRun rfl rfl rfl ?_
    refine XO.mv rfl rfl ?_
    refine XO.splitP (d := 24) rfl (fun h8 => ?_) (fun h8 => ?_)
    ·
     refine XO.guardSkip rfl rfl rfl rfl rfl ?_
     refine XO.guardSkip rfl rfl rfl rfl rfl ?_
     refine XO.guardSkip rfl rfl rfl rfl rfl ?_
     refine XO.guardSkip rfl rfl rfl rfl rfl ?_
     refine XO.guardRun rfl rfl rfl ?_
     refine XO.v (V.pick rfl rfl rfl rfl) rfl ?_
     refine XO.v (V.pick rfl rfl rfl rfl) rfl ?_
     refine XO.mv rfl rfl ?_
     refine XO.guardRun rfl rfl rfl ?_
     refine XO.mv rfl rfl ?_
     refine XO.guardRun rfl rfl rfl ?_
     refine XO.mv rfl rfl ?_
     refine XO.guardRun rfl rfl rfl ?_
     refine XO.v (V.indexStr rfl rfl Tryz.underlying9 (by omega) hu) rfl ?_
     refine XO.guardRun rfl rfl rfl ?_
     refine XO.v (V.cmp rfl rfl rfl) rfl ?_
     refine XO.v (V.pick rfl rfl rfl rfl) rfl ?_
     refine XO.nk [(0, _), (5, _), (6, _), (36, _)] (S4 rfl rfl rfl rfl) ?_
     refine XC.condP rfl (fun h9 => ?_) (fun h9 => ?_)
     ·
      refine XC.sr ?_
      refine XO.as rfl rfl ?_
      refine XO.nk [(2, _)] (S1 rfl) ?_
      refine XC.ret ?_
      refine XE.blockRet ?_
      refine XE.thenRet ?_
      refine XE.thenRet ?_
      refine XE.blockRet ?_
      refine XE.thenRet ?_
      refine XE.ret1 rfl rfl (post_of .nil rfl ?_)
      exact ⟨congrArg Value.bool (nameOk_bad (j := i.toNat) (by omega) (by rw [hg]; unfold okB; simp; omega)).symm, rfl⟩
     ·
      refine XC.skip ?_
      refine XE.blockNormal ?_
      refine XE.next ?_
      refine XC.keep [(0, _), (5, _), (6, _)] (S3 rfl rfl rfl) ?_
      refine XC.region ?_
      refine XO.v (V.add rfl rfl _ (IntWalk.i64_in _ (by omega))) rfl ?_
      refine XO.mv rfl rfl ?_
      refine XO.nil ?_
      refine XE.again (i + 1) ?_ ?_ (S3 rfl rfl rfl) (fun _ hw => XM.pick .nil hw)
      ·
       (first | omega | (simp; done) | (simp; omega))
      ·
       refine ⟨by omega, fun j hj => ?_⟩
       by_cases c : j = i.toNat
       ·
        subst c; rw [hg]; unfold okB; simp; omega
       ·
        exact ho j (by omega)
    ·
     refine XO.guardRun rfl rfl rfl ?_
     refine XO.mv rfl rfl ?_
     refine XO.guardRun rfl rfl rfl ?_
     refine XO.mv rfl rfl ?_
     refine XO.guardRun rfl rfl rfl ?_
     refine XO.v (V.indexStr rfl rfl Tryz.underlying9 (by omega) hu) rfl ?_
     refine XO.guardRun rfl rfl rfl ?_
     refine XO.v (V.cmp rfl rfl rfl) rfl ?_
     refine XO.guardRun rfl rfl rfl ?_
     refine XO.v (V.pick rfl rfl rfl rfl) rfl ?_
     refine XO.v (V.pick rfl rfl rfl rfl) rfl ?_
     refine XO.mv rfl rfl ?_
     refine XO.splitP (d := 31) rfl (fun h10 => ?_) (fun h10 => ?_)
     ·
      refine XO.guardRun rfl rfl rfl ?_
      refine XO.mv rfl rfl ?_
      refine XO.guardRun rfl rfl rfl ?_
      refine XO.mv rfl rfl ?_
      refine XO.guardRun rfl rfl rfl ?_
      refine XO.v (V.indexStr rfl rfl Tryz.underlying9 (by omega) hu) rfl ?_
      refine XO.guardRun rfl rfl rfl ?_
      refine XO.v (V.cmp rfl rfl rfl) rfl ?_
      refine XO.v (V.pick rfl rfl rfl rfl) rfl ?_
      refine XO.nk [(0, _), (5, _), (6, _), (36, _)] (S4 rfl rfl rfl rfl) ?_
      refine XC.condP rfl (fun h11 => ?_) (fun h11 => ?_)
      ·
       refine XC.sr ?_
       refine XO.as rfl rfl ?_
       refine XO.nk [(2, _)] (S1 rfl) ?_
       refine XC.ret ?_
       refine XE.blockRet ?_
       refine XE.thenRet ?_
       refine XE.thenRet ?_
       refine XE.blockRet ?_
       refine XE.thenRet ?_
       refine XE.ret1 rfl rfl (post_of .nil rfl ?_)
       exact ⟨congrArg Value.bool (nameOk_bad (j := i.toNat) (by omega) (by rw [hg]; unfold okB; simp; omega)).symm, rfl⟩
      ·
       refine XC.skip ?_
       refine XE.blockNormal ?_
       refine XE.next ?_
       refine XC.keep [(0, _), (5, _), (6, _)] (S3 rfl rfl rfl) ?_
       refine XC.region ?_
       refine XO.v (V.add rfl rfl _ (IntWalk.i64_in _ (by omega))) rfl ?_
       refine XO.mv rfl rfl ?_
       refine XO.nil ?_
       refine XE.again (i + 1) ?_ ?_ (S3 rfl rfl rfl) (fun _ hw => XM.pick .nil hw)
       ·
        (first | omega | (simp; done) | (simp; omega))
       ·
        refine ⟨by omega, fun j hj => ?_⟩
        by_cases c : j = i.toNat
        ·
         subst c; rw [hg]; unfold okB; simp; omega
        ·
         exact ho j (by omega)
     ·
      refine XO.guardSkip rfl rfl rfl rfl rfl ?_
      refine XO.guardSkip rfl rfl rfl rfl rfl ?_
      refine XO.guardSkip rfl rfl rfl rfl rfl ?_
      refine XO.guardSkip rfl rfl rfl rfl rfl ?_
      refine XO.v (V.pick rfl rfl rfl rfl) rfl ?_
      refine XO.nk [(0, _), (5, _), (6, _), (36, _)] (S4 rfl rfl rfl rfl) ?_
      refine XC.condF rfl rfl ?_
      refine XC.skip ?_
      refine XE.blockNormal ?_
      refine XE.next ?_
      refine XC.keep [(0, _), (5, _), (6, _)] (S3 rfl rfl rfl) ?_
      refine XC.region ?_
      refine XO.v (V.add rfl rfl _ (IntWalk.i64_in _ (by omega))) rfl ?_
      refine XO.mv rfl rfl ?_
      refine XO.nil ?_
      refine XE.again (i + 1) ?_ ?_ (S3 rfl rfl rfl) (fun _ hw => XM.pick .nil hw)
      ·
       (first | omega | (simp; done) | (simp; omega))
      ·
       refine ⟨by omega, fun j hj => ?_⟩
       by_cases c : j = i.toNat
       ·
        subst c; rw [hg]; unfold okB; simp; omega
       ·
        exact ho j (by omega)
   ·
    refine XO.guardSkip rfl rfl rfl rfl rfl ?_
    refine XO.guardSkip rfl rfl rfl rfl rfl ?_
    refine XO.guardSkip rfl rfl rfl rfl rfl ?_
    refine XO.guardSkip rfl rfl rfl rfl rfl ?_
    refine XO.guardSkip rfl rfl rfl rfl rfl ?_
    refine XO.guardSkipU rfl rfl rfl rfl rfl ?_
    refine XO.guardSkipU rfl rfl rfl rfl rfl ?_
    refine XO.guardSkipU rfl rfl rfl rfl rfl ?_
    refine XO.guardSkipU rfl rfl rfl rfl rfl ?_
    refine XO.guardSkip rfl rfl rfl rfl rfl ?_
    refine XO.v (V.pick rfl rfl rfl rfl) rfl ?_
    refine XO.mv rfl rfl ?_
    refine XO.guardSkip rfl rfl rfl rfl rfl ?_
    refine XO.guardSkip rfl rfl rfl rfl rfl ?_
    refine XO.guardSkip rfl rfl rfl rfl rfl ?_
    refine XO.guardSkip rfl rfl rfl rfl rfl ?_
    refine XO.v (V.pick rfl rfl rfl rfl) rfl ?_
    refine XO.nk [(0, _), (5, _), (6, _), (36, _)] (S4 rfl rfl rfl rfl) ?_
    refine XC.condF rfl rfl ?_
    refine XC.skip ?_
    refine XE.blockNormal ?_
    refine XE.next ?_
    refine XC.keep [(0, _), (5, _), (6, _)] (S3 rfl rfl rfl) ?_
    refine XC.region ?_
    refine XO.v (V.add rfl rfl _ (IntWalk.i64_in _ (by omega))) rfl ?_
    refine XO.mv rfl rfl ?_
    refine XO.nil ?_
    refine XE.again (i + 1) ?_ ?_ (S3 rfl rfl rfl) (fun _ hw => XM.pick .nil hw)
    ·
     (first | omega | (simp; done) | (simp; omega))
    ·
     refine ⟨by omega, fun j hj => ?_⟩
     by_cases c : j = i.toNat
     ·
      subst c; rw [hg]; unfold okB; simp; omega
     ·
      exact ho j (by omega)
 ·
  have hall : ∀ j, j < x.size → okB (x.get! j) = true := fun j hj => ho j (by omega)
  refine XC.exit ?_
  refine XE.thenExit ?_
  refine XE.thenExit ?_
  refine XE.blockExit ?_
  refine XE.next ?_
  refine XC.keep [(0, _)] (S1 rfl) ?_
  refine XC.sr ?_
  refine XO.mv rfl rfl ?_
  refine XO.v (V.strCmp rfl rfl rfl) rfl ?_
  refine XO.mv rfl rfl ?_
  refine XO.splitP (d := 40) rfl (fun h12 => ?_) (fun h12 => ?_)
  ·
   refine XO.guardRun rfl rfl rfl ?_
   refine XO.mv rfl rfl ?_
   refine XO.guardRun rfl rfl rfl ?_
   refine XO.v (V.strCmp rfl rfl rfl) rfl ?_
   refine XO.v (V.pick rfl rfl rfl rfl) rfl ?_
   refine XO.mv rfl rfl ?_
   refine XO.splitP (d := 44) rfl (fun h13 => ?_) (fun h13 => ?_)
   ·
    refine XO.guardRun rfl rfl rfl ?_
    refine XO.mv rfl rfl ?_
    refine XO.guardRun rfl rfl rfl ?_
    refine XO.v (V.strCmp rfl rfl rfl) rfl ?_
    refine XO.v (V.pick rfl rfl rfl rfl) rfl ?_
    refine XO.mv rfl rfl ?_
    refine XO.splitP (d := 48) rfl (fun h14 => ?_) (fun h14 => ?_)
    ·
     refine XO.guardRun rfl rfl rfl ?_
     refine XO.mv rfl rfl ?_
     refine XO.guardRun rfl rfl rfl ?_
     refine XO.v (V.lenStr rfl Tryz.underlying9) rfl ?_
     refine XO.guardRun rfl rfl rfl ?_
     refine XO.v (V.cmp rfl rfl rfl) rfl ?_
     refine XO.v (V.pick rfl rfl rfl rfl) rfl ?_
     refine XO.as rfl rfl ?_
     refine XO.nk [(2, _)] (S1 rfl) ?_
     refine XC.ret ?_
     refine XE.ret1 rfl rfl (post_of .nil rfl ?_)
     have h0 : ¬ x.size = 0 := fun q => (by assumption : x ≠ ⟨#[]⟩) (size_nil.2 q)
     exact ⟨congrArg Value.bool (by rw [nameOk_all hall, decide_eq_true (p := x ≠ ⟨#[46]⟩) (by assumption), decide_eq_true (p := x ≠ ⟨#[46, 46]⟩) (by assumption), Bool.and_true, Bool.and_true]; exact decide_eq_decide.2 (by omega)), rfl⟩
    ·
     refine XO.guardSkip rfl rfl rfl rfl rfl ?_
     refine XO.guardSkip rfl rfl rfl rfl rfl ?_
     refine XO.guardSkip rfl rfl rfl rfl rfl ?_
     refine XO.v (V.pick rfl rfl rfl rfl) rfl ?_
     refine XO.as rfl rfl ?_
     refine XO.nk [(2, _)] (S1 rfl) ?_
     refine XC.ret ?_
     refine XE.ret1 rfl rfl (post_of .nil rfl ?_)
     exact ⟨congrArg Value.bool (nameOk_dot (.inr (by simp_all))).symm, rfl⟩
   ·
    refine XO.guardSkip rfl rfl rfl rfl rfl ?_
    refine XO.guardSkip rfl rfl rfl rfl rfl ?_
    refine XO.v (V.pick rfl rfl rfl rfl) rfl ?_
    refine XO.mv rfl rfl ?_
    refine XO.guardSkip rfl rfl rfl rfl rfl ?_
    refine XO.guardSkip rfl rfl rfl rfl rfl ?_
    refine XO.guardSkip rfl rfl rfl rfl rfl ?_
    refine XO.v (V.pick rfl rfl rfl rfl) rfl ?_
    refine XO.as rfl rfl ?_
    refine XO.nk [(2, _)] (S1 rfl) ?_
    refine XC.ret ?_
    refine XE.ret1 rfl rfl (post_of .nil rfl ?_)
    exact ⟨congrArg Value.bool (nameOk_dot (.inl (by simp_all))).symm, rfl⟩
  ·
   refine XO.guardSkip rfl rfl rfl rfl rfl ?_
   refine XO.guardSkip rfl rfl rfl rfl rfl ?_
   refine XO.v (V.pick rfl rfl rfl rfl) rfl ?_
   refine XO.mv rfl rfl ?_
   refine XO.guardSkip rfl rfl rfl rfl rfl ?_
   refine XO.guardSkip rfl rfl rfl rfl rfl ?_
   refine XO.v (V.pick rfl rfl rfl rfl) rfl ?_
   refine XO.mv rfl rfl ?_
   refine XO.guardSkip rfl rfl rfl rfl rfl ?_
   refine XO.guardSkip rfl rfl rfl rfl rfl ?_
   refine XO.guardSkip rfl rfl rfl rfl rfl ?_
   refine XO.v (V.pick rfl rfl rfl rfl) rfl ?_
   refine XO.as rfl rfl ?_
   refine XO.nk [(2, _)] (S1 rfl) ?_
   refine XC.ret ?_
   refine XE.ret1 rfl rfl (post_of .nil rfl ?_)
   have h0 : x.size = 0 := size_nil.1 (by simp_all)
   exact ⟨congrArg Value.bool (nameOk_len (by omega)).symm, rfl⟩
set_option maxRecDepth 10000 in
set_option maxHeartbeats 400000 in
theorem t_is (b o : Nat) (s : FC) (n : Int) : Spec Tryz.prog 71 [ptr b o 0, .int .i64 n]
    [.cells b o 321 (encF s)]
    (fun v H1 => v = errv 76 (s.isE n 0) ∧ H1 = [.cells b o 321 (encF s)]) := by
 refine Spec.intro Tryz.func71 rfl rfl ?_
 intro W
 refine XC.sr ?_
 refine XO.as rfl rfl ?_
 refine XO.nk [(0, _), (1, _)] (S2 rfl rfl) ?_
 refine XC.seq ?_
 refine XC.sr ?_
 refine XO.mv rfl rfl ?_
 refine XO.v (V.cmp rfl rfl rfl) rfl ?_
 refine XO.mv rfl rfl ?_
 refine XO.splitP (d := 7) rfl (fun h1 => ?_) (fun h1 => ?_)
 ·
  refine XO.guardSkip rfl rfl rfl rfl rfl ?_
  refine XO.guardSkip rfl rfl rfl rfl rfl ?_
  refine XO.v (V.pick rfl rfl rfl rfl) rfl ?_
  refine XO.nk [(0, _), (1, _), (10, _)] (S3 rfl rfl rfl) ?_
  refine XC.condT rfl rfl ?_
  refine XC.sr ?_
  refine XO.v (V.makeIface rfl Tryz.underlying76 (by simp)) rfl ?_
  refine XO.as rfl rfl ?_
  refine XO.nk [(4, _)] (S1 rfl) ?_
  refine XC.ret ?_
  refine XE.thenRet ?_
  refine XE.ret1 rfl rfl (post_of .h1 rfl ?_)
  have e : s.isE n 0 = 1 := by unfold FF.isE; rw [if_pos (by omega)]
  exact ⟨by rw [e]; rfl, rfl⟩
 ·
  refine XO.guardRun rfl rfl rfl ?_
  refine XO.mv rfl rfl ?_
  refine XO.guardRun rfl rfl rfl ?_
  refine XO.v (V.cmp rfl rfl rfl) rfl ?_
  refine XO.v (V.pick rfl rfl rfl rfl) rfl ?_
  refine XO.nk [(0, _), (1, _), (10, _)] (S3 rfl rfl rfl) ?_
  refine XC.condP rfl (fun h2 => ?_) (fun h2 => ?_)
  ·
   refine XC.sr ?_
   refine XO.v (V.makeIface rfl Tryz.underlying76 (by simp)) rfl ?_
   refine XO.as rfl rfl ?_
   refine XO.nk [(4, _)] (S1 rfl) ?_
   refine XC.ret ?_
   refine XE.thenRet ?_
   refine XE.ret1 rfl rfl (post_of .h1 rfl ?_)
   have e : s.isE n 0 = 1 := by unfold FF.isE; rw [if_pos (by omega)]
   exact ⟨by rw [e]; rfl, rfl⟩
  ·
   refine XC.skip ?_
   refine XE.next ?_
   refine XC.keep [(0, _), (1, _)] (S2 rfl rfl) ?_
   refine XC.seq ?_
   refine XC.sr ?_
   refine XO.mv rfl rfl ?_
   refine XO.mv rfl rfl ?_
   refine XO.v (V.nilCheckP rfl) rfl ?_
   refine XO.v (V.fieldAddr rfl fo_72_0) rfl ?_
   refine XO.v (V.indexArr rfl rfl ar_70 (by omega)) rfl ?_
   refine XO.v (V.fieldAddr rfl fo_69_0) rfl ?_
   refine XO.v (V.load rfl (inXM .here) (encF.ld_n_kind _ _ (by omega)) sc_3) rfl ?_
   refine XO.v (V.cmp rfl rfl rfl) rfl ?_
   refine XO.nk [(19, _)] (S1 rfl) ?_
   refine XC.condP rfl (fun h3 => ?_) (fun h3 => ?_)
   ·
    refine XC.sr ?_
    refine XO.v (V.makeIface rfl Tryz.underlying76 (by simp)) rfl ?_
    refine XO.as rfl rfl ?_
    refine XO.nk [(4, _)] (S1 rfl) ?_
    refine XC.ret ?_
    refine XE.thenRet ?_
    refine XE.ret1 rfl rfl (post_of .h1 rfl ?_)
    have e : s.isE n 0 = 2 := by unfold FF.isE; rw [if_neg (by omega), if_pos (by omega)]
    exact ⟨by rw [e]; rfl, rfl⟩
   ·
    refine XC.skip ?_
    refine XE.next ?_
    refine XC.keep [] (Sub.nil _) ?_
    refine XC.sr ?_
    refine XO.as rfl rfl ?_
    refine XO.nk [(4, _)] (S1 rfl) ?_
    refine XC.ret ?_
    refine XE.ret1 rfl rfl (post_of .h1 rfl ?_)
    have e : s.isE n 0 = 0 := by unfold FF.isE; rw [if_neg (by omega), if_neg (by omega), if_neg (by omega)]
    exact ⟨by rw [e]; rfl, rfl⟩
set_option maxRecDepth 10000 in
set_option maxHeartbeats 400000 in
theorem t_dir (b o : Nat) (s : FC) (n : Int) : Spec Tryz.prog 79 [ptr b o 0, .int .i64 n]
    [.cells b o 321 (encF s)]
    (fun v H1 => v = errv 76 (s.isE n 2) ∧ H1 = [.cells b o 321 (encF s)]) := by
 refine Spec.intro Tryz.func79 rfl rfl ?_
 intro W
 refine XC.sr ?_
 refine XO.as rfl rfl ?_
 refine XO.nk [(0, _), (1, _)] (S2 rfl rfl) ?_
 refine XC.sr ?_
 refine XO.mv rfl rfl ?_
 refine XO.mv rfl rfl ?_
 refine XO.call rfl (t_is _ _ _ _) .h1 cl_71 rfl ?_
 rintro _ _ ⟨rfl, rfl⟩
 refine XO.as rfl rfl ?_
 refine XO.nk [(0, _), (1, _), (5, _)] (S3 rfl rfl rfl) ?_
 refine XC.seq ?_
 refine XC.sr ?_
 refine XO.mv rfl rfl ?_
 refine XO.v (V.errNil rfl Tryz.underlying37 rfl) rfl ?_
 refine XO.mv rfl rfl ?_
 refine XO.splitP (d := 11) rfl (fun h1 => ?_) (fun h1 => ?_)
 ·
  obtain ⟨i1, i2, i3⟩ := FF.isE_0 (show s.isE n 0 = 0 by assumption)
  refine XO.guardRun rfl rfl rfl ?_
  refine XO.mv rfl rfl ?_
  refine XO.guardRun rfl rfl rfl ?_
  refine XO.mv rfl rfl ?_
  refine XO.guardRun rfl rfl rfl ?_
  refine XO.v (V.nilCheckP rfl) rfl ?_
  refine XO.guardRun rfl rfl rfl ?_
  refine XO.v (V.fieldAddr rfl fo_72_0) rfl ?_
  refine XO.guardRun rfl rfl rfl ?_
  refine XO.v (V.indexArr rfl rfl ar_70 (by omega)) rfl ?_
  refine XO.guardRun rfl rfl rfl ?_
  refine XO.v (V.fieldAddr rfl fo_69_0) rfl ?_
  refine XO.guardRun rfl rfl rfl ?_
  refine XO.v (V.load rfl (inXM .here) (encF.ld_n_kind _ _ (by omega)) sc_3) rfl ?_
  refine XO.guardRun rfl rfl rfl ?_
  refine XO.v (V.cmp rfl rfl rfl) rfl ?_
  refine XO.v (V.pick rfl rfl rfl rfl) rfl ?_
  refine XO.nk [(5, _), (20, _)] (S2 rfl rfl) ?_
  refine XC.condP rfl (fun h2 => ?_) (fun h2 => ?_)
  ·
   refine XC.sr ?_
   refine XO.v (V.makeIface rfl Tryz.underlying76 (by simp)) rfl ?_
   refine XO.as rfl rfl ?_
   refine XO.nk [(4, _)] (S1 rfl) ?_
   refine XC.ret ?_
   refine XE.thenRet ?_
   refine XE.ret1 rfl rfl (post_of .h1 rfl ?_)
   have e : s.isE n 2 = 11 := by unfold FF.isE; rw [if_neg (by omega), if_neg (by omega), if_pos (by omega)]
   exact ⟨by rw [e]; rfl, rfl⟩
  ·
   refine XC.skip ?_
   refine XE.next ?_
   refine XC.keep [(5, _)] (S1 rfl) ?_
   refine XC.sr ?_
   refine XO.mv rfl rfl ?_
   refine XO.as rfl rfl ?_
   refine XO.nk [(4, _)] (S1 rfl) ?_
   refine XC.ret ?_
   refine XE.ret1 rfl rfl (post_of .h1 rfl ?_)
   have e : s.isE n 2 = 0 := by unfold FF.isE; rw [if_neg (by omega), if_neg (by omega), if_neg (by omega)]
   exact ⟨by rw [e, show s.isE n 0 = 0 by assumption], rfl⟩
 ·
  have i0 : s.isE n 0 ≠ 0 := by assumption
  refine XO.guardSkip rfl rfl rfl rfl rfl ?_
  refine XO.guardSkip rfl rfl rfl rfl rfl ?_
  refine XO.guardSkip rfl rfl rfl rfl rfl ?_
  refine XO.guardSkip rfl rfl rfl rfl rfl ?_
  refine XO.guardSkip rfl rfl rfl rfl rfl ?_
  refine XO.guardSkip rfl rfl rfl rfl rfl ?_
  refine XO.guardSkip rfl rfl rfl rfl rfl ?_
  refine XO.guardSkip rfl rfl rfl rfl rfl ?_
  refine XO.v (V.pick rfl rfl rfl rfl) rfl ?_
  refine XO.nk [(5, _), (20, _)] (S2 rfl rfl) ?_
  refine XC.condF rfl rfl ?_
  refine XC.skip ?_
  refine XE.next ?_
  refine XC.keep [(5, _)] (S1 rfl) ?_
  refine XC.sr ?_
  refine XO.mv rfl rfl ?_
  refine XO.as rfl rfl ?_
  refine XO.nk [(4, _)] (S1 rfl) ?_
  refine XC.ret ?_
  refine XE.ret1 rfl rfl (post_of .h1 rfl ?_)
  exact ⟨by rw [FF.isE_k i0], rfl⟩
set_option maxRecDepth 10000 in
set_option maxHeartbeats 400000 in
theorem t_file (b o : Nat) (s : FC) (n : Int) : Spec Tryz.prog 75 [ptr b o 0, .int .i64 n]
    [.cells b o 321 (encF s)]
    (fun v H1 => v = errv 76 (s.isE n 1) ∧ H1 = [.cells b o 321 (encF s)]) := by
 refine Spec.intro Tryz.func75 rfl rfl ?_
 intro W
 refine XC.sr ?_
 refine XO.as rfl rfl ?_
 refine XO.nk [(0, _), (1, _)] (S2 rfl rfl) ?_
 refine XC.sr ?_
 refine XO.mv rfl rfl ?_
 refine XO.mv rfl rfl ?_
 refine XO.call rfl (t_is _ _ _ _) .h1 cl_71 rfl ?_
 rintro _ _ ⟨rfl, rfl⟩
 refine XO.as rfl rfl ?_
 refine XO.nk [(0, _), (1, _), (5, _)] (S3 rfl rfl rfl) ?_
 refine XC.seq ?_
 refine XC.sr ?_
 refine XO.mv rfl rfl ?_
 refine XO.v (V.errNil rfl Tryz.underlying37 rfl) rfl ?_
 refine XO.mv rfl rfl ?_
 refine XO.splitP (d := 11) rfl (fun h1 => ?_) (fun h1 => ?_)
 ·
  obtain ⟨i1, i2, i3⟩ := FF.isE_0 (show s.isE n 0 = 0 by assumption)
  refine XO.guardRun rfl rfl rfl ?_
  refine XO.mv rfl rfl ?_
  refine XO.guardRun rfl rfl rfl ?_
  refine XO.mv rfl rfl ?_
  refine XO.guardRun rfl rfl rfl ?_
  refine XO.v (V.nilCheckP rfl) rfl ?_
  refine XO.guardRun rfl rfl rfl ?_
  refine XO.v (V.fieldAddr rfl fo_72_0) rfl ?_
  refine XO.guardRun rfl rfl rfl ?_
  refine XO.v (V.indexArr rfl rfl ar_70 (by omega)) rfl ?_
  refine XO.guardRun rfl rfl rfl ?_
  refine XO.v (V.fieldAddr rfl fo_69_0) rfl ?_
  refine XO.guardRun rfl rfl rfl ?_
  refine XO.v (V.load rfl (inXM .here) (encF.ld_n_kind _ _ (by omega)) sc_3) rfl ?_
  refine XO.guardRun rfl rfl rfl ?_
  refine XO.v (V.cmp rfl rfl rfl) rfl ?_
  refine XO.v (V.pick rfl rfl rfl rfl) rfl ?_
  refine XO.nk [(5, _), (20, _)] (S2 rfl rfl) ?_
  refine XC.condP rfl (fun h2 => ?_) (fun h2 => ?_)
  ·
   refine XC.sr ?_
   refine XO.v (V.makeIface rfl Tryz.underlying76 (by simp)) rfl ?_
   refine XO.as rfl rfl ?_
   refine XO.nk [(4, _)] (S1 rfl) ?_
   refine XC.ret ?_
   refine XE.thenRet ?_
   refine XE.ret1 rfl rfl (post_of .h1 rfl ?_)
   have e : s.isE n 1 = 11 := by unfold FF.isE; rw [if_neg (by omega), if_neg (by omega), if_pos (by omega)]
   exact ⟨by rw [e]; rfl, rfl⟩
  ·
   refine XC.skip ?_
   refine XE.next ?_
   refine XC.keep [(5, _)] (S1 rfl) ?_
   refine XC.sr ?_
   refine XO.mv rfl rfl ?_
   refine XO.as rfl rfl ?_
   refine XO.nk [(4, _)] (S1 rfl) ?_
   refine XC.ret ?_
   refine XE.ret1 rfl rfl (post_of .h1 rfl ?_)
   have e : s.isE n 1 = 0 := by unfold FF.isE; rw [if_neg (by omega), if_neg (by omega), if_neg (by omega)]
   exact ⟨by rw [e, show s.isE n 0 = 0 by assumption], rfl⟩
 ·
  have i0 : s.isE n 0 ≠ 0 := by assumption
  refine XO.guardSkip rfl rfl rfl rfl rfl ?_
  refine XO.guardSkip rfl rfl rfl rfl rfl ?_
  refine XO.guardSkip rfl rfl rfl rfl rfl ?_
  refine XO.guardSkip rfl rfl rfl rfl rfl ?_
  refine XO.guardSkip rfl rfl rfl rfl rfl ?_
  refine XO.guardSkip rfl rfl rfl rfl rfl ?_
  refine XO.guardSkip rfl rfl rfl rfl rfl ?_
  refine XO.guardSkip rfl rfl rfl rfl rfl ?_
  refine XO.v (V.pick rfl rfl rfl rfl) rfl ?_
  refine XO.nk [(5, _), (20, _)] (S2 rfl rfl) ?_
  refine XC.condF rfl rfl ?_
  refine XC.skip ?_
  refine XE.next ?_
  refine XC.keep [(5, _)] (S1 rfl) ?_
  refine XC.sr ?_
  refine XO.mv rfl rfl ?_
  refine XO.as rfl rfl ?_
  refine XO.nk [(4, _)] (S1 rfl) ?_
  refine XC.ret ?_
  refine XE.ret1 rfl rfl (post_of .h1 rfl ?_)
  exact ⟨by rw [FF.isE_k i0], rfl⟩
set_option maxRecDepth 10000 in
set_option maxHeartbeats 1000000 in
theorem t_Find (b o : Nat) (s : FC) (hI : s.toFF.Sh) (n : Int) (x : ByteArray) : Spec Tryz.prog 38 [ptr b o 0, .int .i64 n, .string x]
    [.cells b o 321 (encF s), .fam fam40 (s.rowsN 9), .fam fam40 (s.rowsK 3)]
    (fun v H1 => v = .tuple #[.int .i64 (s.findV n x), errv 76 (s.findE n x)] ∧ H1 = [.cells b o 321 (encF s), .fam fam40 (FC.rowsN 9 s), .fam fam40 (FC.rowsK 3 s)]) := by
 refine Spec.intro Tryz.func38 rfl rfl ?_
 intro W
 refine XC.sr ?_
 refine XO.as rfl rfl ?_
 refine XO.as rfl rfl ?_
 refine XO.nk [(0, _), (1, _), (2, _)] (S3 rfl rfl rfl) ?_
 refine XC.sr ?_
 refine XO.mv rfl rfl ?_
 refine XO.mv rfl rfl ?_
 refine XO.call rfl (t_dir _ _ _ _) .h1 cl_79 rfl ?_
 rintro _ _ ⟨rfl, rfl⟩
 refine XO.as rfl rfl ?_
 refine XO.nk [(0, _), (1, _), (2, _), (8, _)] (S4 rfl rfl rfl rfl) ?_
 refine XC.seq ?_
 refine XC.sr ?_
 refine XO.mv rfl rfl ?_
 refine XO.v (V.errNil rfl Tryz.underlying37 rfl) rfl ?_
 refine XO.nk [(0, _), (1, _), (2, _), (8, _), (15, _)] (S5 rfl rfl rfl rfl rfl) ?_
 refine XC.condP rfl (fun h1 => ?_) (fun h1 => ?_)
 ·
  have i0 : s.isE n 2 ≠ 0 := by assumption
  refine XC.sr ?_
  refine XO.mv rfl rfl ?_
  refine XO.as rfl rfl ?_
  refine XO.as rfl rfl ?_
  refine XO.nk [(6, _), (7, _)] (S2 rfl rfl) ?_
  refine XC.ret ?_
  refine XE.thenRet ?_
  refine XE.ret2 rfl rfl rfl (post_of .h3 rfl ?_)
  have e : s.findE n x = s.isE n 2 := by unfold FF.findE; rw [if_pos i0]
  exact ⟨by rw [show s.findV n x = 0 from by unfold FF.findV; rw [if_neg (by omega)], e], rfl⟩
 ·
  obtain ⟨i1, i2, i3, i4⟩ := FF.isE_k0 (show s.isE n 2 = 0 by simpa using h1)
  have i0 : s.isE n 2 = 0 := by simpa using h1
  obtain ⟨hr, hk, h8, _⟩ := hI.rise n i1 i2
  have hbs := bsS_eq hr x
  have hbh := bsHit_eq hr x
  have hpl := posn_le (s.names n) x
  refine XC.skip ?_
  refine XE.next ?_
  refine XC.keep [(0, _), (1, _), (2, _)] (S3 rfl rfl rfl) ?_
  refine XC.sr ?_
  refine XO.mv rfl rfl ?_
  refine XO.mv rfl rfl ?_
  refine XO.v (V.nilCheckP rfl) rfl ?_
  refine XO.v (V.fieldAddr rfl fo_72_0) rfl ?_
  refine XO.v (V.indexArr rfl rfl ar_70 (by omega)) rfl ?_
  refine XO.v (V.fieldAddr rfl fo_69_5) rfl ?_
  refine XO.v (V.load rfl (inXM .here) (encF.ld_n_names _ _ (by omega)) sc_28) rfl ?_
  refine XO.mono (fun _ hw3 => XM.openN (s := s) (z := n) (by omega) (.cons (.there .here) .nil) hw3) ?_
  refine XO.mv rfl rfl ?_
  refine XO.call rfl (s_search _ _ _ _ (by omega)) .h1 cl_81 rfl ?_
  rintro _ _ ⟨rfl, rfl⟩
  refine XO.mono (fun _ hw3 => XM.closeN (s := s) s (z := n) (by omega) rfl (fset_same _ rfl).symm (fset_same _ rfl).symm (fset_same _ rfl).symm .h2 hw3) ?_
  refine XO.mv rfl rfl ?_
  refine XO.v (V.extract rfl rfl) rfl ?_
  refine XO.v (V.extract rfl rfl) rfl ?_
  refine XO.as rfl rfl ?_
  refine XO.as rfl rfl ?_
  refine XO.nk [(0, _), (1, _), (9, _), (10, _)] (S4 rfl rfl rfl rfl) ?_
  refine XC.seq ?_
  refine XC.sr ?_
  refine XO.mv rfl rfl ?_
  refine XO.v (V.not rfl) rfl ?_
  refine XO.nk [(0, _), (1, _), (9, _), (30, _)] (S4 rfl rfl rfl rfl) ?_
  refine XC.cond rfl (fun h2 => ?_) (fun h2 => ?_)
  ·
   try simp only [sb] at h2
   have hh : hasn (s.names n) x = false := by rw [← hbh]; simpa using h2
   refine XC.sr ?_
   refine XO.v (V.makeIface rfl Tryz.underlying76 (by simp)) rfl ?_
   refine XO.as rfl rfl ?_
   refine XO.as rfl rfl ?_
   refine XO.nk [(6, _), (7, _)] (S2 rfl rfl) ?_
   refine XC.ret ?_
   refine XE.thenRet ?_
   refine XE.ret2 rfl rfl rfl (post_of (.cons (.there .here) .h2) rfl ?_)
   have e : s.findE n x = 2 := by unfold FF.findE; rw [if_neg (by omega), if_neg (by rw [hh]; simp)]
   exact ⟨by rw [show s.findV n x = 0 from by unfold FF.findV; rw [if_neg (by omega)], e]; rfl, rfl⟩
  ·
   try simp only [sb] at h2
   have hh : hasn (s.names n) x = true := by rw [← hbh]; simpa using h2
   obtain ⟨hp1, hp2⟩ := hasn_iff.1 hh
   refine XC.skip ?_
   refine XE.next ?_
   refine XC.keep [(0, _), (1, _), (9, _)] (S3 rfl rfl rfl) ?_
   refine XC.sr ?_
   refine XO.mv rfl rfl ?_
   refine XO.mv rfl rfl ?_
   refine XO.v (V.nilCheckP rfl) rfl ?_
   refine XO.v (V.fieldAddr rfl fo_72_0) rfl ?_
   refine XO.v (V.indexArr rfl rfl ar_70 (by omega)) rfl ?_
   refine XO.v (V.fieldAddr rfl fo_69_6) rfl ?_
   refine XO.mono (fun _ hw3 => XM.openK (s := s) (z := n) (by omega) (.cons (.t2 .here) .nil) hw3) ?_
   refine XO.v (V.load rfl (inXM (.t3 .here)) (encF.ld_n_kids _ _ (by omega)) sc_29) rfl ?_
   refine XO.mv rfl rfl ?_
   refine XO.openRow .here (by omega) ?_
   intro g hg
   rw [hg]
   refine XO.v (V.indexSl rfl rfl sl_29 (by omega)) rfl ?_
   refine XO.v (V.loadRow rfl (inXM .here) (ints_at (by omega)) sc_3) rfl ?_
   refine XO.as rfl rfl ?_
   refine XO.as rfl rfl ?_
   refine XO.mono (fun _ hw3 => XM.closeK (s := s) s (z := n) (by omega) rfl (fset_same _ rfl).symm (fset_same _ hg).symm (fset_same _ rfl).symm .h2 hw3) ?_
   refine XO.nk [(6, _), (7, _)] (S2 rfl rfl) ?_
   refine XC.ret ?_
   refine XE.ret2 rfl rfl rfl (post_of (.cons (.t2 .here) (.cons (.there .here) .h1)) rfl ?_)
   have e : s.findE n x = 0 := by unfold FF.findE; rw [if_neg (by omega), if_pos hh]
   exact ⟨by rw [show s.findV n x = at0 (s.kids n) (posn (s.names n) x) from by unfold FF.findV; rw [if_pos e], e, hbs]; rfl, rfl⟩
end Go.X
