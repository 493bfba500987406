import Derived.Test.YtmklfkjfgjagaaaGreatXShort
import Derived.Test.YtmklfkjfgjagaaaGreatZNR3
namespace Go.X
open Go Go.Proofs
theorem cl_38 : callable Tryz.prog 38 = true := by kernel_rfl
theorem cl_74 : callable Tryz.prog 74 = true := by kernel_rfl
theorem cl_75 : callable Tryz.prog 75 = true := by kernel_rfl
theorem cl_79 : callable Tryz.prog 79 = true := by kernel_rfl
theorem fo_31_1 : fieldOff Tryz.prog 31 1 = some 1 := by kernel_rfl
set_option maxRecDepth 10000 in
set_option maxHeartbeats 2000000 in
theorem r_Make (b o : Nat) (s : FC) (hI : s.toFF.Sh) (n : Int) (x : ByteArray) (k : Int) (hx : x.size ≤ 9223372036854775807) : Spec Tryz.prog 27 [ptr b o 0, .int .i64 n, .string x, .int .i64 k]
    [.cells b o 321 (encM s), .fam fam40 (s.rowsN 9), .fam fam40 (s.rowsK 3)]
    (fun v H1 => v = .tuple #[.int .i64 (s.makeV n x k), .int .i64 (s.makeE n x k)] ∧ ∃ t : FC, t.toFF = s.make n x k ∧ t.rP = s.rP ∧ t.rC = s.rC ∧ H1 = [.cells b o 321 (encM t), .fam fam40 (FC.rowsN 9 t), .fam fam40 (FC.rowsK 3 t)]) := by
 refine Spec.intro Tryz.func27 rfl rfl ?_
 intro W
 refine XC.sr ?_
 refine XO.as rfl rfl ?_
 refine XO.as rfl rfl ?_
 refine XO.nk [(0, _), (1, _), (2, _), (3, _)] (S4 rfl rfl rfl rfl) ?_
 refine XC.seq ?_
 refine XC.sr ?_
 refine XO.mv rfl rfl ?_
 refine XO.v (V.cmp rfl rfl rfl) rfl ?_
 refine XO.mv rfl rfl ?_
 refine XO.splitP (d := 15) rfl (fun h1 => ?_) (fun h1 => ?_)
 ·
  refine XO.guardRun rfl rfl rfl ?_
  refine XO.mv rfl rfl ?_
  refine XO.guardRun rfl rfl rfl ?_
  refine XO.v (V.cmp rfl rfl rfl) rfl ?_
  refine XO.v (V.pick rfl rfl rfl rfl) rfl ?_
  refine XO.nk [(0, _), (1, _), (2, _), (3, _), (18, _)] (S5 rfl rfl rfl rfl rfl) ?_
  refine XC.condP rfl (fun h2 => ?_) (fun h2 => ?_)
  ·
   refine XC.sr ?_
   refine XO.as rfl rfl ?_
   refine XO.as rfl rfl ?_
   refine XO.nk [(8, _), (9, _)] (S2 rfl rfl) ?_
   refine XC.ret ?_
   refine XE.thenRet ?_
   refine XE.ret2 rfl rfl rfl (post_of .h3 rfl ?_)
   have e : s.makeE n x k = 1 := by unfold FF.makeE; rw [if_pos (by omega)]
   exact ⟨by rw [show s.makeV n x k = 0 from by unfold FF.makeV; rw [if_neg (by omega)], e], s, by unfold FF.make; rw [if_neg (by omega)], rfl, rfl, rfl⟩
  ·
   refine XC.skip ?_
   refine XE.next ?_
   refine XC.keep [(0, _), (1, _), (2, _), (3, _)] (S4 rfl rfl rfl rfl) ?_
   refine XC.seq ?_
   refine XC.sr ?_
   refine XO.mv rfl rfl ?_
   refine XO.mv rfl rfl ?_
   refine XO.mv rfl rfl ?_
   refine XO.call rfl (r_Room _ _ _ hI _ _ (by assumption)) .h3 cl_74 rfl ?_
   rintro _ _ ⟨rfl, rfl⟩
   refine XO.as rfl rfl ?_
   refine XO.nk [(0, _), (1, _), (2, _), (3, _), (10, _)] (S5 rfl rfl rfl rfl rfl) ?_
   refine XC.sr ?_
   refine XO.mv rfl rfl ?_
   refine XO.v (V.cmp rfl rfl rfl) rfl ?_
   refine XO.nk [(0, _), (1, _), (2, _), (3, _), (10, _), (24, _)] (S6 rfl rfl rfl rfl rfl rfl) ?_
   refine XC.condP rfl (fun h3 => ?_) (fun h3 => ?_)
   ·
    refine XC.sr ?_
    refine XO.mv rfl rfl ?_
    refine XO.as rfl rfl ?_
    refine XO.as rfl rfl ?_
    refine XO.nk [(8, _), (9, _)] (S2 rfl rfl) ?_
    refine XC.ret ?_
    refine XE.thenRet ?_
    refine XE.ret2 rfl rfl rfl (post_of .h3 rfl ?_)
    have e : s.makeE n x k = s.roomE n x := by unfold FF.makeE; rw [if_neg (by omega), if_pos (by omega)]
    exact ⟨by rw [show s.makeV n x k = 0 from by unfold FF.makeV; rw [if_neg (by omega)], e], s, by unfold FF.make; rw [if_neg (by omega)], rfl, rfl, rfl⟩
   ·
    have hrn := FF.roomE_nn s.toFF n x
    have m0 : s.roomE n x = 0 := by omega
    obtain ⟨m1, m2, m3, m4⟩ := FF.roomE_0 m0
    obtain ⟨i1, i2, i3, i4⟩ := FF.isE_k0 m1
    have i5 := i4 (by omega)
    refine XC.skip ?_
    refine XE.next ?_
    refine XC.keep [(0, _), (1, _), (2, _), (3, _)] (S4 rfl rfl rfl rfl) ?_
    refine XC.sr ?_
    refine XO.mv rfl rfl ?_
    refine XO.mv rfl rfl ?_
    refine XO.mv rfl rfl ?_
    refine XO.mv rfl rfl ?_
    refine XO.v (V.nilCheckP rfl) rfl ?_
    refine XO.v (V.fieldAddr rfl fo_34_0) rfl ?_
    refine XO.v (V.indexArr rfl rfl ar_32 (by omega)) rfl ?_
    refine XO.v (V.fieldAddr rfl fo_31_1) rfl ?_
    refine XO.v (V.load rfl (inXM .here) (encM.ld_N_Tree _ _ (by omega)) sc_3) rfl ?_
    refine XO.mv rfl rfl ?_
    refine XO.v (V.build (vs := #[(0, .int .i64 k), (1, .int .i64 (s.tree n)), (2, .int .i64 1), (4, .int .i64 n)]) rfl (v := .agg (nodeMA k (s.tree n) 1 n)) (fun _ => by kernel_rfl)) rfl ?_
    refine XO.call rfl (r_fresh _ _ _ _ _ _ _) .h3 cl_26 rfl ?_
    rintro _ _ (⟨h4, rfl, rfl⟩ | ⟨h4, rfl, rfl⟩)
    ·
     refine XO.mv rfl rfl ?_
     refine XO.v (V.extract rfl rfl) rfl ?_
     refine XO.v (V.extract rfl rfl) rfl ?_
     refine XO.as rfl rfl ?_
     refine XO.as rfl rfl ?_
     refine XO.nk [(0, _), (1, _), (2, _), (11, _), (12, _)] (S5 rfl rfl rfl rfl rfl) ?_
     refine XC.seq ?_
     refine XC.sr ?_
     refine XO.mv rfl rfl ?_
     refine XO.v (V.cmp rfl rfl rfl) rfl ?_
     refine XO.nk [(0, _), (1, _), (2, _), (11, _), (12, _), (42, _)] (S6 rfl rfl rfl rfl rfl rfl) ?_
     refine XC.condTP rfl (by omega) ?_
     refine XC.sr ?_
     refine XO.mv rfl rfl ?_
     refine XO.as rfl rfl ?_
     refine XO.as rfl rfl ?_
     refine XO.nk [(8, _), (9, _)] (S2 rfl rfl) ?_
     refine XC.ret ?_
     refine XE.thenRet ?_
     refine XE.ret2 rfl rfl rfl (post_of .h3 rfl ?_)
     have e : s.makeE n x k = 4 := by unfold FF.makeE; rw [if_neg (by omega), if_neg (by omega), if_pos (by assumption)]
     exact ⟨by rw [show s.makeV n x k = 0 from by unfold FF.makeV; rw [if_neg (by omega)], e], s, by unfold FF.make; rw [if_neg (by omega)], rfl, rfl, rfl⟩
    ·
     refine XO.mv rfl rfl ?_
     refine XO.v (V.extract rfl rfl) rfl ?_
     refine XO.v (V.extract rfl rfl) rfl ?_
     refine XO.as rfl rfl ?_
     refine XO.as rfl rfl ?_
     refine XO.nk [(0, _), (1, _), (2, _), (11, _), (12, _)] (S5 rfl rfl rfl rfl rfl) ?_
     refine XC.seq ?_
     refine XC.sr ?_
     refine XO.mv rfl rfl ?_
     refine XO.v (V.cmp rfl rfl rfl) rfl ?_
     refine XO.nk [(0, _), (1, _), (2, _), (11, _), (12, _), (42, _)] (S6 rfl rfl rfl rfl rfl rfl) ?_
     refine XC.condFP rfl (by omega) ?_
     refine XC.skip ?_
     refine XE.next ?_
     refine XC.keep [(0, _), (1, _), (2, _), (11, _)] (S4 rfl rfl rfl rfl) ?_
     refine XC.sr ?_
     have f := FF.free_ok (show ¬ s.free < 0 by assumption)
     have hI2 : (s.setC s.free k (s.tree n) 1 n).toFF.Sh := hI.setN _ _ _ _ _ (by omega)
     have hne : ¬ n = s.free := fun e => by rw [← e] at f; omega
     have m5 : hasn ((s.setC s.free k (s.tree n) 1 n).names n) x = false := by rw [show (s.setC s.free k (s.tree n) 1 n).names n = s.names n from fset_ne _ _ hne]; exact m3
     refine XO.mv rfl rfl ?_
     refine XO.mv rfl rfl ?_
     refine XO.mv rfl rfl ?_
     refine XO.mv rfl rfl ?_
     refine XO.call rfl (r_put _ _ _ hI2 _ _ _ (by omega) m5) .h3 cl_75 rfl ?_
     rintro _ _ ⟨rfl, t, ht, hp, hc, rfl⟩
     refine XO.nk [(11, _)] (S1 rfl) ?_
     refine XC.sr ?_
     refine XO.mv rfl rfl ?_
     refine XO.as rfl rfl ?_
     refine XO.as rfl rfl ?_
     refine XO.nk [(8, _), (9, _)] (S2 rfl rfl) ?_
     refine XC.ret ?_
     refine XE.ret2 rfl rfl rfl (post_of .h3 rfl ?_)
     have e : s.makeE n x k = 0 := by unfold FF.makeE; rw [if_neg (by omega), if_neg (by omega), if_neg (by assumption)]
     exact ⟨by rw [show s.makeV n x k = s.free from by unfold FF.makeV; rw [if_pos e], e], t, by rw [ht]; unfold FF.make; rw [if_pos e]; rfl, hp, hc, rfl⟩
 ·
  refine XO.guardSkip rfl rfl rfl rfl rfl ?_
  refine XO.guardSkip rfl rfl rfl rfl rfl ?_
  refine XO.v (V.pick rfl rfl rfl rfl) rfl ?_
  refine XO.nk [(0, _), (1, _), (2, _), (3, _), (18, _)] (S5 rfl rfl rfl rfl rfl) ?_
  refine XC.condF rfl rfl ?_
  refine XC.skip ?_
  refine XE.next ?_
  refine XC.keep [(0, _), (1, _), (2, _), (3, _)] (S4 rfl rfl rfl rfl) ?_
  refine XC.seq ?_
  refine XC.sr ?_
  refine XO.mv rfl rfl ?_
  refine XO.mv rfl rfl ?_
  refine XO.mv rfl rfl ?_
  refine XO.call rfl (r_Room _ _ _ hI _ _ (by assumption)) .h3 cl_74 rfl ?_
  rintro _ _ ⟨rfl, rfl⟩
  refine XO.as rfl rfl ?_
  refine XO.nk [(0, _), (1, _), (2, _), (3, _), (10, _)] (S5 rfl rfl rfl rfl rfl) ?_
  refine XC.sr ?_
  refine XO.mv rfl rfl ?_
  refine XO.v (V.cmp rfl rfl rfl) rfl ?_
  refine XO.nk [(0, _), (1, _), (2, _), (3, _), (10, _), (24, _)] (S6 rfl rfl rfl rfl rfl rfl) ?_
  refine XC.condP rfl (fun h5 => ?_) (fun h5 => ?_)
  ·
   refine XC.sr ?_
   refine XO.mv rfl rfl ?_
   refine XO.as rfl rfl ?_
   refine XO.as rfl rfl ?_
   refine XO.nk [(8, _), (9, _)] (S2 rfl rfl) ?_
   refine XC.ret ?_
   refine XE.thenRet ?_
   refine XE.ret2 rfl rfl rfl (post_of .h3 rfl ?_)
   have e : s.makeE n x k = s.roomE n x := by unfold FF.makeE; rw [if_neg (by omega), if_pos (by omega)]
   exact ⟨by rw [show s.makeV n x k = 0 from by unfold FF.makeV; rw [if_neg (by omega)], e], s, by unfold FF.make; rw [if_neg (by omega)], rfl, rfl, rfl⟩
  ·
   have hrn := FF.roomE_nn s.toFF n x
   have m0 : s.roomE n x = 0 := by omega
   obtain ⟨m1, m2, m3, m4⟩ := FF.roomE_0 m0
   obtain ⟨i1, i2, i3, i4⟩ := FF.isE_k0 m1
   have i5 := i4 (by omega)
   refine XC.skip ?_
   refine XE.next ?_
   refine XC.keep [(0, _), (1, _), (2, _), (3, _)] (S4 rfl rfl rfl rfl) ?_
   refine XC.sr ?_
   refine XO.mv rfl rfl ?_
   refine XO.mv rfl rfl ?_
   refine XO.mv rfl rfl ?_
   refine XO.mv rfl rfl ?_
   refine XO.v (V.nilCheckP rfl) rfl ?_
   refine XO.v (V.fieldAddr rfl fo_34_0) rfl ?_
   refine XO.v (V.indexArr rfl rfl ar_32 (by omega)) rfl ?_
   refine XO.v (V.fieldAddr rfl fo_31_1) rfl ?_
   refine XO.v (V.load rfl (inXM .here) (encM.ld_N_Tree _ _ (by omega)) sc_3) rfl ?_
   refine XO.mv rfl rfl ?_
   refine XO.v (V.build (vs := #[(0, .int .i64 k), (1, .int .i64 (s.tree n)), (2, .int .i64 1), (4, .int .i64 n)]) rfl (v := .agg (nodeMA k (s.tree n) 1 n)) (fun _ => by kernel_rfl)) rfl ?_
   refine XO.call rfl (r_fresh _ _ _ _ _ _ _) .h3 cl_26 rfl ?_
   rintro _ _ (⟨h6, rfl, rfl⟩ | ⟨h6, rfl, rfl⟩)
   ·
    refine XO.mv rfl rfl ?_
    refine XO.v (V.extract rfl rfl) rfl ?_
    refine XO.v (V.extract rfl rfl) rfl ?_
    refine XO.as rfl rfl ?_
    refine XO.as rfl rfl ?_
    refine XO.nk [(0, _), (1, _), (2, _), (11, _), (12, _)] (S5 rfl rfl rfl rfl rfl) ?_
    refine XC.seq ?_
    refine XC.sr ?_
    refine XO.mv rfl rfl ?_
    refine XO.v (V.cmp rfl rfl rfl) rfl ?_
    refine XO.nk [(0, _), (1, _), (2, _), (11, _), (12, _), (42, _)] (S6 rfl rfl rfl rfl rfl rfl) ?_
    refine XC.condTP rfl (by omega) ?_
    refine XC.sr ?_
    refine XO.mv rfl rfl ?_
    refine XO.as rfl rfl ?_
    refine XO.as rfl rfl ?_
    refine XO.nk [(8, _), (9, _)] (S2 rfl rfl) ?_
    refine XC.ret ?_
    refine XE.thenRet ?_
    refine XE.ret2 rfl rfl rfl (post_of .h3 rfl ?_)
    have e : s.makeE n x k = 4 := by unfold FF.makeE; rw [if_neg (by omega), if_neg (by omega), if_pos (by assumption)]
    exact ⟨by rw [show s.makeV n x k = 0 from by unfold FF.makeV; rw [if_neg (by omega)], e], s, by unfold FF.make; rw [if_neg (by omega)], rfl, rfl, rfl⟩
   ·
    refine XO.mv rfl rfl ?_
    refine XO.v (V.extract rfl rfl) rfl ?_
    refine XO.v (V.extract rfl rfl) rfl ?_
    refine XO.as rfl rfl ?_
    refine XO.as rfl rfl ?_
    refine XO.nk [(0, _), (1, _), (2, _), (11, _), (12, _)] (S5 rfl rfl rfl rfl rfl) ?_
    refine XC.seq ?_
    refine XC.sr ?_
    refine XO.mv rfl rfl ?_
    refine XO.v (V.cmp rfl rfl rfl) rfl ?_
    refine XO.nk [(0, _), (1, _), (2, _), (11, _), (12, _), (42, _)] (S6 rfl rfl rfl rfl rfl rfl) ?_
    refine XC.condFP rfl (by omega) ?_
    refine XC.skip ?_
    refine XE.next ?_
    refine XC.keep [(0, _), (1, _), (2, _), (11, _)] (S4 rfl rfl rfl rfl) ?_
    refine XC.sr ?_
    have f := FF.free_ok (show ¬ s.free < 0 by assumption)
    have hI2 : (s.setC s.free k (s.tree n) 1 n).toFF.Sh := hI.setN _ _ _ _ _ (by omega)
    have hne : ¬ n = s.free := fun e => by rw [← e] at f; omega
    have m5 : hasn ((s.setC s.free k (s.tree n) 1 n).names n) x = false := by rw [show (s.setC s.free k (s.tree n) 1 n).names n = s.names n from fset_ne _ _ hne]; exact m3
    refine XO.mv rfl rfl ?_
    refine XO.mv rfl rfl ?_
    refine XO.mv rfl rfl ?_
    refine XO.mv rfl rfl ?_
    refine XO.call rfl (r_put _ _ _ hI2 _ _ _ (by omega) m5) .h3 cl_75 rfl ?_
    rintro _ _ ⟨rfl, t, ht, hp, hc, rfl⟩
    refine XO.nk [(11, _)] (S1 rfl) ?_
    refine XC.sr ?_
    refine XO.mv rfl rfl ?_
    refine XO.as rfl rfl ?_
    refine XO.as rfl rfl ?_
    refine XO.nk [(8, _), (9, _)] (S2 rfl rfl) ?_
    refine XC.ret ?_
    refine XE.ret2 rfl rfl rfl (post_of .h3 rfl ?_)
    have e : s.makeE n x k = 0 := by unfold FF.makeE; rw [if_neg (by omega), if_neg (by omega), if_neg (by assumption)]
    exact ⟨by rw [show s.makeV n x k = s.free from by unfold FF.makeV; rw [if_pos e], e], t, by rw [ht]; unfold FF.make; rw [if_pos e]; rfl, hp, hc, rfl⟩
set_option maxRecDepth 10000 in
set_option maxHeartbeats 2000000 in
theorem r_Link (b o : Nat) (s : FC) (hI : s.toFF.Sh) (k n : Int) (x : ByteArray) (hx : x.size ≤ 9223372036854775807) : Spec Tryz.prog 29 [ptr b o 0, .int .i64 k, .int .i64 n, .string x]
    [.cells b o 321 (encM s), .fam fam40 (s.rowsN 9), .fam fam40 (s.rowsK 3)]
    (fun v H1 => v = .int .i64 (s.linkE k n x) ∧ ∃ t : FC, t.toFF = s.link k n x ∧ t.rP = s.rP ∧ t.rC = s.rC ∧ H1 = [.cells b o 321 (encM t), .fam fam40 (FC.rowsN 9 t), .fam fam40 (FC.rowsK 3 t)]) := by
 have hkn := FF.isE_nn s.toFF k 1
 have hrn := FF.roomE_nn s.toFF n x
 refine Spec.intro Tryz.func29 rfl rfl ?_
 intro W
 refine XC.sr ?_
 refine XO.as rfl rfl ?_
 refine XO.nk [(0, _), (1, _), (2, _), (3, _)] (S4 rfl rfl rfl rfl) ?_
 refine XC.seq ?_
 refine XC.sr ?_
 refine XO.mv rfl rfl ?_
 refine XO.mv rfl rfl ?_
 refine XO.call rfl (r_Is _ _ _ _ _) .h1 cl_66 rfl ?_
 rintro _ _ ⟨rfl, rfl⟩
 refine XO.as rfl rfl ?_
 refine XO.nk [(0, _), (1, _), (2, _), (3, _), (9, _)] (S5 rfl rfl rfl rfl rfl) ?_
 refine XC.sr ?_
 refine XO.mv rfl rfl ?_
 refine XO.v (V.cmp rfl rfl rfl) rfl ?_
 refine XO.nk [(0, _), (1, _), (2, _), (3, _), (9, _), (15, _)] (S6 rfl rfl rfl rfl rfl rfl) ?_
 refine XC.condP rfl (fun h1 => ?_) (fun h1 => ?_)
 ·
  refine XC.sr ?_
  refine XO.mv rfl rfl ?_
  refine XO.as rfl rfl ?_
  refine XO.nk [(8, _)] (S1 rfl) ?_
  refine XC.ret ?_
  refine XE.thenRet ?_
  refine XE.ret1 rfl rfl (post_of .h3 rfl ?_)
  have e : s.linkE k n x = s.isE k 1 := by unfold FF.linkE; rw [if_pos (by omega)]
  exact ⟨by rw [e], s, by unfold FF.link; rw [if_neg (by omega)], rfl, rfl, rfl⟩
 ·
  have j0 : s.isE k 1 = 0 := by omega
  obtain ⟨j1, j2, j3, j4⟩ := FF.isE_k0 j0
  refine XC.skip ?_
  refine XE.next ?_
  refine XC.keep [(0, _), (1, _), (2, _), (3, _)] (S4 rfl rfl rfl rfl) ?_
  refine XC.seq ?_
  refine XC.sr ?_
  refine XO.mv rfl rfl ?_
  refine XO.mv rfl rfl ?_
  refine XO.mv rfl rfl ?_
  refine XO.call rfl (r_Room _ _ _ hI _ _ (by assumption)) .h3 cl_74 rfl ?_
  rintro _ _ ⟨rfl, rfl⟩
  refine XO.as rfl rfl ?_
  refine XO.nk [(0, _), (1, _), (2, _), (3, _), (10, _)] (S5 rfl rfl rfl rfl rfl) ?_
  refine XC.sr ?_
  refine XO.mv rfl rfl ?_
  refine XO.v (V.cmp rfl rfl rfl) rfl ?_
  refine XO.nk [(0, _), (1, _), (2, _), (3, _), (10, _), (22, _)] (S6 rfl rfl rfl rfl rfl rfl) ?_
  refine XC.condP rfl (fun h2 => ?_) (fun h2 => ?_)
  ·
   refine XC.sr ?_
   refine XO.mv rfl rfl ?_
   refine XO.as rfl rfl ?_
   refine XO.nk [(8, _)] (S1 rfl) ?_
   refine XC.ret ?_
   refine XE.thenRet ?_
   refine XE.ret1 rfl rfl (post_of .h3 rfl ?_)
   have e : s.linkE k n x = s.roomE n x := by unfold FF.linkE; rw [if_neg (by omega), if_pos (by omega)]
   exact ⟨by rw [e], s, by unfold FF.link; rw [if_neg (by omega)], rfl, rfl, rfl⟩
  ·
   have m0 : s.roomE n x = 0 := by omega
   obtain ⟨m1, m2, m3, m4⟩ := FF.roomE_0 m0
   obtain ⟨i1, i2, i3, i4⟩ := FF.isE_k0 m1
   refine XC.skip ?_
   refine XE.next ?_
   refine XC.keep [(0, _), (1, _), (2, _), (3, _)] (S4 rfl rfl rfl rfl) ?_
   refine XC.seq ?_
   refine XC.seq ?_
   refine XC.regionQ mixed (f := 15) (l := #[false, false, false, false, false, false, false, false, false, false, false, false, false, false, false]) rfl rfl XM.drawn' ?_
   refine XQ.pv (i := 0) (l' := #[tt,ff,ff,ff,ff,ff,ff,ff,ff,ff,ff,ff,ff,ff,ff]) rfl (by kernel_rfl) rfl (V.move rfl) rfl rfl ?_
   refine XQ.pv (i := 1) (l' := #[tt,tt,ff,ff,ff,ff,ff,ff,ff,ff,ff,ff,ff,ff,ff]) rfl (by kernel_rfl) rfl (V.move rfl) rfl rfl ?_
   refine XQ.pv (i := 2) (l' := #[tt,tt,tt,ff,ff,ff,ff,ff,ff,ff,ff,ff,ff,ff,ff]) rfl (by kernel_rfl) rfl (V.nilCheckP rfl) rfl rfl ?_
   refine XQ.pv (i := 3) (l' := #[tt,tt,tt,tt,ff,ff,ff,ff,ff,ff,ff,ff,ff,ff,ff]) rfl (by kernel_rfl) rfl (V.fieldAddr rfl fo_34_0) rfl rfl ?_
   refine XQ.pv (i := 4) (l' := #[tt,tt,tt,tt,tt,ff,ff,ff,ff,ff,ff,ff,ff,ff,ff]) rfl (by kernel_rfl) rfl (V.indexArr rfl rfl ar_32 (by omega)) rfl rfl ?_
   refine XQ.pv (i := 5) (l' := #[tt,tt,tt,tt,tt,tt,ff,ff,ff,ff,ff,ff,ff,ff,ff]) rfl (by kernel_rfl) rfl (V.fieldAddr rfl fo_31_1) rfl rfl ?_
   refine XQ.load (i := 6) (l' := #[tt,tt,tt,tt,tt,tt,tt,ff,ff,ff,ff,ff,ff,ff,ff]) (.cells _ _ _ _) [] rfl (by kernel_rfl) rfl .here (V.load rfl inEnt (encM.ld_N_Tree _ _ (by omega)) sc_3) rfl (by kernel_rfl) rfl ?_
   refine XQ.pv (i := 7) (l' := #[tt,tt,tt,tt,tt,tt,tt,tt,ff,ff,ff,ff,ff,ff,ff]) rfl (by kernel_rfl) rfl (V.move rfl) rfl rfl ?_
   refine XQ.pv (i := 8) (l' := #[tt,tt,tt,tt,tt,tt,tt,tt,tt,ff,ff,ff,ff,ff,ff]) rfl (by kernel_rfl) rfl (V.move rfl) rfl rfl ?_
   refine XQ.pv (i := 9) (l' := #[tt,tt,tt,tt,tt,tt,tt,tt,tt,tt,ff,ff,ff,ff,ff]) rfl (by kernel_rfl) rfl (V.nilCheckP rfl) rfl rfl ?_
   refine XQ.pv (i := 10) (l' := #[tt,tt,tt,tt,tt,tt,tt,tt,tt,tt,tt,ff,ff,ff,ff]) rfl (by kernel_rfl) rfl (V.fieldAddr rfl fo_34_0) rfl rfl ?_
   refine XQ.pv (i := 11) (l' := #[tt,tt,tt,tt,tt,tt,tt,tt,tt,tt,tt,tt,ff,ff,ff]) rfl (by kernel_rfl) rfl (V.indexArr rfl rfl ar_32 (by omega)) rfl rfl ?_
   refine XQ.pv (i := 12) (l' := #[tt,tt,tt,tt,tt,tt,tt,tt,tt,tt,tt,tt,tt,ff,ff]) rfl (by kernel_rfl) rfl (V.fieldAddr rfl fo_31_1) rfl rfl ?_
   refine XQ.load (i := 13) (l' := #[tt,tt,tt,tt,tt,tt,tt,tt,tt,tt,tt,tt,tt,tt,ff]) (.cells _ _ _ _) [] rfl (by kernel_rfl) rfl .here (V.load rfl inEnt (encM.ld_N_Tree _ _ (by omega)) sc_3) rfl (by kernel_rfl) rfl ?_
   refine XQ.pv (i := 14) (l' := #[tt,tt,tt,tt,tt,tt,tt,tt,tt,tt,tt,tt,tt,tt,tt]) rfl (by kernel_rfl) rfl (V.cmp rfl rfl rfl) rfl rfl ?_
   refine XQ.done (by kernel_rfl) ?_
   refine XE.next ?_
   refine XC.keep [(0, _), (1, _), (2, _), (3, _), (38, _)] (S5 rfl rfl rfl rfl rfl) ?_
   refine XC.condP rfl (fun h3 => ?_) (fun h3 => ?_)
   ·
    refine XC.sr ?_
    refine XO.as rfl rfl ?_
    refine XO.nk [(8, _)] (S1 rfl) ?_
    refine XC.ret ?_
    refine XE.thenRet ?_
    refine XE.ret1 rfl rfl (post_of .h3 rfl ?_)
    have e : s.linkE k n x = 11 := by unfold FF.linkE; rw [if_neg (by omega), if_neg (by omega), if_pos (by assumption)]
    exact ⟨by rw [e], s, by unfold FF.link; rw [if_neg (by omega)], rfl, rfl, rfl⟩
   ·
    refine XC.skip ?_
    refine XE.next ?_
    refine XC.keep [(0, _), (1, _), (2, _), (3, _)] (S4 rfl rfl rfl rfl) ?_
    refine XC.sr ?_
    refine XO.mv rfl rfl ?_
    refine XO.mv rfl rfl ?_
    refine XO.mv rfl rfl ?_
    refine XO.mv rfl rfl ?_
    refine XO.call rfl (r_put _ _ _ hI _ _ _ (by omega) (by assumption)) .h3 cl_75 rfl ?_
    rintro _ _ ⟨rfl, t, ht, hp, hc, rfl⟩
    refine XO.nk [(0, _), (1, _)] (S2 rfl rfl) ?_
    refine XC.seq ?_
    refine XC.regionQ mixed (f := 13) (l := #[false, false, false, false, false, false, false, false, false, false, false, false, false]) rfl rfl XM.drawn' ?_
    have hln : t.links k = s.links k := congrFun (congrArg FF.links ht) k
    have hlb := hI.num k (by omega) (by omega)
    refine XQ.pv (i := 0) (l' := #[tt,ff,ff,ff,ff,ff,ff,ff,ff,ff,ff,ff,ff]) rfl (by kernel_rfl) rfl (V.move rfl) rfl rfl ?_
    refine XQ.pv (i := 1) (l' := #[tt,tt,ff,ff,ff,ff,ff,ff,ff,ff,ff,ff,ff]) rfl (by kernel_rfl) rfl (V.move rfl) rfl rfl ?_
    refine XQ.pv (i := 2) (l' := #[tt,tt,tt,ff,ff,ff,ff,ff,ff,ff,ff,ff,ff]) rfl (by kernel_rfl) rfl (V.nilCheckP rfl) rfl rfl ?_
    refine XQ.pv (i := 3) (l' := #[tt,tt,tt,tt,ff,ff,ff,ff,ff,ff,ff,ff,ff]) rfl (by kernel_rfl) rfl (V.fieldAddr rfl fo_34_0) rfl rfl ?_
    refine XQ.pv (i := 4) (l' := #[tt,tt,tt,tt,tt,ff,ff,ff,ff,ff,ff,ff,ff]) rfl (by kernel_rfl) rfl (V.indexArr rfl rfl ar_32 (by omega)) rfl rfl ?_
    refine XQ.pv (i := 5) (l' := #[tt,tt,tt,tt,tt,tt,ff,ff,ff,ff,ff,ff,ff]) rfl (by kernel_rfl) rfl (V.fieldAddr rfl fo_31_2) rfl rfl ?_
    refine XQ.load (i := 6) (l' := #[tt,tt,tt,tt,tt,tt,tt,ff,ff,ff,ff,ff,ff]) (.cells _ _ _ _) [12] rfl (by kernel_rfl) rfl .here (V.load rfl inEnt (encM.ld_N_Links _ _ (by omega)) sc_3) rfl (by kernel_rfl) rfl ?_
    refine XQ.pv (i := 7) (l' := #[tt,tt,tt,tt,tt,tt,tt,tt,ff,ff,ff,ff,ff]) rfl (by kernel_rfl) rfl (V.add rfl rfl _ (IntWalk.i64_in _ (by omega))) rfl rfl ?_
    refine XQ.pv (i := 8) (l' := #[tt,tt,tt,tt,tt,tt,tt,tt,tt,ff,ff,ff,ff]) rfl (by kernel_rfl) rfl (V.nilCheckP rfl) rfl rfl ?_
    refine XQ.pv (i := 9) (l' := #[tt,tt,tt,tt,tt,tt,tt,tt,tt,tt,ff,ff,ff]) rfl (by kernel_rfl) rfl (V.fieldAddr rfl fo_34_0) rfl rfl ?_
    refine XQ.pv (i := 10) (l' := #[tt,tt,tt,tt,tt,tt,tt,tt,tt,tt,tt,ff,ff]) rfl (by kernel_rfl) rfl (V.indexArr rfl rfl ar_32 (by omega)) rfl rfl ?_
    refine XQ.pv (i := 11) (l' := #[tt,tt,tt,tt,tt,tt,tt,tt,tt,tt,tt,tt,ff]) rfl (by kernel_rfl) rfl (V.fieldAddr rfl fo_31_2) rfl rfl ?_
    refine XQ.store (i := 12) (l' := #[tt,tt,tt,tt,tt,tt,tt,tt,tt,tt,tt,tt,tt]) rfl (by kernel_rfl) rfl rfl rfl .here (encM.st_N_Links _ _ (by omega) _) rfl sz_3_1 (fun _ hw' => ⟨fun hs => (hs 12 (by first | (simp; done) | (simp; rfl)) rfl).elim, trivial⟩) ?_
    refine XQ.done (by kernel_rfl) ?_
    refine XE.next ?_
    refine XC.keep [] (Sub.nil _) ?_
    refine XC.sr ?_
    refine XO.as rfl rfl ?_
    refine XO.nk [(8, _)] (S1 rfl) ?_
    refine XC.ret ?_
    refine XE.ret1 rfl rfl (post_of .h3 rfl ?_)
    have e : s.linkE k n x = 0 := by unfold FF.linkE; rw [if_neg (by omega), if_neg (by omega), if_neg (by omega)]
    exact ⟨by rw [e], ({ t with links := fset t.links k (t.links k + 1) } : FC), by rw [links_of ht, hln]; unfold FF.link; rw [if_pos e]; rfl, hp, hc, rfl⟩
set_option maxRecDepth 10000 in
set_option maxHeartbeats 2000000 in
theorem r_Remove (b o : Nat) (s : FC) (hI : s.toFF.Sh) (n : Int) (x : ByteArray) (hL : s.findE n x = 0 → 1 ≤ s.links (s.findV n x)) : Spec Tryz.prog 31 [ptr b o 0, .int .i64 n, .string x]
    [.cells b o 321 (encM s), .fam fam40 (s.rowsN 9), .fam fam40 (s.rowsK 3)]
    (fun v H1 => v = .int .i64 (s.removeE n x) ∧ ∃ t : FC, t.toFF = s.remove n x ∧ t.rP = s.rP ∧ t.rC = s.rC ∧ H1 = [.cells b o 321 (encM t), .fam fam40 (FC.rowsN 9 t), .fam fam40 (FC.rowsK 3 t)]) := by
 refine Spec.intro Tryz.func31 rfl rfl ?_
 intro W
 refine XC.sr ?_
 refine XO.as rfl rfl ?_
 refine XO.nk [(0, _), (1, _), (2, _)] (S3 rfl rfl rfl) ?_
 refine XC.sr ?_
 refine XO.mv rfl rfl ?_
 refine XO.mv rfl rfl ?_
 refine XO.mv rfl rfl ?_
 refine XO.call rfl (r_Find _ _ _ hI _ _) .h3 cl_38 rfl ?_
 rintro _ _ ⟨rfl, rfl⟩
 refine XO.mv rfl rfl ?_
 refine XO.v (V.extract rfl rfl) rfl ?_
 refine XO.v (V.extract rfl rfl) rfl ?_
 refine XO.as rfl rfl ?_
 refine XO.as rfl rfl ?_
 refine XO.nk [(0, _), (1, _), (2, _), (7, _), (8, _)] (S5 rfl rfl rfl rfl rfl) ?_
 refine XC.seq ?_
 refine XC.sr ?_
 refine XO.mv rfl rfl ?_
 refine XO.v (V.cmp rfl rfl rfl) rfl ?_
 refine XO.nk [(0, _), (1, _), (2, _), (7, _), (8, _), (17, _)] (S6 rfl rfl rfl rfl rfl rfl) ?_
 refine XC.condP rfl (fun h1 => ?_) (fun h1 => ?_)
 ·
  refine XC.sr ?_
  refine XO.mv rfl rfl ?_
  refine XO.as rfl rfl ?_
  refine XO.nk [(6, _)] (S1 rfl) ?_
  refine XC.ret ?_
  refine XE.thenRet ?_
  refine XE.ret1 rfl rfl (post_of .h3 rfl ?_)
  have e : s.removeE n x = s.findE n x := by unfold FF.removeE; rw [if_pos (by omega)]
  exact ⟨by rw [e], s, by unfold FF.remove; rw [if_neg (by omega)], rfl, rfl, rfl⟩
 ·
  have hfn := FF.findE_nn s.toFF n x
  have f0 : s.findE n x = 0 := by omega
  obtain ⟨i1, i2, i3, k1, k2, hh⟩ := hI.kid f0
  have hnb := hI.num (s.findV n x) (by omega) (by omega)
  obtain ⟨_, hkr, hk8, _⟩ := hI.rise (s.findV n x) (by omega) (by omega)
  have hL1 := hL f0
  refine XC.skip ?_
  refine XE.next ?_
  refine XC.keep [(0, _), (1, _), (2, _), (7, _)] (S4 rfl rfl rfl rfl) ?_
  refine XC.seq ?_
  refine XC.sr ?_
  refine XO.mv rfl rfl ?_
  refine XO.mv rfl rfl ?_
  refine XO.v (V.nilCheckP rfl) rfl ?_
  refine XO.v (V.fieldAddr rfl fo_34_0) rfl ?_
  refine XO.v (V.indexArr rfl rfl ar_32 (by omega)) rfl ?_
  refine XO.v (V.fieldAddr rfl fo_31_0) rfl ?_
  refine XO.v (V.load rfl (inXM .here) (encM.ld_N_Kind _ _ (by omega)) sc_3) rfl ?_
  refine XO.v (V.cmp rfl rfl rfl) rfl ?_
  refine XO.mv rfl rfl ?_
  refine XO.splitP (d := 27) rfl (fun h2 => ?_) (fun h2 => ?_)
  ·
   refine XO.guardRun rfl rfl rfl ?_
   refine XO.mv rfl rfl ?_
   refine XO.guardRun rfl rfl rfl ?_
   refine XO.mv rfl rfl ?_
   refine XO.guardRun rfl rfl rfl ?_
   refine XO.v (V.nilCheckP rfl) rfl ?_
   refine XO.guardRun rfl rfl rfl ?_
   refine XO.v (V.fieldAddr rfl fo_34_0) rfl ?_
   refine XO.guardRun rfl rfl rfl ?_
   refine XO.v (V.indexArr rfl rfl ar_32 (by omega)) rfl ?_
   refine XO.guardRun rfl rfl rfl ?_
   refine XO.v (V.fieldAddr rfl fo_31_6) rfl ?_
   refine XO.guardRun rfl rfl rfl ?_
   refine XO.v (V.load rfl (inXM .here) (encM.ld_N_Names _ _ (by omega)) sc_28) rfl ?_
   refine XO.guardRun rfl rfl rfl ?_
   refine XO.v (V.lenSl rfl Tryz.underlying28) rfl ?_
   refine XO.guardRun rfl rfl rfl ?_
   refine XO.v (V.cmp rfl rfl rfl) rfl ?_
   refine XO.guardRun rfl rfl rfl ?_
   refine XO.mv rfl rfl ?_
   refine XO.splitP (d := 37) rfl (fun h3 => ?_) (fun h3 => ?_)
   ·
    refine XO.guardSkip rfl rfl rfl rfl rfl ?_
    refine XO.guardSkip rfl rfl rfl rfl rfl ?_
    refine XO.guardSkip rfl rfl rfl rfl rfl ?_
    refine XO.guardSkip rfl rfl rfl rfl rfl ?_
    refine XO.guardSkip rfl rfl rfl rfl rfl ?_
    refine XO.guardSkip rfl rfl rfl rfl rfl ?_
    refine XO.guardSkip rfl rfl rfl rfl rfl ?_
    refine XO.guardSkip rfl rfl rfl rfl rfl ?_
    refine XO.guardRun rfl rfl rfl ?_
    refine XO.v (V.pick rfl rfl rfl rfl) rfl ?_
    refine XO.v (V.pick rfl rfl rfl rfl) rfl ?_
    refine XO.nk [(0, _), (1, _), (2, _), (7, _), (47, _)] (S5 rfl rfl rfl rfl rfl) ?_
    refine XC.condT rfl rfl ?_
    refine XC.sr ?_
    refine XO.as rfl rfl ?_
    refine XO.nk [(6, _)] (S1 rfl) ?_
    refine XC.ret ?_
    refine XE.thenRet ?_
    refine XE.ret1 rfl rfl (post_of .h3 rfl ?_)
    have e : s.removeE n x = 5 := by unfold FF.removeE; rw [if_neg (by omega), if_pos (by unfold FF.busy; exact ⟨by assumption, by omega⟩)]
    exact ⟨by rw [e], s, by unfold FF.remove; rw [if_neg (by omega)], rfl, rfl, rfl⟩
   ·
    refine XO.guardRun rfl rfl rfl ?_
    refine XO.mv rfl rfl ?_
    refine XO.guardRun rfl rfl rfl ?_
    refine XO.mv rfl rfl ?_
    refine XO.guardRun rfl rfl rfl ?_
    refine XO.v (V.nilCheckP rfl) rfl ?_
    refine XO.guardRun rfl rfl rfl ?_
    refine XO.v (V.fieldAddr rfl fo_34_0) rfl ?_
    refine XO.guardRun rfl rfl rfl ?_
    refine XO.v (V.indexArr rfl rfl ar_32 (by omega)) rfl ?_
    refine XO.guardRun rfl rfl rfl ?_
    refine XO.v (V.fieldAddr rfl fo_31_3) rfl ?_
    refine XO.guardRun rfl rfl rfl ?_
    refine XO.v (V.load rfl (inXM .here) (encM.ld_N_Held _ _ (by omega)) sc_3) rfl ?_
    refine XO.guardRun rfl rfl rfl ?_
    refine XO.v (V.cmp rfl rfl rfl) rfl ?_
    refine XO.guardRun rfl rfl rfl ?_
    refine XO.v (V.pick rfl rfl rfl rfl) rfl ?_
    refine XO.v (V.pick rfl rfl rfl rfl) rfl ?_
    refine XO.nk [(0, _), (1, _), (2, _), (7, _), (47, _)] (S5 rfl rfl rfl rfl rfl) ?_
    refine XC.condP rfl (fun h4 => ?_) (fun h4 => ?_)
    ·
     refine XC.sr ?_
     refine XO.as rfl rfl ?_
     refine XO.nk [(6, _)] (S1 rfl) ?_
     refine XC.ret ?_
     refine XE.thenRet ?_
     refine XE.ret1 rfl rfl (post_of .h3 rfl ?_)
     have e : s.removeE n x = 5 := by unfold FF.removeE; rw [if_neg (by omega), if_pos (by unfold FF.busy; exact ⟨by assumption, by omega⟩)]
     exact ⟨by rw [e], s, by unfold FF.remove; rw [if_neg (by omega)], rfl, rfl, rfl⟩
    ·
     refine XC.skip ?_
     refine XE.next ?_
     refine XC.keep [(0, _), (1, _), (2, _), (7, _)] (S4 rfl rfl rfl rfl) ?_
     refine XC.sr ?_
     refine XO.mv rfl rfl ?_
     refine XO.mv rfl rfl ?_
     refine XO.mv rfl rfl ?_
     refine XO.call rfl (r_cut _ _ _ hI _ _ (by omega) (by assumption)) .h3 cl_79 rfl ?_
     rintro _ _ ⟨rfl, t, ht, hp, hc, rfl⟩
     have hln : t.links (s.findV n x) = s.links (s.findV n x) := congrFun (congrArg FF.links ht) _
     have hlh : t.held (s.findV n x) = s.held (s.findV n x) := congrFun (congrArg FF.held ht) _
     refine XO.nk [(0, _), (7, _)] (S2 rfl rfl) ?_
     refine XC.seq ?_
     refine XC.regionQ mixed (f := 13) (l := #[false, false, false, false, false, false, false, false, false, false, false, false, false]) rfl rfl XM.drawn' ?_
     refine XQ.pv (i := 0) (l' := #[tt,ff,ff,ff,ff,ff,ff,ff,ff,ff,ff,ff,ff]) rfl (by kernel_rfl) rfl (V.move rfl) rfl rfl ?_
     refine XQ.pv (i := 1) (l' := #[tt,tt,ff,ff,ff,ff,ff,ff,ff,ff,ff,ff,ff]) rfl (by kernel_rfl) rfl (V.move rfl) rfl rfl ?_
     refine XQ.pv (i := 2) (l' := #[tt,tt,tt,ff,ff,ff,ff,ff,ff,ff,ff,ff,ff]) rfl (by kernel_rfl) rfl (V.nilCheckP rfl) rfl rfl ?_
     refine XQ.pv (i := 3) (l' := #[tt,tt,tt,tt,ff,ff,ff,ff,ff,ff,ff,ff,ff]) rfl (by kernel_rfl) rfl (V.fieldAddr rfl fo_34_0) rfl rfl ?_
     refine XQ.pv (i := 4) (l' := #[tt,tt,tt,tt,tt,ff,ff,ff,ff,ff,ff,ff,ff]) rfl (by kernel_rfl) rfl (V.indexArr rfl rfl ar_32 (by omega)) rfl rfl ?_
     refine XQ.pv (i := 5) (l' := #[tt,tt,tt,tt,tt,tt,ff,ff,ff,ff,ff,ff,ff]) rfl (by kernel_rfl) rfl (V.fieldAddr rfl fo_31_2) rfl rfl ?_
     refine XQ.load (i := 6) (l' := #[tt,tt,tt,tt,tt,tt,tt,ff,ff,ff,ff,ff,ff]) (.cells _ _ _ _) [12] rfl (by kernel_rfl) rfl .here (V.load rfl inEnt (encM.ld_N_Links _ _ (by omega)) sc_3) rfl (by kernel_rfl) rfl ?_
     refine XQ.pv (i := 7) (l' := #[tt,tt,tt,tt,tt,tt,tt,tt,ff,ff,ff,ff,ff]) rfl (by kernel_rfl) rfl (V.sub rfl rfl _ (IntWalk.i64_in _ (by omega))) rfl rfl ?_
     refine XQ.pv (i := 8) (l' := #[tt,tt,tt,tt,tt,tt,tt,tt,tt,ff,ff,ff,ff]) rfl (by kernel_rfl) rfl (V.nilCheckP rfl) rfl rfl ?_
     refine XQ.pv (i := 9) (l' := #[tt,tt,tt,tt,tt,tt,tt,tt,tt,tt,ff,ff,ff]) rfl (by kernel_rfl) rfl (V.fieldAddr rfl fo_34_0) rfl rfl ?_
     refine XQ.pv (i := 10) (l' := #[tt,tt,tt,tt,tt,tt,tt,tt,tt,tt,tt,ff,ff]) rfl (by kernel_rfl) rfl (V.indexArr rfl rfl ar_32 (by omega)) rfl rfl ?_
     refine XQ.pv (i := 11) (l' := #[tt,tt,tt,tt,tt,tt,tt,tt,tt,tt,tt,tt,ff]) rfl (by kernel_rfl) rfl (V.fieldAddr rfl fo_31_2) rfl rfl ?_
     refine XQ.store (i := 12) (l' := #[tt,tt,tt,tt,tt,tt,tt,tt,tt,tt,tt,tt,tt]) rfl (by kernel_rfl) rfl rfl rfl .here (encM.st_N_Links _ _ (by omega) _) rfl sz_3_1 (fun _ hw' => ⟨fun hs => (hs 12 (by first | (simp; done) | (simp; rfl)) rfl).elim, trivial⟩) ?_
     refine XQ.done (by kernel_rfl) ?_
     refine XE.next ?_
     refine XC.keep [(0, _), (7, _)] (S2 rfl rfl) ?_
     refine XC.sr ?_
     refine XO.mv rfl rfl ?_
     refine XO.mv rfl rfl ?_
     refine XO.call rfl (r_gone _ _ ({ t with links := fset t.links (s.findV n x) (t.links (s.findV n x) - 1) } : FC) (s.findV n x) (by omega) (by show 0 ≤ fset t.links (s.findV n x) (t.links (s.findV n x) - 1) (s.findV n x) ∧ fset t.links (s.findV n x) (t.links (s.findV n x) - 1) (s.findV n x) ≤ 1000000 ∧ 0 ≤ t.held (s.findV n x) ∧ t.held (s.findV n x) ≤ 1000000; rw [fset_eq]; omega)) .h3 cl_80 rfl ?_
     rintro _ _ ⟨rfl, t2, ht2, hp2, hc2, rfl⟩
     refine XO.nk [] (Sub.nil _) ?_
     refine XC.sr ?_
     refine XO.as rfl rfl ?_
     refine XO.nk [(6, _)] (S1 rfl) ?_
     refine XC.ret ?_
     refine XE.ret1 rfl rfl (post_of .h3 rfl ?_)
     have e : s.removeE n x = 0 := by unfold FF.removeE; rw [if_neg (by omega), if_neg (by unfold FF.busy; omega)]
     exact ⟨by rw [e], t2, by rw [ht2, links_of ht, hln]; unfold FF.remove; rw [if_pos e]; rfl, hp2.trans hp, hc2.trans hc, rfl⟩
  ·
   refine XO.guardSkip rfl rfl rfl rfl rfl ?_
   refine XO.guardSkip rfl rfl rfl rfl rfl ?_
   refine XO.guardSkip rfl rfl rfl rfl rfl ?_
   refine XO.guardSkip rfl rfl rfl rfl rfl ?_
   refine XO.guardSkip rfl rfl rfl rfl rfl ?_
   refine XO.guardSkip rfl rfl rfl rfl rfl ?_
   refine XO.guardSkip rfl rfl rfl rfl rfl ?_
   refine XO.guardSkip rfl rfl rfl rfl rfl ?_
   refine XO.guardSkip rfl rfl rfl rfl rfl ?_
   refine XO.guardSkip rfl rfl rfl rfl rfl ?_
   refine XO.guardSkipU rfl rfl rfl rfl rfl ?_
   refine XO.guardSkipU rfl rfl rfl rfl rfl ?_
   refine XO.guardSkipU rfl rfl rfl rfl rfl ?_
   refine XO.guardSkipU rfl rfl rfl rfl rfl ?_
   refine XO.guardSkipU rfl rfl rfl rfl rfl ?_
   refine XO.guardSkipU rfl rfl rfl rfl rfl ?_
   refine XO.guardSkipU rfl rfl rfl rfl rfl ?_
   refine XO.guardSkipU rfl rfl rfl rfl rfl ?_
   refine XO.guardSkip rfl rfl rfl rfl rfl ?_
   refine XO.v (V.pick rfl rfl rfl rfl) rfl ?_
   refine XO.nk [(0, _), (1, _), (2, _), (7, _), (47, _)] (S5 rfl rfl rfl rfl rfl) ?_
   refine XC.condF rfl rfl ?_
   refine XC.skip ?_
   refine XE.next ?_
   refine XC.keep [(0, _), (1, _), (2, _), (7, _)] (S4 rfl rfl rfl rfl) ?_
   refine XC.sr ?_
   refine XO.mv rfl rfl ?_
   refine XO.mv rfl rfl ?_
   refine XO.mv rfl rfl ?_
   refine XO.call rfl (r_cut _ _ _ hI _ _ (by omega) (by assumption)) .h3 cl_79 rfl ?_
   rintro _ _ ⟨rfl, t, ht, hp, hc, rfl⟩
   have hln : t.links (s.findV n x) = s.links (s.findV n x) := congrFun (congrArg FF.links ht) _
   have hlh : t.held (s.findV n x) = s.held (s.findV n x) := congrFun (congrArg FF.held ht) _
   refine XO.nk [(0, _), (7, _)] (S2 rfl rfl) ?_
   refine XC.seq ?_
   refine XC.regionQ mixed (f := 13) (l := #[false, false, false, false, false, false, false, false, false, false, false, false, false]) rfl rfl XM.drawn' ?_
   refine XQ.pv (i := 0) (l' := #[tt,ff,ff,ff,ff,ff,ff,ff,ff,ff,ff,ff,ff]) rfl (by kernel_rfl) rfl (V.move rfl) rfl rfl ?_
   refine XQ.pv (i := 1) (l' := #[tt,tt,ff,ff,ff,ff,ff,ff,ff,ff,ff,ff,ff]) rfl (by kernel_rfl) rfl (V.move rfl) rfl rfl ?_
   refine XQ.pv (i := 2) (l' := #[tt,tt,tt,ff,ff,ff,ff,ff,ff,ff,ff,ff,ff]) rfl (by kernel_rfl) rfl (V.nilCheckP rfl) rfl rfl ?_
   refine XQ.pv (i := 3) (l' := #[tt,tt,tt,tt,ff,ff,ff,ff,ff,ff,ff,ff,ff]) rfl (by kernel_rfl) rfl (V.fieldAddr rfl fo_34_0) rfl rfl ?_
   refine XQ.pv (i := 4) (l' := #[tt,tt,tt,tt,tt,ff,ff,ff,ff,ff,ff,ff,ff]) rfl (by kernel_rfl) rfl (V.indexArr rfl rfl ar_32 (by omega)) rfl rfl ?_
   refine XQ.pv (i := 5) (l' := #[tt,tt,tt,tt,tt,tt,ff,ff,ff,ff,ff,ff,ff]) rfl (by kernel_rfl) rfl (V.fieldAddr rfl fo_31_2) rfl rfl ?_
   refine XQ.load (i := 6) (l' := #[tt,tt,tt,tt,tt,tt,tt,ff,ff,ff,ff,ff,ff]) (.cells _ _ _ _) [12] rfl (by kernel_rfl) rfl .here (V.load rfl inEnt (encM.ld_N_Links _ _ (by omega)) sc_3) rfl (by kernel_rfl) rfl ?_
   refine XQ.pv (i := 7) (l' := #[tt,tt,tt,tt,tt,tt,tt,tt,ff,ff,ff,ff,ff]) rfl (by kernel_rfl) rfl (V.sub rfl rfl _ (IntWalk.i64_in _ (by omega))) rfl rfl ?_
   refine XQ.pv (i := 8) (l' := #[tt,tt,tt,tt,tt,tt,tt,tt,tt,ff,ff,ff,ff]) rfl (by kernel_rfl) rfl (V.nilCheckP rfl) rfl rfl ?_
   refine XQ.pv (i := 9) (l' := #[tt,tt,tt,tt,tt,tt,tt,tt,tt,tt,ff,ff,ff]) rfl (by kernel_rfl) rfl (V.fieldAddr rfl fo_34_0) rfl rfl ?_
   refine XQ.pv (i := 10) (l' := #[tt,tt,tt,tt,tt,tt,tt,tt,tt,tt,tt,ff,ff]) rfl (by kernel_rfl) rfl (V.indexArr rfl rfl ar_32 (by omega)) rfl rfl ?_
   refine XQ.pv (i := 11) (l' := #[tt,tt,tt,tt,tt,tt,tt,tt,tt,tt,tt,tt,ff]) rfl (by kernel_rfl) rfl (V.fieldAddr rfl fo_31_2) rfl rfl ?_
   refine XQ.store (i := 12) (l' := #[tt,tt,tt,tt,tt,tt,tt,tt,tt,tt,tt,tt,tt]) rfl (by kernel_rfl) rfl rfl rfl .here (encM.st_N_Links _ _ (by omega) _) rfl sz_3_1 (fun _ hw' => ⟨fun hs => (hs 12 (by first | (simp; done) | (simp; rfl)) rfl).elim, trivial⟩) ?_
   refine XQ.done (by kernel_rfl) ?_
   refine XE.next ?_
   refine XC.keep [(0, _), (7, _)] (S2 rfl rfl) ?_
   refine XC.sr ?_
   refine XO.mv rfl rfl ?_
   refine XO.mv rfl rfl ?_
   refine XO.call rfl (r_gone _ _ ({ t with links := fset t.links (s.findV n x) (t.links (s.findV n x) - 1) } : FC) (s.findV n x) (by omega) (by show 0 ≤ fset t.links (s.findV n x) (t.links (s.findV n x) - 1) (s.findV n x) ∧ fset t.links (s.findV n x) (t.links (s.findV n x) - 1) (s.findV n x) ≤ 1000000 ∧ 0 ≤ t.held (s.findV n x) ∧ t.held (s.findV n x) ≤ 1000000; rw [fset_eq]; omega)) .h3 cl_80 rfl ?_
   rintro _ _ ⟨rfl, t2, ht2, hp2, hc2, rfl⟩
   refine XO.nk [] (Sub.nil _) ?_
   refine XC.sr ?_
   refine XO.as rfl rfl ?_
   refine XO.nk [(6, _)] (S1 rfl) ?_
   refine XC.ret ?_
   refine XE.ret1 rfl rfl (post_of .h3 rfl ?_)
   have e : s.removeE n x = 0 := by unfold FF.removeE; rw [if_neg (by omega), if_neg (by unfold FF.busy; omega)]
   exact ⟨by rw [e], t2, by rw [ht2, links_of ht, hln]; unfold FF.remove; rw [if_pos e]; rfl, hp2.trans hp, hc2.trans hc, rfl⟩
set_option maxRecDepth 10000 in
set_option maxHeartbeats 4000000 in
theorem r_Move (b o : Nat) (s : FC) (hI : s.toFF.Sh) (d : Int → Nat) (hc : ∀ k, s.toFF.Ch d k) (n : Int) (x : ByteArray) (to : Int) (y : ByteArray) (hy : y.size ≤ 9223372036854775807) : Spec Tryz.prog 33 [ptr b o 0, .int .i64 n, .string x, .int .i64 to, .string y]
    [.cells b o 321 (encM s), .fam fam40 (s.rowsN 9), .fam fam40 (s.rowsK 3)]
    (fun v H1 => v = .int .i64 (s.moveE d n x to y) ∧ ∃ t : FC, t.toFF = s.move d n x to y ∧ t.rP = s.rP ∧ t.rC = s.rC ∧ H1 = [.cells b o 321 (encM t), .fam fam40 (FC.rowsN 9 t), .fam fam40 (FC.rowsK 3 t)]) := by
 have hfn := FF.findE_nn s.toFF n x
 have htn := FF.isE_nn s.toFF to 2
 refine Spec.intro Tryz.func33 rfl rfl ?_
 intro W
 refine XC.sr ?_
 refine XO.as rfl rfl ?_
 refine XO.nk [(0, _), (1, _), (2, _), (3, _), (4, _)] (S5 rfl rfl rfl rfl rfl) ?_
 refine XC.sr ?_
 refine XO.mv rfl rfl ?_
 refine XO.mv rfl rfl ?_
 refine XO.mv rfl rfl ?_
 refine XO.call rfl (r_Find _ _ _ hI _ _) .h3 cl_38 rfl ?_
 rintro _ _ ⟨rfl, rfl⟩
 refine XO.mv rfl rfl ?_
 refine XO.v (V.extract rfl rfl) rfl ?_
 refine XO.v (V.extract rfl rfl) rfl ?_
 refine XO.as rfl rfl ?_
 refine XO.as rfl rfl ?_
 refine XO.nk [(0, _), (1, _), (2, _), (3, _), (4, _), (11, _), (12, _)] (S7 rfl rfl rfl rfl rfl rfl rfl) ?_
 refine XC.seq ?_
 refine XC.sr ?_
 refine XO.mv rfl rfl ?_
 refine XO.v (V.cmp rfl rfl rfl) rfl ?_
 refine XO.nk [(0, _), (1, _), (2, _), (3, _), (4, _), (11, _), (12, _), (24, _)] (S8 rfl rfl rfl rfl rfl rfl rfl rfl) ?_
 refine XC.condP rfl (fun h1 => ?_) (fun h1 => ?_)
 ·
  refine XC.sr ?_
  refine XO.mv rfl rfl ?_
  refine XO.as rfl rfl ?_
  refine XO.nk [(10, _)] (S1 rfl) ?_
  refine XC.ret ?_
  refine XE.thenRet ?_
  refine XE.ret1 rfl rfl (post_of .h3 rfl ?_)
  have e0 : s.moveE0 d n x to = s.findE n x := by unfold FF.moveE0; rw [if_pos (by omega)]
  have e : s.moveE d n x to y = s.moveE0 d n x to := by unfold FF.moveE; rw [if_pos (by omega)]
  exact ⟨by rw [e, e0], s, by unfold FF.move; rw [if_pos (by omega)], rfl, rfl, rfl⟩
 ·
  have f0 : s.findE n x = 0 := by omega
  obtain ⟨i1, i2, i3, k1, k2, hh⟩ := hI.kid f0
  refine XC.skip ?_
  refine XE.next ?_
  refine XC.keep [(0, _), (1, _), (2, _), (3, _), (4, _), (11, _)] (S6 rfl rfl rfl rfl rfl rfl) ?_
  refine XC.seq ?_
  refine XC.sr ?_
  refine XO.mv rfl rfl ?_
  refine XO.mv rfl rfl ?_
  refine XO.call rfl (r_Is _ _ _ _ _) .h1 cl_66 rfl ?_
  rintro _ _ ⟨rfl, rfl⟩
  refine XO.as rfl rfl ?_
  refine XO.nk [(0, _), (1, _), (2, _), (3, _), (4, _), (11, _), (13, _)] (S7 rfl rfl rfl rfl rfl rfl rfl) ?_
  refine XC.sr ?_
  refine XO.mv rfl rfl ?_
  refine XO.v (V.cmp rfl rfl rfl) rfl ?_
  refine XO.nk [(0, _), (1, _), (2, _), (3, _), (4, _), (11, _), (13, _), (30, _)] (S8 rfl rfl rfl rfl rfl rfl rfl rfl) ?_
  refine XC.condP rfl (fun h2 => ?_) (fun h2 => ?_)
  ·
   refine XC.sr ?_
   refine XO.mv rfl rfl ?_
   refine XO.as rfl rfl ?_
   refine XO.nk [(10, _)] (S1 rfl) ?_
   refine XC.ret ?_
   refine XE.thenRet ?_
   refine XE.ret1 rfl rfl (post_of .h3 rfl ?_)
   have e0 : s.moveE0 d n x to = s.isE to 2 := by unfold FF.moveE0; rw [if_neg (by omega), if_pos (by omega)]
   have e : s.moveE d n x to y = s.moveE0 d n x to := by unfold FF.moveE; rw [if_pos (by omega)]
   exact ⟨by rw [e, e0], s, by unfold FF.move; rw [if_pos (by omega)], rfl, rfl, rfl⟩
  ·
   have t0 : s.isE to 2 = 0 := by omega
   obtain ⟨t1, t2, _, t3⟩ := FF.isE_k0 t0
   have t3 := t3 (by omega)
   refine XC.skip ?_
   refine XE.next ?_
   refine XC.keep [(0, _), (1, _), (2, _), (3, _), (4, _), (11, _)] (S6 rfl rfl rfl rfl rfl rfl) ?_
   refine XC.seq ?_
   refine XC.seq ?_
   refine XC.regionQ mixed (f := 15) (l := #[false, false, false, false, false, false, false, false, false, false, false, false, false, false, false]) rfl rfl XM.drawn' ?_
   refine XQ.pv (i := 0) (l' := #[tt,ff,ff,ff,ff,ff,ff,ff,ff,ff,ff,ff,ff,ff,ff]) rfl (by kernel_rfl) rfl (V.move rfl) rfl rfl ?_
   refine XQ.pv (i := 1) (l' := #[tt,tt,ff,ff,ff,ff,ff,ff,ff,ff,ff,ff,ff,ff,ff]) rfl (by kernel_rfl) rfl (V.move rfl) rfl rfl ?_
   refine XQ.pv (i := 2) (l' := #[tt,tt,tt,ff,ff,ff,ff,ff,ff,ff,ff,ff,ff,ff,ff]) rfl (by kernel_rfl) rfl (V.nilCheckP rfl) rfl rfl ?_
   refine XQ.pv (i := 3) (l' := #[tt,tt,tt,tt,ff,ff,ff,ff,ff,ff,ff,ff,ff,ff,ff]) rfl (by kernel_rfl) rfl (V.fieldAddr rfl fo_34_0) rfl rfl ?_
   refine XQ.pv (i := 4) (l' := #[tt,tt,tt,tt,tt,ff,ff,ff,ff,ff,ff,ff,ff,ff,ff]) rfl (by kernel_rfl) rfl (V.indexArr rfl rfl ar_32 (by omega)) rfl rfl ?_
   refine XQ.pv (i := 5) (l' := #[tt,tt,tt,tt,tt,tt,ff,ff,ff,ff,ff,ff,ff,ff,ff]) rfl (by kernel_rfl) rfl (V.fieldAddr rfl fo_31_1) rfl rfl ?_
   refine XQ.load (i := 6) (l' := #[tt,tt,tt,tt,tt,tt,tt,ff,ff,ff,ff,ff,ff,ff,ff]) (.cells _ _ _ _) [] rfl (by kernel_rfl) rfl .here (V.load rfl inEnt (encM.ld_N_Tree _ _ (by omega)) sc_3) rfl (by kernel_rfl) rfl ?_
   refine XQ.pv (i := 7) (l' := #[tt,tt,tt,tt,tt,tt,tt,tt,ff,ff,ff,ff,ff,ff,ff]) rfl (by kernel_rfl) rfl (V.move rfl) rfl rfl ?_
   refine XQ.pv (i := 8) (l' := #[tt,tt,tt,tt,tt,tt,tt,tt,tt,ff,ff,ff,ff,ff,ff]) rfl (by kernel_rfl) rfl (V.move rfl) rfl rfl ?_
   refine XQ.pv (i := 9) (l' := #[tt,tt,tt,tt,tt,tt,tt,tt,tt,tt,ff,ff,ff,ff,ff]) rfl (by kernel_rfl) rfl (V.nilCheckP rfl) rfl rfl ?_
   refine XQ.pv (i := 10) (l' := #[tt,tt,tt,tt,tt,tt,tt,tt,tt,tt,tt,ff,ff,ff,ff]) rfl (by kernel_rfl) rfl (V.fieldAddr rfl fo_34_0) rfl rfl ?_
   refine XQ.pv (i := 11) (l' := #[tt,tt,tt,tt,tt,tt,tt,tt,tt,tt,tt,tt,ff,ff,ff]) rfl (by kernel_rfl) rfl (V.indexArr rfl rfl ar_32 (by omega)) rfl rfl ?_
   refine XQ.pv (i := 12) (l' := #[tt,tt,tt,tt,tt,tt,tt,tt,tt,tt,tt,tt,tt,ff,ff]) rfl (by kernel_rfl) rfl (V.fieldAddr rfl fo_31_1) rfl rfl ?_
   refine XQ.load (i := 13) (l' := #[tt,tt,tt,tt,tt,tt,tt,tt,tt,tt,tt,tt,tt,tt,ff]) (.cells _ _ _ _) [] rfl (by kernel_rfl) rfl .here (V.load rfl inEnt (encM.ld_N_Tree _ _ (by omega)) sc_3) rfl (by kernel_rfl) rfl ?_
   refine XQ.pv (i := 14) (l' := #[tt,tt,tt,tt,tt,tt,tt,tt,tt,tt,tt,tt,tt,tt,tt]) rfl (by kernel_rfl) rfl (V.cmp rfl rfl rfl) rfl rfl ?_
   refine XQ.done (by kernel_rfl) ?_
   refine XE.next ?_
   refine XC.keep [(0, _), (1, _), (2, _), (3, _), (4, _), (11, _), (46, _)] (S7 rfl rfl rfl rfl rfl rfl rfl) ?_
   refine XC.condP rfl (fun h3 => ?_) (fun h3 => ?_)
   ·
    refine XC.sr ?_
    refine XO.as rfl rfl ?_
    refine XO.nk [(10, _)] (S1 rfl) ?_
    refine XC.ret ?_
    refine XE.thenRet ?_
    refine XE.ret1 rfl rfl (post_of .h3 rfl ?_)
    have e0 : s.moveE0 d n x to = 11 := by unfold FF.moveE0; rw [if_neg (by omega), if_neg (by omega), if_pos (by assumption)]
    have e : s.moveE d n x to y = s.moveE0 d n x to := by unfold FF.moveE; rw [if_pos (by omega)]
    exact ⟨by rw [e, e0], s, by unfold FF.move; rw [if_pos (by omega)], rfl, rfl, rfl⟩
   ·
    refine XC.skip ?_
    refine XE.next ?_
    refine XC.keep [(0, _), (1, _), (2, _), (3, _), (4, _), (11, _)] (S6 rfl rfl rfl rfl rfl rfl) ?_
    refine XC.sr ?_
    refine XO.mv rfl rfl ?_
    refine XO.as rfl rfl ?_
    refine XO.nk [(0, _), (1, _), (2, _), (3, _), (4, _), (11, _), (14, _)] (S7 rfl rfl rfl rfl rfl rfl rfl) ?_
    refine XC.seq ?_
    refine XC.block ?_
    refine XC.loop (σ := Int) (fun i => d i) (fun i => (0 ≤ i ∧ i < 40 ∧ s.kind i = 2) ∧ FF.und d s.toFF to (s.findV n x) = FF.und d s.toFF i (s.findV n x)) (fun i => [(14, .int .i64 i), (0, ptr b o 0), (1, .int .i64 n), (2, .string x), (3, .int .i64 to), (4, .string y), (11, .int .i64 (s.findV n x))]) (fun i => XM W (foot [.cells b o 321 (encM s), .fam fam40 (s.rowsN 9), .fam fam40 (s.rowsK 3)]) [.cells b o 321 (encM s), .fam fam40 (s.rowsN 9), .fam fam40 (s.rowsK 3)]) (to) ?_ (S7 rfl rfl rfl rfl rfl rfl rfl) (fun _ hw => XM.pick .h3 hw) ?_
    ·
     exact ⟨⟨t1, t2, t3⟩, rfl⟩
    intro i hi
    obtain ⟨hi, he⟩ := hi
    refine XC.seq ?_
    refine XC.sr ?_
    refine XO.mv rfl rfl ?_
    refine XO.mv rfl rfl ?_
    refine XO.v (V.nilCheckP rfl) rfl ?_
    refine XO.v (V.fieldAddr rfl fo_34_0) rfl ?_
    refine XO.v (V.indexArr rfl rfl ar_32 (by omega)) rfl ?_
    refine XO.v (V.fieldAddr rfl fo_31_0) rfl ?_
    refine XO.v (V.load rfl (inXM .here) (encM.ld_N_Kind _ _ (by omega)) sc_3) rfl ?_
    refine XO.v (V.cmp rfl rfl rfl) rfl ?_
    refine XO.nk [(0, _), (1, _), (2, _), (3, _), (4, _), (11, _), (14, _), (55, _)] (S8 rfl rfl rfl rfl rfl rfl rfl rfl) ?_
    refine XC.condP rfl (fun h4 => ?_) (fun h4 => ?_)
    ·
     refine XC.skip ?_
     refine XE.next ?_
     refine XC.keep [(0, _), (1, _), (2, _), (3, _), (4, _), (11, _), (14, _)] (S7 rfl rfl rfl rfl rfl rfl rfl) ?_
     refine XC.block ?_
     refine XC.seq ?_
     refine XC.sr ?_
     refine XO.mv rfl rfl ?_
     refine XO.mv rfl rfl ?_
     refine XO.v (V.cmp rfl rfl rfl) rfl ?_
     refine XO.nk [(0, _), (1, _), (2, _), (3, _), (4, _), (11, _), (14, _), (58, _)] (S8 rfl rfl rfl rfl rfl rfl rfl rfl) ?_
     refine XC.condP rfl (fun h5 => ?_) (fun h5 => ?_)
     ·
      have hun : FF.und d s.toFF to (s.findV n x) = true := by rw [he, show i = s.findV n x by assumption, FF.und_self]
      refine XC.sr ?_
      refine XO.as rfl rfl ?_
      refine XO.nk [(10, _)] (S1 rfl) ?_
      refine XC.ret ?_
      refine XE.thenRet ?_
      refine XE.blockRet ?_
      refine XE.thenRet ?_
      refine XE.blockRet ?_
      refine XE.thenRet ?_
      refine XE.ret1 rfl rfl (post_of .h3 rfl ?_)
      have e0 : s.moveE0 d n x to = 5 := by unfold FF.moveE0; rw [if_neg (by omega), if_neg (by omega), if_neg (by omega), if_pos ⟨by assumption, hun⟩]
      have e : s.moveE d n x to y = s.moveE0 d n x to := by unfold FF.moveE; rw [if_pos (by omega)]
      exact ⟨by rw [e, e0], s, by unfold FF.move; rw [if_pos (by omega)], rfl, rfl, rfl⟩
     ·
      refine XC.skip ?_
      refine XE.next ?_
      refine XC.keep [(0, _), (1, _), (2, _), (3, _), (4, _), (11, _), (14, _)] (S7 rfl rfl rfl rfl rfl rfl rfl) ?_
      refine XC.seq ?_
      refine XC.sr ?_
      refine XO.mv rfl rfl ?_
      refine XO.mv rfl rfl ?_
      refine XO.v (V.nilCheckP rfl) rfl ?_
      refine XO.v (V.fieldAddr rfl fo_34_0) rfl ?_
      refine XO.v (V.indexArr rfl rfl ar_32 (by omega)) rfl ?_
      refine XO.v (V.fieldAddr rfl fo_31_4) rfl ?_
      refine XO.v (V.load rfl (inXM .here) (encM.ld_N_Up _ _ (by omega)) sc_3) rfl ?_
      refine XO.mv rfl rfl ?_
      refine XO.v (V.cmp rfl rfl rfl) rfl ?_
      refine XO.nk [(0, _), (1, _), (2, _), (3, _), (4, _), (11, _), (14, _), (67, _)] (S8 rfl rfl rfl rfl rfl rfl rfl rfl) ?_
      refine XC.condP rfl (fun h6 => ?_) (fun h6 => ?_)
      ·
       have hst := FF.und_step (hc (s.findV n x)) (by omega) (by omega) hi.2.2 (show i ≠ s.findV n x by assumption)
       rw [if_pos (by assumption)] at hst
       have hun : FF.und d s.toFF to (s.findV n x) = false := he.trans hst
       refine XC.exit ?_
       refine XE.thenExit ?_
       refine XE.blockOther rfl ?_
       refine XE.thenExit ?_
       refine XE.blockExit ?_
       refine XE.next ?_
       refine XC.keep [(0, _), (1, _), (2, _), (3, _), (4, _), (11, _)] (S6 rfl rfl rfl rfl rfl rfl) ?_
       refine XC.sr ?_
       refine XO.mv rfl rfl ?_
       refine XO.mv rfl rfl ?_
       refine XO.mv rfl rfl ?_
       refine XO.call rfl (r_cut _ _ _ hI _ _ (by omega) (by assumption)) .h3 cl_79 rfl ?_
       rintro _ _ ⟨rfl, t, ht, hp, hc0, rfl⟩
       have hI2 : t.toFF.Sh := by rw [ht]; exact hI.cutF i1 i2 hh
       refine XO.nk [(0, _), (1, _), (2, _), (3, _), (4, _), (11, _)] (S6 rfl rfl rfl rfl rfl rfl) ?_
       refine XC.seq ?_
       refine XC.sr ?_
       refine XO.mv rfl rfl ?_
       refine XO.mv rfl rfl ?_
       refine XO.mv rfl rfl ?_
       refine XO.call rfl (r_Room _ _ _ hI2 _ _ (by assumption)) .h3 cl_74 rfl ?_
       rintro _ _ ⟨rfl, rfl⟩
       refine XO.as rfl rfl ?_
       refine XO.nk [(0, _), (1, _), (2, _), (3, _), (4, _), (11, _), (15, _)] (S7 rfl rfl rfl rfl rfl rfl rfl) ?_
       refine XC.sr ?_
       refine XO.mv rfl rfl ?_
       refine XO.v (V.cmp rfl rfl rfl) rfl ?_
       refine XO.nk [(0, _), (1, _), (2, _), (3, _), (4, _), (11, _), (15, _), (84, _)] (S8 rfl rfl rfl rfl rfl rfl rfl rfl) ?_
       refine XC.condP rfl (fun h7 => ?_) (fun h7 => ?_)
       ·
        have hrn := FF.roomE_nn (s.cutF n x) to y
        have hm : (s.cutF n x).roomE to y ≠ 0 := by rw [← ht]; omega
        have hno : hasn (t.names n) x = false := by
         rw [show t.names n = (s.names n).eraseIdx (posn (s.names n) x) from (congrFun (congrArg FF.names ht) n).trans (fset_eq _ _ _)]
         exact hasn_erase (hI.rise n i1 i2).1 hh
        refine XC.sr ?_
        refine XO.mv rfl rfl ?_
        refine XO.mv rfl rfl ?_
        refine XO.mv rfl rfl ?_
        refine XO.mv rfl rfl ?_
        refine XO.call rfl (r_put _ _ _ hI2 _ _ _ (by omega) hno) .h3 cl_75 rfl ?_
        rintro _ _ ⟨rfl, t2, ht2, hp2, hc2, rfl⟩
        refine XO.nk [(15, _)] (S1 rfl) ?_
        refine XC.sr ?_
        refine XO.mv rfl rfl ?_
        refine XO.as rfl rfl ?_
        refine XO.nk [(10, _)] (S1 rfl) ?_
        refine XC.ret ?_
        refine XE.thenRet ?_
        refine XE.ret1 rfl rfl (post_of .h3 rfl ?_)
        have e0 : s.moveE0 d n x to = 0 := by unfold FF.moveE0; rw [if_neg (by omega), if_neg (by omega), if_neg (by omega), if_neg (fun q => absurd q.2 (by rw [hun]; simp))]
        have e : s.moveE d n x to y = (s.cutF n x).roomE to y := by unfold FF.moveE; rw [if_neg (by omega)]
        exact ⟨by rw [e, ht], t2, by rw [ht2, ht]; unfold FF.move; rw [if_neg (by omega), if_pos (by omega)], hp2.trans hp, hc2.trans hc0, rfl⟩
       ·
        have hrn := FF.roomE_nn (s.cutF n x) to y
        have hm2 : t.roomE to y = 0 := by rw [ht]; rw [ht] at h7; omega
        have hm : (s.cutF n x).roomE to y = 0 := by rw [← ht]; exact hm2
        have hno2 := (FF.roomE_0 hm2).2.2.1
        refine XC.skip ?_
        refine XE.next ?_
        refine XC.keep [(0, _), (3, _), (4, _), (11, _)] (S4 rfl rfl rfl rfl) ?_
        refine XC.sr ?_
        refine XO.mv rfl rfl ?_
        refine XO.mv rfl rfl ?_
        refine XO.mv rfl rfl ?_
        refine XO.mv rfl rfl ?_
        refine XO.call rfl (r_put _ _ _ hI2 _ _ _ (by omega) hno2) .h3 cl_75 rfl ?_
        rintro _ _ ⟨rfl, t2, ht2, hp2, hc2, rfl⟩
        have hkd : t2.kind (s.findV n x) = s.kind (s.findV n x) := (congrFun (congrArg FF.kind ht2) _).trans (congrFun (congrArg FF.kind ht) _)
        refine XO.nk [(0, _), (3, _), (11, _)] (S3 rfl rfl rfl) ?_
        refine XC.seq ?_
        refine XC.sr ?_
        refine XO.mv rfl rfl ?_
        refine XO.mv rfl rfl ?_
        refine XO.v (V.nilCheckP rfl) rfl ?_
        refine XO.v (V.fieldAddr rfl fo_34_0) rfl ?_
        refine XO.v (V.indexArr rfl rfl ar_32 (by omega)) rfl ?_
        refine XO.v (V.fieldAddr rfl fo_31_0) rfl ?_
        refine XO.v (V.load rfl (inXM .here) (encM.ld_N_Kind _ _ (by omega)) sc_3) rfl ?_
        refine XO.v (V.cmp rfl rfl rfl) rfl ?_
        refine XO.nk [(0, _), (3, _), (11, _), (103, _)] (S4 rfl rfl rfl rfl) ?_
        refine XC.condP rfl (fun h8 => ?_) (fun h8 => ?_)
        ·
         refine XC.region ?_
         refine XO.mv rfl rfl ?_
         refine XO.mv rfl rfl ?_
         refine XO.mv rfl rfl ?_
         refine XO.v (V.nilCheckP rfl) rfl ?_
         refine XO.v (V.fieldAddr rfl fo_34_0) rfl ?_
         refine XO.v (V.indexArr rfl rfl ar_32 (by omega)) rfl ?_
         refine XO.v (V.fieldAddr rfl fo_31_4) rfl ?_
         refine XO.store rfl rfl .here (encM.st_N_Up _ _ (by omega) _) rfl sz_3_1 ?_
         refine XO.nk [] (Sub.nil _) ?_
         refine XC.sr ?_
         refine XO.as rfl rfl ?_
         refine XO.nk [(10, _)] (S1 rfl) ?_
         refine XC.ret ?_
         refine XE.ret1 rfl rfl (post_of .h3 rfl ?_)
         have e0 : s.moveE0 d n x to = 0 := by unfold FF.moveE0; rw [if_neg (by omega), if_neg (by omega), if_neg (by omega), if_neg (fun q => absurd q.2 (by rw [hun]; simp))]
         have e : s.moveE d n x to y = (s.cutF n x).roomE to y := by unfold FF.moveE; rw [if_neg (by omega)]
         exact ⟨by rw [e, hm], ({ t2 with up := fset t2.up (s.findV n x) to } : FC), by rw [up_of ht2, ht]; unfold FF.move; rw [if_neg (by omega), if_neg (by omega), if_pos (by omega)]; rfl, hp2.trans hp, hc2.trans hc0, rfl⟩
        ·
         refine XC.skip ?_
         refine XE.next ?_
         refine XC.keep [] (Sub.nil _) ?_
         refine XC.sr ?_
         refine XO.as rfl rfl ?_
         refine XO.nk [(10, _)] (S1 rfl) ?_
         refine XC.ret ?_
         refine XE.ret1 rfl rfl (post_of .h3 rfl ?_)
         have e0 : s.moveE0 d n x to = 0 := by unfold FF.moveE0; rw [if_neg (by omega), if_neg (by omega), if_neg (by omega), if_neg (fun q => absurd q.2 (by rw [hun]; simp))]
         have e : s.moveE d n x to y = (s.cutF n x).roomE to y := by unfold FF.moveE; rw [if_neg (by omega)]
         exact ⟨by rw [e, hm], t2, by rw [ht2, ht]; unfold FF.move; rw [if_neg (by omega), if_neg (by omega), if_neg (by omega)], hp2.trans hp, hc2.trans hc0, rfl⟩
      ·
       refine XC.skip ?_
       refine XE.next ?_
       refine XC.keep [(0, _), (1, _), (2, _), (3, _), (4, _), (11, _), (14, _)] (S7 rfl rfl rfl rfl rfl rfl rfl) ?_
       refine XC.region ?_
       refine XO.mv rfl rfl ?_
       refine XO.mv rfl rfl ?_
       refine XO.v (V.nilCheckP rfl) rfl ?_
       refine XO.v (V.fieldAddr rfl fo_34_0) rfl ?_
       refine XO.v (V.indexArr rfl rfl ar_32 (by omega)) rfl ?_
       refine XO.v (V.fieldAddr rfl fo_31_4) rfl ?_
       refine XO.v (V.load rfl (inXM .here) (encM.ld_N_Up _ _ (by omega)) sc_3) rfl ?_
       refine XO.as rfl rfl ?_
       refine XO.nil ?_
       refine XE.blockNormal ?_
       refine XE.again (s.up i) ?_ ?_ (S7 rfl rfl rfl rfl rfl rfl rfl) (fun _ hw => XM.pick .h3 hw)
       ·
        rcases hc (s.findV n x) i (by omega) (by omega) hi.2.2 (by assumption) with g | ⟨g1, g2, g3, g4⟩
        ·
         contradiction
        ·
         exact g4
       ·
        have e := FF.und_step (hc (s.findV n x)) (by omega) (by omega) hi.2.2 (show i ≠ s.findV n x by assumption)
        rw [if_neg (by assumption)] at e
        rcases hc (s.findV n x) i (by omega) (by omega) hi.2.2 (by assumption) with g | ⟨g1, g2, g3, g4⟩
        ·
         contradiction
        ·
         exact ⟨⟨g1, g2, g3⟩, he.trans e⟩
    ·
     refine XC.exit ?_
     refine XE.thenExit ?_
     refine XE.thenExit ?_
     refine XE.blockExit ?_
     refine XE.next ?_
     refine XC.keep [(0, _), (1, _), (2, _), (3, _), (4, _), (11, _)] (S6 rfl rfl rfl rfl rfl rfl) ?_
     refine XC.sr ?_
     refine XO.mv rfl rfl ?_
     refine XO.mv rfl rfl ?_
     refine XO.mv rfl rfl ?_
     refine XO.call rfl (r_cut _ _ _ hI _ _ (by omega) (by assumption)) .h3 cl_79 rfl ?_
     rintro _ _ ⟨rfl, t, ht, hp, hc0, rfl⟩
     have hI2 : t.toFF.Sh := by rw [ht]; exact hI.cutF i1 i2 hh
     refine XO.nk [(0, _), (1, _), (2, _), (3, _), (4, _), (11, _)] (S6 rfl rfl rfl rfl rfl rfl) ?_
     refine XC.seq ?_
     refine XC.sr ?_
     refine XO.mv rfl rfl ?_
     refine XO.mv rfl rfl ?_
     refine XO.mv rfl rfl ?_
     refine XO.call rfl (r_Room _ _ _ hI2 _ _ (by assumption)) .h3 cl_74 rfl ?_
     rintro _ _ ⟨rfl, rfl⟩
     refine XO.as rfl rfl ?_
     refine XO.nk [(0, _), (1, _), (2, _), (3, _), (4, _), (11, _), (15, _)] (S7 rfl rfl rfl rfl rfl rfl rfl) ?_
     refine XC.sr ?_
     refine XO.mv rfl rfl ?_
     refine XO.v (V.cmp rfl rfl rfl) rfl ?_
     refine XO.nk [(0, _), (1, _), (2, _), (3, _), (4, _), (11, _), (15, _), (84, _)] (S8 rfl rfl rfl rfl rfl rfl rfl rfl) ?_
     refine XC.condP rfl (fun h9 => ?_) (fun h9 => ?_)
     ·
      have hrn := FF.roomE_nn (s.cutF n x) to y
      have hm : (s.cutF n x).roomE to y ≠ 0 := by rw [← ht]; omega
      have hno : hasn (t.names n) x = false := by
       rw [show t.names n = (s.names n).eraseIdx (posn (s.names n) x) from (congrFun (congrArg FF.names ht) n).trans (fset_eq _ _ _)]
       exact hasn_erase (hI.rise n i1 i2).1 hh
      refine XC.sr ?_
      refine XO.mv rfl rfl ?_
      refine XO.mv rfl rfl ?_
      refine XO.mv rfl rfl ?_
      refine XO.mv rfl rfl ?_
      refine XO.call rfl (r_put _ _ _ hI2 _ _ _ (by omega) hno) .h3 cl_75 rfl ?_
      rintro _ _ ⟨rfl, t2, ht2, hp2, hc2, rfl⟩
      refine XO.nk [(15, _)] (S1 rfl) ?_
      refine XC.sr ?_
      refine XO.mv rfl rfl ?_
      refine XO.as rfl rfl ?_
      refine XO.nk [(10, _)] (S1 rfl) ?_
      refine XC.ret ?_
      refine XE.thenRet ?_
      refine XE.ret1 rfl rfl (post_of .h3 rfl ?_)
      have e0 : s.moveE0 d n x to = 0 := by unfold FF.moveE0; rw [if_neg (by omega), if_neg (by omega), if_neg (by omega), if_neg (fun q => absurd q.1 (by assumption))]
      have e : s.moveE d n x to y = (s.cutF n x).roomE to y := by unfold FF.moveE; rw [if_neg (by omega)]
      exact ⟨by rw [e, ht], t2, by rw [ht2, ht]; unfold FF.move; rw [if_neg (by omega), if_pos (by omega)], hp2.trans hp, hc2.trans hc0, rfl⟩
     ·
      have hrn := FF.roomE_nn (s.cutF n x) to y
      have hm2 : t.roomE to y = 0 := by rw [ht]; rw [ht] at h9; omega
      have hm : (s.cutF n x).roomE to y = 0 := by rw [← ht]; exact hm2
      have hno2 := (FF.roomE_0 hm2).2.2.1
      refine XC.skip ?_
      refine XE.next ?_
      refine XC.keep [(0, _), (3, _), (4, _), (11, _)] (S4 rfl rfl rfl rfl) ?_
      refine XC.sr ?_
      refine XO.mv rfl rfl ?_
      refine XO.mv rfl rfl ?_
      refine XO.mv rfl rfl ?_
      refine XO.mv rfl rfl ?_
      refine XO.call rfl (r_put _ _ _ hI2 _ _ _ (by omega) hno2) .h3 cl_75 rfl ?_
      rintro _ _ ⟨rfl, t2, ht2, hp2, hc2, rfl⟩
      have hkd : t2.kind (s.findV n x) = s.kind (s.findV n x) := (congrFun (congrArg FF.kind ht2) _).trans (congrFun (congrArg FF.kind ht) _)
      refine XO.nk [(0, _), (3, _), (11, _)] (S3 rfl rfl rfl) ?_
      refine XC.seq ?_
      refine XC.sr ?_
      refine XO.mv rfl rfl ?_
      refine XO.mv rfl rfl ?_
      refine XO.v (V.nilCheckP rfl) rfl ?_
      refine XO.v (V.fieldAddr rfl fo_34_0) rfl ?_
      refine XO.v (V.indexArr rfl rfl ar_32 (by omega)) rfl ?_
      refine XO.v (V.fieldAddr rfl fo_31_0) rfl ?_
      refine XO.v (V.load rfl (inXM .here) (encM.ld_N_Kind _ _ (by omega)) sc_3) rfl ?_
      refine XO.v (V.cmp rfl rfl rfl) rfl ?_
      refine XO.nk [(0, _), (3, _), (11, _), (103, _)] (S4 rfl rfl rfl rfl) ?_
      refine XC.condP rfl (fun h10 => ?_) (fun h10 => ?_)
      ·
       refine XC.region ?_
       refine XO.mv rfl rfl ?_
       refine XO.mv rfl rfl ?_
       refine XO.mv rfl rfl ?_
       refine XO.v (V.nilCheckP rfl) rfl ?_
       refine XO.v (V.fieldAddr rfl fo_34_0) rfl ?_
       refine XO.v (V.indexArr rfl rfl ar_32 (by omega)) rfl ?_
       refine XO.v (V.fieldAddr rfl fo_31_4) rfl ?_
       refine XO.store rfl rfl .here (encM.st_N_Up _ _ (by omega) _) rfl sz_3_1 ?_
       refine XO.nk [] (Sub.nil _) ?_
       refine XC.sr ?_
       refine XO.as rfl rfl ?_
       refine XO.nk [(10, _)] (S1 rfl) ?_
       refine XC.ret ?_
       refine XE.ret1 rfl rfl (post_of .h3 rfl ?_)
       have e0 : s.moveE0 d n x to = 0 := by unfold FF.moveE0; rw [if_neg (by omega), if_neg (by omega), if_neg (by omega), if_neg (fun q => absurd q.1 (by assumption))]
       have e : s.moveE d n x to y = (s.cutF n x).roomE to y := by unfold FF.moveE; rw [if_neg (by omega)]
       exact ⟨by rw [e, hm], ({ t2 with up := fset t2.up (s.findV n x) to } : FC), by rw [up_of ht2, ht]; unfold FF.move; rw [if_neg (by omega), if_neg (by omega), if_pos (by omega)]; rfl, hp2.trans hp, hc2.trans hc0, rfl⟩
      ·
       refine XC.skip ?_
       refine XE.next ?_
       refine XC.keep [] (Sub.nil _) ?_
       refine XC.sr ?_
       refine XO.as rfl rfl ?_
       refine XO.nk [(10, _)] (S1 rfl) ?_
       refine XC.ret ?_
       refine XE.ret1 rfl rfl (post_of .h3 rfl ?_)
       have e0 : s.moveE0 d n x to = 0 := by unfold FF.moveE0; rw [if_neg (by omega), if_neg (by omega), if_neg (by omega), if_neg (fun q => absurd q.1 (by assumption))]
       have e : s.moveE d n x to y = (s.cutF n x).roomE to y := by unfold FF.moveE; rw [if_neg (by omega)]
       exact ⟨by rw [e, hm], t2, by rw [ht2, ht]; unfold FF.move; rw [if_neg (by omega), if_neg (by omega), if_neg (by omega)], hp2.trans hp, hc2.trans hc0, rfl⟩
set_option maxRecDepth 10000 in
set_option maxHeartbeats 1000000 in
theorem r_Read (b o : Nat) (s : FC) (hI : s.toFF.Sh) (n a m : Int) : Spec Tryz.prog 40 [ptr b o 0, .int .i64 n, .int .i64 a, .int .i64 m]
    [.cells b o 321 (encM s)]
    (fun v H1 => v = .tuple #[.string (s.readV n a m), .int .i64 (s.readE n a m)] ∧ H1 = [.cells b o 321 (encM s)]) := by
 refine Spec.intro Tryz.func40 rfl rfl ?_
 intro W
 refine XC.sr ?_
 refine XO.as rfl rfl ?_
 refine XO.as rfl rfl ?_
 refine XO.nk [(0, _), (1, _), (2, _), (3, _)] (S4 rfl rfl rfl rfl) ?_
 refine XC.seq ?_
 refine XC.sr ?_
 refine XO.mv rfl rfl ?_
 refine XO.mv rfl rfl ?_
 refine XO.call rfl (r_Is _ _ _ _ _) .h1 cl_66 rfl ?_
 rintro _ _ ⟨rfl, rfl⟩
 refine XO.as rfl rfl ?_
 refine XO.nk [(0, _), (1, _), (2, _), (3, _), (10, _)] (S5 rfl rfl rfl rfl rfl) ?_
 refine XC.sr ?_
 refine XO.mv rfl rfl ?_
 refine XO.v (V.cmp rfl rfl rfl) rfl ?_
 refine XO.nk [(0, _), (1, _), (2, _), (3, _), (10, _), (18, _)] (S6 rfl rfl rfl rfl rfl rfl) ?_
 refine XC.condP rfl (fun h1 => ?_) (fun h1 => ?_)
 ·
  refine XC.sr ?_
  refine XO.mv rfl rfl ?_
  refine XO.as rfl rfl ?_
  refine XO.as rfl rfl ?_
  refine XO.nk [(8, _), (9, _)] (S2 rfl rfl) ?_
  refine XC.ret ?_
  refine XE.thenRet ?_
  refine XE.ret2 rfl rfl rfl (post_of .h1 rfl ?_)
  have e : s.readE n a m = s.isE n 1 := by unfold FF.readE; rw [if_pos (by omega)]
  exact ⟨by rw [show s.readV n a m = ByteArray.empty from by unfold FF.readV; rw [if_neg (by omega)], e]; rfl, rfl⟩
 ·
  have i0 : s.isE n 1 = 0 := by have := FF.isE_nn s.toFF n 1; omega
  obtain ⟨i1, i2, i3, i4⟩ := FF.isE_k0 i0
  have hd := hI.data n (by omega) (by omega)
  refine XC.skip ?_
  refine XE.next ?_
  refine XC.keep [(0, _), (1, _), (2, _), (3, _)] (S4 rfl rfl rfl rfl) ?_
  refine XC.seq ?_
  refine XC.sr ?_
  refine XO.mv rfl rfl ?_
  refine XO.v (V.cmp rfl rfl rfl) rfl ?_
  refine XO.mv rfl rfl ?_
  refine XO.splitP (d := 22) rfl (fun h2 => ?_) (fun h2 => ?_)
  ·
   refine XO.guardSkip rfl rfl rfl rfl rfl ?_
   refine XO.guardSkip rfl rfl rfl rfl rfl ?_
   refine XO.v (V.pick rfl rfl rfl rfl) rfl ?_
   refine XO.nk [(0, _), (1, _), (2, _), (3, _), (25, _)] (S5 rfl rfl rfl rfl rfl) ?_
   refine XC.condT rfl rfl ?_
   refine XC.sr ?_
   refine XO.as rfl rfl ?_
   refine XO.as rfl rfl ?_
   refine XO.nk [(8, _), (9, _)] (S2 rfl rfl) ?_
   refine XC.ret ?_
   refine XE.thenRet ?_
   refine XE.ret2 rfl rfl rfl (post_of .h1 rfl ?_)
   have e : s.readE n a m = 1 := by unfold FF.readE; rw [if_neg (by omega), if_pos (by omega)]
   exact ⟨by rw [show s.readV n a m = ByteArray.empty from by unfold FF.readV; rw [if_neg (by omega)], e]; rfl, rfl⟩
  ·
   refine XO.guardRun rfl rfl rfl ?_
   refine XO.mv rfl rfl ?_
   refine XO.guardRun rfl rfl rfl ?_
   refine XO.v (V.cmp rfl rfl rfl) rfl ?_
   refine XO.v (V.pick rfl rfl rfl rfl) rfl ?_
   refine XO.nk [(0, _), (1, _), (2, _), (3, _), (25, _)] (S5 rfl rfl rfl rfl rfl) ?_
   refine XC.condP rfl (fun h3 => ?_) (fun h3 => ?_)
   ·
    refine XC.sr ?_
    refine XO.as rfl rfl ?_
    refine XO.as rfl rfl ?_
    refine XO.nk [(8, _), (9, _)] (S2 rfl rfl) ?_
    refine XC.ret ?_
    refine XE.thenRet ?_
    refine XE.ret2 rfl rfl rfl (post_of .h1 rfl ?_)
    have e : s.readE n a m = 1 := by unfold FF.readE; rw [if_neg (by omega), if_pos (by omega)]
    exact ⟨by rw [show s.readV n a m = ByteArray.empty from by unfold FF.readV; rw [if_neg (by omega)], e]; rfl, rfl⟩
   ·
    refine XC.skip ?_
    refine XE.next ?_
    refine XC.keep [(0, _), (1, _), (2, _), (3, _)] (S4 rfl rfl rfl rfl) ?_
    refine XC.sr ?_
    refine XO.as rfl rfl ?_
    refine XO.nk [(0, _), (1, _), (2, _), (3, _), (11, _)] (S5 rfl rfl rfl rfl rfl) ?_
    refine XC.sr ?_
    refine XO.mv rfl rfl ?_
    refine XO.mv rfl rfl ?_
    refine XO.v (V.nilCheckP rfl) rfl ?_
    refine XO.v (V.fieldAddr rfl fo_34_0) rfl ?_
    refine XO.v (V.indexArr rfl rfl ar_32 (by omega)) rfl ?_
    refine XO.v (V.fieldAddr rfl fo_31_5) rfl ?_
    refine XO.v (V.load rfl (inXM .here) (encM.ld_N_Data _ _ (by omega)) sc_9) rfl ?_
    refine XO.as rfl rfl ?_
    refine XO.nk [(2, _), (3, _), (11, _), (12, _)] (S4 rfl rfl rfl rfl) ?_
    refine XC.seq ?_
    refine XC.sr ?_
    refine XO.mv rfl rfl ?_
    refine XO.as rfl rfl ?_
    refine XO.nk [(3, _), (11, _), (12, _), (13, _)] (S4 rfl rfl rfl rfl) ?_
    refine XC.block ?_
    refine XC.loop (σ := Int) (fun i => ((s.data n).size - i).toNat) (fun i => a ≤ i ∧ (i ≤ (s.data n).size ∨ i = a) ∧ i - a ≤ m) (fun i => [(11, .string ((s.data n).extract a.toNat i.toNat)), (13, .int .i64 i), (3, .int .i64 m), (12, .string (s.data n))]) (fun i => XM W (foot [.cells b o 321 (encM s)]) [.cells b o 321 (encM s)]) (a) ?_ (Sub.cons (eqs (extract_self _ _).symm) (S3 rfl rfl rfl)) (fun _ hw => XM.pick .h1 hw) ?_
    ·
     exact ⟨by omega, .inr rfl, by omega⟩
    intro i hi
    obtain ⟨hi1, hi2, hi3⟩ := hi
    have hes : ((s.data n).extract a.toNat i.toNat).size = min i.toNat (s.data n).size - a.toNat := ByteArray.size_extract
    refine XC.seq ?_
    refine XC.sr ?_
    refine XO.mv rfl rfl ?_
    refine XO.mv rfl rfl ?_
    refine XO.v (V.lenStr rfl Tryz.underlying9) rfl ?_
    refine XO.v (V.cmp rfl rfl rfl) rfl ?_
    refine XO.mv rfl rfl ?_
    refine XO.splitP (d := 38) rfl (fun h4 => ?_) (fun h4 => ?_)
    ·
     refine XO.guardRun rfl rfl rfl ?_
     refine XO.mv rfl rfl ?_
     refine XO.guardRun rfl rfl rfl ?_
     refine XO.v (V.lenStr rfl Tryz.underlying9) rfl ?_
     refine XO.guardRun rfl rfl rfl ?_
     refine XO.mv rfl rfl ?_
     refine XO.guardRun rfl rfl rfl ?_
     refine XO.v (V.cmp rfl rfl rfl) rfl ?_
     refine XO.v (V.pick rfl rfl rfl rfl) rfl ?_
     refine XO.nk [(3, _), (11, _), (12, _), (13, _), (43, _)] (S5 rfl rfl rfl rfl rfl) ?_
     refine XC.condP rfl (fun h5 => ?_) (fun h5 => ?_)
     ·
      refine XC.skip ?_
      refine XE.next ?_
      refine XC.keep [(3, _), (11, _), (12, _), (13, _)] (S4 rfl rfl rfl rfl) ?_
      refine XC.seq ?_
      refine XC.block ?_
      refine XC.region ?_
      refine XO.mv rfl rfl ?_
      refine XO.mv rfl rfl ?_
      refine XO.mv rfl rfl ?_
      refine XO.mv rfl rfl ?_
      refine XO.v (V.add rfl rfl _ (IntWalk.i64_in _ (by omega))) rfl ?_
      refine XO.v (V.slice2 rfl rfl rfl Tryz.underlying9 (by omega)) rfl ?_
      refine XO.v (V.concat rfl rfl (by rw [hes, ByteArray.size_extract]; omega)) rfl ?_
      refine XO.as rfl rfl ?_
      refine XO.nil ?_
      refine XE.blockNormal ?_
      refine XE.next ?_
      refine XC.keep [(3, _), (11, _), (12, _), (13, _)] (S4 rfl rfl rfl rfl) ?_
      refine XC.region ?_
      refine XO.mv rfl rfl ?_
      refine XO.v (V.add rfl rfl _ (IntWalk.i64_in _ (by omega))) rfl ?_
      refine XO.as rfl rfl ?_
      refine XO.nil ?_
      refine XE.again (i + 1) ?_ ?_ (Sub.cons (eqs (extract_snoc _ _ _ _ _ (by omega) (by omega) (by omega) (by omega))) (S3 rfl rfl rfl)) (fun _ hw => XM.pick .h1 hw)
      ·
       omega
      ·
       exact ⟨by omega, by omega, by omega⟩
     ·
      refine XC.exit ?_
      refine XE.thenExit ?_
      refine XE.thenExit ?_
      refine XE.blockExit ?_
      refine XE.next ?_
      refine XC.keep [(11, _)] (S1 rfl) ?_
      refine XC.sr ?_
      refine XO.mv rfl rfl ?_
      refine XO.as rfl rfl ?_
      refine XO.as rfl rfl ?_
      refine XO.nk [(8, _), (9, _)] (S2 rfl rfl) ?_
      refine XC.ret ?_
      refine XE.ret2 rfl rfl rfl (post_of .h1 rfl ?_)
      have e : s.readE n a m = 0 := by unfold FF.readE; rw [if_neg (by omega), if_neg (by omega)]
      exact ⟨by rw [show s.readV n a m = _ from by unfold FF.readV; rw [if_pos e], e, read_end (s.data n) a i m (by omega) (by omega) hi1 hi2 hi3 (by omega)], rfl⟩
    ·
     refine XO.guardSkip rfl rfl rfl rfl rfl ?_
     refine XO.guardSkip rfl rfl rfl rfl rfl ?_
     refine XO.guardSkip rfl rfl rfl rfl rfl ?_
     refine XO.guardSkip rfl rfl rfl rfl rfl ?_
     refine XO.v (V.pick rfl rfl rfl rfl) rfl ?_
     refine XO.nk [(3, _), (11, _), (12, _), (13, _), (43, _)] (S5 rfl rfl rfl rfl rfl) ?_
     refine XC.condF rfl rfl ?_
     refine XC.exit ?_
     refine XE.thenExit ?_
     refine XE.thenExit ?_
     refine XE.blockExit ?_
     refine XE.next ?_
     refine XC.keep [(11, _)] (S1 rfl) ?_
     refine XC.sr ?_
     refine XO.mv rfl rfl ?_
     refine XO.as rfl rfl ?_
     refine XO.as rfl rfl ?_
     refine XO.nk [(8, _), (9, _)] (S2 rfl rfl) ?_
     refine XC.ret ?_
     refine XE.ret2 rfl rfl rfl (post_of .h1 rfl ?_)
     have e : s.readE n a m = 0 := by unfold FF.readE; rw [if_neg (by omega), if_neg (by omega)]
     exact ⟨by rw [show s.readV n a m = _ from by unfold FF.readV; rw [if_pos e], e, read_end (s.data n) a i m (by omega) (by omega) hi1 hi2 hi3 (by omega)], rfl⟩
end Go.X
