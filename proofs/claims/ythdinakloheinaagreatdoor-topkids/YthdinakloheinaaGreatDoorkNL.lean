import Derived.Test.YthdinakloheinaaGreatDoorkVW5
import Derived.Test.YthdinakloheinaaGreatDoorkKW
import Derived.Test.YthdinakloheinaaGreatDoorkGW4
import Derived.Test.YthdinakloheinaaGreatDoorkVW2
import Derived.Test.YthdinakloheinaaGreatDoorkGPl
import Derived.Test.YthdinakloheinaaGreatDoorXLay
import Derived.Test.YthdinakloheinaaGreatDoorXClose
import Derived.Test.YthdinakloheinaaGreatDoorXMore
import Derived.Test.YthdinakloheinaaGreatDoorXFam
namespace Go.X.Vm
open Go Go.Proofs Go.X
set_option maxRecDepth 20000
set_option maxHeartbeats 4000000

theorem v_dropN (kb pb : Nat) (v : VB) (hv : v.Ok) (f : Int) (hf : 0 ≤ f ∧ f < 64) (h1 : 1 ≤ v.rf f) : Spec Tryz.prog 179 [ptr kb 0 0, .int .i64 f]
 [.cells kb 0 577 (encK pb v.by_ v.rf), .cells pb 0 71 (encP v.bb.pool)]
 (fun x H1 => x = .tuple #[] ∧ H1 = [.cells kb 0 577 (encK pb (v.drop f).by_ (v.drop f).rf), .cells pb 0 71 (encP (v.drop f).bb.pool)]) := by
  have hb := hv.rf f
  refine Spec.go 27 [0, 1, 20] [] Tryz.func179 rfl rfl rfl ?_
  intro W
  refine rq [0, 1, 2, 3, 4, 5, 6, 7, 8, 9, 10] mixed (by kernel_rfl) ?_
  refine sd (by omega) ?_
  refine ld .here (encK.ld_refs_I _ _ _ _ (by omega)) ?_
  refine sd (by omega) ?_
  refine sd (by omega) ?_
  refine st .here (encK.st_refs_I _ _ _ _ (by omega) _) rfl ?_
  refine sd (by omega) ?_
  refine ld .here (encK.ld_refs_I _ _ _ _ (by omega)) ?_
  have e1 : fset v.rf f (v.rf f - 1) f = v.rf f - 1 := fset_eq _ _ _
  refine cd rfl ?_ ?_ <;> intro h1
  · skip
    refine ld .here (encK.ld_p _ _ _) ?_
    refine ca (p_Give _ _ _ hv.bb _) (.cons (.there .here) .nil) ?_
    rintro _ _ ⟨rfl, rfl⟩
    refine gO ?_
    refine XE.end0 rfl (post_of (.cons (.there .here) .h1) rfl ?_)
    rw [VB.drop_p (by omega)]; exact ⟨rfl, rfl⟩
  · skip
    refine XE.end0 rfl (post_of .h2 rfl ?_)
    rw [VB.drop_n (by omega)]; exact ⟨rfl, rfl⟩
set_option maxHeartbeats 8000000 in
theorem v_UnmapN (kb pb mb : Nat) (v : VB) (hv : v.Ok) (p : Option Addr) (c : Nat) (m : MS) (hm : m.Ok) (hin : m.In v) (a n : Int) : Spec Tryz.prog 107 [ptr mb 0 0, .int .i64 a, .int .i64 n]
 [.cells kb 0 577 (encK pb v.by_ v.rf), .cells pb 0 71 (encP v.bb.pool), .cells mb 0 34 (encN kb p (runs m.is_).length c m.fr m.own), frow p c 171 3 (runs m.is_).length (rgC (runs m.is_))]
 (fun x H1 => x = .tuple #[.int .i64 (m.unmap v a n).1, errv 102 (m.unmap v a n).2.1] ∧ ∃ p2 c2, H1 = [.cells kb 0 577 (encK pb (m.unmap v a n).2.2.1.by_ (m.unmap v a n).2.2.1.rf), .cells pb 0 71 (encP (m.unmap v a n).2.2.1.bb.pool), .cells mb 0 34 (encN kb p2 (runs (m.unmap v a n).2.2.2.is_).length c2 (m.unmap v a n).2.2.2.fr (m.unmap v a n).2.2.2.own), frow p2 c2 171 3 (runs (m.unmap v a n).2.2.2.is_).length (rgC (runs (m.unmap v a n).2.2.2.is_))]) := by
  refine Spec.go 59 [0, 1, 2, 6, 7, 8, 9, 11, 16, 21, 22, 23, 24, 34] [] Tryz.func107 rfl rfl rfl ?_
  intro W
  refine ca (v_span _ _) .nil ?_
  rintro _ _ ⟨rfl, rfl⟩
  refine gO ?_
  refine cd rfl ?_ ?_ <;> intro h1
  · skip
    have hb : badS a n := by
      by_cases q : badS a n
      · exact q
      · exact absurd (if_neg q) h1
    refine XE.ret2 rfl rfl rfl (post_of .h4 rfl ?_)
    exact ⟨by rw [if_pos hb, MS.unmap_bad hb]; rfl, p, c, by rw [MS.unmap_bad hb]⟩
  · skip
    have hb : ¬ badS a n := fun q => h1 (fun q2 => by rw [if_pos q] at q2; omega)
    have hb2 := hb
    unfold badS at hb2
    have hn : 0 < n := by omega
    have hL := runs_len m.is_
    refine ca (v_carve _ _ _ _ _ hm _ _ hb) (.cons (.t2 .here) (.cons (.t2 .here) .nil)) ?_
    rintro _ _ ⟨p4, c4, p5, c5, rfl, rfl⟩
    have hcl := carved_len (runs m.is_) a n
    rw [hits_span hm.f hb]
    generalize hq : spanL (fun i => m.is_ i != 0) a n.toNat = l
    have hls : ∀ i ∈ l, a ≤ i ∧ i < a + n := fun i hi => by rw [← hq, mem_spanL] at hi; omega
    have hst : l.Pairwise (fun x y => x < y) := hq ▸ spanL_sorted _
    have hle : l.length ≤ 16 := by rw [← hq]; have := spanL_len (p := fun i => m.is_ i != 0) (a := a) n.toNat; omega
    refine gO ?_
    refine lp (σ := Int) (fun i => (l.length - i).toNat) (fun i => 0 ≤ i ∧ i ≤ l.length) (fun i => [(23, .int .i64 i), (9, .int .i64 (unL v m.fr (l.take i.toNat)).1), (0, ptr mb 0 0), (21, .slice p5 l.length c5), (22, .int .i64 l.length)]) (fun i => XM W (foot [.cells kb 0 577 (encK pb v.by_ v.rf), .cells pb 0 71 (encP v.bb.pool), .cells mb 0 34 (encN kb p (runs m.is_).length c m.fr m.own), frow p c 171 3 (runs m.is_).length (rgC (runs m.is_))]) [.cells kb 0 577 (encK pb (unL v m.fr (l.take i.toNat)).2.by_ (unL v m.fr (l.take i.toNat)).2.rf), .cells pb 0 71 (encP (unL v m.fr (l.take i.toNat)).2.bb.pool), .cells mb 0 34 (encN kb p4 ((runs m.is_).flatMap (cvR a n)).length c4 (cut0 m.fr (l.take i.toNat)) (cutF m.own (l.take i.toNat))), frow p4 c4 171 3 ((runs m.is_).flatMap (cvR a n)).length (rgC ((runs m.is_).flatMap (cvR a n))), irow p5 c5 3 l]) (0) ?_ (S5 rfl rfl rfl rfl rfl) (fun _ hw => by show XM _ _ [_, _, .cells mb 0 34 (encN kb p4 _ c4 (cut0 m.fr []) (cutF m.own [])), _, _] _; rw [cut0_nil, cutF_nil]; exact XM.pick (.cons (.t3 .here) (.cons (.t3 .here) .h3)) hw) ?_
    · skip
      omega
    intro i hi
    refine gC ?_
    refine cd rfl ?_ ?_ <;> intro h2
    · skip
      refine XR.openRow (.t4 .here) (by omega) ?_
      intro g1 h3
      subst h3
      refine sd (by omega) ?_
      refine ldR (.t4 .here) (ints_at (by omega)) ?_
      have hmm := at0_mem (l := l) (i := i) (by omega)
      have ha := hls _ hmm
      have hnew := at0_new hst (i := i) (by omega)
      have e0 : cut0 m.fr (l.take i.toNat) (at0 l i) = m.fr (at0 l i) := by unfold cut0; rw [if_neg hnew]
      have hit := itake (l := l) (i := i) (by omega)
      have hu := unL_ok hv hm hin _ (l.take i.toNat) rfl (nodup_take hst _)
      have hTl : (l.take i.toNat).length ≤ 16 := by rw [List.length_take]; omega
      have hlo := hm.lo (at0 l i)
      refine sd (by omega) ?_
      refine ld (.t2 .here) (encN.ld_p_I_frame _ _ _ _ _ _ _ (by omega)) ?_
      refine cd rfl ?_ ?_ <;> intro h4
      · skip
        have hpos : 0 < m.fr (at0 l i) := by omega
        have hrf : 1 ≤ (unL v m.fr (l.take i.toNat)).2.rf (cut0 m.fr (l.take i.toNat) (at0 l i) - 1) := by
          rw [e0, hu.2.2 (m.fr (at0 l i) - 1) (fun j hj q => hnew ((hm.inj _ j hpos (by omega)) ▸ hj))]; exact hin _ hpos
        refine rq [0, 1, 2, 3, 4, 5, 6, 7, 8, 9, 10, 11] mixed (by kernel_rfl) ?_
        refine ld (.t2 .here) (encN.ld_b _ _ _ _ _ _) ?_
        refine sd (by omega) ?_
        refine ld (.t2 .here) (encN.ld_p_I_frame _ _ _ _ _ _ _ (by omega)) ?_
        refine ca (v_dropN _ _ _ hu.1 (cut0 m.fr (l.take i.toNat) (at0 l i) - 1) (by omega) hrf) .h2 ?_
        rintro _ _ ⟨rfl, rfl⟩
        refine gO ?_
        refine XO.v (V.build (vs := #[(0, .int .i64 (-1))]) rfl (v := .agg #[.int .i64 (-1), .bool false]) (fun _ => by kernel_rfl)) rfl (gO ?_)
        refine sd (by omega) ?_
        refine stA (.t2 .here) (encN_spage _ _ _ _ _ _ _ _ _ (by omega)) rfl ⟨rfl, rfl⟩ ?_
        refine sd (by omega) ?_
        refine sd (by omega) ?_
        have hS : (unL v m.fr (l.take (i + 1).toNat)) = ((unL v m.fr (l.take i.toNat)).1 + 1, (unL v m.fr (l.take i.toNat)).2.drop (cut0 m.fr (l.take i.toNat) (at0 l i) - 1)) := by rw [hit, unL_snoc]; unfold unS; rw [if_pos hpos, e0]
        have hC : cut0 m.fr (l.take (i + 1).toNat) = fset (cut0 m.fr (l.take i.toNat)) (at0 l i) (-1 + 1) := by rw [hit, cut0_snoc]
        have hF : cutF m.own (l.take (i + 1).toNat) = fset (cutF m.own (l.take i.toNat)) (at0 l i) false := by rw [hit, cutF_snoc]
        refine ag (i + 1) ?_ ?_ (S5 rfl (by show lk _ _ = some (.int .i64 (unL v m.fr (l.take (i + 1).toNat)).1); rw [hS]; rfl) rfl rfl rfl) (fun _ hw => by show XM _ _ [.cells kb 0 577 (encK pb (unL v m.fr (l.take (i + 1).toNat)).2.by_ (unL v m.fr (l.take (i + 1).toNat)).2.rf), .cells pb 0 71 (encP (unL v m.fr (l.take (i + 1).toNat)).2.bb.pool), .cells mb 0 34 (encN kb p4 ((runs m.is_).flatMap (cvR a n)).length c4 (cut0 m.fr (l.take (i + 1).toNat)) (cutF m.own (l.take (i + 1).toNat))), frow p4 c4 171 3 ((runs m.is_).flatMap (cvR a n)).length (rgC ((runs m.is_).flatMap (cvR a n))), _] _; rw [hS, hC, hF]; exact XM.pick .h5 hw)
        · skip
          (first | omega | (simp; done) | (simp; omega))
        · skip
          (first | omega | (simp; done) | (simp; omega))
      · skip
        refine sd (by omega) ?_
        have h0 : m.fr (at0 l i) = 0 := by omega
        have hS : (unL v m.fr (l.take (i + 1).toNat)) = (unL v m.fr (l.take i.toNat)) := by rw [hit, unL_snoc]; unfold unS; rw [if_neg (by omega)]
        have hC : cut0 m.fr (l.take (i + 1).toNat) = cut0 m.fr (l.take i.toNat) := by rw [hit, cut0_same h0]
        have hF : cutF m.own (l.take (i + 1).toNat) = cutF m.own (l.take i.toNat) := by rw [hit, cutF_same (hm.ow _ h0)]
        refine ag (i + 1) ?_ ?_ (S5 rfl (by show lk _ _ = some (.int .i64 (unL v m.fr (l.take (i + 1).toNat)).1); rw [hS]; rfl) rfl rfl rfl) (fun _ hw => by show XM _ _ [.cells kb 0 577 (encK pb (unL v m.fr (l.take (i + 1).toNat)).2.by_ (unL v m.fr (l.take (i + 1).toNat)).2.rf), .cells pb 0 71 (encP (unL v m.fr (l.take (i + 1).toNat)).2.bb.pool), .cells mb 0 34 (encN kb p4 ((runs m.is_).flatMap (cvR a n)).length c4 (cut0 m.fr (l.take (i + 1).toNat)) (cutF m.own (l.take (i + 1).toNat))), frow p4 c4 171 3 ((runs m.is_).flatMap (cvR a n)).length (rgC ((runs m.is_).flatMap (cvR a n))), _] _; rw [hS, hC, hF]; exact XM.pick .h5 hw)
        · skip
          (first | omega | (simp; done) | (simp; omega))
        · skip
          (first | omega | (simp; done) | (simp; omega))
    · skip
      have e : (l.take i.toNat) = l := List.take_of_length_le (by omega)
      rw [e]
      have eu := MS.unmap_ok v hm hb
      rw [hq] at eu
      refine ca (v_tidy _ _ _ _ _ _ _ _ (hm.f.setI hb (.inl rfl)) (carved_gl (runs_ok hm.f) hn) (carved_cov (runs_ok hm.f) (runs_cov hm.f) hn) (by first | omega | (simp only [List.length_append, List.length_singleton]; omega))) (.cons (.t2 .here) (.cons (.t2 .here) .nil)) ?_
      rintro _ _ ⟨rfl, p2, c2, rfl⟩
      refine gO ?_
      refine XE.ret2 rfl rfl rfl (post_of (.cons (.t2 .here) (.cons (.t2 .here) .h2)) rfl ?_)
      exact ⟨by rw [eu]; rfl, p2, c2, by rw [eu]⟩
end Go.X.Vm

namespace Go.X.Kn
open Go Go.Proofs Go.X
set_option maxRecDepth 20000
set_option maxHeartbeats 4000000
theorem sc_3 : scal Tryz.prog 3 = true := by kernel_rfl
theorem sz_3_1 : szOf Tryz.prog 3 = some 1 := by kernel_rfl
theorem k_Child (kb : Nat) (k : KP) (n : Int) (hn : 0 ≤ n ∧ n < 20) : Spec Tryz.prog 58 [ptr kb 0 (offB n)]
 [.cells kb 0 453 (encKn k)]
 (fun v H1 => ∃ c, v = ptr c 0 0 ∧ H1 = [.cells c 0 11 (Sg.encB (k.u n).bx.child), .cells kb 0 453 (encKn k)]) := by
  refine Spec.go 8 [0, 2, 3] [] Tryz.func58 rfl rfl rfl ?_
  intro W
  refine ldA .here (encKn.ld_bx _ (by omega)) ?_
  refine XO.allocZ (z := .agg #[.int .u16 0, .int .u16 0, .int .i64 0, .int .i64 0, .int .i64 0, .int .i64 0, .int .i64 0, .int .i64 0, .int .i64 0, .int .i64 0, .int .i64 0]) (m := 11) (C := Sg.encB Sg.BS.init) (by kernel_rfl) rfl Sg.boxB_init rfl ?_
  intro c
  refine gO ?_
  refine stA .here (Sg.encB_put Sg.encB_out _) rfl ⟨rfl, rfl⟩ ?_
  refine st .here (Sg.encB_wait _ (w' := fun _ => false) rfl) rfl ?_
  refine XE.ret1 rfl rfl (post_of .h2 rfl ?_)
  try dsimp only [SW.den, SV.den, dens, ofC]
  exact ⟨c, rfl, rfl⟩
theorem k_away (kb : Nat) (k : KP) (n : Int) (hn : 0 ≤ n ∧ n < 20) (g : Gr.TG) (hO : g.Ok) (Bd : Int) (hB : 0 ≤ Bd ∧ Bd ≤ 1000000000000) (hS : g.Small Bd) (s : Sp.SS) (dep : Int → Nat) (hI : s.Inv dep) : Spec Tryz.prog 64 [ptr kb 0 0, .int .i64 n]
 [.cells kb 0 453 (encKn k), .cells k.gb 0 60 (Gr.encGt g), .cells k.sb 0 158 (Sp.encT s)]
 (fun v H1 => H1 = [.cells kb 0 453 (encKn (k.put n PU.nil)), .cells k.gb 0 60 (Gr.encGt (g.unch (k.u n).grp 1 0)), .cells k.sb 0 158 (Sp.encT (s.leave n).2)]) := by
  refine Spec.go 28 [0, 1] [] Tryz.func64 rfl rfl rfl ?_
  intro W
  refine rq [0, 1, 2, 3, 4, 5, 6, 7, 8, 9, 10, 11] mixed (by kernel_rfl) ?_
  refine ld .here (encKn.ld_g _) ?_
  refine sd (by omega) ?_
  refine ld .here (encKn.ld_grp _ (by omega)) ?_
  refine ca (Gr.g_uncharge _ _ g hO _ _ _ Bd hB hS) (.cons (.there .here) .nil) ?_
  rintro _ _ ⟨rfl, rfl⟩
  refine gO ?_
  refine ld (.there .here) (encKn.ld_s _) ?_
  refine ca (Sp.t_Leave _ _ s dep hI.D n (fun a b c => ⟨(hI.loc n).2, hI.at_ n a b c⟩) (fun a m q e => by have h9 := hI.mem m q n a e; exact ⟨h9.2.2.2.2, by omega, h9.2.2.1⟩)) (.cons (.t2 .here) .nil) ?_
  rintro _ _ ⟨rfl, rfl⟩
  refine gO ?_
  refine XO.v (V.build (vs := #[]) rfl (v := .agg PU.nil.arr) (fun _ => by kernel_rfl)) rfl (gO ?_)
  refine sd (by omega) ?_
  refine stA (.t2 .here) (encKn.put_ _ (by omega) PU.nil) rfl ⟨rfl, rfl⟩ ?_
  refine XE.end0 rfl (post_of (.cons (.t2 .here) (.cons (.there .here) .h1)) rfl ?_)
  try dsimp only [SW.den, SV.den, dens, ofC]
  all_goals rfl
theorem k_shutN (kb : Nat) (k : KP) (s : Sp.SS) (z : Int) (hd : (s.drop z).1 ≠ 0) : Spec Tryz.prog 65 [ptr kb 0 0, .int .i64 z]
 [.cells kb 0 453 (encKn k), .cells k.sb 0 158 (Sp.encT s)]
 (fun v H1 => H1 = [.cells kb 0 453 (encKn k), .cells k.sb 0 158 (Sp.encT s)]) := by
  refine Spec.go 23 [0, 1, 10] [] Tryz.func65 rfl rfl rfl ?_
  intro W
  refine ld .here (encKn.ld_s _) ?_
  refine ca (Sp.t_Drop _ _ s z) (.cons (.there .here) .nil) ?_
  rintro _ _ ⟨rfl, rfl⟩
  refine gO ?_
  refine cdF rfl (hd) ?_
  refine XE.end0 rfl (post_of (.cons (.there .here) .h1) rfl ?_)
  try dsimp only [SW.den, SV.den, dens, ofC]
  all_goals rw [SS.drop_no hd]
theorem k_settleQ (kb : Nat) (k : KP) (n : Int) (hn : 0 ≤ n ∧ n < 20) (o : Bool) (hq : Quiet (k.u n).bx) : Spec Tryz.prog 74 [ptr kb 0 0, .int .i64 n, .bool o]
 [.cells kb 0 453 (encKn k), .ro 0 0 32 Sg.tab32]
 (fun v H1 => H1 = [.cells kb 0 453 (encKn k)]) := by
  refine Spec.go 36 [0, 1, 2, 6, 7, 30] [] Tryz.func74 rfl rfl rfl ?_
  intro W
  refine XR.mono (fun _ hw3 => XM.openB (n := n) (by omega) .h1 hw3) ?_
  refine sd (by omega) ?_
  refine caR 1 (Sg.s_Ends kb (0 + offB n) _ hq.z) (.cons .here (.cons (.t2 .here) .nil)) rfl ?_
  rintro _ _ ⟨rfl, rfl⟩
  refine gO ?_
  refine XR.mono (fun _ hw3 => XM.sameB (n := n) (by omega) (.cons .here (.cons (.there .here) (.cons (.there .here) .nil))) hw3) ?_
  refine spF 19 rfl (by have := hq.e; omega) ?_
  refine XE.end0 rfl (post_of .h1 rfl ?_)
  try dsimp only [SW.den, SV.den, dens, ofC]
  all_goals rfl
theorem k_sendQ (kb : Nat) (k : KP) (n : Int) (o : Bool) (hq : k.live n = 0 → Quiet (k.u n).bx) : Spec Tryz.prog 71 [ptr kb 0 0, .int .i64 n, .int .i64 3, .bool o]
 [.cells kb 0 453 (encKn k), .ro 0 0 32 Sg.tab32]
 (fun v H1 => H1 = [.cells kb 0 453 (encKn k)]) := by
  refine Spec.go 27 [0, 1, 2, 3, 8, 9, 17] [] Tryz.func71 rfl rfl rfl ?_
  intro W
  refine ca (k_live kb _ _) .h1 ?_
  rintro _ _ ⟨⟨hl, rfl⟩ | ⟨hl, rfl⟩, rfl⟩
  · skip
    try dsimp only [errvL0, errvL1, errvL2, errvL3, errvL4, errvL5, errvL6, errvL7, errvL8, errvL9, errvL10, errvL11, errvL12, errvL13]
    obtain ⟨hlr, hls⟩ := KP.live_rng hl
    refine gO ?_
    refine XR.mono (fun _ hw3 => XM.openB (n := n) (by omega) .h1 hw3) ?_
    refine ca (Sg.s_Send kb (0 + offB n) _ 3) .h1 ?_
    rintro _ _ ⟨rfl, rfl⟩
    refine gO ?_
    rw [(hq hl).kid]
    refine XR.mono (fun _ hw3 => XM.sameB (n := n) (by omega) .h3 hw3) ?_
    refine caR 1 (k_settleQ kb _ n hlr o (hq hl)) .h2 rfl ?_
    rintro _ _ rfl
    refine gO ?_
    refine XE.end0 rfl (post_of .h1 rfl ?_)
    try dsimp only [SW.den, SV.den, dens, ofC]
    all_goals rfl
  · skip
    try dsimp only [errvL0, errvL1, errvL2, errvL3, errvL4, errvL5, errvL6, errvL7, errvL8, errvL9, errvL10, errvL11, errvL12, errvL13]
    refine gO ?_
    refine XE.ret0 rfl (post_of .h1 rfl ?_)
    try dsimp only [SW.den, SV.den, dens, ofC]
    all_goals rfl
set_option maxHeartbeats 8000000 in
theorem k_endN (kb : Nat) (k : KP) (n co : Int) (hn : 0 ≤ n ∧ n < 20) (g : Gr.TG) (hO : g.Ok) (Bd : Int) (hB : 0 ≤ Bd ∧ Bd ≤ 1000000000000) (hS : g.Small Bd) (q : Fa.SC) (d : Int → Nat) (hQ : q.toSF.Inv d) (hR : q.Rep) (vp mb : Nat) (v : Vm.VB) (hv : v.Ok) (p : Option Addr) (c : Nat) (m : Vm.MS) (hm : m.Ok) (hin : m.In v) (hmem : (k.u n).mem = ptr mb 0 0) (hf : ∀ i, (k.u n).fd i = 0) : Spec Tryz.prog 129 [ptr kb 0 0, .int .i64 n, .int .i64 co]
 [.cells kb 0 453 (encKn k), .cells k.gb 0 60 (Gr.encGt g), .cells k.qb 0 2281 (Fa.encS q), .fam Fa.fam30 (Fa.SC.rows 254 q), .cells k.bb 0 577 (Vm.encK vp v.by_ v.rf), .cells vp 0 71 (Vm.encP v.bb.pool), .cells mb 0 34 (Vm.encN k.bb p (Vm.runs m.is_).length c m.fr m.own), frow p c 171 3 (Vm.runs m.is_).length (Vm.rgC (Vm.runs m.is_))]
 (fun x H1 => ∃ t : Fa.SC, t.toSF = q.toSF.dropT d n ∧ t.Rep ∧ ∃ pu cu, H1 = [.cells kb 0 453 (encKn (k.ended n co)), .cells k.gb 0 60 (Gr.encGt (g.unch (k.u n).grp 0 (m.unmap v 0 16).1)), .cells k.qb 0 2281 (Fa.encS t), .fam Fa.fam30 (Fa.SC.rows 254 t), .cells k.bb 0 577 (Vm.encK vp (m.unmap v 0 16).2.2.1.by_ (m.unmap v 0 16).2.2.1.rf), .cells vp 0 71 (Vm.encP (m.unmap v 0 16).2.2.1.bb.pool), .cells mb 0 34 (Vm.encN k.bb pu (Vm.runs (m.unmap v 0 16).2.2.2.is_).length cu (m.unmap v 0 16).2.2.2.fr (m.unmap v 0 16).2.2.2.own), frow pu cu 171 3 (Vm.runs (m.unmap v 0 16).2.2.2.is_).length (Vm.rgC (Vm.runs (m.unmap v 0 16).2.2.2.is_))]) := by
  refine Spec.go 70 [0, 1, 2, 6, 7, 9, 10, 37, 38, 39, 43] [] Tryz.func129 rfl rfl rfl ?_
  intro W
  refine sd (by omega) ?_
  refine ld .here (encKn.ld_memP _ (by omega) hmem) ?_
  refine ca (Vm.v_UnmapN k.bb vp mb v hv _ _ m hm hin 0 16) (.cons (.t4 .here) (.cons (.t4 .here) (.cons (.t4 .here) (.cons (.t4 .here) .nil)))) ?_
  rintro _ _ ⟨rfl, pu, cu, rfl⟩
  refine gO ?_
  refine rq [0, 1, 2, 3, 4, 5, 6, 7, 8, 9] mixed (by kernel_rfl) ?_
  refine ld (.t4 .here) (encKn.ld_g _) ?_
  refine ld (.t4 .here) (encKn.ld_grp _ (by omega)) ?_
  refine ca (Gr.g_uncharge _ _ g hO _ _ _ Bd hB hS) (.cons (.t5 .here) .nil) ?_
  rintro _ _ ⟨rfl, rfl⟩
  refine gO ?_
  refine ldA (.t5 .here) (encKn.ld_fds _ (by omega)) ?_
  refine lp (σ := Int) (fun i => (6 - i).toNat) (fun i => 0 ≤ i ∧ i ≤ 6) (fun i => [(38, .int .i64 i), (0, ptr kb 0 0), (1, .int .i64 n), (2, .int .i64 co), (6, ptr kb 0 (0 + 0 + n.toNat * 22)), (37, .agg (fdA (k.u n).fd))]) (fun i => XM W (foot [.cells kb 0 453 (encKn k), .cells k.gb 0 60 (Gr.encGt g), .cells k.qb 0 2281 (Fa.encS q), .fam Fa.fam30 (Fa.SC.rows 254 q), .cells k.bb 0 577 (Vm.encK vp v.by_ v.rf), .cells vp 0 71 (Vm.encP v.bb.pool), .cells mb 0 34 (Vm.encN k.bb p (Vm.runs m.is_).length c m.fr m.own), frow p c 171 3 (Vm.runs m.is_).length (Vm.rgC (Vm.runs m.is_))]) [.cells kb 0 453 (encKn k), .cells k.gb 0 60 (Gr.encGt (g.unch (k.u n).grp 0 (m.unmap v 0 16).1)), .cells k.qb 0 2281 (Fa.encS q), .fam Fa.fam30 (Fa.SC.rows 254 q), .cells k.bb 0 577 (Vm.encK vp (m.unmap v 0 16).2.2.1.by_ (m.unmap v 0 16).2.2.1.rf), .cells vp 0 71 (Vm.encP (m.unmap v 0 16).2.2.1.bb.pool), .cells mb 0 34 (Vm.encN k.bb pu (Vm.runs (m.unmap v 0 16).2.2.2.is_).length cu (m.unmap v 0 16).2.2.2.fr (m.unmap v 0 16).2.2.2.own), frow pu cu 171 3 (Vm.runs (m.unmap v 0 16).2.2.2.is_).length (Vm.rgC (Vm.runs (m.unmap v 0 16).2.2.2.is_))]) (0) ?_ (S6 rfl rfl rfl rfl rfl rfl) (fun _ hw => XM.pick (.cons (.t5 .here) (.cons .here (.cons (.t4 .here) (.cons (.t4 .here) .h4)))) hw) ?_
  · skip
    omega
  intro i hi
  refine gC ?_
  refine cd rfl ?_ ?_ <;> intro h1
  · skip
    refine XO.v (V.indexArrV rfl rfl Tryz.underlying83 sz_3_1 sc_3 (by omega)) rfl (gO ?_)
    refine cdF rfl (by have := hf i; omega) ?_
    refine sd (by omega) ?_
    refine ag (i + 1) ?_ ?_ (S6 rfl rfl rfl rfl rfl rfl) (fun _ hw => XM.pick .h8 hw)
    · skip
      (first | omega | (simp; done) | (simp; omega))
    · skip
      (first | omega | (simp; done) | (simp; omega))
  · skip
    refine ld .here (encKn.ld_q _) ?_
    refine ca (Fa.f_DropTask _ _ q d hQ hR n) (.cons (.t2 .here) (.cons (.t2 .here) .nil)) ?_
    rintro _ _ ⟨rfl, t, ht, hr, rfl⟩
    refine gO ?_
    refine st (.t2 .here) (encKn.st_st _ (by omega) _) rfl ?_
    refine st (.t2 .here) (encKn.st_code _ (by omega) _) rfl ?_
    refine XE.end0 rfl (post_of (.cons (.t2 .here) (.cons (.t2 .here) .h6)) rfl ?_)
    try dsimp only [SW.den, SV.den, dens, ofC]
    exact ⟨t, ht, hr, pu, cu, by rw [KP.put_u, KP.put_put]; rfl⟩
end Go.X.Kn

namespace Go.X.Fa
open Go Go.Proofs Go.X
set_option maxRecDepth 20000
set_option maxHeartbeats 4000000

theorem f_New  : Spec Tryz.prog 97 []
 []
 (fun v H1 => ∃ p, v = ptr p 0 0 ∧ ∃ t : SC, t.toSF = SF.init ∧ t.Rep ∧ H1 = [.cells p 0 2281 (encS t), .fam fam30 (t.rows 254)]) := by
  refine Spec.go 10 [0, 1] [] Tryz.func97 rfl rfl rfl ?_
  intro W
  refine XO.v (V.build (vs := #[]) rfl (v := .agg arrS) (fun _ => by kernel_rfl)) rfl (gO ?_)
  refine XO.box (m := 2281) (C := encS SC.void) rfl arrS_size arrS_box rfl ?_
  intro p
  refine XO.mono (fun _ hw3 => XM.famVoid 254 hw3) ?_
  refine gO ?_
  refine XO.v (V.build (vs := #[(0, .bool true), (1, .int .i64 (-1)), (2, .int .i64 1)]) rfl (v := .agg (unitArr (freshU true (-1) 1))) (fun _ => by kernel_rfl)) rfl (gO ?_)
  refine sd (by omega) ?_
  refine oS ?_
  refine XO.storeAgg rfl rfl (.there .here) (encS_new _ 0 (-1) 1 true (by omega)) (unitArr_ok _) sz_187_76 ?_
  refine XO.mono (fun _ hw3 => XM.newRow (s := SC.void) (z := 0) (by omega) (.cons .here .nil) hw3) ?_
  refine gO ?_
  refine XE.ret1 rfl rfl (post_of (.cons (.there .here) .h1) rfl ?_)
  try dsimp only [SW.den, SV.den, dens, ofC]
  exact ⟨_, rfl, _, rfl, SC.Rep.void.new rfl (fun i hi => by cases hi) (-1) 1 true, rfl⟩
end Go.X.Fa

namespace Go.X.Tr
open Go Go.X

/-! ### pipes: the state of both programs -/
structure PS where
  b : Int → ByteArray
  e : Int → Int → Int
structure PS.Inv (K : Int) (s : PS) : Prop where
  e0 : ∀ n, 0 ≤ s.e n 0 ∧ s.e n 0 ≤ K
  e1 : ∀ n, 0 ≤ s.e n 1 ∧ s.e n 1 ≤ K
  cl : ∀ n, s.e n 0 + s.e n 1 = 0 → s.b n = ⟨#[]⟩
  len : ∀ n, (s.b n).size ≤ 12
theorem PS.Inv.mono {K K' : Int} {s : PS} (h : s.Inv K) (hk : K ≤ K') : s.Inv K' :=
  ⟨fun n => ⟨(h.e0 n).1, by have := (h.e0 n).2; omega⟩, fun n => ⟨(h.e1 n).1, by have := (h.e1 n).2; omega⟩, h.cl, h.len⟩
def PS.init : PS := ⟨fun _ => ⟨#[]⟩, fun _ _ => 0⟩
theorem PS.Inv.init : PS.init.Inv 0 := ⟨fun _ => by simp [PS.init], fun _ => by simp [PS.init], fun _ _ => rfl, fun _ => by simp [PS.init, ByteArray.size]⟩
def PS.is (s : PS) (n : Int) : Int := if n < 0 ∨ 8 ≤ n then 1 else if s.e n 0 + s.e n 1 = 0 then 2 else 0
def PS.make (s : PS) : Int × Int × PS := match firstN (fun k => s.e k 0 + s.e k 1 == 0) 8 with
  | some k => (k, 0, { s with e := fset2 (fset2 s.e k 0 1) k 1 1 })
  | none => (0, 4, s)
def sel (w : Bool) : Int := if w then 1 else 0
def PS.turn (s : PS) (n : Int) (w : Bool) (d : Int) : Int × PS :=
  if s.is n ≠ 0 then (s.is n, s) else if s.e n (sel w) = 0 then (8, s) else
    (0, { b := if s.e n 0 + s.e n 1 + d = 0 then fset s.b n ⟨#[]⟩ else s.b, e := fset2 s.e n (sel w) (s.e n (sel w) + d) })
def PS.read (s : PS) (n m : Int) : ByteArray × Int × PS :=
  if s.is n ≠ 0 then (⟨#[]⟩, s.is n, s) else if s.e n 0 = 0 then (⟨#[]⟩, 8, s) else if m < 0 then (⟨#[]⟩, 1, s) else
  if s.b n = ⟨#[]⟩ ∧ s.e n 1 > 0 ∧ m > 0 then (⟨#[]⟩, 13, s) else
    ((s.b n).extract 0 (min m (s.b n).size).toNat, 0, { s with b := fset s.b n ((s.b n).extract (min m (s.b n).size).toNat (s.b n).size) })
def PS.write (s : PS) (n : Int) (t : ByteArray) : Int × Int × PS :=
  if s.is n ≠ 0 then (0, s.is n, s) else if s.e n 1 = 0 then (0, 8, s) else if s.e n 0 = 0 then (0, 12, s) else
  if min (t.size : Int) (12 - (s.b n).size) = 0 ∧ t.size > 0 then (0, 13, s) else
    (min (t.size : Int) (12 - (s.b n).size), 0, { s with b := fset s.b n (s.b n ++ t.extract 0 (min (t.size : Int) (12 - (s.b n).size)).toNat) })
def cntN (f : Int → Bool) : Nat → Int
  | 0 => 0
  | n + 1 => cntN f n + if f n then 1 else 0
theorem cntN_le (f : Int → Bool) (n : Nat) : 0 ≤ cntN f n ∧ cntN f n ≤ n := by
  induction n with
  | zero => simp [cntN]
  | succ n ih => simp only [cntN]; split <;> omega
def PS.open (s : PS) : Int := cntN (fun i => decide (s.e i 0 + s.e i 1 > 0)) 8
def encP (s : PS) (i : Nat) : Value :=
  if i % 3 = 0 ∧ i / 3 < 8 then .string (s.b ((i / 3 : Nat) : Int)) else
  if 1 ≤ i ∧ (i - 1) % 3 = 0 ∧ (i - 1) / 3 < 8 then .int .i64 (s.e (((i - 1) / 3 : Nat) : Int) 0) else
  if 2 ≤ i ∧ (i - 2) % 3 = 0 ∧ (i - 2) / 3 < 8 then .int .i64 (s.e (((i - 2) / 3 : Nat) : Int) 1) else
  undef
theorem PS.is_cases (s : PS) (n : Int) : (s.is n = 0 ∧ 0 ≤ n ∧ n < 8 ∧ ¬ s.e n 0 + s.e n 1 = 0) ∨ (s.is n = 1 ∧ (n < 0 ∨ 8 ≤ n)) ∨ (s.is n = 2 ∧ 0 ≤ n ∧ n < 8 ∧ s.e n 0 + s.e n 1 = 0) := by
  unfold PS.is; split
  · exact .inr (.inl ⟨rfl, by assumption⟩)
  · split
    · exact .inr (.inr ⟨rfl, by omega, by omega, by assumption⟩)
    · exact .inl ⟨rfl, by omega, by omega, by assumption⟩

end Go.X.Tr

namespace Go.X.Tr
open Go Go.X
/-! ### names in order -/
abbrev blt (a b : ByteArray) : Bool := Op.bytesLess a.toList b.toList
theorem blt_iff (a b : ByteArray) : blt a b = true ↔ a.toList < b.toList := by unfold blt; rw [Go.Proofs.bytesLess_eq, decide_eq_true_eq]
theorem toList_inj {a b : ByteArray} (h : a.toList = b.toList) : a = b := by
  have := toList_beq a b
  rw [h] at this
  simpa using this.symm
theorem blt_irrefl (a : ByteArray) : blt a a = false := by
  cases h : blt a a with
  | false => rfl
  | true => exact absurd ((blt_iff a a).1 h) (List.lt_irrefl _)
theorem blt_trans {a b c : ByteArray} (h1 : blt a b = true) (h2 : blt b c = true) : blt a c = true := (blt_iff a c).2 (List.lt_trans ((blt_iff a b).1 h1) ((blt_iff b c).1 h2))
theorem blt_total (a b : ByteArray) : blt a b = true ∨ a = b ∨ blt b a = true := by
  rcases Decidable.em (a.toList < b.toList) with h | h
  · exact .inl ((blt_iff a b).2 h)
  · rcases Decidable.em (b.toList < a.toList) with q | q
    · exact .inr (.inr ((blt_iff b a).2 q))
    · refine .inr (.inl (toList_inj ?_))
      exact List.le_antisymm (List.not_lt.1 q) (List.not_lt.1 h)
abbrev ats (l : List ByteArray) (i : Nat) : ByteArray := l.getD i ByteArray.empty
def Rising (l : List ByteArray) : Prop := ∀ i j, i < j → j < l.length → blt (ats l i) (ats l j) = true
def posn : List ByteArray → ByteArray → Nat
  | [], _ => 0
  | y :: r, x => if blt y x = true then posn r x + 1 else 0
theorem posn_le : ∀ (l : List ByteArray) (x : ByteArray), posn l x ≤ l.length
  | [], _ => Nat.le_refl _
  | y :: r, x => by
    unfold posn
    split
    · simp; exact posn_le r x
    · omega
theorem posn_lt : ∀ (l : List ByteArray) (x : ByteArray) (i : Nat), i < posn l x → blt (ats l i) x = true
  | [], _, i, h => by simp [posn] at h
  | y :: r, x, i, h => by
    unfold posn at h
    split at h
    · cases i with
      | zero => simpa [ats] using (by assumption : blt y x = true)
      | succ i => simpa [ats] using posn_lt r x i (by omega)
    · omega
theorem posn_at : ∀ (l : List ByteArray) (x : ByteArray), posn l x < l.length → blt (ats l (posn l x)) x = false
  | [], _, h => by simp at h
  | y :: r, x, h => by
    unfold posn at h ⊢
    split
    · rename_i c
      rw [if_pos c] at h
      simpa [ats] using posn_at r x (by simpa using h)
    · rename_i c
      simpa [ats] using c
theorem posn_ge {l : List ByteArray} (hl : Rising l) (x : ByteArray) {i : Nat} (h : posn l x ≤ i) (hi : i < l.length) : blt (ats l i) x = false := by
  have h1 := posn_at l x (by omega)
  by_cases c : i = posn l x
  · subst c; exact h1
  · have h2 := hl (posn l x) i (by omega) hi
    cases q : blt (ats l i) x with
    | false => rfl
    | true => rw [blt_trans h2 q] at h1; cases h1
def hasn (l : List ByteArray) (x : ByteArray) : Bool := decide (posn l x < l.length ∧ ats l (posn l x) = x)
theorem bsGo_at (less : Nat → Bool) (k N : Nat) (h1 : ∀ t, t < k → less t = true) (h2 : ∀ t, k ≤ t → t < N → less t = false) : ∀ (f lo hi : Nat), hi - lo ≤ f → lo ≤ k → k ≤ hi → hi ≤ N → Go.Lib.bsGo less f lo hi = k
  | 0, lo, hi, hf, a, b, _ => by unfold Go.Lib.bsGo; omega
  | f + 1, lo, hi, hf, a, b, c => by
    unfold Go.Lib.bsGo
    by_cases h : lo < hi
    · rw [if_pos h]
      by_cases q : (lo + hi) / 2 < k
      · rw [h1 _ q, if_pos rfl]; exact bsGo_at less k N h1 h2 f _ _ (by omega) (by omega) b c
      · rw [h2 _ (by omega) (by omega), if_neg (by simp)]; exact bsGo_at less k N h1 h2 f _ _ (by omega) a (by omega) (by omega)
    · rw [if_neg h]; omega
theorem bsS_eq {l : List ByteArray} (hl : Rising l) (x : ByteArray) : bsS l x = posn l x :=
  bsGo_at _ (posn l x) l.length (fun t ht => posn_lt l x t ht) (fun t ht hn => posn_ge hl x ht hn) _ _ _ (by omega) (by omega) (posn_le l x) (Nat.le_refl _)
theorem bsHit_eq {l : List ByteArray} (hl : Rising l) (x : ByteArray) : bsHit l x = hasn l x := by
  unfold bsHit hasn
  rw [bsS_eq hl]
theorem hasn_iff {l : List ByteArray} {x : ByteArray} : hasn l x = true ↔ posn l x < l.length ∧ ats l (posn l x) = x := by unfold hasn; rw [decide_eq_true_eq]
/-- who is there stands at its place, and there alone -/ theorem at_posn {l : List ByteArray} (hl : Rising l) {x : ByteArray} {i : Nat} (hi : i < l.length) (h : ats l i = x) : i = posn l x := by
  rcases Nat.lt_trichotomy i (posn l x) with c | c | c
  · have := posn_lt l x i c
    rw [h, blt_irrefl] at this; cases this
  · exact c
  · have h1 := posn_at l x (by omega)
    have h2 := hl (posn l x) i c hi
    rw [h] at h2; rw [h2] at h1; cases h1
theorem hasn_no {l : List ByteArray} (hl : Rising l) {x : ByteArray} (h : hasn l x = false) {i : Nat} (hi : i < l.length) : ats l i ≠ x := fun e => by
  have h1 := at_posn hl hi e
  have : hasn l x = true := hasn_iff.2 ⟨by omega, by rw [← h1]; exact e⟩
  rw [h] at this; cases this
/-- behind its place all are greater -/ theorem posn_gt {l : List ByteArray} (hl : Rising l) {x : ByteArray} (h : hasn l x = false) {i : Nat} (h1 : posn l x ≤ i) (hi : i < l.length) : blt x (ats l i) = true := by
  rcases blt_total (ats l i) x with c | c | c
  · rw [posn_ge hl x h1 hi] at c; cases c
  · exact absurd c (hasn_no hl h hi)
  · exact c
theorem ats_insert (l : List ByteArray) (p : Nat) (x : ByteArray) (j : Nat) (hp : p ≤ l.length) : ats (l.insertIdx p x) j = if j < p then ats l j else if j = p then x else ats l (j - 1) := by
  unfold ats
  rw [List.getD, List.getElem?_insertIdx]
  by_cases c : j < p
  · rw [if_pos c, if_pos c]; rfl
  · rw [if_neg c, if_neg c]
    by_cases q : j = p
    · rw [if_pos q, if_pos q, if_pos (by omega)]; rfl
    · rw [if_neg q, if_neg q]; rfl
theorem ats_erase (l : List ByteArray) (p j : Nat) : ats (l.eraseIdx p) j = if j < p then ats l j else ats l (j + 1) := by
  unfold ats
  rw [List.getD, List.getElem?_eraseIdx]
  split <;> rfl
theorem Rising.insert {l : List ByteArray} (hl : Rising l) {x : ByteArray} (h : hasn l x = false) : Rising (l.insertIdx (posn l x) x) := fun i j hij hj => by
  have hp := posn_le l x
  rw [List.length_insertIdx, if_pos hp] at hj
  rw [ats_insert _ _ _ _ hp, ats_insert _ _ _ _ hp]
  by_cases c1 : j < posn l x
  · rw [if_pos c1, if_pos (by omega)]; exact hl i j hij (by omega)
  · rw [if_neg c1]
    by_cases c2 : j = posn l x
    · rw [if_pos c2, if_pos (by omega)]; exact posn_lt l x i (by omega)
    · rw [if_neg c2]
      by_cases c3 : i < posn l x
      · rw [if_pos c3]; exact hl i (j - 1) (by omega) (by omega)
      · rw [if_neg c3]
        by_cases c4 : i = posn l x
        · rw [if_pos c4]; exact posn_gt hl h (by omega) (by omega)
        · rw [if_neg c4]; exact hl (i - 1) (j - 1) (by omega) (by omega)
theorem Rising.erase {l : List ByteArray} (hl : Rising l) (p : Nat) (hp : p < l.length) : Rising (l.eraseIdx p) := fun i j hij hj => by
  rw [List.length_eraseIdx, if_pos hp] at hj
  rw [ats_erase, ats_erase]
  split <;> split
  · exact hl i j hij (by omega)
  · exact hl i (j + 1) (by omega) (by omega)
  · omega
  · exact hl (i + 1) (j + 1) (by omega) (by omega)
theorem Rising.nil : Rising [] := fun i j _ h => by simp at h
/-- may something be called so? -/ def okB (c : UInt8) : Bool := (decide (97 ≤ c.toNat) && decide (c.toNat ≤ 122)) || (decide (48 ≤ c.toNat) && decide (c.toNat ≤ 57)) || decide (c.toNat = 46)
def nameOk (s : ByteArray) : Bool := (List.range s.size).all (fun i => okB (s.get! i)) && (decide (1 ≤ s.size ∧ s.size ≤ 8) && (decide (s ≠ ⟨#[46]⟩) && decide (s ≠ ⟨#[46, 46]⟩)))
/-! ### a forest -/
structure FF where
  kind : Int → Int
  tree : Int → Int
  links : Int → Int
  held : Int → Int
  up : Int → Int
  data : Int → ByteArray
  names : Int → List ByteArray
  kids : Int → List Int
  roots : List Int
structure FC extends FF where
  nP : Int → Option Addr
  nC : Int → Nat
  kP : Int → Option Addr
  kC : Int → Nat
  rP : Option Addr
  rC : Nat
/-- bytes written into bytes, noughts between -/ def wrB (d : ByteArray) (at_ : Nat) (x : ByteArray) : ByteArray := ⟨((List.range (max d.size (at_ + x.size))).map fun i => if at_ ≤ i ∧ i < at_ + x.size then x.get! (i - at_) else if i < d.size then d.get! i else 0).toArray⟩
namespace FF
def isE (s : FF) (n k : Int) : Int := if n < 0 ∨ 40 ≤ n then 1 else if s.kind n = 0 then 2 else if 0 < k ∧ s.kind n ≠ k then 11 else 0
def freeN (s : FF) : Nat → Int
  | 0 => -1
  | k + 1 => if s.kind (39 - (k : Int)) = 0 then 39 - (k : Int) else freeN s k
def free (s : FF) : Int := freeN s 40
def setN (s : FF) (z k t l u : Int) : FF := ⟨fset s.kind z k, fset s.tree z t, fset s.links z l, fset s.held z 0, fset s.up z u, fset s.data z ByteArray.empty, fset s.names z [], fset s.kids z [], s.roots⟩
def goneF (s : FF) (z : Int) : FF := if s.links z = 0 ∧ s.held z = 0 then s.setN z 0 0 0 0 else s
def plantE (s : FF) : Int := if s.roots.length = 4 then 4 else if s.free < 0 then 4 else 0
def plant (s : FF) : FF := if s.plantE = 0 then { s.setN s.free 2 (s.roots.length : Int) 1 s.free with roots := s.roots ++ [s.free] } else s
def plantV (s : FF) : Int := if s.plantE = 0 then (s.roots.length : Int) else 0
def rootE (s : FF) (t : Int) : Int := if t < 0 ∨ 4 ≤ t then 1 else if (s.roots.length : Int) ≤ t then 2 else 0
def rootV (s : FF) (t : Int) : Int := if s.rootE t = 0 then at0 s.roots t else 0
def putF (s : FF) (n : Int) (x : ByteArray) (k : Int) : FF := { s with names := fset s.names n ((s.names n).insertIdx (posn (s.names n) x) x), kids := fset s.kids n ((s.kids n).insertIdx (posn (s.names n) x) k) }
def cutF (s : FF) (n : Int) (x : ByteArray) : FF := { s with names := fset s.names n ((s.names n).eraseIdx (posn (s.names n) x)), kids := fset s.kids n ((s.kids n).eraseIdx (posn (s.names n) x)) }
def findE (s : FF) (n : Int) (x : ByteArray) : Int := if s.isE n 2 ≠ 0 then s.isE n 2 else if hasn (s.names n) x = true then 0 else 2
def findV (s : FF) (n : Int) (x : ByteArray) : Int := if s.findE n x = 0 then at0 (s.kids n) (posn (s.names n) x) else 0
def roomE (s : FF) (n : Int) (x : ByteArray) : Int := if s.isE n 2 ≠ 0 then s.isE n 2 else if nameOk x = false then 9 else if hasn (s.names n) x = true then 3 else if (s.names n).length = 8 then 4 else 0
def makeE (s : FF) (n : Int) (x : ByteArray) (k : Int) : Int := if k ≠ 1 ∧ k ≠ 2 then 1 else if s.roomE n x ≠ 0 then s.roomE n x else if s.free < 0 then 4 else 0
def makeV (s : FF) (n : Int) (x : ByteArray) (k : Int) : Int := if s.makeE n x k = 0 then s.free else 0
def make (s : FF) (n : Int) (x : ByteArray) (k : Int) : FF := if s.makeE n x k = 0 then (s.setN s.free k (s.tree n) 1 n).putF n x s.free else s
def linkE (s : FF) (kid n : Int) (x : ByteArray) : Int := if s.isE kid 1 ≠ 0 then s.isE kid 1 else if s.roomE n x ≠ 0 then s.roomE n x else if s.tree kid ≠ s.tree n then 11 else 0
def link (s : FF) (kid n : Int) (x : ByteArray) : FF := if s.linkE kid n x = 0 then { s.putF n x kid with links := fset s.links kid (s.links kid + 1) } else s
def busy (s : FF) (k : Int) : Prop := s.kind k = 2 ∧ (0 < (s.kids k).length ∨ 0 < s.held k)
instance (s : FF) (k : Int) : Decidable (s.busy k) := by unfold busy; infer_instance
def removeE (s : FF) (n : Int) (x : ByteArray) : Int := if s.findE n x ≠ 0 then s.findE n x else if s.busy (s.findV n x) then 5 else 0
def remove (s : FF) (n : Int) (x : ByteArray) : FF := if s.removeE n x = 0 then goneF { s.cutF n x with links := fset s.links (s.findV n x) (s.links (s.findV n x) - 1) } (s.findV n x) else s
def undF (s : FF) : Nat → Int → Int → Bool
  | 0, n, k => decide (n = k)
  | f + 1, n, k => if n = k then true else if s.up n = n then false else undF s f (s.up n) k
def und (d : Int → Nat) (s : FF) (n k : Int) : Bool := undF s (d n) n k
def moveE0 (d : Int → Nat) (s : FF) (n : Int) (x : ByteArray) (to : Int) : Int := if s.findE n x ≠ 0 then s.findE n x else if s.isE to 2 ≠ 0 then s.isE to 2 else if s.tree n ≠ s.tree to then 11 else if s.kind (s.findV n x) = 2 ∧ und d s to (s.findV n x) = true then 5 else 0
def moveE (d : Int → Nat) (s : FF) (n : Int) (x : ByteArray) (to : Int) (y : ByteArray) : Int := if s.moveE0 d n x to ≠ 0 then s.moveE0 d n x to else (s.cutF n x).roomE to y
def move (d : Int → Nat) (s : FF) (n : Int) (x : ByteArray) (to : Int) (y : ByteArray) : FF :=
  if s.moveE0 d n x to ≠ 0 then s else if (s.cutF n x).roomE to y ≠ 0 then (s.cutF n x).putF n x (s.findV n x) else
    if s.kind (s.findV n x) = 2 then { (s.cutF n x).putF to y (s.findV n x) with up := fset s.up (s.findV n x) to } else (s.cutF n x).putF to y (s.findV n x)
def hold (s : FF) (n : Int) : FF := if s.isE n 0 = 0 then { s with held := fset s.held n (s.held n + 1) } else s
def letE (s : FF) (n : Int) : Int := if s.isE n 0 ≠ 0 then s.isE n 0 else if s.held n = 0 then 8 else 0
def letF (s : FF) (n : Int) : FF := if s.letE n = 0 then goneF { s with held := fset s.held n (s.held n - 1) } n else s
def readE (s : FF) (n at_ m : Int) : Int := if s.isE n 1 ≠ 0 then s.isE n 1 else if at_ < 0 ∨ m < 0 then 1 else 0
def readV (s : FF) (n at_ m : Int) : ByteArray := if s.readE n at_ m = 0 then (s.data n).extract (min at_ (s.data n).size).toNat (min at_ (s.data n).size + min m ((s.data n).size - min at_ (s.data n).size)).toNat else ByteArray.empty
def writeE (s : FF) (n at_ : Int) (x : ByteArray) : Int := if s.isE n 1 ≠ 0 then s.isE n 1 else if at_ < 0 then 1 else if 40 < at_ ∨ 40 - at_ < (x.size : Int) then 4 else 0
def write (s : FF) (n at_ : Int) (x : ByteArray) : FF := if s.writeE n at_ x = 0 ∧ x ≠ ByteArray.empty then { s with data := fset s.data n (wrB (s.data n) at_.toNat x) } else s
def clipE (s : FF) (n z : Int) : Int := if s.isE n 1 ≠ 0 then s.isE n 1 else if z < 0 ∨ ((s.data n).size : Int) < z then 1 else 0
def clip (s : FF) (n z : Int) : FF := if s.clipE n z = 0 then { s with data := fset s.data n ((s.data n).extract 0 z.toNat) } else s
def cntN (s : FF) : Nat → Int
  | 0 => 0
  | k + 1 => cntN s k + (if 0 < s.kind (k : Int) then 1 else 0)
def nodes (s : FF) : Int := cntN s 40
def void : FF := ⟨fun _ => 0, fun _ => 0, fun _ => 0, fun _ => 0, fun _ => 0, fun _ => ByteArray.empty, fun _ => [], fun _ => [], []⟩
def sumK (f : Int → List Int) (k : Int) : Nat → Nat
  | 0 => 0
  | n + 1 => sumK f k n + (f (n : Int)).count k
/-- how many names (and roots) lead to a node -/ def cnt (s : FF) (k : Int) : Nat := sumK s.kids k 40 + s.roots.count k
/-- what the code needs to run -/ structure Sh (s : FF) : Prop where
  rise : ∀ n, 0 ≤ n → n < 40 → Rising (s.names n) ∧ (s.names n).length = (s.kids n).length ∧ (s.names n).length ≤ 8 ∧ (s.kind n ≠ 2 → s.names n = [])
  kids : ∀ n, 0 ≤ n → n < 40 → ∀ k ∈ s.kids n, 0 ≤ k ∧ k < 40
  data : ∀ n, 0 ≤ n → n < 40 → (s.data n).size ≤ 40
  roots : s.roots.length ≤ 4 ∧ ∀ r ∈ s.roots, 0 ≤ r ∧ r < 40
  num : ∀ n, 0 ≤ n → n < 40 → -1000000 ≤ s.links n ∧ s.links n ≤ 1000000 ∧ 0 ≤ s.held n ∧ s.held n ≤ 1000000
/-- what is always so; but for the node e, which has one name more to come, and for q, which may be about to go -/ structure InvX (s : FF) (d : Int → Nat) (e q : Int) : Prop where
  kinds : ∀ n, 0 ≤ n → n < 40 → s.kind n = 0 ∨ s.kind n = 1 ∨ s.kind n = 2
  rise : ∀ n, 0 ≤ n → n < 40 → Rising (s.names n) ∧ (s.names n).length = (s.kids n).length ∧ (s.names n).length ≤ 8 ∧ (s.kind n ≠ 2 → s.names n = [])
  nok : ∀ n, 0 ≤ n → n < 40 → ∀ x ∈ s.names n, nameOk x = true
  kids : ∀ n, 0 ≤ n → n < 40 → ∀ k ∈ s.kids n, 0 ≤ k ∧ k < 40 ∧ s.kind k ≠ 0 ∧ s.tree k = s.tree n ∧ (s.kind k = 2 → s.up k = n ∧ d n < d k)
  data : ∀ n, 0 ≤ n → n < 40 → (s.data n).size ≤ 40 ∧ (s.kind n ≠ 1 → s.data n = ByteArray.empty)
  roots : s.roots.length ≤ 4 ∧ ∀ r ∈ s.roots, 0 ≤ r ∧ r < 40 ∧ s.kind r = 2 ∧ s.up r = r
  up : ∀ n, 0 ≤ n → n < 40 → s.kind n = 2 → n ≠ e → n ≠ q → (n ∈ s.roots ∧ s.up n = n) ∨ (0 ≤ s.up n ∧ s.up n < 40 ∧ s.kind (s.up n) = 2 ∧ n ∈ s.kids (s.up n) ∧ d (s.up n) < d n)
  num : ∀ n, 0 ≤ n → n < 40 → 0 ≤ s.held n ∧ s.links n = (s.cnt n : Int) + (if n = e then 1 else 0)
  zero : ∀ n, 0 ≤ n → n < 40 → s.kind n = 0 → s.links n = 0 ∧ s.held n = 0
  pos : ∀ n, 0 ≤ n → n < 40 → s.kind n ≠ 0 → n ≠ q → 0 < s.links n ∨ 0 < s.held n
  dir : ∀ n, 0 ≤ n → n < 40 → s.kind n = 2 → n ≠ q → s.links n = 1
abbrev Inv (s : FF) (d : Int → Nat) : Prop := s.InvX d (-1) (-1)
theorem isE_0 {s : FF} {n : Int} (h : s.isE n 0 = 0) : 0 ≤ n ∧ n < 40 ∧ s.kind n ≠ 0 := by
  unfold isE at h
  split at h
  · omega
  · split at h
    · omega
    · exact ⟨by omega, by omega, by assumption⟩
theorem isE_k0 {s : FF} {n k : Int} (h : s.isE n k = 0) : 0 ≤ n ∧ n < 40 ∧ s.kind n ≠ 0 ∧ (0 < k → s.kind n = k) := by
  unfold isE at h
  split at h
  · omega
  · split at h
    · omega
    · split at h
      · omega
      · exact ⟨by omega, by omega, by assumption, fun _ => by omega⟩
theorem isE_k {s : FF} {n k : Int} (h : s.isE n 0 ≠ 0) : s.isE n 0 = s.isE n k := by
  unfold isE at h ⊢
  split
  · rfl
  · rename_i c
    rw [if_neg c] at h
    split
    · rfl
    · rename_i c2
      rw [if_neg c2, if_neg (by omega)] at h
      exact absurd rfl h
theorem isE_nn (s : FF) (n k : Int) : 0 ≤ s.isE n k := by unfold isE; split <;> (try split) <;> (try split) <;> omega
end FF
def fam40 : Nat → Bool := fun i => Nat.blt i 40
def FC.rowsN (e : TypeId) (s : FC) : Nat → RowD := fun i => ⟨.slice (s.nP (i : Int)) (s.names (i : Int)).length (s.nC (i : Int)), e, 1, (s.names (i : Int)).length, strs (s.names (i : Int))⟩
def FC.rowsK (e : TypeId) (s : FC) : Nat → RowD := fun i => ⟨.slice (s.kP (i : Int)) (s.kids (i : Int)).length (s.kC (i : Int)), e, 1, (s.kids (i : Int)).length, ints (s.kids (i : Int))⟩
def FC.void : FC := ⟨FF.void, fun _ => none, fun _ => 0, fun _ => none, fun _ => 0, none, 0⟩

end Go.X.Tr

namespace Go.X.Tr
open Go Go.X
theorem updL_lt' (C : Nat → Value) : ∀ (vs : List Value) (i j : Nat), j < i → updL C i vs j = C j
  | [], _, _, _ => rfl
  | v :: r, i, j, h => by
    unfold updL
    rw [updL_lt' (upd C i v) r (i + 1) j (by omega)]
    simp [upd]; omega
theorem updL_at' : ∀ (vs : List Value) (C : Nat → Value) (i j : Nat) (v : Value), vs[j]? = some v → updL C i vs (i + j) = v
  | [], _, _, _, _, h => by simp at h
  | u :: r, C, i, 0, v, h => by
    have h2 : u = v := by simpa using h
    unfold updL
    rw [updL_lt' _ _ _ _ (by omega), ← h2]
    simp [upd]
  | u :: r, C, i, j + 1, v, h => by
    unfold updL
    have := updL_at' r (upd C i u) (i + 1) j v (by simpa using h)
    rw [show i + 1 + j = i + (j + 1) from by omega] at this
    exact this
theorem updL_ge' : ∀ (vs : List Value) (C : Nat → Value) (i j : Nat), i + vs.length ≤ j → updL C i vs j = C j
  | [], _, _, _, _ => rfl
  | v :: r, C, i, j, h => by
    simp only [List.length_cons] at h
    unfold updL
    rw [updL_ge' r (upd C i v) (i + 1) j (by omega)]
    simp [upd]; omega
structure encF.U where
  kind : Int
  tree : Int
  links : Int
  held : Int
  data : ByteArray
  up : Int
  names : List ByteArray
  nP : Option Addr
  nC : Nat
  kids : List Int
  kP : Option Addr
  kC : Nat

def encF.un (s : FC) (z : Int) : encF.U := ⟨s.kind z, s.tree z, s.links z, s.held z, s.data z, s.up z, s.names z, s.nP z, s.nC z, s.kids z, s.kP z, s.kC z⟩
def encF.cell (u : encF.U) (j : Nat) : Value :=
  if j = 0 then .int .i64 u.kind else
  if j = 1 then .int .i64 u.tree else
  if j = 2 then .int .i64 u.links else
  if j = 3 then .int .i64 u.held else
  if j = 4 then .string u.data else
  if 5 ≤ j ∧ j < 6 then .slice u.nP u.names.length u.nC else
  if 6 ≤ j ∧ j < 7 then .slice u.kP u.kids.length u.kC else
  if j = 7 then .int .i64 u.up else
  undef
def encF (s : FC) (i : Nat) : Value :=
  if i < 320 then encF.cell (encF.un s ((i / 8 : Nat) : Int)) (i % 8) else
  if i = 320 then Value.slice s.rP s.roots.length s.rC else
  undef
theorem encF.at_ (s : FC) (z : Int) (h : 0 ≤ z ∧ z < 40) (j : Nat) (hj : j < 8) : encF s (0 + 0 + z.toNat * 8 + j) = encF.cell (encF.un s z) j := by
  unfold encF
  rw [if_pos (by omega), show (((0 + 0 + z.toNat * 8 + j) / 8 : Nat) : Int) = z from by omega, show (0 + 0 + z.toNat * 8 + j) % 8 = j from by omega]
theorem encF.set (s s' : FC) (z : Int) (h : 0 ≤ z ∧ z < 40) (k : Nat) (hk : k < 8) (v : Value) (hv : ∀ j, encF.cell (encF.un s' z) j = if j = k then v else encF.cell (encF.un s z) j) (ho : ∀ y, ¬ y = z → encF.un s' y = encF.un s y) (hn : Value.slice s'.rP s'.roots.length s'.rC = Value.slice s.rP s.roots.length s.rC) : 0 + 0 + z.toNat * 8 + k < 321 ∧ upd (encF s) (0 + 0 + z.toNat * 8 + k) v = encF s' := by
  refine ⟨by omega, ?_⟩
  funext i
  unfold upd
  by_cases hi : i = 0 + 0 + z.toNat * 8 + k
  · rw [if_pos hi, hi, encF.at_ s' z h k hk, hv, if_pos rfl]
  · rw [if_neg hi]
    unfold encF
    by_cases c1 : i < 320
    · rw [if_pos c1, if_pos c1]
      by_cases cz : ((i / 8 : Nat) : Int) = z
      · rw [cz, hv, if_neg (by omega)]
      · rw [ho _ cz]
    · rw [if_neg c1, if_neg c1, hn]
theorem encF.setL (s s' : FC) (z : Int) (h : 0 ≤ z ∧ z < 40) (vs : List Value) (hl : vs.length = 8) (hv : ∀ j, j < 8 → vs[j]? = some (encF.cell (encF.un s' z) j)) (ho : ∀ y, ¬ y = z → encF.un s' y = encF.un s y) (hn : Value.slice s'.rP s'.roots.length s'.rC = Value.slice s.rP s.roots.length s.rC) : 0 + 0 + z.toNat * 8 + 8 ≤ 321 ∧ updL (encF s) (0 + 0 + z.toNat * 8) vs = encF s' := by
  refine ⟨by omega, ?_⟩
  funext i
  by_cases a1 : i < 0 + 0 + z.toNat * 8
  · rw [updL_lt' _ _ _ _ a1]
    unfold encF
    rw [if_pos (by omega), if_pos (by omega), ho _ (by omega)]
  · by_cases a2 : i < 0 + 0 + z.toNat * 8 + 8
    · obtain ⟨j, rfl⟩ : ∃ j, i = 0 + 0 + z.toNat * 8 + j := ⟨i - (0 + 0 + z.toNat * 8), by omega⟩
      rw [encF.at_ s' z h j (by omega)]
      exact updL_at' vs _ _ _ _ (hv j (by omega))
    · rw [updL_ge' _ _ _ _ (by omega)]
      unfold encF
      by_cases c1 : i < 320
      · rw [if_pos c1, if_pos c1, ho _ (by omega)]
      · rw [if_neg c1, if_neg c1, hn]
theorem encF.ld_n_kind (s : FC) (z : Int) (h : 0 ≤ z ∧ z < 40) : 0 + 0 + z.toNat * 8 + 0 < 321 ∧ encF s (0 + 0 + z.toNat * 8 + 0) = .int .i64 (s.kind z) := ⟨by omega, encF.at_ s z h 0 (by omega)⟩
theorem encF.ld_n_held (s : FC) (z : Int) (h : 0 ≤ z ∧ z < 40) : 0 + 0 + z.toNat * 8 + 3 < 321 ∧ encF s (0 + 0 + z.toNat * 8 + 3) = .int .i64 (s.held z) := ⟨by omega, encF.at_ s z h 3 (by omega)⟩
theorem encF.st_n_held (s : FC) (z : Int) (h : 0 ≤ z ∧ z < 40) (v : Int) : 0 + 0 + z.toNat * 8 + 3 < 321 ∧ upd (encF s) (0 + 0 + z.toNat * 8 + 3) (.int .i64 v) = encF { s with held := fset s.held z v } := encF.set s { s with held := fset s.held z v } z h 3 (by omega) _ (fun j => by
  have e : encF.un { s with held := fset s.held z v } z = { encF.un s z with held := v } := by unfold encF.un; simp only [fset_eq]
  rw [e]
  by_cases hj : j = 3
  · subst hj; rfl
  · unfold encF.cell; simp only [if_neg hj]) (fun y hy => by unfold encF.un; simp only [fset_ne _ _ hy]) rfl
theorem encF.st_n_up (s : FC) (z : Int) (h : 0 ≤ z ∧ z < 40) (v : Int) : 0 + 0 + z.toNat * 8 + 7 < 321 ∧ upd (encF s) (0 + 0 + z.toNat * 8 + 7) (.int .i64 v) = encF { s with up := fset s.up z v } := encF.set s { s with up := fset s.up z v } z h 7 (by omega) _ (fun j => by
  have e : encF.un { s with up := fset s.up z v } z = { encF.un s z with up := v } := by unfold encF.un; simp only [fset_eq]
  rw [e]
  by_cases hj : j = 7
  · subst hj; rfl
  · unfold encF.cell; simp only [if_neg hj]) (fun y hy => by unfold encF.un; simp only [fset_ne _ _ hy]) rfl
theorem encF.ld_n_names (s : FC) (z : Int) (h : 0 ≤ z ∧ z < 40) : 0 + 0 + z.toNat * 8 + 5 < 321 ∧ encF s (0 + 0 + z.toNat * 8 + 5) = .slice (s.nP z) (s.names z).length (s.nC z) := ⟨by omega, encF.at_ s z h 5 (by omega)⟩
theorem encF.ld_n_kids (s : FC) (z : Int) (h : 0 ≤ z ∧ z < 40) : 0 + 0 + z.toNat * 8 + 6 < 321 ∧ encF s (0 + 0 + z.toNat * 8 + 6) = .slice (s.kP z) (s.kids z).length (s.kC z) := ⟨by omega, encF.at_ s z h 6 (by omega)⟩
end Go.X.Tr
