import Derived.Test.YtpnddggohipdnaaDoorVN
import Derived.Test.YtpnddggohipdnaaDoorBW
import Derived.Test.YtpnddggohipdnaaDoorXFn
import Derived.Test.YtpnddggohipdnaaDoorXQ
namespace Go.X
open Go Go.Proofs
set_option maxRecDepth 20000
set_option maxHeartbeats 4000000

theorem v_NewBank  : Spec Tryd.prog 7 []
 []
 (fun v H1 => ∃ kb pb, v = ptr kb 0 0 ∧ H1 = [.cells kb 0 577 (encK pb VB.init.by_ VB.init.rf), .cells pb 0 71 (encP VB.init.bb.pool)]) := by
  refine Spec.go 4 [0] [] Tryd.func7 rfl rfl rfl ?_
  intro W
  refine ca (p_New) .nil ?_
  rintro _ _ ⟨pb, rfl, rfl⟩
  refine gO ?_
  refine XO.v (V.build (vs := #[(0, ptr pb 0 0)]) rfl (v := .agg (zKl pb).toArray) (fun _ => by kernel_rfl)) rfl (gO ?_)
  refine XO.box (m := 577) (C := encK pb VB.init.by_ VB.init.rf) rfl rfl (zK_box _) rfl ?_
  intro kb
  refine gO ?_
  refine XE.ret1 rfl rfl (post_of .h2 rfl ?_)
  exact ⟨_, _, rfl, rfl⟩
theorem v_New (kb : Nat) : Spec Tryd.prog 9 [ptr kb 0 0]
 []
 (fun v H1 => ∃ mb, v = ptr mb 0 0 ∧ H1 = [.cells mb 0 34 (encN kb none (runs MS.nil.is_).length 0 MS.nil.fr MS.nil.own), frow none 0 83 3 (runs MS.nil.is_).length (rgC (runs MS.nil.is_))]) := by
  refine Spec.go 19 [0, 2, 3, 4, 8, 9] [] Tryd.func9 rfl rfl rfl ?_
  intro W
  refine XO.v (V.build (vs := #[(0, ptr kb 0 0)]) rfl (v := .agg (zNl kb).toArray) (fun _ => by kernel_rfl)) rfl (gO ?_)
  refine XO.box (m := 34) (C := encN kb none 0 0 (frI 0) (fun _ => false)) rfl rfl (fun i hi => (zN_box _ i hi).trans (congrFun (encN_congr fun i h0 h1 => ⟨by unfold frI; first | rw [if_neg (by omega)] | rw [if_pos (by omega)], rfl⟩) i)) rfl ?_
  intro mb
  refine gO ?_
  refine lp (σ := Int) (fun i => (16 - i).toNat) (fun i => 0 ≤ i ∧ i ≤ 16) (fun i => [(8, .int .i64 i), (3, ptr mb 0 0)]) (fun i => XM W (foot []) [.cells mb 0 34 (encN kb none 0 0 (frI i) (fun _ => false))]) (0) ?_ (S2 rfl rfl) (fun _ hw => XM.pick .h1 hw) ?_
  · skip
    omega
  intro i hi
  refine gC ?_
  refine cd rfl ?_ ?_ <;> intro h1
  · skip
    refine sd (by omega) ?_
    refine st .here (encN.st_p_I_frame _ _ _ _ _ _ _ (by omega) _) rfl ?_
    refine sd (by omega) ?_
    refine ag (i + 1) ?_ ?_ (S2 rfl rfl) (fun _ hw => by rw [← frI_next hi.1]; exact XM.pick .h1 hw)
    · skip
      (first | omega | (simp; done) | (simp; omega))
    · skip
      (first | omega | (simp; done) | (simp; omega))
  · skip
    refine XR.nilRow 83 3 ?_
    refine XE.ret1 rfl rfl (post_of (.cons (.there .here) .h1) rfl ?_)
    have e : i = 16 := by omega
    subst e
    rw [runs_nil]
    exact ⟨_, rfl, by rw [show encN kb none 0 0 (frI 16) (fun _ => false) = encN kb none 0 0 (fun _ => 0) (fun _ => false) from encN_congr (fun i h0 h1 => ⟨by unfold frI; rw [if_pos (by omega)], rfl⟩)]; rfl⟩
theorem v_Left (kb pb : Nat) (v : VB) (hv : v.Ok) : Spec Tryd.prog 13 [ptr kb 0 0]
 [.cells kb 0 577 (encK pb v.by_ v.rf), .cells pb 0 71 (encP v.bb.pool)]
 (fun x H1 => x = .int .i64 v.bb.left ∧ H1 = [.cells kb 0 577 (encK pb v.by_ v.rf), .cells pb 0 71 (encP v.bb.pool)]) := by
  refine Spec.go 8 [0, 2] [] Tryd.func13 rfl rfl rfl ?_
  intro W
  refine ld .here (encK.ld_p _ _ _) ?_
  refine ca (p_Left _ _ _ hv.bb) (.cons (.there .here) .nil) ?_
  rintro _ _ ⟨rfl, rfl⟩
  refine gO ?_
  refine XE.ret1 rfl rfl (post_of (.cons (.there .here) .h1) rfl ?_)
  exact ⟨rfl, rfl⟩
theorem v_Refs (kb pb : Nat) (v : VB) (f : Int) : Spec Tryd.prog 16 [ptr kb 0 0, .int .i64 f]
 [.cells kb 0 577 (encK pb v.by_ v.rf)]
 (fun x H1 => x = (if f < 0 ∨ 63 < f then .tuple #[.int .i64 0, errv 95 1] else .tuple #[.int .i64 (v.rf f), errv 95 0]) ∧ H1 = [.cells kb 0 577 (encK pb v.by_ v.rf)]) := by
  refine Spec.go 19 [0, 1, 4, 5, 11] [] Tryd.func16 rfl rfl rfl ?_
  intro W
  refine sp 8 rfl ?_ ?_ <;> intro h1
  · skip
    refine XE.ret2 rfl rfl rfl (post_of .h1 rfl ?_)
    first | (rw [if_neg (by omega)]; exact ⟨rfl, rfl⟩) | (rw [if_pos (by omega)]; exact ⟨rfl, rfl⟩)
  · skip
    refine cd rfl ?_ ?_ <;> intro h2
    · skip
      refine XE.ret2 rfl rfl rfl (post_of .h1 rfl ?_)
      first | (rw [if_neg (by omega)]; exact ⟨rfl, rfl⟩) | (rw [if_pos (by omega)]; exact ⟨rfl, rfl⟩)
    · skip
      refine sd (by omega) ?_
      refine ld .here (encK.ld_refs_I _ _ _ _ (by omega)) ?_
      refine XE.ret2 rfl rfl rfl (post_of .h1 rfl ?_)
      first | (rw [if_neg (by omega)]; exact ⟨rfl, rfl⟩) | (rw [if_pos (by omega)]; exact ⟨rfl, rfl⟩)
theorem v_take (kb pb : Nat) (v : VB) (hv : v.Ok) : Spec Tryd.prog 61 [ptr kb 0 0]
 [.cells kb 0 577 (encK pb v.by_ v.rf), .cells pb 0 71 (encP v.bb.pool), .ro 0 0 64 tab64]
 (fun x H1 => x = .tuple #[.int .i64 v.take.1, errv 95 v.take.2.1] ∧ H1 = [.cells kb 0 577 (encK pb v.take.2.2.by_ v.take.2.2.rf), .cells pb 0 71 (encP v.take.2.2.bb.pool)]) := by
  refine Spec.go 29 [0, 2, 3, 4, 5, 15] [] Tryd.func61 rfl rfl rfl ?_
  intro W
  refine ld .here (encK.ld_p _ _ _) ?_
  refine caR 1 (p_Take _ _ _ hv.bb _) (.cons (.there .here) (.cons (.there .here) .nil)) rfl ?_
  rintro _ _ ⟨rfl, rfl⟩
  refine gO ?_
  refine cd rfl ?_ ?_ <;> intro h1
  · skip
    have hno : ¬ (v.bb.take 0).2.1 = 0 := h1
    have hfl := BB.take_fail h1
    refine XE.ret2 rfl rfl rfl (post_of (.cons (.t2 .here) .h1) rfl ?_)
    rw [VB.take_no hno]; exact ⟨rfl, by rw [hfl]⟩
  · skip
    have hok : (v.bb.take 0).2.1 = 0 := by omega
    have hw := (hv.bb.take_win hok).2.1
    refine sd (by omega) ?_
    refine st (.t2 .here) (encK.st_refs_I _ _ _ _ (by omega) _) rfl ?_
    refine XO.v (V.build (vs := #[]) rfl (v := .agg (arrY (fun _ => 0))) (fun _ => by kernel_rfl)) rfl (gO ?_)
    refine sd (by omega) ?_
    refine stA (.t2 .here) (encK_srow _ _ _ _ _ (by omega)) rfl ⟨rfl, rfl⟩ ?_
    refine XE.ret2 rfl rfl rfl (post_of (.cons (.t2 .here) .h1) rfl ?_)
    rw [VB.take_ok hok]; exact ⟨rfl, rfl⟩
theorem v_drop (kb pb : Nat) (v : VB) (hv : v.Ok) (f : Int) (hf : 0 ≤ f ∧ f < 64) (h1 : 1 ≤ v.rf f) : Spec Tryd.prog 49 [ptr kb 0 0, .int .i64 f]
 [.cells kb 0 577 (encK pb v.by_ v.rf), .cells pb 0 71 (encP v.bb.pool), .ro 0 0 64 tab64]
 (fun x H1 => x = .tuple #[] ∧ H1 = [.cells kb 0 577 (encK pb (v.drop f).by_ (v.drop f).rf), .cells pb 0 71 (encP (v.drop f).bb.pool)]) := by
  have hb := hv.rf f
  refine Spec.go 27 [0, 1, 20] [] Tryd.func49 rfl rfl rfl ?_
  intro W
  refine rq [0, 1, 2, 3, 4, 5, 6, 7, 8, 9, 10] mixed (by kernel_rfl) ?_
  refine sd (by omega) ?_
  refine ld .here (encK.ld_refs_I _ _ _ _ (by omega)) ?_
  refine sd (by omega) ?_
  refine sd (by omega) ?_
  refine st .here (encK.st_refs_I _ _ _ _ (by omega) _) rfl ?_
  refine sd (by omega) ?_
  refine ld .here (encK.ld_refs_I _ _ _ _ (by omega)) ?_
  have e1 : fset v.rf f (v.rf f - 1) f = v.rf f - 1 := fset_eq _ _ _
  refine cd rfl ?_ ?_ <;> intro h1
  · skip
    refine ld .here (encK.ld_p _ _ _) ?_
    refine ca (p_Give _ _ _ hv.bb _) (.cons (.there .here) .nil) ?_
    rintro _ _ ⟨rfl, rfl⟩
    refine gO ?_
    refine XE.end0 rfl (post_of (.cons (.there .here) .h1) rfl ?_)
    rw [VB.drop_p (by omega)]; exact ⟨rfl, rfl⟩
  · skip
    refine XE.end0 rfl (post_of .h2 rfl ?_)
    rw [VB.drop_n (by omega)]; exact ⟨rfl, rfl⟩
theorem v_span (a n : Int) : Spec Tryd.prog 45 [.int .i64 a, .int .i64 n]
 []
 (fun x H1 => x = errv 95 (if badS a n then 1 else 0) ∧ H1 = []) := by
  refine Spec.go 22 [0, 1, 4, 20] [] Tryd.func45 rfl rfl rfl ?_
  intro W
  refine sp 7 rfl ?_ ?_ <;> intro h1
  · skip
    refine XE.ret1 rfl rfl (post_of .nil rfl ?_)
    first | (rw [if_neg (by unfold badS; omega)]; exact ⟨rfl, rfl⟩) | (rw [if_pos (by unfold badS; omega)]; exact ⟨rfl, rfl⟩)
  · skip
    refine sp 11 rfl ?_ ?_ <;> intro h2
    · skip
      refine XE.ret1 rfl rfl (post_of .nil rfl ?_)
      first | (rw [if_neg (by unfold badS; omega)]; exact ⟨rfl, rfl⟩) | (rw [if_pos (by unfold badS; omega)]; exact ⟨rfl, rfl⟩)
    · skip
      refine sp 15 rfl ?_ ?_ <;> intro h3
      · skip
        refine XE.ret1 rfl rfl (post_of .nil rfl ?_)
        first | (rw [if_neg (by unfold badS; omega)]; exact ⟨rfl, rfl⟩) | (rw [if_pos (by unfold badS; omega)]; exact ⟨rfl, rfl⟩)
      · skip
        refine sd (by omega) ?_
        refine cd rfl ?_ ?_ <;> intro h4
        · skip
          refine XE.ret1 rfl rfl (post_of .nil rfl ?_)
          first | (rw [if_neg (by unfold badS; omega)]; exact ⟨rfl, rfl⟩) | (rw [if_pos (by unfold badS; omega)]; exact ⟨rfl, rfl⟩)
        · skip
          refine XE.ret1 rfl rfl (post_of .nil rfl ?_)
          first | (rw [if_neg (by unfold badS; omega)]; exact ⟨rfl, rfl⟩) | (rw [if_pos (by unfold badS; omega)]; exact ⟨rfl, rfl⟩)
end Go.X
