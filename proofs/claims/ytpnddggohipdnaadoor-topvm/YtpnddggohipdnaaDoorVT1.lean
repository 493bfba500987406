import Derived.Test.YtpnddggohipdnaaDoorVW5
import Derived.Test.YtpnddggohipdnaaDoorVT
import Derived.Test.YtpnddggohipdnaaDoorLM
namespace Go.X
open Go Go.Proofs
set_option maxRecDepth 20000
set_option maxHeartbeats 4000000

theorem top_number' (e : Int) : Spec Tryd.prog 24 [.iface 95 (.int .i64 e)]
 []
 (fun v H1 => v = .int .i64 e ∧ H1 = []) := by
  refine Spec.go 15 [0, 2, 3, 4, 6, 13] [] Tryd.func24 rfl rfl rfl ?_
  intro W
  refine XO.v (V.assertOk rfl Tryd.underlying95 (by simp)) rfl (gO ?_)
  refine XE.ret1 rfl rfl (post_of .nil rfl ?_)
  exact ⟨rfl, rfl⟩
theorem top_number : Spec Tryd.prog 24 [errv 95 4] [] (fun v H1 => v = .int .i64 4 ∧ H1 = []) := top_number' 4
set_option maxHeartbeats 8000000 in
theorem top_stocked (kb pb : Nat) (v : VB) (f : Nat → MS) (k : Nat) (hk : k ≤ 8) (hs : Sys v f k) (hF : v.bb.Full) (mb : Nat → Nat) (ps : Nat → Option Addr) (cs : Nat → Nat) (ga : Nat) (cm : Nat) : Spec Tryd.prog 25 [ptr kb 0 0, .slice (some ⟨ga, 0, none⟩) k cm]
 [.cells kb 0 577 (encK pb v.by_ v.rf), .cells pb 0 71 (encP v.bb.pool), .cfam (ltP k) mb 34 (cN kb f ps cs), .fam (ltP k) (rN 83 f ps cs), frow (some ⟨ga, 0, none⟩) cm 29 1 k (ptrC mb)]
 (fun x H1 => x = .bool true ∧ H1 = [.cells kb 0 577 (encK pb v.by_ v.rf), .cells pb 0 71 (encP v.bb.pool), .cfam (ltP k) mb 34 (cN kb f ps cs), .fam (ltP k) (rN 83 f ps cs), frow (some ⟨ga, 0, none⟩) cm 29 1 k (ptrC mb)]) := by
  refine Spec.go 75 [0, 1, 4, 5, 6, 7, 8, 9, 10, 11, 12, 13, 17, 21, 31, 33, 47, 49, 66, 68] [] Tryd.func25 rfl rfl rfl ?_
  intro W
  refine XO.allocZ (z := .agg (arrV (fun _ => 0) 64)) (m := 64) (C := encI (fun g => tot f g (0 : Int).toNat) 64) (by kernel_rfl) (arrV_size (fun _ => 0) 64) (encI.box (fun _ => 0) 64) rfl ?_
  intro ab
  refine gO ?_
  refine lp (σ := Int) (fun y => (k - y).toNat) (fun y => 0 ≤ y ∧ y ≤ k) (fun y => [(6, .int .i64 y), (0, ptr kb 0 0), (1, .slice (some ⟨ga, 0, none⟩) k cm), (5, ptr ab 0 0)]) (fun y => XM W (foot [.cells kb 0 577 (encK pb v.by_ v.rf), .cells pb 0 71 (encP v.bb.pool), .cfam (ltP k) mb 34 (cN kb f ps cs), .fam (ltP k) (rN 83 f ps cs), frow (some ⟨ga, 0, none⟩) cm 29 1 k (ptrC mb)]) [.cells ab 0 64 (encI (fun g => tot f g y.toNat) 64), .cells kb 0 577 (encK pb v.by_ v.rf), .cells pb 0 71 (encP v.bb.pool), .cfam (ltP k) mb 34 (cN kb f ps cs), .fam (ltP k) (rN 83 f ps cs), frow (some ⟨ga, 0, none⟩) cm 29 1 k (ptrC mb)]) (0) ?_ (S4 rfl rfl rfl rfl) (fun _ hw => XM.pick .h6 hw) ?_
  · skip
    omega
  intro y hy
  refine gC ?_
  refine cd rfl ?_ ?_ <;> intro h1
  · skip
    have hz : y.toNat < k := by omega
    refine XR.mono (fun _ hw3 => XM.outT (z := y.toNat) hz (.cons (.t3 .here) (.cons (.t3 .here) .nil)) hw3) ?_
    refine lp (σ := Int) (fun x => (16 - x).toNat) (fun x => 0 ≤ x ∧ x ≤ 16) (fun x => [(8, .int .i64 x), (7, .int .i64 (resN (f y.toNat).fr x.toNat)), (0, ptr kb 0 0), (1, .slice (some ⟨ga, 0, none⟩) k cm), (5, ptr ab 0 0), (6, .int .i64 y)]) (fun x => XM W (foot [.cells kb 0 577 (encK pb v.by_ v.rf), .cells pb 0 71 (encP v.bb.pool), .cfam (ltP k) mb 34 (cN kb f ps cs), .fam (ltP k) (rN 83 f ps cs), frow (some ⟨ga, 0, none⟩) cm 29 1 k (ptrC mb)]) [.cells (mb y.toNat) 0 34 (encN kb (ps y.toNat) (runs (f y.toNat).is_).length (cs y.toNat) (f y.toNat).fr (f y.toNat).own), frow (ps y.toNat) (cs y.toNat) 83 3 (runs (f y.toNat).is_).length (rgC (runs (f y.toNat).is_)), .cfam (outP (ltP k) y.toNat) mb 34 (cN kb f ps cs), .fam (outP (ltP k) y.toNat) (rN 83 f ps cs), .cells ab 0 64 (encI (tC f y x) 64), .cells kb 0 577 (encK pb v.by_ v.rf), .cells pb 0 71 (encP v.bb.pool), frow (some ⟨ga, 0, none⟩) cm 29 1 k (ptrC mb)]) (0) ?_ (S6 rfl rfl rfl rfl rfl rfl) (fun _ hw2 => by rw [tC_zero]; exact XM.pick .h8 hw2) ?_
    · skip
      omega
    intro x hx
    refine gC ?_
    refine cd rfl ?_ ?_ <;> intro h2
    · skip
      have hlo := (hs.mo _ hz).lo x
      refine sd (by omega) ?_
      refine ldF (.t7 .here) (ptrC.ld _ (by omega)) ?_
      refine ca (v_Frame kb _ _ _ (f y.toNat) x) .h1 ?_
      rintro _ _ ⟨rfl, rfl⟩
      rw [if_neg (show ¬ (x < 0 ∨ 15 < x) by omega)]
      refine gO ?_
      refine cdF rfl (by omega) ?_
      refine cd rfl ?_ ?_ <;> intro h3
      · skip
        have hT : tC f y x ((f y.toNat).fr x - 1) = tot f ((f y.toNat).fr x - 1) y.toNat + cM (f y.toNat).fr ((f y.toNat).fr x - 1) x.toNat := rfl
        have hT1 := tot_nn f ((f y.toNat).fr x - 1) y.toNat
        have hT2 := cM_nn (f y.toNat).fr ((f y.toNat).fr x - 1) x.toNat
        have hT3 := resN_le (f y.toNat).fr x.toNat
        refine sd (by omega) ?_
        refine ld (.t4 .here) (encI.ld _ _ _ (by omega)) ?_
        refine sd (by omega) ?_
        refine sd (by omega) ?_
        refine st (.t4 .here) (encI.st _ _ _ _ (by omega)) rfl ?_
        refine sd (by omega) ?_
        refine sd (by omega) ?_
        refine ag (x + 1) ?_ ?_ (S6 rfl (eqi (by rw [resN_next _ hx.1, if_pos (by omega)])) rfl rfl rfl rfl) (fun _ hw2 => by rw [← tC_hit f hx.1]; exact XM.pick .h8 hw2)
        · skip
          (first | omega | (simp; done) | (simp; omega))
        · skip
          (first | omega | (simp; done) | (simp; omega))
      · skip
        refine sd (by omega) ?_
        refine ag (x + 1) ?_ ?_ (S6 rfl (eqi (by rw [resN_next _ hx.1, if_neg (by omega)]; omega)) rfl rfl rfl rfl) (fun _ hw2 => by rw [tC_miss f hx.1 (by omega)]; exact XM.pick .h8 hw2)
        · skip
          (first | omega | (simp; done) | (simp; omega))
        · skip
          (first | omega | (simp; done) | (simp; omega))
    · skip
      obtain rfl : x = 16 := by omega
      refine sd (by omega) ?_
      refine ldF (.t7 .here) (ptrC.ld _ (by omega)) ?_
      refine ca (v_Resident kb _ _ _ (f y.toNat) (hs.mo _ hz)) .h1 ?_
      rintro _ _ ⟨rfl, rfl⟩
      refine gO ?_
      refine cdF rfl (by exact fun q => q rfl) ?_
      refine XR.mono (fun _ hw3 => XM.sameT hz .h4 hw3) ?_
      refine sd (by omega) ?_
      refine ag (y + 1) ?_ ?_ (S4 rfl rfl rfl rfl) (fun _ hw2 => by rw [tC_end f hy.1]; exact XM.pick (.cons (.t2 .here) (.cons (.t2 .here) (.cons (.t2 .here) .h3))) hw2)
      · skip
        (first | omega | (simp; done) | (simp; omega))
      · skip
        (first | omega | (simp; done) | (simp; omega))
  · skip
    have hyk : y.toNat = k := by omega
    refine lp (σ := Int) (fun g => (64 - g).toNat) (fun g => 0 ≤ g ∧ g ≤ 64) (fun g => [(11, .int .i64 g), (10, .int .i64 (cntN (fun g => decide (v.rf g = 0)) g.toNat)), (0, ptr kb 0 0), (5, ptr ab 0 0)]) (fun g => XM W (foot [.cells kb 0 577 (encK pb v.by_ v.rf), .cells pb 0 71 (encP v.bb.pool), .cfam (ltP k) mb 34 (cN kb f ps cs), .fam (ltP k) (rN 83 f ps cs), frow (some ⟨ga, 0, none⟩) cm 29 1 k (ptrC mb)]) [.cells ab 0 64 (encI (fun g => tot f g y.toNat) 64), .cells kb 0 577 (encK pb v.by_ v.rf), .cells pb 0 71 (encP v.bb.pool), .cfam (ltP k) mb 34 (cN kb f ps cs), .fam (ltP k) (rN 83 f ps cs), frow (some ⟨ga, 0, none⟩) cm 29 1 k (ptrC mb)]) (0) ?_ (S4 rfl rfl rfl rfl) (fun _ hw => XM.pick .h6 hw) ?_
    · skip
      omega
    intro g hg
    refine gC ?_
    refine cd rfl ?_ ?_ <;> intro h4
    · skip
      have hT3 := cntN_le (fun g => decide (v.rf g = 0)) g.toNat
      refine ca (v_Refs kb pb v g) (.cons (.there .here) .nil) ?_
      rintro v21 _ ⟨hv21, rfl⟩
      rw [if_neg (by omega)] at hv21
      subst hv21
      refine gO ?_
      refine spF 60 rfl (by simp) ?_
      refine sd (by omega) ?_
      refine ld (.there .here) (encI.ld _ _ _ (by omega)) ?_
      refine cdF rfl (by rw [hyk]; exact fun q => q (hs.acc.rf g (by omega) (by omega))) ?_
      refine cd rfl ?_ ?_ <;> intro h6
      · skip
        refine sd (by omega) ?_
        refine sd (by omega) ?_
        refine ag (g + 1) ?_ ?_ (S4 rfl (eqi (by rw [cntN_next _ hg.1, if_pos (by simp; omega)])) rfl rfl) (fun _ hw => XM.pick (.cons (.there .here) .h5) hw)
        · skip
          (first | omega | (simp; done) | (simp; omega))
        · skip
          (first | omega | (simp; done) | (simp; omega))
      · skip
        refine sd (by omega) ?_
        refine ag (g + 1) ?_ ?_ (S4 rfl (eqi (by rw [cntN_next _ hg.1, if_neg (by simp; omega)]; omega)) rfl rfl) (fun _ hw => XM.pick (.cons (.there .here) .h5) hw)
        · skip
          (first | omega | (simp; done) | (simp; omega))
        · skip
          (first | omega | (simp; done) | (simp; omega))
    · skip
      refine ca (v_Left kb pb v hs.acc.ok) (.cons (.there .here) (.cons (.there .here) .nil)) ?_
      rintro _ _ ⟨rfl, rfl⟩
      refine gO ?_
      refine XE.ret1 rfl rfl (post_of (.cons .here (.cons .here (.cons (.there .here) (.cons (.there .here) (.cons (.there .here) .nil))))) rfl ?_)
      obtain rfl : g = 64 := by omega
      exact ⟨congrArg Value.bool (decide_eq_true (hs.left hF).symm), rfl⟩
theorem light_any (p : Option Addr) (l c : Nat) (m : Int) : Spec Tryd.prog 6 [.slice p l c, .int .i64 m]
 []
 (fun v H1 => v = .bool (decide ((l : Int) ≤ m)) ∧ H1 = []) := by
  refine Spec.go 9 [0, 1, 4] [] Tryd.func6 rfl rfl rfl ?_
  intro W
  refine XE.ret1 rfl rfl (post_of .nil rfl ?_)
  exact ⟨rfl, rfl⟩
end Go.X
