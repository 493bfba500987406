import Derived.Test.YtpnddggohipdnaaDoorVX1
namespace Go.X
open Go Go.Proofs
set_option maxRecDepth 20000
set_option maxHeartbeats 4000000

set_option maxHeartbeats 8000000 in
theorem law_nil' (p : Option Addr) (cap : Nat) : Spec Tryd.prog 3 [.slice p 0 cap]
 [.ro 0 0 64 tab64]
 (fun v H1 => v = .bool true ∧ H1 = []) := by
  refine Spec.go 156 [0, 2, 3, 4, 5, 6, 7, 8, 12, 13, 14, 15, 16, 24, 38, 107, 120, 122, 136, 143, 155] [] Tryd.func3 rfl rfl rfl ?_
  intro W
  refine caR 0 (law_pages) .h1 rfl ?_
  rintro _ _ ⟨rfl, rfl⟩
  refine gO ?_
  refine ca (light_any _ _ _ _) .nil ?_
  rintro _ _ ⟨rfl, rfl⟩
  refine gO ?_
  refine cd rfl ?_ ?_ <;> intro h1
  · skip
    refine XE.ret1 rfl rfl (post_of .nil rfl ?_)
    exact ⟨rfl, rfl⟩
  · skip
    refine ca (v_NewBank) .nil ?_
    rintro _ _ ⟨kb, pb, rfl, rfl⟩
    refine gO ?_
    refine ca (r_NewBank) .nil ?_
    rintro _ _ ⟨rk, rp, rfl, rfl⟩
    refine gO ?_
    refine ca (v_New kb) .nil ?_
    rintro _ _ ⟨mb0, rfl, rfl⟩
    refine gO ?_
    refine XO.buildRow (e := 29) (vs := #[(0, ptr mb0 0 0)]) (A := #[ptr mb0 0 0]) (sz := 1) rfl (fun _ => by kernel_rfl) rfl (by omega) rfl ?_
    intro b1
    refine gO ?_
    refine XO.v (V.build (vs := #[(0, ptr rk 0 0)]) rfl (v := .agg (zWl rk).toArray) (fun _ => by kernel_rfl)) rfl (gO ?_)
    refine XO.box (m := 49) (C := encRN rk MS.nil.is_ MS.nil.fr MS.nil.own) rfl rfl (zW_box rk) rfl ?_
    intro rb0
    refine gO ?_
    refine XO.buildRow (e := 32) (vs := #[(0, ptr rb0 0 0)]) (A := #[ptr rb0 0 0]) (sz := 1) rfl (fun _ => by kernel_rfl) rfl (by omega) rfl ?_
    intro b2
    refine gO ?_
    refine XR.mono (fun _ hw3 => XM.startP MS.nil (.cons (.t3 .here) (.cons (.t3 .here) (.cons (.there .here) .nil))) hw3) ?_
    refine lp (σ := Int × VX) (fun x => 0) (fun x => (0 ≤ x.1 ∧ x.1 ≤ (0 : Nat)) ∧ (1 ≤ x.2.k ∧ x.2.k ≤ 8) ∧ Sys x.2.v x.2.f x.2.k) (fun x => [(8, .int .i64 x.1), (6, .slice x.2.pm x.2.k x.2.cm), (7, .slice x.2.pw x.2.k x.2.cw), (0, .slice p 0 cap), (4, ptr kb 0 0), (5, ptr rk 0 0)]) (fun x => XM W (foot [.ro 0 0 64 tab64]) [.cells kb 0 577 (encK pb x.2.v.by_ x.2.v.rf), .cells pb 0 71 (encP x.2.v.bb.pool), .cells rk 0 577 (encRK rp x.2.v.by_ x.2.v.rf), .cells rp 0 128 (encM x.2.v.bb), .cfam (ltP x.2.k) x.2.mb 34 (cN kb x.2.f x.2.ps x.2.cs), .fam (ltP x.2.k) (rN 83 x.2.f x.2.ps x.2.cs), .cfam (ltP x.2.k) x.2.rb 49 (cW rk x.2.f), frow x.2.pm x.2.cm 29 1 x.2.k (ptrC x.2.mb), frow x.2.pw x.2.cw 32 1 x.2.k (ptrC x.2.rb), .ro 0 0 64 tab64]) ((0, ⟨VB.init, fupd (fun _ => MS.nil) 0 MS.nil, 1, fupd (fun _ => 0) 0 mb0, fupd (fun _ => 0) 0 rb0, fupd (fun _ => none) 0 none, fupd (fun _ => 0) 0 0, some ⟨b1, 0, none⟩, 1, some ⟨b2, 0, none⟩, 1⟩)) ?_ (S6 rfl rfl rfl rfl rfl rfl) (fun _ hw => XM.pick (.cons (.t7 .here) (.cons (.t7 .here) (.cons (.t5 .here) (.cons (.t5 .here) (.cons .here (.cons .here (.cons .here (.cons (.there .here) .h2)))))))) hw) ?_
    · skip
      exact ⟨by simp, by simp, by rw [fupd_self]; exact Sys.init⟩
    intro x hx
    obtain ⟨hi, hk, hs⟩ := hx
    refine gC ?_
    refine cdF rfl (by simp; omega) ?_
    refine lp (σ := Int) (fun y => (x.2.k - y).toNat) (fun y => 0 ≤ y ∧ y ≤ x.2.k) (fun y => [(12, .int .i64 y), (4, ptr kb 0 0), (5, ptr rk 0 0), (6, .slice x.2.pm x.2.k x.2.cm), (7, .slice x.2.pw x.2.k x.2.cw)]) (fun y => XM W (foot [.ro 0 0 64 tab64]) [.cells kb 0 577 (encK pb x.2.v.by_ x.2.v.rf), .cells pb 0 71 (encP x.2.v.bb.pool), .cells rk 0 577 (encRK rp x.2.v.by_ x.2.v.rf), .cells rp 0 128 (encM x.2.v.bb), .cfam (ltP x.2.k) x.2.mb 34 (cN kb x.2.f x.2.ps x.2.cs), .fam (ltP x.2.k) (rN 83 x.2.f x.2.ps x.2.cs), .cfam (ltP x.2.k) x.2.rb 49 (cW rk x.2.f), frow x.2.pm x.2.cm 29 1 x.2.k (ptrC x.2.mb), frow x.2.pw x.2.cw 32 1 x.2.k (ptrC x.2.rb)]) (0) ?_ (S5 rfl rfl rfl rfl rfl) (fun _ hw => XM.pick .h9 hw) ?_
    · skip
      omega
    intro y hy
    refine gC ?_
    refine cd rfl ?_ ?_ <;> intro h2
    · skip
      have hz : y.toNat < x.2.k := by omega
      refine XR.openRow (.t7 .here) (by omega) ?_
      intro ga hga
      rw [hga]
      refine XR.openRow (.t8 .here) (by omega) ?_
      intro gb hgb
      rw [hgb]
      refine XR.mono (fun _ hw3 => XM.outY (z := y.toNat) hz (.cons (.t4 .here) (.cons (.t4 .here) (.cons (.t4 .here) .nil))) hw3) ?_
      refine rq [0, 1, 2, 3, 4, 5, 6, 7, 8, 9] mixed (by kernel_rfl) ?_
      refine sd (by omega) ?_
      refine ldF (.t10 .here) (ptrC.ld _ (by omega)) ?_
      refine sd (by omega) ?_
      refine ldF (.t11 .here) (ptrC.ld _ (by omega)) ?_
      refine ca (as_memory kb _ rk _ _ _ (x.2.f y.toNat) (hs.mo _ hz)) .h3 ?_
      rintro _ _ ⟨rfl, rfl⟩
      refine gO ?_
      refine XR.mono (fun _ hw3 => XM.sameP hz .h6 hw3) ?_
      refine sd (by omega) ?_
      refine ag (y + 1) ?_ ?_ (S5 rfl rfl rfl rfl rfl) (fun _ hw => XM.pick (.cons (.t3 .here) (.cons (.t3 .here) (.cons (.t3 .here) (.cons (.t3 .here) .h5)))) hw)
      · skip
        (first | omega | (simp; done) | (simp; omega))
      · skip
        (first | omega | (simp; done) | (simp; omega))
    · skip
      refine lp (σ := Int) (fun y => (65 - y).toNat) (fun y => -1 ≤ y ∧ y ≤ 65) (fun y => [(14, .int .i64 y), (4, ptr kb 0 0), (5, ptr rk 0 0)]) (fun y => XM W (foot [.ro 0 0 64 tab64]) [.cells kb 0 577 (encK pb x.2.v.by_ x.2.v.rf), .cells rk 0 577 (encRK rp x.2.v.by_ x.2.v.rf)]) (-1) ?_ (S3 rfl rfl rfl) (fun _ hw => XM.pick (.cons .here (.cons (.there .here) .nil)) hw) ?_
      · skip
        omega
      intro y hy
      refine gC ?_
      refine cd rfl ?_ ?_ <;> intro h3
      · skip
        refine ca (v_Refs kb pb x.2.v y) .h1 ?_
        rintro v31 _ ⟨hv31, rfl⟩
        by_cases hf : y < 0 ∨ 63 < y
        · skip
          rw [if_pos hf] at hv31
          subst hv31
          refine gO ?_
          refine sp 133 rfl ?_ ?_ <;> intro h4
          · skip
            refine ca (same_any 1 1 (by omega)) .nil ?_
            rintro _ _ ⟨rfl, rfl⟩
            refine gO ?_
            refine spF 140 rfl (by simp) ?_
            refine cdF rfl (by simp) ?_
            refine sd (by omega) ?_
            refine ag (y + 1) ?_ ?_ (S3 rfl rfl rfl) (fun _ hw => XM.pick .h2 hw)
            · skip
              (first | omega | (simp; done) | (simp; omega))
            · skip
              (first | omega | (simp; done) | (simp; omega))
          · skip
            refine cdT rfl (by omega) ?_
            refine ca (same_any 1 1 (by omega)) .nil ?_
            rintro _ _ ⟨rfl, rfl⟩
            refine gO ?_
            refine spF 140 rfl (by simp) ?_
            refine cdF rfl (by simp) ?_
            refine sd (by omega) ?_
            refine ag (y + 1) ?_ ?_ (S3 rfl rfl rfl) (fun _ hw => XM.pick .h2 hw)
            · skip
              (first | omega | (simp; done) | (simp; omega))
            · skip
              (first | omega | (simp; done) | (simp; omega))
        · skip
          rw [if_neg hf] at hv31
          subst hv31
          refine gO ?_
          refine spF 133 rfl (by omega) ?_
          refine cdF rfl (by omega) ?_
          refine spF 146 rfl (by simp) ?_
          refine sd (by omega) ?_
          refine ld (.there .here) (encRK.ld_Refs_I _ _ _ _ (by omega)) ?_
          refine cdF rfl (by simp) ?_
          refine sd (by omega) ?_
          refine ag (y + 1) ?_ ?_ (S3 rfl rfl rfl) (fun _ hw => XM.pick .h2 hw)
          · skip
            (first | omega | (simp; done) | (simp; omega))
          · skip
            (first | omega | (simp; done) | (simp; omega))
      · skip
        refine XE.ret1 rfl rfl (post_of .nil rfl ?_)
        exact ⟨rfl, rfl⟩
theorem law_nil : Spec Tryd.prog 3 [.slice none 0 0] [.ro 0 0 64 tab64] (fun v H1 => v = .bool true ∧ H1 = []) := law_nil' none 0

end Go.X
