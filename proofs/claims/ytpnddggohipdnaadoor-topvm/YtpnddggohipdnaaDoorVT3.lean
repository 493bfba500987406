import Derived.Test.YtpnddggohipdnaaDoorVT2
namespace Go.X
open Go Go.Proofs
set_option maxRecDepth 20000
set_option maxHeartbeats 4000000

set_option maxHeartbeats 16000000 in
theorem top_nil' (p : Option Addr) (cap : Nat) : Spec Tryd.prog 4 [.slice p 0 cap]
 [.ro 0 0 64 tab64]
 (fun v H1 => v = .bool true ∧ H1 = []) := by
  refine Spec.go 286 [0, 2, 3, 4, 5, 6, 18, 19, 20, 21, 22, 30, 33, 42, 242, 246, 264, 285] [] Tryd.func4 rfl rfl rfl ?_
  intro W
  refine ca (v_NewBank) .nil ?_
  rintro _ _ ⟨kb, pb, rfl, rfl⟩
  refine gO ?_
  refine ca (v_Left kb pb VB.init VB.Ok.init) .h2 ?_
  rintro _ _ ⟨rfl, rfl⟩
  refine gO ?_
  refine cdF rfl (by decide +kernel) ?_
  refine ca (light_any _ _ _ _) .nil ?_
  rintro _ _ ⟨rfl, rfl⟩
  refine gO ?_
  refine cd rfl ?_ ?_ <;> intro h1
  · skip
    refine XE.ret1 rfl rfl (post_of .nil rfl ?_)
    exact ⟨rfl, rfl⟩
  · skip
    refine ca (v_New kb) .nil ?_
    rintro _ _ ⟨mb0, rfl, rfl⟩
    refine gO ?_
    refine XO.buildRow (e := 29) (vs := #[(0, ptr mb0 0 0)]) (A := #[ptr mb0 0 0]) (sz := 1) rfl (fun _ => by kernel_rfl) rfl (by omega) rfl ?_
    intro b1
    refine gO ?_
    refine XR.mono (fun _ hw3 => XM.startT MS.nil (.cons (.there .here) (.cons (.there .here) .nil)) hw3) ?_
    refine XO.v (V.build (vs := #[]) rfl (v := .agg (flA (fun _ => 0))) (fun _ => by kernel_rfl)) rfl (gO ?_)
    refine XO.buildRow (e := 58) (vs := #[(0, .agg (flA (fun _ => 0)))]) (A := (flA (fun _ => 0))) (sz := 128) rfl (fun _ => by kernel_rfl) rfl (by omega) rfl ?_
    intro b2
    refine gO ?_
    refine lp (σ := Int × VY) (fun x => 0) (fun x => (0 ≤ x.1 ∧ x.1 ≤ (0 : Nat)) ∧ (1 ≤ x.2.k ∧ x.2.k ≤ 8) ∧ TV x.2.v x.2.f x.2.k x.2.fl) (fun x => [(6, .int .i64 x.1), (4, .slice x.2.pm x.2.k x.2.cm), (5, .slice x.2.pf x.2.k x.2.cf), (0, .slice p 0 cap), (3, ptr kb 0 0)]) (fun x => XM W (foot [.ro 0 0 64 tab64]) [.cells kb 0 577 (encK pb x.2.v.by_ x.2.v.rf), .cells pb 0 71 (encP x.2.v.bb.pool), .cfam (ltP x.2.k) x.2.mb 34 (cN kb x.2.f x.2.ps x.2.cs), .fam (ltP x.2.k) (rN 83 x.2.f x.2.ps x.2.cs), frow x.2.pm x.2.cm 29 1 x.2.k (ptrC x.2.mb), frow x.2.pf x.2.cf 58 128 x.2.k (flC x.2.fl), .ro 0 0 64 tab64]) ((0, ⟨VB.init, fupd (fun _ => MS.nil) 0 MS.nil, 1, fupd (fun _ _ => 0) 0 (fun _ => 0), fupd (fun _ => 0) 0 mb0, fupd (fun _ => none) 0 none, fupd (fun _ => 0) 0 0, some ⟨b1, 0, none⟩, 1, some ⟨b2, 0, none⟩, 1⟩)) ?_ (S5 rfl rfl rfl rfl rfl) (fun _ hw => by rw [flat0] at hw; exact XM.pick (.cons (.t4 .here) (.cons (.t4 .here) (.cons (.there .here) (.cons (.there .here) (.cons (.there .here) .h2))))) hw) ?_
    · skip
      exact ⟨by simp, by simp, TV.init'⟩
    intro x hx
    obtain ⟨hi, hk, ht⟩ := hx
    refine gC ?_
    refine cdF rfl (by simp; omega) ?_
    refine lp (σ := Int) (fun y => (x.2.k - y).toNat) (fun y => 0 ≤ y ∧ y ≤ x.2.k) (fun y => [(18, .int .i64 y), (4, .slice x.2.pm x.2.k x.2.cm), (5, .slice x.2.pf x.2.k x.2.cf)]) (fun y => XM W (foot [.ro 0 0 64 tab64]) [.cells kb 0 577 (encK pb x.2.v.by_ x.2.v.rf), .cells pb 0 71 (encP x.2.v.bb.pool), .cfam (ltP x.2.k) x.2.mb 34 (cN kb x.2.f x.2.ps x.2.cs), .fam (ltP x.2.k) (rN 83 x.2.f x.2.ps x.2.cs), frow x.2.pm x.2.cm 29 1 x.2.k (ptrC x.2.mb), frow x.2.pf x.2.cf 58 128 x.2.k (flC x.2.fl), .ro 0 0 64 tab64]) (0) ?_ (S3 rfl rfl rfl) (fun _ hw => XM.pick .h7 hw) ?_
    · skip
      omega
    intro y hy
    refine gC ?_
    refine cd rfl ?_ ?_ <;> intro h2
    · skip
      have hz : y.toNat < x.2.k := by omega
      have hmo := ht.sys.mo _ hz
      refine XR.openRow (.t4 .here) (by omega) ?_
      intro ga hga
      rw [hga]
      refine XR.openRow (.t5 .here) (by omega) ?_
      intro gf hgf
      rw [hgf]
      refine XR.mono (fun _ hw3 => XM.outT (z := y.toNat) hz (.cons (.t2 .here) (.cons (.t2 .here) .nil)) hw3) ?_
      refine lp (σ := Int) (fun w => (128 - w).toNat) (fun w => 0 ≤ w ∧ w ≤ 128) (fun w => [(19, .int .i64 w), (4, .slice (some ⟨ga, 0, none⟩) x.2.k x.2.cm), (5, .slice (some ⟨gf, 0, none⟩) x.2.k x.2.cf), (18, .int .i64 y)]) (fun w => XM W (foot [.ro 0 0 64 tab64]) [.cells (x.2.mb y.toNat) 0 34 (encN kb (x.2.ps y.toNat) (runs (x.2.f y.toNat).is_).length (x.2.cs y.toNat) (x.2.f y.toNat).fr (x.2.f y.toNat).own), frow (x.2.ps y.toNat) (x.2.cs y.toNat) 83 3 (runs (x.2.f y.toNat).is_).length (rgC (runs (x.2.f y.toNat).is_)), .cfam (outP (ltP x.2.k) y.toNat) x.2.mb 34 (cN kb x.2.f x.2.ps x.2.cs), .fam (outP (ltP x.2.k) y.toNat) (rN 83 x.2.f x.2.ps x.2.cs), .cells kb 0 577 (encK pb x.2.v.by_ x.2.v.rf), .cells pb 0 71 (encP x.2.v.bb.pool), frow (some ⟨ga, 0, none⟩) x.2.cm 29 1 x.2.k (ptrC x.2.mb), frow (some ⟨gf, 0, none⟩) x.2.cf 58 128 x.2.k (flC x.2.fl), .ro 0 0 64 tab64]) (0) ?_ (S4 rfl rfl rfl rfl) (fun _ hw => XM.pick .h9 hw) ?_
      · skip
        omega
      intro w hw
      refine gC ?_
      refine cd rfl ?_ ?_ <;> intro h3
      · skip
        refine sd (by omega) ?_
        refine ldF (.t6 .here) (ptrC.ld _ (by omega)) ?_
        refine ca (v_Wants kb _ _ _ (x.2.f y.toNat) hmo w) .h2 ?_
        rintro _ _ ⟨rfl, rfl⟩
        cases hwa : (x.2.f y.toNat).wants w
        · skip
          refine gO ?_
          refine sd (by omega) ?_
          refine ldF (.t6 .here) (ptrC.ld _ (by omega)) ?_
          refine ca (v_May kb _ _ _ (x.2.f y.toNat) hmo w false) .h2 ?_
          rintro _ _ ⟨rfl, rfl⟩
          cases hma : (x.2.f y.toNat).may w false
          · skip
            refine gO ?_
            refine sd (by omega) ?_
            refine ag (w + 1) ?_ ?_ (S4 rfl rfl rfl rfl) (fun _ hw => XM.pick .h9 hw)
            · skip
              (first | omega | (simp; done) | (simp; omega))
            · skip
              (first | omega | (simp; done) | (simp; omega))
          · skip
            refine gO ?_
            refine sd (by omega) ?_
            refine ldF (.t6 .here) (ptrC.ld _ (by omega)) ?_
            refine caR 4 (v_Load kb pb _ x.2.v ht.sys.acc.ok _ _ (x.2.f y.toNat) hmo w) (.cons (.t4 .here) (.cons (.t4 .here) (.cons .here (.cons .here (.cons (.t4 .here) .nil))))) rfl ?_
            rintro _ _ ⟨rfl, rfl⟩
            rw [ht.load_same hz hwa hma]
            refine gO ?_
            refine spF 276 rfl (by simp) ?_
            refine sd (by omega) ?_
            refine sd (by omega) ?_
            refine ldF (.t8 .here) (flC.ld _ (by omega) (by omega)) ?_
            refine cdF rfl (by simp) ?_
            refine sd (by omega) ?_
            refine ag (w + 1) ?_ ?_ (S4 rfl rfl rfl rfl) (fun _ hw => XM.pick (.cons (.t2 .here) (.cons (.t2 .here) (.cons (.t3 .here) (.cons (.t3 .here) (.cons .here (.cons .here (.cons (.there .here) (.cons (.there .here) .h1)))))))) hw)
            · skip
              (first | omega | (simp; done) | (simp; omega))
            · skip
              (first | omega | (simp; done) | (simp; omega))
        · skip
          refine gO ?_
          refine sd (by omega) ?_
          refine ag (w + 1) ?_ ?_ (S4 rfl rfl rfl rfl) (fun _ hw => XM.pick .h9 hw)
          · skip
            (first | omega | (simp; done) | (simp; omega))
          · skip
            (first | omega | (simp; done) | (simp; omega))
      · skip
        refine XR.mono (fun _ hw3 => XM.sameT hz .h4 hw3) ?_
        refine sd (by omega) ?_
        refine ag (y + 1) ?_ ?_ (S3 rfl rfl rfl) (fun _ hw => XM.pick (.cons (.t2 .here) (.cons (.t2 .here) .h5)) hw)
        · skip
          (first | omega | (simp; done) | (simp; omega))
        · skip
          (first | omega | (simp; done) | (simp; omega))
    · skip
      refine XE.ret1 rfl rfl (post_of .nil rfl ?_)
      exact ⟨rfl, rfl⟩
theorem top_nil : Spec Tryd.prog 4 [.slice none 0 0] [.ro 0 0 64 tab64] (fun v H1 => v = .bool true ∧ H1 = []) := top_nil' none 0

end Go.X
