import Derived.Test.YtpnddggohipdnaaDoorVL2
namespace Go.X
open Go Go.Proofs
set_option maxRecDepth 20000
set_option maxHeartbeats 4000000

theorem law_pages' (m1 : MS) (hm1 : MS.nil.map 2 3 true = m1) (Q : Int × VB × MS) (hQ : m1.store VB.init 17 5 = Q) (Z : Int × Int × VB × MS) (hZ : Q.2.2.load Q.2.1 17 = Z) (o1 : m1.Ok) (v2 : Q.2.1.Ok) (o2 : Q.2.2.Ok) (v3 : Z.2.2.1.Ok) (o3 : Z.2.2.2.Ok) (e0 : MS.nil.mapE 2 3 = 0) (e1 : Q.1 = 0) (e2 : Z.2.1 = 0) (e3 : Z.1 = 5) (e4 : Z.2.2.2.res = 1) (e5 : Z.2.2.1.bb.left = 63) (e6 : (runs Z.2.2.2.is_).length = 1) (q1 : m1.is_ = Q.2.2.is_) (q2 : Q.2.2.is_ = Z.2.2.2.is_) : Spec Tryd.prog 5 []
 [.ro 0 0 64 tab64]
 (fun x H1 => x = .bool true ∧ H1 = []) := by
  refine Spec.go 51 [0, 1, 2, 3, 4, 5, 8, 17] [] Tryd.func5 rfl rfl rfl ?_
  intro W
  refine ca (v_NewBank) .nil ?_
  rintro _ _ ⟨kb, pb, rfl, rfl⟩
  refine gO ?_
  refine ca (v_New kb) .nil ?_
  rintro _ _ ⟨mb, rfl, rfl⟩
  refine gO ?_
  refine ca (v_Map _ _ _ _ MS.nil MS.Ok.nil _ _ _) .h2 ?_
  rintro _ _ ⟨rfl, p2, c2, rfl⟩
  rw [hm1, e0]
  refine gO ?_
  refine cdF rfl (by simp) ?_
  refine caR 4 (v_Store _ _ _ VB.init VB.Ok.init _ _ m1 o1 17 5) (.cons (.t2 .here) (.cons (.t2 .here) .h3)) rfl ?_
  rintro _ _ ⟨rfl, rfl⟩
  rw [hQ, q1, e1]
  refine gO ?_
  refine caR 4 (v_Load _ _ _ Q.2.1 v2 _ _ Q.2.2 o2 17) .h5 rfl ?_
  rintro _ _ ⟨rfl, rfl⟩
  rw [hZ, q2, e2, e3]
  refine gO ?_
  refine ca (same_any 0 0 (Int.le_refl 0)) .nil ?_
  rintro _ _ ⟨rfl, rfl⟩
  refine gO ?_
  refine spT 27 rfl (rfl) ?_
  refine ca (same_any 0 0 (Int.le_refl 0)) .nil ?_
  rintro _ _ ⟨rfl, rfl⟩
  refine gO ?_
  refine spT 31 rfl (rfl) ?_
  refine spT 35 rfl (rfl) ?_
  refine ca (v_Resident _ _ _ _ Z.2.2.2 o3) (.cons (.t2 .here) .nil) ?_
  rintro _ _ ⟨rfl, rfl⟩
  refine gO ?_
  refine spT 40 rfl (e4) ?_
  refine ca (v_Left _ _ Z.2.2.1 v3) (.cons (.there .here) (.cons (.there .here) .nil)) ?_
  rintro _ _ ⟨rfl, rfl⟩
  refine gO ?_
  refine spT 45 rfl (e5) ?_
  refine ca (v_Regions _ _ _ _ Z.2.2.2) (.cons (.t2 .here) (.cons (.t2 .here) .nil)) ?_
  rintro _ _ ⟨p1, c1, rfl, rfl⟩
  refine gO ?_
  refine XE.ret1 rfl rfl (post_of .nil rfl ?_)
  exact ⟨congrArg Value.bool (decide_eq_true (by omega)), rfl⟩
theorem law_pages : Spec Tryd.prog 5 [] [.ro 0 0 64 tab64] (fun x H1 => x = .bool true ∧ H1 = []) :=
  have o1 := MS.Ok.nil.map 2 3 true
  have s1 := Sys.init.same (z := 0) (by omega) o1 (MS.map_fr MS.nil 2 3 true).1
  have s2 : Sys ((MS.nil.map 2 3 true).store VB.init 17 5).2.1 (fupd (fupd (fun _ => MS.nil) 0 (MS.nil.map 2 3 true)) 0 ((MS.nil.map 2 3 true).store VB.init 17 5).2.2) 1 := s1.store (z := 0) (by omega) 17 5 (by omega)
  have s3 : Sys (((MS.nil.map 2 3 true).store VB.init 17 5).2.2.load ((MS.nil.map 2 3 true).store VB.init 17 5).2.1 17).2.2.1 (fupd (fupd (fupd (fun _ => MS.nil) 0 (MS.nil.map 2 3 true)) 0 ((MS.nil.map 2 3 true).store VB.init 17 5).2.2) 0 (((MS.nil.map 2 3 true).store VB.init 17 5).2.2.load ((MS.nil.map 2 3 true).store VB.init 17 5).2.1 17).2.2.2) 1 := s2.load (z := 0) (by omega) 17
  law_pages' _ rfl _ rfl _ rfl o1 s2.acc.ok (s2.mo 0 (by omega)) s3.acc.ok (s3.mo 0 (by omega)) (by decide +kernel) (by decide +kernel) (by decide +kernel) (by decide +kernel) (by decide +kernel) (by decide +kernel) (by decide +kernel) (MS.store_is _ _ _ _).symm (MS.load_is _ _ _).symm
end Go.X
