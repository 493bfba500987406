import Derived.Test.YtpnddggohipdnaaDoorVL3
import Derived.Test.YtpnddggohipdnaaDoorVF
namespace Go.X
open Go Go.Proofs
set_option maxRecDepth 20000
set_option maxHeartbeats 4000000
theorem cl_13 : callable Tryd.prog 13 = true := by kernel_rfl
theorem cl_14 : callable Tryd.prog 14 = true := by kernel_rfl
theorem fo_50_0 : fieldOff Tryd.prog 50 0 = some 0 := by kernel_rfl
theorem rt_29_1 : rowT Tryd.prog 29 1 = true := by kernel_rfl
theorem rt_32_1 : rowT Tryd.prog 32 1 = true := by kernel_rfl
theorem sc_45 : scal Tryd.prog 45 = true := by kernel_rfl
set_option maxHeartbeats 8000000 in
theorem law_some (bl ol len cap : Nat) (hlen : len ≤ cap) (A : Int → ActV) (hA : ∀ z : Int, 0 ≤ z → z < len → (A z).ok) : Spec Tryd.prog 3 [.slice (some ⟨bl, ol, none⟩) len cap]
 [.ro 0 0 64 tab64, .ro bl ol (8 * len) (encActs A)]
 (fun v H1 => v = .bool true ∧ H1 = []) := by
  refine Spec.go 156 [0, 2, 3, 4, 5, 6, 7, 8, 9, 10, 11, 12, 13, 14, 15, 16, 24, 38, 56, 59, 66, 103, 107, 120, 122, 136, 143, 155] [] Tryd.func3 rfl rfl rfl ?_
  intro W
  refine caR 0 (law_pages) .h1 rfl ?_
  rintro _ _ ⟨rfl, rfl⟩
  refine gO ?_
  refine ca (light_any _ _ _ _) .nil ?_
  rintro _ _ ⟨rfl, rfl⟩
  refine gO ?_
  refine cd rfl ?_ ?_ <;> intro h1
  · skip
    refine XE.ret1 rfl rfl (post_of .nil rfl ?_)
    exact ⟨rfl, rfl⟩
  · skip
    refine ca (v_NewBank) .nil ?_
    rintro _ _ ⟨kb, pb, rfl, rfl⟩
    refine gO ?_
    refine ca (r_NewBank) .nil ?_
    rintro _ _ ⟨rk, rp, rfl, rfl⟩
    refine gO ?_
    refine ca (v_New kb) .nil ?_
    rintro _ _ ⟨mb0, rfl, rfl⟩
    refine gO ?_
    refine XO.buildRow (e := 29) (vs := #[(0, ptr mb0 0 0)]) (A := #[ptr mb0 0 0]) (sz := 1) rfl (fun _ => by kernel_rfl) rfl (by omega) rfl ?_
    intro b1
    refine gO ?_
    refine XO.v (V.build (vs := #[(0, ptr rk 0 0)]) rfl (v := .agg (zWl rk).toArray) (fun _ => by kernel_rfl)) rfl (gO ?_)
    refine XO.box (m := 49) (C := encRN rk MS.nil.is_ MS.nil.fr MS.nil.own) rfl rfl (zW_box rk) rfl ?_
    intro rb0
    refine gO ?_
    refine XO.buildRow (e := 32) (vs := #[(0, ptr rb0 0 0)]) (A := #[ptr rb0 0 0]) (sz := 1) rfl (fun _ => by kernel_rfl) rfl (by omega) rfl ?_
    intro b2
    refine gO ?_
    refine XR.mono (fun _ hw3 => XM.startP MS.nil (.cons (.t3 .here) (.cons (.t3 .here) (.cons (.there .here) .nil))) hw3) ?_
    refine lp (σ := Int × VX) (fun x => (len - x.1).toNat) (fun x => (0 ≤ x.1 ∧ x.1 ≤ len) ∧ (1 ≤ x.2.k ∧ x.2.k ≤ 8) ∧ Sys x.2.v x.2.f x.2.k) (fun x => [(8, .int .i64 x.1), (6, .slice x.2.pm x.2.k x.2.cm), (7, .slice x.2.pw x.2.k x.2.cw), (0, .slice (some ⟨bl, ol, none⟩) len cap), (4, ptr kb 0 0), (5, ptr rk 0 0)]) (fun x => XM W (foot [.ro 0 0 64 tab64, .ro bl ol (8 * len) (encActs A)]) [.cells kb 0 577 (encK pb x.2.v.by_ x.2.v.rf), .cells pb 0 71 (encP x.2.v.bb.pool), .cells rk 0 577 (encRK rp x.2.v.by_ x.2.v.rf), .cells rp 0 128 (encM x.2.v.bb), .cfam (ltP x.2.k) x.2.mb 34 (cN kb x.2.f x.2.ps x.2.cs), .fam (ltP x.2.k) (rN 83 x.2.f x.2.ps x.2.cs), .cfam (ltP x.2.k) x.2.rb 49 (cW rk x.2.f), frow x.2.pm x.2.cm 29 1 x.2.k (ptrC x.2.mb), frow x.2.pw x.2.cw 32 1 x.2.k (ptrC x.2.rb), .ro 0 0 64 tab64, .ro bl ol (8 * len) (encActs A)]) ((0, ⟨VB.init, fupd (fun _ => MS.nil) 0 MS.nil, 1, fupd (fun _ => 0) 0 mb0, fupd (fun _ => 0) 0 rb0, fupd (fun _ => none) 0 none, fupd (fun _ => 0) 0 0, some ⟨b1, 0, none⟩, 1, some ⟨b2, 0, none⟩, 1⟩)) ?_ (S6 rfl rfl rfl rfl rfl rfl) (fun _ hw => XM.pick (.cons (.t7 .here) (.cons (.t7 .here) (.cons (.t5 .here) (.cons (.t5 .here) (.cons .here (.cons .here (.cons .here (.cons (.there .here) .h3)))))))) hw) ?_
    · skip
      exact ⟨by simp, by simp, by rw [fupd_self]; exact Sys.init⟩
    intro x hx
    obtain ⟨hi, hk, hs⟩ := hx
    refine gC ?_
    refine cd rfl ?_ ?_ <;> intro h2
    · skip
      have hkey := (hA x.1 (by omega) (by omega)).key
      have hk0 : 0 ≤ ((A x.1).key % (x.2.k : Nat)) := Int.emod_nonneg _ (by omega)
      have hk1 : ((A x.1).key % (x.2.k : Nat)) < (x.2.k : Nat) := Int.emod_lt_of_pos _ (by omega)
      have hz : ((A x.1).key % (x.2.k : Nat)).toNat < x.2.k := by omega
      refine sd (by omega) ?_
      refine ldRo (.t10 .here) (acts_ld_Key A len _ (by omega)) ?_
      refine XO.v (V.convInt rfl Tryd.underlying3 Tryd.underlying38 (x.2.k : Nat) (IntWalk.u64_in _ (by omega))) rfl (gO ?_)
      refine XO.v (V.rem rfl rfl (by first | decide | omega) _ (Int.tmod_eq_emod_of_nonneg (by omega))) rfl (gO ?_)
      refine XO.v (V.convInt rfl Tryd.underlying38 Tryd.underlying3 ((A x.1).key % (x.2.k : Nat)) (IntWalk.i64_in _ (by omega))) rfl (gO ?_)
      refine sd (by omega) ?_
      refine ldRo (.t10 .here) (acts_ld_Kind A len _ (by omega)) ?_
      refine cd rfl ?_ ?_ <;> intro h3
      · skip
        refine cd rfl ?_ ?_ <;> intro h4
        · skip
          refine XR.openRow (.t7 .here) (by omega) ?_
          intro ga hga
          rw [hga]
          refine XR.mono (fun _ hw3 => XM.outY (z := ((A x.1).key % (x.2.k : Nat)).toNat) hz (.cons (.t4 .here) (.cons (.t4 .here) (.cons (.t4 .here) .nil))) hw3) ?_
          refine sd (by omega) ?_
          refine ldF (.t10 .here) (ptrC.ld _ (by omega)) ?_
          refine ca (v_Fork kb pb _ x.2.v hs.acc.ok _ _ (x.2.f ((A x.1).key % (x.2.k : Nat)).toNat) (hs.mo _ hz)) (.cons (.t6 .here) .h2) ?_
          rintro _ _ ⟨nb, p1, c1, rfl, rfl⟩
          refine gO ?_
          refine XO.buildSlice (e := 29) (vs := #[(0, ptr nb 0 0)]) (A := #[ptr nb 0 0]) rfl (fun _ => by kernel_rfl) rfl rfl ?_
          intro b3
          refine gO ?_
          refine XO.appendP (e := 29) rfl rfl Tryd.underlying31 rt_29_1 (.t12 (.there .here)) .here (by omega) rfl ?_
          intro p3 c3
          refine gO ?_
          refine XR.openRow (.t12 (.t2 .here)) (by omega) ?_
          intro gb hgb
          rw [hgb]
          refine sd (by omega) ?_
          refine ldF (.t12 (.t2 .here)) (ptrC.ld _ (by omega)) ?_
          refine ca (r_Fork rk rp _ x.2.v hs.acc.ok (x.2.f ((A x.1).key % (x.2.k : Nat)).toNat) (hs.mo _ hz)) (.cons (.t12 .here) (.cons (.t7 .here) .nil)) ?_
          rintro _ _ ⟨rn, rfl, rfl⟩
          refine gO ?_
          refine XO.buildSlice (e := 32) (vs := #[(0, ptr rn 0 0)]) (A := #[ptr rn 0 0]) rfl (fun _ => by kernel_rfl) rfl rfl ?_
          intro b4
          refine gO ?_
          refine XO.appendP (e := 32) rfl rfl Tryd.underlying37 rt_32_1 (.t12 (.t4 .here)) .here (by omega) rfl ?_
          intro p4 c4
          refine gO ?_
          refine XR.mono (fun _ hw3 => XM.backP (p := x.2.ps (((A x.1).key % (x.2.k : Nat)).toNat)) (c := x.2.cs (((A x.1).key % (x.2.k : Nat)).toNat)) (x.2.f ((A x.1).key % (x.2.k : Nat)).toNat).bare hz (.cons (.t8 .here) (.cons (.t8 .here) (.cons (.t3 .here) (.cons (.t9 .here) (.cons (.t9 .here) (.cons (.t9 .here) .nil)))))) hw3) ?_
          refine XR.mono (fun _ hw3 => XM.moreP (x.2.f ((A x.1).key % (x.2.k : Nat)).toNat).bare (.cons (.t10 .here) (.cons (.t10 .here) (.cons (.t6 .here) .h3))) hw3) ?_
          refine sd (by omega) ?_
          refine ag ((x.1 + 1, ⟨x.2.v.fork (x.2.f ((A x.1).key % (x.2.k : Nat)).toNat), fupd (fupd x.2.f (((A x.1).key % (x.2.k : Nat)).toNat) (x.2.f ((A x.1).key % (x.2.k : Nat)).toNat).bare) x.2.k (x.2.f ((A x.1).key % (x.2.k : Nat)).toNat).bare, x.2.k + 1, fupd x.2.mb x.2.k nb, fupd x.2.rb x.2.k rn, fupd (fupd x.2.ps (((A x.1).key % (x.2.k : Nat)).toNat) (x.2.ps (((A x.1).key % (x.2.k : Nat)).toNat))) x.2.k p1, fupd (fupd x.2.cs (((A x.1).key % (x.2.k : Nat)).toNat) (x.2.cs (((A x.1).key % (x.2.k : Nat)).toNat))) x.2.k c1, p3, c3, p4, c4⟩)) ?_ ?_ (S6 rfl rfl rfl rfl rfl rfl) (fun _ hw => XM.pick (.cons (.t8 .here) (.cons (.t8 .here) (.cons (.t5 .here) (.cons (.t7 .here) (.cons .here (.cons .here (.cons .here (.cons (.t2 .here) (.cons .here (.cons (.t2 .here) (.cons (.t2 .here) .nil))))))))))) hw)
          · skip
            (show (_ - (x.1 + 1)).toNat < (_ - x.1).toNat; omega)
          · skip
            exact ⟨(by show 0 ≤ x.1 + 1 ∧ x.1 + 1 ≤ _; omega), (by show 1 ≤ x.2.k + 1 ∧ x.2.k + 1 ≤ 8; omega), hs.fork hz (by omega)⟩
        · skip
          refine sd (by omega) ?_
          refine ag ((x.1 + 1, x.2)) ?_ ?_ (S6 rfl rfl rfl rfl rfl rfl) (fun _ hw => XM.pick .h11 hw)
          · skip
            (show (_ - (x.1 + 1)).toNat < (_ - x.1).toNat; omega)
          · skip
            exact ⟨(by show 0 ≤ x.1 + 1 ∧ x.1 + 1 ≤ _; omega), hk, hs⟩
      · skip
        refine XR.openRow (.t7 .here) (by omega) ?_
        intro ga hga
        rw [hga]
        refine XR.openRow (.t8 .here) (by omega) ?_
        intro gb hgb
        rw [hgb]
        refine XR.mono (fun _ hw3 => XM.outY (z := ((A x.1).key % (x.2.k : Nat)).toNat) hz (.cons (.t4 .here) (.cons (.t4 .here) (.cons (.t4 .here) .nil))) hw3) ?_
        refine rq [0, 1, 2, 3, 4, 5, 6, 7, 8, 9, 10, 11, 12, 13] mixed (by kernel_rfl) ?_
        refine sd (by omega) ?_
        refine ldF (.t10 .here) (ptrC.ld _ (by omega)) ?_
        refine sd (by omega) ?_
        refine ldF (.t11 .here) (ptrC.ld _ (by omega)) ?_
        refine sd (by omega) ?_
        refine ldARo (.t12 (.there .here)) (acts_load A len _ (by omega)) ?_
        refine caR 7 (law_memory kb pb _ rk rp _ x.2.v hs.acc.ok _ _ (x.2.f ((A x.1).key % (x.2.k : Nat)).toNat) (hs.mo _ hz) (hs.In hz) (A x.1) (hA x.1 (by omega) (by omega))) (.cons (.t6 .here) (.cons (.t6 .here) (.cons .here (.cons .here (.cons (.t4 .here) (.cons (.t4 .here) (.cons .here (.cons (.t5 .here) .nil)))))))) rfl ?_
        rintro _ _ ⟨rfl, p2, c2, rfl⟩
        refine gO ?_
        refine XR.mono (fun _ hw3 => XM.backP ((x.2.f ((A x.1).key % (x.2.k : Nat)).toNat).act x.2.v (A x.1)).2 hz (.cons (.t2 .here) (.cons (.t2 .here) (.cons (.t4 .here) (.cons (.t5 .here) (.cons (.t5 .here) (.cons (.t5 .here) .nil)))))) hw3) ?_
        refine XC.regionQ mixed (f := 12) (l := #[false, false, false, false, false, false, false, false, false, false, false, false]) rfl rfl XM.drawn' ?_
        have hs2 := hs.act hz (A x.1)
        refine XQ.pv (i := 0) (l' := #[true, false, false, false, false, false, false, false, false, false, false, false]) rfl (by kernel_rfl) rfl (V.move rfl) rfl rfl ?_
        refine XQ.pv (i := 1) (l' := #[true, true, false, false, false, false, false, false, false, false, false, false]) rfl (by kernel_rfl) rfl (V.not rfl) rfl rfl ?_
        refine XQ.pv (i := 2) (l' := #[true, true, true, false, false, false, false, false, false, false, false, false]) rfl (by kernel_rfl) rfl (V.move rfl) rfl rfl ?_
        refine XQ.pvG (i := 3) (l' := #[true, true, true, true, false, false, false, false, false, false, false, false]) rfl rfl rfl (by kernel_rfl) rfl (V.move rfl) rfl rfl ?_
        refine XQ.pvG (i := 5) (l' := #[true, true, true, true, false, true, false, false, false, false, false, false]) rfl rfl rfl (by kernel_rfl) rfl (V.move rfl) rfl rfl ?_
        refine XQ.pvG (i := 6) (l' := #[true, true, true, true, false, true, true, false, false, false, false, false]) rfl rfl rfl (by kernel_rfl) rfl (V.nilCheckP rfl) rfl rfl ?_
        refine XQ.pvG (i := 7) (l' := #[true, true, true, true, false, true, true, true, false, false, false, false]) rfl rfl rfl (by kernel_rfl) rfl (V.fieldAddr rfl fo_50_0) rfl rfl ?_
        refine XQ.loadG (i := 8) (l' := #[true, true, true, true, false, true, true, true, true, false, false, false]) (.cells _ _ _ _) [9] rfl rfl rfl (by kernel_rfl) rfl (.t5 .here) (V.load rfl inEnt (encRK.ld_P _ _ _) sc_45) rfl (by kernel_rfl) rfl ?_
        refine XQ.callG (i := 4) (l' := #[true, true, true, true, true, true, true, true, true, false, false, false]) rfl rfl rfl (by kernel_rfl) rfl rfl (v_Left kb pb ((x.2.f ((A x.1).key % (x.2.k : Nat)).toNat).act x.2.v (A x.1)).1 hs2.acc.ok) (.cons (.t3 .here) (.cons (.t3 .here) .nil)) cl_13 rfl (by rintro _ _ ⟨rfl, rfl⟩; all_goals (intro _ hw'; exact ⟨fun _ => inXM (.t5 .here) _ hw', trivial⟩)) ?_
        rintro _ _ ⟨rfl, rfl⟩
        refine XQ.callG (i := 9) (l' := #[true, true, true, true, true, true, true, true, true, true, false, false]) rfl rfl rfl (by kernel_rfl) rfl rfl (u_Left rp 0 ((x.2.f ((A x.1).key % (x.2.k : Nat)).toNat).act x.2.v (A x.1)).1.bb hs2.acc.ok.bb) (.cons (.t6 .here) .nil) cl_14 rfl (by rintro _ _ ⟨rfl, rfl⟩; all_goals (intro _ hw'; exact ⟨fun hs => (hs 9 (by first | (simp; done) | (simp; rfl)) rfl).elim, trivial⟩)) ?_
        rintro _ _ ⟨rfl, rfl⟩
        refine XQ.pvG (i := 10) (l' := #[true, true, true, true, true, true, true, true, true, true, true, false]) rfl rfl rfl (by kernel_rfl) rfl (V.cmp rfl rfl rfl) rfl rfl ?_
        refine XQ.pv (i := 11) (l' := #[true, true, true, true, true, true, true, true, true, true, true, true]) rfl (by kernel_rfl) rfl (V.pick rfl rfl rfl rfl) rfl rfl ?_
        refine XQ.done (by kernel_rfl) ?_
        refine gE ?_
        refine cdF rfl (by simp) ?_
        refine sd (by omega) ?_
        refine ag ((x.1 + 1, ⟨((x.2.f ((A x.1).key % (x.2.k : Nat)).toNat).act x.2.v (A x.1)).1, fupd x.2.f (((A x.1).key % (x.2.k : Nat)).toNat) ((x.2.f ((A x.1).key % (x.2.k : Nat)).toNat).act x.2.v (A x.1)).2, x.2.k, x.2.mb, x.2.rb, fupd x.2.ps (((A x.1).key % (x.2.k : Nat)).toNat) p2, fupd x.2.cs (((A x.1).key % (x.2.k : Nat)).toNat) c2, some ⟨ga, 0, none⟩, x.2.cm, some ⟨gb, 0, none⟩, x.2.cw⟩)) ?_ ?_ (S6 rfl rfl rfl rfl rfl rfl) (fun _ hw => XM.pick (.cons (.there .here) (.cons (.there .here) (.cons (.t4 .here) (.cons .here (.cons .here (.cons .here (.cons .here (.cons (.there .here) (.cons (.there .here) .h2))))))))) hw)
        · skip
          (show (_ - (x.1 + 1)).toNat < (_ - x.1).toNat; omega)
        · skip
          exact ⟨(by show 0 ≤ x.1 + 1 ∧ x.1 + 1 ≤ _; omega), hk, hs2⟩
    · skip
      refine lp (σ := Int) (fun y => (x.2.k - y).toNat) (fun y => 0 ≤ y ∧ y ≤ x.2.k) (fun y => [(12, .int .i64 y), (4, ptr kb 0 0), (5, ptr rk 0 0), (6, .slice x.2.pm x.2.k x.2.cm), (7, .slice x.2.pw x.2.k x.2.cw)]) (fun y => XM W (foot [.ro 0 0 64 tab64, .ro bl ol (8 * len) (encActs A)]) [.cells kb 0 577 (encK pb x.2.v.by_ x.2.v.rf), .cells pb 0 71 (encP x.2.v.bb.pool), .cells rk 0 577 (encRK rp x.2.v.by_ x.2.v.rf), .cells rp 0 128 (encM x.2.v.bb), .cfam (ltP x.2.k) x.2.mb 34 (cN kb x.2.f x.2.ps x.2.cs), .fam (ltP x.2.k) (rN 83 x.2.f x.2.ps x.2.cs), .cfam (ltP x.2.k) x.2.rb 49 (cW rk x.2.f), frow x.2.pm x.2.cm 29 1 x.2.k (ptrC x.2.mb), frow x.2.pw x.2.cw 32 1 x.2.k (ptrC x.2.rb)]) (0) ?_ (S5 rfl rfl rfl rfl rfl) (fun _ hw => XM.pick .h9 hw) ?_
      · skip
        omega
      intro y hy
      refine gC ?_
      refine cd rfl ?_ ?_ <;> intro h5
      · skip
        have hz : y.toNat < x.2.k := by omega
        refine XR.openRow (.t7 .here) (by omega) ?_
        intro ga hga
        rw [hga]
        refine XR.openRow (.t8 .here) (by omega) ?_
        intro gb hgb
        rw [hgb]
        refine XR.mono (fun _ hw3 => XM.outY (z := y.toNat) hz (.cons (.t4 .here) (.cons (.t4 .here) (.cons (.t4 .here) .nil))) hw3) ?_
        refine rq [0, 1, 2, 3, 4, 5, 6, 7, 8, 9] mixed (by kernel_rfl) ?_
        refine sd (by omega) ?_
        refine ldF (.t10 .here) (ptrC.ld _ (by omega)) ?_
        refine sd (by omega) ?_
        refine ldF (.t11 .here) (ptrC.ld _ (by omega)) ?_
        refine ca (as_memory kb _ rk _ _ _ (x.2.f y.toNat) (hs.mo _ hz)) .h3 ?_
        rintro _ _ ⟨rfl, rfl⟩
        refine gO ?_
        refine XR.mono (fun _ hw3 => XM.sameP hz .h6 hw3) ?_
        refine sd (by omega) ?_
        refine ag (y + 1) ?_ ?_ (S5 rfl rfl rfl rfl rfl) (fun _ hw => XM.pick (.cons (.t3 .here) (.cons (.t3 .here) (.cons (.t3 .here) (.cons (.t3 .here) .h5)))) hw)
        · skip
          (first | omega | (simp; done) | (simp; omega))
        · skip
          (first | omega | (simp; done) | (simp; omega))
      · skip
        refine lp (σ := Int) (fun y => (65 - y).toNat) (fun y => -1 ≤ y ∧ y ≤ 65) (fun y => [(14, .int .i64 y), (4, ptr kb 0 0), (5, ptr rk 0 0)]) (fun y => XM W (foot [.ro 0 0 64 tab64, .ro bl ol (8 * len) (encActs A)]) [.cells kb 0 577 (encK pb x.2.v.by_ x.2.v.rf), .cells rk 0 577 (encRK rp x.2.v.by_ x.2.v.rf)]) (-1) ?_ (S3 rfl rfl rfl) (fun _ hw => XM.pick (.cons .here (.cons (.there .here) .nil)) hw) ?_
        · skip
          omega
        intro y hy
        refine gC ?_
        refine cd rfl ?_ ?_ <;> intro h6
        · skip
          refine ca (v_Refs kb pb x.2.v y) .h1 ?_
          rintro v31 _ ⟨hv31, rfl⟩
          by_cases hf : y < 0 ∨ 63 < y
          · skip
            rw [if_pos hf] at hv31
            subst hv31
            refine gO ?_
            refine sp 133 rfl ?_ ?_ <;> intro h7
            · skip
              refine ca (same_any 1 1 (by omega)) .nil ?_
              rintro _ _ ⟨rfl, rfl⟩
              refine gO ?_
              refine spF 140 rfl (by simp) ?_
              refine cdF rfl (by simp) ?_
              refine sd (by omega) ?_
              refine ag (y + 1) ?_ ?_ (S3 rfl rfl rfl) (fun _ hw => XM.pick .h2 hw)
              · skip
                (first | omega | (simp; done) | (simp; omega))
              · skip
                (first | omega | (simp; done) | (simp; omega))
            · skip
              refine cdT rfl (by omega) ?_
              refine ca (same_any 1 1 (by omega)) .nil ?_
              rintro _ _ ⟨rfl, rfl⟩
              refine gO ?_
              refine spF 140 rfl (by simp) ?_
              refine cdF rfl (by simp) ?_
              refine sd (by omega) ?_
              refine ag (y + 1) ?_ ?_ (S3 rfl rfl rfl) (fun _ hw => XM.pick .h2 hw)
              · skip
                (first | omega | (simp; done) | (simp; omega))
              · skip
                (first | omega | (simp; done) | (simp; omega))
          · skip
            rw [if_neg hf] at hv31
            subst hv31
            refine gO ?_
            refine spF 133 rfl (by omega) ?_
            refine cdF rfl (by omega) ?_
            refine spF 146 rfl (by simp) ?_
            refine sd (by omega) ?_
            refine ld (.there .here) (encRK.ld_Refs_I _ _ _ _ (by omega)) ?_
            refine cdF rfl (by simp) ?_
            refine sd (by omega) ?_
            refine ag (y + 1) ?_ ?_ (S3 rfl rfl rfl) (fun _ hw => XM.pick .h2 hw)
            · skip
              (first | omega | (simp; done) | (simp; omega))
            · skip
              (first | omega | (simp; done) | (simp; omega))
        · skip
          refine XE.ret1 rfl rfl (post_of .nil rfl ?_)
          exact ⟨rfl, rfl⟩
end Go.X
