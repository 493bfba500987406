import Derived.Test.YtpnddggohipdnaaDoorVT1
namespace Go.X
open Go Go.Proofs
set_option maxRecDepth 20000
set_option maxHeartbeats 4000000
theorem rt_29_1 : rowT Tryd.prog 29 1 = true := by kernel_rfl
theorem rt_58_128 : rowT Tryd.prog 58 128 = true := by kernel_rfl
set_option maxHeartbeats 16000000 in
theorem top_some (bl ol len cap : Nat) (hlen : len ≤ cap) (A : Int → ActV) (hA : ∀ z : Int, 0 ≤ z → z < len → (A z).ok) : Spec Tryd.prog 4 [.slice (some ⟨bl, ol, none⟩) len cap]
 [.ro 0 0 64 tab64, .ro bl ol (8 * len) (encActs A)]
 (fun v H1 => v = .bool true ∧ H1 = []) := by
  refine Spec.go 286 [0, 2, 3, 4, 5, 6, 7, 8, 9, 11, 12, 13, 14, 15, 16, 17, 18, 19, 20, 21, 22, 30, 33, 42, 57, 102, 104, 114, 118, 125, 137, 150, 163, 191, 199, 233, 238, 242, 246, 264, 285] [] Tryd.func4 rfl rfl rfl ?_
  intro W
  refine ca (v_NewBank) .nil ?_
  rintro _ _ ⟨kb, pb, rfl, rfl⟩
  refine gO ?_
  refine ca (v_Left kb pb VB.init VB.Ok.init) .h2 ?_
  rintro _ _ ⟨rfl, rfl⟩
  refine gO ?_
  refine cdF rfl (by decide +kernel) ?_
  refine ca (light_any _ _ _ _) .nil ?_
  rintro _ _ ⟨rfl, rfl⟩
  refine gO ?_
  refine cd rfl ?_ ?_ <;> intro h1
  · skip
    refine XE.ret1 rfl rfl (post_of .nil rfl ?_)
    exact ⟨rfl, rfl⟩
  · skip
    refine ca (v_New kb) .nil ?_
    rintro _ _ ⟨mb0, rfl, rfl⟩
    refine gO ?_
    refine XO.buildRow (e := 29) (vs := #[(0, ptr mb0 0 0)]) (A := #[ptr mb0 0 0]) (sz := 1) rfl (fun _ => by kernel_rfl) rfl (by omega) rfl ?_
    intro b1
    refine gO ?_
    refine XR.mono (fun _ hw3 => XM.startT MS.nil (.cons (.there .here) (.cons (.there .here) .nil)) hw3) ?_
    refine XO.v (V.build (vs := #[]) rfl (v := .agg (flA (fun _ => 0))) (fun _ => by kernel_rfl)) rfl (gO ?_)
    refine XO.buildRow (e := 58) (vs := #[(0, .agg (flA (fun _ => 0)))]) (A := (flA (fun _ => 0))) (sz := 128) rfl (fun _ => by kernel_rfl) rfl (by omega) rfl ?_
    intro b2
    refine gO ?_
    refine lp (σ := Int × VY) (fun x => (len - x.1).toNat) (fun x => (0 ≤ x.1 ∧ x.1 ≤ len) ∧ (1 ≤ x.2.k ∧ x.2.k ≤ 8) ∧ TV x.2.v x.2.f x.2.k x.2.fl) (fun x => [(6, .int .i64 x.1), (4, .slice x.2.pm x.2.k x.2.cm), (5, .slice x.2.pf x.2.k x.2.cf), (0, .slice (some ⟨bl, ol, none⟩) len cap), (3, ptr kb 0 0)]) (fun x => XM W (foot [.ro 0 0 64 tab64, .ro bl ol (8 * len) (encActs A)]) [.cells kb 0 577 (encK pb x.2.v.by_ x.2.v.rf), .cells pb 0 71 (encP x.2.v.bb.pool), .cfam (ltP x.2.k) x.2.mb 34 (cN kb x.2.f x.2.ps x.2.cs), .fam (ltP x.2.k) (rN 83 x.2.f x.2.ps x.2.cs), frow x.2.pm x.2.cm 29 1 x.2.k (ptrC x.2.mb), frow x.2.pf x.2.cf 58 128 x.2.k (flC x.2.fl), .ro 0 0 64 tab64, .ro bl ol (8 * len) (encActs A)]) ((0, ⟨VB.init, fupd (fun _ => MS.nil) 0 MS.nil, 1, fupd (fun _ _ => 0) 0 (fun _ => 0), fupd (fun _ => 0) 0 mb0, fupd (fun _ => none) 0 none, fupd (fun _ => 0) 0 0, some ⟨b1, 0, none⟩, 1, some ⟨b2, 0, none⟩, 1⟩)) ?_ (S5 rfl rfl rfl rfl rfl) (fun _ hw => by rw [flat0] at hw; exact XM.pick (.cons (.t4 .here) (.cons (.t4 .here) (.cons (.there .here) (.cons (.there .here) (.cons (.there .here) .h3))))) hw) ?_
    · skip
      exact ⟨by simp, by simp, TV.init'⟩
    intro x hx
    obtain ⟨hi, hk, ht⟩ := hx
    refine gC ?_
    refine cd rfl ?_ ?_ <;> intro h2
    · skip
      refine sd (by omega) ?_
      refine ldARo (.t7 .here) (acts_load A len _ (by omega)) ?_
      refine XO.allocZ (z := .agg actZero) (m := 8) (C := cellsOf actZero) (by kernel_rfl) rfl (fun _ _ => rfl) rfl ?_
      intro ba
      refine gO ?_
      refine stA .here (acts_store _) rfl ⟨rfl, rfl⟩ ?_
      have hkey := (hA x.1 (by omega) (by omega)).key
      have hac := hA x.1 (by omega) (by omega)
      have hac1 := hac.a
      have hac2 := hac.b
      have hac3 := hac.c
      have hk0 : 0 ≤ ((A x.1).key % (x.2.k : Nat)) := Int.emod_nonneg _ (by omega)
      have hk1 : ((A x.1).key % (x.2.k : Nat)) < (x.2.k : Nat) := Int.emod_lt_of_pos _ (by omega)
      have hz : ((A x.1).key % (x.2.k : Nat)).toNat < x.2.k := by omega
      have hmo := ht.sys.mo _ hz
      refine ld .here (encAct.ld_Key _) ?_
      refine XO.v (V.convInt rfl Tryd.underlying3 Tryd.underlying38 (x.2.k : Nat) (IntWalk.u64_in _ (by omega))) rfl (gO ?_)
      refine XO.v (V.rem rfl rfl (by first | decide | omega) _ (Int.tmod_eq_emod_of_nonneg (by omega))) rfl (gO ?_)
      refine XO.v (V.convInt rfl Tryd.underlying38 Tryd.underlying3 ((A x.1).key % (x.2.k : Nat)) (IntWalk.i64_in _ (by omega))) rfl (gO ?_)
      refine ld .here (encAct.ld_Kind _) ?_
      refine cd rfl ?_ ?_ <;> intro h3
      · skip
        refine cd rfl ?_ ?_ <;> intro h4
        · skip
          refine XR.openRow (.t5 .here) (by omega) ?_
          intro ga hga
          rw [hga]
          refine XR.mono (fun _ hw3 => XM.outT (z := ((A x.1).key % (x.2.k : Nat)).toNat) hz (.cons (.t3 .here) (.cons (.t3 .here) .nil)) hw3) ?_
          refine sd (by omega) ?_
          refine ldF (.t7 .here) (ptrC.ld _ (by omega)) ?_
          refine ca (v_Fork kb pb _ x.2.v ht.sys.acc.ok _ _ (x.2.f (((A x.1).key % (x.2.k : Nat)).toNat)) hmo) (.cons (.t5 .here) .h2) ?_
          rintro _ _ ⟨nb, p1, c1, rfl, rfl⟩
          refine gO ?_
          refine XO.buildSlice (e := 29) (vs := #[(0, ptr nb 0 0)]) (A := #[ptr nb 0 0]) rfl (fun _ => by kernel_rfl) rfl rfl ?_
          intro b3
          refine gO ?_
          refine XO.appendP (e := 29) rfl rfl Tryd.underlying31 rt_29_1 (.t10 .here) .here (by omega) rfl ?_
          intro p3 c3
          refine gO ?_
          refine XR.openRow (.t11 .here) (by omega) ?_
          intro gf hgf
          rw [hgf]
          refine sd (by omega) ?_
          refine ldAF (.t11 .here) (flC.agg _ (by omega)) ?_
          refine XO.buildSlice (e := 58) (vs := #[(0, .agg (flA (x.2.fl (((A x.1).key % (x.2.k : Nat)).toNat))))]) (A := flA (x.2.fl (((A x.1).key % (x.2.k : Nat)).toNat))) rfl (fun _ => by kernel_rfl) (flA_size _) rfl ?_
          intro b4
          refine gO ?_
          refine XO.appendY (e := 58) rfl rfl Tryd.underlying59 rt_58_128 (.t12 .here) .here (by omega) rfl ?_
          intro p4 c4
          refine gO ?_
          refine XR.mono (fun _ hw3 => XM.backT (x.2.f (((A x.1).key % (x.2.k : Nat)).toNat)).bare hz (.cons (.t5 .here) (.cons (.t5 .here) (.cons (.t7 .here) (.cons (.t7 .here) .nil)))) hw3) ?_
          refine XR.mono (fun _ hw3 => XM.moreT (x.2.f (((A x.1).key % (x.2.k : Nat)).toNat)).bare (.cons (.t7 .here) (.cons (.t7 .here) .h2)) hw3) ?_
          refine XR.openRow (.t4 .here) (by omega) ?_
          intro gc hgc
          subst hgc
          have ht2 := ht.fork hz (by omega)
          refine ca (top_stocked kb pb _ _ _ (by first | omega | (simp; omega)) ht2.sys ht2.full _ _ _ _ _) (.cons (.t6 .here) (.cons (.t7 .here) (.cons .here (.cons .here (.cons (.t2 .here) .nil))))) ?_
          rintro _ _ ⟨rfl, rfl⟩
          refine gO ?_
          refine sd (by omega) ?_
          refine ag ((x.1 + 1, ⟨x.2.v.fork (x.2.f (((A x.1).key % (x.2.k : Nat)).toNat)), fupd (fupd x.2.f (((A x.1).key % (x.2.k : Nat)).toNat) (x.2.f (((A x.1).key % (x.2.k : Nat)).toNat)).bare) x.2.k (x.2.f (((A x.1).key % (x.2.k : Nat)).toNat)).bare, x.2.k + 1, fupd x.2.fl x.2.k (x.2.fl (((A x.1).key % (x.2.k : Nat)).toNat)), fupd x.2.mb x.2.k nb, fupd (fupd x.2.ps (((A x.1).key % (x.2.k : Nat)).toNat) (x.2.ps (((A x.1).key % (x.2.k : Nat)).toNat))) x.2.k p1, fupd (fupd x.2.cs (((A x.1).key % (x.2.k : Nat)).toNat) (x.2.cs (((A x.1).key % (x.2.k : Nat)).toNat))) x.2.k c1, some ⟨gc, 0, none⟩, c3, p4, c4⟩)) ?_ ?_ (S5 rfl rfl rfl rfl rfl) (fun _ hw => XM.pick (.cons .here (.cons .here (.cons .here (.cons .here (.cons .here (.cons .here (.cons (.t3 .here) (.cons (.t3 .here) .nil)))))))) hw)
          · skip
            (show (_ - (x.1 + 1)).toNat < (_ - x.1).toNat; omega)
          · skip
            exact ⟨(by show 0 ≤ x.1 + 1 ∧ x.1 + 1 ≤ _; omega), (by show 1 ≤ x.2.k + 1 ∧ x.2.k + 1 ≤ 8; omega), ht2⟩
        · skip
          refine XR.openRow (.t5 .here) (by omega) ?_
          intro gc hgc
          rw [hgc]
          have ht2 := ht
          refine ca (top_stocked kb pb _ _ _ (by first | omega | (simp; omega)) ht2.sys ht2.full _ _ _ _ _) (.cons (.there .here) (.cons (.there .here) (.cons (.there .here) (.cons (.there .here) (.cons (.there .here) .nil))))) ?_
          rintro _ _ ⟨rfl, rfl⟩
          refine gO ?_
          refine sd (by omega) ?_
          refine ag ((x.1 + 1, ⟨x.2.v, x.2.f, x.2.k, x.2.fl, x.2.mb, x.2.ps, x.2.cs, some ⟨gc, 0, none⟩, x.2.cm, x.2.pf, x.2.cf⟩)) ?_ ?_ (S5 rfl rfl rfl rfl rfl) (fun _ hw => XM.pick (.cons .here (.cons .here (.cons .here (.cons .here (.cons .here (.cons (.there .here) (.cons (.there .here) (.cons (.there .here) .nil)))))))) hw)
          · skip
            (show (_ - (x.1 + 1)).toNat < (_ - x.1).toNat; omega)
          · skip
            exact ⟨(by show 0 ≤ x.1 + 1 ∧ x.1 + 1 ≤ _; omega), hk, ht2⟩
      · skip
        refine cd rfl ?_ ?_ <;> intro h5
        · skip
          refine XR.openRow (.t5 .here) (by omega) ?_
          intro ga hga
          rw [hga]
          refine XR.mono (fun _ hw3 => XM.outT (z := ((A x.1).key % (x.2.k : Nat)).toNat) hz (.cons (.t3 .here) (.cons (.t3 .here) .nil)) hw3) ?_
          refine rq [0, 1, 2, 3, 4, 5, 6, 7, 8, 9, 10] mixed (by kernel_rfl) ?_
          refine sd (by omega) ?_
          refine ldF (.t7 .here) (ptrC.ld _ (by omega)) ?_
          refine ld (.t4 .here) (encAct.ld_A _) ?_
          refine ld (.t4 .here) (encAct.ld_B _) ?_
          refine ld (.t4 .here) (encAct.ld_On _) ?_
          refine ca (v_Map kb _ _ _ (x.2.f (((A x.1).key % (x.2.k : Nat)).toNat)) hmo _ _ _) .h2 ?_
          rintro _ _ ⟨rfl, p2, c2, rfl⟩
          refine gO ?_
          refine XR.mono (fun _ hw3 => XM.backT ((x.2.f (((A x.1).key % (x.2.k : Nat)).toNat)).map (A x.1).a (A x.1).b (A x.1).on) hz .h4 hw3) ?_
          have ht2 := ht.map hz (A x.1).a (A x.1).b (A x.1).on
          refine ca (top_stocked kb pb _ _ _ (by first | omega | (simp; omega)) ht2.sys ht2.full _ _ _ _ _) (.cons (.t3 .here) (.cons (.t3 .here) (.cons .here (.cons .here (.cons (.there .here) .nil))))) ?_
          rintro _ _ ⟨rfl, rfl⟩
          refine gO ?_
          refine sd (by omega) ?_
          refine ag ((x.1 + 1, ⟨x.2.v, fupd x.2.f (((A x.1).key % (x.2.k : Nat)).toNat) ((x.2.f (((A x.1).key % (x.2.k : Nat)).toNat)).map (A x.1).a (A x.1).b (A x.1).on), x.2.k, x.2.fl, x.2.mb, fupd x.2.ps (((A x.1).key % (x.2.k : Nat)).toNat) p2, fupd x.2.cs (((A x.1).key % (x.2.k : Nat)).toNat) c2, (some ⟨ga, 0, none⟩), x.2.cm, x.2.pf, x.2.cf⟩)) ?_ ?_ (S5 rfl rfl rfl rfl rfl) (fun _ hw => XM.pick (.cons .here (.cons .here (.cons .here (.cons .here (.cons .here (.cons (.there .here) (.cons (.there .here) (.cons (.there .here) .nil)))))))) hw)
          · skip
            (show (_ - (x.1 + 1)).toNat < (_ - x.1).toNat; omega)
          · skip
            exact ⟨(by show 0 ≤ x.1 + 1 ∧ x.1 + 1 ≤ _; omega), hk, ht2⟩
        · skip
          refine cd rfl ?_ ?_ <;> intro h6
          · skip
            refine XR.openRow (.t5 .here) (by omega) ?_
            intro ga hga
            rw [hga]
            refine XR.mono (fun _ hw3 => XM.outT (z := ((A x.1).key % (x.2.k : Nat)).toNat) hz (.cons (.t3 .here) (.cons (.t3 .here) .nil)) hw3) ?_
            refine rq [0, 1, 2, 3, 4, 5, 6, 7, 8, 9, 10] mixed (by kernel_rfl) ?_
            refine sd (by omega) ?_
            refine ldF (.t7 .here) (ptrC.ld _ (by omega)) ?_
            refine ld (.t4 .here) (encAct.ld_A _) ?_
            refine ld (.t4 .here) (encAct.ld_B _) ?_
            refine ld (.t4 .here) (encAct.ld_On _) ?_
            refine ca (v_Protect kb _ _ _ (x.2.f (((A x.1).key % (x.2.k : Nat)).toNat)) hmo _ _ _) .h2 ?_
            rintro _ _ ⟨rfl, p2, c2, rfl⟩
            refine gO ?_
            refine XR.mono (fun _ hw3 => XM.backT ((x.2.f (((A x.1).key % (x.2.k : Nat)).toNat)).prot (A x.1).a (A x.1).b (A x.1).on) hz .h4 hw3) ?_
            have ht2 := ht.prot hz (A x.1).a (A x.1).b (A x.1).on
            refine ca (top_stocked kb pb _ _ _ (by first | omega | (simp; omega)) ht2.sys ht2.full _ _ _ _ _) (.cons (.t3 .here) (.cons (.t3 .here) (.cons .here (.cons .here (.cons (.there .here) .nil))))) ?_
            rintro _ _ ⟨rfl, rfl⟩
            refine gO ?_
            refine sd (by omega) ?_
            refine ag ((x.1 + 1, ⟨x.2.v, fupd x.2.f (((A x.1).key % (x.2.k : Nat)).toNat) ((x.2.f (((A x.1).key % (x.2.k : Nat)).toNat)).prot (A x.1).a (A x.1).b (A x.1).on), x.2.k, x.2.fl, x.2.mb, fupd x.2.ps (((A x.1).key % (x.2.k : Nat)).toNat) p2, fupd x.2.cs (((A x.1).key % (x.2.k : Nat)).toNat) c2, (some ⟨ga, 0, none⟩), x.2.cm, x.2.pf, x.2.cf⟩)) ?_ ?_ (S5 rfl rfl rfl rfl rfl) (fun _ hw => XM.pick (.cons .here (.cons .here (.cons .here (.cons .here (.cons .here (.cons (.there .here) (.cons (.there .here) (.cons (.there .here) .nil)))))))) hw)
            · skip
              (show (_ - (x.1 + 1)).toNat < (_ - x.1).toNat; omega)
            · skip
              exact ⟨(by show 0 ≤ x.1 + 1 ∧ x.1 + 1 ≤ _; omega), hk, ht2⟩
          · skip
            refine cd rfl ?_ ?_ <;> intro h7
            · skip
              refine XR.openRow (.t5 .here) (by omega) ?_
              intro ga hga
              rw [hga]
              refine XR.mono (fun _ hw3 => XM.outT (z := ((A x.1).key % (x.2.k : Nat)).toNat) hz (.cons (.t3 .here) (.cons (.t3 .here) .nil)) hw3) ?_
              refine rq [0, 1, 2, 3, 4, 5, 6, 7, 8, 9, 10, 11, 12, 13] mixed (by kernel_rfl) ?_
              refine sd (by omega) ?_
              refine ldF (.t7 .here) (ptrC.ld _ (by omega)) ?_
              refine ld (.t4 .here) (encAct.ld_A _) ?_
              refine ld (.t4 .here) (encAct.ld_B _) ?_
              refine caR 4 (v_Unmap kb pb _ x.2.v ht.sys.acc.ok _ _ (x.2.f (((A x.1).key % (x.2.k : Nat)).toNat)) hmo (ht.sys.In hz) _ _) (.cons (.t5 .here) (.cons (.t5 .here) (.cons .here (.cons .here (.cons (.t5 .here) .nil))))) rfl ?_
              rintro _ _ ⟨rfl, pu, cu, rfl⟩
              by_cases hb : badS (A x.1).a (A x.1).b
              · skip
                rw [MS.unmap_bad hb]
                refine gO ?_
                refine XR.mono (fun _ hw3 => XM.backT (x.2.f (((A x.1).key % (x.2.k : Nat)).toNat)) hz (.cons (.t2 .here) (.cons (.t2 .here) (.cons (.t3 .here) (.cons (.t3 .here) .nil)))) hw3) ?_
                refine XR.openRow (.t7 .here) (by omega) ?_
                intro gf hgf
                rw [hgf]
                refine ld (.t5 .here) (encAct.ld_A _) ?_
                refine oV ?_
                refine XO.v (V.mul rfl rfl (IntKind.i64.wrap (8 * (A x.1).a)) rfl) rfl (gO ?_)
                refine lp (σ := Unit) (fun _ => 0) (fun _ => True) (fun u => [(12, .int .i64 (IntKind.i64.wrap (8 * (A x.1).a))), (0, .slice (some ⟨bl, ol, none⟩) len cap), (3, ptr kb 0 0), (4, .slice (some ⟨ga, 0, none⟩) x.2.k x.2.cm), (5, .slice (some ⟨gf, 0, none⟩) x.2.k x.2.cf), (6, .int .i64 x.1), (7, ptr ba 0 0), (8, .int .i64 ((A x.1).key % (x.2.k : Nat))), (11, .iface 95 (.int .i64 1))]) (fun u => XM W (foot [.ro 0 0 64 tab64, .ro bl ol (8 * len) (encActs A)]) [.cells kb 0 577 (encK pb x.2.v.by_ x.2.v.rf), .cells pb 0 71 (encP x.2.v.bb.pool), .cfam (ltP x.2.k) x.2.mb 34 (cN kb (fupd x.2.f (((A x.1).key % (x.2.k : Nat)).toNat) (x.2.f (((A x.1).key % (x.2.k : Nat)).toNat))) (fupd x.2.ps (((A x.1).key % (x.2.k : Nat)).toNat) pu) (fupd x.2.cs (((A x.1).key % (x.2.k : Nat)).toNat) cu)), .fam (ltP x.2.k) (rN 83 (fupd x.2.f (((A x.1).key % (x.2.k : Nat)).toNat) (x.2.f (((A x.1).key % (x.2.k : Nat)).toNat))) (fupd x.2.ps (((A x.1).key % (x.2.k : Nat)).toNat) pu) (fupd x.2.cs (((A x.1).key % (x.2.k : Nat)).toNat) cu)), frow (some ⟨ga, 0, none⟩) x.2.cm 29 1 x.2.k (ptrC x.2.mb), frow (some ⟨gf, 0, none⟩) x.2.cf 58 128 x.2.k (flC x.2.fl), .cells ba 0 8 (encAct (A x.1)), .ro 0 0 64 tab64, .ro bl ol (8 * len) (encActs A)]) (()) ?_ (.cons rfl (.cons rfl (.cons rfl (S6 rfl rfl rfl rfl rfl rfl)))) (fun _ hw => XM.pick (.cons (.t2 .here) (.cons (.t2 .here) (.cons .here (.cons .here (.cons (.t2 .here) (.cons (.t2 .here) (.cons (.there .here) .h2))))))) hw) ?_
                · skip
                  trivial
                intro u _
                refine gC ?_
                have ht2 : TV x.2.v (fupd x.2.f (((A x.1).key % (x.2.k : Nat)).toNat) (x.2.f (((A x.1).key % (x.2.k : Nat)).toNat))) x.2.k x.2.fl := by rw [fupd_self]; exact ht
                refine ca (top_stocked kb pb _ _ _ (by first | omega | (simp; omega)) ht2.sys ht2.full _ _ _ _ _) .h5 ?_
                rintro _ _ ⟨rfl, rfl⟩
                refine gO ?_
                refine sd (by omega) ?_
                refine ag ((x.1 + 1, ⟨x.2.v, fupd x.2.f (((A x.1).key % (x.2.k : Nat)).toNat) (x.2.f (((A x.1).key % (x.2.k : Nat)).toNat)), x.2.k, x.2.fl, x.2.mb, fupd x.2.ps (((A x.1).key % (x.2.k : Nat)).toNat) pu, fupd x.2.cs (((A x.1).key % (x.2.k : Nat)).toNat) cu, (some ⟨ga, 0, none⟩), x.2.cm, (some ⟨gf, 0, none⟩), x.2.cf⟩)) ?_ ?_ (S5 rfl rfl rfl rfl rfl) (fun _ hw => XM.pick (.cons .here (.cons .here (.cons .here (.cons .here (.cons .here (.cons .here (.cons (.there .here) (.cons (.there .here) .nil)))))))) hw)
                · skip
                  (show (_ - (x.1 + 1)).toNat < (_ - x.1).toNat; omega)
                · skip
                  exact ⟨(by show 0 ≤ x.1 + 1 ∧ x.1 + 1 ≤ _; omega), hk, ht2⟩
              · skip
                rw [MS.unmap_e0 hb]
                have hb2 := hb
                unfold badS at hb2
                refine gO ?_
                refine XR.mono (fun _ hw3 => XM.backT ((x.2.f (((A x.1).key % (x.2.k : Nat)).toNat)).unmap x.2.v (A x.1).a (A x.1).b).2.2.2 hz (.cons (.t2 .here) (.cons (.t2 .here) (.cons (.t3 .here) (.cons (.t3 .here) .nil)))) hw3) ?_
                refine XR.openRow (.t7 .here) (by omega) ?_
                intro gf hgf
                rw [hgf]
                refine ld (.t5 .here) (encAct.ld_A _) ?_
                refine oV ?_
                refine XO.v (V.mul rfl rfl (IntKind.i64.wrap (8 * (A x.1).a)) rfl) rfl (gO ?_)
                refine lp (σ := Int) (fun y => (8 * ((A x.1).a + (A x.1).b) - y).toNat) (fun y => 8 * (A x.1).a ≤ y ∧ y ≤ 8 * ((A x.1).a + (A x.1).b)) (fun y => [(12, .int .i64 y), (0, .slice (some ⟨bl, ol, none⟩) len cap), (3, ptr kb 0 0), (4, .slice (some ⟨ga, 0, none⟩) x.2.k x.2.cm), (5, .slice (some ⟨gf, 0, none⟩) x.2.k x.2.cf), (6, .int .i64 x.1), (7, ptr ba 0 0), (8, .int .i64 ((A x.1).key % (x.2.k : Nat))), (11, .nilIface)]) (fun y => XM W (foot [.ro 0 0 64 tab64, .ro bl ol (8 * len) (encActs A)]) [.cells kb 0 577 (encK pb ((x.2.f (((A x.1).key % (x.2.k : Nat)).toNat)).unmap x.2.v (A x.1).a (A x.1).b).2.2.1.by_ ((x.2.f (((A x.1).key % (x.2.k : Nat)).toNat)).unmap x.2.v (A x.1).a (A x.1).b).2.2.1.rf), .cells pb 0 71 (encP ((x.2.f (((A x.1).key % (x.2.k : Nat)).toNat)).unmap x.2.v (A x.1).a (A x.1).b).2.2.1.bb.pool), .cfam (ltP x.2.k) x.2.mb 34 (cN kb (fupd x.2.f (((A x.1).key % (x.2.k : Nat)).toNat) ((x.2.f (((A x.1).key % (x.2.k : Nat)).toNat)).unmap x.2.v (A x.1).a (A x.1).b).2.2.2) (fupd x.2.ps (((A x.1).key % (x.2.k : Nat)).toNat) pu) (fupd x.2.cs (((A x.1).key % (x.2.k : Nat)).toNat) cu)), .fam (ltP x.2.k) (rN 83 (fupd x.2.f (((A x.1).key % (x.2.k : Nat)).toNat) ((x.2.f (((A x.1).key % (x.2.k : Nat)).toNat)).unmap x.2.v (A x.1).a (A x.1).b).2.2.2) (fupd x.2.ps (((A x.1).key % (x.2.k : Nat)).toNat) pu) (fupd x.2.cs (((A x.1).key % (x.2.k : Nat)).toNat) cu)), frow (some ⟨ga, 0, none⟩) x.2.cm 29 1 x.2.k (ptrC x.2.mb), frow (some ⟨gf, 0, none⟩) x.2.cf 58 128 x.2.k (flC (fupd x.2.fl (((A x.1).key % (x.2.k : Nat)).toNat) (setI (x.2.fl (((A x.1).key % (x.2.k : Nat)).toNat)) (8 * (A x.1).a) (y - 8 * (A x.1).a) 0))), .cells ba 0 8 (encAct (A x.1)), .ro 0 0 64 tab64, .ro bl ol (8 * len) (encActs A)]) (8 * (A x.1).a) ?_ (.cons (eqi (IntWalk.i64_in _ (by omega))) (.cons rfl (.cons rfl (S6 rfl rfl rfl rfl rfl rfl)))) (fun _ hw2 => by rw [fl_first]; exact XM.pick (.cons (.t2 .here) (.cons (.t2 .here) (.cons .here (.cons .here (.cons (.t2 .here) (.cons (.t2 .here) (.cons (.there .here) .h2))))))) hw2) ?_
                · skip
                  omega
                intro y hy
                refine gC ?_
                refine ld (.t6 .here) (encAct.ld_A _) ?_
                refine ld (.t6 .here) (encAct.ld_B _) ?_
                refine sd (by omega) ?_
                refine sd (by omega) ?_
                refine cd rfl ?_ ?_ <;> intro h8
                · skip
                  refine sd (by omega) ?_
                  refine sd (by omega) ?_
                  refine stF (.t5 .here) (flC.st _ _ (by omega) (by omega)) rfl ?_
                  refine sd (by omega) ?_
                  refine ag (y + 1) ?_ ?_ (.cons rfl (.cons rfl (.cons rfl (S6 rfl rfl rfl rfl rfl rfl)))) (fun _ hw2 => by rw [← fl_next hy.1]; exact XM.pick .h9 hw2)
                  · skip
                    (first | omega | (simp; done) | (simp; omega))
                  · skip
                    (first | omega | (simp; done) | (simp; omega))
                · skip
                  have ht2 := ht.unmap hz hb
                  rw [show y - 8 * (A x.1).a = 8 * (A x.1).b by omega]
                  refine ca (top_stocked kb pb _ _ _ (by first | omega | (simp; omega)) ht2.sys ht2.full _ _ _ _ _) .h5 ?_
                  rintro _ _ ⟨rfl, rfl⟩
                  refine gO ?_
                  refine sd (by omega) ?_
                  refine ag ((x.1 + 1, ⟨((x.2.f (((A x.1).key % (x.2.k : Nat)).toNat)).unmap x.2.v (A x.1).a (A x.1).b).2.2.1, fupd x.2.f (((A x.1).key % (x.2.k : Nat)).toNat) ((x.2.f (((A x.1).key % (x.2.k : Nat)).toNat)).unmap x.2.v (A x.1).a (A x.1).b).2.2.2, x.2.k, fupd x.2.fl (((A x.1).key % (x.2.k : Nat)).toNat) (setI (x.2.fl (((A x.1).key % (x.2.k : Nat)).toNat)) (8 * (A x.1).a) (8 * (A x.1).b) 0), x.2.mb, fupd x.2.ps (((A x.1).key % (x.2.k : Nat)).toNat) pu, fupd x.2.cs (((A x.1).key % (x.2.k : Nat)).toNat) cu, (some ⟨ga, 0, none⟩), x.2.cm, (some ⟨gf, 0, none⟩), x.2.cf⟩)) ?_ ?_ (S5 rfl rfl rfl rfl rfl) (fun _ hw => XM.pick (.cons .here (.cons .here (.cons .here (.cons .here (.cons .here (.cons .here (.cons (.there .here) (.cons (.there .here) .nil)))))))) hw)
                  · skip
                    (show (_ - (x.1 + 1)).toNat < (_ - x.1).toNat; omega)
                  · skip
                    exact ⟨(by show 0 ≤ x.1 + 1 ∧ x.1 + 1 ≤ _; omega), hk, ht2⟩
            · skip
              refine cd rfl ?_ ?_ <;> intro h9
              · skip
                refine XR.openRow (.t5 .here) (by omega) ?_
                intro ga hga
                rw [hga]
                refine XR.mono (fun _ hw3 => XM.outT (z := ((A x.1).key % (x.2.k : Nat)).toNat) hz (.cons (.t3 .here) (.cons (.t3 .here) .nil)) hw3) ?_
                refine rq [0, 1, 2, 3, 4, 5, 6, 7, 8, 9, 10, 11] mixed (by kernel_rfl) ?_
                refine sd (by omega) ?_
                refine ldF (.t7 .here) (ptrC.ld _ (by omega)) ?_
                refine ld (.t4 .here) (encAct.ld_A _) ?_
                refine caR 4 (v_Load kb pb _ x.2.v ht.sys.acc.ok _ _ (x.2.f (((A x.1).key % (x.2.k : Nat)).toNat)) hmo _) (.cons (.t5 .here) (.cons (.t5 .here) (.cons .here (.cons .here (.cons (.t5 .here) .nil))))) rfl ?_
                rintro _ _ ⟨rfl, rfl⟩
                by_cases he : ((x.2.f (((A x.1).key % (x.2.k : Nat)).toNat)).load x.2.v (A x.1).a).2.1 = 0
                · skip
                  obtain ⟨hr, hv⟩ := ht.load_val hz he
                  rw [he, hv]
                  refine gO ?_
                  refine XR.mono (fun _ hw3 => XM.backI (m := ((x.2.f (((A x.1).key % (x.2.k : Nat)).toNat)).load x.2.v (A x.1).a).2.2.2) (MS.load_is _ _ _) hz (.cons (.t2 .here) (.cons (.t2 .here) (.cons (.t3 .here) (.cons (.t3 .here) .nil)))) hw3) ?_
                  refine XR.openRow (.t7 .here) (by omega) ?_
                  intro gf hgf
                  rw [hgf]
                  refine rq [0, 1, 2, 3, 4, 5, 6, 7, 8, 9, 10, 11, 12, 13, 14, 15, 16, 17, 18, 19, 20, 21, 22] mixed (by kernel_rfl) ?_
                  refine spT 213 rfl (rfl) ?_
                  refine ld (.t5 .here) (encAct.ld_A _) ?_
                  refine spF 217 rfl (by omega) ?_
                  refine ld (.t5 .here) (encAct.ld_A _) ?_
                  refine spF 222 rfl (by omega) ?_
                  refine ld (.t5 .here) (encAct.ld_A _) ?_
                  refine sd (by omega) ?_
                  refine sd (by omega) ?_
                  refine ldF (.t7 .here) (flC.ld _ (by omega) (by omega)) ?_
                  refine cdF rfl (by simp) ?_
                  have ht2 := ht.load hz (A x.1).a
                  refine ca (top_stocked kb pb _ _ _ (by first | omega | (simp; omega)) ht2.sys ht2.full _ _ _ _ _) (.cons (.t2 .here) (.cons (.t2 .here) (.cons .here (.cons .here (.cons (.t2 .here) .nil))))) ?_
                  rintro _ _ ⟨rfl, rfl⟩
                  refine gO ?_
                  refine sd (by omega) ?_
                  refine ag ((x.1 + 1, ⟨((x.2.f (((A x.1).key % (x.2.k : Nat)).toNat)).load x.2.v (A x.1).a).2.2.1, fupd x.2.f (((A x.1).key % (x.2.k : Nat)).toNat) ((x.2.f (((A x.1).key % (x.2.k : Nat)).toNat)).load x.2.v (A x.1).a).2.2.2, x.2.k, x.2.fl, x.2.mb, fupd x.2.ps (((A x.1).key % (x.2.k : Nat)).toNat) (x.2.ps (((A x.1).key % (x.2.k : Nat)).toNat)), fupd x.2.cs (((A x.1).key % (x.2.k : Nat)).toNat) (x.2.cs (((A x.1).key % (x.2.k : Nat)).toNat)), (some ⟨ga, 0, none⟩), x.2.cm, (some ⟨gf, 0, none⟩), x.2.cf⟩)) ?_ ?_ (S5 rfl rfl rfl rfl rfl) (fun _ hw => XM.pick (.cons .here (.cons .here (.cons .here (.cons .here (.cons .here (.cons (.t2 .here) (.cons .here (.cons (.there .here) .nil)))))))) hw)
                  · skip
                    (show (_ - (x.1 + 1)).toNat < (_ - x.1).toNat; omega)
                  · skip
                    exact ⟨(by show 0 ≤ x.1 + 1 ∧ x.1 + 1 ≤ _; omega), hk, ht2⟩
                · skip
                  refine gO ?_
                  refine XR.mono (fun _ hw3 => XM.backI (m := ((x.2.f (((A x.1).key % (x.2.k : Nat)).toNat)).load x.2.v (A x.1).a).2.2.2) (MS.load_is _ _ _) hz (.cons (.t2 .here) (.cons (.t2 .here) (.cons (.t3 .here) (.cons (.t3 .here) .nil)))) hw3) ?_
                  refine XR.openRow (.t7 .here) (by omega) ?_
                  intro gf hgf
                  rw [hgf]
                  refine rq [0, 1, 2, 3, 4, 5, 6, 7, 8, 9, 10, 11, 12, 13, 14, 15, 16, 17, 18, 19, 20, 21, 22] mixed (by kernel_rfl) ?_
                  refine spF 213 rfl (he) ?_
                  have ht2 := ht.load hz (A x.1).a
                  refine ca (top_stocked kb pb _ _ _ (by first | omega | (simp; omega)) ht2.sys ht2.full _ _ _ _ _) (.cons (.t2 .here) (.cons (.t2 .here) (.cons .here (.cons .here (.cons (.t2 .here) .nil))))) ?_
                  rintro _ _ ⟨rfl, rfl⟩
                  refine gO ?_
                  refine sd (by omega) ?_
                  refine ag ((x.1 + 1, ⟨((x.2.f (((A x.1).key % (x.2.k : Nat)).toNat)).load x.2.v (A x.1).a).2.2.1, fupd x.2.f (((A x.1).key % (x.2.k : Nat)).toNat) ((x.2.f (((A x.1).key % (x.2.k : Nat)).toNat)).load x.2.v (A x.1).a).2.2.2, x.2.k, x.2.fl, x.2.mb, fupd x.2.ps (((A x.1).key % (x.2.k : Nat)).toNat) (x.2.ps (((A x.1).key % (x.2.k : Nat)).toNat)), fupd x.2.cs (((A x.1).key % (x.2.k : Nat)).toNat) (x.2.cs (((A x.1).key % (x.2.k : Nat)).toNat)), (some ⟨ga, 0, none⟩), x.2.cm, (some ⟨gf, 0, none⟩), x.2.cf⟩)) ?_ ?_ (S5 rfl rfl rfl rfl rfl) (fun _ hw => XM.pick (.cons .here (.cons .here (.cons .here (.cons .here (.cons .here (.cons (.t2 .here) (.cons .here (.cons (.there .here) .nil)))))))) hw)
                  · skip
                    (show (_ - (x.1 + 1)).toNat < (_ - x.1).toNat; omega)
                  · skip
                    exact ⟨(by show 0 ≤ x.1 + 1 ∧ x.1 + 1 ≤ _; omega), hk, ht2⟩
              · skip
                refine XR.openRow (.t5 .here) (by omega) ?_
                intro ga hga
                rw [hga]
                refine XR.mono (fun _ hw3 => XM.outT (z := ((A x.1).key % (x.2.k : Nat)).toNat) hz (.cons (.t3 .here) (.cons (.t3 .here) .nil)) hw3) ?_
                refine rq [0, 1, 2, 3, 4, 5, 6, 7] mixed (by kernel_rfl) ?_
                refine sd (by omega) ?_
                refine ldF (.t7 .here) (ptrC.ld _ (by omega)) ?_
                refine ld (.t4 .here) (encAct.ld_A _) ?_
                refine ca (v_May kb _ _ _ (x.2.f (((A x.1).key % (x.2.k : Nat)).toNat)) hmo _ true) .h2 ?_
                rintro _ _ ⟨rfl, rfl⟩
                cases hmay : (x.2.f (((A x.1).key % (x.2.k : Nat)).toNat)).may (A x.1).a true
                · skip
                  refine gO ?_
                  refine rq [0, 1, 2, 3, 4, 5, 6, 7, 8, 9, 10] mixed (by kernel_rfl) ?_
                  refine sd (by omega) ?_
                  refine ldF (.t7 .here) (ptrC.ld _ (by omega)) ?_
                  refine ld (.t4 .here) (encAct.ld_A _) ?_
                  refine ld (.t4 .here) (encAct.ld_C _) ?_
                  refine XO.v (V.convInt rfl Tryd.underlying3 Tryd.underlying5 (IntKind.u8.wrap (A x.1).c) rfl) rfl (gO ?_)
                  refine caR 4 (v_Store kb pb _ x.2.v ht.sys.acc.ok _ _ (x.2.f (((A x.1).key % (x.2.k : Nat)).toNat)) hmo _ _) (.cons (.t5 .here) (.cons (.t5 .here) (.cons .here (.cons .here (.cons (.t5 .here) .nil))))) rfl ?_
                  rintro _ _ ⟨rfl, rfl⟩
                  rw [MS.store_out hmay]
                  have he : ¬ ((x.2.f (((A x.1).key % (x.2.k : Nat)).toNat)).store x.2.v (A x.1).a (IntKind.u8.wrap (A x.1).c)).1 = 0 := by rw [MS.store_out hmay]; exact (by decide : ¬ (10 : Int) = 0)
                  refine gO ?_
                  refine XR.mono (fun _ hw3 => XM.backI (m := ((x.2.f (((A x.1).key % (x.2.k : Nat)).toNat)).store x.2.v (A x.1).a (IntKind.u8.wrap (A x.1).c)).2.2) (MS.store_is _ _ _ _) hz (.cons (.t2 .here) (.cons (.t2 .here) (.cons (.t3 .here) (.cons (.t3 .here) .nil)))) hw3) ?_
                  refine spF 77 rfl (by simp) ?_
                  refine spT 94 rfl (by simp) ?_
                  refine cdF rfl (by simp) ?_
                  have ht2 := ht.store_no hz he
                  refine ca (top_stocked kb pb _ _ _ (by first | omega | (simp; omega)) ht2.sys ht2.full _ _ _ _ _) (.cons (.t2 .here) (.cons (.t2 .here) (.cons .here (.cons .here (.cons (.t2 .here) .nil))))) ?_
                  rintro _ _ ⟨rfl, rfl⟩
                  refine gO ?_
                  refine sd (by omega) ?_
                  refine ag ((x.1 + 1, ⟨((x.2.f (((A x.1).key % (x.2.k : Nat)).toNat)).store x.2.v (A x.1).a (IntKind.u8.wrap (A x.1).c)).2.1, fupd x.2.f (((A x.1).key % (x.2.k : Nat)).toNat) ((x.2.f (((A x.1).key % (x.2.k : Nat)).toNat)).store x.2.v (A x.1).a (IntKind.u8.wrap (A x.1).c)).2.2, x.2.k, x.2.fl, x.2.mb, fupd x.2.ps (((A x.1).key % (x.2.k : Nat)).toNat) (x.2.ps (((A x.1).key % (x.2.k : Nat)).toNat)), fupd x.2.cs (((A x.1).key % (x.2.k : Nat)).toNat) (x.2.cs (((A x.1).key % (x.2.k : Nat)).toNat)), (some ⟨ga, 0, none⟩), x.2.cm, x.2.pf, x.2.cf⟩)) ?_ ?_ (S5 rfl rfl rfl rfl rfl) (fun _ hw => XM.pick (.cons .here (.cons .here (.cons .here (.cons .here (.cons .here (.cons (.t2 .here) (.cons .here (.cons (.there .here) .nil)))))))) hw)
                  · skip
                    (show (_ - (x.1 + 1)).toNat < (_ - x.1).toNat; omega)
                  · skip
                    exact ⟨(by show 0 ≤ x.1 + 1 ∧ x.1 + 1 ≤ _; omega), hk, ht2⟩
                · skip
                  refine gO ?_
                  refine rq [0, 1, 2, 3, 4, 5, 6, 7, 8, 9, 10] mixed (by kernel_rfl) ?_
                  refine sd (by omega) ?_
                  refine ldF (.t7 .here) (ptrC.ld _ (by omega)) ?_
                  refine ld (.t4 .here) (encAct.ld_A _) ?_
                  refine ld (.t4 .here) (encAct.ld_C _) ?_
                  refine XO.v (V.convInt rfl Tryd.underlying3 Tryd.underlying5 (IntKind.u8.wrap (A x.1).c) rfl) rfl (gO ?_)
                  refine caR 4 (v_Store kb pb _ x.2.v ht.sys.acc.ok _ _ (x.2.f (((A x.1).key % (x.2.k : Nat)).toNat)) hmo _ _) (.cons (.t5 .here) (.cons (.t5 .here) (.cons .here (.cons .here (.cons (.t5 .here) .nil))))) rfl ?_
                  rintro _ _ ⟨rfl, rfl⟩
                  by_cases he : ((x.2.f (((A x.1).key % (x.2.k : Nat)).toNat)).store x.2.v (A x.1).a (IntKind.u8.wrap (A x.1).c)).1 = 0
                  · skip
                    rw [he]
                    have hr := MS.store_rng hmo he
                    refine gO ?_
                    refine XR.mono (fun _ hw3 => XM.backI (m := ((x.2.f (((A x.1).key % (x.2.k : Nat)).toNat)).store x.2.v (A x.1).a (IntKind.u8.wrap (A x.1).c)).2.2) (MS.store_is _ _ _ _) hz (.cons (.t2 .here) (.cons (.t2 .here) (.cons (.t3 .here) (.cons (.t3 .here) .nil)))) hw3) ?_
                    refine spT 77 rfl (rfl) ?_
                    refine ld (.t5 .here) (encAct.ld_A _) ?_
                    refine spF 85 rfl (by omega) ?_
                    refine ld (.t5 .here) (encAct.ld_A _) ?_
                    refine spF 91 rfl (by omega) ?_
                    refine spF 94 rfl (by simp) ?_
                    refine cdT rfl (rfl) ?_
                    refine XR.openRow (.t7 .here) (by omega) ?_
                    intro gf hgf
                    rw [hgf]
                    refine rq [0, 1, 2, 3, 4, 5, 6, 7, 8, 9] mixed (by kernel_rfl) ?_
                    refine ld (.t5 .here) (encAct.ld_A _) ?_
                    refine ld (.t5 .here) (encAct.ld_C _) ?_
                    refine XO.v (V.convInt rfl Tryd.underlying3 Tryd.underlying5 (IntKind.u8.wrap (A x.1).c) rfl) rfl (gO ?_)
                    refine sd (by omega) ?_
                    refine sd (by omega) ?_
                    refine stF (.t7 .here) (flC.st _ _ (by omega) (by omega)) rfl ?_
                    have ht2 := ht.store hz (wrap_u8 (A x.1).c) he
                    refine ca (top_stocked kb pb _ _ _ (by first | omega | (simp; omega)) ht2.sys ht2.full _ _ _ _ _) (.cons (.t2 .here) (.cons (.t2 .here) (.cons .here (.cons .here (.cons (.t2 .here) .nil))))) ?_
                    rintro _ _ ⟨rfl, rfl⟩
                    refine gO ?_
                    refine sd (by omega) ?_
                    refine ag ((x.1 + 1, ⟨((x.2.f (((A x.1).key % (x.2.k : Nat)).toNat)).store x.2.v (A x.1).a (IntKind.u8.wrap (A x.1).c)).2.1, fupd x.2.f (((A x.1).key % (x.2.k : Nat)).toNat) ((x.2.f (((A x.1).key % (x.2.k : Nat)).toNat)).store x.2.v (A x.1).a (IntKind.u8.wrap (A x.1).c)).2.2, x.2.k, fupd x.2.fl (((A x.1).key % (x.2.k : Nat)).toNat) (fset (x.2.fl (((A x.1).key % (x.2.k : Nat)).toNat)) (A x.1).a (IntKind.u8.wrap (A x.1).c)), x.2.mb, fupd x.2.ps (((A x.1).key % (x.2.k : Nat)).toNat) (x.2.ps (((A x.1).key % (x.2.k : Nat)).toNat)), fupd x.2.cs (((A x.1).key % (x.2.k : Nat)).toNat) (x.2.cs (((A x.1).key % (x.2.k : Nat)).toNat)), (some ⟨ga, 0, none⟩), x.2.cm, (some ⟨gf, 0, none⟩), x.2.cf⟩)) ?_ ?_ (S5 rfl rfl rfl rfl rfl) (fun _ hw => XM.pick (.cons .here (.cons .here (.cons .here (.cons .here (.cons .here (.cons (.t2 .here) (.cons .here (.cons (.there .here) .nil)))))))) hw)
                    · skip
                      (show (_ - (x.1 + 1)).toNat < (_ - x.1).toNat; omega)
                    · skip
                      exact ⟨(by show 0 ≤ x.1 + 1 ∧ x.1 + 1 ≤ _; omega), hk, ht2⟩
                  · skip
                    rw [MS.store_err hmay he]
                    refine gO ?_
                    refine XR.mono (fun _ hw3 => XM.backI (m := ((x.2.f (((A x.1).key % (x.2.k : Nat)).toNat)).store x.2.v (A x.1).a (IntKind.u8.wrap (A x.1).c)).2.2) (MS.store_is _ _ _ _) hz (.cons (.t2 .here) (.cons (.t2 .here) (.cons (.t3 .here) (.cons (.t3 .here) .nil)))) hw3) ?_
                    refine spF 77 rfl (by simp) ?_
                    refine spT 94 rfl (by simp) ?_
                    refine ca (top_number) .nil ?_
                    rintro _ _ ⟨rfl, rfl⟩
                    refine gO ?_
                    refine cdF rfl (by simp) ?_
                    refine cdF rfl (by simp) ?_
                    have ht2 := ht.store_no hz he
                    refine ca (top_stocked kb pb _ _ _ (by first | omega | (simp; omega)) ht2.sys ht2.full _ _ _ _ _) (.cons (.t2 .here) (.cons (.t2 .here) (.cons .here (.cons .here (.cons (.t2 .here) .nil))))) ?_
                    rintro _ _ ⟨rfl, rfl⟩
                    refine gO ?_
                    refine sd (by omega) ?_
                    refine ag ((x.1 + 1, ⟨((x.2.f (((A x.1).key % (x.2.k : Nat)).toNat)).store x.2.v (A x.1).a (IntKind.u8.wrap (A x.1).c)).2.1, fupd x.2.f (((A x.1).key % (x.2.k : Nat)).toNat) ((x.2.f (((A x.1).key % (x.2.k : Nat)).toNat)).store x.2.v (A x.1).a (IntKind.u8.wrap (A x.1).c)).2.2, x.2.k, x.2.fl, x.2.mb, fupd x.2.ps (((A x.1).key % (x.2.k : Nat)).toNat) (x.2.ps (((A x.1).key % (x.2.k : Nat)).toNat)), fupd x.2.cs (((A x.1).key % (x.2.k : Nat)).toNat) (x.2.cs (((A x.1).key % (x.2.k : Nat)).toNat)), (some ⟨ga, 0, none⟩), x.2.cm, x.2.pf, x.2.cf⟩)) ?_ ?_ (S5 rfl rfl rfl rfl rfl) (fun _ hw => XM.pick (.cons .here (.cons .here (.cons .here (.cons .here (.cons .here (.cons (.t2 .here) (.cons .here (.cons (.there .here) .nil)))))))) hw)
                    · skip
                      (show (_ - (x.1 + 1)).toNat < (_ - x.1).toNat; omega)
                    · skip
                      exact ⟨(by show 0 ≤ x.1 + 1 ∧ x.1 + 1 ≤ _; omega), hk, ht2⟩
    · skip
      refine lp (σ := Int) (fun y => (x.2.k - y).toNat) (fun y => 0 ≤ y ∧ y ≤ x.2.k) (fun y => [(18, .int .i64 y), (4, .slice x.2.pm x.2.k x.2.cm), (5, .slice x.2.pf x.2.k x.2.cf)]) (fun y => XM W (foot [.ro 0 0 64 tab64, .ro bl ol (8 * len) (encActs A)]) [.cells kb 0 577 (encK pb x.2.v.by_ x.2.v.rf), .cells pb 0 71 (encP x.2.v.bb.pool), .cfam (ltP x.2.k) x.2.mb 34 (cN kb x.2.f x.2.ps x.2.cs), .fam (ltP x.2.k) (rN 83 x.2.f x.2.ps x.2.cs), frow x.2.pm x.2.cm 29 1 x.2.k (ptrC x.2.mb), frow x.2.pf x.2.cf 58 128 x.2.k (flC x.2.fl), .ro 0 0 64 tab64]) (0) ?_ (S3 rfl rfl rfl) (fun _ hw => XM.pick .h7 hw) ?_
      · skip
        omega
      intro y hy
      refine gC ?_
      refine cd rfl ?_ ?_ <;> intro h22
      · skip
        have hz : y.toNat < x.2.k := by omega
        have hmo := ht.sys.mo _ hz
        refine XR.openRow (.t4 .here) (by omega) ?_
        intro ga hga
        rw [hga]
        refine XR.openRow (.t5 .here) (by omega) ?_
        intro gf hgf
        rw [hgf]
        refine XR.mono (fun _ hw3 => XM.outT (z := y.toNat) hz (.cons (.t2 .here) (.cons (.t2 .here) .nil)) hw3) ?_
        refine lp (σ := Int) (fun w => (128 - w).toNat) (fun w => 0 ≤ w ∧ w ≤ 128) (fun w => [(19, .int .i64 w), (4, .slice (some ⟨ga, 0, none⟩) x.2.k x.2.cm), (5, .slice (some ⟨gf, 0, none⟩) x.2.k x.2.cf), (18, .int .i64 y)]) (fun w => XM W (foot [.ro 0 0 64 tab64, .ro bl ol (8 * len) (encActs A)]) [.cells (x.2.mb y.toNat) 0 34 (encN kb (x.2.ps y.toNat) (runs (x.2.f y.toNat).is_).length (x.2.cs y.toNat) (x.2.f y.toNat).fr (x.2.f y.toNat).own), frow (x.2.ps y.toNat) (x.2.cs y.toNat) 83 3 (runs (x.2.f y.toNat).is_).length (rgC (runs (x.2.f y.toNat).is_)), .cfam (outP (ltP x.2.k) y.toNat) x.2.mb 34 (cN kb x.2.f x.2.ps x.2.cs), .fam (outP (ltP x.2.k) y.toNat) (rN 83 x.2.f x.2.ps x.2.cs), .cells kb 0 577 (encK pb x.2.v.by_ x.2.v.rf), .cells pb 0 71 (encP x.2.v.bb.pool), frow (some ⟨ga, 0, none⟩) x.2.cm 29 1 x.2.k (ptrC x.2.mb), frow (some ⟨gf, 0, none⟩) x.2.cf 58 128 x.2.k (flC x.2.fl), .ro 0 0 64 tab64]) (0) ?_ (S4 rfl rfl rfl rfl) (fun _ hw => XM.pick .h9 hw) ?_
        · skip
          omega
        intro w hw
        refine gC ?_
        refine cd rfl ?_ ?_ <;> intro h23
        · skip
          refine sd (by omega) ?_
          refine ldF (.t6 .here) (ptrC.ld _ (by omega)) ?_
          refine ca (v_Wants kb _ _ _ (x.2.f y.toNat) hmo w) .h2 ?_
          rintro _ _ ⟨rfl, rfl⟩
          cases hwa : (x.2.f y.toNat).wants w
          · skip
            refine gO ?_
            refine sd (by omega) ?_
            refine ldF (.t6 .here) (ptrC.ld _ (by omega)) ?_
            refine ca (v_May kb _ _ _ (x.2.f y.toNat) hmo w false) .h2 ?_
            rintro _ _ ⟨rfl, rfl⟩
            cases hma : (x.2.f y.toNat).may w false
            · skip
              refine gO ?_
              refine sd (by omega) ?_
              refine ag (w + 1) ?_ ?_ (S4 rfl rfl rfl rfl) (fun _ hw => XM.pick .h9 hw)
              · skip
                (first | omega | (simp; done) | (simp; omega))
              · skip
                (first | omega | (simp; done) | (simp; omega))
            · skip
              refine gO ?_
              refine sd (by omega) ?_
              refine ldF (.t6 .here) (ptrC.ld _ (by omega)) ?_
              refine caR 4 (v_Load kb pb _ x.2.v ht.sys.acc.ok _ _ (x.2.f y.toNat) hmo w) (.cons (.t4 .here) (.cons (.t4 .here) (.cons .here (.cons .here (.cons (.t4 .here) .nil))))) rfl ?_
              rintro _ _ ⟨rfl, rfl⟩
              rw [ht.load_same hz hwa hma]
              refine gO ?_
              refine spF 276 rfl (by simp) ?_
              refine sd (by omega) ?_
              refine sd (by omega) ?_
              refine ldF (.t8 .here) (flC.ld _ (by omega) (by omega)) ?_
              refine cdF rfl (by simp) ?_
              refine sd (by omega) ?_
              refine ag (w + 1) ?_ ?_ (S4 rfl rfl rfl rfl) (fun _ hw => XM.pick (.cons (.t2 .here) (.cons (.t2 .here) (.cons (.t3 .here) (.cons (.t3 .here) (.cons .here (.cons .here (.cons (.there .here) (.cons (.there .here) .h1)))))))) hw)
              · skip
                (first | omega | (simp; done) | (simp; omega))
              · skip
                (first | omega | (simp; done) | (simp; omega))
          · skip
            refine gO ?_
            refine sd (by omega) ?_
            refine ag (w + 1) ?_ ?_ (S4 rfl rfl rfl rfl) (fun _ hw => XM.pick .h9 hw)
            · skip
              (first | omega | (simp; done) | (simp; omega))
            · skip
              (first | omega | (simp; done) | (simp; omega))
        · skip
          refine XR.mono (fun _ hw3 => XM.sameT hz .h4 hw3) ?_
          refine sd (by omega) ?_
          refine ag (y + 1) ?_ ?_ (S3 rfl rfl rfl) (fun _ hw => XM.pick (.cons (.t2 .here) (.cons (.t2 .here) .h5)) hw)
          · skip
            (first | omega | (simp; done) | (simp; omega))
          · skip
            (first | omega | (simp; done) | (simp; omega))
      · skip
        refine XE.ret1 rfl rfl (post_of .nil rfl ?_)
        exact ⟨rfl, rfl⟩
end Go.X
