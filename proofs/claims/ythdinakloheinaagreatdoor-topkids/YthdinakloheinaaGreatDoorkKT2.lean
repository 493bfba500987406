import Derived.Test.YthdinakloheinaaGreatDoorkKW7
namespace Go.X.Kn
open Go Go.Proofs Go.X
set_option maxRecDepth 20000
set_option maxHeartbeats 4000000
theorem ar_28 : arrOf Tryz.prog 28 = some (21, 1) := by kernel_rfl
theorem cl_19 : callable Tryz.prog 19 = true := by kernel_rfl
theorem sc_4 : scal Tryz.prog 4 = true := by kernel_rfl
set_option maxHeartbeats 16000000 in
theorem kids_some (bl ol len cap : Nat) (hlen : len ≤ cap) (A : Int → ActV) (hA : ∀ z : Int, 0 ≤ z → z < len → (A z).ok) : Spec Tryz.prog 3 [.slice (some ⟨bl, ol, none⟩) len cap]
 [.ro 0 0 32 Sg.tab32, .ro bl ol (8 * len) (encActs A)]
 (fun v H1 => v = .bool true ∧ H1 = []) := by
  refine Spec.go 155 [0, 2, 3, 4, 5, 6, 7, 8, 9, 10, 11, 12, 13, 14, 16, 17, 19, 30, 35, 43, 44, 54, 65, 66, 81, 83, 90, 100, 124, 137, 139, 154] [(10, 1)] Tryz.func3 rfl rfl rfl ?_
  intro W
  refine ca (k_begun) .nil ?_
  rintro _ _ ⟨kb, k0, vp, mb0, q0, rfl, hb, hq0, hr0, rfl⟩
  refine gO ?_
  refine caR 0 (few_any _ _ len cap hlen A hA 150 (by omega)) (.cons (.t10 .here) .nil) rfl ?_
  rintro _ _ ⟨⟨bf, rfl, hfew⟩, rfl⟩
  refine gO ?_
  refine cdB rfl ?_ ?_ <;> intro h1
  · try simp only [sb] at h1
    refine XE.ret1 rfl rfl (post_of .nil rfl ?_)
    try dsimp only [SW.den, SV.den, dens, ofC]
    exact ⟨rfl, rfl⟩
  · try simp only [sb] at h1
    have hle : (len : Int) ≤ 150 := hfew (by simpa using h1)
    refine XO.allocZ (z := .agg (arrV (fun _ => 0) 21)) (m := 21) (C := encI (fun _ => 0) 21) (by kernel_rfl) (arrV_size (fun _ => 0) 21) (encI.box (fun _ => 0) 21) rfl ?_
    intro bc
    refine gO ?_
    refine XO.allocZ (z := .agg (arrB (fun _ => false) 21)) (m := 21) (C := encBl (fun _ => false) 21) (by kernel_rfl) (arrB_size (fun _ => false) 21) (encBl.box (fun _ => false) 21) rfl ?_
    intro be
    refine gO ?_
    refine XR.mono (fun _ hw3 => XM.startM (z := (0 : Int).toNat) Vm.MS.nil (.cons (.t10 .here) (.cons (.t10 .here) .nil)) hw3) ?_
    rw [fupd_self (fun _ => Vm.MS.nil), ← lv_begun hb]
    refine lp (σ := Int × KX) (fun x => (len - x.1).toNat) (fun x => (0 ≤ x.1 ∧ x.1 ≤ len) ∧ x.2.Ok x.1) (fun x => [(7, .int .i64 x.1), (0, .slice (some ⟨bl, ol, none⟩) len cap), (3, ptr kb 0 0), (5, ptr bc 0 0), (6, ptr be 0 0)]) (fun x => XM W (foot [.ro 0 0 32 Sg.tab32, .ro bl ol (8 * len) (encActs A)]) [.cells kb 0 453 (encKn x.2.k), .cells x.2.k.gb 0 60 (Gr.encGt x.2.g), .cells x.2.k.sb 0 158 (Sp.encT x.2.s), .cells x.2.k.qb 0 2281 (Fa.encS x.2.q), .fam Fa.fam30 (Fa.SC.rows 254 x.2.q), .cells x.2.k.bb 0 577 (Vm.encK vp Vm.VB.init.by_ Vm.VB.init.rf), .cells vp 0 71 (Vm.encP Vm.VB.init.bb.pool), .cfam (lv x.2.k) x.2.mb 34 (cN x.2.k.bb (fun _ => Vm.MS.nil) x.2.ps x.2.cs), .fam (lv x.2.k) (rN 171 (fun _ => Vm.MS.nil) x.2.ps x.2.cs), .cells be 0 21 (encBl x.2.en 21), .cells bc 0 21 (encI x.2.cd 21), .ro 0 0 32 Sg.tab32, .ro bl ol (8 * len) (encActs A)]) ((0, ⟨k0, fupd (fun _ => 0) (0 : Int).toNat mb0, S0, G0, q0, dK, 1, fun _ => false, fun _ => 0, fupd (fun _ => none) (0 : Int).toNat none, fupd (fun _ => 0) (0 : Int).toNat 0⟩)) ?_ (S5 rfl rfl rfl rfl rfl) (fun _ hw => XM.pick (.cons (.t5 .here) (.cons (.t5 .here) (.cons (.t5 .here) (.cons (.t5 .here) (.cons (.t5 .here) (.cons (.t5 .here) (.cons (.t5 .here) (.cons .here (.cons .here (.cons .here (.cons .here (.cons (.there .here) .h1)))))))))))) hw) ?_
    · skip
      exact ⟨by simp, ⟨KI.begun hb, EN.begun hb, Gr.TG.Inv.init.charge 0 1 0, (Gr.TG.Small.init.charge Gr.TG.Inv.init.ok 0 1 0).mono (by omega), (by show q0.toSF.Ok _ _ _; rw [hq0]; exact Q2_ok'), hr0⟩⟩
    intro x hx0
    obtain ⟨hi, hx⟩ := hx0
    refine gC ?_
    refine cd rfl ?_ ?_ <;> intro h2
    · skip
      refine sd (by omega) ?_
      refine ldARo (.t12 .here) (acts_load A len _ (by omega)) ?_
      refine XO.allocZ (z := .agg actZero) (m := 8) (C := cellsOf actZero) (by kernel_rfl) rfl (fun _ _ => rfl) rfl ?_
      intro ba
      refine gO ?_
      refine stA .here (acts_store _) rfl ⟨rfl, rfl⟩ ?_
      refine ctG (σ := KX) (fun y => y.Ok (x.1 + 1)) (fun y => [(0, .slice (some ⟨bl, ol, none⟩) len cap), (3, ptr kb 0 0), (5, ptr bc 0 0), (6, ptr be 0 0), (7, .int .i64 x.1)]) (fun y => XM W (foot [.ro 0 0 32 Sg.tab32, .ro bl ol (8 * len) (encActs A)]) [.cells kb 0 453 (encKn y.k), .cells y.k.gb 0 60 (Gr.encGt y.g), .cells y.k.sb 0 158 (Sp.encT y.s), .cells y.k.qb 0 2281 (Fa.encS y.q), .fam Fa.fam30 (Fa.SC.rows 254 y.q), .cells y.k.bb 0 577 (Vm.encK vp Vm.VB.init.by_ Vm.VB.init.rf), .cells vp 0 71 (Vm.encP Vm.VB.init.bb.pool), .cfam (lv y.k) y.mb 34 (cN y.k.bb (fun _ => Vm.MS.nil) y.ps y.cs), .fam (lv y.k) (rN 171 (fun _ => Vm.MS.nil) y.ps y.cs), .cells be 0 21 (encBl y.en 21), .cells bc 0 21 (encI y.cd 21), .ro 0 0 32 Sg.tab32, .ro bl ol (8 * len) (encActs A)]) ?_ ?_
      · skip
        refine ld .here (encAct.ld_Kind _) ?_
        refine cd rfl ?_ ?_ <;> intro h3
        · skip
          refine ld .here (encAct.ld_A _) ?_
          refine ca (k_ForkK kb x.2.k x.2.mb hx.I.kid (A x.1).a x.2.g hx.gI.ok (1000 * x.1 + 1000) (by omega) hx.gS x.2.s (fun _ => 1) hx.I.inv x.2.q x.2.d x.2.m 1 (by omega) hx.qO hx.qR vp x.2.ps x.2.cs hx.I.hz) (.cons (.there .here) (.cons (.there .here) (.cons (.there .here) (.cons (.there .here) (.cons (.there .here) (.cons (.there .here) (.cons (.there .here) (.cons (.there .here) (.cons (.there .here) .nil))))))))) ?_
          rintro _ _ (⟨e, he, rfl, g1, hg1, rfl⟩ | ⟨hl, c, hc, hc0, rfl, q2, d2, hq2, hr2, nb, p1, c1, rfl⟩)
          · skip
            try dsimp only [errvL0, errvL1, errvL2, errvL3, errvL4, errvL5, errvL6, errvL7, errvL8, errvL9, errvL10, errvL11, errvL12, errvL13]
            refine gO ?_
            refine mtG ({ x.2 with g := g1 }) ?_ (S5 rfl rfl rfl rfl rfl) (fun _ hw => XM.pick (.cons .here (.cons .here (.cons .here (.cons .here (.cons .here (.cons .here (.cons .here (.cons .here (.cons .here (.cons (.there .here) (.cons (.there .here) (.cons (.there .here) (.cons (.there .here) .nil))))))))))))) hw)
            rcases hg1 with rfl | rfl
            · exact hx.next
            · exact ⟨hx.I, hx.E, hx.gI.charge _ _ _, (hx.gS.charge hx.gI.ok _ _ _).mono (by omega), hx.qO, hx.qR⟩
          · skip
            obtain ⟨hI2, pq, hpq, hpf, hpw, hpp⟩ := hx.I.fork (n := (A x.1).a) (nb := nb) hc hc0
            obtain ⟨hE2, hen⟩ := EN.fork hx.I hx.E (n := (A x.1).a) (nb := nb) hc hc0 hpf hpw
            have hen2 := hen hpq.1 (by omega)
            rw [hpp, nil_fork, hx.I.kid.grp, nil_res, ← lv_new hc (show (x.2.k.kid (A x.1).a nb).st ≠ 0 from (by decide : (1 : Int) ≠ 0))]
            show XO _ _ _ _ _ ((_, .tuple #[.int .i64 pq, errv 102 0]) :: _) _
            refine gO ?_
            refine cdT rfl (rfl) ?_
            refine spF 57 rfl (by omega) ?_
            refine spF 61 rfl (by omega) ?_
            refine sd (by omega) ?_
            refine ld (.t10 .here) (ld_false (encBl.ld _ _ _ (by omega)) hen2) ?_
            refine mtG (⟨x.2.k.put c (x.2.k.kid (A x.1).a nb), fupd x.2.mb c.toNat nb, (x.2.s.enter (fun _ => 1) 0 c).2.2, x.2.g.charge 0 1 0, q2, d2, x.2.m + 1, x.2.en, x.2.cd, (fupd (fupd x.2.ps (A x.1).a.toNat (x.2.ps (A x.1).a.toNat)) c.toNat p1), (fupd (fupd x.2.cs (A x.1).a.toNat (x.2.cs (A x.1).a.toNat)) c.toNat c1)⟩) ?_ (S5 rfl rfl rfl rfl rfl) (fun _ hw => XM.pick (.cons .here (.cons .here (.cons .here (.cons .here (.cons .here (.cons .here (.cons .here (.cons .here (.cons .here (.cons (.there .here) (.cons (.there .here) (.cons (.there .here) (.cons (.there .here) .nil))))))))))))) hw)
            exact ⟨hI2, hE2, hx.gI.charge _ _ _, (hx.gS.charge hx.gI.ok _ _ _).mono (by omega), hq2, hr2⟩
        · skip
          refine cd rfl ?_ ?_ <;> intro h6
          · skip
            refine ld .here (encAct.ld_A _) ?_
            refine ca (k_Self kb x.2.k x.2.s (A x.1).a) (.cons (.there .here) (.cons (.t2 .here) .nil)) ?_
            rintro v17 _ ⟨hv17, rfl⟩
            by_cases hl : x.2.k.live (A x.1).a = 0
            · skip
              obtain ⟨hlr, hls⟩ := KP.live_rng hl
              obtain ⟨hp1, hp2, hp3⟩ := hx.I.has hlr (by omega)
              rw [if_pos hl, hx.I.hz, hp1] at hv17
              subst hv17
              refine gO ?_
              refine ld (.t2 .here) (encAct.ld_A _) ?_
              refine ld (.t2 .here) (encAct.ld_B _) ?_
              refine caR 9 (k_ExitK kb x.2.k x.2.mb hx.I.kid (A x.1).a (A x.1).b x.2.g hx.gI.ok (1000 * x.1 + 1000) (by omega) hx.gS x.2.s x.2.q x.2.d hx.qO.inv hx.qR vp x.2.ps x.2.cs (fun _ h0 => by rw [hx.I.head]; exact fun e => h0 e.symm)) (.cons .here (.cons (.t2 .here) (.cons .here (.cons (.there .here) (.cons (.there .here) (.cons (.there .here) (.cons (.there .here) (.cons (.there .here) (.cons (.there .here) (.cons (.t3 .here) .nil)))))))))) rfl ?_
              rintro _ _ (⟨hne, rfl, rfl⟩ | ⟨hee, rfl, q2, hq2, hr2, pu, cu, rfl⟩)
              · skip
                try dsimp only [errvL0, errvL1, errvL2, errvL3, errvL4, errvL5, errvL6, errvL7, errvL8, errvL9, errvL10, errvL11, errvL12, errvL13]
                refine gO ?_
                refine mtG (x.2) ?_ (S5 rfl rfl rfl rfl rfl) (fun _ hw => XM.pick (.cons .here (.cons .here (.cons .here (.cons .here (.cons .here (.cons .here (.cons .here (.cons .here (.cons .here (.cons (.t2 .here) (.cons (.t2 .here) (.cons .here (.cons (.there .here) .nil))))))))))))) hw)
                exact hx.next
              · skip
                try dsimp only [errvL0, errvL1, errvL2, errvL3, errvL4, errvL5, errvL6, errvL7, errvL8, errvL9, errvL10, errvL11, errvL12, errvL13]
                obtain ⟨_, he0⟩ := KP.exitE_0 hee
                have hsf := hx.I.self hlr hls he0
                rw [lv_exit hx.I (co := (A x.1).b) (hd := (x.2.s.find (x.2.s.in_ (A x.1).a).1 1).1) hlr (by omega)]
                refine gO ?_
                refine cdF rfl (by simp) ?_
                refine ld (.t10 .here) (encAct.ld_B _) ?_
                refine sd (by omega) ?_
                refine st (.t12 .here) (encI.st _ _ _ _ (by omega)) rfl ?_
                refine sd (by omega) ?_
                refine st (.t11 .here) (encBl.st _ _ _ _ (by omega)) rfl ?_
                refine mtG (⟨((x.2.k.ended (A x.1).a (A x.1).b).adopt (A x.1).a (x.2.s.find (x.2.s.in_ (A x.1).a).1 1).1 20), x.2.mb, x.2.s, (x.2.g.unch 0 0 0), q2, x.2.d, x.2.m, fset x.2.en (x.2.s.pid (A x.1).a 0).1 true, fset x.2.cd (x.2.s.pid (A x.1).a 0).1 (A x.1).b, fupd x.2.ps (A x.1).a.toNat pu, fupd x.2.cs (A x.1).a.toNat cu⟩) ?_ (S5 rfl rfl rfl rfl rfl) (fun _ hw => XM.pick (.cons .here (.cons .here (.cons .here (.cons .here (.cons .here (.cons .here (.cons .here (.cons .here (.cons .here (.cons (.t2 .here) (.cons (.t2 .here) (.cons .here (.cons (.there .here) .nil))))))))))))) hw)
                exact ⟨hx.I.exit hlr (by omega) he0, EN.exit hx.I hx.E hp3 hlr.1, hx.gI.unch _ _ _, (hx.gS.unch hx.gI.ok _ _ _).mono (by omega), (by show q2.toSF.Ok _ _ _; rw [hq2]; exact hx.qO.dropT (by omega) _), hr2⟩
            · skip
              rw [if_neg hl] at hv17
              subst hv17
              refine gO ?_
              refine ld (.t2 .here) (encAct.ld_A _) ?_
              refine ld (.t2 .here) (encAct.ld_B _) ?_
              refine caR 9 (k_ExitK kb x.2.k x.2.mb hx.I.kid (A x.1).a (A x.1).b x.2.g hx.gI.ok (1000 * x.1 + 1000) (by omega) hx.gS x.2.s x.2.q x.2.d hx.qO.inv hx.qR vp x.2.ps x.2.cs (fun _ h0 => by rw [hx.I.head]; exact fun e => h0 e.symm)) (.cons .here (.cons (.t2 .here) (.cons .here (.cons (.there .here) (.cons (.there .here) (.cons (.there .here) (.cons (.there .here) (.cons (.there .here) (.cons (.there .here) (.cons (.t3 .here) .nil)))))))))) rfl ?_
              rintro _ _ (⟨hne, rfl, rfl⟩ | ⟨hee, rfl, q2, hq2, hr2, pu, cu, rfl⟩)
              · skip
                try dsimp only [errvL0, errvL1, errvL2, errvL3, errvL4, errvL5, errvL6, errvL7, errvL8, errvL9, errvL10, errvL11, errvL12, errvL13]
                refine gO ?_
                refine mtG (x.2) ?_ (S5 rfl rfl rfl rfl rfl) (fun _ hw => XM.pick (.cons .here (.cons .here (.cons .here (.cons .here (.cons .here (.cons .here (.cons .here (.cons .here (.cons .here (.cons (.t2 .here) (.cons (.t2 .here) (.cons .here (.cons (.there .here) .nil))))))))))))) hw)
                exact hx.next
              · skip
                try dsimp only [errvL0, errvL1, errvL2, errvL3, errvL4, errvL5, errvL6, errvL7, errvL8, errvL9, errvL10, errvL11, errvL12, errvL13]
                exact absurd (KP.exitE_0 hee).1 hl
                skip
          · skip
            refine cd rfl ?_ ?_ <;> intro h7
            · skip
              refine ld .here (encAct.ld_A _) ?_
              refine ca (k_WaitK kb x.2.k x.2.mb hx.I.kid (A x.1).a x.2.g hx.gI.ok (1000 * x.1 + 1000) (by omega) hx.gS x.2.s (fun _ => 1) hx.I.inv x.2.ps x.2.cs hx.I.hz) (.cons (.there .here) (.cons (.there .here) (.cons (.there .here) (.cons (.t5 .here) (.cons (.t5 .here) .nil))))) ?_
              rintro _ _ (⟨e, he, rfl, rfl⟩ | ⟨t, pid, ht, hts, htp, rfl, rfl⟩)
              · skip
                try dsimp only [errvL0, errvL1, errvL2, errvL3, errvL4, errvL5, errvL6, errvL7, errvL8, errvL9, errvL10, errvL11, errvL12, errvL13]
                refine gO ?_
                refine XO.allocZ (z := .agg #[.int .i64 0, .int .i64 0]) (m := 2) (C := chC 0 0) (by kernel_rfl) rfl chC.box rfl ?_
                intro bw
                refine gO ?_
                refine stA .here (chC.st _ _ _ _) rfl ⟨rfl, rfl⟩ ?_
                refine sd (by omega) ?_
                refine ag ((x.1 + 1, x.2)) ?_ ?_ (S5 rfl rfl rfl rfl rfl) (fun _ hw => XM.pick (.cons (.there .here) (.cons (.there .here) (.cons (.there .here) (.cons (.t4 .here) (.cons (.t4 .here) (.cons (.t4 .here) (.cons (.t4 .here) (.cons (.there .here) (.cons (.there .here) (.cons (.t2 .here) (.cons (.t2 .here) (.cons (.t2 .here) (.cons (.t2 .here) .nil))))))))))))) hw)
                · skip
                  (show (_ - (x.1 + 1)).toNat < (_ - x.1).toNat; omega)
                · skip
                  exact ⟨(by show 0 ≤ x.1 + 1 ∧ x.1 + 1 ≤ _; omega), hx.next⟩
              · skip
                try dsimp only [errvL0, errvL1, errvL2, errvL3, errvL4, errvL5, errvL6, errvL7, errvL8, errvL9, errvL10, errvL11, errvL12, errvL13]
                obtain ⟨hpr, hpw⟩ := hx.I.wait ht hts htp
                obtain ⟨hI2, hw2⟩ := hx.I.away ht hts
                have hE0 := hx.E pid hpr.1 (by omega)
                have hen : x.2.en pid = true := hE0.1.2 (by rw [hpw]; exact ⟨ht.1, hts⟩)
                have hcd : x.2.cd pid = (x.2.k.u t).code := by rw [hE0.2 hen, hpw]
                have hse : (x.2.k.put t PU.nil).see (x.2.s.leave t).2 0 pid = (0, 2) := by rw [hI2.see ⟨by omega, by omega⟩, hw2, if_pos hpw, if_pos (by omega)]
                rw [← lv_gone (u := PU.nil) ht rfl]
                refine gO ?_
                refine XO.allocZ (z := .agg #[.int .i64 0, .int .i64 0]) (m := 2) (C := chC 0 0) (by kernel_rfl) rfl chC.box rfl ?_
                intro bw
                refine gO ?_
                refine stA .here (chC.st _ _ _ _) rfl ⟨rfl, rfl⟩ ?_
                refine rq [0, 1, 2, 3, 4, 5, 6, 7, 8, 9, 10, 11, 12, 13, 14, 15, 16, 17, 18, 19, 20, 21, 22, 23] mixed (by kernel_rfl) ?_
                refine ld .here (chC.ld0 _ _) ?_
                refine spF 104 rfl (by omega) ?_
                refine ld .here (chC.ld0 _ _) ?_
                refine spF 109 rfl (by omega) ?_
                refine ld .here (chC.ld0 _ _) ?_
                refine sd (by omega) ?_
                refine ld (.t11 .here) (ld_true (encBl.ld _ _ _ (by omega)) hen) ?_
                refine ld .here (chC.ld1 _ _) ?_
                refine ld .here (chC.ld0 _ _) ?_
                refine sd (by omega) ?_
                refine ld (.t12 .here) (encI.ld _ _ _ (by omega)) ?_
                refine cdF rfl (by rw [hcd]; exact fun q => q rfl) ?_
                refine ld .here (chC.ld0 _ _) ?_
                refine sd (by omega) ?_
                refine st (.t11 .here) (encBl.st _ _ _ _ (by omega)) rfl ?_
                refine ld .here (chC.ld0 _ _) ?_
                refine ca (k_See kb _ _ (fun _ => 1) hI2.inv 0 pid) (.cons (.there .here) (.cons (.t2 .here) .nil)) ?_
                rintro _ _ ⟨rfl, rfl⟩
                rw [hse]
                refine gO ?_
                refine ca (k_num 2) .nil ?_
                rintro _ _ ⟨rfl, rfl⟩
                refine gO ?_
                refine cdF rfl (by simp) ?_
                refine mtG (⟨x.2.k.put t PU.nil, x.2.mb, (x.2.s.leave t).2, (x.2.g.unch 0 1 0), x.2.q, x.2.d, x.2.m, fset x.2.en pid false, x.2.cd, x.2.ps, x.2.cs⟩) ?_ (S5 rfl rfl rfl rfl rfl) (fun _ hw => XM.pick (.cons .here (.cons (.t2 .here) (.cons .here (.cons (.t4 .here) (.cons (.t4 .here) (.cons (.t4 .here) (.cons (.t4 .here) (.cons (.there .here) (.cons (.there .here) (.cons (.t2 .here) (.cons (.t2 .here) (.cons (.t2 .here) (.cons (.t2 .here) .nil))))))))))))) hw)
                exact ⟨hI2, EN.away hx.I hx.E ht.1 hpw hw2, hx.gI.unch _ _ _, (hx.gS.unch hx.gI.ok _ _ _).mono (by omega), hx.qO, hx.qR⟩
            · skip
              refine mtG (x.2) ?_ (S5 rfl rfl rfl rfl rfl) (fun _ hw => XM.pick (.cons (.there .here) (.cons (.there .here) (.cons (.there .here) (.cons (.there .here) (.cons (.there .here) (.cons (.there .here) (.cons (.there .here) (.cons (.there .here) (.cons (.there .here) (.cons (.there .here) (.cons (.there .here) (.cons (.there .here) (.cons (.there .here) .nil))))))))))))) hw)
              exact hx.next
      intro y hy
      refine gC ?_
      refine lp (σ := Int) (fun p => (21 - p).toNat) (fun p => 2 ≤ p ∧ p ≤ 21) (fun p => [(17, .int .i64 p), (0, .slice (some ⟨bl, ol, none⟩) len cap), (3, ptr kb 0 0), (5, ptr bc 0 0), (6, ptr be 0 0), (7, .int .i64 x.1)]) (fun p => XM W (foot [.ro 0 0 32 Sg.tab32, .ro bl ol (8 * len) (encActs A)]) [.cells kb 0 453 (encKn y.k), .cells y.k.gb 0 60 (Gr.encGt y.g), .cells y.k.sb 0 158 (Sp.encT y.s), .cells y.k.qb 0 2281 (Fa.encS y.q), .fam Fa.fam30 (Fa.SC.rows 254 y.q), .cells y.k.bb 0 577 (Vm.encK vp Vm.VB.init.by_ Vm.VB.init.rf), .cells vp 0 71 (Vm.encP Vm.VB.init.bb.pool), .cfam (lv y.k) y.mb 34 (cN y.k.bb (fun _ => Vm.MS.nil) y.ps y.cs), .fam (lv y.k) (rN 171 (fun _ => Vm.MS.nil) y.ps y.cs), .cells be 0 21 (encBl y.en 21), .cells bc 0 21 (encI y.cd 21), .ro 0 0 32 Sg.tab32, .ro bl ol (8 * len) (encActs A)]) (2) ?_ (S6 rfl rfl rfl rfl rfl rfl) (fun _ hw => XM.pick .h13 hw) ?_
      · skip
        omega
      intro p hp
      refine gC ?_
      refine cd rfl ?_ ?_ <;> intro h10
      · skip
        refine ca (k_See kb y.k y.s (fun _ => 1) hy.I.inv 0 p) (.cons .here (.cons (.there .here) .nil)) ?_
        rintro _ _ ⟨rfl, rfl⟩
        refine gO ?_
        refine XC.regionQ mixed (f := 7) (l := #[false, false, false, false, false, false, false]) rfl rfl XM.drawn' ?_
        refine XQ.pv (i := 0) (l' := #[true, false, false, false, false, false, false]) rfl (by kernel_rfl) rfl (V.move rfl) rfl rfl ?_
        refine XQ.pv (i := 1) (l' := #[true, true, false, false, false, false, false]) rfl (by kernel_rfl) rfl (V.indexArr rfl rfl ar_28 (by omega)) rfl rfl ?_
        refine XQ.load (i := 2) (l' := #[true, true, true, false, false, false, false]) (.cells _ _ _ _) [] rfl (by kernel_rfl) rfl (.t9 .here) (V.load rfl inEnt (encBl.ld _ _ _ (by omega)) sc_4) rfl (by kernel_rfl) rfl ?_
        refine XQ.pv (i := 3) (l' := #[true, true, true, true, false, false, false]) rfl (by kernel_rfl) rfl (V.move rfl) rfl rfl ?_
        refine XQ.call (i := 4) (l' := #[true, true, true, true, true, false, false]) rfl (by kernel_rfl) rfl rfl (k_num _) .nil cl_19 rfl (by rintro _ _ ⟨rfl, rfl⟩; all_goals (intro _ hw'; exact ⟨fun _ => inXM (.t9 .here) _ hw', trivial⟩)) ?_
        rintro _ _ ⟨rfl, rfl⟩
        refine XQ.pv (i := 5) (l' := #[true, true, true, true, true, true, false]) rfl (by kernel_rfl) rfl (V.cmp rfl rfl rfl) rfl rfl ?_
        refine XQ.pv (i := 6) (l' := #[true, true, true, true, true, true, true]) rfl (by kernel_rfl) rfl (V.boolEq rfl rfl Tryz.underlying4 rfl) rfl rfl ?_
        refine XQ.done (by kernel_rfl) ?_
        refine gE ?_
        refine cdBF rfl (by simp [hy.seen (p := p) ⟨by omega, by omega⟩]) ?_
        refine sd (by omega) ?_
        refine ag (p + 1) ?_ ?_ (S6 rfl rfl rfl rfl rfl rfl) (fun _ hw => XM.pick (.cons .here (.cons (.there .here) .h11)) hw)
        · skip
          (first | omega | (simp; done) | (simp; omega))
        · skip
          (first | omega | (simp; done) | (simp; omega))
      · skip
        refine sd (by omega) ?_
        refine ag ((x.1 + 1, y)) ?_ ?_ (S5 rfl rfl rfl rfl rfl) (fun _ hw => XM.pick .h13 hw)
        · skip
          (show (_ - (x.1 + 1)).toNat < (_ - x.1).toNat; omega)
        · skip
          exact ⟨(by show 0 ≤ x.1 + 1 ∧ x.1 + 1 ≤ _; omega), hy⟩
    · skip
      refine XE.ret1 rfl rfl (post_of .nil rfl ?_)
      try dsimp only [SW.den, SV.den, dens, ofC]
      exact ⟨rfl, rfl⟩
end Go.X.Kn

namespace Go.X.Kn
open Go Go.Proofs Go.X
set_option maxRecDepth 20000
set_option maxHeartbeats 4000000

set_option maxHeartbeats 16000000 in
theorem kids_nil' (p : Option Addr) (cap : Nat) : Spec Tryz.prog 3 [.slice p 0 cap]
 [.ro 0 0 32 Sg.tab32]
 (fun v H1 => v = .bool true ∧ H1 = []) := by
  refine Spec.go 155 [0, 2, 3, 4, 5, 6, 7, 30, 35] [] Tryz.func3 rfl rfl rfl ?_
  intro W
  refine ca (k_begun) .nil ?_
  rintro _ _ ⟨kb, k0, vp, mb0, q0, rfl, hb, hq0, hr0, rfl⟩
  refine gO ?_
  refine ca (few_nil _ _ 150) .nil ?_
  rintro _ _ ⟨⟨bf, rfl, hfew⟩, rfl⟩
  refine gO ?_
  refine cdB rfl ?_ ?_ <;> intro h1
  · try simp only [sb] at h1
    refine XE.ret1 rfl rfl (post_of .nil rfl ?_)
    try dsimp only [SW.den, SV.den, dens, ofC]
    exact ⟨rfl, rfl⟩
  · try simp only [sb] at h1
    refine XO.allocZ (z := .agg (arrV (fun _ => 0) 21)) (m := 21) (C := encI (fun _ => 0) 21) (by kernel_rfl) (arrV_size (fun _ => 0) 21) (encI.box (fun _ => 0) 21) rfl ?_
    intro bc
    refine gO ?_
    refine XO.allocZ (z := .agg (arrB (fun _ => false) 21)) (m := 21) (C := encBl (fun _ => false) 21) (by kernel_rfl) (arrB_size (fun _ => false) 21) (encBl.box (fun _ => false) 21) rfl ?_
    intro be
    refine gO ?_
    refine XR.mono (fun _ hw3 => XM.startM (z := (0 : Int).toNat) Vm.MS.nil (.cons (.t9 .here) (.cons (.t9 .here) .nil)) hw3) ?_
    rw [fupd_self (fun _ => Vm.MS.nil), ← lv_begun hb]
    refine lp (σ := Int × KX) (fun x => 0) (fun x => (0 ≤ x.1 ∧ x.1 ≤ (0 : Nat)) ∧ x.2.Ok x.1) (fun x => [(7, .int .i64 x.1), (0, .slice p 0 cap), (3, ptr kb 0 0), (5, ptr bc 0 0), (6, ptr be 0 0)]) (fun x => XM W (foot [.ro 0 0 32 Sg.tab32]) [.cells kb 0 453 (encKn x.2.k), .cells x.2.k.gb 0 60 (Gr.encGt x.2.g), .cells x.2.k.sb 0 158 (Sp.encT x.2.s), .cells x.2.k.qb 0 2281 (Fa.encS x.2.q), .fam Fa.fam30 (Fa.SC.rows 254 x.2.q), .cells x.2.k.bb 0 577 (Vm.encK vp Vm.VB.init.by_ Vm.VB.init.rf), .cells vp 0 71 (Vm.encP Vm.VB.init.bb.pool), .cfam (lv x.2.k) x.2.mb 34 (cN x.2.k.bb (fun _ => Vm.MS.nil) x.2.ps x.2.cs), .fam (lv x.2.k) (rN 171 (fun _ => Vm.MS.nil) x.2.ps x.2.cs), .cells be 0 21 (encBl x.2.en 21), .cells bc 0 21 (encI x.2.cd 21), .ro 0 0 32 Sg.tab32]) ((0, ⟨k0, fupd (fun _ => 0) (0 : Int).toNat mb0, S0, G0, q0, dK, 1, fun _ => false, fun _ => 0, fupd (fun _ => none) (0 : Int).toNat none, fupd (fun _ => 0) (0 : Int).toNat 0⟩)) ?_ (S5 rfl rfl rfl rfl rfl) (fun _ hw => XM.pick (.cons (.t4 .here) (.cons (.t4 .here) (.cons (.t4 .here) (.cons (.t4 .here) (.cons (.t4 .here) (.cons (.t4 .here) (.cons (.t4 .here) .h5))))))) hw) ?_
    · skip
      exact ⟨by simp, ⟨KI.begun hb, EN.begun hb, Gr.TG.Inv.init.charge 0 1 0, (Gr.TG.Small.init.charge Gr.TG.Inv.init.ok 0 1 0).mono (by omega), (by show q0.toSF.Ok _ _ _; rw [hq0]; exact Q2_ok'), hr0⟩⟩
    intro x hx0
    obtain ⟨hi, hx⟩ := hx0
    refine gC ?_
    refine cdF rfl (by simp; omega) ?_
    refine XE.ret1 rfl rfl (post_of .nil rfl ?_)
    try dsimp only [SW.den, SV.den, dens, ofC]
    exact ⟨rfl, rfl⟩
theorem kids_nil : Spec Tryz.prog 3 [.slice none 0 0] [.ro 0 0 32 Sg.tab32] (fun v H1 => v = .bool true ∧ H1 = []) := kids_nil' none 0

end Go.X.Kn
