import Derived.Test.YthdinakloheinaaGreatDoorkJB3
import Derived.Test.YthdinakloheinaaGreatDoorkJA2
namespace Go.X.Kn
open Go Go.Proofs Go.X
set_option maxRecDepth 20000
set_option maxHeartbeats 4000000

set_option maxHeartbeats 16000000 in
theorem k_emptyA (a : KA) (b : KZ) (c : KC) (N : Nat) (T : Int) (hw : a.Wk T) (hc : Con a c N T) (hT : T ≤ 900000) (z h : Int) : Spec Tryz.prog 130 [ptr b.kb 0 0, .int .i64 z, .int .i64 h]
 [.cells b.kb 0 453 (encKn (kp a b c)), .cells b.gb 0 60 (Gr.encGt a.g), .cells b.sb 0 158 (Sp.encT a.s), .cells b.qb 0 2281 (Fa.encS c.q), .fam Fa.fam30 (Fa.SC.rows 254 c.q), .cells b.bb 0 577 (Vm.encK b.vp a.v.by_ a.v.rf), .cells b.vp 0 71 (Vm.encP a.v.bb.pool), .cfam (lvA a) c.mb 34 (cN b.bb a.f c.pp c.cc), .fam (lvA a) (rN 171 a.f c.pp c.cc), .cells b.tb 0 321 (Tr.encF c.F), .fam Tr.fam40 (Tr.FC.rowsN 9 c.F), .fam Tr.fam40 (Tr.FC.rowsK 3 c.F), irow c.rp c.rc 3 c.rl, .cells b.pi 0 24 (Tr.encP a.P), .cells b.ob 0 122 (Tr.encO b.tb b.pi a.O), .cfam (hrA a) (fun z => (c.t z).b) 4 (cT b.tb c.t), .fam (hrA a) (rT 168 c.t)]
 (fun v H1 => ∃ c1 : KC, Con (a.emptyA z h) c1 N T ∧ H1 = [.cells b.kb 0 453 (encKn (kp (a.emptyA z h) b c1)), .cells b.gb 0 60 (Gr.encGt (a.emptyA z h).g), .cells b.sb 0 158 (Sp.encT (a.emptyA z h).s), .cells b.qb 0 2281 (Fa.encS c1.q), .fam Fa.fam30 (Fa.SC.rows 254 c1.q), .cells b.bb 0 577 (Vm.encK b.vp (a.emptyA z h).v.by_ (a.emptyA z h).v.rf), .cells b.vp 0 71 (Vm.encP (a.emptyA z h).v.bb.pool), .cfam (lvA (a.emptyA z h)) c1.mb 34 (cN b.bb (a.emptyA z h).f c1.pp c1.cc), .fam (lvA (a.emptyA z h)) (rN 171 (a.emptyA z h).f c1.pp c1.cc), .cells b.tb 0 321 (Tr.encF c1.F), .fam Tr.fam40 (Tr.FC.rowsN 9 c1.F), .fam Tr.fam40 (Tr.FC.rowsK 3 c1.F), irow c1.rp c1.rc 3 c1.rl, .cells b.pi 0 24 (Tr.encP (a.emptyA z h).P), .cells b.ob 0 122 (Tr.encO b.tb b.pi (a.emptyA z h).O), .cfam (hrA (a.emptyA z h)) (fun z => (c1.t z).b) 4 (cT b.tb c1.t), .fam (hrA (a.emptyA z h)) (rT 168 c1.t)]) := by
  refine Spec.go 62 [0, 2, 6, 9, 11, 21, 22, 23, 24, 29, 37, 45, 46, 51, 52, 53, 54] [] Tryz.func130 rfl rfl rfl ?_
  intro W
  refine ld .here (encKn.ld_s _) ?_
  refine ca (Sp.t_Members _ _ a.s z) (.cons (.t2 .here) .nil) ?_
  rintro _ _ ⟨p0, cap0, rfl, rfl⟩
  have hlen : (a.s.mem z).1.length ≤ 21 := Sp.SS.mem_len _ _
  refine gO ?_
  refine lp (σ := Int × KA × KC) (fun x => ((a.s.mem z).1.length - x.1).toNat) (fun x => (0 ≤ x.1 ∧ x.1 ≤ (a.s.mem z).1.length) ∧ x.2.1 = (((a.s.mem z).1.take x.1.toNat).foldl (KA.stepE h) a) ∧ x.2.1.Wk T ∧ Con x.2.1 x.2.2 N T) (fun x => [(23, .int .i64 x.1), (0, ptr b.kb 0 0), (2, .int .i64 h), (21, .slice p0 (a.s.mem z).1.length cap0), (22, .int .i64 (a.s.mem z).1.length)]) (fun x => XM W (foot [.cells b.kb 0 453 (encKn (kp a b c)), .cells b.gb 0 60 (Gr.encGt a.g), .cells b.sb 0 158 (Sp.encT a.s), .cells b.qb 0 2281 (Fa.encS c.q), .fam Fa.fam30 (Fa.SC.rows 254 c.q), .cells b.bb 0 577 (Vm.encK b.vp a.v.by_ a.v.rf), .cells b.vp 0 71 (Vm.encP a.v.bb.pool), .cfam (lvA a) c.mb 34 (cN b.bb a.f c.pp c.cc), .fam (lvA a) (rN 171 a.f c.pp c.cc), .cells b.tb 0 321 (Tr.encF c.F), .fam Tr.fam40 (Tr.FC.rowsN 9 c.F), .fam Tr.fam40 (Tr.FC.rowsK 3 c.F), irow c.rp c.rc 3 c.rl, .cells b.pi 0 24 (Tr.encP a.P), .cells b.ob 0 122 (Tr.encO b.tb b.pi a.O), .cfam (hrA a) (fun z => (c.t z).b) 4 (cT b.tb c.t), .fam (hrA a) (rT 168 c.t)]) [irow p0 cap0 3 (a.s.mem z).1, .cells b.kb 0 453 (encKn (kp x.2.1 b x.2.2)), .cells b.gb 0 60 (Gr.encGt x.2.1.g), .cells b.sb 0 158 (Sp.encT x.2.1.s), .cells b.qb 0 2281 (Fa.encS x.2.2.q), .fam Fa.fam30 (Fa.SC.rows 254 x.2.2.q), .cells b.bb 0 577 (Vm.encK b.vp x.2.1.v.by_ x.2.1.v.rf), .cells b.vp 0 71 (Vm.encP x.2.1.v.bb.pool), .cfam (lvA x.2.1) x.2.2.mb 34 (cN b.bb x.2.1.f x.2.2.pp x.2.2.cc), .fam (lvA x.2.1) (rN 171 x.2.1.f x.2.2.pp x.2.2.cc), .cells b.tb 0 321 (Tr.encF x.2.2.F), .fam Tr.fam40 (Tr.FC.rowsN 9 x.2.2.F), .fam Tr.fam40 (Tr.FC.rowsK 3 x.2.2.F), irow x.2.2.rp x.2.2.rc 3 x.2.2.rl, .cells b.pi 0 24 (Tr.encP x.2.1.P), .cells b.ob 0 122 (Tr.encO b.tb b.pi x.2.1.O), .cfam (hrA x.2.1) (fun z => (x.2.2.t z).b) 4 (cT b.tb x.2.2.t), .fam (hrA x.2.1) (rT 168 x.2.2.t)]) ((0, a, c)) ?_ (S5 rfl rfl rfl rfl rfl) (fun _ hw => XM.pick (.cons .here (.cons (.there .here) (.cons (.there .here) .h15))) hw) ?_
  · skip
    exact ⟨by simp, rfl, hw, hc⟩
  intro x hx
  obtain ⟨hi, hga, hgw, hcx⟩ := hx
  refine gC ?_
  refine cd rfl ?_ ?_ <;> intro h1
  · skip
    refine XR.openRow .here (by omega) ?_
    intro g1 h2
    subst h2
    refine sd (by omega) ?_
    refine ldR .here (ints_at (by omega)) ?_
    have hm9 := hw.members_ok z (Vm.at0_mem (l := (a.s.mem z).1) (i := x.1) (by omega))
    have hm := hm9.1
    have hms : (x.2.1.u (at0 (a.s.mem z).1 x.1)).st ≠ 0 := by rw [hga, KA.goE_ne a h (take_nin (SS.mem_nodup hw.sI z) (by omega))]; exact hm9.2
    refine cd rfl ?_ ?_ <;> intro h3
    · skip
      have hst : KA.stepE h x.2.1 (at0 (a.s.mem z).1 x.1) = x.2.1 := if_pos h3
      refine sd (by omega) ?_
      refine ag ((x.1 + 1, x.2.1, x.2.2)) ?_ ?_ (S5 rfl rfl rfl rfl rfl) (fun _ hw => XM.pick .h18 hw)
      · skip
        (show (_ - (x.1 + 1)).toNat < (_ - x.1).toNat; omega)
      · skip
        exact ⟨(by show 0 ≤ x.1 + 1 ∧ x.1 + 1 ≤ _; omega), (by rw [take_next (by omega), foldl_snoc, ← hga, hst]), hgw, hcx⟩
    · skip
      have hnh := h3
      refine sd (by omega) ?_
      refine ld (.there .here) (encKn.ld_st _ (by omega)) ?_
      refine cd rfl ?_ ?_ <;> intro h4
      · skip
        have hst : KA.stepE h x.2.1 (at0 (a.s.mem z).1 x.1) = (x.2.1.endA (at0 (a.s.mem z).1 x.1) 0).awayA (at0 (a.s.mem z).1 x.1) := by unfold KA.stepE; rw [if_neg hnh, if_pos (show (x.2.1.u (at0 (a.s.mem z).1 x.1)).st = 1 from h4)]
        refine ca (k_endA x.2.1 b x.2.2 N T hgw hcx hT (at0 (a.s.mem z).1 x.1) 0 (by assumption)) (.cons (.there .here) (.cons (.there .here) (.cons (.there .here) (.cons (.there .here) (.cons (.there .here) (.cons (.there .here) (.cons (.there .here) (.cons (.there .here) (.cons (.there .here) (.cons (.there .here) (.cons (.there .here) (.cons (.there .here) (.cons (.there .here) (.cons (.there .here) (.cons (.there .here) (.cons (.there .here) (.cons (.there .here) .nil))))))))))))))))) ?_
        rintro _ _ ⟨c1, hc1, rfl⟩
        refine gO ?_
        refine ca (k_awayA (x.2.1.endA (at0 (a.s.mem z).1 x.1) 0) b c1 N T (hgw.endA hm (by assumption) 0) hc1 hT (at0 (a.s.mem z).1 x.1) hm (by rw [endA_st]; decide)) .h17 ?_
        rintro _ _ rfl
        refine gO ?_
        refine sd (by omega) ?_
        refine ag ((x.1 + 1, (x.2.1.endA (at0 (a.s.mem z).1 x.1) 0).awayA (at0 (a.s.mem z).1 x.1), c1)) ?_ ?_ (S5 rfl rfl rfl rfl rfl) (fun _ hw => XM.pick (.cons (.t12 (.t5 .here)) .h17) hw)
        · skip
          (show (_ - (x.1 + 1)).toNat < (_ - x.1).toNat; omega)
        · skip
          exact ⟨(by show 0 ≤ x.1 + 1 ∧ x.1 + 1 ≤ _; omega), (by rw [take_next (by omega), foldl_snoc, ← hga, hst]), (hgw.endA hm (by assumption) 0).awayA hm (by rw [endA_st]; decide), hc1.awayC⟩
      · skip
        have hst : KA.stepE h x.2.1 (at0 (a.s.mem z).1 x.1) = x.2.1.awayA (at0 (a.s.mem z).1 x.1) := by unfold KA.stepE; rw [if_neg hnh, if_neg (show ¬ (x.2.1.u (at0 (a.s.mem z).1 x.1)).st = 1 from h4)]
        refine ca (k_awayA x.2.1 b x.2.2 N T hgw hcx hT (at0 (a.s.mem z).1 x.1) hm (by assumption)) (.cons (.there .here) (.cons (.there .here) (.cons (.there .here) (.cons (.there .here) (.cons (.there .here) (.cons (.there .here) (.cons (.there .here) (.cons (.there .here) (.cons (.there .here) (.cons (.there .here) (.cons (.there .here) (.cons (.there .here) (.cons (.there .here) (.cons (.there .here) (.cons (.there .here) (.cons (.there .here) (.cons (.there .here) .nil))))))))))))))))) ?_
        rintro _ _ rfl
        refine gO ?_
        refine sd (by omega) ?_
        refine ag ((x.1 + 1, x.2.1.awayA (at0 (a.s.mem z).1 x.1), x.2.2)) ?_ ?_ (S5 rfl rfl rfl rfl rfl) (fun _ hw => XM.pick (.cons (.t12 (.t5 .here)) .h17) hw)
        · skip
          (show (_ - (x.1 + 1)).toNat < (_ - x.1).toNat; omega)
        · skip
          exact ⟨(by show 0 ≤ x.1 + 1 ∧ x.1 + 1 ≤ _; omega), (by rw [take_next (by omega), foldl_snoc, ← hga, hst]), hgw.awayA hm (by assumption), hcx.awayC⟩
  · skip
    refine lp (σ := Int × KA × KC) (fun x => (4 - x.1).toNat) (fun x => (0 ≤ x.1 ∧ x.1 ≤ 4) ∧ x.2.1 = ((a.members z h).rounds x.1.toNat) ∧ x.2.1.Wk T ∧ Con x.2.1 x.2.2 N T) (fun x => [(45, .int .i64 x.1), (0, ptr b.kb 0 0)]) (fun x => XM W (foot [.cells b.kb 0 453 (encKn (kp a b c)), .cells b.gb 0 60 (Gr.encGt a.g), .cells b.sb 0 158 (Sp.encT a.s), .cells b.qb 0 2281 (Fa.encS c.q), .fam Fa.fam30 (Fa.SC.rows 254 c.q), .cells b.bb 0 577 (Vm.encK b.vp a.v.by_ a.v.rf), .cells b.vp 0 71 (Vm.encP a.v.bb.pool), .cfam (lvA a) c.mb 34 (cN b.bb a.f c.pp c.cc), .fam (lvA a) (rN 171 a.f c.pp c.cc), .cells b.tb 0 321 (Tr.encF c.F), .fam Tr.fam40 (Tr.FC.rowsN 9 c.F), .fam Tr.fam40 (Tr.FC.rowsK 3 c.F), irow c.rp c.rc 3 c.rl, .cells b.pi 0 24 (Tr.encP a.P), .cells b.ob 0 122 (Tr.encO b.tb b.pi a.O), .cfam (hrA a) (fun z => (c.t z).b) 4 (cT b.tb c.t), .fam (hrA a) (rT 168 c.t)]) [.cells b.kb 0 453 (encKn (kp x.2.1 b x.2.2)), .cells b.gb 0 60 (Gr.encGt x.2.1.g), .cells b.sb 0 158 (Sp.encT x.2.1.s), .cells b.qb 0 2281 (Fa.encS x.2.2.q), .fam Fa.fam30 (Fa.SC.rows 254 x.2.2.q), .cells b.bb 0 577 (Vm.encK b.vp x.2.1.v.by_ x.2.1.v.rf), .cells b.vp 0 71 (Vm.encP x.2.1.v.bb.pool), .cfam (lvA x.2.1) x.2.2.mb 34 (cN b.bb x.2.1.f x.2.2.pp x.2.2.cc), .fam (lvA x.2.1) (rN 171 x.2.1.f x.2.2.pp x.2.2.cc), .cells b.tb 0 321 (Tr.encF x.2.2.F), .fam Tr.fam40 (Tr.FC.rowsN 9 x.2.2.F), .fam Tr.fam40 (Tr.FC.rowsK 3 x.2.2.F), irow x.2.2.rp x.2.2.rc 3 x.2.2.rl, .cells b.pi 0 24 (Tr.encP x.2.1.P), .cells b.ob 0 122 (Tr.encO b.tb b.pi x.2.1.O), .cfam (hrA x.2.1) (fun z => (x.2.2.t z).b) 4 (cT b.tb x.2.2.t), .fam (hrA x.2.1) (rT 168 x.2.2.t)]) ((0, x.2.1, x.2.2)) ?_ (S2 rfl rfl) (fun _ hw => XM.pick (.cons (.there .here) (.cons (.there .here) (.cons (.there .here) (.cons (.there .here) (.cons (.there .here) (.cons (.there .here) (.cons (.there .here) (.cons (.there .here) (.cons (.there .here) (.cons (.there .here) (.cons (.there .here) (.cons (.there .here) (.cons (.there .here) (.cons (.there .here) (.cons (.there .here) (.cons (.there .here) (.cons (.there .here) .nil))))))))))))))))) hw) ?_
    · skip
      exact ⟨by simp, (by rw [hga, List.take_of_length_le (by omega)]; rfl), hgw, hcx⟩
    intro x hx
    obtain ⟨hi, hga, hgw, hcx⟩ := hx
    refine gC ?_
    refine cd rfl ?_ ?_ <;> intro h5
    · skip
      refine ld .here (encKn.ld_s _) ?_
      refine ca (Sp.t_All _ _ x.2.1.s) (.cons (.t2 .here) .nil) ?_
      rintro _ _ ⟨p1, cap1, rfl, rfl⟩
      have hlen2 := Sp.allL_length x.2.1.s.here 6
      refine gO ?_
      refine lp (σ := Int × KA × KC) (fun y => ((Sp.allL x.2.1.s.here 6).length - y.1).toNat) (fun y => (0 ≤ y.1 ∧ y.1 ≤ (Sp.allL x.2.1.s.here 6).length) ∧ y.2.1 = (((Sp.allL x.2.1.s.here 6).take y.1.toNat).foldl KA.shutA x.2.1) ∧ y.2.1.Wk T ∧ Con y.2.1 y.2.2 N T) (fun y => [(53, .int .i64 y.1), (0, ptr b.kb 0 0), (45, .int .i64 x.1), (51, .slice p1 (Sp.allL x.2.1.s.here 6).length cap1), (52, .int .i64 (Sp.allL x.2.1.s.here 6).length)]) (fun y => XM W (foot [.cells b.kb 0 453 (encKn (kp a b c)), .cells b.gb 0 60 (Gr.encGt a.g), .cells b.sb 0 158 (Sp.encT a.s), .cells b.qb 0 2281 (Fa.encS c.q), .fam Fa.fam30 (Fa.SC.rows 254 c.q), .cells b.bb 0 577 (Vm.encK b.vp a.v.by_ a.v.rf), .cells b.vp 0 71 (Vm.encP a.v.bb.pool), .cfam (lvA a) c.mb 34 (cN b.bb a.f c.pp c.cc), .fam (lvA a) (rN 171 a.f c.pp c.cc), .cells b.tb 0 321 (Tr.encF c.F), .fam Tr.fam40 (Tr.FC.rowsN 9 c.F), .fam Tr.fam40 (Tr.FC.rowsK 3 c.F), irow c.rp c.rc 3 c.rl, .cells b.pi 0 24 (Tr.encP a.P), .cells b.ob 0 122 (Tr.encO b.tb b.pi a.O), .cfam (hrA a) (fun z => (c.t z).b) 4 (cT b.tb c.t), .fam (hrA a) (rT 168 c.t)]) [irow p1 cap1 3 (Sp.allL x.2.1.s.here 6), .cells b.kb 0 453 (encKn (kp y.2.1 b y.2.2)), .cells b.gb 0 60 (Gr.encGt y.2.1.g), .cells b.sb 0 158 (Sp.encT y.2.1.s), .cells b.qb 0 2281 (Fa.encS y.2.2.q), .fam Fa.fam30 (Fa.SC.rows 254 y.2.2.q), .cells b.bb 0 577 (Vm.encK b.vp y.2.1.v.by_ y.2.1.v.rf), .cells b.vp 0 71 (Vm.encP y.2.1.v.bb.pool), .cfam (lvA y.2.1) y.2.2.mb 34 (cN b.bb y.2.1.f y.2.2.pp y.2.2.cc), .fam (lvA y.2.1) (rN 171 y.2.1.f y.2.2.pp y.2.2.cc), .cells b.tb 0 321 (Tr.encF y.2.2.F), .fam Tr.fam40 (Tr.FC.rowsN 9 y.2.2.F), .fam Tr.fam40 (Tr.FC.rowsK 3 y.2.2.F), irow y.2.2.rp y.2.2.rc 3 y.2.2.rl, .cells b.pi 0 24 (Tr.encP y.2.1.P), .cells b.ob 0 122 (Tr.encO b.tb b.pi y.2.1.O), .cfam (hrA y.2.1) (fun z => (y.2.2.t z).b) 4 (cT b.tb y.2.2.t), .fam (hrA y.2.1) (rT 168 y.2.2.t)]) ((0, x.2.1, x.2.2)) ?_ (S5 rfl rfl rfl rfl rfl) (fun _ hw => XM.pick (.cons .here (.cons (.there .here) (.cons (.there .here) .h15))) hw) ?_
      · skip
        exact ⟨by simp, rfl, hgw, hcx⟩
      intro y hy
      obtain ⟨hj, hgy0, hgy, hcy⟩ := hy
      refine gC ?_
      refine cd rfl ?_ ?_ <;> intro h6
      · skip
        refine XR.openRow .here (by omega) ?_
        intro g2 h7
        subst h7
        refine sd (by omega) ?_
        refine ldR .here (ints_at (by omega)) ?_
        refine ca (k_shutA y.2.1 b y.2.2 N T hgy hcy hT _) (.cons (.there .here) (.cons (.there .here) (.cons (.there .here) (.cons (.there .here) (.cons (.there .here) (.cons (.there .here) (.cons (.there .here) (.cons (.there .here) (.cons (.there .here) (.cons (.there .here) (.cons (.there .here) (.cons (.there .here) (.cons (.there .here) (.cons (.there .here) (.cons (.there .here) (.cons (.there .here) (.cons (.there .here) .nil))))))))))))))))) ?_
        rintro _ _ ⟨c1, hc1, rfl⟩
        refine gO ?_
        refine sd (by omega) ?_
        refine ag ((y.1 + 1, y.2.1.shutA (at0 (Sp.allL x.2.1.s.here 6) y.1), c1)) ?_ ?_ (S5 rfl rfl rfl rfl rfl) (fun _ hw => XM.pick (.cons (.t12 (.t5 .here)) .h17) hw)
        · skip
          (show (_ - (y.1 + 1)).toNat < (_ - y.1).toNat; omega)
        · skip
          exact ⟨(by show 0 ≤ y.1 + 1 ∧ y.1 + 1 ≤ _; omega), (by show y.2.1.shutA _ = _; rw [take_next (by omega), foldl_snoc, ← hgy0]), hgy.shutA _, hc1⟩
      · skip
        refine sd (by omega) ?_
        refine ag ((x.1 + 1, y.2.1, y.2.2)) ?_ ?_ (S2 rfl rfl) (fun _ hw => XM.pick (.cons (.there .here) (.cons (.there .here) (.cons (.there .here) (.cons (.there .here) (.cons (.there .here) (.cons (.there .here) (.cons (.there .here) (.cons (.there .here) (.cons (.there .here) (.cons (.there .here) (.cons (.there .here) (.cons (.there .here) (.cons (.there .here) (.cons (.there .here) (.cons (.there .here) (.cons (.there .here) (.cons (.there .here) .nil))))))))))))))))) hw)
        · skip
          (show (4 - (x.1 + 1)).toNat < (4 - x.1).toNat; omega)
        · skip
          exact ⟨(by show 0 ≤ x.1 + 1 ∧ x.1 + 1 ≤ 4; omega), (by show y.2.1 = _; rw [KA.rounds_next _ hi.1, ← hga, hgy0, List.take_of_length_le (by omega)]; rfl), hgy, hcy⟩
    · skip
      refine XE.end0 rfl (post_of .h17 rfl ?_)
      try dsimp only [SW.den, SV.den, dens, ofC]
      have hx4 : x.1 = 4 := by omega
      have hge : a.emptyA z h = x.2.1 := by rw [hga, hx4]; rfl
      rw [hge]
      exact ⟨x.2.2, hcx, rfl⟩
end Go.X.Kn

namespace Go.X.Kn
open Go Go.Proofs Go.X
set_option maxRecDepth 20000
set_option maxHeartbeats 4000000

theorem k_settleA (kb : Nat) (k : KP) (s : Sp.SS) (n : Int) (hn : 0 ≤ n ∧ n < 20) (hz : (k.u n).bx.wait 0 = false) (o : Bool) (he : (k.u n).bx.first 0 = 0) : Spec Tryz.prog 74 [ptr kb 0 0, .int .i64 n, .bool o]
 [.cells kb 0 453 (encKn k), .cells k.sb 0 158 (Sp.encT s), .ro 0 0 32 Sg.tab32]
 (fun v H1 => H1 = [.cells kb 0 453 (encKn k), .cells k.sb 0 158 (Sp.encT s)]) := by
  refine Spec.go 36 [0, 1, 2, 6, 7, 30] [] Tryz.func74 rfl rfl rfl ?_
  intro W
  refine XR.mono (fun _ hw3 => XM.openB (n := n) (by omega) .h1 hw3) ?_
  refine sd (by omega) ?_
  refine caR 1 (Sg.s_Ends kb (0 + offB n) _ hz) (.cons .here (.cons (.t3 .here) .nil)) rfl ?_
  rintro _ _ ⟨rfl, rfl⟩
  refine gO ?_
  refine XR.mono (fun _ hw3 => XM.sameB (n := n) (by omega) (.cons .here (.cons (.there .here) (.cons (.there .here) .nil))) hw3) ?_
  refine spF 19 rfl (by omega) ?_
  refine XE.end0 rfl (post_of (.cons .here (.cons (.there .here) .nil)) rfl ?_)
  try dsimp only [SW.den, SV.den, dens, ofC]
  all_goals rfl
theorem k_settleB (kb : Nat) (k : KP) (s : Sp.SS) (n : Int) (hn : 0 ≤ n ∧ n < 20) (hz : (k.u n).bx.wait 0 = false) (he : ¬ (k.u n).bx.first 0 = 0) (hh : (s.find (s.in_ n).1 1).1 = n) : Spec Tryz.prog 74 [ptr kb 0 0, .int .i64 n, .bool false]
 [.cells kb 0 453 (encKn k), .cells k.sb 0 158 (Sp.encT s), .ro 0 0 32 Sg.tab32]
 (fun v H1 => H1 = [.cells kb 0 453 (encKn k), .cells k.sb 0 158 (Sp.encT s)]) := by
  refine Spec.go 36 [0, 1, 2, 6, 7, 30] [] Tryz.func74 rfl rfl rfl ?_
  intro W
  refine XR.mono (fun _ hw3 => XM.openB (n := n) (by omega) .h1 hw3) ?_
  refine sd (by omega) ?_
  refine caR 1 (Sg.s_Ends kb (0 + offB n) _ hz) (.cons .here (.cons (.t3 .here) .nil)) rfl ?_
  rintro _ _ ⟨rfl, rfl⟩
  refine gO ?_
  refine XR.mono (fun _ hw3 => XM.sameB (n := n) (by omega) (.cons .here (.cons (.there .here) (.cons (.there .here) .nil))) hw3) ?_
  refine spT 19 rfl (by omega) ?_
  refine ca (k_space kb k s n) (.cons .here (.cons (.there .here) .nil)) ?_
  rintro _ _ ⟨rfl, rfl⟩
  refine gO ?_
  refine ca (k_head kb k s _) .h2 ?_
  rintro _ _ ⟨rfl, rfl⟩
  refine gO ?_
  refine cdF rfl (by omega) ?_
  refine XE.end0 rfl (post_of .h2 rfl ?_)
  try dsimp only [SW.den, SV.den, dens, ofC]
  all_goals rfl
theorem k_settle0 (kb : Nat) (k : KP) (s : Sp.SS) (n : Int) (hn : 0 ≤ n ∧ n < 20) (hz : (k.u n).bx.wait 0 = false) (o : Bool) (hq : (k.u n).bx.first 0 = 0 ∨ (o = false ∧ (s.find (s.in_ n).1 1).1 = n)) : Spec Tryz.prog 74 [ptr kb 0 0, .int .i64 n, .bool o] [.cells kb 0 453 (encKn k), .cells k.sb 0 158 (Sp.encT s), .ro 0 0 32 Sg.tab32] (fun v H1 => H1 = [.cells kb 0 453 (encKn k), .cells k.sb 0 158 (Sp.encT s)]) := by
  by_cases he : (k.u n).bx.first 0 = 0
  · exact k_settleA kb k s n hn hz o he
  · obtain ⟨ho, hh⟩ := hq.resolve_left he
    subst ho
    exact k_settleB kb k s n hn hz he hh
theorem k_sendN (kb : Nat) (k : KP) (s : Sp.SS) (n sig : Int) (o : Bool) (hz : k.live n = 0 → (k.u n).bx.wait 0 = false) (hq : k.live n = 0 → (((k.u n).bx.send sig).2.first 0 = 0 ∨ (o = false ∧ (s.find (s.in_ n).1 1).1 = n))) : Spec Tryz.prog 71 [ptr kb 0 0, .int .i64 n, .int .i64 sig, .bool o]
 [.cells kb 0 453 (encKn k), .cells k.sb 0 158 (Sp.encT s), .ro 0 0 32 Sg.tab32]
 (fun v H1 => H1 = [.cells kb 0 453 (encKn (if k.live n = 0 then k.box n ((k.u n).bx.send sig).2 else k)), .cells k.sb 0 158 (Sp.encT s)]) := by
  refine Spec.go 27 [0, 1, 2, 3, 8, 9, 17] [] Tryz.func71 rfl rfl rfl ?_
  intro W
  refine ca (k_live kb _ _) .h1 ?_
  rintro _ _ ⟨⟨hl, rfl⟩ | ⟨hl, rfl⟩, rfl⟩
  · skip
    try dsimp only [errvL0, errvL1, errvL2, errvL3, errvL4, errvL5, errvL6, errvL7, errvL8, errvL9, errvL10, errvL11, errvL12, errvL13]
    obtain ⟨hlr, hls⟩ := KP.live_rng hl
    refine gO ?_
    refine XR.mono (fun _ hw3 => XM.openB (n := n) (by omega) .h1 hw3) ?_
    refine ca (Sg.s_Send kb (0 + offB n) _ sig) .h1 ?_
    rintro _ _ ⟨rfl, rfl⟩
    refine gO ?_
    refine XR.mono (fun _ hw3 => XM.closeB (n := n) (by omega) .h3 hw3) ?_
    refine caR 2 (k_settle0 kb (k.box n ((k.u n).bx.send sig).2) s n hlr (by unfold KP.box; rw [KP.put_u]; exact send_wait0 _ _ (hz hl)) o (by unfold KP.box; rw [KP.put_u]; exact hq hl)) .h3 rfl ?_
    rintro _ _ rfl
    refine gO ?_
    refine XE.end0 rfl (post_of .h2 rfl ?_)
    try dsimp only [SW.den, SV.den, dens, ofC]
    rw [if_pos hl]
    all_goals rfl
  · skip
    try dsimp only [errvL0, errvL1, errvL2, errvL3, errvL4, errvL5, errvL6, errvL7, errvL8, errvL9, errvL10, errvL11, errvL12, errvL13]
    refine gO ?_
    refine XE.ret0 rfl (post_of .h2 rfl ?_)
    try dsimp only [SW.den, SV.den, dens, ofC]
    rw [if_neg hl]
    all_goals rfl
end Go.X.Kn

namespace Go.X.Kn
open Go Go.Proofs Go.X
set_option maxRecDepth 20000
set_option maxHeartbeats 4000000

attribute [local irreducible] KA.emptyA
theorem ent_kid (a : KA) (b : KZ) (c : KC) (p : Int) : ([.cells b.kb 0 453 (encKn (kp (a.kidA p) b c)), .cells b.gb 0 60 (Gr.encGt (a.kidA p).g), .cells b.sb 0 158 (Sp.encT (a.kidA p).s), .cells b.qb 0 2281 (Fa.encS c.q), .fam Fa.fam30 (Fa.SC.rows 254 c.q), .cells b.bb 0 577 (Vm.encK b.vp (a.kidA p).v.by_ (a.kidA p).v.rf), .cells b.vp 0 71 (Vm.encP (a.kidA p).v.bb.pool), .cfam (lvA (a.kidA p)) c.mb 34 (cN b.bb (a.kidA p).f c.pp c.cc), .fam (lvA (a.kidA p)) (rN 171 (a.kidA p).f c.pp c.cc), .cells b.tb 0 321 (Tr.encF c.F), .fam Tr.fam40 (Tr.FC.rowsN 9 c.F), .fam Tr.fam40 (Tr.FC.rowsK 3 c.F), irow c.rp c.rc 3 c.rl, .cells b.pi 0 24 (Tr.encP (a.kidA p).P), .cells b.ob 0 122 (Tr.encO b.tb b.pi (a.kidA p).O), .cfam (hrA (a.kidA p)) (fun z => (c.t z).b) 4 (cT b.tb c.t), .fam (hrA (a.kidA p)) (rT 168 c.t)] : List Ent) = [.cells b.kb 0 453 (encKn (if (kp a b c).live p = 0 then (kp a b c).box p (((kp a b c).u p).bx.send 3).2 else kp a b c)), .cells b.gb 0 60 (Gr.encGt a.g), .cells b.sb 0 158 (Sp.encT a.s), .cells b.qb 0 2281 (Fa.encS c.q), .fam Fa.fam30 (Fa.SC.rows 254 c.q), .cells b.bb 0 577 (Vm.encK b.vp a.v.by_ a.v.rf), .cells b.vp 0 71 (Vm.encP a.v.bb.pool), .cfam (lvA a) c.mb 34 (cN b.bb a.f c.pp c.cc), .fam (lvA a) (rN 171 a.f c.pp c.cc), .cells b.tb 0 321 (Tr.encF c.F), .fam Tr.fam40 (Tr.FC.rowsN 9 c.F), .fam Tr.fam40 (Tr.FC.rowsK 3 c.F), irow c.rp c.rc 3 c.rl, .cells b.pi 0 24 (Tr.encP a.P), .cells b.ob 0 122 (Tr.encO b.tb b.pi a.O), .cfam (hrA a) (fun z => (c.t z).b) 4 (cT b.tb c.t), .fam (hrA a) (rT 168 c.t)] := by
  have e : kp (a.kidA p) b c = (if (kp a b c).live p = 0 then (kp a b c).box p (((kp a b c).u p).bx.send 3).2 else kp a b c) := (kp_kid a b c p).symm
  rw [e, lvA_kid]
  by_cases h : a.live p = 0
  · have h2 : a.kidA p = a.boxA p ((a.u p).bx.send 3).2 := if_pos h
    rw [h2]; rfl
  · have h2 : a.kidA p = a := if_neg h
    rw [h2]
set_option maxHeartbeats 16000000 in
theorem k_exit0 (a : KA) (b : KZ) (c : KC) (N : Nat) (T : Int) (hw : a.Wk T) (hc : Con a c N T) (hT : T ≤ 900000) (n co : Int) (hl : (a.u n).st = 1) (hx : a.Hx n) (hh : a.head n ≠ n) : Spec Tryz.prog 63 [ptr b.kb 0 0, .int .i64 n, .int .i64 co]
 [.cells b.kb 0 453 (encKn (kp a b c)), .cells b.gb 0 60 (Gr.encGt a.g), .cells b.sb 0 158 (Sp.encT a.s), .cells b.qb 0 2281 (Fa.encS c.q), .fam Fa.fam30 (Fa.SC.rows 254 c.q), .cells b.bb 0 577 (Vm.encK b.vp a.v.by_ a.v.rf), .cells b.vp 0 71 (Vm.encP a.v.bb.pool), .cfam (lvA a) c.mb 34 (cN b.bb a.f c.pp c.cc), .fam (lvA a) (rN 171 a.f c.pp c.cc), .cells b.tb 0 321 (Tr.encF c.F), .fam Tr.fam40 (Tr.FC.rowsN 9 c.F), .fam Tr.fam40 (Tr.FC.rowsK 3 c.F), irow c.rp c.rc 3 c.rl, .cells b.pi 0 24 (Tr.encP a.P), .cells b.ob 0 122 (Tr.encO b.tb b.pi a.O), .cfam (hrA a) (fun z => (c.t z).b) 4 (cT b.tb c.t), .fam (hrA a) (rT 168 c.t), .ro 0 0 32 Sg.tab32]
 (fun v H1 => ∃ c2 : KC, Con (a.exitA n co) c2 N T ∧ H1 = [.cells b.kb 0 453 (encKn (kp (a.exitA n co) b c2)), .cells b.gb 0 60 (Gr.encGt (a.exitA n co).g), .cells b.sb 0 158 (Sp.encT (a.exitA n co).s), .cells b.qb 0 2281 (Fa.encS c2.q), .fam Fa.fam30 (Fa.SC.rows 254 c2.q), .cells b.bb 0 577 (Vm.encK b.vp (a.exitA n co).v.by_ (a.exitA n co).v.rf), .cells b.vp 0 71 (Vm.encP (a.exitA n co).v.bb.pool), .cfam (lvA (a.exitA n co)) c2.mb 34 (cN b.bb (a.exitA n co).f c2.pp c2.cc), .fam (lvA (a.exitA n co)) (rN 171 (a.exitA n co).f c2.pp c2.cc), .cells b.tb 0 321 (Tr.encF c2.F), .fam Tr.fam40 (Tr.FC.rowsN 9 c2.F), .fam Tr.fam40 (Tr.FC.rowsK 3 c2.F), irow c2.rp c2.rc 3 c2.rl, .cells b.pi 0 24 (Tr.encP (a.exitA n co).P), .cells b.ob 0 122 (Tr.encO b.tb b.pi (a.exitA n co).O), .cfam (hrA (a.exitA n co)) (fun z => (c2.t z).b) 4 (cT b.tb c2.t), .fam (hrA (a.exitA n co)) (rT 168 c2.t)]) := by
  have hn : 0 ≤ n ∧ n < 20 := by
    by_cases e : n < 0 ∨ 20 ≤ n
    · rw [hw.out n e] at hl; exact absurd hl (by decide)
    · omega
  have hw1 := hw.endA hn hl co
  have he1 : a.exit1 n co = (a.endA n co) := by unfold KA.exit1; rw [if_neg hh]
  have hw3 : ((a.endA n co).adoptA n (a.head n)).Wk T := by rw [← he1]; exact (hw.exit1 hn hl co).adoptA _ _
  have hx3 : ((a.endA n co).adoptA n (a.head n)).Hx n := by rw [← he1]; exact (hx.exit1 co).adoptA _ _
  have hst3 : (((a.endA n co).adoptA n (a.head n)).u n).st ≠ 1 := by rw [← he1, (adoptA_keep _ _ _ _).1]; exact exit1_st a n co
  refine Spec.go 65 [0, 1, 2, 6, 7, 8, 21, 26, 27, 47] [] Tryz.func63 rfl rfl rfl ?_
  intro W
  refine ca (k_space b.kb (kp a b c) a.s n) (.cons .here (.cons (.there .here) .nil)) ?_
  rintro _ _ ⟨rfl, rfl⟩
  refine gO ?_
  refine ca (k_head b.kb (kp a b c) a.s _) .h2 ?_
  rintro _ _ ⟨rfl, rfl⟩
  refine gO ?_
  refine ca (k_endA a b c N T hw hc hT n co hl) (.cons .here (.cons (.there .here) .h15)) ?_
  rintro _ _ ⟨c2, hc2, rfl⟩
  refine gO ?_
  refine cdF rfl (hh) ?_
  refine lp (σ := Int) (fun i => (20 - i).toNat) (fun i => 0 ≤ i ∧ i ≤ 20) (fun i => [(26, .int .i64 i), (0, ptr b.kb 0 0), (1, .int .i64 n), (7, .int .i64 (a.head n))]) (fun i => XM W (foot [.cells b.kb 0 453 (encKn (kp a b c)), .cells b.gb 0 60 (Gr.encGt a.g), .cells b.sb 0 158 (Sp.encT a.s), .cells b.qb 0 2281 (Fa.encS c.q), .fam Fa.fam30 (Fa.SC.rows 254 c.q), .cells b.bb 0 577 (Vm.encK b.vp a.v.by_ a.v.rf), .cells b.vp 0 71 (Vm.encP a.v.bb.pool), .cfam (lvA a) c.mb 34 (cN b.bb a.f c.pp c.cc), .fam (lvA a) (rN 171 a.f c.pp c.cc), .cells b.tb 0 321 (Tr.encF c.F), .fam Tr.fam40 (Tr.FC.rowsN 9 c.F), .fam Tr.fam40 (Tr.FC.rowsK 3 c.F), irow c.rp c.rc 3 c.rl, .cells b.pi 0 24 (Tr.encP a.P), .cells b.ob 0 122 (Tr.encO b.tb b.pi a.O), .cfam (hrA a) (fun z => (c.t z).b) 4 (cT b.tb c.t), .fam (hrA a) (rT 168 c.t), .ro 0 0 32 Sg.tab32]) [.cells b.kb 0 453 (encKn ((kp (a.endA n co) b c2).adopt n (a.head n) i)), .cells b.gb 0 60 (Gr.encGt (a.endA n co).g), .cells b.sb 0 158 (Sp.encT (a.endA n co).s), .cells b.qb 0 2281 (Fa.encS c2.q), .fam Fa.fam30 (Fa.SC.rows 254 c2.q), .cells b.bb 0 577 (Vm.encK b.vp (a.endA n co).v.by_ (a.endA n co).v.rf), .cells b.vp 0 71 (Vm.encP (a.endA n co).v.bb.pool), .cfam (lvA (a.endA n co)) c2.mb 34 (cN b.bb (a.endA n co).f c2.pp c2.cc), .fam (lvA (a.endA n co)) (rN 171 (a.endA n co).f c2.pp c2.cc), .cells b.tb 0 321 (Tr.encF c2.F), .fam Tr.fam40 (Tr.FC.rowsN 9 c2.F), .fam Tr.fam40 (Tr.FC.rowsK 3 c2.F), irow c2.rp c2.rc 3 c2.rl, .cells b.pi 0 24 (Tr.encP (a.endA n co).P), .cells b.ob 0 122 (Tr.encO b.tb b.pi (a.endA n co).O), .cfam (hrA (a.endA n co)) (fun z => (c2.t z).b) 4 (cT b.tb c2.t), .fam (hrA (a.endA n co)) (rT 168 c2.t), .ro 0 0 32 Sg.tab32]) (0) ?_ (S4 rfl rfl rfl rfl) (fun _ hw2 => by rw [KP.adopt_zero]; exact XM.pick .h18 hw2) ?_
  · skip
    omega
  intro i hi
  refine gC ?_
  refine cd rfl ?_ ?_ <;> intro h1
  · skip
    refine sd (by omega) ?_
    refine ld .here (encKn.ld_st _ (by omega)) ?_
    refine sp 37 rfl ?_ ?_ <;> intro h2
    · skip
      rw [KP.adopt_at _ _ _ (Int.le_refl _)] at h2
      have h81 := h2
      refine sd (by omega) ?_
      refine ld .here (encKn.ld_par _ (by omega)) ?_
      refine cd rfl ?_ ?_ <;> intro h3
      · skip
        rw [KP.adopt_at _ _ _ (Int.le_refl _)] at h3
        have h82 := h3
        refine sd (by omega) ?_
        refine st .here (encKn.st_par _ (by omega) _) rfl ?_
        refine sd (by omega) ?_
        refine ag (i + 1) ?_ ?_ (S4 rfl rfl rfl rfl) (fun _ hw2 => by rw [← KP.adopt_hit _ _ _ hi.1 h81 h82]; exact XM.pick .h18 hw2)
        · skip
          (first | omega | (simp; done) | (simp; omega))
        · skip
          (first | omega | (simp; done) | (simp; omega))
      · skip
        rw [KP.adopt_at _ _ _ (Int.le_refl _)] at h3
        have h82 := h3
        refine sd (by omega) ?_
        refine ag (i + 1) ?_ ?_ (S4 rfl rfl rfl rfl) (fun _ hw2 => by rw [KP.adopt_miss _ _ _ (fun c => h82 c.2)]; exact XM.pick .h18 hw2)
        · skip
          (first | omega | (simp; done) | (simp; omega))
        · skip
          (first | omega | (simp; done) | (simp; omega))
    · skip
      rw [KP.adopt_at _ _ _ (Int.le_refl _)] at h2
      have h81 := h2
      refine sd (by omega) ?_
      refine ag (i + 1) ?_ ?_ (S4 rfl rfl rfl rfl) (fun _ hw2 => by rw [KP.adopt_miss _ _ _ (fun c => h81 c.1)]; exact XM.pick .h18 hw2)
      · skip
        (first | omega | (simp; done) | (simp; omega))
      · skip
        (first | omega | (simp; done) | (simp; omega))
  · skip
    have hi20 : i = 20 := by omega
    subst hi20
    rw [kp_adopt]
    refine sd (by omega) ?_
    refine ld .here (encKn.ld_par _ (by omega)) ?_
    refine caR 2 (k_sendN b.kb (kp ((a.endA n co).adoptA n (a.head n)) b c2) (a.endA n co).s ((((a.endA n co).adoptA n (a.head n)).u n).par) 3 false (fun q => hw3.bx _) (fun q => KA.kid_ok hw3 hx3 hst3 q)) (.cons .here (.cons (.there .here) (.cons (.t12 (.t3 .here)) .nil))) rfl ?_
    rintro _ _ rfl
    refine gO ?_
    refine XE.end0 rfl (post_of (.cons .here (.cons (.t2 .here) (.cons .here (.cons (.there .here) (.cons (.there .here) (.cons (.there .here) (.cons (.there .here) (.cons (.there .here) (.cons (.there .here) (.cons (.there .here) (.cons (.there .here) (.cons (.there .here) (.cons (.there .here) (.cons (.there .here) (.cons (.there .here) (.cons (.there .here) (.cons (.there .here) .nil))))))))))))))))) rfl ?_)
    try dsimp only [SW.den, SV.den, dens, ofC]
    have hA : a.exitA n co = ((a.endA n co).adoptA n (a.head n)).kidA (((a.endA n co).adoptA n (a.head n)).u n).par := by unfold KA.exitA; rw [he1]
    rw [hA]
    refine ⟨c2, hc2.kid _ _ _, ?_⟩
    rw [ent_kid, lvA_adopt, hrA_adopt]
    rfl
set_option maxHeartbeats 16000000 in
theorem k_exit1 (a : KA) (b : KZ) (c : KC) (N : Nat) (T : Int) (hw : a.Wk T) (hc : Con a c N T) (hT : T ≤ 900000) (n co : Int) (hl : (a.u n).st = 1) (hx : a.Hx n) (hh : a.head n = n) : Spec Tryz.prog 63 [ptr b.kb 0 0, .int .i64 n, .int .i64 co]
 [.cells b.kb 0 453 (encKn (kp a b c)), .cells b.gb 0 60 (Gr.encGt a.g), .cells b.sb 0 158 (Sp.encT a.s), .cells b.qb 0 2281 (Fa.encS c.q), .fam Fa.fam30 (Fa.SC.rows 254 c.q), .cells b.bb 0 577 (Vm.encK b.vp a.v.by_ a.v.rf), .cells b.vp 0 71 (Vm.encP a.v.bb.pool), .cfam (lvA a) c.mb 34 (cN b.bb a.f c.pp c.cc), .fam (lvA a) (rN 171 a.f c.pp c.cc), .cells b.tb 0 321 (Tr.encF c.F), .fam Tr.fam40 (Tr.FC.rowsN 9 c.F), .fam Tr.fam40 (Tr.FC.rowsK 3 c.F), irow c.rp c.rc 3 c.rl, .cells b.pi 0 24 (Tr.encP a.P), .cells b.ob 0 122 (Tr.encO b.tb b.pi a.O), .cfam (hrA a) (fun z => (c.t z).b) 4 (cT b.tb c.t), .fam (hrA a) (rT 168 c.t), .ro 0 0 32 Sg.tab32]
 (fun v H1 => ∃ c2 : KC, Con (a.exitA n co) c2 N T ∧ H1 = [.cells b.kb 0 453 (encKn (kp (a.exitA n co) b c2)), .cells b.gb 0 60 (Gr.encGt (a.exitA n co).g), .cells b.sb 0 158 (Sp.encT (a.exitA n co).s), .cells b.qb 0 2281 (Fa.encS c2.q), .fam Fa.fam30 (Fa.SC.rows 254 c2.q), .cells b.bb 0 577 (Vm.encK b.vp (a.exitA n co).v.by_ (a.exitA n co).v.rf), .cells b.vp 0 71 (Vm.encP (a.exitA n co).v.bb.pool), .cfam (lvA (a.exitA n co)) c2.mb 34 (cN b.bb (a.exitA n co).f c2.pp c2.cc), .fam (lvA (a.exitA n co)) (rN 171 (a.exitA n co).f c2.pp c2.cc), .cells b.tb 0 321 (Tr.encF c2.F), .fam Tr.fam40 (Tr.FC.rowsN 9 c2.F), .fam Tr.fam40 (Tr.FC.rowsK 3 c2.F), irow c2.rp c2.rc 3 c2.rl, .cells b.pi 0 24 (Tr.encP (a.exitA n co).P), .cells b.ob 0 122 (Tr.encO b.tb b.pi (a.exitA n co).O), .cfam (hrA (a.exitA n co)) (fun z => (c2.t z).b) 4 (cT b.tb c2.t), .fam (hrA (a.exitA n co)) (rT 168 c2.t)]) := by
  have hn : 0 ≤ n ∧ n < 20 := by
    by_cases e : n < 0 ∨ 20 ≤ n
    · rw [hw.out n e] at hl; exact absurd hl (by decide)
    · omega
  have hw1 := hw.endA hn hl co
  have he1 : a.exit1 n co = ((a.endA n co).emptyA (a.s.in_ n).1 n) := by unfold KA.exit1; rw [if_pos hh]
  have hw3 : (((a.endA n co).emptyA (a.s.in_ n).1 n).adoptA n (a.head n)).Wk T := by rw [← he1]; exact (hw.exit1 hn hl co).adoptA _ _
  have hx3 : (((a.endA n co).emptyA (a.s.in_ n).1 n).adoptA n (a.head n)).Hx n := by rw [← he1]; exact (hx.exit1 co).adoptA _ _
  have hst3 : ((((a.endA n co).emptyA (a.s.in_ n).1 n).adoptA n (a.head n)).u n).st ≠ 1 := by rw [← he1, (adoptA_keep _ _ _ _).1]; exact exit1_st a n co
  refine Spec.go 65 [0, 1, 2, 6, 7, 8, 21, 26, 27, 47] [] Tryz.func63 rfl rfl rfl ?_
  intro W
  refine ca (k_space b.kb (kp a b c) a.s n) (.cons .here (.cons (.there .here) .nil)) ?_
  rintro _ _ ⟨rfl, rfl⟩
  refine gO ?_
  refine ca (k_head b.kb (kp a b c) a.s _) .h2 ?_
  rintro _ _ ⟨rfl, rfl⟩
  refine gO ?_
  refine ca (k_endA a b c N T hw hc hT n co hl) (.cons .here (.cons (.there .here) .h15)) ?_
  rintro _ _ ⟨c1, hc1, rfl⟩
  refine gO ?_
  refine cdT rfl (hh) ?_
  refine ca (k_emptyA (a.endA n co) b c1 N T hw1 hc1 hT _ n) .h17 ?_
  rintro _ _ ⟨c2, hc2, rfl⟩
  refine gO ?_
  refine lp (σ := Int) (fun i => (20 - i).toNat) (fun i => 0 ≤ i ∧ i ≤ 20) (fun i => [(26, .int .i64 i), (0, ptr b.kb 0 0), (1, .int .i64 n), (7, .int .i64 (a.head n))]) (fun i => XM W (foot [.cells b.kb 0 453 (encKn (kp a b c)), .cells b.gb 0 60 (Gr.encGt a.g), .cells b.sb 0 158 (Sp.encT a.s), .cells b.qb 0 2281 (Fa.encS c.q), .fam Fa.fam30 (Fa.SC.rows 254 c.q), .cells b.bb 0 577 (Vm.encK b.vp a.v.by_ a.v.rf), .cells b.vp 0 71 (Vm.encP a.v.bb.pool), .cfam (lvA a) c.mb 34 (cN b.bb a.f c.pp c.cc), .fam (lvA a) (rN 171 a.f c.pp c.cc), .cells b.tb 0 321 (Tr.encF c.F), .fam Tr.fam40 (Tr.FC.rowsN 9 c.F), .fam Tr.fam40 (Tr.FC.rowsK 3 c.F), irow c.rp c.rc 3 c.rl, .cells b.pi 0 24 (Tr.encP a.P), .cells b.ob 0 122 (Tr.encO b.tb b.pi a.O), .cfam (hrA a) (fun z => (c.t z).b) 4 (cT b.tb c.t), .fam (hrA a) (rT 168 c.t), .ro 0 0 32 Sg.tab32]) [.cells b.kb 0 453 (encKn ((kp ((a.endA n co).emptyA (a.s.in_ n).1 n) b c2).adopt n (a.head n) i)), .cells b.gb 0 60 (Gr.encGt ((a.endA n co).emptyA (a.s.in_ n).1 n).g), .cells b.sb 0 158 (Sp.encT ((a.endA n co).emptyA (a.s.in_ n).1 n).s), .cells b.qb 0 2281 (Fa.encS c2.q), .fam Fa.fam30 (Fa.SC.rows 254 c2.q), .cells b.bb 0 577 (Vm.encK b.vp ((a.endA n co).emptyA (a.s.in_ n).1 n).v.by_ ((a.endA n co).emptyA (a.s.in_ n).1 n).v.rf), .cells b.vp 0 71 (Vm.encP ((a.endA n co).emptyA (a.s.in_ n).1 n).v.bb.pool), .cfam (lvA ((a.endA n co).emptyA (a.s.in_ n).1 n)) c2.mb 34 (cN b.bb ((a.endA n co).emptyA (a.s.in_ n).1 n).f c2.pp c2.cc), .fam (lvA ((a.endA n co).emptyA (a.s.in_ n).1 n)) (rN 171 ((a.endA n co).emptyA (a.s.in_ n).1 n).f c2.pp c2.cc), .cells b.tb 0 321 (Tr.encF c2.F), .fam Tr.fam40 (Tr.FC.rowsN 9 c2.F), .fam Tr.fam40 (Tr.FC.rowsK 3 c2.F), irow c2.rp c2.rc 3 c2.rl, .cells b.pi 0 24 (Tr.encP ((a.endA n co).emptyA (a.s.in_ n).1 n).P), .cells b.ob 0 122 (Tr.encO b.tb b.pi ((a.endA n co).emptyA (a.s.in_ n).1 n).O), .cfam (hrA ((a.endA n co).emptyA (a.s.in_ n).1 n)) (fun z => (c2.t z).b) 4 (cT b.tb c2.t), .fam (hrA ((a.endA n co).emptyA (a.s.in_ n).1 n)) (rT 168 c2.t), .ro 0 0 32 Sg.tab32]) (0) ?_ (S4 rfl rfl rfl rfl) (fun _ hw2 => by rw [KP.adopt_zero]; exact XM.pick .h18 hw2) ?_
  · skip
    omega
  intro i hi
  refine gC ?_
  refine cd rfl ?_ ?_ <;> intro h1
  · skip
    refine sd (by omega) ?_
    refine ld .here (encKn.ld_st _ (by omega)) ?_
    refine sp 37 rfl ?_ ?_ <;> intro h2
    · skip
      rw [KP.adopt_at _ _ _ (Int.le_refl _)] at h2
      have h81 := h2
      refine sd (by omega) ?_
      refine ld .here (encKn.ld_par _ (by omega)) ?_
      refine cd rfl ?_ ?_ <;> intro h3
      · skip
        rw [KP.adopt_at _ _ _ (Int.le_refl _)] at h3
        have h82 := h3
        refine sd (by omega) ?_
        refine st .here (encKn.st_par _ (by omega) _) rfl ?_
        refine sd (by omega) ?_
        refine ag (i + 1) ?_ ?_ (S4 rfl rfl rfl rfl) (fun _ hw2 => by rw [← KP.adopt_hit _ _ _ hi.1 h81 h82]; exact XM.pick .h18 hw2)
        · skip
          (first | omega | (simp; done) | (simp; omega))
        · skip
          (first | omega | (simp; done) | (simp; omega))
      · skip
        rw [KP.adopt_at _ _ _ (Int.le_refl _)] at h3
        have h82 := h3
        refine sd (by omega) ?_
        refine ag (i + 1) ?_ ?_ (S4 rfl rfl rfl rfl) (fun _ hw2 => by rw [KP.adopt_miss _ _ _ (fun c => h82 c.2)]; exact XM.pick .h18 hw2)
        · skip
          (first | omega | (simp; done) | (simp; omega))
        · skip
          (first | omega | (simp; done) | (simp; omega))
    · skip
      rw [KP.adopt_at _ _ _ (Int.le_refl _)] at h2
      have h81 := h2
      refine sd (by omega) ?_
      refine ag (i + 1) ?_ ?_ (S4 rfl rfl rfl rfl) (fun _ hw2 => by rw [KP.adopt_miss _ _ _ (fun c => h81 c.1)]; exact XM.pick .h18 hw2)
      · skip
        (first | omega | (simp; done) | (simp; omega))
      · skip
        (first | omega | (simp; done) | (simp; omega))
  · skip
    have hi20 : i = 20 := by omega
    subst hi20
    rw [kp_adopt]
    refine sd (by omega) ?_
    refine ld .here (encKn.ld_par _ (by omega)) ?_
    refine caR 2 (k_sendN b.kb (kp (((a.endA n co).emptyA (a.s.in_ n).1 n).adoptA n (a.head n)) b c2) ((a.endA n co).emptyA (a.s.in_ n).1 n).s (((((a.endA n co).emptyA (a.s.in_ n).1 n).adoptA n (a.head n)).u n).par) 3 false (fun q => hw3.bx _) (fun q => KA.kid_ok hw3 hx3 hst3 q)) (.cons .here (.cons (.there .here) (.cons (.t12 (.t3 .here)) .nil))) rfl ?_
    rintro _ _ rfl
    refine gO ?_
    refine XE.end0 rfl (post_of (.cons .here (.cons (.t2 .here) (.cons .here (.cons (.there .here) (.cons (.there .here) (.cons (.there .here) (.cons (.there .here) (.cons (.there .here) (.cons (.there .here) (.cons (.there .here) (.cons (.there .here) (.cons (.there .here) (.cons (.there .here) (.cons (.there .here) (.cons (.there .here) (.cons (.there .here) (.cons (.there .here) .nil))))))))))))))))) rfl ?_)
    try dsimp only [SW.den, SV.den, dens, ofC]
    have hA : a.exitA n co = (((a.endA n co).emptyA (a.s.in_ n).1 n).adoptA n (a.head n)).kidA ((((a.endA n co).emptyA (a.s.in_ n).1 n).adoptA n (a.head n)).u n).par := by unfold KA.exitA; rw [he1]
    rw [hA]
    refine ⟨c2, hc2.kid _ _ _, ?_⟩
    rw [ent_kid, lvA_adopt, hrA_adopt]
    rfl
end Go.X.Kn

namespace Go.X.Kn
open Go Go.Proofs Go.X
set_option maxRecDepth 20000
set_option maxHeartbeats 4000000

attribute [local irreducible] KA.exitA KA.settleA
theorem k_exitA (a : KA) (b : KZ) (c : KC) (N : Nat) (T : Int) (hw : a.Wk T) (hc : Con a c N T) (hT : T ≤ 900000) (n co : Int) (hl : (a.u n).st = 1) (hx : a.Hx n) : Spec Tryz.prog 63 [ptr b.kb 0 0, .int .i64 n, .int .i64 co] [.cells b.kb 0 453 (encKn (kp a b c)), .cells b.gb 0 60 (Gr.encGt a.g), .cells b.sb 0 158 (Sp.encT a.s), .cells b.qb 0 2281 (Fa.encS c.q), .fam Fa.fam30 (Fa.SC.rows 254 c.q), .cells b.bb 0 577 (Vm.encK b.vp a.v.by_ a.v.rf), .cells b.vp 0 71 (Vm.encP a.v.bb.pool), .cfam (lvA a) c.mb 34 (cN b.bb a.f c.pp c.cc), .fam (lvA a) (rN 171 a.f c.pp c.cc), .cells b.tb 0 321 (Tr.encF c.F), .fam Tr.fam40 (Tr.FC.rowsN 9 c.F), .fam Tr.fam40 (Tr.FC.rowsK 3 c.F), irow c.rp c.rc 3 c.rl, .cells b.pi 0 24 (Tr.encP a.P), .cells b.ob 0 122 (Tr.encO b.tb b.pi a.O), .cfam (hrA a) (fun z => (c.t z).b) 4 (cT b.tb c.t), .fam (hrA a) (rT 168 c.t), .ro 0 0 32 Sg.tab32] (fun v H1 => ∃ c1 : KC, Con (a.exitA n co) c1 N T ∧ H1 = [.cells b.kb 0 453 (encKn (kp (a.exitA n co) b c1)), .cells b.gb 0 60 (Gr.encGt (a.exitA n co).g), .cells b.sb 0 158 (Sp.encT (a.exitA n co).s), .cells b.qb 0 2281 (Fa.encS c1.q), .fam Fa.fam30 (Fa.SC.rows 254 c1.q), .cells b.bb 0 577 (Vm.encK b.vp (a.exitA n co).v.by_ (a.exitA n co).v.rf), .cells b.vp 0 71 (Vm.encP (a.exitA n co).v.bb.pool), .cfam (lvA (a.exitA n co)) c1.mb 34 (cN b.bb (a.exitA n co).f c1.pp c1.cc), .fam (lvA (a.exitA n co)) (rN 171 (a.exitA n co).f c1.pp c1.cc), .cells b.tb 0 321 (Tr.encF c1.F), .fam Tr.fam40 (Tr.FC.rowsN 9 c1.F), .fam Tr.fam40 (Tr.FC.rowsK 3 c1.F), irow c1.rp c1.rc 3 c1.rl, .cells b.pi 0 24 (Tr.encP (a.exitA n co).P), .cells b.ob 0 122 (Tr.encO b.tb b.pi (a.exitA n co).O), .cfam (hrA (a.exitA n co)) (fun z => (c1.t z).b) 4 (cT b.tb c1.t), .fam (hrA (a.exitA n co)) (rT 168 c1.t)]) := by
  by_cases hh : a.head n = n
  · exact k_exit1 a b c N T hw hc hT n co hl hx hh
  · exact k_exit0 a b c N T hw hc hT n co hl hx hh
theorem k_settleC (a : KA) (b : KZ) (c : KC) (N : Nat) (T : Int) (hw : a.Wk T) (hc : Con a c N T) (hT : T ≤ 900000) (n : Int) (hn : 0 ≤ n ∧ n < 20) (o : Bool) (hl : (a.u n).st = 1) (hx : a.Hx n) (he : ¬ ((a.u n).bx.first 0) = 0) (ho : o = true ∨ a.head n ≠ n) : Spec Tryz.prog 74 [ptr b.kb 0 0, .int .i64 n, .bool o]
 [.cells b.kb 0 453 (encKn (kp a b c)), .cells b.gb 0 60 (Gr.encGt a.g), .cells b.sb 0 158 (Sp.encT a.s), .cells b.qb 0 2281 (Fa.encS c.q), .fam Fa.fam30 (Fa.SC.rows 254 c.q), .cells b.bb 0 577 (Vm.encK b.vp a.v.by_ a.v.rf), .cells b.vp 0 71 (Vm.encP a.v.bb.pool), .cfam (lvA a) c.mb 34 (cN b.bb a.f c.pp c.cc), .fam (lvA a) (rN 171 a.f c.pp c.cc), .cells b.tb 0 321 (Tr.encF c.F), .fam Tr.fam40 (Tr.FC.rowsN 9 c.F), .fam Tr.fam40 (Tr.FC.rowsK 3 c.F), irow c.rp c.rc 3 c.rl, .cells b.pi 0 24 (Tr.encP a.P), .cells b.ob 0 122 (Tr.encO b.tb b.pi a.O), .cfam (hrA a) (fun z => (c.t z).b) 4 (cT b.tb c.t), .fam (hrA a) (rT 168 c.t), .ro 0 0 32 Sg.tab32]
 (fun v H1 => ∃ c1 : KC, Con (a.exitA n (128 + ((a.u n).bx.first 0))) c1 N T ∧ H1 = [.cells b.kb 0 453 (encKn (kp (a.exitA n (128 + ((a.u n).bx.first 0))) b c1)), .cells b.gb 0 60 (Gr.encGt (a.exitA n (128 + ((a.u n).bx.first 0))).g), .cells b.sb 0 158 (Sp.encT (a.exitA n (128 + ((a.u n).bx.first 0))).s), .cells b.qb 0 2281 (Fa.encS c1.q), .fam Fa.fam30 (Fa.SC.rows 254 c1.q), .cells b.bb 0 577 (Vm.encK b.vp (a.exitA n (128 + ((a.u n).bx.first 0))).v.by_ (a.exitA n (128 + ((a.u n).bx.first 0))).v.rf), .cells b.vp 0 71 (Vm.encP (a.exitA n (128 + ((a.u n).bx.first 0))).v.bb.pool), .cfam (lvA (a.exitA n (128 + ((a.u n).bx.first 0)))) c1.mb 34 (cN b.bb (a.exitA n (128 + ((a.u n).bx.first 0))).f c1.pp c1.cc), .fam (lvA (a.exitA n (128 + ((a.u n).bx.first 0)))) (rN 171 (a.exitA n (128 + ((a.u n).bx.first 0))).f c1.pp c1.cc), .cells b.tb 0 321 (Tr.encF c1.F), .fam Tr.fam40 (Tr.FC.rowsN 9 c1.F), .fam Tr.fam40 (Tr.FC.rowsK 3 c1.F), irow c1.rp c1.rc 3 c1.rl, .cells b.pi 0 24 (Tr.encP (a.exitA n (128 + ((a.u n).bx.first 0))).P), .cells b.ob 0 122 (Tr.encO b.tb b.pi (a.exitA n (128 + ((a.u n).bx.first 0))).O), .cfam (hrA (a.exitA n (128 + ((a.u n).bx.first 0)))) (fun z => (c1.t z).b) 4 (cT b.tb c1.t), .fam (hrA (a.exitA n (128 + ((a.u n).bx.first 0)))) (rT 168 c1.t)]) := by
  refine Spec.go 36 [0, 1, 2, 6, 7, 30] [] Tryz.func74 rfl rfl rfl ?_
  intro W
  refine XR.mono (fun _ hw3 => XM.openB (k := kp a b c) (n := n) (by omega) .h1 hw3) ?_
  refine sd (by omega) ?_
  refine caR 1 (Sg.s_Ends b.kb (0 + offB n) _ (hw.bx n)) (.cons .here (.cons (.t12 (.t6 .here)) .nil)) rfl ?_
  rintro _ _ ⟨rfl, rfl⟩
  refine gO ?_
  refine XR.mono (fun _ hw3 => XM.sameB (k := kp a b c) (n := n) (by omega) (.cons .here (.cons (.there .here) (.cons (.there .here) .nil))) hw3) ?_
  refine spT 19 rfl (he) ?_
  refine spB 21 rfl ?_ ?_ <;> intro h2
  · try simp only [sb] at h2
    have hfr := Sg.BS.first_cases (a.u n).bx 0 (hw.bx n)
    refine sd (by omega) ?_
    refine caR 17 (k_exitA a b c N T hw hc hT n _ hl hx) (.cons .here (.cons (.there .here) (.cons (.there .here) (.cons (.there .here) (.cons (.there .here) (.cons (.there .here) (.cons (.there .here) (.cons (.there .here) (.cons (.there .here) (.cons (.there .here) (.cons (.there .here) (.cons (.there .here) (.cons (.there .here) (.cons (.there .here) (.cons (.there .here) (.cons (.there .here) (.cons (.there .here) .h1))))))))))))))))) rfl ?_
    rintro _ _ ⟨c1, hc1, rfl⟩
    refine gO ?_
    refine XE.end0 rfl (post_of .h17 rfl ?_)
    try dsimp only [SW.den, SV.den, dens, ofC]
    exact ⟨c1, hc1, rfl⟩
  · try simp only [sb] at h2
    refine ca (k_space b.kb (kp a b c) a.s n) (.cons .here (.cons (.t2 .here) .nil)) ?_
    rintro _ _ ⟨rfl, rfl⟩
    refine gO ?_
    refine ca (k_head b.kb (kp a b c) a.s _) .h2 ?_
    rintro _ _ ⟨rfl, rfl⟩
    refine gO ?_
    refine cdT rfl (by first | rfl | exact fun q => (ho.resolve_left (by simp_all)) q) ?_
    have hfr := Sg.BS.first_cases (a.u n).bx 0 (hw.bx n)
    refine sd (by omega) ?_
    refine caR 17 (k_exitA a b c N T hw hc hT n _ hl hx) (.cons .here (.cons (.t2 .here) (.cons .here (.cons (.there .here) (.cons (.there .here) (.cons (.there .here) (.cons (.there .here) (.cons (.there .here) (.cons (.there .here) (.cons (.there .here) (.cons (.there .here) (.cons (.there .here) (.cons (.there .here) (.cons (.there .here) (.cons (.there .here) (.cons (.there .here) (.cons (.there .here) .h1))))))))))))))))) rfl ?_
    rintro _ _ ⟨c1, hc1, rfl⟩
    refine gO ?_
    refine XE.end0 rfl (post_of .h17 rfl ?_)
    try dsimp only [SW.den, SV.den, dens, ofC]
    exact ⟨c1, hc1, rfl⟩
theorem k_settleE (a : KA) (b : KZ) (c : KC) (N : Nat) (T : Int) (hw : a.Wk T) (hc : Con a c N T) (hT : T ≤ 900000) (n : Int) (hn : 0 ≤ n ∧ n < 20) (o : Bool) (he : ((a.u n).bx.first 0) = 0) : Spec Tryz.prog 74 [ptr b.kb 0 0, .int .i64 n, .bool o]
 [.cells b.kb 0 453 (encKn (kp a b c)), .cells b.gb 0 60 (Gr.encGt a.g), .cells b.sb 0 158 (Sp.encT a.s), .cells b.qb 0 2281 (Fa.encS c.q), .fam Fa.fam30 (Fa.SC.rows 254 c.q), .cells b.bb 0 577 (Vm.encK b.vp a.v.by_ a.v.rf), .cells b.vp 0 71 (Vm.encP a.v.bb.pool), .cfam (lvA a) c.mb 34 (cN b.bb a.f c.pp c.cc), .fam (lvA a) (rN 171 a.f c.pp c.cc), .cells b.tb 0 321 (Tr.encF c.F), .fam Tr.fam40 (Tr.FC.rowsN 9 c.F), .fam Tr.fam40 (Tr.FC.rowsK 3 c.F), irow c.rp c.rc 3 c.rl, .cells b.pi 0 24 (Tr.encP a.P), .cells b.ob 0 122 (Tr.encO b.tb b.pi a.O), .cfam (hrA a) (fun z => (c.t z).b) 4 (cT b.tb c.t), .fam (hrA a) (rT 168 c.t), .ro 0 0 32 Sg.tab32]
 (fun v H1 => ∃ c1 : KC, Con a c1 N T ∧ H1 = [.cells b.kb 0 453 (encKn (kp a b c1)), .cells b.gb 0 60 (Gr.encGt a.g), .cells b.sb 0 158 (Sp.encT a.s), .cells b.qb 0 2281 (Fa.encS c1.q), .fam Fa.fam30 (Fa.SC.rows 254 c1.q), .cells b.bb 0 577 (Vm.encK b.vp a.v.by_ a.v.rf), .cells b.vp 0 71 (Vm.encP a.v.bb.pool), .cfam (lvA a) c1.mb 34 (cN b.bb a.f c1.pp c1.cc), .fam (lvA a) (rN 171 a.f c1.pp c1.cc), .cells b.tb 0 321 (Tr.encF c1.F), .fam Tr.fam40 (Tr.FC.rowsN 9 c1.F), .fam Tr.fam40 (Tr.FC.rowsK 3 c1.F), irow c1.rp c1.rc 3 c1.rl, .cells b.pi 0 24 (Tr.encP a.P), .cells b.ob 0 122 (Tr.encO b.tb b.pi a.O), .cfam (hrA a) (fun z => (c1.t z).b) 4 (cT b.tb c1.t), .fam (hrA a) (rT 168 c1.t)]) := by
  refine Spec.go 36 [0, 1, 2, 6, 7, 30] [] Tryz.func74 rfl rfl rfl ?_
  intro W
  refine XR.mono (fun _ hw3 => XM.openB (k := kp a b c) (n := n) (by omega) .h1 hw3) ?_
  refine sd (by omega) ?_
  refine caR 1 (Sg.s_Ends b.kb (0 + offB n) _ (hw.bx n)) (.cons .here (.cons (.t12 (.t6 .here)) .nil)) rfl ?_
  rintro _ _ ⟨rfl, rfl⟩
  refine gO ?_
  refine XR.mono (fun _ hw3 => XM.sameB (k := kp a b c) (n := n) (by omega) (.cons .here (.cons (.there .here) (.cons (.there .here) .nil))) hw3) ?_
  refine spF 19 rfl (by omega) ?_
  refine XE.end0 rfl (post_of (.cons .here (.cons (.there .here) (.cons (.there .here) (.cons (.there .here) (.cons (.there .here) (.cons (.there .here) (.cons (.there .here) (.cons (.there .here) (.cons (.there .here) (.cons (.there .here) (.cons (.there .here) (.cons (.there .here) (.cons (.there .here) (.cons (.there .here) (.cons (.there .here) (.cons (.there .here) (.cons (.there .here) .nil))))))))))))))))) rfl ?_)
  try dsimp only [SW.den, SV.den, dens, ofC]
  exact ⟨c, hc, rfl⟩
theorem k_settleF (a : KA) (b : KZ) (c : KC) (N : Nat) (T : Int) (hw : a.Wk T) (hc : Con a c N T) (hT : T ≤ 900000) (n : Int) (hn : 0 ≤ n ∧ n < 20) (he : ¬ ((a.u n).bx.first 0) = 0) (hh : a.head n = n) : Spec Tryz.prog 74 [ptr b.kb 0 0, .int .i64 n, .bool false]
 [.cells b.kb 0 453 (encKn (kp a b c)), .cells b.gb 0 60 (Gr.encGt a.g), .cells b.sb 0 158 (Sp.encT a.s), .cells b.qb 0 2281 (Fa.encS c.q), .fam Fa.fam30 (Fa.SC.rows 254 c.q), .cells b.bb 0 577 (Vm.encK b.vp a.v.by_ a.v.rf), .cells b.vp 0 71 (Vm.encP a.v.bb.pool), .cfam (lvA a) c.mb 34 (cN b.bb a.f c.pp c.cc), .fam (lvA a) (rN 171 a.f c.pp c.cc), .cells b.tb 0 321 (Tr.encF c.F), .fam Tr.fam40 (Tr.FC.rowsN 9 c.F), .fam Tr.fam40 (Tr.FC.rowsK 3 c.F), irow c.rp c.rc 3 c.rl, .cells b.pi 0 24 (Tr.encP a.P), .cells b.ob 0 122 (Tr.encO b.tb b.pi a.O), .cfam (hrA a) (fun z => (c.t z).b) 4 (cT b.tb c.t), .fam (hrA a) (rT 168 c.t), .ro 0 0 32 Sg.tab32]
 (fun v H1 => ∃ c1 : KC, Con a c1 N T ∧ H1 = [.cells b.kb 0 453 (encKn (kp a b c1)), .cells b.gb 0 60 (Gr.encGt a.g), .cells b.sb 0 158 (Sp.encT a.s), .cells b.qb 0 2281 (Fa.encS c1.q), .fam Fa.fam30 (Fa.SC.rows 254 c1.q), .cells b.bb 0 577 (Vm.encK b.vp a.v.by_ a.v.rf), .cells b.vp 0 71 (Vm.encP a.v.bb.pool), .cfam (lvA a) c1.mb 34 (cN b.bb a.f c1.pp c1.cc), .fam (lvA a) (rN 171 a.f c1.pp c1.cc), .cells b.tb 0 321 (Tr.encF c1.F), .fam Tr.fam40 (Tr.FC.rowsN 9 c1.F), .fam Tr.fam40 (Tr.FC.rowsK 3 c1.F), irow c1.rp c1.rc 3 c1.rl, .cells b.pi 0 24 (Tr.encP a.P), .cells b.ob 0 122 (Tr.encO b.tb b.pi a.O), .cfam (hrA a) (fun z => (c1.t z).b) 4 (cT b.tb c1.t), .fam (hrA a) (rT 168 c1.t)]) := by
  refine Spec.go 36 [0, 1, 2, 6, 7, 30] [] Tryz.func74 rfl rfl rfl ?_
  intro W
  refine XR.mono (fun _ hw3 => XM.openB (k := kp a b c) (n := n) (by omega) .h1 hw3) ?_
  refine sd (by omega) ?_
  refine caR 1 (Sg.s_Ends b.kb (0 + offB n) _ (hw.bx n)) (.cons .here (.cons (.t12 (.t6 .here)) .nil)) rfl ?_
  rintro _ _ ⟨rfl, rfl⟩
  refine gO ?_
  refine XR.mono (fun _ hw3 => XM.sameB (k := kp a b c) (n := n) (by omega) (.cons .here (.cons (.there .here) (.cons (.there .here) .nil))) hw3) ?_
  refine spT 19 rfl (he) ?_
  refine ca (k_space b.kb (kp a b c) a.s n) (.cons .here (.cons (.t2 .here) .nil)) ?_
  rintro _ _ ⟨rfl, rfl⟩
  refine gO ?_
  refine ca (k_head b.kb (kp a b c) a.s _) .h2 ?_
  rintro _ _ ⟨rfl, rfl⟩
  refine gO ?_
  refine cdF rfl (fun q => q hh) ?_
  refine XE.end0 rfl (post_of (.cons .here (.cons (.t2 .here) (.cons .here (.cons (.there .here) (.cons (.there .here) (.cons (.there .here) (.cons (.there .here) (.cons (.there .here) (.cons (.there .here) (.cons (.there .here) (.cons (.there .here) (.cons (.there .here) (.cons (.there .here) (.cons (.there .here) (.cons (.there .here) (.cons (.there .here) (.cons (.there .here) .nil))))))))))))))))) rfl ?_)
  try dsimp only [SW.den, SV.den, dens, ofC]
  exact ⟨c, hc, rfl⟩
theorem k_settleD (a : KA) (b : KZ) (c : KC) (N : Nat) (T : Int) (hw : a.Wk T) (hc : Con a c N T) (hT : T ≤ 900000) (n : Int) (hn : 0 ≤ n ∧ n < 20) (o : Bool) (he : ¬ a.ends n o) : Spec Tryz.prog 74 [ptr b.kb 0 0, .int .i64 n, .bool o] [.cells b.kb 0 453 (encKn (kp a b c)), .cells b.gb 0 60 (Gr.encGt a.g), .cells b.sb 0 158 (Sp.encT a.s), .cells b.qb 0 2281 (Fa.encS c.q), .fam Fa.fam30 (Fa.SC.rows 254 c.q), .cells b.bb 0 577 (Vm.encK b.vp a.v.by_ a.v.rf), .cells b.vp 0 71 (Vm.encP a.v.bb.pool), .cfam (lvA a) c.mb 34 (cN b.bb a.f c.pp c.cc), .fam (lvA a) (rN 171 a.f c.pp c.cc), .cells b.tb 0 321 (Tr.encF c.F), .fam Tr.fam40 (Tr.FC.rowsN 9 c.F), .fam Tr.fam40 (Tr.FC.rowsK 3 c.F), irow c.rp c.rc 3 c.rl, .cells b.pi 0 24 (Tr.encP a.P), .cells b.ob 0 122 (Tr.encO b.tb b.pi a.O), .cfam (hrA a) (fun z => (c.t z).b) 4 (cT b.tb c.t), .fam (hrA a) (rT 168 c.t), .ro 0 0 32 Sg.tab32] (fun v H1 => ∃ c1 : KC, Con a c1 N T ∧ H1 = [.cells b.kb 0 453 (encKn (kp a b c1)), .cells b.gb 0 60 (Gr.encGt a.g), .cells b.sb 0 158 (Sp.encT a.s), .cells b.qb 0 2281 (Fa.encS c1.q), .fam Fa.fam30 (Fa.SC.rows 254 c1.q), .cells b.bb 0 577 (Vm.encK b.vp a.v.by_ a.v.rf), .cells b.vp 0 71 (Vm.encP a.v.bb.pool), .cfam (lvA a) c1.mb 34 (cN b.bb a.f c1.pp c1.cc), .fam (lvA a) (rN 171 a.f c1.pp c1.cc), .cells b.tb 0 321 (Tr.encF c1.F), .fam Tr.fam40 (Tr.FC.rowsN 9 c1.F), .fam Tr.fam40 (Tr.FC.rowsK 3 c1.F), irow c1.rp c1.rc 3 c1.rl, .cells b.pi 0 24 (Tr.encP a.P), .cells b.ob 0 122 (Tr.encO b.tb b.pi a.O), .cfam (hrA a) (fun z => (c1.t z).b) 4 (cT b.tb c1.t), .fam (hrA a) (rT 168 c1.t)]) := by
  by_cases h0 : ((a.u n).bx.first 0) = 0
  · exact k_settleE a b c N T hw hc hT n hn o h0
  · have h1 : ¬ (o = true ∨ a.head n ≠ n) := fun q => he ⟨h0, q⟩
    have ho : o = false := by cases o; rfl; exact absurd (.inl rfl) h1
    subst ho
    exact k_settleF a b c N T hw hc hT n hn h0 (Decidable.byContradiction fun q => h1 (.inr q))
theorem k_settle (a : KA) (b : KZ) (c : KC) (N : Nat) (T : Int) (hw : a.Wk T) (hc : Con a c N T) (hT : T ≤ 900000) (n : Int) (hn : 0 ≤ n ∧ n < 20) (o : Bool) (hl : (a.u n).st = 1) (hx : a.Hx n) : Spec Tryz.prog 74 [ptr b.kb 0 0, .int .i64 n, .bool o] [.cells b.kb 0 453 (encKn (kp a b c)), .cells b.gb 0 60 (Gr.encGt a.g), .cells b.sb 0 158 (Sp.encT a.s), .cells b.qb 0 2281 (Fa.encS c.q), .fam Fa.fam30 (Fa.SC.rows 254 c.q), .cells b.bb 0 577 (Vm.encK b.vp a.v.by_ a.v.rf), .cells b.vp 0 71 (Vm.encP a.v.bb.pool), .cfam (lvA a) c.mb 34 (cN b.bb a.f c.pp c.cc), .fam (lvA a) (rN 171 a.f c.pp c.cc), .cells b.tb 0 321 (Tr.encF c.F), .fam Tr.fam40 (Tr.FC.rowsN 9 c.F), .fam Tr.fam40 (Tr.FC.rowsK 3 c.F), irow c.rp c.rc 3 c.rl, .cells b.pi 0 24 (Tr.encP a.P), .cells b.ob 0 122 (Tr.encO b.tb b.pi a.O), .cfam (hrA a) (fun z => (c.t z).b) 4 (cT b.tb c.t), .fam (hrA a) (rT 168 c.t), .ro 0 0 32 Sg.tab32] (fun v H1 => ∃ c1 : KC, Con (a.settleA n o) c1 N T ∧ H1 = [.cells b.kb 0 453 (encKn (kp (a.settleA n o) b c1)), .cells b.gb 0 60 (Gr.encGt (a.settleA n o).g), .cells b.sb 0 158 (Sp.encT (a.settleA n o).s), .cells b.qb 0 2281 (Fa.encS c1.q), .fam Fa.fam30 (Fa.SC.rows 254 c1.q), .cells b.bb 0 577 (Vm.encK b.vp (a.settleA n o).v.by_ (a.settleA n o).v.rf), .cells b.vp 0 71 (Vm.encP (a.settleA n o).v.bb.pool), .cfam (lvA (a.settleA n o)) c1.mb 34 (cN b.bb (a.settleA n o).f c1.pp c1.cc), .fam (lvA (a.settleA n o)) (rN 171 (a.settleA n o).f c1.pp c1.cc), .cells b.tb 0 321 (Tr.encF c1.F), .fam Tr.fam40 (Tr.FC.rowsN 9 c1.F), .fam Tr.fam40 (Tr.FC.rowsK 3 c1.F), irow c1.rp c1.rc 3 c1.rl, .cells b.pi 0 24 (Tr.encP (a.settleA n o).P), .cells b.ob 0 122 (Tr.encO b.tb b.pi (a.settleA n o).O), .cfam (hrA (a.settleA n o)) (fun z => (c1.t z).b) 4 (cT b.tb c1.t), .fam (hrA (a.settleA n o)) (rT 168 c1.t)]) := by
  by_cases he : a.ends n o
  · rw [KA.settle_yes he]; exact k_settleC a b c N T hw hc hT n hn o hl hx he.1 he.2
  · rw [KA.settle_no he]
    exact k_settleD a b c N T hw hc hT n hn o he
theorem k_send (a : KA) (b : KZ) (c : KC) (N : Nat) (T : Int) (hw : a.Wk T) (hc : Con a c N T) (hT : T ≤ 900000) (n sig : Int) (o : Bool) (hx : a.Hx n) : Spec Tryz.prog 71 [ptr b.kb 0 0, .int .i64 n, .int .i64 sig, .bool o]
 [.cells b.kb 0 453 (encKn (kp a b c)), .cells b.gb 0 60 (Gr.encGt a.g), .cells b.sb 0 158 (Sp.encT a.s), .cells b.qb 0 2281 (Fa.encS c.q), .fam Fa.fam30 (Fa.SC.rows 254 c.q), .cells b.bb 0 577 (Vm.encK b.vp a.v.by_ a.v.rf), .cells b.vp 0 71 (Vm.encP a.v.bb.pool), .cfam (lvA a) c.mb 34 (cN b.bb a.f c.pp c.cc), .fam (lvA a) (rN 171 a.f c.pp c.cc), .cells b.tb 0 321 (Tr.encF c.F), .fam Tr.fam40 (Tr.FC.rowsN 9 c.F), .fam Tr.fam40 (Tr.FC.rowsK 3 c.F), irow c.rp c.rc 3 c.rl, .cells b.pi 0 24 (Tr.encP a.P), .cells b.ob 0 122 (Tr.encO b.tb b.pi a.O), .cfam (hrA a) (fun z => (c.t z).b) 4 (cT b.tb c.t), .fam (hrA a) (rT 168 c.t), .ro 0 0 32 Sg.tab32]
 (fun v H1 => ∃ c1 : KC, Con (a.sendA n sig o) c1 N T ∧ H1 = [.cells b.kb 0 453 (encKn (kp (a.sendA n sig o) b c1)), .cells b.gb 0 60 (Gr.encGt (a.sendA n sig o).g), .cells b.sb 0 158 (Sp.encT (a.sendA n sig o).s), .cells b.qb 0 2281 (Fa.encS c1.q), .fam Fa.fam30 (Fa.SC.rows 254 c1.q), .cells b.bb 0 577 (Vm.encK b.vp (a.sendA n sig o).v.by_ (a.sendA n sig o).v.rf), .cells b.vp 0 71 (Vm.encP (a.sendA n sig o).v.bb.pool), .cfam (lvA (a.sendA n sig o)) c1.mb 34 (cN b.bb (a.sendA n sig o).f c1.pp c1.cc), .fam (lvA (a.sendA n sig o)) (rN 171 (a.sendA n sig o).f c1.pp c1.cc), .cells b.tb 0 321 (Tr.encF c1.F), .fam Tr.fam40 (Tr.FC.rowsN 9 c1.F), .fam Tr.fam40 (Tr.FC.rowsK 3 c1.F), irow c1.rp c1.rc 3 c1.rl, .cells b.pi 0 24 (Tr.encP (a.sendA n sig o).P), .cells b.ob 0 122 (Tr.encO b.tb b.pi (a.sendA n sig o).O), .cfam (hrA (a.sendA n sig o)) (fun z => (c1.t z).b) 4 (cT b.tb c1.t), .fam (hrA (a.sendA n sig o)) (rT 168 c1.t)]) := by
  refine Spec.go 27 [0, 1, 2, 3, 8, 9, 17] [] Tryz.func71 rfl rfl rfl ?_
  intro W
  refine ca (k_live b.kb (kp a b c) n) .h1 ?_
  rintro _ _ ⟨⟨hl, rfl⟩ | ⟨hl, rfl⟩, rfl⟩
  · skip
    try dsimp only [errvL0, errvL1, errvL2, errvL3, errvL4, errvL5, errvL6, errvL7, errvL8, errvL9, errvL10, errvL11, errvL12, errvL13]
    obtain ⟨hlr, hls⟩ := KP.live_rng hl
    refine gO ?_
    refine XR.mono (fun _ hw3 => XM.openB (k := kp a b c) (n := n) (by omega) .h1 hw3) ?_
    refine ca (Sg.s_Send b.kb (0 + offB n) _ sig) .h1 ?_
    rintro _ _ ⟨rfl, rfl⟩
    refine gO ?_
    refine XR.mono (fun _ hw3 => XM.closeB (k := kp a b c) (n := n) (by omega) .h3 hw3) ?_
    rw [kp_box]
    rw [← lvA_box a n ((a.u n).bx.send sig).2, ← hrA_box a n ((a.u n).bx.send sig).2]
    refine caR 17 (k_settle (a.boxA n ((a.u n).bx.send sig).2) b c N T (hw.boxA hlr (send_wait0 _ _ (hw.bx n))) (hc.box _ _) hT n hlr o (by rw [boxA_st]; exact hls) (hx.box _)) .h18 rfl ?_
    rintro _ _ ⟨c1, hc1, rfl⟩
    refine gO ?_
    refine XE.end0 rfl (post_of .h17 rfl ?_)
    try dsimp only [SW.den, SV.den, dens, ofC]
    have e : a.sendA n sig o = (a.boxA n ((a.u n).bx.send sig).2).settleA n o := if_pos hl
    rw [e]; exact ⟨c1, hc1, rfl⟩
  · skip
    try dsimp only [errvL0, errvL1, errvL2, errvL3, errvL4, errvL5, errvL6, errvL7, errvL8, errvL9, errvL10, errvL11, errvL12, errvL13]
    refine gO ?_
    refine XE.ret0 rfl (post_of .h17 rfl ?_)
    try dsimp only [SW.den, SV.den, dens, ofC]
    have e : a.sendA n sig o = a := if_neg (fun q => hl q)
    rw [e]; exact ⟨c, hc, rfl⟩
end Go.X.Kn
