import Derived.Test.YthdinakloheinaaGreatDoorkFW4
import Derived.Test.YthdinakloheinaaGreatDoorkVBM
import Derived.Test.YthdinakloheinaaGreatDoorKB
import Derived.Test.YthdinakloheinaaGreatDoorkFP
import Derived.Test.YthdinakloheinaaGreatDoorXFn
import Derived.Test.YthdinakloheinaaGreatDoorXBytes
import Derived.Test.YthdinakloheinaaGreatDoorkVM
import Derived.Test.YthdinakloheinaaGreatDoorkSM
import Derived.Shelf.SlSortCmp.WholeK
import Derived.Shelf.SlGeneric
import Derived.Ground.SlsfProg
import Derived.Test.YthdinakloheinaaGreatDoorProg
namespace Go.X.Fa
open Go Go.Proofs Go.X
set_option maxRecDepth 20000
set_option maxHeartbeats 4000000

theorem f_Tick (b o : Nat) (s : SC) (d : Int → Nat) (hI : s.toSF.Inv d) (hR : s.Rep) (hD : ∀ n, 0 ≤ n → n < 30 → d n ≤ 1000) (Bd : Int) (hB : 0 ≤ Bd ∧ Bd ≤ 100000000000000) (hS : s.toSF.Small Bd) (hnow : 0 ≤ s.now ∧ s.now ≤ Bd) (hset : (s.toSF.tick0 d).Settled) : Spec Tryz.prog 112 [ptr b o 0]
 [.cells b o 2281 (encS s), .fam fam30 (s.rows 254)]
 (fun v H1 => v = .int .i64 (s.toSF.tick d).1 ∧ ∃ t : SC, t.toSF = (s.toSF.tick d).2 ∧ t.Rep ∧ H1 = [.cells b o 2281 (encS t), .fam fam30 (t.rows 254)]) := by
  refine Spec.go 94 [0, 2, 3, 4, 5, 7, 8, 10, 40, 65, 67, 81] [] Tryz.func112 rfl rfl rfl ?_
  intro W
  refine lp (σ := SC × Int) (fun x => (10 - x.2).toNat) (fun x => x.1.Rep ∧ x.1.toSF.Inv d ∧ (1 ≤ x.2 ∧ x.2 ≤ 10) ∧ x.1.toSF = s.toSF.refN d (x.2 - 1).toNat ∧ x.1.toSF.now = s.toSF.now ∧ x.1.toSF.Small Bd) (fun x => [(3, .int .i64 x.2), (0, ptr b o 0)]) (fun x => XM W (foot [.cells b o 2281 (encS s), .fam fam30 (s.rows 254)]) [.cells b o 2281 (encS x.1), .fam fam30 (SC.rows 254 x.1)]) ((s, 1)) ?_ (S2 rfl rfl) (fun _ hw => XM.pick .h2 hw) ?_
  · skip
    exact ⟨hR, hI, by simp, rfl, rfl, hS⟩
  intro x hx
  obtain ⟨xR, xI, hx1, hxe, hxn, xS⟩ := hx
  refine gC ?_
  refine cd rfl ?_ ?_ <;> intro h1
  · skip
    have hqx := xI.quo x.2 (by omega) (by omega)
    refine sd (by omega) ?_
    refine rq [0, 1, 2, 3, 4, 5, 6, 7, 8, 9, 10, 11, 12, 13, 14, 15, 16, 17, 18, 19, 20, 21, 22] mixed (by kernel_rfl) ?_
    refine ld .here (encS.ld_u_here _ _ (by omega)) ?_
    refine spB 22 rfl ?_ ?_ <;> intro h2
    · try simp only [sb] at h2
      have hhr : x.1.here x.2 = true := h2
      refine ld .here (encS.ld_u_quota _ _ (by omega)) ?_
      refine sp 29 rfl ?_ ?_ <;> intro h3
      · skip
        refine ld .here (encS.ld_now _) ?_
        refine ld .here (encS.ld_u_period _ _ (by omega)) ?_
        refine XO.v (V.rem rfl rfl (by first | decide | omega) _ (Int.tmod_eq_emod_of_nonneg (by omega))) rfl (gO ?_)
        refine cd rfl ?_ ?_ <;> intro h4
        · skip
          refine st .here (encS.st_u_used _ _ (by omega) _) rfl ?_
          refine ca (f_settle _ _ ({ x.1 with used := fset x.1.used x.2 0 } : SC) d ⟨xI.h0, xI.up, xI.was, xI.quo, xI.wt⟩ xR _ (.inr ⟨by omega, by omega, hhr⟩)) .h2 ?_
          rintro _ _ ⟨rfl, t, tl, tR, rfl⟩
          refine gO ?_
          refine sd (by omega) ?_
          refine ag ((t, x.2 + 1)) ?_ ?_ (S2 rfl rfl) (fun _ hw => XM.pick .h2 hw)
          · skip
            (simp; omega)
          · skip
            refine ⟨tR, ?_, by simp; omega, ?_, ?_, ?_⟩
            · show t.toSF.Inv d
              rw [tl]
              exact SF.look_inv (s := ({ x.1 with used := fset x.1.used x.2 0 } : SC).toSF) ⟨xI.h0, xI.up, xI.was, xI.quo, xI.wt⟩ (.inr ⟨by omega, by omega, hhr⟩)
            · show t.toSF = s.toSF.refN d (x.2 + 1 - 1).toNat
              rw [tl, SF.refN_go hx1.1 hxe ⟨hhr, by assumption, by assumption⟩]
            · show t.toSF.now = _
              rw [tl]
              exact (SF.lookF_keeps _ _ _).2.2.2.2.2.2.2.2.2.2.trans hxn
            · show t.toSF.Small Bd
              rw [tl]
              exact SF.Small.lookF _ (({ x.1 with used := fset x.1.used x.2 0 } : SC).toSF) _ ⟨xI.h0, xI.up, xI.was, xI.quo, xI.wt⟩ (xS.used hB.1 x.2) (.inr ⟨by omega, by omega, hhr⟩)
        · skip
          refine sd (by omega) ?_
          refine ag ((x.1, x.2 + 1)) ?_ ?_ (S2 rfl rfl) (fun _ hw => XM.pick .h2 hw)
          · skip
            (simp; omega)
          · skip
            refine ⟨xR, xI, by simp; omega, ?_, hxn, xS⟩
            show x.1.toSF = s.toSF.refN d (x.2 + 1 - 1).toNat
            rw [SF.refN_no hx1.1 hxe]
            rintro ⟨q1, q2, q3⟩
            first
            | omega
            | (rw [hhr] at q1; cases q1)
      · skip
        refine sd (by omega) ?_
        refine ag ((x.1, x.2 + 1)) ?_ ?_ (S2 rfl rfl) (fun _ hw => XM.pick .h2 hw)
        · skip
          (simp; omega)
        · skip
          refine ⟨xR, xI, by simp; omega, ?_, hxn, xS⟩
          show x.1.toSF = s.toSF.refN d (x.2 + 1 - 1).toNat
          rw [SF.refN_no hx1.1 hxe]
          rintro ⟨q1, q2, q3⟩
          first
          | omega
          | (rw [hhr] at q1; cases q1)
    · try simp only [sb] at h2
      have hhr : x.1.here x.2 = false := h2
      refine sd (by omega) ?_
      refine ag ((x.1, x.2 + 1)) ?_ ?_ (S2 rfl rfl) (fun _ hw => XM.pick .h2 hw)
      · skip
        (simp; omega)
      · skip
        refine ⟨xR, xI, by simp; omega, ?_, hxn, xS⟩
        show x.1.toSF = s.toSF.refN d (x.2 + 1 - 1).toNat
        rw [SF.refN_no hx1.1 hxe]
        rintro ⟨q1, q2, q3⟩
        first
        | omega
        | (rw [hhr] at q1; cases q1)
  · skip
    have h10 : x.2 = 10 := by omega
    rw [show (x.2 - 1).toNat = 9 from by omega] at hxe
    have hte : ({ x.1 with now := x.1.now + 1 } : SC).toSF = (s.toSF.tick0 d) := by
      show ({ x.1.toSF with now := x.1.toSF.now + 1 } : SF) = { s.toSF.refN d 9 with now := s.toSF.now + 1 }
      rw [← hxe, ← hxn]
    have hI1 : SF.Inv ({ x.1 with now := x.1.now + 1 } : SC).toSF d := ⟨xI.h0, xI.up, xI.was, xI.quo, xI.wt⟩
    have hR1 : SC.Rep ({ x.1 with now := x.1.now + 1 } : SC) := xR
    have hS1 : SF.Small ({ x.1 with now := x.1.now + 1 } : SC).toSF Bd := xS
    have hw1 : ∀ i, ({ x.1 with now := x.1.now + 1 } : SC).toSF.was i = true → 0 < i ∧ i < 30 := fun i hi => ⟨(hI1.was i hi).1, (hI1.was i hi).2.1⟩
    have hF := hR1.first hw1 (g := 0) (by omega) (by omega)
    rw [← hte] at hset
    refine ld .here (encS.ld_now _) ?_
    refine sd (by omega) ?_
    refine st .here (encS.st_now _ _) rfl ?_
    refine sd (by omega) ?_
    refine XR.mono (fun _ hw3 => XM.openS (z := 0) (by omega) .h2 hw3) ?_
    refine ca (q_First _ _ _ _ _) .h2 ?_
    rintro _ _ ⟨rfl, rfl⟩
    refine XO.mono (fun _ hw3 => XM.closeS0 (z := 0) (by omega) .h5 hw3) ?_
    refine gO ?_
    refine cdB rfl ?_ ?_ <;> intro h5
    · try simp only [sb] at h5
      have hb : ({ x.1 with now := x.1.now + 1 } : SC).toSF.best 0 < 0 := by
        apply Classical.byContradiction
        intro c
        have h9 := hF.1.2 c
        have h8 : (x.1.Q 0).first.2.2 = false := h5
        rw [show ({ x.1 with now := x.1.now + 1 } : SC).Q 0 = x.1.Q 0 from rfl, h8] at h9
        cases h9
      have hwho : SF.who d s.toSF = -1 := by
        unfold SF.who
        rw [← hte]
        exact SF.dsc_no _ _ (by omega) hb
      refine XE.ret1 rfl rfl (post_of .h2 rfl ?_)
      try dsimp only [SW.den, SV.den, dens, ofC]
      refine ⟨?_, _, ?_, hR1, rfl⟩
      · unfold SF.tick; rw [hwho]; rfl
      · unfold SF.tick; rw [hwho]; exact hte
    · try simp only [sb] at h5
      have hb : ¬ ({ x.1 with now := x.1.now + 1 } : SC).toSF.best 0 < 0 := hF.1.1 h5
      obtain ⟨⟨b1, b2, b3⟩, b4, b5⟩ := SF.best_is hw1 hb
      have hf1 : (x.1.Q 0).first.1 = ({ x.1 with now := x.1.now + 1 } : SC).toSF.best 0 := hF.2 hb
      have hwho : SF.dsc ({ x.1 with now := x.1.now + 1 } : SC).toSF (SF.maxD d 30) (x.1.Q 0).first.1 = SF.who d s.toSF := by
        unfold SF.who
        rw [← hte, SF.dsc_go _ _ (by omega) hb, hf1]
      have hbI := hI1.was _ b1
      have hdb := (hI1.up _ b4 b5 hbI.2.2).2.2.2
      rw [b2] at hdb
      refine lp (σ := Int) (fun a => SF.maxD d 30 - d a) (fun a => (0 < a ∧ a < 30 ∧ ({ x.1 with now := x.1.now + 1 } : SC).here a = true) ∧ ({ x.1 with now := x.1.now + 1 } : SC).was a = true ∧ (∃ k, SF.maxD d 30 < k + d a ∧ SF.dsc ({ x.1 with now := x.1.now + 1 } : SC).toSF k a = SF.who d s.toSF) ∧ ∃ j, SF.upW ({ x.1 with now := x.1.now + 1 } : SC).toSF j a) (fun a => [(5, .int .i64 a), (0, ptr b o 0)]) (fun a => XM W (foot [.cells b o 2281 (encS s), .fam fam30 (s.rows 254)]) [.cells b o 2281 (encS ({ x.1 with now := x.1.now + 1 } : SC)), .fam fam30 (SC.rows 254 ({ x.1 with now := x.1.now + 1 } : SC))]) ((x.1.Q 0).first.1) ?_ (S2 rfl rfl) (fun _ hw => XM.pick .h2 hw) ?_
      · skip
        rw [hf1] at hwho ⊢
        exact ⟨⟨b4, b5, hbI.2.2⟩, b1, ⟨SF.maxD d 30, by omega, hwho⟩, 1, .inr ⟨b1, by show ({ x.1 with now := x.1.now + 1 } : SC).toSF.par _ ≤ 0; rw [b2]; omega⟩⟩
      intro a ha
      obtain ⟨⟨a0, a1, a2⟩, aw, ⟨k, hk, ak⟩, ⟨j, ju⟩⟩ := ha
      refine gC ?_
      refine cd rfl ?_ ?_ <;> intro h6
      · skip
        have hbs := SF.best_some hI1 hset a0 (by omega) aw
        have hFa := hR1.first hw1 (g := a) (by omega) (by omega)
        have hfa : (x.1.Q a).first.1 = ({ x.1 with now := x.1.now + 1 } : SC).toSF.best a := hFa.2 hbs
        obtain ⟨⟨c1, c2, c3⟩, c4, c5⟩ := SF.best_is hw1 hbs
        have hcI := hI1.was _ c1
        have hdc := (hI1.up _ c4 c5 hcI.2.2).2.2.2
        rw [c2] at hdc
        have hma := SF.maxD_le d 30 a (by omega) (by omega)
        have hmc := SF.maxD_le d 30 _ (Int.le_of_lt c4) c5
        refine sd (by omega) ?_
        refine XR.mono (fun _ hw3 => XM.openS (z := a) (by omega) .h2 hw3) ?_
        refine ca (q_First _ _ _ _ _) .h2 ?_
        rintro _ _ ⟨rfl, rfl⟩
        refine XO.mono (fun _ hw3 => XM.closeS0 (z := a) (by omega) .h5 hw3) ?_
        refine gO ?_
        refine ag ((x.1.Q a).first.1) ?_ ?_ (S2 rfl rfl) (fun _ hw => XM.pick .h2 hw)
        · skip
          rw [hfa]; omega
        · skip
          rw [hfa]
          obtain ⟨k2, rfl⟩ : ∃ k2, k = k2 + 1 := ⟨k - 1, by omega⟩
          rw [SF.dsc_go _ _ (by omega) hbs] at ak
          exact ⟨⟨c4, c5, hcI.2.2⟩, c1, ⟨k2, by omega, ak⟩, j + 1, .inr ⟨c1, by rw [c2]; exact ju⟩⟩
      · skip
        have hae : a = SF.who d s.toSF := by
          rw [SF.dsc_end _ _ (by omega)] at ak
          exact ak
        have htk : s.toSF.tick d = (a - 10, SF.chgF (d a + 1) ({ x.1 with now := x.1.now + 1 } : SC).toSF a) := by
          unfold SF.tick
          rw [← hae, if_neg (by omega), hte]
        have hda := hD a (by omega) a1
        refine lp (σ := SC × Int) (fun y => if y.2 = 0 then 0 else d y.2 + 1) (fun y => y.1.Rep ∧ y.1.toSF.Inv d ∧ (y.2 = 0 ∨ (0 < y.2 ∧ y.2 < 30 ∧ y.1.here y.2 = true)) ∧ y.1.toSF.Small (Bd + 1048577 * ((d a : Int) - (d y.2 : Int))) ∧ d y.2 ≤ d a ∧ (∃ k, d y.2 + 1 ≤ k ∧ SF.chgF k y.1.toSF y.2 = (s.toSF.tick d).2) ∧ ∃ j, SF.upW y.1.toSF j y.2) (fun y => [(8, .int .i64 y.2), (0, ptr b o 0), (5, .int .i64 a)]) (fun y => XM W (foot [.cells b o 2281 (encS s), .fam fam30 (s.rows 254)]) [.cells b o 2281 (encS y.1), .fam fam30 (SC.rows 254 y.1)]) ((({ x.1 with now := x.1.now + 1 } : SC), a)) ?_ (S3 rfl rfl rfl) (fun _ hw => XM.pick .h2 hw) ?_
        · skip
          exact ⟨hR1, hI1, .inr ⟨a0, a1, a2⟩, hS1.mono (by simp), Nat.le_refl _, ⟨d a + 1, Nat.le_refl _, by rw [htk]⟩, j, ju⟩
        intro y hy
        obtain ⟨yR, yI, yn, yS, yd, ⟨yk, hyk, yl⟩, ⟨j, yu⟩⟩ := hy
        refine gC ?_
        refine cd rfl ?_ ?_ <;> intro h7
        · skip
          obtain ⟨y0, y1, y2⟩ := yn.resolve_left (by omega)
          obtain ⟨p0, pp1, p2, p3⟩ := yI.up y.2 y0 y1 y2
          obtain ⟨k2, rfl⟩ : ∃ k2, yk = k2 + 1 := ⟨yk - 1, by omega⟩
          rw [SF.chgF_go _ _ y0] at yl
          obtain ⟨ywn, yu2⟩ : y.1.toSF.was y.2 = true ∧ ∃ j, SF.upW y.1.toSF j (y.1.toSF.par y.2) := by
            cases j with
            | zero => have : y.2 ≤ 0 := yu; omega
            | succ j =>
              rcases yu with q | ⟨q1, q2⟩
              · omega
              · exact ⟨q1, j, q2⟩
          have hdy := hD y.2 (by omega) y1
          refine ca (f_charge _ _ _ d yI yR (Bd + 1048577 * ((d a : Int) - (d y.2 : Int))) (by omega) yS _ ⟨y0, y1, y2⟩ ywn) .h2 ?_
          rintro _ _ ⟨rfl, t, tl, tR, rfl⟩
          have htp : t.par y.2 = y.1.toSF.par y.2 := by show t.toSF.par y.2 = _; rw [tl]; rfl
          refine gO ?_
          refine sd (by omega) ?_
          refine ld .here (encS.ld_u_parent _ _ (by omega)) ?_
          refine ag ((t, y.1.toSF.par y.2)) ?_ ?_ (S3 (eqi htp) rfl rfl) (fun _ hw => XM.pick .h2 hw)
          · skip
            show (if y.1.toSF.par y.2 = 0 then 0 else d (y.1.toSF.par y.2) + 1) < (if y.2 = 0 then 0 else d y.2 + 1)
            rw [if_neg (show ¬ y.2 = 0 by omega)]
            split <;> omega
          · skip
            have hpn : y.1.toSF.par y.2 = 0 ∨ (0 < y.1.toSF.par y.2 ∧ y.1.toSF.par y.2 < 30 ∧ y.1.toSF.here (y.1.toSF.par y.2) = true) := by
              by_cases c : y.1.toSF.par y.2 = 0
              · exact .inl c
              · exact .inr ⟨by omega, by omega, p2⟩
            obtain ⟨j2, yu3⟩ := yu2
            refine ⟨tR, by show t.toSF.Inv d; rw [tl]; exact yI.chg y0 y1 y2, ?_, ?_, by show d (y.1.toSF.par y.2) ≤ d a; omega, ⟨k2, by show d (y.1.toSF.par y.2) + 1 ≤ k2; omega, by show SF.chgF k2 t.toSF (y.1.toSF.par y.2) = _; rw [tl]; exact yl⟩, j2, by show SF.upW t.toSF j2 (y.1.toSF.par y.2); rw [tl]; exact SF.upW_chg yI j2 _ hpn p3 yu3⟩
            · show y.1.toSF.par y.2 = 0 ∨ (0 < y.1.toSF.par y.2 ∧ y.1.toSF.par y.2 < 30 ∧ t.toSF.here (y.1.toSF.par y.2) = true)
              rw [tl]; exact hpn
            · show t.toSF.Small (Bd + 1048577 * ((d a : Int) - (d (y.1.toSF.par y.2) : Int)))
              rw [tl]
              exact (SF.Small.chg yI yS y0 y1 y2).mono (by omega)
        · skip
          refine sd (by omega) ?_
          refine XE.ret1 rfl rfl (post_of .h2 rfl ?_)
          try dsimp only [SW.den, SV.den, dens, ofC]
          have hy0 : y.2 = 0 := by
            rcases yn with q | q
            · exact q
            · omega
          rw [hy0, SF.chgF_stop _ _ (by omega)] at yl
          exact ⟨by rw [htk], y.1, yl, yR, rfl⟩
end Go.X.Fa

namespace Go.X.Vm
open Go Go.Proofs Go.X
set_option maxRecDepth 20000
set_option maxHeartbeats 4000000
theorem p_New  : Spec Tryz.prog 174 []
 []
 (fun v H1 => ∃ b, v = ptr b 0 0 ∧ H1 = [.cells b 0 71 (encP BB.init.pool)]) := by
  refine Spec.go 9 [0, 1] [] Tryz.func174 rfl rfl rfl ?_
  intro W
  refine XO.v (V.build (vs := #[]) rfl (v := .agg #[.int .u64 0, .int .u64 0, .int .u64 0, .int .u64 0, .int .u64 0, .int .u64 0, .int .u64 0, .int .i64 0, .int .i64 0, .int .i64 0, .int .i64 0, .int .i64 0, .int .i64 0, .int .i64 0, .int .i64 0, .int .i64 0, .int .i64 0, .int .i64 0, .int .i64 0, .int .i64 0, .int .i64 0, .int .i64 0, .int .i64 0, .int .i64 0, .int .i64 0, .int .i64 0, .int .i64 0, .int .i64 0, .int .i64 0, .int .i64 0, .int .i64 0, .int .i64 0, .int .i64 0, .int .i64 0, .int .i64 0, .int .i64 0, .int .i64 0, .int .i64 0, .int .i64 0, .int .i64 0, .int .i64 0, .int .i64 0, .int .i64 0, .int .i64 0, .int .i64 0, .int .i64 0, .int .i64 0, .int .i64 0, .int .i64 0, .int .i64 0, .int .i64 0, .int .i64 0, .int .i64 0, .int .i64 0, .int .i64 0, .int .i64 0, .int .i64 0, .int .i64 0, .int .i64 0, .int .i64 0, .int .i64 0, .int .i64 0, .int .i64 0, .int .i64 0, .int .i64 0, .int .i64 0, .int .i64 0, .int .i64 0, .int .i64 0, .int .i64 0, .int .i64 0]) (fun _ => by kernel_rfl)) rfl (gO ?_)
  refine XO.box (m := 71) (C := encP ⟨BB.void, fun _ => 0⟩) rfl rfl boxP_init rfl ?_
  intro bs
  refine gO ?_
  refine sd (by omega) ?_
  refine st .here (encP_free _ BB.init 6 (by omega) (v := 1) ⟨BB.init_mask.1.symm, fun m h0 h1 h2 => by rw [BB.init_mask.2 m h0 h1 h2]; exact (BB.void_mask m h0 h1).symm⟩) rfl ?_
  refine XE.ret1 rfl rfl (post_of .h1 rfl ?_)
  exact ⟨_, rfl, rfl⟩
theorem p_Give (p o : Nat) (b : BB) (hI : b.Inv) (a : Int) : Spec Tryz.prog 218 [ptr p o 0, .int .i64 a]
 [.cells p o 71 (encP b.pool)]
 (fun v H1 => v = errv 102 (b.give a).1 ∧ H1 = [.cells p o 71 (encP (b.give a).2.pool)]) := by
  refine Spec.go 80 [0, 1, 4, 5, 6, 12, 20, 35, 49] [] Tryz.func218 rfl rfl rfl ?_
  intro W
  refine sp 9 rfl ?_ ?_ <;> intro h1
  · skip
    refine XE.ret1 rfl rfl (post_of .h1 rfl ?_)
    have his := BB.is_bound (b := b) (a := a) (by omega)
    rw [BB.give_err (by omega), his]; exact ⟨rfl, rfl⟩
  · skip
    refine cd rfl ?_ ?_ <;> intro h2
    · skip
      refine XE.ret1 rfl rfl (post_of .h1 rfl ?_)
      have his := BB.is_bound (b := b) (a := a) (by omega)
      rw [BB.give_err (by omega), his]; exact ⟨rfl, rfl⟩
    · skip
      refine sd (by omega) ?_
      refine ld .here (encP.ld_used_I _ _ (by omega)) ?_
      refine cd rfl ?_ ?_ <;> intro h3
      · skip
        have hu : b.usedOf a = 0 := h3
        have his : b.is a = 2 := BB.is_none (by omega) ((hI.used_zero a).1 hu)
        refine XE.ret1 rfl rfl (post_of .h1 rfl ?_)
        rw [BB.give_err (by omega), his]; exact ⟨rfl, rfl⟩
      · skip
        have hu : ¬ b.usedOf a = 0 := h3
        obtain ⟨ht, ho⟩ := (hI.used_zero a).2 hu
        have hpos := hI.tk a ht
        have hrg := hI.rng a
        have his : b.is a = 0 := BB.is_ok (by omega) ht
        refine sd (by omega) ?_
        refine ld .here (encP.ld_used_I _ _ (by omega)) ?_
        refine oV ?_
        refine XO.v (V.sub rfl rfl (b.ord a - 1) (by rw [show b.pool.u a = b.ord a from ho]; exact IntWalk.i64_in _ (by omega))) rfl (gO ?_)
        refine sd (by omega) ?_
        refine st .here (encP.st_used_I _ _ (by omega) _) rfl ?_
        refine lp (σ := BB × Int) (fun x => (7 - x.1.ord x.2).toNat) (fun x => x.1.Inv ∧ 0 < x.1.ord x.2 ∧ x.1.tk x.2 = false ∧ BB.joins (7 - x.1.ord x.2).toNat x.1 x.2 = BB.joins (7 - b.ord a).toNat (b.bare a) a) (fun x => [(1, .int .i64 x.2), (5, .int .i64 (x.1.ord x.2 - 1)), (0, ptr p o 0)]) (fun x => XM W (foot [.cells p o 71 (encP b.pool)]) [.cells p o 71 (encP ⟨x.1.hide x.2, (fset b.usedOf a 0)⟩)]) ((b.bare a, a)) ?_ (S3 rfl rfl rfl) (fun w hw2 => by
            have e := BB.bare_hide (b := b) ht
            show XM _ _ (.cells p o 71 (encP ⟨(b.bare a).hide a, fset b.usedOf a 0⟩) :: _) w
            rw [e]; exact XM.pick .h1 hw2) ?_
        · skip
          exact ⟨hI.bare a, hpos, fset_eq _ _ _, rfl⟩
        intro x hx
        obtain ⟨hx, x1, x2, x3⟩ := hx
        have hxr := hx.rng x.2
        have hxi := hx.in_rng x1
        refine gC ?_
        refine cd rfl ?_ ?_ <;> intro h4
        · skip
          obtain ⟨r1, r2, r3⟩ := hx.buddy_rng x1 (by omega)
          obtain ⟨q1, q2⟩ := half_xor (a := x.2) (k := x.1.ord x.2 - 1) hxi (by omega)
          have hjt := hx.join_test x1 (by omega)
          have hb := bit_of_shr ((x.1.hide x.2).mask (x.1.ord x.2 - 1)) (x.1.buddy x.2).toNat
          rw [hjt] at hb
          have hp2 := p2_lt (k := x.1.ord x.2 - 1) (by omega)
          refine XO.v (V.shl rfl rfl (by omega) _ (shl_i64 (by omega))) rfl (gO ?_)
          refine XO.v (V.bitsZ rfl rfl (z := (x.1.buddy x.2)) (by omega) (by omega) (by omega) rfl (by rw [p2_toNat]; exact q1)) rfl (gO ?_)
          refine sd (by omega) ?_
          refine ld .here (encP.ld_free_I _ _ (by omega)) ?_
          refine XO.v (V.shr rfl rfl (by omega) _ (shr_u64 (by omega) _)) rfl (gO ?_)
          refine XO.v (V.bits rfl rfl rfl (Nat.lt_of_le_of_lt (shr_le _ _) (BB.mask_lt _ _)) (by decide) rfl) rfl (gO ?_)
          refine cd rfl ?_ ?_ <;> intro h5
          · skip
            have h9 : (((((x.1.hide x.2).mask (x.1.ord x.2 - 1)) >>> (x.1.buddy x.2).toNat) &&& 1 : Nat) : Int) = 0 := h5
            have hc : ¬ x.1.canJoin x.2 := fun q => by
              simp only [q, decide_true, if_true] at hb
              omega
            have hx9 : BB.joins (7 - b.ord a).toNat (b.bare a) a = x.1 := by rw [← x3]; exact BB.joins_stop _ hc
            have hfin := hI.give_pool his
            rw [hx9] at hfin
            refine rq [0, 1, 2, 3, 4, 5, 6, 7, 8, 9, 10, 11, 12] mixed (by kernel_rfl) ?_
            refine sd (by omega) ?_
            refine ld .here (encP.ld_free_I _ _ (by omega)) ?_
            refine XO.v (V.shl rfl rfl (by omega) _ (shl_u64 (by omega))) rfl (gO ?_)
            refine XO.v (V.bits rfl rfl rfl (BB.mask_lt _ _) (two_lt (by omega)) rfl) rfl (gO ?_)
            refine sd (by omega) ?_
            refine st .here (encP_free _ x.1 _ (by omega) (BB.bare_mask x1 hxi x2)) rfl ?_
            refine XE.ret1 rfl rfl (post_of .h1 rfl ?_)
            rw [← hfin, BB.give_ok his]; exact ⟨rfl, rfl⟩
          · skip
            have h9 : ¬ (((((x.1.hide x.2).mask (x.1.ord x.2 - 1)) >>> (x.1.buddy x.2).toNat) &&& 1 : Nat) : Int) = 0 := h5
            have hc : x.1.canJoin x.2 := by
              apply Classical.byContradiction
              intro q
              simp only [q, decide_false, Bool.false_eq_true, if_false] at hb
              omega
            obtain ⟨j1, _, _, _, j5, j6⟩ := hx.join1 x1 x2 hc
            refine rq [0, 1, 2, 3, 4, 5, 6, 7, 8, 9, 10, 11, 12] mixed (by kernel_rfl) ?_
            refine sd (by omega) ?_
            refine ld .here (encP.ld_free_I _ _ (by omega)) ?_
            refine XO.v (V.shl rfl rfl (by omega) _ (shl_u64 (by omega))) rfl (gO ?_)
            refine XO.v (V.bits rfl rfl rfl (BB.mask_lt _ _) (two_lt (by omega)) rfl) rfl (gO ?_)
            refine sd (by omega) ?_
            refine st .here (encP_free _ ((x.1.join1 x.2).hide (min x.2 (x.1.buddy x.2))) _ (by omega) (hx.join_mask x1 hc)) rfl ?_
            refine XO.v (V.shl rfl rfl (by omega) _ (shl_i64 (by omega))) rfl (gO ?_)
            refine XO.v (V.bitsZ rfl rfl (z := (min x.2 (x.1.buddy x.2))) (by omega) (by omega) (by omega) rfl (by rw [p2_toNat]; exact q2)) rfl (gO ?_)
            refine sd (by omega) ?_
            refine ag ((x.1.join1 x.2, (min x.2 (x.1.buddy x.2)))) ?_ ?_ (S3 rfl (eqi (by show x.1.ord x.2 - 1 + 1 = (x.1.join1 x.2).ord (min x.2 (x.1.buddy x.2)) - 1; rw [j5]; omega)) rfl) (fun _ hw => XM.pick .h1 hw)
            · skip
              (show (7 - (x.1.join1 x.2).ord (min x.2 (x.1.buddy x.2))).toNat < (7 - x.1.ord x.2).toNat; rw [j5]; omega)
            · skip
              refine ⟨j1, by show 0 < (x.1.join1 x.2).ord (min x.2 (x.1.buddy x.2)); rw [j5]; omega, j6, ?_⟩
              show BB.joins (7 - (x.1.join1 x.2).ord (min x.2 (x.1.buddy x.2))).toNat (x.1.join1 x.2) (min x.2 (x.1.buddy x.2)) = _
              rw [← x3, j5, show (7 - x.1.ord x.2).toNat = (7 - (x.1.ord x.2 + 1)).toNat + 1 from by omega, BB.joins, if_pos hc]
        · skip
          have hx9 : BB.joins (7 - b.ord a).toNat (b.bare a) a = x.1 := by rw [← x3, show (7 - x.1.ord x.2).toNat = 0 from by omega]; rfl
          have hfin := hI.give_pool his
          rw [hx9] at hfin
          refine rq [0, 1, 2, 3, 4, 5, 6, 7, 8, 9, 10, 11, 12] mixed (by kernel_rfl) ?_
          refine sd (by omega) ?_
          refine ld .here (encP.ld_free_I _ _ (by omega)) ?_
          refine XO.v (V.shl rfl rfl (by omega) _ (shl_u64 (by omega))) rfl (gO ?_)
          refine XO.v (V.bits rfl rfl rfl (BB.mask_lt _ _) (two_lt (by omega)) rfl) rfl (gO ?_)
          refine sd (by omega) ?_
          refine st .here (encP_free _ x.1 _ (by omega) (BB.bare_mask x1 hxi x2)) rfl ?_
          refine XE.ret1 rfl rfl (post_of .h1 rfl ?_)
          rw [← hfin, BB.give_ok his]; exact ⟨rfl, rfl⟩


end Go.X.Vm

namespace Go.X.Vm
open Go Go.Proofs Go.X
set_option maxRecDepth 20000
set_option maxHeartbeats 4000000

theorem v_NewBank  : Spec Tryz.prog 98 []
 []
 (fun v H1 => ∃ kb pb, v = ptr kb 0 0 ∧ H1 = [.cells kb 0 577 (encK pb VB.init.by_ VB.init.rf), .cells pb 0 71 (encP VB.init.bb.pool)]) := by
  refine Spec.go 4 [0] [] Tryz.func98 rfl rfl rfl ?_
  intro W
  refine ca (p_New) .nil ?_
  rintro _ _ ⟨pb, rfl, rfl⟩
  refine gO ?_
  refine XO.v (V.build (vs := #[(0, ptr pb 0 0)]) rfl (v := .agg (zKl pb).toArray) (fun _ => by kernel_rfl)) rfl (gO ?_)
  refine XO.box (m := 577) (C := encK pb VB.init.by_ VB.init.rf) rfl rfl (zK_box _) rfl ?_
  intro kb
  refine gO ?_
  refine XE.ret1 rfl rfl (post_of .h2 rfl ?_)
  exact ⟨_, _, rfl, rfl⟩
theorem v_New (kb : Nat) : Spec Tryz.prog 103 [ptr kb 0 0]
 []
 (fun v H1 => ∃ mb, v = ptr mb 0 0 ∧ H1 = [.cells mb 0 34 (encN kb none (runs MS.nil.is_).length 0 MS.nil.fr MS.nil.own), frow none 0 171 3 (runs MS.nil.is_).length (rgC (runs MS.nil.is_))]) := by
  refine Spec.go 19 [0, 2, 3, 4, 8, 9] [] Tryz.func103 rfl rfl rfl ?_
  intro W
  refine XO.v (V.build (vs := #[(0, ptr kb 0 0)]) rfl (v := .agg (zNl kb).toArray) (fun _ => by kernel_rfl)) rfl (gO ?_)
  refine XO.box (m := 34) (C := encN kb none 0 0 (frI 0) (fun _ => false)) rfl rfl (fun i hi => (zN_box _ i hi).trans (congrFun (encN_congr fun i h0 h1 => ⟨by unfold frI; first | rw [if_neg (by omega)] | rw [if_pos (by omega)], rfl⟩) i)) rfl ?_
  intro mb
  refine gO ?_
  refine lp (σ := Int) (fun i => (16 - i).toNat) (fun i => 0 ≤ i ∧ i ≤ 16) (fun i => [(8, .int .i64 i), (3, ptr mb 0 0)]) (fun i => XM W (foot []) [.cells mb 0 34 (encN kb none 0 0 (frI i) (fun _ => false))]) (0) ?_ (S2 rfl rfl) (fun _ hw => XM.pick .h1 hw) ?_
  · skip
    omega
  intro i hi
  refine gC ?_
  refine cd rfl ?_ ?_ <;> intro h1
  · skip
    refine sd (by omega) ?_
    refine st .here (encN.st_p_I_frame _ _ _ _ _ _ _ (by omega) _) rfl ?_
    refine sd (by omega) ?_
    refine ag (i + 1) ?_ ?_ (S2 rfl rfl) (fun _ hw => by rw [← frI_next hi.1]; exact XM.pick .h1 hw)
    · skip
      (first | omega | (simp; done) | (simp; omega))
    · skip
      (first | omega | (simp; done) | (simp; omega))
  · skip
    refine XR.nilRow 171 3 ?_
    refine XE.ret1 rfl rfl (post_of (.cons (.there .here) .h1) rfl ?_)
    have e : i = 16 := by omega
    subst e
    rw [runs_nil]
    exact ⟨_, rfl, by rw [show encN kb none 0 0 (frI 16) (fun _ => false) = encN kb none 0 0 (fun _ => 0) (fun _ => false) from encN_congr (fun i h0 h1 => ⟨by unfold frI; rw [if_pos (by omega)], rfl⟩)]; rfl⟩
theorem v_span (a n : Int) : Spec Tryz.prog 177 [.int .i64 a, .int .i64 n]
 []
 (fun x H1 => x = errv 102 (if badS a n then 1 else 0) ∧ H1 = []) := by
  refine Spec.go 22 [0, 1, 4, 20] [] Tryz.func177 rfl rfl rfl ?_
  intro W
  refine sp 7 rfl ?_ ?_ <;> intro h1
  · skip
    refine XE.ret1 rfl rfl (post_of .nil rfl ?_)
    first | (rw [if_neg (by unfold badS; omega)]; exact ⟨rfl, rfl⟩) | (rw [if_pos (by unfold badS; omega)]; exact ⟨rfl, rfl⟩)
  · skip
    refine sp 11 rfl ?_ ?_ <;> intro h2
    · skip
      refine XE.ret1 rfl rfl (post_of .nil rfl ?_)
      first | (rw [if_neg (by unfold badS; omega)]; exact ⟨rfl, rfl⟩) | (rw [if_pos (by unfold badS; omega)]; exact ⟨rfl, rfl⟩)
    · skip
      refine sp 15 rfl ?_ ?_ <;> intro h3
      · skip
        refine XE.ret1 rfl rfl (post_of .nil rfl ?_)
        first | (rw [if_neg (by unfold badS; omega)]; exact ⟨rfl, rfl⟩) | (rw [if_pos (by unfold badS; omega)]; exact ⟨rfl, rfl⟩)
      · skip
        refine sd (by omega) ?_
        refine cd rfl ?_ ?_ <;> intro h4
        · skip
          refine XE.ret1 rfl rfl (post_of .nil rfl ?_)
          first | (rw [if_neg (by unfold badS; omega)]; exact ⟨rfl, rfl⟩) | (rw [if_pos (by unfold badS; omega)]; exact ⟨rfl, rfl⟩)
        · skip
          refine XE.ret1 rfl rfl (post_of .nil rfl ?_)
          first | (rw [if_neg (by unfold badS; omega)]; exact ⟨rfl, rfl⟩) | (rw [if_pos (by unfold badS; omega)]; exact ⟨rfl, rfl⟩)
end Go.X.Vm

namespace Go.X.Vm
open Go Go.X
set_option maxRecDepth 20000
set_option maxHeartbeats 4000000
/-! ### regions, sorted -/
structure RB where
  f : Fin 17
  n : Int
  w : Bool
instance : Inhabited RB := ⟨⟨0, 0, false⟩⟩
def RB.rg (x : RB) : RG := ⟨((x.f : Nat) : Int), x.n, x.w⟩
def RG.rb (r : RG) : RB := ⟨⟨r.fr.toNat % 17, Nat.mod_lt _ (by omega)⟩, r.n, r.w⟩
theorem RG.rb_rg {r : RG} (h : 0 ≤ r.fr ∧ r.fr ≤ 16) : r.rb.rg = r := by
  cases r with
  | mk f n w =>
    simp only [RG.rb, RB.rg, RG.mk.injEq, and_true]
    simp only at h
    have : f.toNat % 17 = f.toNat := Nat.mod_eq_of_lt (by omega)
    simp only [this]; omega
def encB (x : RB) : List Value := [.int .i64 ((x.f : Nat) : Int), .int .i64 x.n, .bool x.w]
def cmpB (x y : RB) : Int := ((x.f : Nat) : Int) - ((y.f : Nat) : Int)
theorem cmpB_lt (x y : RB) : Go.Proofs.ltOf cmpB x y = decide ((x.f : Nat) < (y.f : Nat)) := by
  unfold Go.Proofs.ltOf cmpB
  congr 1
  apply propext
  omega
theorem cmpB_swo : Sort.SWO (Go.Proofs.ltOf cmpB) where
  irrefl x := by rw [cmpB_lt]; simp
  trans x y z h1 h2 := by rw [cmpB_lt] at *; simp only [decide_eq_true_eq] at *; omega
  ntrans x y z h1 h2 := by rw [cmpB_lt] at *; simp only [decide_eq_false_iff_not] at *; omega
theorem encB_len (x : RB) : (encB x).length = 3 := rfl
theorem encB_one (x : RB) : ∀ v ∈ encB x, v.oneCell' = true := fun v hv => by
  simp [encB] at hv
  rcases hv with rfl | rfl | rfl <;> rfl
theorem flat_rg (d : Array RB) : (Sort.flatK encB 3 d).toList = newsOf (rgC (d.toList.map RB.rg)) (d.size * 3) := by
  unfold Sort.flatK newsOf
  rw [Array.toList_map, Array.toList_range]
  apply List.map_congr_left
  intro t ht
  have ht2 : t < d.size * 3 := by simpa using ht
  have e : (d.toList.map RB.rg).getD (t / 3) RG.nil = (d[t / 3]!).rg := by
    have : t / 3 < d.size := by omega
    simp [this]
  unfold rgC
  rw [e]
  have h : t % 3 = 0 ∨ t % 3 = 1 ∨ t % 3 = 2 := by omega
  rcases h with h | h | h <;> rw [h] <;> rfl
theorem sort_regions {P : Program} {ρ : Shelf.Ren} (L : Go.Proofs.SlLaysF0.n6 P ρ) (aE : ∀ w, (isAgg (ρ.t 24)).run P w = .ok true w) (zE : ∀ w, (Go.sizeOf (ρ.t 24)).run P w = .ok 3 w) (gcl : Nat) (eg : ∀ args w, (callFunc gcl args).run P w = .ok (.enter gcl args) w)
    (hc : CmpC P gcl encB cmpB) (p : Option Addr) (c : Nat) (e : TypeId) (l : List RG) (hl : ∀ r ∈ l, 0 ≤ r.fr ∧ r.fr ≤ 16) (hlt : l.length ≤ 100000) :
    Spec P (ρ.f 6) [.slice p l.length c, .func (.func gcl) #[] #[]] [frow p c e 3 l.length (rgC l)]
      (fun v H1 => v = .tuple #[] ∧ ∃ l' : List RG, l.Perm l' ∧ l'.Pairwise (fun x y => x.fr ≤ y.fr) ∧ H1 = [frow p c e 3 l.length (rgC l')]) := by
  have hmap : ((l.map RG.rb).map RB.rg) = l := by
    rw [List.map_map]
    conv => rhs; rw [← List.map_id l]
    apply List.map_congr_left
    intro r hr
    exact RG.rb_rg (hl r hr)
  have h := sort_row L 3 aE zE encB encB_len encB_one cmpB cmpB_swo gcl eg hc p l.length c e (l.map RG.rb).toArray (by simp) (by omega)
  rw [flat_rg] at h
  simp only [List.toList_toArray, hmap, List.size_toArray, List.length_map] at h
  intro w hw
  refine (h w hw).mono ?_
  rintro ee w' ⟨v, H', he, ⟨hv, d', hp, hs, hH⟩, h3, h4⟩
  have hsz : d'.size = l.length := by rw [hp.1]; simp
  have hpm : d'.toList.Perm (l.map RG.rb) := by
    have h2 := hp.2.2
    have e1 : d'.extract 0 l.length = d' := by rw [← hsz]; exact Array.extract_size
    have e2 : (l.map RG.rb).toArray.extract 0 l.length = (l.map RG.rb).toArray := by
      have : l.length = (l.map RG.rb).toArray.size := by simp
      rw [this]; exact Array.extract_size
    rw [e1, e2] at h2
    simpa using h2
  refine ⟨v, H', he, ⟨hv, d'.toList.map RB.rg, ?_, ?_, ?_⟩, h3, h4⟩
  · have := hpm.map RB.rg
    rw [hmap] at this
    exact this.symm
  · rw [List.pairwise_map, List.pairwise_iff_getElem]
    intro i j hi hj hij
    have hj' : j < d'.size := by simpa using hj
    have hi' : i < d'.size := by omega
    have := hs i j (Nat.zero_le _) hij (by omega)
    rw [cmpB_lt] at this
    simp only [decide_eq_false_iff_not] at this
    simp only [hi', hj', getElem!_pos] at this
    simp only [Array.getElem_toList, RB.rg]
    omega
  · rw [hH, flat_rg, hsz]

end Go.X.Vm

/-
  DERIVED: THE SHELF's CONTRACTS AT THIS DUMP, IN PLAIN WORDS (tools/lay-plain.mjs out of 'SFVLay.lean', which tools/lay-shelf.mjs wrote): THE SAME DECLARATIONS UNDER THE SAME NAMES: 'import', 'namespace', 'open', 'def', 'theorem' AND NOTHING ELSE: no command of the shelf's: FOR A HAND-IN. Each laying: the table of numbers ('.._ren') and one theorem, a field a fact of the dump's own or the kernel's comparison; each contract: ONE APPLICATION.
-/
namespace Go.Proofs
open Go.Shelf
def trySort_ren : Go.Shelf.Ren := ⟨fun | 6 => 219 | 15 => 242 | 14 => 241 | 28 => 262 | 29 => 263 | 20 => 254 | 21 => 255 | 22 => 256 | 23 => 257 | 24 => 258 | 25 => 259 | 26 => 260 | 27 => 261 | 46 => 272 | 47 => 273 | 48 => 274 | 49 => 275 | 50 => 276 | 57 => 283 | n => n, fun | 22 => 140 | 24 => 171 | 25 => 250 | 3 => 3 | 39 => 258 | 0 => 0 | 53 => 257 | 55 => 29 | 4 => 4 | 46 => 283 | 45 => 282 | 50 => 118 | 5 => 5 | 9 => 9 | 66 => 294 | 70 => 232 | 76 => 302 | 77 => 303 | n => n, fun | n => n⟩
theorem trySort : Go.Proofs.SlLaysF0.n6 Tryz.prog trySort_ren := {
  mixed := by kernel_rfl
  f6 := ⟨Tryz.f219.name, by decide, Tryz.func219.trans (congrArg some (by kernel_rfl))⟩
  f14 := ⟨Tryz.f241.name, by decide, Tryz.func241.trans (congrArg some (by kernel_rfl))⟩
  f15 := Tryz.func242.trans (congrArg some (by kernel_rfl))
  f20 := ⟨Tryz.f254.name, by decide, Tryz.func254.trans (congrArg some (by kernel_rfl))⟩
  f21 := ⟨Tryz.f255.name, by decide, Tryz.func255.trans (congrArg some (by kernel_rfl))⟩
  f22 := ⟨Tryz.f256.name, by decide, Tryz.func256.trans (congrArg some (by kernel_rfl))⟩
  f23 := ⟨Tryz.f257.name, by decide, Tryz.func257.trans (congrArg some (by kernel_rfl))⟩
  f24 := ⟨Tryz.f258.name, by decide, Tryz.func258.trans (congrArg some (by kernel_rfl))⟩
  f25 := ⟨Tryz.f259.name, by decide, Tryz.func259.trans (congrArg some (by kernel_rfl))⟩
  f26 := ⟨Tryz.f260.name, by decide, Tryz.func260.trans (congrArg some (by kernel_rfl))⟩
  f27 := ⟨Tryz.f261.name, by decide, Tryz.func261.trans (congrArg some (by kernel_rfl))⟩
  f28 := Tryz.func262.trans (congrArg some (by kernel_rfl))
  f29 := Tryz.func263.trans (congrArg some (by kernel_rfl))
  f46 := ⟨Tryz.f272.name, by decide, Tryz.func272.trans (congrArg some (by kernel_rfl))⟩
  f47 := Tryz.func273.trans (congrArg some (by kernel_rfl))
  f48 := Tryz.func274.trans (congrArg some (by kernel_rfl))
  f49 := ⟨Tryz.f275.name, by decide, Tryz.func275.trans (congrArg some (by kernel_rfl))⟩
  f50 := ⟨Tryz.f276.name, by decide, Tryz.func276.trans (congrArg some (by kernel_rfl))⟩
  f57 := ⟨Tryz.f283.name, by decide, Tryz.func283.trans (congrArg some (by kernel_rfl))⟩
  t0 := Tryz.underlying0
  a0 := Tryz.isAgg0
  z0 := Tryz.sizeOf0
  v0 := Tryz.zeroValue0
  t3 := Tryz.underlying3
  a3 := Tryz.isAgg3
  z3 := Tryz.sizeOf3
  v3 := Tryz.zeroValue3
  t4 := Tryz.underlying4
  a4 := Tryz.isAgg4
  z4 := Tryz.sizeOf4
  v4 := Tryz.zeroValue4
  t5 := Tryz.underlying5
  a5 := Tryz.isAgg5
  z5 := Tryz.sizeOf5
  v5 := Tryz.zeroValue5
  t9 := Tryz.underlying9
  a9 := Tryz.isAgg9
  z9 := Tryz.sizeOf9
  v9 := Tryz.zeroValue9
  t22 := Tryz.underlying140
  a22 := Tryz.isAgg140
  z22 := Tryz.sizeOf140
  v22 := Tryz.zeroValue140
  t25 := Tryz.underlying250
  a25 := Tryz.isAgg250
  z25 := Tryz.sizeOf250
  v25 := Tryz.zeroValue250
  t39 := Tryz.underlying258
  a39 := Tryz.isAgg258
  z39 := Tryz.sizeOf258
  v39 := Tryz.zeroValue258
  t45 := Tryz.underlying282
  a45 := Tryz.isAgg282
  z45 := Tryz.sizeOf282
  v45 := Tryz.zeroValue282
  t46 := Tryz.underlying283
  a46 := Tryz.isAgg283
  z46 := Tryz.sizeOf283
  v46 := Tryz.zeroValue283
  t50 := Tryz.underlying118
  a50 := Tryz.isAgg118
  z50 := Tryz.sizeOf118
  v50 := Tryz.zeroValue118
  t53 := Tryz.underlying257
  a53 := Tryz.isAgg257
  z53 := Tryz.sizeOf257
  v53 := Tryz.zeroValue257
  t55 := Tryz.underlying29
  a55 := Tryz.isAgg29
  z55 := Tryz.sizeOf29
  v55 := Tryz.zeroValue29
  t66 := Tryz.underlying294
  a66 := Tryz.isAgg294
  z66 := Tryz.sizeOf294
  v66 := Tryz.zeroValue294
  t70 := Tryz.underlying232
  a70 := Tryz.isAgg232
  z70 := Tryz.sizeOf232
  v70 := Tryz.zeroValue232
  t76 := Tryz.underlying302
  a76 := Tryz.isAgg302
  z76 := Tryz.sizeOf302
  v76 := Tryz.zeroValue302
  t77 := Tryz.underlying303
  a77 := Tryz.isAgg303
  z77 := Tryz.sizeOf303
  v77 := Tryz.zeroValue303 }
end Go.Proofs

namespace Go.X.Vm
open Go Go.Proofs Go.X
set_option maxRecDepth 20000
set_option maxHeartbeats 4000000
theorem ag_142 : aggT Tryz.prog 142 = true := by kernel_rfl
theorem rt_171_3 : rowT Tryz.prog 171 3 = true := by kernel_rfl
theorem sc_3 : scal Tryz.prog 3 = true := by kernel_rfl
theorem sz_142_2 : szOf Tryz.prog 142 = some 2 := by kernel_rfl
theorem v_cmp : CmpC Tryz.prog 220 encB cmpB := fun x y w => by
 refine enter (ps := [2, 3, 4]) (cs := []) Tryz.func220 rfl rfl ?_ (M := fun w' => w' = w) rfl
 refine gC (K := []) (Q0 := bodyPost _ _ _) ?_
 refine XO.boxW rfl rfl ?_
 refine XO.boxW rfl rfl ?_
 refine gO ?_
 refine oL ?_
 refine XO.l (V.loadW (v := .int .i64 ((x.f : Nat) : Int)) rfl (fun w' hw => by rw [hw]; exact boxW_at rfl) sc_3) rfl (gO ?_)
 refine oL ?_
 refine XO.l (V.loadW (v := .int .i64 ((y.f : Nat) : Int)) rfl (fun w' hw => by rw [hw]; exact boxW_at2 rfl) sc_3) rfl (gO ?_)
 refine sd (by have := x.f.isLt; have := y.f.isLt; omega) ?_
 exact XE.ret1 rfl rfl (fun w' hw => ⟨rfl, _, hw.trans (grow_two _ _ _)⟩)
theorem v_sort (p : Option Addr) (c : Nat) (l : List RG) (hl : ∀ r ∈ l, 0 ≤ r.fr ∧ r.fr ≤ 16) (hlt : l.length ≤ 100000) : Spec Tryz.prog 219 [.slice p l.length c, .func (.func 220) #[] #[]] [frow p c 171 3 l.length (rgC l)]
  (fun v H1 => v = .tuple #[] ∧ ∃ l' : List RG, l.Perm l' ∧ l'.Pairwise (fun x y => x.fr ≤ y.fr) ∧ H1 = [frow p c 171 3 l.length (rgC l')]) :=
  sort_regions trySort Tryz.isAgg171 Tryz.sizeOf171 220 (Go.Proofs.enters_of Tryz.func220 (by kernel_rfl) rfl) v_cmp p c 171 l hl hlt
theorem v_Clone (p : Option Addr) (c : Nat) (l : List RG) (hn : l.length ≤ 100) : Spec Tryz.prog 124 [.slice p l.length c]
 [frow p c 171 3 l.length (rgC l)]
 (fun v H1 => ∃ p1 c1, v = .slice p1 l.length c1 ∧ H1 = [frow p c 171 3 l.length (rgC l), frow p1 c1 171 3 l.length (rgC l)]) := by
  refine Spec.go 8 [0, 2, 4] [] Tryz.func124 rfl rfl rfl ?_
  intro W
  refine XO.v (V.sliceNil rfl Tryz.underlying140 rfl) rfl (gO ?_)
  refine cd rfl ?_ ?_ <;> intro h1
  · skip
    subst h1
    refine XR.rowNil .here ?_
    intro hn0
    refine XR.nilRow 171 3 ?_
    refine XE.ret1 rfl rfl (post_of (.cons (.there .here) .h1) rfl ?_)
    exact ⟨none, 0, by rw [hn0]; rfl, by rw [hn0]; rfl⟩
  · skip
    refine XR.rowAt .here h1 ?_
    intro g hg
    subst hg
    refine XO.buildRow (e := 171) (vs := #[]) (A := #[]) (sz := 3) rfl (fun _ => by kernel_rfl) rfl (by omega) rfl ?_
    intro b1
    refine gO ?_
    refine XO.appendRow (e := 171) rfl rfl Tryz.underlying140 rt_171_3 .here (.there .here) newsC_one (by omega) rfl ?_
    intro p1 c1
    refine gO ?_
    refine XE.ret1 rfl rfl (post_of (.cons (.there .here) .h1) rfl ?_)
    exact ⟨p1, c1, by simp only [Nat.zero_add]; rfl, by simp only [Nat.zero_add, List.nil_append]⟩

theorem v_Resident (kb mb : Nat) (p : Option Addr) (c : Nat) (m : MS) (hm : m.Ok) : Spec Tryz.prog 50 [ptr mb 0 0]
 [.cells mb 0 34 (encN kb p (runs m.is_).length c m.fr m.own)]
 (fun v H1 => v = .int .i64 m.res ∧ H1 = [.cells mb 0 34 (encN kb p (runs m.is_).length c m.fr m.own)]) := by
  refine Spec.go 20 [0, 2, 3, 5, 9, 10, 11, 15] [] Tryz.func50 rfl rfl rfl ?_
  intro W
  refine ldA .here (encN_pages _ _ _ _ _ _) ?_
  refine lp (σ := Int) (fun i => (16 - i).toNat) (fun i => 0 ≤ i ∧ i ≤ 16) (fun i => [(10, .int .i64 i), (3, .int .i64 (resN m.fr i.toNat)), (9, .agg (pgA m.fr m.own))]) (fun i => XM W (foot [.cells mb 0 34 (encN kb p (runs m.is_).length c m.fr m.own)]) [.cells mb 0 34 (encN kb p (runs m.is_).length c m.fr m.own)]) (0) ?_ (S3 rfl rfl rfl) (fun _ hw => XM.pick .h1 hw) ?_
  · skip
    omega
  intro i hi
  have hlo := hm.lo i
  have hrs := resN_le m.fr i.toNat
  refine gC ?_
  refine cd rfl ?_ ?_ <;> intro h1
  · skip
    refine XO.v (V.indexAggN rfl rfl Tryz.underlying143 sz_142_2 ag_142 (by omega) (pgA_at (by omega))) rfl (gO ?_)
    refine XO.allocZ (z := .agg #[.int .i64 0, .bool false]) (m := 2) (C := pgB 0 false) (by kernel_rfl) rfl (pgB.box _ _) rfl ?_
    intro pb
    refine gO ?_
    refine stA .here (pgB.st _ _ _ _) rfl ⟨rfl, rfl⟩ ?_
    refine ld .here (pgB.f _ _) ?_
    refine cd rfl ?_ ?_ <;> intro h2
    · skip
      refine sd (by omega) ?_
      refine sd (by omega) ?_
      refine ag (i + 1) ?_ ?_ (S3 rfl (eqi (by rw [resN_next _ hi.1, if_pos (by omega)])) rfl) (fun _ hw => XM.pick (.cons (.there .here) .nil) hw)
      · skip
        (first | omega | (simp; done) | (simp; omega))
      · skip
        (first | omega | (simp; done) | (simp; omega))
    · skip
      refine sd (by omega) ?_
      refine ag (i + 1) ?_ ?_ (S3 rfl (eqi (by rw [resN_next _ hi.1, if_neg (by omega)]; omega)) rfl) (fun _ hw => XM.pick (.cons (.there .here) .nil) hw)
      · skip
        (first | omega | (simp; done) | (simp; omega))
      · skip
        (first | omega | (simp; done) | (simp; omega))
  · skip
    refine XE.ret1 rfl rfl (post_of .h1 rfl ?_)
    have e : i = 16 := by omega
    subst e
    exact ⟨rfl, rfl⟩

end Go.X.Vm
