import Derived.Test.YtpnddggohipdnaaDoorLW
import Derived.Test.YtpnddggohipdnaaDoorVLM
namespace Go.X
open Go Go.Proofs
set_option maxRecDepth 20000
set_option maxHeartbeats 4000000
theorem cl_17 : callable Tryd.prog 17 = true := by kernel_rfl
theorem cl_18 : callable Tryd.prog 18 = true := by kernel_rfl
theorem cl_19 : callable Tryd.prog 19 = true := by kernel_rfl
theorem cl_23 : callable Tryd.prog 23 = true := by kernel_rfl
theorem cl_32 : callable Tryd.prog 32 = true := by kernel_rfl
theorem cl_34 : callable Tryd.prog 34 = true := by kernel_rfl
theorem cl_36 : callable Tryd.prog 36 = true := by kernel_rfl
theorem fo_40_1 : fieldOff Tryd.prog 40 1 = some 1 := by kernel_rfl
theorem fo_40_2 : fieldOff Tryd.prog 40 2 = some 2 := by kernel_rfl
theorem fo_40_3 : fieldOff Tryd.prog 40 3 = some 3 := by kernel_rfl
theorem fo_40_5 : fieldOff Tryd.prog 40 5 = some 5 := by kernel_rfl
theorem sc_4 : scal Tryd.prog 4 = true := by kernel_rfl
theorem rgEq : (Tryd.prog.underlying 83 = some (.struct (Tryd.prog.fieldsOf 83)) ∧ Tryd.prog.stoodInHeld 83 = false) ∧ Tryd.prog.eqGuardType Tryd.prog.depth 83 = false ∧ (Tryd.prog.fieldsOf 83).toList.all (okR Tryd.prog) = true :=
  ⟨⟨by kernel_rfl, by kernel_rfl⟩, by kernel_rfl, by kernel_rfl⟩
theorem same_rg (p q : Option Addr) (c d : Nat) (l : List RG) (hl : l.length ≤ 100) : Spec Tryd.prog 43 [.slice p l.length c, .slice q l.length d]
 [frow p c 83 3 l.length (rgC l), frow q d 83 3 l.length (rgC l)]
 (fun v H1 => v = .bool true ∧ H1 = [frow p c 83 3 l.length (rgC l), frow q d 83 3 l.length (rgC l)]) := by
  refine Spec.go 26 [0, 1, 4, 5, 10, 14, 25] [] Tryd.func43 rfl rfl rfl ?_
  intro W
  refine cdF rfl (by simp) ?_
  refine lp (σ := Int) (fun i => (l.length - i).toNat) (fun i => 0 ≤ i ∧ i ≤ l.length) (fun i => [(5, .int .i64 i), (0, .slice p l.length c), (1, .slice q l.length d)]) (fun i => XM W (foot [frow p c 83 3 l.length (rgC l), frow q d 83 3 l.length (rgC l)]) [frow p c 83 3 l.length (rgC l), frow q d 83 3 l.length (rgC l)]) (0) ?_ (S3 rfl rfl rfl) (fun _ hw => XM.pick .h2 hw) ?_
  · skip
    omega
  intro i hi
  refine gC ?_
  refine cd rfl ?_ ?_ <;> intro h1
  · skip
    refine XR.openRow .here (by omega) ?_
    intro g1 h2
    subst h2
    refine XR.openRow (.there .here) (by omega) ?_
    intro g2 h3
    subst h3
    refine rq [0, 1, 2, 3, 4, 5, 6, 7, 8] mixed (by kernel_rfl) ?_
    refine sd (by omega) ?_
    refine ldAF .here (rgC.agg (by omega)) ?_
    refine sd (by omega) ?_
    refine ldAF (.there .here) (rgC.agg (by omega)) ?_
    refine XO.v (V.rgNe rfl rfl rgEq) rfl (gO ?_)
    refine sd (by omega) ?_
    refine ag (i + 1) ?_ ?_ (S3 rfl rfl rfl) (fun _ hw => XM.pick .h2 hw)
    · skip
      (first | omega | (simp; done) | (simp; omega))
    · skip
      (first | omega | (simp; done) | (simp; omega))
  · skip
    refine XE.ret1 rfl rfl (post_of .h2 rfl ?_)
    exact ⟨rfl, rfl⟩
set_option maxHeartbeats 8000000 in
theorem law_memory (kb pb mb rk rp rm : Nat) (v : VB) (hv : v.Ok) (p : Option Addr) (c : Nat) (m : MS) (hm : m.Ok) (hin : m.In v) (x : ActV) (hx : x.ok) : Spec Tryd.prog 12 [ptr mb 0 0, ptr rm 0 0, .agg #[.string x.kind, .int .i64 x.a, .int .i64 x.b, .int .i64 x.c, .int .u64 x.key, .bool x.on, .string x.s, .string x.t]]
 [.cells kb 0 577 (encK pb v.by_ v.rf), .cells pb 0 71 (encP v.bb.pool), .cells mb 0 34 (encN kb p (runs m.is_).length c m.fr m.own), frow p c 83 3 (runs m.is_).length (rgC (runs m.is_)), .cells rk 0 577 (encRK rp v.by_ v.rf), .cells rp 0 128 (encM v.bb), .cells rm 0 49 (encRN rk m.is_ m.fr m.own), .ro 0 0 64 tab64]
 (fun z H1 => z = .bool true ∧ ∃ p2 c2, H1 = [.cells kb 0 577 (encK pb (m.act v x).1.by_ (m.act v x).1.rf), .cells pb 0 71 (encP (m.act v x).1.bb.pool), .cells mb 0 34 (encN kb p2 (runs (m.act v x).2.is_).length c2 (m.act v x).2.fr (m.act v x).2.own), frow p2 c2 83 3 (runs (m.act v x).2.is_).length (rgC (runs (m.act v x).2.is_)), .cells rk 0 577 (encRK rp (m.act v x).1.by_ (m.act v x).1.rf), .cells rp 0 128 (encM (m.act v x).1.bb), .cells rm 0 49 (encRN rk (m.act v x).2.is_ (m.act v x).2.fr (m.act v x).2.own)]) := by
  refine Spec.go 122 [0, 1, 5, 6, 7, 8, 9, 10, 11, 12, 13, 14, 16, 17, 36, 64, 83] [] Tryd.func12 rfl rfl rfl ?_
  intro W
  refine XO.box (m := 8) (C := encAct x) rfl rfl (encAct_box x) rfl ?_
  intro ba
  refine gO ?_
  refine ld .here (encAct.ld_Kind _) ?_
  refine cd rfl ?_ ?_ <;> intro h1
  · skip
    have k1 : x.kind = kMap := h1
    refine XC.regionQ mixed (f := 18) (l := #[false, false, false, false, false, false, false, false, false, false, false, false, false, false, false, false, false, false]) rfl rfl XM.drawn' ?_
    refine XQ.pv (i := 0) (l' := #[true, false, false, false, false, false, false, false, false, false, false, false, false, false, false, false, false, false]) rfl (by kernel_rfl) rfl (V.move rfl) rfl rfl ?_
    refine XQ.pv (i := 1) (l' := #[true, true, false, false, false, false, false, false, false, false, false, false, false, false, false, false, false, false]) rfl (by kernel_rfl) rfl (V.fieldAddr rfl fo_40_1) rfl rfl ?_
    refine XQ.load (i := 2) (l' := #[true, true, true, false, false, false, false, false, false, false, false, false, false, false, false, false, false, false]) (.cells _ _ _ _) [7, 15, 16] rfl (by kernel_rfl) rfl .here (V.load rfl inEnt (encAct.ld_A _) sc_3) rfl (by kernel_rfl) rfl ?_
    refine XQ.pv (i := 3) (l' := #[true, true, true, true, false, false, false, false, false, false, false, false, false, false, false, false, false, false]) rfl (by kernel_rfl) rfl (V.fieldAddr rfl fo_40_2) rfl rfl ?_
    refine XQ.load (i := 4) (l' := #[true, true, true, true, true, false, false, false, false, false, false, false, false, false, false, false, false, false]) (.cells _ _ _ _) [7, 15, 16] rfl (by kernel_rfl) rfl .here (V.load rfl inEnt (encAct.ld_B _) sc_3) rfl (by kernel_rfl) rfl ?_
    refine XQ.pv (i := 5) (l' := #[true, true, true, true, true, true, false, false, false, false, false, false, false, false, false, false, false, false]) rfl (by kernel_rfl) rfl (V.fieldAddr rfl fo_40_5) rfl rfl ?_
    refine XQ.load (i := 6) (l' := #[true, true, true, true, true, true, true, false, false, false, false, false, false, false, false, false, false, false]) (.cells _ _ _ _) [7, 15, 16] rfl (by kernel_rfl) rfl .here (V.load rfl inEnt (encAct.ld_On _) sc_4) rfl (by kernel_rfl) rfl ?_
    refine XQ.pv (i := 8) (l' := #[true, true, true, true, true, true, true, false, true, false, false, false, false, false, false, false, false, false]) rfl (by kernel_rfl) rfl (V.move rfl) rfl rfl ?_
    refine XQ.pv (i := 9) (l' := #[true, true, true, true, true, true, true, false, true, true, false, false, false, false, false, false, false, false]) rfl (by kernel_rfl) rfl (V.fieldAddr rfl fo_40_1) rfl rfl ?_
    refine XQ.load (i := 10) (l' := #[true, true, true, true, true, true, true, false, true, true, true, false, false, false, false, false, false, false]) (.cells _ _ _ _) [15, 16] rfl (by kernel_rfl) rfl .here (V.load rfl inEnt (encAct.ld_A _) sc_3) rfl (by kernel_rfl) rfl ?_
    refine XQ.pv (i := 11) (l' := #[true, true, true, true, true, true, true, false, true, true, true, true, false, false, false, false, false, false]) rfl (by kernel_rfl) rfl (V.fieldAddr rfl fo_40_2) rfl rfl ?_
    refine XQ.load (i := 12) (l' := #[true, true, true, true, true, true, true, false, true, true, true, true, true, false, false, false, false, false]) (.cells _ _ _ _) [15, 16] rfl (by kernel_rfl) rfl .here (V.load rfl inEnt (encAct.ld_B _) sc_3) rfl (by kernel_rfl) rfl ?_
    refine XQ.pv (i := 13) (l' := #[true, true, true, true, true, true, true, false, true, true, true, true, true, true, false, false, false, false]) rfl (by kernel_rfl) rfl (V.fieldAddr rfl fo_40_5) rfl rfl ?_
    refine XQ.load (i := 14) (l' := #[true, true, true, true, true, true, true, false, true, true, true, true, true, true, true, false, false, false]) (.cells _ _ _ _) [15, 16] rfl (by kernel_rfl) rfl .here (V.load rfl inEnt (encAct.ld_On _) sc_4) rfl (by kernel_rfl) rfl ?_
    refine XQ.call (i := 7) (l' := #[true, true, true, true, true, true, true, true, true, true, true, true, true, true, true, false, false, false]) rfl (by kernel_rfl) rfl rfl (v_Map _ _ _ _ _ hm _ _ _) (.cons (.t3 .here) (.cons (.t3 .here) .nil)) cl_18 rfl (by rintro _ _ ⟨rfl, p2, c2, rfl⟩; all_goals (intro _ hw'; exact ⟨fun _ => inXM (.t2 .here) _ hw', fun _ => inXM (.t2 .here) _ hw', fun _ => inXM (.t2 .here) _ hw', fun hs => (hs 7 (by first | (simp; done) | (simp; rfl)) rfl).elim, fun hs => (hs 7 (by first | (simp; done) | (simp; rfl)) rfl).elim, fun hs => (hs 7 (by first | (simp; done) | (simp; rfl)) rfl).elim, trivial⟩)) ?_
    rintro _ _ ⟨rfl, p2, c2, rfl⟩
    refine XQ.call (i := 15) (l' := #[true, true, true, true, true, true, true, true, true, true, true, true, true, true, true, true, false, false]) rfl (by kernel_rfl) rfl rfl (r_Map _ _ _ hm _ _ _) (.cons (.t7 .here) .nil) cl_32 rfl (by rintro _ _ ⟨rfl, rfl⟩; all_goals (intro _ hw'; exact ⟨fun hs => (hs 15 (by first | (simp; done) | (simp; rfl)) rfl).elim, fun hs => (hs 15 (by first | (simp; done) | (simp; rfl)) rfl).elim, fun hs => (hs 15 (by first | (simp; done) | (simp; rfl)) rfl).elim, fun hs => (hs 7 (by first | (simp; done) | (simp; rfl)) rfl).elim, fun hs => (hs 7 (by first | (simp; done) | (simp; rfl)) rfl).elim, fun hs => (hs 7 (by first | (simp; done) | (simp; rfl)) rfl).elim, trivial⟩)) ?_
    rintro _ _ ⟨rfl, rfl⟩
    refine XQ.call (i := 16) (l' := #[true, true, true, true, true, true, true, true, true, true, true, true, true, true, true, true, true, false]) rfl (by kernel_rfl) rfl rfl (same_any _ _ (MS.mapE_nn _ _ _)) .nil cl_17 rfl (by rintro _ _ ⟨rfl, rfl⟩; all_goals (intro _ hw'; exact ⟨fun hs => (hs 15 (by first | (simp; done) | (simp; rfl)) rfl).elim, fun hs => (hs 15 (by first | (simp; done) | (simp; rfl)) rfl).elim, fun hs => (hs 15 (by first | (simp; done) | (simp; rfl)) rfl).elim, fun hs => (hs 7 (by first | (simp; done) | (simp; rfl)) rfl).elim, fun hs => (hs 7 (by first | (simp; done) | (simp; rfl)) rfl).elim, fun hs => (hs 7 (by first | (simp; done) | (simp; rfl)) rfl).elim, trivial⟩)) ?_
    rintro _ _ ⟨rfl, rfl⟩
    refine XQ.pv (i := 17) (l' := #[true, true, true, true, true, true, true, true, true, true, true, true, true, true, true, true, true, true]) rfl (by kernel_rfl) rfl (V.assign rfl) rfl rfl ?_
    refine XQ.done (by kernel_rfl) ?_
    refine gE ?_
    refine XE.ret1 rfl rfl (post_of (.cons (.t4 .here) (.cons (.t4 .here) (.cons (.there .here) (.cons (.there .here) (.cons (.t2 .here) (.cons (.t2 .here) .h1)))))) rfl ?_)
    first
      | (rw [MS.act_map k1]; exact ⟨congrArg Value.bool (by simp), p2, c2, rfl⟩)
      | (rw [MS.act_unmap k1 k2]; exact ⟨congrArg Value.bool (by simp), p2, c2, rfl⟩)
      | (rw [MS.act_prot k1 k2 k3]; exact ⟨congrArg Value.bool (by simp), p2, c2, rfl⟩)
  · skip
    have k1 : ¬ x.kind = kMap := h1
    refine cd rfl ?_ ?_ <;> intro h2
    · skip
      have k2 : x.kind = kUnmap := h2
      refine ld .here (encAct.ld_A _) ?_
      refine ld .here (encAct.ld_B _) ?_
      refine caR 4 (v_Unmap _ _ _ _ hv _ _ _ hm hin _ _) (.cons (.there .here) (.cons (.there .here) (.cons (.there .here) (.cons (.there .here) (.cons (.t4 .here) .nil))))) rfl ?_
      rintro _ _ ⟨rfl, p2, c2, rfl⟩
      refine gO ?_
      refine ld (.t5 .here) (encAct.ld_A _) ?_
      refine ld (.t5 .here) (encAct.ld_B _) ?_
      refine ca (r_Unmap _ _ _ _ hv _ hm hin _ _) (.cons (.t6 .here) (.cons (.t6 .here) (.cons (.t6 .here) .nil))) ?_
      rintro _ _ ⟨rfl, rfl⟩
      refine gO ?_
      refine spT 59 rfl (by rfl) ?_
      refine ca (same_any _ _ (MS.unmap_nn _ _ _ _)) .nil ?_
      rintro _ _ ⟨rfl, rfl⟩
      refine gO ?_
      refine XE.ret1 rfl rfl (post_of (.cons (.t3 .here) (.cons (.t3 .here) (.cons (.t3 .here) (.cons (.t3 .here) .h3)))) rfl ?_)
      first
        | (rw [MS.act_map k1]; exact ⟨congrArg Value.bool (by simp), p2, c2, rfl⟩)
        | (rw [MS.act_unmap k1 k2]; exact ⟨congrArg Value.bool (by simp), p2, c2, rfl⟩)
        | (rw [MS.act_prot k1 k2 k3]; exact ⟨congrArg Value.bool (by simp), p2, c2, rfl⟩)
    · skip
      have k2 : ¬ x.kind = kUnmap := h2
      refine cd rfl ?_ ?_ <;> intro h4
      · skip
        have k3 : x.kind = kProt := h4
        refine XC.regionQ mixed (f := 18) (l := #[false, false, false, false, false, false, false, false, false, false, false, false, false, false, false, false, false, false]) rfl rfl XM.drawn' ?_
        refine XQ.pv (i := 0) (l' := #[true, false, false, false, false, false, false, false, false, false, false, false, false, false, false, false, false, false]) rfl (by kernel_rfl) rfl (V.move rfl) rfl rfl ?_
        refine XQ.pv (i := 1) (l' := #[true, true, false, false, false, false, false, false, false, false, false, false, false, false, false, false, false, false]) rfl (by kernel_rfl) rfl (V.fieldAddr rfl fo_40_1) rfl rfl ?_
        refine XQ.load (i := 2) (l' := #[true, true, true, false, false, false, false, false, false, false, false, false, false, false, false, false, false, false]) (.cells _ _ _ _) [7, 15, 16] rfl (by kernel_rfl) rfl .here (V.load rfl inEnt (encAct.ld_A _) sc_3) rfl (by kernel_rfl) rfl ?_
        refine XQ.pv (i := 3) (l' := #[true, true, true, true, false, false, false, false, false, false, false, false, false, false, false, false, false, false]) rfl (by kernel_rfl) rfl (V.fieldAddr rfl fo_40_2) rfl rfl ?_
        refine XQ.load (i := 4) (l' := #[true, true, true, true, true, false, false, false, false, false, false, false, false, false, false, false, false, false]) (.cells _ _ _ _) [7, 15, 16] rfl (by kernel_rfl) rfl .here (V.load rfl inEnt (encAct.ld_B _) sc_3) rfl (by kernel_rfl) rfl ?_
        refine XQ.pv (i := 5) (l' := #[true, true, true, true, true, true, false, false, false, false, false, false, false, false, false, false, false, false]) rfl (by kernel_rfl) rfl (V.fieldAddr rfl fo_40_5) rfl rfl ?_
        refine XQ.load (i := 6) (l' := #[true, true, true, true, true, true, true, false, false, false, false, false, false, false, false, false, false, false]) (.cells _ _ _ _) [7, 15, 16] rfl (by kernel_rfl) rfl .here (V.load rfl inEnt (encAct.ld_On _) sc_4) rfl (by kernel_rfl) rfl ?_
        refine XQ.pv (i := 8) (l' := #[true, true, true, true, true, true, true, false, true, false, false, false, false, false, false, false, false, false]) rfl (by kernel_rfl) rfl (V.move rfl) rfl rfl ?_
        refine XQ.pv (i := 9) (l' := #[true, true, true, true, true, true, true, false, true, true, false, false, false, false, false, false, false, false]) rfl (by kernel_rfl) rfl (V.fieldAddr rfl fo_40_1) rfl rfl ?_
        refine XQ.load (i := 10) (l' := #[true, true, true, true, true, true, true, false, true, true, true, false, false, false, false, false, false, false]) (.cells _ _ _ _) [15, 16] rfl (by kernel_rfl) rfl .here (V.load rfl inEnt (encAct.ld_A _) sc_3) rfl (by kernel_rfl) rfl ?_
        refine XQ.pv (i := 11) (l' := #[true, true, true, true, true, true, true, false, true, true, true, true, false, false, false, false, false, false]) rfl (by kernel_rfl) rfl (V.fieldAddr rfl fo_40_2) rfl rfl ?_
        refine XQ.load (i := 12) (l' := #[true, true, true, true, true, true, true, false, true, true, true, true, true, false, false, false, false, false]) (.cells _ _ _ _) [15, 16] rfl (by kernel_rfl) rfl .here (V.load rfl inEnt (encAct.ld_B _) sc_3) rfl (by kernel_rfl) rfl ?_
        refine XQ.pv (i := 13) (l' := #[true, true, true, true, true, true, true, false, true, true, true, true, true, true, false, false, false, false]) rfl (by kernel_rfl) rfl (V.fieldAddr rfl fo_40_5) rfl rfl ?_
        refine XQ.load (i := 14) (l' := #[true, true, true, true, true, true, true, false, true, true, true, true, true, true, true, false, false, false]) (.cells _ _ _ _) [15, 16] rfl (by kernel_rfl) rfl .here (V.load rfl inEnt (encAct.ld_On _) sc_4) rfl (by kernel_rfl) rfl ?_
        refine XQ.call (i := 7) (l' := #[true, true, true, true, true, true, true, true, true, true, true, true, true, true, true, false, false, false]) rfl (by kernel_rfl) rfl rfl (v_Protect _ _ _ _ _ hm _ _ _) (.cons (.t3 .here) (.cons (.t3 .here) .nil)) cl_19 rfl (by rintro _ _ ⟨rfl, p2, c2, rfl⟩; all_goals (intro _ hw'; exact ⟨fun _ => inXM (.t2 .here) _ hw', fun _ => inXM (.t2 .here) _ hw', fun _ => inXM (.t2 .here) _ hw', fun hs => (hs 7 (by first | (simp; done) | (simp; rfl)) rfl).elim, fun hs => (hs 7 (by first | (simp; done) | (simp; rfl)) rfl).elim, fun hs => (hs 7 (by first | (simp; done) | (simp; rfl)) rfl).elim, trivial⟩)) ?_
        rintro _ _ ⟨rfl, p2, c2, rfl⟩
        refine XQ.call (i := 15) (l' := #[true, true, true, true, true, true, true, true, true, true, true, true, true, true, true, true, false, false]) rfl (by kernel_rfl) rfl rfl (r_Protect _ _ _ hm _ _ _) (.cons (.t7 .here) .nil) cl_34 rfl (by rintro _ _ ⟨rfl, rfl⟩; all_goals (intro _ hw'; exact ⟨fun hs => (hs 15 (by first | (simp; done) | (simp; rfl)) rfl).elim, fun hs => (hs 15 (by first | (simp; done) | (simp; rfl)) rfl).elim, fun hs => (hs 15 (by first | (simp; done) | (simp; rfl)) rfl).elim, fun hs => (hs 7 (by first | (simp; done) | (simp; rfl)) rfl).elim, fun hs => (hs 7 (by first | (simp; done) | (simp; rfl)) rfl).elim, fun hs => (hs 7 (by first | (simp; done) | (simp; rfl)) rfl).elim, trivial⟩)) ?_
        rintro _ _ ⟨rfl, rfl⟩
        refine XQ.call (i := 16) (l' := #[true, true, true, true, true, true, true, true, true, true, true, true, true, true, true, true, true, false]) rfl (by kernel_rfl) rfl rfl (same_any _ _ (MS.protE_nn _ _ _)) .nil cl_17 rfl (by rintro _ _ ⟨rfl, rfl⟩; all_goals (intro _ hw'; exact ⟨fun hs => (hs 15 (by first | (simp; done) | (simp; rfl)) rfl).elim, fun hs => (hs 15 (by first | (simp; done) | (simp; rfl)) rfl).elim, fun hs => (hs 15 (by first | (simp; done) | (simp; rfl)) rfl).elim, fun hs => (hs 7 (by first | (simp; done) | (simp; rfl)) rfl).elim, fun hs => (hs 7 (by first | (simp; done) | (simp; rfl)) rfl).elim, fun hs => (hs 7 (by first | (simp; done) | (simp; rfl)) rfl).elim, trivial⟩)) ?_
        rintro _ _ ⟨rfl, rfl⟩
        refine XQ.pv (i := 17) (l' := #[true, true, true, true, true, true, true, true, true, true, true, true, true, true, true, true, true, true]) rfl (by kernel_rfl) rfl (V.assign rfl) rfl rfl ?_
        refine XQ.done (by kernel_rfl) ?_
        refine gE ?_
        refine XE.ret1 rfl rfl (post_of (.cons (.t4 .here) (.cons (.t4 .here) (.cons (.there .here) (.cons (.there .here) (.cons (.t2 .here) (.cons (.t2 .here) .h1)))))) rfl ?_)
        first
          | (rw [MS.act_map k1]; exact ⟨congrArg Value.bool (by simp), p2, c2, rfl⟩)
          | (rw [MS.act_unmap k1 k2]; exact ⟨congrArg Value.bool (by simp), p2, c2, rfl⟩)
          | (rw [MS.act_prot k1 k2 k3]; exact ⟨congrArg Value.bool (by simp), p2, c2, rfl⟩)
      · skip
        have k3 : ¬ x.kind = kProt := h4
        refine cd rfl ?_ ?_ <;> intro h5
        · skip
          have k4 : x.kind = kLoad := h5
          refine ld .here (encAct.ld_A _) ?_
          refine caR 4 (v_Load _ _ _ _ hv _ _ _ hm _) (.cons (.there .here) (.cons (.there .here) (.cons (.there .here) (.cons (.there .here) (.cons (.t4 .here) .nil))))) rfl ?_
          rintro _ _ ⟨rfl, rfl⟩
          refine gO ?_
          refine ld (.t5 .here) (encAct.ld_A _) ?_
          refine ca (r_Load _ _ _ _ hv _ hm hin _) (.cons (.t6 .here) (.cons (.t6 .here) (.cons (.t6 .here) .nil))) ?_
          rintro _ _ ⟨rfl, rfl⟩
          refine gO ?_
          refine spT 102 rfl (by rfl) ?_
          refine ca (same_any _ _ (MS.load_nn _ _ _)) .nil ?_
          rintro _ _ ⟨rfl, rfl⟩
          refine gO ?_
          refine XE.ret1 rfl rfl (post_of (.cons (.t3 .here) (.cons (.t3 .here) (.cons (.t3 .here) (.cons (.t3 .here) .h3)))) rfl ?_)
          rw [MS.act_load k1 k2 k3 k4]; exact ⟨congrArg Value.bool (by simp), p, c, by rw [MS.load_is]⟩
        · skip
          have k4 : ¬ x.kind = kLoad := h5
          refine XC.regionQ mixed (f := 16) (l := #[false, false, false, false, false, false, false, false, false, false, false, false, false, false, false, false]) rfl rfl XM.drawn' ?_
          refine XQ.pv (i := 0) (l' := #[true, false, false, false, false, false, false, false, false, false, false, false, false, false, false, false]) rfl (by kernel_rfl) rfl (V.move rfl) rfl rfl ?_
          refine XQ.pv (i := 1) (l' := #[true, true, false, false, false, false, false, false, false, false, false, false, false, false, false, false]) rfl (by kernel_rfl) rfl (V.fieldAddr rfl fo_40_1) rfl rfl ?_
          refine XQ.load (i := 2) (l' := #[true, true, true, false, false, false, false, false, false, false, false, false, false, false, false, false]) (.cells _ _ _ _) [6, 13, 14] rfl (by kernel_rfl) rfl .here (V.load rfl inEnt (encAct.ld_A _) sc_3) rfl (by kernel_rfl) rfl ?_
          refine XQ.pv (i := 3) (l' := #[true, true, true, true, false, false, false, false, false, false, false, false, false, false, false, false]) rfl (by kernel_rfl) rfl (V.fieldAddr rfl fo_40_3) rfl rfl ?_
          refine XQ.load (i := 4) (l' := #[true, true, true, true, true, false, false, false, false, false, false, false, false, false, false, false]) (.cells _ _ _ _) [6, 13, 14] rfl (by kernel_rfl) rfl .here (V.load rfl inEnt (encAct.ld_C _) sc_3) rfl (by kernel_rfl) rfl ?_
          refine XQ.pv (i := 5) (l' := #[true, true, true, true, true, true, false, false, false, false, false, false, false, false, false, false]) rfl (by kernel_rfl) rfl (V.convInt rfl Tryd.underlying3 Tryd.underlying5 _ rfl) rfl rfl ?_
          refine XQ.pv (i := 7) (l' := #[true, true, true, true, true, true, false, true, false, false, false, false, false, false, false, false]) rfl (by kernel_rfl) rfl (V.move rfl) rfl rfl ?_
          refine XQ.pv (i := 8) (l' := #[true, true, true, true, true, true, false, true, true, false, false, false, false, false, false, false]) rfl (by kernel_rfl) rfl (V.fieldAddr rfl fo_40_1) rfl rfl ?_
          refine XQ.load (i := 9) (l' := #[true, true, true, true, true, true, false, true, true, true, false, false, false, false, false, false]) (.cells _ _ _ _) [13, 14] rfl (by kernel_rfl) rfl .here (V.load rfl inEnt (encAct.ld_A _) sc_3) rfl (by kernel_rfl) rfl ?_
          refine XQ.pv (i := 10) (l' := #[true, true, true, true, true, true, false, true, true, true, true, false, false, false, false, false]) rfl (by kernel_rfl) rfl (V.fieldAddr rfl fo_40_3) rfl rfl ?_
          refine XQ.load (i := 11) (l' := #[true, true, true, true, true, true, false, true, true, true, true, true, false, false, false, false]) (.cells _ _ _ _) [13, 14] rfl (by kernel_rfl) rfl .here (V.load rfl inEnt (encAct.ld_C _) sc_3) rfl (by kernel_rfl) rfl ?_
          refine XQ.pv (i := 12) (l' := #[true, true, true, true, true, true, false, true, true, true, true, true, true, false, false, false]) rfl (by kernel_rfl) rfl (V.convInt rfl Tryd.underlying3 Tryd.underlying5 _ rfl) rfl rfl ?_
          refine XQ.callR (i := 6) (l' := #[true, true, true, true, true, true, true, true, true, true, true, true, true, false, false, false]) 4 rfl (by kernel_rfl) rfl rfl (v_Store _ _ _ _ hv _ _ _ hm _ _) (.cons (.there .here) (.cons (.there .here) (.cons (.there .here) (.cons (.there .here) (.cons (.t4 .here) .nil))))) rfl cl_23 rfl (by rintro _ _ ⟨rfl, rfl⟩; all_goals (intro _ hw'; exact ⟨fun _ => inXM (.t5 .here) _ hw', fun _ => inXM (.t5 .here) _ hw', fun hs => (hs 6 (by first | (simp; done) | (simp; rfl)) rfl).elim, fun hs => (hs 6 (by first | (simp; done) | (simp; rfl)) rfl).elim, trivial⟩)) ?_
          rintro _ _ ⟨rfl, rfl⟩
          refine XQ.call (i := 13) (l' := #[true, true, true, true, true, true, true, true, true, true, true, true, true, true, false, false]) rfl (by kernel_rfl) rfl rfl (r_Store _ _ _ _ hv _ hm hin _ _) (.cons (.t6 .here) (.cons (.t6 .here) (.cons (.t6 .here) .nil))) cl_36 rfl (by rintro _ _ ⟨rfl, rfl⟩; all_goals (intro _ hw'; exact ⟨fun hs => (hs 13 (by first | (simp; done) | (simp; rfl)) rfl).elim, fun hs => (hs 13 (by first | (simp; done) | (simp; rfl)) rfl).elim, fun hs => (hs 6 (by first | (simp; done) | (simp; rfl)) rfl).elim, fun hs => (hs 6 (by first | (simp; done) | (simp; rfl)) rfl).elim, trivial⟩)) ?_
          rintro _ _ ⟨rfl, rfl⟩
          refine XQ.call (i := 14) (l' := #[true, true, true, true, true, true, true, true, true, true, true, true, true, true, true, false]) rfl (by kernel_rfl) rfl rfl (same_any _ _ (MS.store_nn _ _ _ _)) .nil cl_17 rfl (by rintro _ _ ⟨rfl, rfl⟩; all_goals (intro _ hw'; exact ⟨fun hs => (hs 13 (by first | (simp; done) | (simp; rfl)) rfl).elim, fun hs => (hs 13 (by first | (simp; done) | (simp; rfl)) rfl).elim, fun hs => (hs 6 (by first | (simp; done) | (simp; rfl)) rfl).elim, fun hs => (hs 6 (by first | (simp; done) | (simp; rfl)) rfl).elim, trivial⟩)) ?_
          rintro _ _ ⟨rfl, rfl⟩
          refine XQ.pv (i := 15) (l' := #[true, true, true, true, true, true, true, true, true, true, true, true, true, true, true, true]) rfl (by kernel_rfl) rfl (V.assign rfl) rfl rfl ?_
          refine XQ.done (by kernel_rfl) ?_
          refine gE ?_
          refine XE.ret1 rfl rfl (post_of (.cons (.t3 .here) (.cons (.t3 .here) (.cons (.t3 .here) (.cons (.t3 .here) .h3)))) rfl ?_)
          rw [MS.act_store k1 k2 k3 k4]; exact ⟨congrArg Value.bool (by simp), p, c, by rw [MS.store_is]⟩
end Go.X
