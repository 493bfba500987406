import Derived.Test.YtojlnbjpiccliaaGTM
import Derived.Test.YtojlnbjpiccliaaGL1
namespace Go.X
open Go Go.Proofs
theorem ag_31 : aggT Try.prog 31 = true := by kernel_rfl
theorem ar_60 : arrOf Try.prog 60 = some (2, 1) := by kernel_rfl
theorem ar_61 : arrOf Try.prog 61 = some (10, 2) := by kernel_rfl
theorem cl_10 : callable Try.prog 10 = true := by kernel_rfl
theorem cl_26 : callable Try.prog 26 = true := by kernel_rfl
theorem cl_28 : callable Try.prog 28 = true := by kernel_rfl
theorem cl_30 : callable Try.prog 30 = true := by kernel_rfl
theorem cl_31 : callable Try.prog 31 = true := by kernel_rfl
theorem cl_32 : callable Try.prog 32 = true := by kernel_rfl
theorem cl_33 : callable Try.prog 33 = true := by kernel_rfl
theorem cl_34 : callable Try.prog 34 = true := by kernel_rfl
theorem cl_39 : callable Try.prog 39 = true := by kernel_rfl
theorem cl_40 : callable Try.prog 40 = true := by kernel_rfl
theorem cl_41 : callable Try.prog 41 = true := by kernel_rfl
theorem cl_42 : callable Try.prog 42 = true := by kernel_rfl
theorem cl_43 : callable Try.prog 43 = true := by kernel_rfl
theorem cl_44 : callable Try.prog 44 = true := by kernel_rfl
theorem cl_45 : callable Try.prog 45 = true := by kernel_rfl
theorem fo_31_0 : fieldOff Try.prog 31 0 = some 0 := by kernel_rfl
theorem fo_31_1 : fieldOff Try.prog 31 1 = some 1 := by kernel_rfl
theorem fo_31_2 : fieldOff Try.prog 31 2 = some 2 := by kernel_rfl
theorem fo_31_3 : fieldOff Try.prog 31 3 = some 3 := by kernel_rfl
theorem fo_31_4 : fieldOff Try.prog 31 4 = some 4 := by kernel_rfl
theorem sc_29 : scal Try.prog 29 = true := by kernel_rfl
theorem sc_9 : scal Try.prog 9 = true := by kernel_rfl
theorem sl_22 : sliceOf Try.prog 22 = some (31, 8) := by kernel_rfl
theorem sz_31_8 : szOf Try.prog 31 = some 8 := by kernel_rfl
set_option maxRecDepth 10000 in
set_option maxHeartbeats 2000000 in
theorem summed_any (bs : Nat) (s : TG) (hI : s.Inv) (Bd : Int) (hB : 0 ≤ Bd ∧ Bd ≤ 1000000) (hS : s.Small Bd) (f g : Int → Int) (hOw : s.Own f g) (w : Int → GV) (hW : ∀ n, 0 ≤ n → n < 10 → s.here n = true → (0 ≤ s.mp n → s.pr n ≤ s.mp n ∨ s.pr n ≤ (w n).pr) ∧ (0 ≤ s.mg n → s.pg n ≤ s.mg n ∨ s.pg n ≤ (w n).pg)) : Spec Try.prog 47 [ptr bs 0 0, .agg (arrO f g), .agg (arrW w)]
    [.cells bs 0 60 (encGt s)]
    (fun v H1 => v = .bool true ∧ H1 = [.cells bs 0 60 (encGt s)]) := by
  have hO := hI.ok
  have hHd := hO.all_head
  have hal : s.all.length ≤ 10 := allK_len s.here 10
  have hfb : ∀ x, 0 ≤ x → x < 10 → s.here x = true → -(Bd * 11) ≤ f x ∧ f x ≤ Bd * 11 := fun x x0 x1 x2 => by
    rw [(hOw x x0 x1 x2).1]; exact (TG.left_small hS (by omega) x0 x1).1
  have hgb : ∀ x, 0 ≤ x → x < 10 → s.here x = true → -(Bd * 11) ≤ g x ∧ g x ≤ Bd * 11 := fun x x0 x1 x2 => by
    rw [(hOw x x0 x1 x2).2]; exact (TG.left_small hS (by omega) x0 x1).2
  refine Spec.intro Try.func47 rfl rfl ?_
  intro W
  refine XC.seq ?_
  refine XC.region ?_
  refine XO.box (m := 20) (C := encO f g) rfl (arrO_size f g) (encO.box f g) rfl ?_
  intro bo
  refine XO.box (m := 50) (C := encW w) rfl (arrW_size w) (encW.box w) rfl ?_
  intro bw
  refine XO.v (V.assign rfl) rfl ?_
  refine XO.nil ?_
  refine XE.next ?_
  refine XC.keep [(0, _), (4, _), (5, _)] (Sub.cons rfl (Sub.cons rfl (Sub.cons rfl (Sub.nil _)))) ?_
  refine XC.seq ?_
  refine XC.region ?_
  refine XO.v (V.move rfl) rfl ?_
  refine XO.call rfl (g_all _ _ _) (.cons (.there (.there .here)) .nil) cl_86 rfl ?_
  rintro _ _ ⟨pl, cl, rfl, rfl⟩
  refine XO.v (V.assign rfl) rfl ?_
  refine XO.nil ?_
  refine XE.next ?_
  refine XC.keep [(0, _), (4, _), (5, _), (7, _)] (Sub.cons rfl (Sub.cons rfl (Sub.cons rfl (Sub.cons rfl (Sub.nil _))))) ?_
  refine XC.seq ?_
  refine XC.region ?_
  refine XO.allocZ (z := .agg (arrO (fun _ => 0) (fun _ => 0))) (m := 20) (C := encO (fun _ => 0) (fun _ => 0)) (by kernel_rfl) (arrO_size _ _) (encO.box _ _) rfl ?_
  intro bu
  refine XO.nil ?_
  refine XE.next ?_
  refine XC.keep [(0, _), (4, _), (5, _), (7, _), (8, _)] (Sub.cons rfl (Sub.cons rfl (Sub.cons rfl (Sub.cons rfl (Sub.cons rfl (Sub.nil _)))))) ?_
  refine XC.seq ?_
  refine XC.seq ?_
  refine XC.region ?_
  refine XO.v (V.assign rfl) rfl ?_
  refine XO.nil ?_
  refine XE.next ?_
  refine XC.keep [(0, _), (4, _), (5, _), (7, _), (8, _), (9, _)] (Sub.cons rfl (Sub.cons rfl (Sub.cons rfl (Sub.cons rfl (Sub.cons rfl (Sub.cons rfl (Sub.nil _))))))) ?_
  refine XC.block ?_
  refine XC.loop (σ := Int) (fun i => (s.all.length - i).toNat) (fun i => 0 ≤ i ∧ i ≤ s.all.length) (fun i => [(9, .int .i64 i), (0, ptr bs 0 0), (4, ptr bo 0 0), (5, ptr bw 0 0), (7, .slice pl s.all.length cl), (8, ptr bu 0 0)]) (fun i => XM W (foot [.cells bs 0 60 (encGt s)]) [irow pl cl 3 s.all, .cells bo 0 20 (encO f g), .cells bw 0 50 (encW w), .cells bu 0 20 (encO (wsum s.cnt f (s.all.take i.toNat)) (wsum s.cnt g (s.all.take i.toNat))), .cells bs 0 60 (encGt s)]) (0) ?_ (Sub.cons rfl (Sub.cons rfl (Sub.cons rfl (Sub.cons rfl (Sub.cons rfl (Sub.cons rfl (Sub.nil _))))))) (fun _ hw => XM.pick (.cons (.there .here) (.cons (.there (.there (.there .here))) (.cons (.there (.there .here)) (.cons .here (.cons .here .nil))))) hw) ?_
  · skip
    omega
  intro i hi
  refine XC.seq ?_
  refine XC.seq ?_
  refine XC.region ?_
  refine XO.v (V.move rfl) rfl ?_
  refine XO.v (V.move rfl) rfl ?_
  refine XO.v (V.lenSl rfl Try.underlying85) rfl ?_
  refine XO.v (V.cmp rfl rfl rfl) rfl ?_
  refine XO.nil ?_
  refine XE.next ?_
  refine XC.keep [(0, _), (4, _), (5, _), (7, _), (8, _), (9, _), (21, _)] (Sub.cons rfl (Sub.cons rfl (Sub.cons rfl (Sub.cons rfl (Sub.cons rfl (Sub.cons rfl (Sub.cons rfl (Sub.nil _)))))))) ?_
  refine XC.condP rfl (fun h1 => ?_) (fun h1 => ?_)
  · skip
    obtain ⟨a0, a1, a2⟩ : 0 ≤ at0 s.all i ∧ at0 s.all i < 10 ∧ s.here (at0 s.all i) = true := (allK_mem s.here 10 _).1 (at0_mem' hi.1 (show i < s.all.length from by omega))
    have hon := hOw _ a0 a1 a2
    have hin := hI.own _ a0 a1 a2
    have hway := hO.way a0 a1 a2
    have hfa := hfb _ a0 a1 a2
    have hga := hgb _ a0 a1 a2
    refine XC.skip ?_
    refine XE.next ?_
    refine XC.keep [(0, _), (4, _), (5, _), (7, _), (8, _), (9, _)] (Sub.cons rfl (Sub.cons rfl (Sub.cons rfl (Sub.cons rfl (Sub.cons rfl (Sub.cons rfl (Sub.nil _))))))) ?_
    refine XC.seq ?_
    refine XC.block ?_
    refine XC.seq ?_
    refine XC.seq ?_
    refine XC.openRow .here (by omega) ?_
    intro gA h2
    subst h2
    refine XC.region ?_
    refine XO.v (V.move rfl) rfl ?_
    refine XO.v (V.move rfl) rfl ?_
    refine XO.v (V.indexSl rfl rfl sl_85 (by omega)) rfl ?_
    refine XO.v (V.loadRow rfl (inXM .here) (ints_at (by omega)) sc_3) rfl ?_
    refine XO.v (V.indexArr rfl rfl ar_61 (by omega)) rfl ?_
    refine XO.v (V.indexArr rfl rfl ar_60 (by omega)) rfl ?_
    refine XO.v (V.load rfl (inXM (.there .here)) (encO.ld0 _ _ _ (by omega)) sc_3) rfl ?_
    refine XO.v (V.cmp rfl rfl rfl) rfl ?_
    refine XO.v (V.move rfl) rfl ?_
    refine XO.splitF (d := 32) rfl (by omega) ?_
    refine XO.guardRun rfl rfl rfl ?_
    refine XO.v (V.move rfl) rfl ?_
    refine XO.guardRun rfl rfl rfl ?_
    refine XO.v (V.move rfl) rfl ?_
    refine XO.guardRun rfl rfl rfl ?_
    refine XO.v (V.indexSl rfl rfl sl_85 (by omega)) rfl ?_
    refine XO.guardRun rfl rfl rfl ?_
    refine XO.v (V.loadRow rfl (inXM .here) (ints_at (by omega)) sc_3) rfl ?_
    refine XO.guardRun rfl rfl rfl ?_
    refine XO.v (V.indexArr rfl rfl ar_61 (by omega)) rfl ?_
    refine XO.guardRun rfl rfl rfl ?_
    refine XO.v (V.indexArr rfl rfl ar_60 (by omega)) rfl ?_
    refine XO.guardRun rfl rfl rfl ?_
    refine XO.v (V.load rfl (inXM (.there .here)) (encO.ld1 _ _ _ (by omega)) sc_3) rfl ?_
    refine XO.guardRun rfl rfl rfl ?_
    refine XO.v (V.cmp rfl rfl rfl) rfl ?_
    refine XO.v (V.pick rfl rfl rfl rfl) rfl ?_
    refine XO.nil ?_
    refine XE.next ?_
    refine XC.keep [(0, _), (4, _), (5, _), (7, _), (8, _), (9, _), (41, _)] (Sub.cons rfl (Sub.cons rfl (Sub.cons rfl (Sub.cons rfl (Sub.cons rfl (Sub.cons rfl (Sub.cons rfl (Sub.nil _)))))))) ?_
    refine XC.condFP rfl (by omega) ?_
    refine XC.skip ?_
    refine XE.next ?_
    refine XC.keep [(0, _), (4, _), (5, _), (7, _), (8, _), (9, _)] (Sub.cons rfl (Sub.cons rfl (Sub.cons rfl (Sub.cons rfl (Sub.cons rfl (Sub.cons rfl (Sub.nil _))))))) ?_
    refine XC.seq ?_
    refine XC.region ?_
    refine XO.v (V.move rfl) rfl ?_
    refine XO.v (V.move rfl) rfl ?_
    refine XO.v (V.indexSl rfl rfl sl_85 (by omega)) rfl ?_
    refine XO.v (V.loadRow rfl (inXM .here) (ints_at (by omega)) sc_3) rfl ?_
    refine XO.v (V.assign rfl) rfl ?_
    refine XO.nil ?_
    refine XE.next ?_
    refine XC.keep [(0, _), (4, _), (5, _), (7, _), (8, _), (9, _), (10, _)] (Sub.cons rfl (Sub.cons rfl (Sub.cons rfl (Sub.cons rfl (Sub.cons rfl (Sub.cons rfl (Sub.cons rfl (Sub.nil _)))))))) ?_
    refine XC.block ?_
    refine XC.loop (σ := List Int × List Int × Int) (fun y => y.2.1.length) (fun y => y.1 ++ y.2.1 = s.way (at0 s.all i) ∧ IsWay s.par y.2.2 y.2.1) (fun y => [(10, .int .i64 y.2.2), (0, ptr bs 0 0), (4, ptr bo 0 0), (5, ptr bw 0 0), (7, .slice (some ⟨gA, 0, none⟩) s.all.length cl), (8, ptr bu 0 0), (9, .int .i64 i)]) (fun y => XM W (foot [.cells bs 0 60 (encGt s)]) [irow (some ⟨gA, 0, none⟩) cl 3 s.all, .cells bo 0 20 (encO f g), .cells bw 0 50 (encW w), .cells bu 0 20 (encO (fun n => wsum s.cnt f (s.all.take i.toNat) n + (y.1.count n : Int) * f (at0 s.all i)) (fun n => wsum s.cnt g (s.all.take i.toNat) n + (y.1.count n : Int) * g (at0 s.all i))), .cells bs 0 60 (encGt s)]) (([], s.way (at0 s.all i), (at0 s.all i))) ?_ (Sub.cons rfl (Sub.cons rfl (Sub.cons rfl (Sub.cons rfl (Sub.cons rfl (Sub.cons rfl (Sub.cons rfl (Sub.nil _)))))))) (fun _ hw => by rw [part_nil, part_nil]; exact XM.pick (.cons .here (.cons .here (.cons .here (.cons .here (.cons .here .nil))))) hw) ?_
    · skip
      exact ⟨rfl, hway.1⟩
    intro y hy
    obtain ⟨hy1, hy2⟩ := hy
    refine XC.seq ?_
    refine XC.seq ?_
    refine XC.region ?_
    refine XO.v (V.move rfl) rfl ?_
    refine XO.v (V.cmp rfl rfl rfl) rfl ?_
    refine XO.nil ?_
    refine XE.next ?_
    refine XC.keep [(0, _), (4, _), (5, _), (7, _), (8, _), (9, _), (10, _), (47, _)] (Sub.cons rfl (Sub.cons rfl (Sub.cons rfl (Sub.cons rfl (Sub.cons rfl (Sub.cons rfl (Sub.cons rfl (Sub.cons rfl (Sub.nil _))))))))) ?_
    refine XC.condP rfl (fun h4 => ?_) (fun h4 => ?_)
    · skip
      obtain ⟨r2, hr1, q0, q1, hr4⟩ : ∃ r2, y.2.1 = y.2.2 :: r2 ∧ 0 ≤ y.2.2 ∧ y.2.2 < 10 ∧ IsWay s.par (s.par y.2.2) r2 := by
        match hyr : y.2.1, hy2 with
        | [], hr => exact absurd hr (by show ¬ y.2.2 < 0; omega)
        | z :: r2, hr => exact ⟨r2, by rw [hr.1], hr.2.1, hr.2.2.1, hr.2.2.2⟩
      have q2 : s.here y.2.2 = true := hway.2.2 _ (by rw [← hy1, hr1]; simp)
      have hq0 : s.isE y.2.2 = 0 := TG.isE_of q0 q1 q2
      have hlen : y.1.length ≤ 5 := by
        have h9 := congrArg List.length hy1
        simp only [List.length_append] at h9
        have := hway.2.1
        omega
      have w1 := wsum_small hO hB.1 hfb i.toNat y.2.2
      have w2 := wsum_small hO hB.1 hgb i.toNat y.2.2
      have p1 := part_small hlen (by omega) hfa y.2.2
      have p2 := part_small hlen (by omega) hga y.2.2
      have hpq : s.par y.2.2 < 10 := by
        by_cases c : y.2.2 = 0
        · rw [c, hO.root.2]; omega
        · exact (hO.kid_here q0 q1 q2 c).2.1
      refine XC.skip ?_
      refine XE.next ?_
      refine XC.keep [(0, _), (4, _), (5, _), (7, _), (8, _), (9, _), (10, _)] (Sub.cons rfl (Sub.cons rfl (Sub.cons rfl (Sub.cons rfl (Sub.cons rfl (Sub.cons rfl (Sub.cons rfl (Sub.nil _)))))))) ?_
      refine XC.block ?_
      refine XC.seq ?_
      refine XC.regionQ mixed (f := 16) (l := #[false, false, false, false, false, false, false, false, false, false, false, false, false, false, false, false]) rfl rfl XM.drawn' ?_
      refine XQ.pv (i := 0) (l' := #[true, false, false, false, false, false, false, false, false, false, false, false, false, false, false, false]) rfl (by kernel_rfl) rfl (V.move rfl) rfl rfl ?_
      refine XQ.pv (i := 1) (l' := #[true, true, false, false, false, false, false, false, false, false, false, false, false, false, false, false]) rfl (by kernel_rfl) rfl (V.move rfl) rfl rfl ?_
      refine XQ.pv (i := 2) (l' := #[true, true, true, false, false, false, false, false, false, false, false, false, false, false, false, false]) rfl (by kernel_rfl) rfl (V.indexArr rfl rfl ar_61 (by omega)) rfl rfl ?_
      refine XQ.pv (i := 3) (l' := #[true, true, true, true, false, false, false, false, false, false, false, false, false, false, false, false]) rfl (by kernel_rfl) rfl (V.indexArr rfl rfl ar_60 (by omega)) rfl rfl ?_
      refine XQ.load (i := 4) (l' := #[true, true, true, true, true, false, false, false, false, false, false, false, false, false, false, false]) (.cells _ _ _ _) [15] rfl (by kernel_rfl) rfl (.there (.there (.there .here))) (V.load rfl inEnt (encO.ld0 _ _ _ (by omega)) sc_3) rfl (by kernel_rfl) rfl ?_
      refine XQ.pv (i := 5) (l' := #[true, true, true, true, true, true, false, false, false, false, false, false, false, false, false, false]) rfl (by kernel_rfl) rfl (V.move rfl) rfl rfl ?_
      refine XQ.pv (i := 6) (l' := #[true, true, true, true, true, true, true, false, false, false, false, false, false, false, false, false]) rfl (by kernel_rfl) rfl (V.move rfl) rfl rfl ?_
      refine XQ.pv (i := 7) (l' := #[true, true, true, true, true, true, true, true, false, false, false, false, false, false, false, false]) rfl (by kernel_rfl) rfl (V.indexSl rfl rfl sl_85 (by omega)) rfl rfl ?_
      refine XQ.load (i := 8) (l' := #[true, true, true, true, true, true, true, true, true, false, false, false, false, false, false, false]) (.row _ _ _ _ _) [15] rfl (by kernel_rfl) rfl .here (V.loadRow rfl inEnt (ints_at (by omega)) sc_3) rfl (by kernel_rfl) rfl ?_
      refine XQ.pv (i := 9) (l' := #[true, true, true, true, true, true, true, true, true, true, false, false, false, false, false, false]) rfl (by kernel_rfl) rfl (V.indexArr rfl rfl ar_61 (by omega)) rfl rfl ?_
      refine XQ.pv (i := 10) (l' := #[true, true, true, true, true, true, true, true, true, true, true, false, false, false, false, false]) rfl (by kernel_rfl) rfl (V.indexArr rfl rfl ar_60 (by omega)) rfl rfl ?_
      refine XQ.load (i := 11) (l' := #[true, true, true, true, true, true, true, true, true, true, true, true, false, false, false, false]) (.cells _ _ _ _) [15] rfl (by kernel_rfl) rfl (.there .here) (V.load rfl inEnt (encO.ld0 _ _ _ (by omega)) sc_3) rfl (by kernel_rfl) rfl ?_
      refine XQ.pv (i := 12) (l' := #[true, true, true, true, true, true, true, true, true, true, true, true, true, false, false, false]) rfl (by kernel_rfl) rfl (V.add rfl rfl _ (IntWalk.i64_in _ (by show _ ≤ wsum s.cnt f (s.all.take i.toNat) y.2.2 + (y.1.count y.2.2 : Int) * f (at0 s.all i) + f (at0 s.all i) ∧ wsum s.cnt f (s.all.take i.toNat) y.2.2 + (y.1.count y.2.2 : Int) * f (at0 s.all i) + f (at0 s.all i) ≤ _; omega))) rfl rfl ?_
      refine XQ.pv (i := 13) (l' := #[true, true, true, true, true, true, true, true, true, true, true, true, true, true, false, false]) rfl (by kernel_rfl) rfl (V.indexArr rfl rfl ar_61 (by omega)) rfl rfl ?_
      refine XQ.pv (i := 14) (l' := #[true, true, true, true, true, true, true, true, true, true, true, true, true, true, true, false]) rfl (by kernel_rfl) rfl (V.indexArr rfl rfl ar_60 (by omega)) rfl rfl ?_
      refine XQ.store (i := 15) (l' := #[true, true, true, true, true, true, true, true, true, true, true, true, true, true, true, true]) rfl (by kernel_rfl) rfl rfl rfl (.there (.there (.there .here))) (encO.st0 _ _ _ _ (by omega)) rfl sz_3_1 (fun _ hw' => ⟨fun hs => (hs 15 (by simp) rfl).elim, fun hs => (hs 15 (by simp) rfl).elim, fun hs => (hs 15 (by simp) rfl).elim, trivial⟩) ?_
      refine XQ.done (by kernel_rfl) ?_
      refine XE.next ?_
      refine XC.keep [(0, _), (4, _), (5, _), (7, _), (8, _), (9, _), (10, _)] (Sub.cons rfl (Sub.cons rfl (Sub.cons rfl (Sub.cons rfl (Sub.cons rfl (Sub.cons rfl (Sub.cons rfl (Sub.nil _)))))))) ?_
      refine XC.seq ?_
      refine XC.regionQ mixed (f := 16) (l := #[false, false, false, false, false, false, false, false, false, false, false, false, false, false, false, false]) rfl rfl XM.drawn' ?_
      refine XQ.pv (i := 0) (l' := #[true, false, false, false, false, false, false, false, false, false, false, false, false, false, false, false]) rfl (by kernel_rfl) rfl (V.move rfl) rfl rfl ?_
      refine XQ.pv (i := 1) (l' := #[true, true, false, false, false, false, false, false, false, false, false, false, false, false, false, false]) rfl (by kernel_rfl) rfl (V.move rfl) rfl rfl ?_
      refine XQ.pv (i := 2) (l' := #[true, true, true, false, false, false, false, false, false, false, false, false, false, false, false, false]) rfl (by kernel_rfl) rfl (V.indexArr rfl rfl ar_61 (by omega)) rfl rfl ?_
      refine XQ.pv (i := 3) (l' := #[true, true, true, true, false, false, false, false, false, false, false, false, false, false, false, false]) rfl (by kernel_rfl) rfl (V.indexArr rfl rfl ar_60 (by omega)) rfl rfl ?_
      refine XQ.load (i := 4) (l' := #[true, true, true, true, true, false, false, false, false, false, false, false, false, false, false, false]) (.cells _ _ _ _) [15] rfl (by kernel_rfl) rfl (.there (.there (.there .here))) (V.load rfl inEnt (encO.ld1 _ _ _ (by omega)) sc_3) rfl (by kernel_rfl) rfl ?_
      refine XQ.pv (i := 5) (l' := #[true, true, true, true, true, true, false, false, false, false, false, false, false, false, false, false]) rfl (by kernel_rfl) rfl (V.move rfl) rfl rfl ?_
      refine XQ.pv (i := 6) (l' := #[true, true, true, true, true, true, true, false, false, false, false, false, false, false, false, false]) rfl (by kernel_rfl) rfl (V.move rfl) rfl rfl ?_
      refine XQ.pv (i := 7) (l' := #[true, true, true, true, true, true, true, true, false, false, false, false, false, false, false, false]) rfl (by kernel_rfl) rfl (V.indexSl rfl rfl sl_85 (by omega)) rfl rfl ?_
      refine XQ.load (i := 8) (l' := #[true, true, true, true, true, true, true, true, true, false, false, false, false, false, false, false]) (.row _ _ _ _ _) [15] rfl (by kernel_rfl) rfl .here (V.loadRow rfl inEnt (ints_at (by omega)) sc_3) rfl (by kernel_rfl) rfl ?_
      refine XQ.pv (i := 9) (l' := #[true, true, true, true, true, true, true, true, true, true, false, false, false, false, false, false]) rfl (by kernel_rfl) rfl (V.indexArr rfl rfl ar_61 (by omega)) rfl rfl ?_
      refine XQ.pv (i := 10) (l' := #[true, true, true, true, true, true, true, true, true, true, true, false, false, false, false, false]) rfl (by kernel_rfl) rfl (V.indexArr rfl rfl ar_60 (by omega)) rfl rfl ?_
      refine XQ.load (i := 11) (l' := #[true, true, true, true, true, true, true, true, true, true, true, true, false, false, false, false]) (.cells _ _ _ _) [15] rfl (by kernel_rfl) rfl (.there .here) (V.load rfl inEnt (encO.ld1 _ _ _ (by omega)) sc_3) rfl (by kernel_rfl) rfl ?_
      refine XQ.pv (i := 12) (l' := #[true, true, true, true, true, true, true, true, true, true, true, true, true, false, false, false]) rfl (by kernel_rfl) rfl (V.add rfl rfl _ (IntWalk.i64_in _ (by show _ ≤ wsum s.cnt g (s.all.take i.toNat) y.2.2 + (y.1.count y.2.2 : Int) * g (at0 s.all i) + g (at0 s.all i) ∧ wsum s.cnt g (s.all.take i.toNat) y.2.2 + (y.1.count y.2.2 : Int) * g (at0 s.all i) + g (at0 s.all i) ≤ _; omega))) rfl rfl ?_
      refine XQ.pv (i := 13) (l' := #[true, true, true, true, true, true, true, true, true, true, true, true, true, true, false, false]) rfl (by kernel_rfl) rfl (V.indexArr rfl rfl ar_61 (by omega)) rfl rfl ?_
      refine XQ.pv (i := 14) (l' := #[true, true, true, true, true, true, true, true, true, true, true, true, true, true, true, false]) rfl (by kernel_rfl) rfl (V.indexArr rfl rfl ar_60 (by omega)) rfl rfl ?_
      refine XQ.store (i := 15) (l' := #[true, true, true, true, true, true, true, true, true, true, true, true, true, true, true, true]) rfl (by kernel_rfl) rfl rfl rfl (.there (.there (.there .here))) (encO.st1 _ _ _ _ (by omega)) rfl sz_3_1 (fun _ hw' => ⟨fun hs => (hs 15 (by simp) rfl).elim, fun hs => (hs 15 (by simp) rfl).elim, fun hs => (hs 15 (by simp) rfl).elim, trivial⟩) ?_
      refine XQ.done (by kernel_rfl) ?_
      refine XE.next ?_
      refine XC.keep [(0, _), (4, _), (5, _), (7, _), (8, _), (9, _), (10, _)] (Sub.cons rfl (Sub.cons rfl (Sub.cons rfl (Sub.cons rfl (Sub.cons rfl (Sub.cons rfl (Sub.cons rfl (Sub.nil _)))))))) ?_
      refine XC.seq ?_
      refine XC.region ?_
      refine XO.v (V.move rfl) rfl ?_
      refine XO.v (V.move rfl) rfl ?_
      refine XO.call rfl (g_of _ _ _ _) (.cons (.there (.there (.there (.there .here)))) .nil) cl_46 rfl ?_
      rintro _ _ ⟨rfl, rfl⟩
      refine XO.v (V.move rfl) rfl ?_
      refine XO.v (V.extract rfl rfl) rfl ?_
      refine XO.v (V.extract rfl rfl) rfl ?_
      refine XO.allocZ (z := .agg GV.zero.arr) (m := 5) (C := encV GV.zero) (by kernel_rfl) rfl (encV_box _) rfl ?_
      intro bg
      refine XO.storeAgg rfl rfl .here (encV_st _ _) ⟨rfl, rfl⟩ sz_63_5 ?_
      refine XO.v (V.assign rfl) rfl ?_
      refine XO.nil ?_
      refine XE.next ?_
      refine XC.keep [(0, _), (4, _), (5, _), (7, _), (8, _), (9, _), (11, _), (12, _)] (Sub.cons rfl (Sub.cons rfl (Sub.cons rfl (Sub.cons rfl (Sub.cons rfl (Sub.cons rfl (Sub.cons rfl (Sub.cons rfl (Sub.nil _))))))))) ?_
      refine XC.seq ?_
      refine XC.seq ?_
      refine XC.region ?_
      rw [if_pos hq0]
      refine XO.v (V.move rfl) rfl ?_
      refine XO.v (V.errNil rfl Try.underlying33 rfl) rfl ?_
      refine XO.v (V.move rfl) rfl ?_
      refine XO.splitF (d := 86) rfl (by simp [hq0]) ?_
      refine XO.guardRun rfl rfl rfl ?_
      refine XO.v (V.fieldAddr rfl fo_63_0) rfl ?_
      refine XO.guardRun rfl rfl rfl ?_
      refine XO.v (V.load rfl (inXM .here) (encV.ld_Parent _) sc_3) rfl ?_
      refine XO.guardRun rfl rfl rfl ?_
      refine XO.v (V.cmp rfl rfl rfl) rfl ?_
      refine XO.v (V.pick rfl rfl rfl rfl) rfl ?_
      refine XO.nil ?_
      refine XE.next ?_
      refine XC.keep [(0, _), (4, _), (5, _), (7, _), (8, _), (9, _), (11, _), (90, _)] (Sub.cons rfl (Sub.cons rfl (Sub.cons rfl (Sub.cons rfl (Sub.cons rfl (Sub.cons rfl (Sub.cons rfl (Sub.cons rfl (Sub.nil _))))))))) ?_
      refine XC.condFP rfl (by show ¬ s.par y.2.2 ≥ 10; omega) ?_
      refine XC.skip ?_
      refine XE.next ?_
      refine XC.keep [(0, _), (4, _), (5, _), (7, _), (8, _), (9, _), (11, _)] (Sub.cons rfl (Sub.cons rfl (Sub.cons rfl (Sub.cons rfl (Sub.cons rfl (Sub.cons rfl (Sub.cons rfl (Sub.nil _)))))))) ?_
      refine XC.region ?_
      refine XO.v (V.fieldAddr rfl fo_63_0) rfl ?_
      refine XO.v (V.load rfl (inXM .here) (encV.ld_Parent _) sc_3) rfl ?_
      refine XO.v (V.assign rfl) rfl ?_
      refine XO.nil ?_
      refine XE.blockNormal ?_
      refine XE.again ((y.1 ++ [y.2.2], r2, s.par y.2.2)) ?_ ?_ (Sub.cons rfl (Sub.cons rfl (Sub.cons rfl (Sub.cons rfl (Sub.cons rfl (Sub.cons rfl (Sub.cons rfl (Sub.nil _)))))))) (fun _ hw => by rw [← part_step, ← part_step]; exact XM.pick (.cons (.there (.there .here)) (.cons (.there (.there .here)) (.cons (.there (.there .here)) (.cons (.there (.there .here)) (.cons (.there .here) .nil))))) hw)
      · skip
        rw [hr1]; simp
      · skip
        exact ⟨by rw [← hy1, hr1]; simp, hr4⟩
    · skip
      have hyn : y.2.1 = [] := by
        match hyr : y.2.1, hy2 with
        | [], _ => rfl
        | z :: r2, hr => exact absurd hr.2.1 (by omega)
      have hyp : y.1 = s.way (at0 s.all i) := by rw [hyn, List.append_nil] at hy1; exact hy1
      refine XC.exit ?_
      refine XE.thenExit ?_
      refine XE.thenExit ?_
      refine XE.blockExit ?_
      refine XE.blockNormal ?_
      refine XE.next ?_
      refine XC.keep [(0, _), (4, _), (5, _), (7, _), (8, _), (9, _)] (Sub.cons rfl (Sub.cons rfl (Sub.cons rfl (Sub.cons rfl (Sub.cons rfl (Sub.cons rfl (Sub.nil _))))))) ?_
      refine XC.region ?_
      refine XO.v (V.move rfl) rfl ?_
      refine XO.v (V.add rfl rfl _ (IntWalk.i64_in _ (by omega))) rfl ?_
      refine XO.v (V.assign rfl) rfl ?_
      refine XO.nil ?_
      refine XE.again (i + 1) ?_ ?_ (Sub.cons rfl (Sub.cons rfl (Sub.cons rfl (Sub.cons rfl (Sub.cons rfl (Sub.cons rfl (Sub.nil _))))))) (fun _ hw => by rw [part_all f hi.1 (by omega) hyp, part_all g hi.1 (by omega) hyp] at hw; exact XM.pick (.cons .here (.cons .here (.cons .here (.cons .here (.cons .here .nil))))) hw)
      · skip
        (first | omega | (simp; done) | (simp; omega))
      · skip
        (first | omega | (simp; done) | (simp; omega))
  · skip
    refine XC.exit ?_
    refine XE.thenExit ?_
    refine XE.thenExit ?_
    refine XE.blockExit ?_
    refine XE.next ?_
    refine XC.keep [(0, _), (5, _), (7, _), (8, _)] (Sub.cons rfl (Sub.cons rfl (Sub.cons rfl (Sub.cons rfl (Sub.nil _))))) ?_
    refine XC.seq ?_
    refine XC.seq ?_
    refine XC.region ?_
    refine XO.v (V.assign rfl) rfl ?_
    refine XO.nil ?_
    refine XE.next ?_
    refine XC.keep [(0, _), (5, _), (7, _), (8, _), (13, _)] (Sub.cons rfl (Sub.cons rfl (Sub.cons rfl (Sub.cons rfl (Sub.cons rfl (Sub.nil _)))))) ?_
    refine XC.block ?_
    refine XC.loop (σ := Int) (fun i2 => (s.all.length - i2).toNat) (fun i2 => 0 ≤ i2 ∧ i2 ≤ s.all.length) (fun i2 => [(13, .int .i64 i2), (0, ptr bs 0 0), (5, ptr bw 0 0), (7, .slice pl s.all.length cl), (8, ptr bu 0 0)]) (fun i2 => XM W (foot [.cells bs 0 60 (encGt s)]) [irow pl cl 3 s.all, .cells bw 0 50 (encW w), .cells bu 0 20 (encO (wsum s.cnt f s.all) (wsum s.cnt g s.all)), .cells bs 0 60 (encGt s)]) (0) ?_ (Sub.cons rfl (Sub.cons rfl (Sub.cons rfl (Sub.cons rfl (Sub.cons rfl (Sub.nil _)))))) (fun _ hw => by rw [show s.all.take i.toNat = s.all from List.take_of_length_le (by omega)] at hw; exact XM.pick (.cons .here (.cons (.there .here) (.cons (.there .here) (.cons (.there .here) .nil)))) hw) ?_
    · skip
      omega
    intro i2 hi2
    refine XC.seq ?_
    refine XC.seq ?_
    refine XC.region ?_
    refine XO.v (V.move rfl) rfl ?_
    refine XO.v (V.move rfl) rfl ?_
    refine XO.v (V.lenSl rfl Try.underlying85) rfl ?_
    refine XO.v (V.cmp rfl rfl rfl) rfl ?_
    refine XO.nil ?_
    refine XE.next ?_
    refine XC.keep [(0, _), (5, _), (7, _), (8, _), (13, _), (96, _)] (Sub.cons rfl (Sub.cons rfl (Sub.cons rfl (Sub.cons rfl (Sub.cons rfl (Sub.cons rfl (Sub.nil _))))))) ?_
    refine XC.condP rfl (fun h6 => ?_) (fun h6 => ?_)
    · skip
      obtain ⟨a0, a1, a2⟩ : 0 ≤ at0 s.all i2 ∧ at0 s.all i2 < 10 ∧ s.here (at0 s.all i2) = true := (allK_mem s.here 10 _).1 (at0_mem' hi2.1 (show i2 < s.all.length from by omega))
      have hq0 : s.isE (at0 s.all i2) = 0 := TG.isE_of a0 a1 a2
      have hT1 : wsum s.cnt f s.all (at0 s.all i2) = s.pr (at0 s.all i2) := (wsum_congr (fun x hx => by
        obtain ⟨x0, x1, x2⟩ := (allK_mem s.here 10 x).1 hx
        exact (hOw x x0 x1 x2).1) _).trans (hO.total s.pr a0 a1 a2)
      have hT2 : wsum s.cnt g s.all (at0 s.all i2) = s.pg (at0 s.all i2) := (wsum_congr (fun x hx => by
        obtain ⟨x0, x1, x2⟩ := (allK_mem s.here 10 x).1 hx
        exact (hOw x x0 x1 x2).2) _).trans (hO.total s.pg a0 a1 a2)
      have hw1 : 0 ≤ (s.gv (at0 s.all i2)).mp → (s.gv (at0 s.all i2)).pr ≤ (s.gv (at0 s.all i2)).mp ∨ (s.gv (at0 s.all i2)).pr ≤ (w (at0 s.all i2)).pr := (hW _ a0 a1 a2).1
      have hw2 : 0 ≤ (s.gv (at0 s.all i2)).mg → (s.gv (at0 s.all i2)).pg ≤ (s.gv (at0 s.all i2)).mg ∨ (s.gv (at0 s.all i2)).pg ≤ (w (at0 s.all i2)).pg := (hW _ a0 a1 a2).2
      refine XC.skip ?_
      refine XE.next ?_
      refine XC.keep [(0, _), (5, _), (7, _), (8, _), (13, _)] (Sub.cons rfl (Sub.cons rfl (Sub.cons rfl (Sub.cons rfl (Sub.cons rfl (Sub.nil _)))))) ?_
      refine XC.seq ?_
      refine XC.block ?_
      refine XC.seq ?_
      refine XC.openRow .here (by omega) ?_
      intro gB h7
      subst h7
      refine XC.region ?_
      refine XO.v (V.move rfl) rfl ?_
      refine XO.v (V.move rfl) rfl ?_
      refine XO.v (V.move rfl) rfl ?_
      refine XO.v (V.indexSl rfl rfl sl_85 (by omega)) rfl ?_
      refine XO.v (V.loadRow rfl (inXM .here) (ints_at (by omega)) sc_3) rfl ?_
      refine XO.call rfl (g_of _ _ _ _) (.cons (.there (.there (.there .here))) .nil) cl_46 rfl ?_
      rintro _ _ ⟨rfl, rfl⟩
      refine XO.v (V.move rfl) rfl ?_
      refine XO.v (V.extract rfl rfl) rfl ?_
      refine XO.v (V.extract rfl rfl) rfl ?_
      refine XO.allocZ (z := .agg GV.zero.arr) (m := 5) (C := encV GV.zero) (by kernel_rfl) rfl (encV_box _) rfl ?_
      intro bg2
      refine XO.storeAgg rfl rfl .here (encV_st _ _) ⟨rfl, rfl⟩ sz_63_5 ?_
      refine XO.v (V.assign rfl) rfl ?_
      refine XO.nil ?_
      refine XE.next ?_
      refine XC.keep [(0, _), (5, _), (7, _), (8, _), (13, _), (14, _)] (Sub.cons rfl (Sub.cons rfl (Sub.cons rfl (Sub.cons rfl (Sub.cons rfl (Sub.cons rfl (Sub.nil _))))))) ?_
      refine XC.seq ?_
      refine XC.seq ?_
      refine XC.regionQ mixed (f := 22) (l := #[false, false, false, false, false, false, false, false, false, false, false, false, false, false, false, false, false, false, false, false, false, false]) rfl rfl XM.drawn' ?_
      rw [if_pos hq0]
      refine XQ.pv (i := 0) (l' := #[true, false, false, false, false, false, false, false, false, false, false, false, false, false, false, false, false, false, false, false, false, false]) rfl (by kernel_rfl) rfl (V.fieldAddr rfl fo_63_3) rfl rfl ?_
      refine XQ.load (i := 1) (l' := #[true, true, false, false, false, false, false, false, false, false, false, false, false, false, false, false, false, false, false, false, false, false]) (.cells _ _ _ _) [] rfl (by kernel_rfl) rfl .here (V.load rfl inEnt (encV.ld_Procs _) sc_3) rfl (by kernel_rfl) rfl ?_
      refine XQ.pv (i := 2) (l' := #[true, true, true, false, false, false, false, false, false, false, false, false, false, false, false, false, false, false, false, false, false, false]) rfl (by kernel_rfl) rfl (V.move rfl) rfl rfl ?_
      refine XQ.pv (i := 3) (l' := #[true, true, true, true, false, false, false, false, false, false, false, false, false, false, false, false, false, false, false, false, false, false]) rfl (by kernel_rfl) rfl (V.move rfl) rfl rfl ?_
      refine XQ.pv (i := 4) (l' := #[true, true, true, true, true, false, false, false, false, false, false, false, false, false, false, false, false, false, false, false, false, false]) rfl (by kernel_rfl) rfl (V.indexSl rfl rfl sl_85 (by omega)) rfl rfl ?_
      refine XQ.load (i := 5) (l' := #[true, true, true, true, true, true, false, false, false, false, false, false, false, false, false, false, false, false, false, false, false, false]) (.row _ _ _ _ _) [] rfl (by kernel_rfl) rfl (.there (.there .here)) (V.loadRow rfl inEnt (ints_at (by omega)) sc_3) rfl (by kernel_rfl) rfl ?_
      refine XQ.pv (i := 6) (l' := #[true, true, true, true, true, true, true, false, false, false, false, false, false, false, false, false, false, false, false, false, false, false]) rfl (by kernel_rfl) rfl (V.indexArr rfl rfl ar_61 (by omega)) rfl rfl ?_
      refine XQ.pv (i := 7) (l' := #[true, true, true, true, true, true, true, true, false, false, false, false, false, false, false, false, false, false, false, false, false, false]) rfl (by kernel_rfl) rfl (V.indexArr rfl rfl ar_60 (by omega)) rfl rfl ?_
      refine XQ.load (i := 8) (l' := #[true, true, true, true, true, true, true, true, true, false, false, false, false, false, false, false, false, false, false, false, false, false]) (.cells _ _ _ _) [] rfl (by kernel_rfl) rfl (.there (.there (.there (.there .here)))) (V.load rfl inEnt (encO.ld0 _ _ _ (by omega)) sc_3) rfl (by kernel_rfl) rfl ?_
      refine XQ.pv (i := 9) (l' := #[true, true, true, true, true, true, true, true, true, true, false, false, false, false, false, false, false, false, false, false, false, false]) rfl (by kernel_rfl) rfl (V.cmp rfl rfl rfl) rfl rfl ?_
      refine XQ.pv (i := 10) (l' := #[true, true, true, true, true, true, true, true, true, true, true, false, false, false, false, false, false, false, false, false, false, false]) rfl (by kernel_rfl) rfl (V.move rfl) rfl rfl ?_
      refine XQ.splitF (d := 118) rfl (fun h => h hT1.symm) ?_
      refine XQ.pvG (i := 11) (l' := #[true, true, true, true, true, true, true, true, true, true, true, true, false, false, false, false, false, false, false, false, false, false]) rfl rfl rfl (by kernel_rfl) rfl (V.fieldAddr rfl fo_63_4) rfl rfl ?_
      refine XQ.loadG (i := 12) (l' := #[true, true, true, true, true, true, true, true, true, true, true, true, true, false, false, false, false, false, false, false, false, false]) (.cells _ _ _ _) [] rfl rfl rfl (by kernel_rfl) rfl .here (V.load rfl inEnt (encV.ld_Pages _) sc_3) rfl (by kernel_rfl) rfl ?_
      refine XQ.pvG (i := 13) (l' := #[true, true, true, true, true, true, true, true, true, true, true, true, true, true, false, false, false, false, false, false, false, false]) rfl rfl rfl (by kernel_rfl) rfl (V.move rfl) rfl rfl ?_
      refine XQ.pvG (i := 14) (l' := #[true, true, true, true, true, true, true, true, true, true, true, true, true, true, true, false, false, false, false, false, false, false]) rfl rfl rfl (by kernel_rfl) rfl (V.move rfl) rfl rfl ?_
      refine XQ.pvG (i := 15) (l' := #[true, true, true, true, true, true, true, true, true, true, true, true, true, true, true, true, false, false, false, false, false, false]) rfl rfl rfl (by kernel_rfl) rfl (V.indexSl rfl rfl sl_85 (by omega)) rfl rfl ?_
      refine XQ.loadG (i := 16) (l' := #[true, true, true, true, true, true, true, true, true, true, true, true, true, true, true, true, true, false, false, false, false, false]) (.row _ _ _ _ _) [] rfl rfl rfl (by kernel_rfl) rfl (.there (.there .here)) (V.loadRow rfl inEnt (ints_at (by omega)) sc_3) rfl (by kernel_rfl) rfl ?_
      refine XQ.pvG (i := 17) (l' := #[true, true, true, true, true, true, true, true, true, true, true, true, true, true, true, true, true, true, false, false, false, false]) rfl rfl rfl (by kernel_rfl) rfl (V.indexArr rfl rfl ar_61 (by omega)) rfl rfl ?_
      refine XQ.pvG (i := 18) (l' := #[true, true, true, true, true, true, true, true, true, true, true, true, true, true, true, true, true, true, true, false, false, false]) rfl rfl rfl (by kernel_rfl) rfl (V.indexArr rfl rfl ar_60 (by omega)) rfl rfl ?_
      refine XQ.loadG (i := 19) (l' := #[true, true, true, true, true, true, true, true, true, true, true, true, true, true, true, true, true, true, true, true, false, false]) (.cells _ _ _ _) [] rfl rfl rfl (by kernel_rfl) rfl (.there (.there (.there (.there .here)))) (V.load rfl inEnt (encO.ld1 _ _ _ (by omega)) sc_3) rfl (by kernel_rfl) rfl ?_
      refine XQ.pvG (i := 20) (l' := #[true, true, true, true, true, true, true, true, true, true, true, true, true, true, true, true, true, true, true, true, true, false]) rfl rfl rfl (by kernel_rfl) rfl (V.cmp rfl rfl rfl) rfl rfl ?_
      refine XQ.pv (i := 21) (l' := #[true, true, true, true, true, true, true, true, true, true, true, true, true, true, true, true, true, true, true, true, true, true]) rfl (by kernel_rfl) rfl (V.pick rfl rfl rfl rfl) rfl rfl ?_
      refine XQ.done (by kernel_rfl) ?_
      refine XE.next ?_
      refine XC.keep [(0, _), (5, _), (7, _), (8, _), (13, _), (14, _), (129, _)] (Sub.cons rfl (Sub.cons rfl (Sub.cons rfl (Sub.cons rfl (Sub.cons rfl (Sub.cons rfl (Sub.cons rfl (Sub.nil _)))))))) ?_
      refine XC.condFP rfl (fun h => h hT2.symm) ?_
      refine XC.skip ?_
      refine XE.next ?_
      refine XC.keep [(0, _), (5, _), (7, _), (8, _), (13, _), (14, _)] (Sub.cons rfl (Sub.cons rfl (Sub.cons rfl (Sub.cons rfl (Sub.cons rfl (Sub.cons rfl (Sub.nil _))))))) ?_
      refine XC.seq ?_
      refine XC.regionQ mixed (f := 46) (l := #[false, false, false, false, false, false, false, false, false, false, false, false, false, false, false, false, false, false, false, false, false, false, false, false, false, false, false, false, false, false, false, false, false, false, false, false, false, false, false, false, false, false, false, false, false, false]) rfl rfl XM.drawn' ?_
      refine XQ.pv (i := 0) (l' := #[true, false, false, false, false, false, false, false, false, false, false, false, false, false, false, false, false, false, false, false, false, false, false, false, false, false, false, false, false, false, false, false, false, false, false, false, false, false, false, false, false, false, false, false, false, false]) rfl (by kernel_rfl) rfl (V.fieldAddr rfl fo_63_1) rfl rfl ?_
      refine XQ.load (i := 1) (l' := #[true, true, false, false, false, false, false, false, false, false, false, false, false, false, false, false, false, false, false, false, false, false, false, false, false, false, false, false, false, false, false, false, false, false, false, false, false, false, false, false, false, false, false, false, false, false]) (.cells _ _ _ _) [] rfl (by kernel_rfl) rfl .here (V.load rfl inEnt (encV.ld_MaxProcs _) sc_3) rfl (by kernel_rfl) rfl ?_
      refine XQ.pv (i := 2) (l' := #[true, true, true, false, false, false, false, false, false, false, false, false, false, false, false, false, false, false, false, false, false, false, false, false, false, false, false, false, false, false, false, false, false, false, false, false, false, false, false, false, false, false, false, false, false, false]) rfl (by kernel_rfl) rfl (V.cmp rfl rfl rfl) rfl rfl ?_
      refine XQ.pv (i := 3) (l' := #[true, true, true, true, false, false, false, false, false, false, false, false, false, false, false, false, false, false, false, false, false, false, false, false, false, false, false, false, false, false, false, false, false, false, false, false, false, false, false, false, false, false, false, false, false, false]) rfl (by kernel_rfl) rfl (V.move rfl) rfl rfl ?_
      refine XQ.splitP (d := 133) rfl (fun h9 => ?_) (fun h9 => ?_)
      · skip
        refine XQ.pvG (i := 4) (l' := #[true, true, true, true, true, false, false, false, false, false, false, false, false, false, false, false, false, false, false, false, false, false, false, false, false, false, false, false, false, false, false, false, false, false, false, false, false, false, false, false, false, false, false, false, false, false]) rfl rfl rfl (by kernel_rfl) rfl (V.fieldAddr rfl fo_63_3) rfl rfl ?_
        refine XQ.loadG (i := 5) (l' := #[true, true, true, true, true, true, false, false, false, false, false, false, false, false, false, false, false, false, false, false, false, false, false, false, false, false, false, false, false, false, false, false, false, false, false, false, false, false, false, false, false, false, false, false, false, false]) (.cells _ _ _ _) [] rfl rfl rfl (by kernel_rfl) rfl .here (V.load rfl inEnt (encV.ld_Procs _) sc_3) rfl (by kernel_rfl) rfl ?_
        refine XQ.pvG (i := 6) (l' := #[true, true, true, true, true, true, true, false, false, false, false, false, false, false, false, false, false, false, false, false, false, false, false, false, false, false, false, false, false, false, false, false, false, false, false, false, false, false, false, false, false, false, false, false, false, false]) rfl rfl rfl (by kernel_rfl) rfl (V.fieldAddr rfl fo_63_1) rfl rfl ?_
        refine XQ.loadG (i := 7) (l' := #[true, true, true, true, true, true, true, true, false, false, false, false, false, false, false, false, false, false, false, false, false, false, false, false, false, false, false, false, false, false, false, false, false, false, false, false, false, false, false, false, false, false, false, false, false, false]) (.cells _ _ _ _) [] rfl rfl rfl (by kernel_rfl) rfl .here (V.load rfl inEnt (encV.ld_MaxProcs _) sc_3) rfl (by kernel_rfl) rfl ?_
        refine XQ.pvG (i := 8) (l' := #[true, true, true, true, true, true, true, true, true, false, false, false, false, false, false, false, false, false, false, false, false, false, false, false, false, false, false, false, false, false, false, false, false, false, false, false, false, false, false, false, false, false, false, false, false, false]) rfl rfl rfl (by kernel_rfl) rfl (V.cmp rfl rfl rfl) rfl rfl ?_
        refine XQ.pv (i := 9) (l' := #[true, true, true, true, true, true, true, true, true, true, false, false, false, false, false, false, false, false, false, false, false, false, false, false, false, false, false, false, false, false, false, false, false, false, false, false, false, false, false, false, false, false, false, false, false, false]) rfl (by kernel_rfl) rfl (V.pick rfl rfl rfl rfl) rfl rfl ?_
        refine XQ.pv (i := 10) (l' := #[true, true, true, true, true, true, true, true, true, true, true, false, false, false, false, false, false, false, false, false, false, false, false, false, false, false, false, false, false, false, false, false, false, false, false, false, false, false, false, false, false, false, false, false, false, false]) rfl (by kernel_rfl) rfl (V.move rfl) rfl rfl ?_
        refine XQ.splitP (d := 140) rfl (fun h10 => ?_) (fun h10 => ?_)
        · skip
          refine XQ.pvG (i := 11) (l' := #[true, true, true, true, true, true, true, true, true, true, true, true, false, false, false, false, false, false, false, false, false, false, false, false, false, false, false, false, false, false, false, false, false, false, false, false, false, false, false, false, false, false, false, false, false, false]) rfl rfl rfl (by kernel_rfl) rfl (V.fieldAddr rfl fo_63_3) rfl rfl ?_
          refine XQ.loadG (i := 12) (l' := #[true, true, true, true, true, true, true, true, true, true, true, true, true, false, false, false, false, false, false, false, false, false, false, false, false, false, false, false, false, false, false, false, false, false, false, false, false, false, false, false, false, false, false, false, false, false]) (.cells _ _ _ _) [] rfl rfl rfl (by kernel_rfl) rfl .here (V.load rfl inEnt (encV.ld_Procs _) sc_3) rfl (by kernel_rfl) rfl ?_
          refine XQ.pvG (i := 13) (l' := #[true, true, true, true, true, true, true, true, true, true, true, true, true, true, false, false, false, false, false, false, false, false, false, false, false, false, false, false, false, false, false, false, false, false, false, false, false, false, false, false, false, false, false, false, false, false]) rfl rfl rfl (by kernel_rfl) rfl (V.move rfl) rfl rfl ?_
          refine XQ.pvG (i := 14) (l' := #[true, true, true, true, true, true, true, true, true, true, true, true, true, true, true, false, false, false, false, false, false, false, false, false, false, false, false, false, false, false, false, false, false, false, false, false, false, false, false, false, false, false, false, false, false, false]) rfl rfl rfl (by kernel_rfl) rfl (V.move rfl) rfl rfl ?_
          refine XQ.pvG (i := 15) (l' := #[true, true, true, true, true, true, true, true, true, true, true, true, true, true, true, true, false, false, false, false, false, false, false, false, false, false, false, false, false, false, false, false, false, false, false, false, false, false, false, false, false, false, false, false, false, false]) rfl rfl rfl (by kernel_rfl) rfl (V.indexSl rfl rfl sl_85 (by omega)) rfl rfl ?_
          refine XQ.loadG (i := 16) (l' := #[true, true, true, true, true, true, true, true, true, true, true, true, true, true, true, true, true, false, false, false, false, false, false, false, false, false, false, false, false, false, false, false, false, false, false, false, false, false, false, false, false, false, false, false, false, false]) (.row _ _ _ _ _) [] rfl rfl rfl (by kernel_rfl) rfl (.there (.there .here)) (V.loadRow rfl inEnt (ints_at (by omega)) sc_3) rfl (by kernel_rfl) rfl ?_
          refine XQ.pvG (i := 17) (l' := #[true, true, true, true, true, true, true, true, true, true, true, true, true, true, true, true, true, true, false, false, false, false, false, false, false, false, false, false, false, false, false, false, false, false, false, false, false, false, false, false, false, false, false, false, false, false]) rfl rfl rfl (by kernel_rfl) rfl (V.indexArr rfl rfl ar_64 (by omega)) rfl rfl ?_
          refine XQ.pvG (i := 18) (l' := #[true, true, true, true, true, true, true, true, true, true, true, true, true, true, true, true, true, true, true, false, false, false, false, false, false, false, false, false, false, false, false, false, false, false, false, false, false, false, false, false, false, false, false, false, false, false]) rfl rfl rfl (by kernel_rfl) rfl (V.fieldAddr rfl fo_63_3) rfl rfl ?_
          refine XQ.loadG (i := 19) (l' := #[true, true, true, true, true, true, true, true, true, true, true, true, true, true, true, true, true, true, true, true, false, false, false, false, false, false, false, false, false, false, false, false, false, false, false, false, false, false, false, false, false, false, false, false, false, false]) (.cells _ _ _ _) [] rfl rfl rfl (by kernel_rfl) rfl (.there (.there (.there .here))) (V.load rfl inEnt (encW.ld_pr _ _ (by omega)) sc_3) rfl (by kernel_rfl) rfl ?_
          refine XQ.pvG (i := 20) (l' := #[true, true, true, true, true, true, true, true, true, true, true, true, true, true, true, true, true, true, true, true, true, false, false, false, false, false, false, false, false, false, false, false, false, false, false, false, false, false, false, false, false, false, false, false, false, false]) rfl rfl rfl (by kernel_rfl) rfl (V.cmp rfl rfl rfl) rfl rfl ?_
          refine XQ.pv (i := 21) (l' := #[true, true, true, true, true, true, true, true, true, true, true, true, true, true, true, true, true, true, true, true, true, true, false, false, false, false, false, false, false, false, false, false, false, false, false, false, false, false, false, false, false, false, false, false, false, false]) rfl (by kernel_rfl) rfl (V.pick rfl rfl rfl rfl) rfl rfl ?_
          refine XQ.pv (i := 22) (l' := #[true, true, true, true, true, true, true, true, true, true, true, true, true, true, true, true, true, true, true, true, true, true, true, false, false, false, false, false, false, false, false, false, false, false, false, false, false, false, false, false, false, false, false, false, false, false]) rfl (by kernel_rfl) rfl (V.move rfl) rfl rfl ?_
          refine XQ.splitF (d := 152) rfl (by omega) ?_
          refine XQ.pvG (i := 23) (l' := #[true, true, true, true, true, true, true, true, true, true, true, true, true, true, true, true, true, true, true, true, true, true, true, true, false, false, false, false, false, false, false, false, false, false, false, false, false, false, false, false, false, false, false, false, false, false]) rfl rfl rfl (by kernel_rfl) rfl (V.fieldAddr rfl fo_63_2) rfl rfl ?_
          refine XQ.loadG (i := 24) (l' := #[true, true, true, true, true, true, true, true, true, true, true, true, true, true, true, true, true, true, true, true, true, true, true, true, true, false, false, false, false, false, false, false, false, false, false, false, false, false, false, false, false, false, false, false, false, false]) (.cells _ _ _ _) [] rfl rfl rfl (by kernel_rfl) rfl .here (V.load rfl inEnt (encV.ld_MaxPages _) sc_3) rfl (by kernel_rfl) rfl ?_
          refine XQ.pvG (i := 25) (l' := #[true, true, true, true, true, true, true, true, true, true, true, true, true, true, true, true, true, true, true, true, true, true, true, true, true, true, false, false, false, false, false, false, false, false, false, false, false, false, false, false, false, false, false, false, false, false]) rfl rfl rfl (by kernel_rfl) rfl (V.cmp rfl rfl rfl) rfl rfl ?_
          refine XQ.pvG (i := 26) (l' := #[true, true, true, true, true, true, true, true, true, true, true, true, true, true, true, true, true, true, true, true, true, true, true, true, true, true, true, false, false, false, false, false, false, false, false, false, false, false, false, false, false, false, false, false, false, false]) rfl rfl rfl (by kernel_rfl) rfl (V.move rfl) rfl rfl ?_
          refine XQ.splitP (d := 156) rfl (fun h12 => ?_) (fun h12 => ?_)
          · skip
            refine XQ.pvG (i := 27) (l' := #[true, true, true, true, true, true, true, true, true, true, true, true, true, true, true, true, true, true, true, true, true, true, true, true, true, true, true, true, false, false, false, false, false, false, false, false, false, false, false, false, false, false, false, false, false, false]) rfl rfl rfl (by kernel_rfl) rfl (V.fieldAddr rfl fo_63_4) rfl rfl ?_
            refine XQ.loadG (i := 28) (l' := #[true, true, true, true, true, true, true, true, true, true, true, true, true, true, true, true, true, true, true, true, true, true, true, true, true, true, true, true, true, false, false, false, false, false, false, false, false, false, false, false, false, false, false, false, false, false]) (.cells _ _ _ _) [] rfl rfl rfl (by kernel_rfl) rfl .here (V.load rfl inEnt (encV.ld_Pages _) sc_3) rfl (by kernel_rfl) rfl ?_
            refine XQ.pvG (i := 29) (l' := #[true, true, true, true, true, true, true, true, true, true, true, true, true, true, true, true, true, true, true, true, true, true, true, true, true, true, true, true, true, true, false, false, false, false, false, false, false, false, false, false, false, false, false, false, false, false]) rfl rfl rfl (by kernel_rfl) rfl (V.fieldAddr rfl fo_63_2) rfl rfl ?_
            refine XQ.loadG (i := 30) (l' := #[true, true, true, true, true, true, true, true, true, true, true, true, true, true, true, true, true, true, true, true, true, true, true, true, true, true, true, true, true, true, true, false, false, false, false, false, false, false, false, false, false, false, false, false, false, false]) (.cells _ _ _ _) [] rfl rfl rfl (by kernel_rfl) rfl .here (V.load rfl inEnt (encV.ld_MaxPages _) sc_3) rfl (by kernel_rfl) rfl ?_
            refine XQ.pvG (i := 31) (l' := #[true, true, true, true, true, true, true, true, true, true, true, true, true, true, true, true, true, true, true, true, true, true, true, true, true, true, true, true, true, true, true, true, false, false, false, false, false, false, false, false, false, false, false, false, false, false]) rfl rfl rfl (by kernel_rfl) rfl (V.cmp rfl rfl rfl) rfl rfl ?_
            refine XQ.pvG (i := 32) (l' := #[true, true, true, true, true, true, true, true, true, true, true, true, true, true, true, true, true, true, true, true, true, true, true, true, true, true, true, true, true, true, true, true, true, false, false, false, false, false, false, false, false, false, false, false, false, false]) rfl rfl rfl (by kernel_rfl) rfl (V.pick rfl rfl rfl rfl) rfl rfl ?_
            refine XQ.pvG (i := 33) (l' := #[true, true, true, true, true, true, true, true, true, true, true, true, true, true, true, true, true, true, true, true, true, true, true, true, true, true, true, true, true, true, true, true, true, true, false, false, false, false, false, false, false, false, false, false, false, false]) rfl rfl rfl (by kernel_rfl) rfl (V.move rfl) rfl rfl ?_
            refine XQ.splitP (d := 163) rfl (fun h13 => ?_) (fun h13 => ?_)
            · skip
              refine XQ.pvG (i := 34) (l' := #[true, true, true, true, true, true, true, true, true, true, true, true, true, true, true, true, true, true, true, true, true, true, true, true, true, true, true, true, true, true, true, true, true, true, true, false, false, false, false, false, false, false, false, false, false, false]) rfl rfl rfl (by kernel_rfl) rfl (V.fieldAddr rfl fo_63_4) rfl rfl ?_
              refine XQ.loadG (i := 35) (l' := #[true, true, true, true, true, true, true, true, true, true, true, true, true, true, true, true, true, true, true, true, true, true, true, true, true, true, true, true, true, true, true, true, true, true, true, true, false, false, false, false, false, false, false, false, false, false]) (.cells _ _ _ _) [] rfl rfl rfl (by kernel_rfl) rfl .here (V.load rfl inEnt (encV.ld_Pages _) sc_3) rfl (by kernel_rfl) rfl ?_
              refine XQ.pvG (i := 36) (l' := #[true, true, true, true, true, true, true, true, true, true, true, true, true, true, true, true, true, true, true, true, true, true, true, true, true, true, true, true, true, true, true, true, true, true, true, true, true, false, false, false, false, false, false, false, false, false]) rfl rfl rfl (by kernel_rfl) rfl (V.move rfl) rfl rfl ?_
              refine XQ.pvG (i := 37) (l' := #[true, true, true, true, true, true, true, true, true, true, true, true, true, true, true, true, true, true, true, true, true, true, true, true, true, true, true, true, true, true, true, true, true, true, true, true, true, true, false, false, false, false, false, false, false, false]) rfl rfl rfl (by kernel_rfl) rfl (V.move rfl) rfl rfl ?_
              refine XQ.pvG (i := 38) (l' := #[true, true, true, true, true, true, true, true, true, true, true, true, true, true, true, true, true, true, true, true, true, true, true, true, true, true, true, true, true, true, true, true, true, true, true, true, true, true, true, false, false, false, false, false, false, false]) rfl rfl rfl (by kernel_rfl) rfl (V.indexSl rfl rfl sl_85 (by omega)) rfl rfl ?_
              refine XQ.loadG (i := 39) (l' := #[true, true, true, true, true, true, true, true, true, true, true, true, true, true, true, true, true, true, true, true, true, true, true, true, true, true, true, true, true, true, true, true, true, true, true, true, true, true, true, true, false, false, false, false, false, false]) (.row _ _ _ _ _) [] rfl rfl rfl (by kernel_rfl) rfl (.there (.there .here)) (V.loadRow rfl inEnt (ints_at (by omega)) sc_3) rfl (by kernel_rfl) rfl ?_
              refine XQ.pvG (i := 40) (l' := #[true, true, true, true, true, true, true, true, true, true, true, true, true, true, true, true, true, true, true, true, true, true, true, true, true, true, true, true, true, true, true, true, true, true, true, true, true, true, true, true, true, false, false, false, false, false]) rfl rfl rfl (by kernel_rfl) rfl (V.indexArr rfl rfl ar_64 (by omega)) rfl rfl ?_
              refine XQ.pvG (i := 41) (l' := #[true, true, true, true, true, true, true, true, true, true, true, true, true, true, true, true, true, true, true, true, true, true, true, true, true, true, true, true, true, true, true, true, true, true, true, true, true, true, true, true, true, true, false, false, false, false]) rfl rfl rfl (by kernel_rfl) rfl (V.fieldAddr rfl fo_63_4) rfl rfl ?_
              refine XQ.loadG (i := 42) (l' := #[true, true, true, true, true, true, true, true, true, true, true, true, true, true, true, true, true, true, true, true, true, true, true, true, true, true, true, true, true, true, true, true, true, true, true, true, true, true, true, true, true, true, true, false, false, false]) (.cells _ _ _ _) [] rfl rfl rfl (by kernel_rfl) rfl (.there (.there (.there .here))) (V.load rfl inEnt (encW.ld_pg _ _ (by omega)) sc_3) rfl (by kernel_rfl) rfl ?_
              refine XQ.pvG (i := 43) (l' := #[true, true, true, true, true, true, true, true, true, true, true, true, true, true, true, true, true, true, true, true, true, true, true, true, true, true, true, true, true, true, true, true, true, true, true, true, true, true, true, true, true, true, true, true, false, false]) rfl rfl rfl (by kernel_rfl) rfl (V.cmp rfl rfl rfl) rfl rfl ?_
              refine XQ.pvG (i := 44) (l' := #[true, true, true, true, true, true, true, true, true, true, true, true, true, true, true, true, true, true, true, true, true, true, true, true, true, true, true, true, true, true, true, true, true, true, true, true, true, true, true, true, true, true, true, true, true, false]) rfl rfl rfl (by kernel_rfl) rfl (V.pick rfl rfl rfl rfl) rfl rfl ?_
              refine XQ.pv (i := 45) (l' := #[true, true, true, true, true, true, true, true, true, true, true, true, true, true, true, true, true, true, true, true, true, true, true, true, true, true, true, true, true, true, true, true, true, true, true, true, true, true, true, true, true, true, true, true, true, true]) rfl (by kernel_rfl) rfl (V.pick rfl rfl rfl rfl) rfl rfl ?_
              refine XQ.done (by kernel_rfl) ?_
              refine XE.next ?_
              refine XC.keep [(0, _), (5, _), (7, _), (8, _), (13, _), (175, _)] (Sub.cons rfl (Sub.cons rfl (Sub.cons rfl (Sub.cons rfl (Sub.cons rfl (Sub.cons rfl (Sub.nil _))))))) ?_
              refine XC.condFP rfl (by omega) ?_
              refine XC.skip ?_
              refine XE.blockNormal ?_
              refine XE.next ?_
              refine XC.keep [(0, _), (5, _), (7, _), (8, _), (13, _)] (Sub.cons rfl (Sub.cons rfl (Sub.cons rfl (Sub.cons rfl (Sub.cons rfl (Sub.nil _)))))) ?_
              refine XC.region ?_
              refine XO.v (V.move rfl) rfl ?_
              refine XO.v (V.add rfl rfl _ (IntWalk.i64_in _ (by omega))) rfl ?_
              refine XO.v (V.assign rfl) rfl ?_
              refine XO.nil ?_
              refine XE.again (i2 + 1) ?_ ?_ (Sub.cons rfl (Sub.cons rfl (Sub.cons rfl (Sub.cons rfl (Sub.cons rfl (Sub.nil _)))))) (fun _ hw => XM.pick (.cons (.there (.there .here)) (.cons (.there (.there .here)) (.cons (.there (.there .here)) (.cons (.there .here) .nil)))) hw)
              · skip
                (first | omega | (simp; done) | (simp; omega))
              · skip
                (first | omega | (simp; done) | (simp; omega))
            · skip
              refine XQ.skip (i := 34) (l' := #[true, true, true, true, true, true, true, true, true, true, true, true, true, true, true, true, true, true, true, true, true, true, true, true, true, true, true, true, true, true, true, true, true, true, true, false, false, false, false, false, false, false, false, false, false, false]) rfl rfl rfl rfl rfl (by kernel_rfl) rfl rfl rfl ?_
              refine XQ.skip (i := 35) (l' := #[true, true, true, true, true, true, true, true, true, true, true, true, true, true, true, true, true, true, true, true, true, true, true, true, true, true, true, true, true, true, true, true, true, true, true, true, false, false, false, false, false, false, false, false, false, false]) rfl rfl rfl rfl rfl (by kernel_rfl) rfl rfl rfl ?_
              refine XQ.skip (i := 36) (l' := #[true, true, true, true, true, true, true, true, true, true, true, true, true, true, true, true, true, true, true, true, true, true, true, true, true, true, true, true, true, true, true, true, true, true, true, true, true, false, false, false, false, false, false, false, false, false]) rfl rfl rfl rfl rfl (by kernel_rfl) rfl rfl rfl ?_
              refine XQ.skip (i := 37) (l' := #[true, true, true, true, true, true, true, true, true, true, true, true, true, true, true, true, true, true, true, true, true, true, true, true, true, true, true, true, true, true, true, true, true, true, true, true, true, true, false, false, false, false, false, false, false, false]) rfl rfl rfl rfl rfl (by kernel_rfl) rfl rfl rfl ?_
              refine XQ.skip (i := 38) (l' := #[true, true, true, true, true, true, true, true, true, true, true, true, true, true, true, true, true, true, true, true, true, true, true, true, true, true, true, true, true, true, true, true, true, true, true, true, true, true, true, false, false, false, false, false, false, false]) rfl rfl rfl rfl rfl (by kernel_rfl) rfl rfl rfl ?_
              refine XQ.skip (i := 39) (l' := #[true, true, true, true, true, true, true, true, true, true, true, true, true, true, true, true, true, true, true, true, true, true, true, true, true, true, true, true, true, true, true, true, true, true, true, true, true, true, true, true, false, false, false, false, false, false]) rfl rfl rfl rfl rfl (by kernel_rfl) rfl rfl rfl ?_
              refine XQ.skip (i := 40) (l' := #[true, true, true, true, true, true, true, true, true, true, true, true, true, true, true, true, true, true, true, true, true, true, true, true, true, true, true, true, true, true, true, true, true, true, true, true, true, true, true, true, true, false, false, false, false, false]) rfl rfl rfl rfl rfl (by kernel_rfl) rfl rfl rfl ?_
              refine XQ.skip (i := 41) (l' := #[true, true, true, true, true, true, true, true, true, true, true, true, true, true, true, true, true, true, true, true, true, true, true, true, true, true, true, true, true, true, true, true, true, true, true, true, true, true, true, true, true, true, false, false, false, false]) rfl rfl rfl rfl rfl (by kernel_rfl) rfl rfl rfl ?_
              refine XQ.skip (i := 42) (l' := #[true, true, true, true, true, true, true, true, true, true, true, true, true, true, true, true, true, true, true, true, true, true, true, true, true, true, true, true, true, true, true, true, true, true, true, true, true, true, true, true, true, true, true, false, false, false]) rfl rfl rfl rfl rfl (by kernel_rfl) rfl rfl rfl ?_
              refine XQ.skip (i := 43) (l' := #[true, true, true, true, true, true, true, true, true, true, true, true, true, true, true, true, true, true, true, true, true, true, true, true, true, true, true, true, true, true, true, true, true, true, true, true, true, true, true, true, true, true, true, true, false, false]) rfl rfl rfl rfl rfl (by kernel_rfl) rfl rfl rfl ?_
              refine XQ.pvG (i := 44) (l' := #[true, true, true, true, true, true, true, true, true, true, true, true, true, true, true, true, true, true, true, true, true, true, true, true, true, true, true, true, true, true, true, true, true, true, true, true, true, true, true, true, true, true, true, true, true, false]) rfl rfl rfl (by kernel_rfl) rfl (V.pick rfl rfl rfl rfl) rfl rfl ?_
              refine XQ.pv (i := 45) (l' := #[true, true, true, true, true, true, true, true, true, true, true, true, true, true, true, true, true, true, true, true, true, true, true, true, true, true, true, true, true, true, true, true, true, true, true, true, true, true, true, true, true, true, true, true, true, true]) rfl (by kernel_rfl) rfl (V.pick rfl rfl rfl rfl) rfl rfl ?_
              refine XQ.done (by kernel_rfl) ?_
              refine XE.next ?_
              refine XC.keep [(0, _), (5, _), (7, _), (8, _), (13, _), (175, _)] (Sub.cons rfl (Sub.cons rfl (Sub.cons rfl (Sub.cons rfl (Sub.cons rfl (Sub.cons rfl (Sub.nil _))))))) ?_
              refine XC.condF rfl rfl ?_
              refine XC.skip ?_
              refine XE.blockNormal ?_
              refine XE.next ?_
              refine XC.keep [(0, _), (5, _), (7, _), (8, _), (13, _)] (Sub.cons rfl (Sub.cons rfl (Sub.cons rfl (Sub.cons rfl (Sub.cons rfl (Sub.nil _)))))) ?_
              refine XC.region ?_
              refine XO.v (V.move rfl) rfl ?_
              refine XO.v (V.add rfl rfl _ (IntWalk.i64_in _ (by omega))) rfl ?_
              refine XO.v (V.assign rfl) rfl ?_
              refine XO.nil ?_
              refine XE.again (i2 + 1) ?_ ?_ (Sub.cons rfl (Sub.cons rfl (Sub.cons rfl (Sub.cons rfl (Sub.cons rfl (Sub.nil _)))))) (fun _ hw => XM.pick (.cons (.there (.there .here)) (.cons (.there (.there .here)) (.cons (.there (.there .here)) (.cons (.there .here) .nil)))) hw)
              · skip
                (first | omega | (simp; done) | (simp; omega))
              · skip
                (first | omega | (simp; done) | (simp; omega))
          · skip
            refine XQ.skip (i := 27) (l' := #[true, true, true, true, true, true, true, true, true, true, true, true, true, true, true, true, true, true, true, true, true, true, true, true, true, true, true, true, false, false, false, false, false, false, false, false, false, false, false, false, false, false, false, false, false, false]) rfl rfl rfl rfl rfl (by kernel_rfl) rfl rfl rfl ?_
            refine XQ.skip (i := 28) (l' := #[true, true, true, true, true, true, true, true, true, true, true, true, true, true, true, true, true, true, true, true, true, true, true, true, true, true, true, true, true, false, false, false, false, false, false, false, false, false, false, false, false, false, false, false, false, false]) rfl rfl rfl rfl rfl (by kernel_rfl) rfl rfl rfl ?_
            refine XQ.skip (i := 29) (l' := #[true, true, true, true, true, true, true, true, true, true, true, true, true, true, true, true, true, true, true, true, true, true, true, true, true, true, true, true, true, true, false, false, false, false, false, false, false, false, false, false, false, false, false, false, false, false]) rfl rfl rfl rfl rfl (by kernel_rfl) rfl rfl rfl ?_
            refine XQ.skip (i := 30) (l' := #[true, true, true, true, true, true, true, true, true, true, true, true, true, true, true, true, true, true, true, true, true, true, true, true, true, true, true, true, true, true, true, false, false, false, false, false, false, false, false, false, false, false, false, false, false, false]) rfl rfl rfl rfl rfl (by kernel_rfl) rfl rfl rfl ?_
            refine XQ.skip (i := 31) (l' := #[true, true, true, true, true, true, true, true, true, true, true, true, true, true, true, true, true, true, true, true, true, true, true, true, true, true, true, true, true, true, true, true, false, false, false, false, false, false, false, false, false, false, false, false, false, false]) rfl rfl rfl rfl rfl (by kernel_rfl) rfl rfl rfl ?_
            refine XQ.pvG (i := 32) (l' := #[true, true, true, true, true, true, true, true, true, true, true, true, true, true, true, true, true, true, true, true, true, true, true, true, true, true, true, true, true, true, true, true, true, false, false, false, false, false, false, false, false, false, false, false, false, false]) rfl rfl rfl (by kernel_rfl) rfl (V.pick rfl rfl rfl rfl) rfl rfl ?_
            refine XQ.pvG (i := 33) (l' := #[true, true, true, true, true, true, true, true, true, true, true, true, true, true, true, true, true, true, true, true, true, true, true, true, true, true, true, true, true, true, true, true, true, true, false, false, false, false, false, false, false, false, false, false, false, false]) rfl rfl rfl (by kernel_rfl) rfl (V.move rfl) rfl rfl ?_
            refine XQ.skip (i := 34) (l' := #[true, true, true, true, true, true, true, true, true, true, true, true, true, true, true, true, true, true, true, true, true, true, true, true, true, true, true, true, true, true, true, true, true, true, true, false, false, false, false, false, false, false, false, false, false, false]) rfl rfl rfl rfl rfl (by kernel_rfl) rfl rfl rfl ?_
            refine XQ.skip (i := 35) (l' := #[true, true, true, true, true, true, true, true, true, true, true, true, true, true, true, true, true, true, true, true, true, true, true, true, true, true, true, true, true, true, true, true, true, true, true, true, false, false, false, false, false, false, false, false, false, false]) rfl rfl rfl rfl rfl (by kernel_rfl) rfl rfl rfl ?_
            refine XQ.skip (i := 36) (l' := #[true, true, true, true, true, true, true, true, true, true, true, true, true, true, true, true, true, true, true, true, true, true, true, true, true, true, true, true, true, true, true, true, true, true, true, true, true, false, false, false, false, false, false, false, false, false]) rfl rfl rfl rfl rfl (by kernel_rfl) rfl rfl rfl ?_
            refine XQ.skip (i := 37) (l' := #[true, true, true, true, true, true, true, true, true, true, true, true, true, true, true, true, true, true, true, true, true, true, true, true, true, true, true, true, true, true, true, true, true, true, true, true, true, true, false, false, false, false, false, false, false, false]) rfl rfl rfl rfl rfl (by kernel_rfl) rfl rfl rfl ?_
            refine XQ.skip (i := 38) (l' := #[true, true, true, true, true, true, true, true, true, true, true, true, true, true, true, true, true, true, true, true, true, true, true, true, true, true, true, true, true, true, true, true, true, true, true, true, true, true, true, false, false, false, false, false, false, false]) rfl rfl rfl rfl rfl (by kernel_rfl) rfl rfl rfl ?_
            refine XQ.skip (i := 39) (l' := #[true, true, true, true, true, true, true, true, true, true, true, true, true, true, true, true, true, true, true, true, true, true, true, true, true, true, true, true, true, true, true, true, true, true, true, true, true, true, true, true, false, false, false, false, false, false]) rfl rfl rfl rfl rfl (by kernel_rfl) rfl rfl rfl ?_
            refine XQ.skip (i := 40) (l' := #[true, true, true, true, true, true, true, true, true, true, true, true, true, true, true, true, true, true, true, true, true, true, true, true, true, true, true, true, true, true, true, true, true, true, true, true, true, true, true, true, true, false, false, false, false, false]) rfl rfl rfl rfl rfl (by kernel_rfl) rfl rfl rfl ?_
            refine XQ.skip (i := 41) (l' := #[true, true, true, true, true, true, true, true, true, true, true, true, true, true, true, true, true, true, true, true, true, true, true, true, true, true, true, true, true, true, true, true, true, true, true, true, true, true, true, true, true, true, false, false, false, false]) rfl rfl rfl rfl rfl (by kernel_rfl) rfl rfl rfl ?_
            refine XQ.skip (i := 42) (l' := #[true, true, true, true, true, true, true, true, true, true, true, true, true, true, true, true, true, true, true, true, true, true, true, true, true, true, true, true, true, true, true, true, true, true, true, true, true, true, true, true, true, true, true, false, false, false]) rfl rfl rfl rfl rfl (by kernel_rfl) rfl rfl rfl ?_
            refine XQ.skip (i := 43) (l' := #[true, true, true, true, true, true, true, true, true, true, true, true, true, true, true, true, true, true, true, true, true, true, true, true, true, true, true, true, true, true, true, true, true, true, true, true, true, true, true, true, true, true, true, true, false, false]) rfl rfl rfl rfl rfl (by kernel_rfl) rfl rfl rfl ?_
            refine XQ.pvG (i := 44) (l' := #[true, true, true, true, true, true, true, true, true, true, true, true, true, true, true, true, true, true, true, true, true, true, true, true, true, true, true, true, true, true, true, true, true, true, true, true, true, true, true, true, true, true, true, true, true, false]) rfl rfl rfl (by kernel_rfl) rfl (V.pick rfl rfl rfl rfl) rfl rfl ?_
            refine XQ.pv (i := 45) (l' := #[true, true, true, true, true, true, true, true, true, true, true, true, true, true, true, true, true, true, true, true, true, true, true, true, true, true, true, true, true, true, true, true, true, true, true, true, true, true, true, true, true, true, true, true, true, true]) rfl (by kernel_rfl) rfl (V.pick rfl rfl rfl rfl) rfl rfl ?_
            refine XQ.done (by kernel_rfl) ?_
            refine XE.next ?_
            refine XC.keep [(0, _), (5, _), (7, _), (8, _), (13, _), (175, _)] (Sub.cons rfl (Sub.cons rfl (Sub.cons rfl (Sub.cons rfl (Sub.cons rfl (Sub.cons rfl (Sub.nil _))))))) ?_
            refine XC.condF rfl rfl ?_
            refine XC.skip ?_
            refine XE.blockNormal ?_
            refine XE.next ?_
            refine XC.keep [(0, _), (5, _), (7, _), (8, _), (13, _)] (Sub.cons rfl (Sub.cons rfl (Sub.cons rfl (Sub.cons rfl (Sub.cons rfl (Sub.nil _)))))) ?_
            refine XC.region ?_
            refine XO.v (V.move rfl) rfl ?_
            refine XO.v (V.add rfl rfl _ (IntWalk.i64_in _ (by omega))) rfl ?_
            refine XO.v (V.assign rfl) rfl ?_
            refine XO.nil ?_
            refine XE.again (i2 + 1) ?_ ?_ (Sub.cons rfl (Sub.cons rfl (Sub.cons rfl (Sub.cons rfl (Sub.cons rfl (Sub.nil _)))))) (fun _ hw => XM.pick (.cons (.there (.there .here)) (.cons (.there (.there .here)) (.cons (.there (.there .here)) (.cons (.there .here) .nil)))) hw)
            · skip
              (first | omega | (simp; done) | (simp; omega))
            · skip
              (first | omega | (simp; done) | (simp; omega))
        · skip
          refine XQ.skip (i := 11) (l' := #[true, true, true, true, true, true, true, true, true, true, true, true, false, false, false, false, false, false, false, false, false, false, false, false, false, false, false, false, false, false, false, false, false, false, false, false, false, false, false, false, false, false, false, false, false, false]) rfl rfl rfl rfl rfl (by kernel_rfl) rfl rfl rfl ?_
          refine XQ.skip (i := 12) (l' := #[true, true, true, true, true, true, true, true, true, true, true, true, true, false, false, false, false, false, false, false, false, false, false, false, false, false, false, false, false, false, false, false, false, false, false, false, false, false, false, false, false, false, false, false, false, false]) rfl rfl rfl rfl rfl (by kernel_rfl) rfl rfl rfl ?_
          refine XQ.skip (i := 13) (l' := #[true, true, true, true, true, true, true, true, true, true, true, true, true, true, false, false, false, false, false, false, false, false, false, false, false, false, false, false, false, false, false, false, false, false, false, false, false, false, false, false, false, false, false, false, false, false]) rfl rfl rfl rfl rfl (by kernel_rfl) rfl rfl rfl ?_
          refine XQ.skip (i := 14) (l' := #[true, true, true, true, true, true, true, true, true, true, true, true, true, true, true, false, false, false, false, false, false, false, false, false, false, false, false, false, false, false, false, false, false, false, false, false, false, false, false, false, false, false, false, false, false, false]) rfl rfl rfl rfl rfl (by kernel_rfl) rfl rfl rfl ?_
          refine XQ.skip (i := 15) (l' := #[true, true, true, true, true, true, true, true, true, true, true, true, true, true, true, true, false, false, false, false, false, false, false, false, false, false, false, false, false, false, false, false, false, false, false, false, false, false, false, false, false, false, false, false, false, false]) rfl rfl rfl rfl rfl (by kernel_rfl) rfl rfl rfl ?_
          refine XQ.skip (i := 16) (l' := #[true, true, true, true, true, true, true, true, true, true, true, true, true, true, true, true, true, false, false, false, false, false, false, false, false, false, false, false, false, false, false, false, false, false, false, false, false, false, false, false, false, false, false, false, false, false]) rfl rfl rfl rfl rfl (by kernel_rfl) rfl rfl rfl ?_
          refine XQ.skip (i := 17) (l' := #[true, true, true, true, true, true, true, true, true, true, true, true, true, true, true, true, true, true, false, false, false, false, false, false, false, false, false, false, false, false, false, false, false, false, false, false, false, false, false, false, false, false, false, false, false, false]) rfl rfl rfl rfl rfl (by kernel_rfl) rfl rfl rfl ?_
          refine XQ.skip (i := 18) (l' := #[true, true, true, true, true, true, true, true, true, true, true, true, true, true, true, true, true, true, true, false, false, false, false, false, false, false, false, false, false, false, false, false, false, false, false, false, false, false, false, false, false, false, false, false, false, false]) rfl rfl rfl rfl rfl (by kernel_rfl) rfl rfl rfl ?_
          refine XQ.skip (i := 19) (l' := #[true, true, true, true, true, true, true, true, true, true, true, true, true, true, true, true, true, true, true, true, false, false, false, false, false, false, false, false, false, false, false, false, false, false, false, false, false, false, false, false, false, false, false, false, false, false]) rfl rfl rfl rfl rfl (by kernel_rfl) rfl rfl rfl ?_
          refine XQ.skip (i := 20) (l' := #[true, true, true, true, true, true, true, true, true, true, true, true, true, true, true, true, true, true, true, true, true, false, false, false, false, false, false, false, false, false, false, false, false, false, false, false, false, false, false, false, false, false, false, false, false, false]) rfl rfl rfl rfl rfl (by kernel_rfl) rfl rfl rfl ?_
          refine XQ.pv (i := 21) (l' := #[true, true, true, true, true, true, true, true, true, true, true, true, true, true, true, true, true, true, true, true, true, true, false, false, false, false, false, false, false, false, false, false, false, false, false, false, false, false, false, false, false, false, false, false, false, false]) rfl (by kernel_rfl) rfl (V.pick rfl rfl rfl rfl) rfl rfl ?_
          refine XQ.pv (i := 22) (l' := #[true, true, true, true, true, true, true, true, true, true, true, true, true, true, true, true, true, true, true, true, true, true, true, false, false, false, false, false, false, false, false, false, false, false, false, false, false, false, false, false, false, false, false, false, false, false]) rfl (by kernel_rfl) rfl (V.move rfl) rfl rfl ?_
          refine XQ.pvG (i := 23) (l' := #[true, true, true, true, true, true, true, true, true, true, true, true, true, true, true, true, true, true, true, true, true, true, true, true, false, false, false, false, false, false, false, false, false, false, false, false, false, false, false, false, false, false, false, false, false, false]) rfl rfl rfl (by kernel_rfl) rfl (V.fieldAddr rfl fo_63_2) rfl rfl ?_
          refine XQ.loadG (i := 24) (l' := #[true, true, true, true, true, true, true, true, true, true, true, true, true, true, true, true, true, true, true, true, true, true, true, true, true, false, false, false, false, false, false, false, false, false, false, false, false, false, false, false, false, false, false, false, false, false]) (.cells _ _ _ _) [] rfl rfl rfl (by kernel_rfl) rfl .here (V.load rfl inEnt (encV.ld_MaxPages _) sc_3) rfl (by kernel_rfl) rfl ?_
          refine XQ.pvG (i := 25) (l' := #[true, true, true, true, true, true, true, true, true, true, true, true, true, true, true, true, true, true, true, true, true, true, true, true, true, true, false, false, false, false, false, false, false, false, false, false, false, false, false, false, false, false, false, false, false, false]) rfl rfl rfl (by kernel_rfl) rfl (V.cmp rfl rfl rfl) rfl rfl ?_
          refine XQ.pvG (i := 26) (l' := #[true, true, true, true, true, true, true, true, true, true, true, true, true, true, true, true, true, true, true, true, true, true, true, true, true, true, true, false, false, false, false, false, false, false, false, false, false, false, false, false, false, false, false, false, false, false]) rfl rfl rfl (by kernel_rfl) rfl (V.move rfl) rfl rfl ?_
          refine XQ.splitP (d := 156) rfl (fun h14 => ?_) (fun h14 => ?_)
          · skip
            refine XQ.pvG (i := 27) (l' := #[true, true, true, true, true, true, true, true, true, true, true, true, true, true, true, true, true, true, true, true, true, true, true, true, true, true, true, true, false, false, false, false, false, false, false, false, false, false, false, false, false, false, false, false, false, false]) rfl rfl rfl (by kernel_rfl) rfl (V.fieldAddr rfl fo_63_4) rfl rfl ?_
            refine XQ.loadG (i := 28) (l' := #[true, true, true, true, true, true, true, true, true, true, true, true, true, true, true, true, true, true, true, true, true, true, true, true, true, true, true, true, true, false, false, false, false, false, false, false, false, false, false, false, false, false, false, false, false, false]) (.cells _ _ _ _) [] rfl rfl rfl (by kernel_rfl) rfl .here (V.load rfl inEnt (encV.ld_Pages _) sc_3) rfl (by kernel_rfl) rfl ?_
            refine XQ.pvG (i := 29) (l' := #[true, true, true, true, true, true, true, true, true, true, true, true, true, true, true, true, true, true, true, true, true, true, true, true, true, true, true, true, true, true, false, false, false, false, false, false, false, false, false, false, false, false, false, false, false, false]) rfl rfl rfl (by kernel_rfl) rfl (V.fieldAddr rfl fo_63_2) rfl rfl ?_
            refine XQ.loadG (i := 30) (l' := #[true, true, true, true, true, true, true, true, true, true, true, true, true, true, true, true, true, true, true, true, true, true, true, true, true, true, true, true, true, true, true, false, false, false, false, false, false, false, false, false, false, false, false, false, false, false]) (.cells _ _ _ _) [] rfl rfl rfl (by kernel_rfl) rfl .here (V.load rfl inEnt (encV.ld_MaxPages _) sc_3) rfl (by kernel_rfl) rfl ?_
            refine XQ.pvG (i := 31) (l' := #[true, true, true, true, true, true, true, true, true, true, true, true, true, true, true, true, true, true, true, true, true, true, true, true, true, true, true, true, true, true, true, true, false, false, false, false, false, false, false, false, false, false, false, false, false, false]) rfl rfl rfl (by kernel_rfl) rfl (V.cmp rfl rfl rfl) rfl rfl ?_
            refine XQ.pvG (i := 32) (l' := #[true, true, true, true, true, true, true, true, true, true, true, true, true, true, true, true, true, true, true, true, true, true, true, true, true, true, true, true, true, true, true, true, true, false, false, false, false, false, false, false, false, false, false, false, false, false]) rfl rfl rfl (by kernel_rfl) rfl (V.pick rfl rfl rfl rfl) rfl rfl ?_
            refine XQ.pvG (i := 33) (l' := #[true, true, true, true, true, true, true, true, true, true, true, true, true, true, true, true, true, true, true, true, true, true, true, true, true, true, true, true, true, true, true, true, true, true, false, false, false, false, false, false, false, false, false, false, false, false]) rfl rfl rfl (by kernel_rfl) rfl (V.move rfl) rfl rfl ?_
            refine XQ.splitP (d := 163) rfl (fun h15 => ?_) (fun h15 => ?_)
            · skip
              refine XQ.pvG (i := 34) (l' := #[true, true, true, true, true, true, true, true, true, true, true, true, true, true, true, true, true, true, true, true, true, true, true, true, true, true, true, true, true, true, true, true, true, true, true, false, false, false, false, false, false, false, false, false, false, false]) rfl rfl rfl (by kernel_rfl) rfl (V.fieldAddr rfl fo_63_4) rfl rfl ?_
              refine XQ.loadG (i := 35) (l' := #[true, true, true, true, true, true, true, true, true, true, true, true, true, true, true, true, true, true, true, true, true, true, true, true, true, true, true, true, true, true, true, true, true, true, true, true, false, false, false, false, false, false, false, false, false, false]) (.cells _ _ _ _) [] rfl rfl rfl (by kernel_rfl) rfl .here (V.load rfl inEnt (encV.ld_Pages _) sc_3) rfl (by kernel_rfl) rfl ?_
              refine XQ.pvG (i := 36) (l' := #[true, true, true, true, true, true, true, true, true, true, true, true, true, true, true, true, true, true, true, true, true, true, true, true, true, true, true, true, true, true, true, true, true, true, true, true, true, false, false, false, false, false, false, false, false, false]) rfl rfl rfl (by kernel_rfl) rfl (V.move rfl) rfl rfl ?_
              refine XQ.pvG (i := 37) (l' := #[true, true, true, true, true, true, true, true, true, true, true, true, true, true, true, true, true, true, true, true, true, true, true, true, true, true, true, true, true, true, true, true, true, true, true, true, true, true, false, false, false, false, false, false, false, false]) rfl rfl rfl (by kernel_rfl) rfl (V.move rfl) rfl rfl ?_
              refine XQ.pvG (i := 38) (l' := #[true, true, true, true, true, true, true, true, true, true, true, true, true, true, true, true, true, true, true, true, true, true, true, true, true, true, true, true, true, true, true, true, true, true, true, true, true, true, true, false, false, false, false, false, false, false]) rfl rfl rfl (by kernel_rfl) rfl (V.indexSl rfl rfl sl_85 (by omega)) rfl rfl ?_
              refine XQ.loadG (i := 39) (l' := #[true, true, true, true, true, true, true, true, true, true, true, true, true, true, true, true, true, true, true, true, true, true, true, true, true, true, true, true, true, true, true, true, true, true, true, true, true, true, true, true, false, false, false, false, false, false]) (.row _ _ _ _ _) [] rfl rfl rfl (by kernel_rfl) rfl (.there (.there .here)) (V.loadRow rfl inEnt (ints_at (by omega)) sc_3) rfl (by kernel_rfl) rfl ?_
              refine XQ.pvG (i := 40) (l' := #[true, true, true, true, true, true, true, true, true, true, true, true, true, true, true, true, true, true, true, true, true, true, true, true, true, true, true, true, true, true, true, true, true, true, true, true, true, true, true, true, true, false, false, false, false, false]) rfl rfl rfl (by kernel_rfl) rfl (V.indexArr rfl rfl ar_64 (by omega)) rfl rfl ?_
              refine XQ.pvG (i := 41) (l' := #[true, true, true, true, true, true, true, true, true, true, true, true, true, true, true, true, true, true, true, true, true, true, true, true, true, true, true, true, true, true, true, true, true, true, true, true, true, true, true, true, true, true, false, false, false, false]) rfl rfl rfl (by kernel_rfl) rfl (V.fieldAddr rfl fo_63_4) rfl rfl ?_
              refine XQ.loadG (i := 42) (l' := #[true, true, true, true, true, true, true, true, true, true, true, true, true, true, true, true, true, true, true, true, true, true, true, true, true, true, true, true, true, true, true, true, true, true, true, true, true, true, true, true, true, true, true, false, false, false]) (.cells _ _ _ _) [] rfl rfl rfl (by kernel_rfl) rfl (.there (.there (.there .here))) (V.load rfl inEnt (encW.ld_pg _ _ (by omega)) sc_3) rfl (by kernel_rfl) rfl ?_
              refine XQ.pvG (i := 43) (l' := #[true, true, true, true, true, true, true, true, true, true, true, true, true, true, true, true, true, true, true, true, true, true, true, true, true, true, true, true, true, true, true, true, true, true, true, true, true, true, true, true, true, true, true, true, false, false]) rfl rfl rfl (by kernel_rfl) rfl (V.cmp rfl rfl rfl) rfl rfl ?_
              refine XQ.pvG (i := 44) (l' := #[true, true, true, true, true, true, true, true, true, true, true, true, true, true, true, true, true, true, true, true, true, true, true, true, true, true, true, true, true, true, true, true, true, true, true, true, true, true, true, true, true, true, true, true, true, false]) rfl rfl rfl (by kernel_rfl) rfl (V.pick rfl rfl rfl rfl) rfl rfl ?_
              refine XQ.pv (i := 45) (l' := #[true, true, true, true, true, true, true, true, true, true, true, true, true, true, true, true, true, true, true, true, true, true, true, true, true, true, true, true, true, true, true, true, true, true, true, true, true, true, true, true, true, true, true, true, true, true]) rfl (by kernel_rfl) rfl (V.pick rfl rfl rfl rfl) rfl rfl ?_
              refine XQ.done (by kernel_rfl) ?_
              refine XE.next ?_
              refine XC.keep [(0, _), (5, _), (7, _), (8, _), (13, _), (175, _)] (Sub.cons rfl (Sub.cons rfl (Sub.cons rfl (Sub.cons rfl (Sub.cons rfl (Sub.cons rfl (Sub.nil _))))))) ?_
              refine XC.condFP rfl (by omega) ?_
              refine XC.skip ?_
              refine XE.blockNormal ?_
              refine XE.next ?_
              refine XC.keep [(0, _), (5, _), (7, _), (8, _), (13, _)] (Sub.cons rfl (Sub.cons rfl (Sub.cons rfl (Sub.cons rfl (Sub.cons rfl (Sub.nil _)))))) ?_
              refine XC.region ?_
              refine XO.v (V.move rfl) rfl ?_
              refine XO.v (V.add rfl rfl _ (IntWalk.i64_in _ (by omega))) rfl ?_
              refine XO.v (V.assign rfl) rfl ?_
              refine XO.nil ?_
              refine XE.again (i2 + 1) ?_ ?_ (Sub.cons rfl (Sub.cons rfl (Sub.cons rfl (Sub.cons rfl (Sub.cons rfl (Sub.nil _)))))) (fun _ hw => XM.pick (.cons (.there (.there .here)) (.cons (.there (.there .here)) (.cons (.there (.there .here)) (.cons (.there .here) .nil)))) hw)
              · skip
                (first | omega | (simp; done) | (simp; omega))
              · skip
                (first | omega | (simp; done) | (simp; omega))
            · skip
              refine XQ.skip (i := 34) (l' := #[true, true, true, true, true, true, true, true, true, true, true, true, true, true, true, true, true, true, true, true, true, true, true, true, true, true, true, true, true, true, true, true, true, true, true, false, false, false, false, false, false, false, false, false, false, false]) rfl rfl rfl rfl rfl (by kernel_rfl) rfl rfl rfl ?_
              refine XQ.skip (i := 35) (l' := #[true, true, true, true, true, true, true, true, true, true, true, true, true, true, true, true, true, true, true, true, true, true, true, true, true, true, true, true, true, true, true, true, true, true, true, true, false, false, false, false, false, false, false, false, false, false]) rfl rfl rfl rfl rfl (by kernel_rfl) rfl rfl rfl ?_
              refine XQ.skip (i := 36) (l' := #[true, true, true, true, true, true, true, true, true, true, true, true, true, true, true, true, true, true, true, true, true, true, true, true, true, true, true, true, true, true, true, true, true, true, true, true, true, false, false, false, false, false, false, false, false, false]) rfl rfl rfl rfl rfl (by kernel_rfl) rfl rfl rfl ?_
              refine XQ.skip (i := 37) (l' := #[true, true, true, true, true, true, true, true, true, true, true, true, true, true, true, true, true, true, true, true, true, true, true, true, true, true, true, true, true, true, true, true, true, true, true, true, true, true, false, false, false, false, false, false, false, false]) rfl rfl rfl rfl rfl (by kernel_rfl) rfl rfl rfl ?_
              refine XQ.skip (i := 38) (l' := #[true, true, true, true, true, true, true, true, true, true, true, true, true, true, true, true, true, true, true, true, true, true, true, true, true, true, true, true, true, true, true, true, true, true, true, true, true, true, true, false, false, false, false, false, false, false]) rfl rfl rfl rfl rfl (by kernel_rfl) rfl rfl rfl ?_
              refine XQ.skip (i := 39) (l' := #[true, true, true, true, true, true, true, true, true, true, true, true, true, true, true, true, true, true, true, true, true, true, true, true, true, true, true, true, true, true, true, true, true, true, true, true, true, true, true, true, false, false, false, false, false, false]) rfl rfl rfl rfl rfl (by kernel_rfl) rfl rfl rfl ?_
              refine XQ.skip (i := 40) (l' := #[true, true, true, true, true, true, true, true, true, true, true, true, true, true, true, true, true, true, true, true, true, true, true, true, true, true, true, true, true, true, true, true, true, true, true, true, true, true, true, true, true, false, false, false, false, false]) rfl rfl rfl rfl rfl (by kernel_rfl) rfl rfl rfl ?_
              refine XQ.skip (i := 41) (l' := #[true, true, true, true, true, true, true, true, true, true, true, true, true, true, true, true, true, true, true, true, true, true, true, true, true, true, true, true, true, true, true, true, true, true, true, true, true, true, true, true, true, true, false, false, false, false]) rfl rfl rfl rfl rfl (by kernel_rfl) rfl rfl rfl ?_
              refine XQ.skip (i := 42) (l' := #[true, true, true, true, true, true, true, true, true, true, true, true, true, true, true, true, true, true, true, true, true, true, true, true, true, true, true, true, true, true, true, true, true, true, true, true, true, true, true, true, true, true, true, false, false, false]) rfl rfl rfl rfl rfl (by kernel_rfl) rfl rfl rfl ?_
              refine XQ.skip (i := 43) (l' := #[true, true, true, true, true, true, true, true, true, true, true, true, true, true, true, true, true, true, true, true, true, true, true, true, true, true, true, true, true, true, true, true, true, true, true, true, true, true, true, true, true, true, true, true, false, false]) rfl rfl rfl rfl rfl (by kernel_rfl) rfl rfl rfl ?_
              refine XQ.pvG (i := 44) (l' := #[true, true, true, true, true, true, true, true, true, true, true, true, true, true, true, true, true, true, true, true, true, true, true, true, true, true, true, true, true, true, true, true, true, true, true, true, true, true, true, true, true, true, true, true, true, false]) rfl rfl rfl (by kernel_rfl) rfl (V.pick rfl rfl rfl rfl) rfl rfl ?_
              refine XQ.pv (i := 45) (l' := #[true, true, true, true, true, true, true, true, true, true, true, true, true, true, true, true, true, true, true, true, true, true, true, true, true, true, true, true, true, true, true, true, true, true, true, true, true, true, true, true, true, true, true, true, true, true]) rfl (by kernel_rfl) rfl (V.pick rfl rfl rfl rfl) rfl rfl ?_
              refine XQ.done (by kernel_rfl) ?_
              refine XE.next ?_
              refine XC.keep [(0, _), (5, _), (7, _), (8, _), (13, _), (175, _)] (Sub.cons rfl (Sub.cons rfl (Sub.cons rfl (Sub.cons rfl (Sub.cons rfl (Sub.cons rfl (Sub.nil _))))))) ?_
              refine XC.condF rfl rfl ?_
              refine XC.skip ?_
              refine XE.blockNormal ?_
              refine XE.next ?_
              refine XC.keep [(0, _), (5, _), (7, _), (8, _), (13, _)] (Sub.cons rfl (Sub.cons rfl (Sub.cons rfl (Sub.cons rfl (Sub.cons rfl (Sub.nil _)))))) ?_
              refine XC.region ?_
              refine XO.v (V.move rfl) rfl ?_
              refine XO.v (V.add rfl rfl _ (IntWalk.i64_in _ (by omega))) rfl ?_
              refine XO.v (V.assign rfl) rfl ?_
              refine XO.nil ?_
              refine XE.again (i2 + 1) ?_ ?_ (Sub.cons rfl (Sub.cons rfl (Sub.cons rfl (Sub.cons rfl (Sub.cons rfl (Sub.nil _)))))) (fun _ hw => XM.pick (.cons (.there (.there .here)) (.cons (.there (.there .here)) (.cons (.there (.there .here)) (.cons (.there .here) .nil)))) hw)
              · skip
                (first | omega | (simp; done) | (simp; omega))
              · skip
                (first | omega | (simp; done) | (simp; omega))
          · skip
            refine XQ.skip (i := 27) (l' := #[true, true, true, true, true, true, true, true, true, true, true, true, true, true, true, true, true, true, true, true, true, true, true, true, true, true, true, true, false, false, false, false, false, false, false, false, false, false, false, false, false, false, false, false, false, false]) rfl rfl rfl rfl rfl (by kernel_rfl) rfl rfl rfl ?_
            refine XQ.skip (i := 28) (l' := #[true, true, true, true, true, true, true, true, true, true, true, true, true, true, true, true, true, true, true, true, true, true, true, true, true, true, true, true, true, false, false, false, false, false, false, false, false, false, false, false, false, false, false, false, false, false]) rfl rfl rfl rfl rfl (by kernel_rfl) rfl rfl rfl ?_
            refine XQ.skip (i := 29) (l' := #[true, true, true, true, true, true, true, true, true, true, true, true, true, true, true, true, true, true, true, true, true, true, true, true, true, true, true, true, true, true, false, false, false, false, false, false, false, false, false, false, false, false, false, false, false, false]) rfl rfl rfl rfl rfl (by kernel_rfl) rfl rfl rfl ?_
            refine XQ.skip (i := 30) (l' := #[true, true, true, true, true, true, true, true, true, true, true, true, true, true, true, true, true, true, true, true, true, true, true, true, true, true, true, true, true, true, true, false, false, false, false, false, false, false, false, false, false, false, false, false, false, false]) rfl rfl rfl rfl rfl (by kernel_rfl) rfl rfl rfl ?_
            refine XQ.skip (i := 31) (l' := #[true, true, true, true, true, true, true, true, true, true, true, true, true, true, true, true, true, true, true, true, true, true, true, true, true, true, true, true, true, true, true, true, false, false, false, false, false, false, false, false, false, false, false, false, false, false]) rfl rfl rfl rfl rfl (by kernel_rfl) rfl rfl rfl ?_
            refine XQ.pvG (i := 32) (l' := #[true, true, true, true, true, true, true, true, true, true, true, true, true, true, true, true, true, true, true, true, true, true, true, true, true, true, true, true, true, true, true, true, true, false, false, false, false, false, false, false, false, false, false, false, false, false]) rfl rfl rfl (by kernel_rfl) rfl (V.pick rfl rfl rfl rfl) rfl rfl ?_
            refine XQ.pvG (i := 33) (l' := #[true, true, true, true, true, true, true, true, true, true, true, true, true, true, true, true, true, true, true, true, true, true, true, true, true, true, true, true, true, true, true, true, true, true, false, false, false, false, false, false, false, false, false, false, false, false]) rfl rfl rfl (by kernel_rfl) rfl (V.move rfl) rfl rfl ?_
            refine XQ.skip (i := 34) (l' := #[true, true, true, true, true, true, true, true, true, true, true, true, true, true, true, true, true, true, true, true, true, true, true, true, true, true, true, true, true, true, true, true, true, true, true, false, false, false, false, false, false, false, false, false, false, false]) rfl rfl rfl rfl rfl (by kernel_rfl) rfl rfl rfl ?_
            refine XQ.skip (i := 35) (l' := #[true, true, true, true, true, true, true, true, true, true, true, true, true, true, true, true, true, true, true, true, true, true, true, true, true, true, true, true, true, true, true, true, true, true, true, true, false, false, false, false, false, false, false, false, false, false]) rfl rfl rfl rfl rfl (by kernel_rfl) rfl rfl rfl ?_
            refine XQ.skip (i := 36) (l' := #[true, true, true, true, true, true, true, true, true, true, true, true, true, true, true, true, true, true, true, true, true, true, true, true, true, true, true, true, true, true, true, true, true, true, true, true, true, false, false, false, false, false, false, false, false, false]) rfl rfl rfl rfl rfl (by kernel_rfl) rfl rfl rfl ?_
            refine XQ.skip (i := 37) (l' := #[true, true, true, true, true, true, true, true, true, true, true, true, true, true, true, true, true, true, true, true, true, true, true, true, true, true, true, true, true, true, true, true, true, true, true, true, true, true, false, false, false, false, false, false, false, false]) rfl rfl rfl rfl rfl (by kernel_rfl) rfl rfl rfl ?_
            refine XQ.skip (i := 38) (l' := #[true, true, true, true, true, true, true, true, true, true, true, true, true, true, true, true, true, true, true, true, true, true, true, true, true, true, true, true, true, true, true, true, true, true, true, true, true, true, true, false, false, false, false, false, false, false]) rfl rfl rfl rfl rfl (by kernel_rfl) rfl rfl rfl ?_
            refine XQ.skip (i := 39) (l' := #[true, true, true, true, true, true, true, true, true, true, true, true, true, true, true, true, true, true, true, true, true, true, true, true, true, true, true, true, true, true, true, true, true, true, true, true, true, true, true, true, false, false, false, false, false, false]) rfl rfl rfl rfl rfl (by kernel_rfl) rfl rfl rfl ?_
            refine XQ.skip (i := 40) (l' := #[true, true, true, true, true, true, true, true, true, true, true, true, true, true, true, true, true, true, true, true, true, true, true, true, true, true, true, true, true, true, true, true, true, true, true, true, true, true, true, true, true, false, false, false, false, false]) rfl rfl rfl rfl rfl (by kernel_rfl) rfl rfl rfl ?_
            refine XQ.skip (i := 41) (l' := #[true, true, true, true, true, true, true, true, true, true, true, true, true, true, true, true, true, true, true, true, true, true, true, true, true, true, true, true, true, true, true, true, true, true, true, true, true, true, true, true, true, true, false, false, false, false]) rfl rfl rfl rfl rfl (by kernel_rfl) rfl rfl rfl ?_
            refine XQ.skip (i := 42) (l' := #[true, true, true, true, true, true, true, true, true, true, true, true, true, true, true, true, true, true, true, true, true, true, true, true, true, true, true, true, true, true, true, true, true, true, true, true, true, true, true, true, true, true, true, false, false, false]) rfl rfl rfl rfl rfl (by kernel_rfl) rfl rfl rfl ?_
            refine XQ.skip (i := 43) (l' := #[true, true, true, true, true, true, true, true, true, true, true, true, true, true, true, true, true, true, true, true, true, true, true, true, true, true, true, true, true, true, true, true, true, true, true, true, true, true, true, true, true, true, true, true, false, false]) rfl rfl rfl rfl rfl (by kernel_rfl) rfl rfl rfl ?_
            refine XQ.pvG (i := 44) (l' := #[true, true, true, true, true, true, true, true, true, true, true, true, true, true, true, true, true, true, true, true, true, true, true, true, true, true, true, true, true, true, true, true, true, true, true, true, true, true, true, true, true, true, true, true, true, false]) rfl rfl rfl (by kernel_rfl) rfl (V.pick rfl rfl rfl rfl) rfl rfl ?_
            refine XQ.pv (i := 45) (l' := #[true, true, true, true, true, true, true, true, true, true, true, true, true, true, true, true, true, true, true, true, true, true, true, true, true, true, true, true, true, true, true, true, true, true, true, true, true, true, true, true, true, true, true, true, true, true]) rfl (by kernel_rfl) rfl (V.pick rfl rfl rfl rfl) rfl rfl ?_
            refine XQ.done (by kernel_rfl) ?_
            refine XE.next ?_
            refine XC.keep [(0, _), (5, _), (7, _), (8, _), (13, _), (175, _)] (Sub.cons rfl (Sub.cons rfl (Sub.cons rfl (Sub.cons rfl (Sub.cons rfl (Sub.cons rfl (Sub.nil _))))))) ?_
            refine XC.condF rfl rfl ?_
            refine XC.skip ?_
            refine XE.blockNormal ?_
            refine XE.next ?_
            refine XC.keep [(0, _), (5, _), (7, _), (8, _), (13, _)] (Sub.cons rfl (Sub.cons rfl (Sub.cons rfl (Sub.cons rfl (Sub.cons rfl (Sub.nil _)))))) ?_
            refine XC.region ?_
            refine XO.v (V.move rfl) rfl ?_
            refine XO.v (V.add rfl rfl _ (IntWalk.i64_in _ (by omega))) rfl ?_
            refine XO.v (V.assign rfl) rfl ?_
            refine XO.nil ?_
            refine XE.again (i2 + 1) ?_ ?_ (Sub.cons rfl (Sub.cons rfl (Sub.cons rfl (Sub.cons rfl (Sub.cons rfl (Sub.nil _)))))) (fun _ hw => XM.pick (.cons (.there (.there .here)) (.cons (.there (.there .here)) (.cons (.there (.there .here)) (.cons (.there .here) .nil)))) hw)
            · skip
              (first | omega | (simp; done) | (simp; omega))
            · skip
              (first | omega | (simp; done) | (simp; omega))
      · skip
        refine XQ.skip (i := 4) (l' := #[true, true, true, true, true, false, false, false, false, false, false, false, false, false, false, false, false, false, false, false, false, false, false, false, false, false, false, false, false, false, false, false, false, false, false, false, false, false, false, false, false, false, false, false, false, false]) rfl rfl rfl rfl rfl (by kernel_rfl) rfl rfl rfl ?_
        refine XQ.skip (i := 5) (l' := #[true, true, true, true, true, true, false, false, false, false, false, false, false, false, false, false, false, false, false, false, false, false, false, false, false, false, false, false, false, false, false, false, false, false, false, false, false, false, false, false, false, false, false, false, false, false]) rfl rfl rfl rfl rfl (by kernel_rfl) rfl rfl rfl ?_
        refine XQ.skip (i := 6) (l' := #[true, true, true, true, true, true, true, false, false, false, false, false, false, false, false, false, false, false, false, false, false, false, false, false, false, false, false, false, false, false, false, false, false, false, false, false, false, false, false, false, false, false, false, false, false, false]) rfl rfl rfl rfl rfl (by kernel_rfl) rfl rfl rfl ?_
        refine XQ.skip (i := 7) (l' := #[true, true, true, true, true, true, true, true, false, false, false, false, false, false, false, false, false, false, false, false, false, false, false, false, false, false, false, false, false, false, false, false, false, false, false, false, false, false, false, false, false, false, false, false, false, false]) rfl rfl rfl rfl rfl (by kernel_rfl) rfl rfl rfl ?_
        refine XQ.skip (i := 8) (l' := #[true, true, true, true, true, true, true, true, true, false, false, false, false, false, false, false, false, false, false, false, false, false, false, false, false, false, false, false, false, false, false, false, false, false, false, false, false, false, false, false, false, false, false, false, false, false]) rfl rfl rfl rfl rfl (by kernel_rfl) rfl rfl rfl ?_
        refine XQ.pv (i := 9) (l' := #[true, true, true, true, true, true, true, true, true, true, false, false, false, false, false, false, false, false, false, false, false, false, false, false, false, false, false, false, false, false, false, false, false, false, false, false, false, false, false, false, false, false, false, false, false, false]) rfl (by kernel_rfl) rfl (V.pick rfl rfl rfl rfl) rfl rfl ?_
        refine XQ.pv (i := 10) (l' := #[true, true, true, true, true, true, true, true, true, true, true, false, false, false, false, false, false, false, false, false, false, false, false, false, false, false, false, false, false, false, false, false, false, false, false, false, false, false, false, false, false, false, false, false, false, false]) rfl (by kernel_rfl) rfl (V.move rfl) rfl rfl ?_
        refine XQ.skip (i := 11) (l' := #[true, true, true, true, true, true, true, true, true, true, true, true, false, false, false, false, false, false, false, false, false, false, false, false, false, false, false, false, false, false, false, false, false, false, false, false, false, false, false, false, false, false, false, false, false, false]) rfl rfl rfl rfl rfl (by kernel_rfl) rfl rfl rfl ?_
        refine XQ.skip (i := 12) (l' := #[true, true, true, true, true, true, true, true, true, true, true, true, true, false, false, false, false, false, false, false, false, false, false, false, false, false, false, false, false, false, false, false, false, false, false, false, false, false, false, false, false, false, false, false, false, false]) rfl rfl rfl rfl rfl (by kernel_rfl) rfl rfl rfl ?_
        refine XQ.skip (i := 13) (l' := #[true, true, true, true, true, true, true, true, true, true, true, true, true, true, false, false, false, false, false, false, false, false, false, false, false, false, false, false, false, false, false, false, false, false, false, false, false, false, false, false, false, false, false, false, false, false]) rfl rfl rfl rfl rfl (by kernel_rfl) rfl rfl rfl ?_
        refine XQ.skip (i := 14) (l' := #[true, true, true, true, true, true, true, true, true, true, true, true, true, true, true, false, false, false, false, false, false, false, false, false, false, false, false, false, false, false, false, false, false, false, false, false, false, false, false, false, false, false, false, false, false, false]) rfl rfl rfl rfl rfl (by kernel_rfl) rfl rfl rfl ?_
        refine XQ.skip (i := 15) (l' := #[true, true, true, true, true, true, true, true, true, true, true, true, true, true, true, true, false, false, false, false, false, false, false, false, false, false, false, false, false, false, false, false, false, false, false, false, false, false, false, false, false, false, false, false, false, false]) rfl rfl rfl rfl rfl (by kernel_rfl) rfl rfl rfl ?_
        refine XQ.skip (i := 16) (l' := #[true, true, true, true, true, true, true, true, true, true, true, true, true, true, true, true, true, false, false, false, false, false, false, false, false, false, false, false, false, false, false, false, false, false, false, false, false, false, false, false, false, false, false, false, false, false]) rfl rfl rfl rfl rfl (by kernel_rfl) rfl rfl rfl ?_
        refine XQ.skip (i := 17) (l' := #[true, true, true, true, true, true, true, true, true, true, true, true, true, true, true, true, true, true, false, false, false, false, false, false, false, false, false, false, false, false, false, false, false, false, false, false, false, false, false, false, false, false, false, false, false, false]) rfl rfl rfl rfl rfl (by kernel_rfl) rfl rfl rfl ?_
        refine XQ.skip (i := 18) (l' := #[true, true, true, true, true, true, true, true, true, true, true, true, true, true, true, true, true, true, true, false, false, false, false, false, false, false, false, false, false, false, false, false, false, false, false, false, false, false, false, false, false, false, false, false, false, false]) rfl rfl rfl rfl rfl (by kernel_rfl) rfl rfl rfl ?_
        refine XQ.skip (i := 19) (l' := #[true, true, true, true, true, true, true, true, true, true, true, true, true, true, true, true, true, true, true, true, false, false, false, false, false, false, false, false, false, false, false, false, false, false, false, false, false, false, false, false, false, false, false, false, false, false]) rfl rfl rfl rfl rfl (by kernel_rfl) rfl rfl rfl ?_
        refine XQ.skip (i := 20) (l' := #[true, true, true, true, true, true, true, true, true, true, true, true, true, true, true, true, true, true, true, true, true, false, false, false, false, false, false, false, false, false, false, false, false, false, false, false, false, false, false, false, false, false, false, false, false, false]) rfl rfl rfl rfl rfl (by kernel_rfl) rfl rfl rfl ?_
        refine XQ.pv (i := 21) (l' := #[true, true, true, true, true, true, true, true, true, true, true, true, true, true, true, true, true, true, true, true, true, true, false, false, false, false, false, false, false, false, false, false, false, false, false, false, false, false, false, false, false, false, false, false, false, false]) rfl (by kernel_rfl) rfl (V.pick rfl rfl rfl rfl) rfl rfl ?_
        refine XQ.pv (i := 22) (l' := #[true, true, true, true, true, true, true, true, true, true, true, true, true, true, true, true, true, true, true, true, true, true, true, false, false, false, false, false, false, false, false, false, false, false, false, false, false, false, false, false, false, false, false, false, false, false]) rfl (by kernel_rfl) rfl (V.move rfl) rfl rfl ?_
        refine XQ.pvG (i := 23) (l' := #[true, true, true, true, true, true, true, true, true, true, true, true, true, true, true, true, true, true, true, true, true, true, true, true, false, false, false, false, false, false, false, false, false, false, false, false, false, false, false, false, false, false, false, false, false, false]) rfl rfl rfl (by kernel_rfl) rfl (V.fieldAddr rfl fo_63_2) rfl rfl ?_
        refine XQ.loadG (i := 24) (l' := #[true, true, true, true, true, true, true, true, true, true, true, true, true, true, true, true, true, true, true, true, true, true, true, true, true, false, false, false, false, false, false, false, false, false, false, false, false, false, false, false, false, false, false, false, false, false]) (.cells _ _ _ _) [] rfl rfl rfl (by kernel_rfl) rfl .here (V.load rfl inEnt (encV.ld_MaxPages _) sc_3) rfl (by kernel_rfl) rfl ?_
        refine XQ.pvG (i := 25) (l' := #[true, true, true, true, true, true, true, true, true, true, true, true, true, true, true, true, true, true, true, true, true, true, true, true, true, true, false, false, false, false, false, false, false, false, false, false, false, false, false, false, false, false, false, false, false, false]) rfl rfl rfl (by kernel_rfl) rfl (V.cmp rfl rfl rfl) rfl rfl ?_
        refine XQ.pvG (i := 26) (l' := #[true, true, true, true, true, true, true, true, true, true, true, true, true, true, true, true, true, true, true, true, true, true, true, true, true, true, true, false, false, false, false, false, false, false, false, false, false, false, false, false, false, false, false, false, false, false]) rfl rfl rfl (by kernel_rfl) rfl (V.move rfl) rfl rfl ?_
        refine XQ.splitP (d := 156) rfl (fun h16 => ?_) (fun h16 => ?_)
        · skip
          refine XQ.pvG (i := 27) (l' := #[true, true, true, true, true, true, true, true, true, true, true, true, true, true, true, true, true, true, true, true, true, true, true, true, true, true, true, true, false, false, false, false, false, false, false, false, false, false, false, false, false, false, false, false, false, false]) rfl rfl rfl (by kernel_rfl) rfl (V.fieldAddr rfl fo_63_4) rfl rfl ?_
          refine XQ.loadG (i := 28) (l' := #[true, true, true, true, true, true, true, true, true, true, true, true, true, true, true, true, true, true, true, true, true, true, true, true, true, true, true, true, true, false, false, false, false, false, false, false, false, false, false, false, false, false, false, false, false, false]) (.cells _ _ _ _) [] rfl rfl rfl (by kernel_rfl) rfl .here (V.load rfl inEnt (encV.ld_Pages _) sc_3) rfl (by kernel_rfl) rfl ?_
          refine XQ.pvG (i := 29) (l' := #[true, true, true, true, true, true, true, true, true, true, true, true, true, true, true, true, true, true, true, true, true, true, true, true, true, true, true, true, true, true, false, false, false, false, false, false, false, false, false, false, false, false, false, false, false, false]) rfl rfl rfl (by kernel_rfl) rfl (V.fieldAddr rfl fo_63_2) rfl rfl ?_
          refine XQ.loadG (i := 30) (l' := #[true, true, true, true, true, true, true, true, true, true, true, true, true, true, true, true, true, true, true, true, true, true, true, true, true, true, true, true, true, true, true, false, false, false, false, false, false, false, false, false, false, false, false, false, false, false]) (.cells _ _ _ _) [] rfl rfl rfl (by kernel_rfl) rfl .here (V.load rfl inEnt (encV.ld_MaxPages _) sc_3) rfl (by kernel_rfl) rfl ?_
          refine XQ.pvG (i := 31) (l' := #[true, true, true, true, true, true, true, true, true, true, true, true, true, true, true, true, true, true, true, true, true, true, true, true, true, true, true, true, true, true, true, true, false, false, false, false, false, false, false, false, false, false, false, false, false, false]) rfl rfl rfl (by kernel_rfl) rfl (V.cmp rfl rfl rfl) rfl rfl ?_
          refine XQ.pvG (i := 32) (l' := #[true, true, true, true, true, true, true, true, true, true, true, true, true, true, true, true, true, true, true, true, true, true, true, true, true, true, true, true, true, true, true, true, true, false, false, false, false, false, false, false, false, false, false, false, false, false]) rfl rfl rfl (by kernel_rfl) rfl (V.pick rfl rfl rfl rfl) rfl rfl ?_
          refine XQ.pvG (i := 33) (l' := #[true, true, true, true, true, true, true, true, true, true, true, true, true, true, true, true, true, true, true, true, true, true, true, true, true, true, true, true, true, true, true, true, true, true, false, false, false, false, false, false, false, false, false, false, false, false]) rfl rfl rfl (by kernel_rfl) rfl (V.move rfl) rfl rfl ?_
          refine XQ.splitP (d := 163) rfl (fun h17 => ?_) (fun h17 => ?_)
          · skip
            refine XQ.pvG (i := 34) (l' := #[true, true, true, true, true, true, true, true, true, true, true, true, true, true, true, true, true, true, true, true, true, true, true, true, true, true, true, true, true, true, true, true, true, true, true, false, false, false, false, false, false, false, false, false, false, false]) rfl rfl rfl (by kernel_rfl) rfl (V.fieldAddr rfl fo_63_4) rfl rfl ?_
            refine XQ.loadG (i := 35) (l' := #[true, true, true, true, true, true, true, true, true, true, true, true, true, true, true, true, true, true, true, true, true, true, true, true, true, true, true, true, true, true, true, true, true, true, true, true, false, false, false, false, false, false, false, false, false, false]) (.cells _ _ _ _) [] rfl rfl rfl (by kernel_rfl) rfl .here (V.load rfl inEnt (encV.ld_Pages _) sc_3) rfl (by kernel_rfl) rfl ?_
            refine XQ.pvG (i := 36) (l' := #[true, true, true, true, true, true, true, true, true, true, true, true, true, true, true, true, true, true, true, true, true, true, true, true, true, true, true, true, true, true, true, true, true, true, true, true, true, false, false, false, false, false, false, false, false, false]) rfl rfl rfl (by kernel_rfl) rfl (V.move rfl) rfl rfl ?_
            refine XQ.pvG (i := 37) (l' := #[true, true, true, true, true, true, true, true, true, true, true, true, true, true, true, true, true, true, true, true, true, true, true, true, true, true, true, true, true, true, true, true, true, true, true, true, true, true, false, false, false, false, false, false, false, false]) rfl rfl rfl (by kernel_rfl) rfl (V.move rfl) rfl rfl ?_
            refine XQ.pvG (i := 38) (l' := #[true, true, true, true, true, true, true, true, true, true, true, true, true, true, true, true, true, true, true, true, true, true, true, true, true, true, true, true, true, true, true, true, true, true, true, true, true, true, true, false, false, false, false, false, false, false]) rfl rfl rfl (by kernel_rfl) rfl (V.indexSl rfl rfl sl_85 (by omega)) rfl rfl ?_
            refine XQ.loadG (i := 39) (l' := #[true, true, true, true, true, true, true, true, true, true, true, true, true, true, true, true, true, true, true, true, true, true, true, true, true, true, true, true, true, true, true, true, true, true, true, true, true, true, true, true, false, false, false, false, false, false]) (.row _ _ _ _ _) [] rfl rfl rfl (by kernel_rfl) rfl (.there (.there .here)) (V.loadRow rfl inEnt (ints_at (by omega)) sc_3) rfl (by kernel_rfl) rfl ?_
            refine XQ.pvG (i := 40) (l' := #[true, true, true, true, true, true, true, true, true, true, true, true, true, true, true, true, true, true, true, true, true, true, true, true, true, true, true, true, true, true, true, true, true, true, true, true, true, true, true, true, true, false, false, false, false, false]) rfl rfl rfl (by kernel_rfl) rfl (V.indexArr rfl rfl ar_64 (by omega)) rfl rfl ?_
            refine XQ.pvG (i := 41) (l' := #[true, true, true, true, true, true, true, true, true, true, true, true, true, true, true, true, true, true, true, true, true, true, true, true, true, true, true, true, true, true, true, true, true, true, true, true, true, true, true, true, true, true, false, false, false, false]) rfl rfl rfl (by kernel_rfl) rfl (V.fieldAddr rfl fo_63_4) rfl rfl ?_
            refine XQ.loadG (i := 42) (l' := #[true, true, true, true, true, true, true, true, true, true, true, true, true, true, true, true, true, true, true, true, true, true, true, true, true, true, true, true, true, true, true, true, true, true, true, true, true, true, true, true, true, true, true, false, false, false]) (.cells _ _ _ _) [] rfl rfl rfl (by kernel_rfl) rfl (.there (.there (.there .here))) (V.load rfl inEnt (encW.ld_pg _ _ (by omega)) sc_3) rfl (by kernel_rfl) rfl ?_
            refine XQ.pvG (i := 43) (l' := #[true, true, true, true, true, true, true, true, true, true, true, true, true, true, true, true, true, true, true, true, true, true, true, true, true, true, true, true, true, true, true, true, true, true, true, true, true, true, true, true, true, true, true, true, false, false]) rfl rfl rfl (by kernel_rfl) rfl (V.cmp rfl rfl rfl) rfl rfl ?_
            refine XQ.pvG (i := 44) (l' := #[true, true, true, true, true, true, true, true, true, true, true, true, true, true, true, true, true, true, true, true, true, true, true, true, true, true, true, true, true, true, true, true, true, true, true, true, true, true, true, true, true, true, true, true, true, false]) rfl rfl rfl (by kernel_rfl) rfl (V.pick rfl rfl rfl rfl) rfl rfl ?_
            refine XQ.pv (i := 45) (l' := #[true, true, true, true, true, true, true, true, true, true, true, true, true, true, true, true, true, true, true, true, true, true, true, true, true, true, true, true, true, true, true, true, true, true, true, true, true, true, true, true, true, true, true, true, true, true]) rfl (by kernel_rfl) rfl (V.pick rfl rfl rfl rfl) rfl rfl ?_
            refine XQ.done (by kernel_rfl) ?_
            refine XE.next ?_
            refine XC.keep [(0, _), (5, _), (7, _), (8, _), (13, _), (175, _)] (Sub.cons rfl (Sub.cons rfl (Sub.cons rfl (Sub.cons rfl (Sub.cons rfl (Sub.cons rfl (Sub.nil _))))))) ?_
            refine XC.condFP rfl (by omega) ?_
            refine XC.skip ?_
            refine XE.blockNormal ?_
            refine XE.next ?_
            refine XC.keep [(0, _), (5, _), (7, _), (8, _), (13, _)] (Sub.cons rfl (Sub.cons rfl (Sub.cons rfl (Sub.cons rfl (Sub.cons rfl (Sub.nil _)))))) ?_
            refine XC.region ?_
            refine XO.v (V.move rfl) rfl ?_
            refine XO.v (V.add rfl rfl _ (IntWalk.i64_in _ (by omega))) rfl ?_
            refine XO.v (V.assign rfl) rfl ?_
            refine XO.nil ?_
            refine XE.again (i2 + 1) ?_ ?_ (Sub.cons rfl (Sub.cons rfl (Sub.cons rfl (Sub.cons rfl (Sub.cons rfl (Sub.nil _)))))) (fun _ hw => XM.pick (.cons (.there (.there .here)) (.cons (.there (.there .here)) (.cons (.there (.there .here)) (.cons (.there .here) .nil)))) hw)
            · skip
              (first | omega | (simp; done) | (simp; omega))
            · skip
              (first | omega | (simp; done) | (simp; omega))
          · skip
            refine XQ.skip (i := 34) (l' := #[true, true, true, true, true, true, true, true, true, true, true, true, true, true, true, true, true, true, true, true, true, true, true, true, true, true, true, true, true, true, true, true, true, true, true, false, false, false, false, false, false, false, false, false, false, false]) rfl rfl rfl rfl rfl (by kernel_rfl) rfl rfl rfl ?_
            refine XQ.skip (i := 35) (l' := #[true, true, true, true, true, true, true, true, true, true, true, true, true, true, true, true, true, true, true, true, true, true, true, true, true, true, true, true, true, true, true, true, true, true, true, true, false, false, false, false, false, false, false, false, false, false]) rfl rfl rfl rfl rfl (by kernel_rfl) rfl rfl rfl ?_
            refine XQ.skip (i := 36) (l' := #[true, true, true, true, true, true, true, true, true, true, true, true, true, true, true, true, true, true, true, true, true, true, true, true, true, true, true, true, true, true, true, true, true, true, true, true, true, false, false, false, false, false, false, false, false, false]) rfl rfl rfl rfl rfl (by kernel_rfl) rfl rfl rfl ?_
            refine XQ.skip (i := 37) (l' := #[true, true, true, true, true, true, true, true, true, true, true, true, true, true, true, true, true, true, true, true, true, true, true, true, true, true, true, true, true, true, true, true, true, true, true, true, true, true, false, false, false, false, false, false, false, false]) rfl rfl rfl rfl rfl (by kernel_rfl) rfl rfl rfl ?_
            refine XQ.skip (i := 38) (l' := #[true, true, true, true, true, true, true, true, true, true, true, true, true, true, true, true, true, true, true, true, true, true, true, true, true, true, true, true, true, true, true, true, true, true, true, true, true, true, true, false, false, false, false, false, false, false]) rfl rfl rfl rfl rfl (by kernel_rfl) rfl rfl rfl ?_
            refine XQ.skip (i := 39) (l' := #[true, true, true, true, true, true, true, true, true, true, true, true, true, true, true, true, true, true, true, true, true, true, true, true, true, true, true, true, true, true, true, true, true, true, true, true, true, true, true, true, false, false, false, false, false, false]) rfl rfl rfl rfl rfl (by kernel_rfl) rfl rfl rfl ?_
            refine XQ.skip (i := 40) (l' := #[true, true, true, true, true, true, true, true, true, true, true, true, true, true, true, true, true, true, true, true, true, true, true, true, true, true, true, true, true, true, true, true, true, true, true, true, true, true, true, true, true, false, false, false, false, false]) rfl rfl rfl rfl rfl (by kernel_rfl) rfl rfl rfl ?_
            refine XQ.skip (i := 41) (l' := #[true, true, true, true, true, true, true, true, true, true, true, true, true, true, true, true, true, true, true, true, true, true, true, true, true, true, true, true, true, true, true, true, true, true, true, true, true, true, true, true, true, true, false, false, false, false]) rfl rfl rfl rfl rfl (by kernel_rfl) rfl rfl rfl ?_
            refine XQ.skip (i := 42) (l' := #[true, true, true, true, true, true, true, true, true, true, true, true, true, true, true, true, true, true, true, true, true, true, true, true, true, true, true, true, true, true, true, true, true, true, true, true, true, true, true, true, true, true, true, false, false, false]) rfl rfl rfl rfl rfl (by kernel_rfl) rfl rfl rfl ?_
            refine XQ.skip (i := 43) (l' := #[true, true, true, true, true, true, true, true, true, true, true, true, true, true, true, true, true, true, true, true, true, true, true, true, true, true, true, true, true, true, true, true, true, true, true, true, true, true, true, true, true, true, true, true, false, false]) rfl rfl rfl rfl rfl (by kernel_rfl) rfl rfl rfl ?_
            refine XQ.pvG (i := 44) (l' := #[true, true, true, true, true, true, true, true, true, true, true, true, true, true, true, true, true, true, true, true, true, true, true, true, true, true, true, true, true, true, true, true, true, true, true, true, true, true, true, true, true, true, true, true, true, false]) rfl rfl rfl (by kernel_rfl) rfl (V.pick rfl rfl rfl rfl) rfl rfl ?_
            refine XQ.pv (i := 45) (l' := #[true, true, true, true, true, true, true, true, true, true, true, true, true, true, true, true, true, true, true, true, true, true, true, true, true, true, true, true, true, true, true, true, true, true, true, true, true, true, true, true, true, true, true, true, true, true]) rfl (by kernel_rfl) rfl (V.pick rfl rfl rfl rfl) rfl rfl ?_
            refine XQ.done (by kernel_rfl) ?_
            refine XE.next ?_
            refine XC.keep [(0, _), (5, _), (7, _), (8, _), (13, _), (175, _)] (Sub.cons rfl (Sub.cons rfl (Sub.cons rfl (Sub.cons rfl (Sub.cons rfl (Sub.cons rfl (Sub.nil _))))))) ?_
            refine XC.condF rfl rfl ?_
            refine XC.skip ?_
            refine XE.blockNormal ?_
            refine XE.next ?_
            refine XC.keep [(0, _), (5, _), (7, _), (8, _), (13, _)] (Sub.cons rfl (Sub.cons rfl (Sub.cons rfl (Sub.cons rfl (Sub.cons rfl (Sub.nil _)))))) ?_
            refine XC.region ?_
            refine XO.v (V.move rfl) rfl ?_
            refine XO.v (V.add rfl rfl _ (IntWalk.i64_in _ (by omega))) rfl ?_
            refine XO.v (V.assign rfl) rfl ?_
            refine XO.nil ?_
            refine XE.again (i2 + 1) ?_ ?_ (Sub.cons rfl (Sub.cons rfl (Sub.cons rfl (Sub.cons rfl (Sub.cons rfl (Sub.nil _)))))) (fun _ hw => XM.pick (.cons (.there (.there .here)) (.cons (.there (.there .here)) (.cons (.there (.there .here)) (.cons (.there .here) .nil)))) hw)
            · skip
              (first | omega | (simp; done) | (simp; omega))
            · skip
              (first | omega | (simp; done) | (simp; omega))
        · skip
          refine XQ.skip (i := 27) (l' := #[true, true, true, true, true, true, true, true, true, true, true, true, true, true, true, true, true, true, true, true, true, true, true, true, true, true, true, true, false, false, false, false, false, false, false, false, false, false, false, false, false, false, false, false, false, false]) rfl rfl rfl rfl rfl (by kernel_rfl) rfl rfl rfl ?_
          refine XQ.skip (i := 28) (l' := #[true, true, true, true, true, true, true, true, true, true, true, true, true, true, true, true, true, true, true, true, true, true, true, true, true, true, true, true, true, false, false, false, false, false, false, false, false, false, false, false, false, false, false, false, false, false]) rfl rfl rfl rfl rfl (by kernel_rfl) rfl rfl rfl ?_
          refine XQ.skip (i := 29) (l' := #[true, true, true, true, true, true, true, true, true, true, true, true, true, true, true, true, true, true, true, true, true, true, true, true, true, true, true, true, true, true, false, false, false, false, false, false, false, false, false, false, false, false, false, false, false, false]) rfl rfl rfl rfl rfl (by kernel_rfl) rfl rfl rfl ?_
          refine XQ.skip (i := 30) (l' := #[true, true, true, true, true, true, true, true, true, true, true, true, true, true, true, true, true, true, true, true, true, true, true, true, true, true, true, true, true, true, true, false, false, false, false, false, false, false, false, false, false, false, false, false, false, false]) rfl rfl rfl rfl rfl (by kernel_rfl) rfl rfl rfl ?_
          refine XQ.skip (i := 31) (l' := #[true, true, true, true, true, true, true, true, true, true, true, true, true, true, true, true, true, true, true, true, true, true, true, true, true, true, true, true, true, true, true, true, false, false, false, false, false, false, false, false, false, false, false, false, false, false]) rfl rfl rfl rfl rfl (by kernel_rfl) rfl rfl rfl ?_
          refine XQ.pvG (i := 32) (l' := #[true, true, true, true, true, true, true, true, true, true, true, true, true, true, true, true, true, true, true, true, true, true, true, true, true, true, true, true, true, true, true, true, true, false, false, false, false, false, false, false, false, false, false, false, false, false]) rfl rfl rfl (by kernel_rfl) rfl (V.pick rfl rfl rfl rfl) rfl rfl ?_
          refine XQ.pvG (i := 33) (l' := #[true, true, true, true, true, true, true, true, true, true, true, true, true, true, true, true, true, true, true, true, true, true, true, true, true, true, true, true, true, true, true, true, true, true, false, false, false, false, false, false, false, false, false, false, false, false]) rfl rfl rfl (by kernel_rfl) rfl (V.move rfl) rfl rfl ?_
          refine XQ.skip (i := 34) (l' := #[true, true, true, true, true, true, true, true, true, true, true, true, true, true, true, true, true, true, true, true, true, true, true, true, true, true, true, true, true, true, true, true, true, true, true, false, false, false, false, false, false, false, false, false, false, false]) rfl rfl rfl rfl rfl (by kernel_rfl) rfl rfl rfl ?_
          refine XQ.skip (i := 35) (l' := #[true, true, true, true, true, true, true, true, true, true, true, true, true, true, true, true, true, true, true, true, true, true, true, true, true, true, true, true, true, true, true, true, true, true, true, true, false, false, false, false, false, false, false, false, false, false]) rfl rfl rfl rfl rfl (by kernel_rfl) rfl rfl rfl ?_
          refine XQ.skip (i := 36) (l' := #[true, true, true, true, true, true, true, true, true, true, true, true, true, true, true, true, true, true, true, true, true, true, true, true, true, true, true, true, true, true, true, true, true, true, true, true, true, false, false, false, false, false, false, false, false, false]) rfl rfl rfl rfl rfl (by kernel_rfl) rfl rfl rfl ?_
          refine XQ.skip (i := 37) (l' := #[true, true, true, true, true, true, true, true, true, true, true, true, true, true, true, true, true, true, true, true, true, true, true, true, true, true, true, true, true, true, true, true, true, true, true, true, true, true, false, false, false, false, false, false, false, false]) rfl rfl rfl rfl rfl (by kernel_rfl) rfl rfl rfl ?_
          refine XQ.skip (i := 38) (l' := #[true, true, true, true, true, true, true, true, true, true, true, true, true, true, true, true, true, true, true, true, true, true, true, true, true, true, true, true, true, true, true, true, true, true, true, true, true, true, true, false, false, false, false, false, false, false]) rfl rfl rfl rfl rfl (by kernel_rfl) rfl rfl rfl ?_
          refine XQ.skip (i := 39) (l' := #[true, true, true, true, true, true, true, true, true, true, true, true, true, true, true, true, true, true, true, true, true, true, true, true, true, true, true, true, true, true, true, true, true, true, true, true, true, true, true, true, false, false, false, false, false, false]) rfl rfl rfl rfl rfl (by kernel_rfl) rfl rfl rfl ?_
          refine XQ.skip (i := 40) (l' := #[true, true, true, true, true, true, true, true, true, true, true, true, true, true, true, true, true, true, true, true, true, true, true, true, true, true, true, true, true, true, true, true, true, true, true, true, true, true, true, true, true, false, false, false, false, false]) rfl rfl rfl rfl rfl (by kernel_rfl) rfl rfl rfl ?_
          refine XQ.skip (i := 41) (l' := #[true, true, true, true, true, true, true, true, true, true, true, true, true, true, true, true, true, true, true, true, true, true, true, true, true, true, true, true, true, true, true, true, true, true, true, true, true, true, true, true, true, true, false, false, false, false]) rfl rfl rfl rfl rfl (by kernel_rfl) rfl rfl rfl ?_
          refine XQ.skip (i := 42) (l' := #[true, true, true, true, true, true, true, true, true, true, true, true, true, true, true, true, true, true, true, true, true, true, true, true, true, true, true, true, true, true, true, true, true, true, true, true, true, true, true, true, true, true, true, false, false, false]) rfl rfl rfl rfl rfl (by kernel_rfl) rfl rfl rfl ?_
          refine XQ.skip (i := 43) (l' := #[true, true, true, true, true, true, true, true, true, true, true, true, true, true, true, true, true, true, true, true, true, true, true, true, true, true, true, true, true, true, true, true, true, true, true, true, true, true, true, true, true, true, true, true, false, false]) rfl rfl rfl rfl rfl (by kernel_rfl) rfl rfl rfl ?_
          refine XQ.pvG (i := 44) (l' := #[true, true, true, true, true, true, true, true, true, true, true, true, true, true, true, true, true, true, true, true, true, true, true, true, true, true, true, true, true, true, true, true, true, true, true, true, true, true, true, true, true, true, true, true, true, false]) rfl rfl rfl (by kernel_rfl) rfl (V.pick rfl rfl rfl rfl) rfl rfl ?_
          refine XQ.pv (i := 45) (l' := #[true, true, true, true, true, true, true, true, true, true, true, true, true, true, true, true, true, true, true, true, true, true, true, true, true, true, true, true, true, true, true, true, true, true, true, true, true, true, true, true, true, true, true, true, true, true]) rfl (by kernel_rfl) rfl (V.pick rfl rfl rfl rfl) rfl rfl ?_
          refine XQ.done (by kernel_rfl) ?_
          refine XE.next ?_
          refine XC.keep [(0, _), (5, _), (7, _), (8, _), (13, _), (175, _)] (Sub.cons rfl (Sub.cons rfl (Sub.cons rfl (Sub.cons rfl (Sub.cons rfl (Sub.cons rfl (Sub.nil _))))))) ?_
          refine XC.condF rfl rfl ?_
          refine XC.skip ?_
          refine XE.blockNormal ?_
          refine XE.next ?_
          refine XC.keep [(0, _), (5, _), (7, _), (8, _), (13, _)] (Sub.cons rfl (Sub.cons rfl (Sub.cons rfl (Sub.cons rfl (Sub.cons rfl (Sub.nil _)))))) ?_
          refine XC.region ?_
          refine XO.v (V.move rfl) rfl ?_
          refine XO.v (V.add rfl rfl _ (IntWalk.i64_in _ (by omega))) rfl ?_
          refine XO.v (V.assign rfl) rfl ?_
          refine XO.nil ?_
          refine XE.again (i2 + 1) ?_ ?_ (Sub.cons rfl (Sub.cons rfl (Sub.cons rfl (Sub.cons rfl (Sub.cons rfl (Sub.nil _)))))) (fun _ hw => XM.pick (.cons (.there (.there .here)) (.cons (.there (.there .here)) (.cons (.there (.there .here)) (.cons (.there .here) .nil)))) hw)
          · skip
            (first | omega | (simp; done) | (simp; omega))
          · skip
            (first | omega | (simp; done) | (simp; omega))
    · skip
      refine XC.exit ?_
      refine XE.thenExit ?_
      refine XE.thenExit ?_
      refine XE.blockExit ?_
      refine XE.next ?_
      refine XC.keep [(7, _)] (Sub.cons rfl (Sub.nil _)) ?_
      refine XC.seq ?_
      refine XC.openRow .here (by omega) ?_
      intro gC h18
      subst h18
      refine XC.region ?_
      refine XO.v (V.move rfl) rfl ?_
      refine XO.v (V.lenSl rfl Try.underlying85) rfl ?_
      refine XO.v (V.cmp rfl rfl rfl) rfl ?_
      refine XO.v (V.move rfl) rfl ?_
      refine XO.splitT (d := 179) rfl (by omega) ?_
      refine XO.guardRun rfl rfl rfl ?_
      refine XO.v (V.move rfl) rfl ?_
      refine XO.guardRun rfl rfl rfl ?_
      refine XO.v (V.indexSl rfl rfl sl_85 (by omega)) rfl ?_
      refine XO.guardRun rfl rfl rfl ?_
      refine XO.v (V.loadRow rfl (inXM .here) (ints_at (by omega)) sc_3) rfl ?_
      refine XO.guardRun rfl rfl rfl ?_
      refine XO.v (V.cmp rfl rfl rfl) rfl ?_
      refine XO.v (V.pick rfl rfl rfl rfl) rfl ?_
      refine XO.v (V.assign rfl) rfl ?_
      refine XO.nil ?_
      refine XE.next ?_
      refine XC.keep [(6, _)] (Sub.cons rfl (Sub.nil _)) ?_
      refine XC.ret ?_
      refine XE.ret1 rfl rfl (post_of (.cons (.there (.there (.there .here))) .nil) rfl ?_)
      exact ⟨congrArg Value.bool (decide_eq_true hHd.2), rfl⟩
end Go.X
