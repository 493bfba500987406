import Derived.Test.YtmklfkjfgjagaaaGreatDoorXShort
import Derived.Test.YtmklfkjfgjagaaaGreatDoorYNR2
namespace Go.X
open Go Go.Proofs
theorem rt_9_1 : rowT Tryz.prog 9 1 = true := by kernel_rfl
set_option maxRecDepth 10000 in
set_option maxHeartbeats 4000000 in
theorem r_put (b o : Nat) (s : FC) (hI : s.toFF.Sh) (n : Int) (x : ByteArray) (k : Int) (hn : 0 ≤ n ∧ n < 40) (hno : hasn (s.names n) x = false) : Spec Tryz.prog 74 [ptr b o 0, .int .i64 n, .string x, .int .i64 k]
    [.cells b o 321 (encM s), .fam fam40 (s.rowsN 9), .fam fam40 (s.rowsK 3)]
    (fun v H1 => v = .tuple #[] ∧ ∃ t : FC, t.toFF = s.putF n x k ∧ t.rP = s.rP ∧ t.rC = s.rC ∧ H1 = [.cells b o 321 (encM t), .fam fam40 (FC.rowsN 9 t), .fam fam40 (FC.rowsK 3 t)]) := by
 obtain ⟨hr, hk, h8, _⟩ := hI.rise n (by omega) (by omega)
 have hpl := posn_le (s.names n) x
 refine Spec.intro Tryz.func74 rfl rfl ?_
 intro W
 refine XC.sr ?_
 refine XO.mv rfl rfl ?_
 refine XO.mv rfl rfl ?_
 refine XO.v (V.nilCheckP rfl) rfl ?_
 refine XO.v (V.fieldAddr rfl fo_34_0) rfl ?_
 refine XO.v (V.indexArr rfl rfl ar_32 (by omega)) rfl ?_
 refine XO.as rfl rfl ?_
 refine XO.nk [(2, _), (3, _), (8, _)] (S3 rfl rfl rfl) ?_
 refine XC.sr ?_
 refine XO.as rfl rfl ?_
 refine XO.nilRow 9 1 ?_
 refine XO.nk [(2, _), (3, _), (8, _), (9, _)] (S4 rfl rfl rfl rfl) ?_
 refine XC.sr ?_
 refine XO.as rfl rfl ?_
 refine XO.nilRow 3 1 ?_
 refine XO.nk [(2, _), (3, _), (8, _), (9, _), (10, _)] (S5 rfl rfl rfl rfl rfl) ?_
 refine XC.sr ?_
 refine XO.as rfl rfl ?_
 refine XO.nk [(2, _), (3, _), (8, _), (9, _), (10, _), (11, _)] (S6 rfl rfl rfl rfl rfl rfl) ?_
 refine XC.seq ?_
 refine XC.sr ?_
 refine XO.as rfl rfl ?_
 refine XO.nk [(2, _), (3, _), (8, _), (9, _), (10, _), (11, _), (12, _)] (S7 rfl rfl rfl rfl rfl rfl rfl) ?_
 refine XC.block ?_
 refine XC.loop (σ := Int × (Option Addr × Nat) × (Option Addr × Nat)) (fun q => ((s.names n).length - q.1).toNat) (fun q => 0 ≤ q.1 ∧ q.1 ≤ (s.names n).length) (fun q => [(9, .slice q.2.1.1 (putT (s.names n) (posn (s.names n) x) x q.1.toNat).length q.2.1.2), (10, .slice q.2.2.1 (putT (s.kids n) (posn (s.names n) x) k q.1.toNat).length q.2.2.2), (11, .bool (decide (posn (s.names n) x < q.1.toNat))), (12, .int .i64 q.1), (2, .string x), (3, .int .i64 k), (8, ptr b o (0 + 0 + n.toNat * 8))]) (fun q => XM W (foot [.cells b o 321 (encM s), .fam fam40 (s.rowsN 9), .fam fam40 (s.rowsK 3)]) [srow q.2.1.1 q.2.1.2 9 (putT (s.names n) (posn (s.names n) x) x q.1.toNat), irow q.2.2.1 q.2.2.2 3 (putT (s.kids n) (posn (s.names n) x) k q.1.toNat), .cells b o 321 (encM s), .fam fam40 (s.rowsN 9), .fam fam40 (s.rowsK 3)]) ((0, (none, 0), (none, 0))) ?_ (Sub.cons (by rw [show putT (s.names n) (posn (s.names n) x) x (0 : Int).toNat = [] from by unfold putT; simp]; rfl) (Sub.cons (by rw [show putT (s.kids n) (posn (s.names n) x) k (0 : Int).toNat = [] from by unfold putT; simp]; rfl) (Sub.cons (eqb (by simp)) (S4 rfl rfl rfl rfl)))) (fun _ hw => by rw [show putT (s.names n) (posn (s.names n) x) x (0 : Int).toNat = [] from by unfold putT; simp, show putT (s.kids n) (posn (s.names n) x) k (0 : Int).toNat = [] from by unfold putT; simp]; exact XM.pick (.cons (.there .here) .h4) hw) ?_
 ·
  exact ⟨by omega, by omega⟩
 intro q hq
 obtain ⟨hq0, hq1⟩ := hq
 have hz1 := putT_len (s.names n) (posn (s.names n) x) x q.1.toNat
 have hz2 := putT_len (s.kids n) (posn (s.names n) x) k q.1.toNat
 refine XC.seq ?_
 refine XC.sr ?_
 refine XO.mv rfl rfl ?_
 refine XO.mv rfl rfl ?_
 refine XO.v (V.nilCheckP rfl) rfl ?_
 refine XO.v (V.fieldAddr rfl fo_31_6) rfl ?_
 refine XO.v (V.load rfl (inXM (.t2 .here)) (encM.ld_N_Names _ _ (by omega)) sc_28) rfl ?_
 refine XO.v (V.lenSl rfl Tryz.underlying28) rfl ?_
 refine XO.v (V.cmp rfl rfl rfl) rfl ?_
 refine XO.nk [(2, _), (3, _), (8, _), (9, _), (10, _), (11, _), (12, _), (24, _)] (S8 rfl rfl rfl rfl rfl rfl rfl rfl) ?_
 refine XC.condP rfl (fun h1 => ?_) (fun h1 => ?_)
 ·
  refine XC.skip ?_
  refine XE.next ?_
  refine XC.keep [(2, _), (3, _), (8, _), (9, _), (10, _), (11, _), (12, _)] (S7 rfl rfl rfl rfl rfl rfl rfl) ?_
  refine XC.seq ?_
  refine XC.block ?_
  refine XC.seq ?_
  refine XC.sr ?_
  refine XO.mv rfl rfl ?_
  refine XO.v (V.not rfl) rfl ?_
  refine XO.mv rfl rfl ?_
  refine XO.split (d := 29) rfl (fun h2 => ?_) (fun h2 => ?_)
  ·
   try simp only [sb] at h2
   have hlaid : ¬ posn (s.names n) x < q.1.toNat := by simpa using h2
   refine XO.guardRun rfl rfl rfl ?_
   refine XO.mv rfl rfl ?_
   refine XO.guardRun rfl rfl rfl ?_
   refine XO.v (V.nilCheckP rfl) rfl ?_
   refine XO.guardRun rfl rfl rfl ?_
   refine XO.v (V.fieldAddr rfl fo_31_6) rfl ?_
   refine XO.guardRun rfl rfl rfl ?_
   refine XO.v (V.load rfl (inXM (.t2 .here)) (encM.ld_N_Names _ _ (by omega)) sc_28) rfl ?_
   refine XO.guardRun rfl rfl rfl ?_
   refine XO.mv rfl rfl ?_
   refine XO.mono (fun _ hw3 => XM.openN (s := s) (z := n) (by omega) (.cons (.t3 .here) .nil) hw3) ?_
   refine XO.openRow .here (by omega) ?_
   intro g hg
   rw [hg]
   refine XO.guardRun rfl rfl rfl ?_
   refine XO.v (V.indexSl rfl rfl sl_28 (by omega)) rfl ?_
   refine XO.guardRun rfl rfl rfl ?_
   refine XO.v (V.loadRow rfl (inXM .here) (strs_at (by omega)) sc_9) rfl ?_
   refine XO.mono (fun _ hw3 => XM.closeN (s := s) s (z := n) (by omega) rfl (fset_same _ rfl).symm (fset_same _ hg).symm (fset_same _ rfl).symm .h2 hw3) ?_
   refine XO.guardRun rfl rfl rfl ?_
   refine XO.mv rfl rfl ?_
   refine XO.guardRun rfl rfl rfl ?_
   refine XO.v (V.strCmp rfl rfl rfl) rfl ?_
   refine XO.v (V.pick rfl rfl rfl rfl) rfl ?_
   refine XO.nk [(2, _), (3, _), (8, _), (9, _), (10, _), (11, _), (12, _), (39, _)] (S8 rfl rfl rfl rfl rfl rfl rfl rfl) ?_
   refine XC.cond rfl (fun h3 => ?_) (fun h3 => ?_)
   ·
    try simp only [sb] at h3
    have hcmp0 : ¬ (blt (sat0 (s.names n) q.1) x = true ∨ sat0 (s.names n) q.1 = x) := by simpa [blt] using h3
    have hcmp : ¬ (blt (ats (s.names n) q.1.toNat) x = true ∨ ats (s.names n) q.1.toNat = x) := hcmp0
    have hpi : posn (s.names n) x = q.1.toNat := by
     have h1 : ¬ posn (s.names n) x < q.1.toNat := hlaid
     have h2 : ¬ q.1.toNat < posn (s.names n) x := fun c => hcmp (.inl (posn_lt _ _ _ c))
     omega
    have hl1 : q.1.toNat < (s.names n).length := by omega
    have e1 : putT (s.names n) (posn (s.names n) x) x (q.1 + 1).toNat = putT (s.names n) (posn (s.names n) x) x q.1.toNat ++ [x] ++ [sat0 (s.names n) q.1] := by
     rw [show (q.1 + 1).toNat = q.1.toNat + 1 by omega, hpi]; exact putT_here _ _ _ ByteArray.empty hl1
    have e2 : putT (s.kids n) (posn (s.names n) x) k (q.1 + 1).toNat = putT (s.kids n) (posn (s.names n) x) k q.1.toNat ++ [k] ++ [at0 (s.kids n) q.1] := by
     rw [show (q.1 + 1).toNat = q.1.toNat + 1 by omega, hpi]; exact putT_here _ _ _ 0 (by omega)
    refine XC.sr ?_
    refine XO.mv rfl rfl ?_
    refine XO.mv rfl rfl ?_
    refine XO.buildSlice (e := 9) (vs := #[(0, .string x)]) (A := #[.string x]) rfl (fun _ => by kernel_rfl) rfl rfl ?_
    intro g8
    refine XO.appendS (e := 9) rfl rfl Tryz.underlying28 rt_9_1 (.t2 .here) .here (by omega) rfl ?_
    intro pa ca
    refine XO.as rfl rfl ?_
    refine XO.nk [(2, _), (3, _), (8, _), (9, _), (10, _), (12, _)] (S6 rfl rfl rfl rfl rfl rfl) ?_
    refine XC.sr ?_
    refine XO.mv rfl rfl ?_
    refine XO.mv rfl rfl ?_
    refine XO.buildSlice (A := #[.int .i64 _]) (vs := #[(0, .int .i64 _)]) rfl (bs1_29 _) rfl rfl ?_
    intro h7
    refine XO.appendI (e := 3) rfl rfl Tryz.underlying29 rt_3_1 (.t4 .here) .here (by omega) rfl ?_
    intro pb cb
    refine XO.as rfl rfl ?_
    refine XO.nk [(2, _), (3, _), (8, _), (9, _), (10, _), (12, _)] (S6 rfl rfl rfl rfl rfl rfl) ?_
    refine XC.region ?_
    refine XO.as rfl rfl ?_
    refine XO.nk [(2, _), (3, _), (8, _), (9, _), (10, _), (11, _), (12, _)] (S7 rfl rfl rfl rfl rfl rfl rfl) ?_
    refine XC.sr ?_
    refine XO.mv rfl rfl ?_
    refine XO.mv rfl rfl ?_
    refine XO.v (V.nilCheckP rfl) rfl ?_
    refine XO.v (V.fieldAddr rfl fo_31_6) rfl ?_
    refine XO.v (V.load rfl (inXM (.t5 .here)) (encM.ld_N_Names _ _ (by omega)) sc_28) rfl ?_
    refine XO.mv rfl rfl ?_
    refine XO.mono (fun _ hw3 => XM.openN (s := s) (z := n) (by omega) (.cons (.t4 .here) .nil) hw3) ?_
    refine XO.openRow .here (by omega) ?_
    intro g hg
    rw [hg]
    refine XO.v (V.indexSl rfl rfl sl_28 (by omega)) rfl ?_
    refine XO.v (V.loadRow rfl (inXM .here) (strs_at (by omega)) sc_9) rfl ?_
    refine XO.mono (fun _ hw3 => XM.closeN (s := s) s (z := n) (by omega) rfl (fset_same _ rfl).symm (fset_same _ hg).symm (fset_same _ rfl).symm .h2 hw3) ?_
    refine XO.buildSlice (e := 9) (vs := #[(0, .string (sat0 (s.names n) q.1))]) (A := #[.string (sat0 (s.names n) q.1)]) rfl (fun _ => by kernel_rfl) rfl rfl ?_
    intro g11
    refine XO.appendS (e := 9) rfl rfl Tryz.underlying28 rt_9_1 (.t4 .here) .here (by first | omega | (simp only [List.length_append, List.length_singleton]; omega)) rfl ?_
    intro pc cc
    refine XO.as rfl rfl ?_
    refine XO.nk [(2, _), (3, _), (8, _), (9, _), (10, _), (11, _), (12, _)] (S7 rfl rfl rfl rfl rfl rfl rfl) ?_
    refine XC.region ?_
    refine XO.mv rfl rfl ?_
    refine XO.mv rfl rfl ?_
    refine XO.v (V.nilCheckP rfl) rfl ?_
    refine XO.v (V.fieldAddr rfl fo_31_7) rfl ?_
    refine XO.v (V.load rfl (inXM (.t6 .here)) (encM.ld_N_Kids _ _ (by omega)) sc_29) rfl ?_
    refine XO.mv rfl rfl ?_
    refine XO.mono (fun _ hw3 => XM.openK (s := s) (z := n) (by omega) (.cons (.t7 .here) .nil) hw3) ?_
    refine XO.openRow .here (by omega) ?_
    intro g hg
    rw [hg]
    refine XO.v (V.indexSl rfl rfl sl_29 (by omega)) rfl ?_
    refine XO.v (V.loadRow rfl (inXM .here) (ints_at (by omega)) sc_3) rfl ?_
    refine XO.mono (fun _ hw3 => XM.closeK (s := s) s (z := n) (by omega) rfl (fset_same _ rfl).symm (fset_same _ hg).symm (fset_same _ rfl).symm .h2 hw3) ?_
    refine XO.buildSlice (e := 3) (vs := #[(0, .int .i64 (at0 (s.kids n) q.1))]) (A := #[.int .i64 (at0 (s.kids n) q.1)]) rfl (fun _ => by kernel_rfl) rfl rfl ?_
    intro g12
    refine XO.appendI (e := 3) rfl rfl Tryz.underlying29 rt_3_1 (.t5 .here) .here (by first | omega | (simp only [List.length_append, List.length_singleton]; omega)) rfl ?_
    intro pd cd
    refine XO.as rfl rfl ?_
    refine XO.nil ?_
    refine XE.blockNormal ?_
    refine XE.next ?_
    refine XC.keep [(2, _), (3, _), (8, _), (9, _), (10, _), (11, _), (12, _)] (S7 rfl rfl rfl rfl rfl rfl rfl) ?_
    refine XC.region ?_
    refine XO.mv rfl rfl ?_
    refine XO.v (V.add rfl rfl _ (IntWalk.i64_in _ (by omega))) rfl ?_
    refine XO.as rfl rfl ?_
    refine XO.nil ?_
    refine XE.again ((q.1 + 1, (pc, cc), (pd, cd))) ?_ ?_ (Sub.cons (by rw [e1]; try rfl) (Sub.cons (by rw [e2]; try rfl) (Sub.cons (eqb (decide_eq_true (by omega)).symm) (S4 rfl rfl rfl rfl)))) (fun _ hw => by rw [e1, e2]; exact XM.pick (.cons (.t3 .here) (.cons .here (.cons (.t6 .here) (.cons (.t3 .here) (.cons (.there .here) .nil))))) hw)
    ·
     (first | omega | (simp; done) | (simp; omega))
    ·
     (first | omega | (simp; done) | (simp; omega))
   ·
    try simp only [sb] at h3
    have hcmp0 : blt (sat0 (s.names n) q.1) x = true ∨ sat0 (s.names n) q.1 = x := by simpa [blt] using h3
    have hcmp : blt (ats (s.names n) q.1.toNat) x = true ∨ ats (s.names n) q.1.toNat = x := hcmp0
    have hpi : posn (s.names n) x ≠ q.1.toNat := fun c => by
     have h3 := posn_gt hr hno (i := q.1.toNat) (by omega) (by omega)
     rcases hcmp with h4 | h4
     ·
      rw [blt_asymm h3] at h4; cases h4
     ·
      rw [h4, blt_irrefl] at h3; cases h3
    have hpd : decide (posn (s.names n) x < q.1.toNat) = decide (posn (s.names n) x < (q.1 + 1).toNat) := decide_eq_decide.2 (by omega)
    have hl1 : q.1.toNat < (s.names n).length := by omega
    have e1 : putT (s.names n) (posn (s.names n) x) x (q.1 + 1).toNat = putT (s.names n) (posn (s.names n) x) x q.1.toNat ++ [sat0 (s.names n) q.1] := by
     rw [show (q.1 + 1).toNat = q.1.toNat + 1 by omega]; exact putT_next _ _ _ _ ByteArray.empty hl1 hpi
    have e2 : putT (s.kids n) (posn (s.names n) x) k (q.1 + 1).toNat = putT (s.kids n) (posn (s.names n) x) k q.1.toNat ++ [at0 (s.kids n) q.1] := by
     rw [show (q.1 + 1).toNat = q.1.toNat + 1 by omega]; exact putT_next _ _ _ _ 0 (by omega) hpi
    refine XC.skip ?_
    refine XE.next ?_
    refine XC.keep [(2, _), (3, _), (8, _), (9, _), (10, _), (11, _), (12, _)] (S7 rfl rfl rfl rfl rfl rfl rfl) ?_
    refine XC.sr ?_
    refine XO.mv rfl rfl ?_
    refine XO.mv rfl rfl ?_
    refine XO.v (V.nilCheckP rfl) rfl ?_
    refine XO.v (V.fieldAddr rfl fo_31_6) rfl ?_
    refine XO.v (V.load rfl (inXM (.t3 .here)) (encM.ld_N_Names _ _ (by omega)) sc_28) rfl ?_
    refine XO.mv rfl rfl ?_
    refine XO.mono (fun _ hw3 => XM.openN (s := s) (z := n) (by omega) .h1 hw3) ?_
    refine XO.openRow .here (by omega) ?_
    intro g hg
    rw [hg]
    refine XO.v (V.indexSl rfl rfl sl_28 (by omega)) rfl ?_
    refine XO.v (V.loadRow rfl (inXM .here) (strs_at (by omega)) sc_9) rfl ?_
    refine XO.mono (fun _ hw3 => XM.closeN (s := s) s (z := n) (by omega) rfl (fset_same _ rfl).symm (fset_same _ hg).symm (fset_same _ rfl).symm .h2 hw3) ?_
    refine XO.buildSlice (e := 9) (vs := #[(0, .string (sat0 (s.names n) q.1))]) (A := #[.string (sat0 (s.names n) q.1)]) rfl (fun _ => by kernel_rfl) rfl rfl ?_
    intro g11
    refine XO.appendS (e := 9) rfl rfl Tryz.underlying28 rt_9_1 (.t2 .here) .here (by first | omega | (simp only [List.length_append, List.length_singleton]; omega)) rfl ?_
    intro pc cc
    refine XO.as rfl rfl ?_
    refine XO.nk [(2, _), (3, _), (8, _), (9, _), (10, _), (11, _), (12, _)] (S7 rfl rfl rfl rfl rfl rfl rfl) ?_
    refine XC.region ?_
    refine XO.mv rfl rfl ?_
    refine XO.mv rfl rfl ?_
    refine XO.v (V.nilCheckP rfl) rfl ?_
    refine XO.v (V.fieldAddr rfl fo_31_7) rfl ?_
    refine XO.v (V.load rfl (inXM (.t4 .here)) (encM.ld_N_Kids _ _ (by omega)) sc_29) rfl ?_
    refine XO.mv rfl rfl ?_
    refine XO.mono (fun _ hw3 => XM.openK (s := s) (z := n) (by omega) (.cons (.t5 .here) .nil) hw3) ?_
    refine XO.openRow .here (by omega) ?_
    intro g hg
    rw [hg]
    refine XO.v (V.indexSl rfl rfl sl_29 (by omega)) rfl ?_
    refine XO.v (V.loadRow rfl (inXM .here) (ints_at (by omega)) sc_3) rfl ?_
    refine XO.mono (fun _ hw3 => XM.closeK (s := s) s (z := n) (by omega) rfl (fset_same _ rfl).symm (fset_same _ hg).symm (fset_same _ rfl).symm .h2 hw3) ?_
    refine XO.buildSlice (e := 3) (vs := #[(0, .int .i64 (at0 (s.kids n) q.1))]) (A := #[.int .i64 (at0 (s.kids n) q.1)]) rfl (fun _ => by kernel_rfl) rfl rfl ?_
    intro g12
    refine XO.appendI (e := 3) rfl rfl Tryz.underlying29 rt_3_1 (.t5 .here) .here (by first | omega | (simp only [List.length_append, List.length_singleton]; omega)) rfl ?_
    intro pd cd
    refine XO.as rfl rfl ?_
    refine XO.nil ?_
    refine XE.blockNormal ?_
    refine XE.next ?_
    refine XC.keep [(2, _), (3, _), (8, _), (9, _), (10, _), (11, _), (12, _)] (S7 rfl rfl rfl rfl rfl rfl rfl) ?_
    refine XC.region ?_
    refine XO.mv rfl rfl ?_
    refine XO.v (V.add rfl rfl _ (IntWalk.i64_in _ (by omega))) rfl ?_
    refine XO.as rfl rfl ?_
    refine XO.nil ?_
    refine XE.again ((q.1 + 1, (pc, cc), (pd, cd))) ?_ ?_ (Sub.cons (by rw [e1]; try rfl) (Sub.cons (by rw [e2]; try rfl) (Sub.cons (eqb (by rw [hpd])) (S4 rfl rfl rfl rfl)))) (fun _ hw => by rw [e1, e2]; exact XM.pick (.cons (.t3 .here) (.cons .here (.cons (.t4 .here) (.cons (.t3 .here) (.cons (.there .here) .nil))))) hw)
    ·
     (first | omega | (simp; done) | (simp; omega))
    ·
     (first | omega | (simp; done) | (simp; omega))
  ·
   try simp only [sb] at h2
   have hlaid : posn (s.names n) x < q.1.toNat := by simpa using h2
   have hpi : posn (s.names n) x ≠ q.1.toNat := by omega
   have hpd : decide (posn (s.names n) x < q.1.toNat) = decide (posn (s.names n) x < (q.1 + 1).toNat) := decide_eq_decide.2 (by omega)
   have hl1 : q.1.toNat < (s.names n).length := by omega
   have e1 : putT (s.names n) (posn (s.names n) x) x (q.1 + 1).toNat = putT (s.names n) (posn (s.names n) x) x q.1.toNat ++ [sat0 (s.names n) q.1] := by
    rw [show (q.1 + 1).toNat = q.1.toNat + 1 by omega]; exact putT_next _ _ _ _ ByteArray.empty hl1 hpi
   have e2 : putT (s.kids n) (posn (s.names n) x) k (q.1 + 1).toNat = putT (s.kids n) (posn (s.names n) x) k q.1.toNat ++ [at0 (s.kids n) q.1] := by
    rw [show (q.1 + 1).toNat = q.1.toNat + 1 by omega]; exact putT_next _ _ _ _ 0 (by omega) hpi
   refine XO.guardSkip rfl rfl rfl rfl rfl ?_
   refine XO.guardSkip rfl rfl rfl rfl rfl ?_
   refine XO.guardSkip rfl rfl rfl rfl rfl ?_
   refine XO.guardSkip rfl rfl rfl rfl rfl ?_
   refine XO.guardSkip rfl rfl rfl rfl rfl ?_
   refine XO.mono (fun _ hw3 => XM.openN (s := s) (z := n) (by omega) (.cons (.t3 .here) .nil) hw3) ?_
   refine XO.openRow .here (by omega) ?_
   intro g hg
   rw [hg]
   refine XO.guardSkip rfl rfl rfl rfl rfl ?_
   refine XO.guardSkip rfl rfl rfl rfl rfl ?_
   refine XO.mono (fun _ hw3 => XM.closeN (s := s) s (z := n) (by omega) rfl (fset_same _ rfl).symm (fset_same _ hg).symm (fset_same _ rfl).symm .h2 hw3) ?_
   refine XO.guardSkip rfl rfl rfl rfl rfl ?_
   refine XO.guardSkip rfl rfl rfl rfl rfl ?_
   refine XO.v (V.pick rfl rfl rfl rfl) rfl ?_
   refine XO.nk [(2, _), (3, _), (8, _), (9, _), (10, _), (11, _), (12, _), (39, _)] (S8 rfl rfl rfl rfl rfl rfl rfl rfl) ?_
   refine XC.condF rfl rfl ?_
   refine XC.skip ?_
   refine XE.next ?_
   refine XC.keep [(2, _), (3, _), (8, _), (9, _), (10, _), (11, _), (12, _)] (S7 rfl rfl rfl rfl rfl rfl rfl) ?_
   refine XC.sr ?_
   refine XO.mv rfl rfl ?_
   refine XO.mv rfl rfl ?_
   refine XO.v (V.nilCheckP rfl) rfl ?_
   refine XO.v (V.fieldAddr rfl fo_31_6) rfl ?_
   refine XO.v (V.load rfl (inXM (.t3 .here)) (encM.ld_N_Names _ _ (by omega)) sc_28) rfl ?_
   refine XO.mv rfl rfl ?_
   refine XO.mono (fun _ hw3 => XM.openN (s := s) (z := n) (by omega) .h1 hw3) ?_
   refine XO.openRow .here (by omega) ?_
   intro g hg
   rw [hg]
   refine XO.v (V.indexSl rfl rfl sl_28 (by omega)) rfl ?_
   refine XO.v (V.loadRow rfl (inXM .here) (strs_at (by omega)) sc_9) rfl ?_
   refine XO.mono (fun _ hw3 => XM.closeN (s := s) s (z := n) (by omega) rfl (fset_same _ rfl).symm (fset_same _ hg).symm (fset_same _ rfl).symm .h2 hw3) ?_
   refine XO.buildSlice (e := 9) (vs := #[(0, .string (sat0 (s.names n) q.1))]) (A := #[.string (sat0 (s.names n) q.1)]) rfl (fun _ => by kernel_rfl) rfl rfl ?_
   intro g11
   refine XO.appendS (e := 9) rfl rfl Tryz.underlying28 rt_9_1 (.t2 .here) .here (by first | omega | (simp only [List.length_append, List.length_singleton]; omega)) rfl ?_
   intro pc cc
   refine XO.as rfl rfl ?_
   refine XO.nk [(2, _), (3, _), (8, _), (9, _), (10, _), (11, _), (12, _)] (S7 rfl rfl rfl rfl rfl rfl rfl) ?_
   refine XC.region ?_
   refine XO.mv rfl rfl ?_
   refine XO.mv rfl rfl ?_
   refine XO.v (V.nilCheckP rfl) rfl ?_
   refine XO.v (V.fieldAddr rfl fo_31_7) rfl ?_
   refine XO.v (V.load rfl (inXM (.t4 .here)) (encM.ld_N_Kids _ _ (by omega)) sc_29) rfl ?_
   refine XO.mv rfl rfl ?_
   refine XO.mono (fun _ hw3 => XM.openK (s := s) (z := n) (by omega) (.cons (.t5 .here) .nil) hw3) ?_
   refine XO.openRow .here (by omega) ?_
   intro g hg
   rw [hg]
   refine XO.v (V.indexSl rfl rfl sl_29 (by omega)) rfl ?_
   refine XO.v (V.loadRow rfl (inXM .here) (ints_at (by omega)) sc_3) rfl ?_
   refine XO.mono (fun _ hw3 => XM.closeK (s := s) s (z := n) (by omega) rfl (fset_same _ rfl).symm (fset_same _ hg).symm (fset_same _ rfl).symm .h2 hw3) ?_
   refine XO.buildSlice (e := 3) (vs := #[(0, .int .i64 (at0 (s.kids n) q.1))]) (A := #[.int .i64 (at0 (s.kids n) q.1)]) rfl (fun _ => by kernel_rfl) rfl rfl ?_
   intro g12
   refine XO.appendI (e := 3) rfl rfl Tryz.underlying29 rt_3_1 (.t5 .here) .here (by first | omega | (simp only [List.length_append, List.length_singleton]; omega)) rfl ?_
   intro pd cd
   refine XO.as rfl rfl ?_
   refine XO.nil ?_
   refine XE.blockNormal ?_
   refine XE.next ?_
   refine XC.keep [(2, _), (3, _), (8, _), (9, _), (10, _), (11, _), (12, _)] (S7 rfl rfl rfl rfl rfl rfl rfl) ?_
   refine XC.region ?_
   refine XO.mv rfl rfl ?_
   refine XO.v (V.add rfl rfl _ (IntWalk.i64_in _ (by omega))) rfl ?_
   refine XO.as rfl rfl ?_
   refine XO.nil ?_
   refine XE.again ((q.1 + 1, (pc, cc), (pd, cd))) ?_ ?_ (Sub.cons (by rw [e1]; try rfl) (Sub.cons (by rw [e2]; try rfl) (Sub.cons (eqb (by rw [hpd])) (S4 rfl rfl rfl rfl)))) (fun _ hw => by rw [e1, e2]; exact XM.pick (.cons (.t3 .here) (.cons .here (.cons (.t4 .here) (.cons (.t3 .here) (.cons (.there .here) .nil))))) hw)
   ·
    (first | omega | (simp; done) | (simp; omega))
   ·
    (first | omega | (simp; done) | (simp; omega))
 ·
  refine XC.exit ?_
  refine XE.thenExit ?_
  refine XE.thenExit ?_
  refine XE.blockExit ?_
  refine XE.next ?_
  refine XC.keep [(2, _), (3, _), (8, _), (9, _), (10, _), (11, _)] (S6 rfl rfl rfl rfl rfl rfl) ?_
  refine XC.seq ?_
  refine XC.sr ?_
  refine XO.mv rfl rfl ?_
  refine XO.v (V.not rfl) rfl ?_
  refine XO.nk [(2, _), (3, _), (8, _), (9, _), (10, _), (69, _)] (S6 rfl rfl rfl rfl rfl rfl) ?_
  refine XC.cond rfl (fun h28 => ?_) (fun h28 => ?_)
  ·
   try simp only [sb] at h28
   have hlaid : ¬ posn (s.names n) x < q.1.toNat := by simpa using h28
   have hql : q.1.toNat = (s.names n).length := by omega
   have hpe : posn (s.names n) x = (s.names n).length := by omega
   have e3 : putT (s.names n) (posn (s.names n) x) x q.1.toNat ++ [x] = (s.names n).insertIdx (posn (s.names n) x) x := by rw [hql, hpe]; exact putT_end2 _ _
   have e4 : putT (s.kids n) (posn (s.names n) x) k q.1.toNat ++ [k] = (s.kids n).insertIdx (posn (s.names n) x) k := by rw [hql, hpe, hk]; exact putT_end2 _ _
   refine XC.sr ?_
   refine XO.mv rfl rfl ?_
   refine XO.mv rfl rfl ?_
   refine XO.buildSlice (e := 9) (vs := #[(0, .string x)]) (A := #[.string x]) rfl (fun _ => by kernel_rfl) rfl rfl ?_
   intro g14
   refine XO.appendS (e := 9) rfl rfl Tryz.underlying28 rt_9_1 (.there .here) .here (by omega) rfl ?_
   intro pe ce
   refine XO.as rfl rfl ?_
   refine XO.nk [(3, _), (8, _), (9, _), (10, _)] (S4 rfl rfl rfl rfl) ?_
   refine XC.region ?_
   refine XO.mv rfl rfl ?_
   refine XO.mv rfl rfl ?_
   refine XO.buildSlice (A := #[.int .i64 _]) (vs := #[(0, .int .i64 _)]) rfl (bs1_29 _) rfl rfl ?_
   intro h32
   refine XO.appendI (e := 3) rfl rfl Tryz.underlying29 rt_3_1 (.t3 .here) .here (by omega) rfl ?_
   intro pf cf
   refine XO.as rfl rfl ?_
   refine XO.nk [(8, _), (9, _), (10, _)] (S3 rfl rfl rfl) ?_
   refine XC.sr ?_
   rw [e3, e4]
   refine XO.mv rfl rfl ?_
   refine XO.mv rfl rfl ?_
   refine XO.v (V.nilCheckP rfl) rfl ?_
   refine XO.v (V.fieldAddr rfl fo_31_6) rfl ?_
   refine XO.store rfl rfl (.t4 .here) (encM.st_N_Names _ _ (by omega) ((s.names n).insertIdx (posn (s.names n) x) x) _ _ _ rfl) rfl sz_28_1 ?_
   refine XO.nk [(8, _), (10, _)] (S2 rfl rfl) ?_
   refine XC.region ?_
   refine XO.mv rfl rfl ?_
   refine XO.mv rfl rfl ?_
   refine XO.v (V.nilCheckP rfl) rfl ?_
   refine XO.v (V.fieldAddr rfl fo_31_7) rfl ?_
   refine XO.store rfl rfl (.t4 .here) (encM.st_N_Kids _ _ (by omega) ((s.kids n).insertIdx (posn (s.names n) x) k) _ _ _ rfl) rfl sz_29_1 ?_
   refine XO.mono (fun _ hw3 => XM.openN (s := s) (z := n) (by omega) (.cons (.t5 .here) .nil) hw3) ?_
   refine XO.mono (fun _ hw3 => XM.openK (s := s) (z := n) (by omega) (.cons (.t7 .here) .nil) hw3) ?_
   refine XO.mono (fun _ hw3 => XM.closeN (s := s) (s.putC n x k pe ce pf cf) (z := n) (l := ((s.names n).insertIdx (posn (s.names n) x) x)) (by omega) (rfl) rfl rfl rfl (.cons (.t6 .here) (.cons (.t3 .here) .nil)) hw3) ?_
   refine XO.mono (fun _ hw3 => XM.closeK (s := s) (s.putC n x k pe ce pf cf) (z := n) (l := ((s.kids n).insertIdx (posn (s.names n) x) k)) (by omega) (rfl) rfl rfl rfl (.cons (.t4 .here) (.cons (.t2 .here) .nil)) hw3) ?_
   refine XO.nil ?_
   refine XE.end0 rfl (post_of (.cons (.t6 .here) (.cons (.there .here) .h1)) rfl ?_)
   exact ⟨rfl, s.putC n x k pe ce pf cf, rfl, rfl, rfl, rfl⟩
  ·
   try simp only [sb] at h28
   have hlaid : posn (s.names n) x < q.1.toNat := by simpa using h28
   have hql : q.1.toNat = (s.names n).length := by omega
   have e3 : putT (s.names n) (posn (s.names n) x) x q.1.toNat = (s.names n).insertIdx (posn (s.names n) x) x := by rw [hql]; exact putT_end _ _ _ (by omega)
   have e4 : putT (s.kids n) (posn (s.names n) x) k q.1.toNat = (s.kids n).insertIdx (posn (s.names n) x) k := by rw [hql, hk]; exact putT_end _ _ _ (by omega)
   refine XC.skip ?_
   refine XE.next ?_
   refine XC.keep [(8, _), (9, _), (10, _)] (S3 rfl rfl rfl) ?_
   refine XC.sr ?_
   rw [e3, e4]
   refine XO.mv rfl rfl ?_
   refine XO.mv rfl rfl ?_
   refine XO.v (V.nilCheckP rfl) rfl ?_
   refine XO.v (V.fieldAddr rfl fo_31_6) rfl ?_
   refine XO.store rfl rfl (.t2 .here) (encM.st_N_Names _ _ (by omega) ((s.names n).insertIdx (posn (s.names n) x) x) _ _ _ rfl) rfl sz_28_1 ?_
   refine XO.nk [(8, _), (10, _)] (S2 rfl rfl) ?_
   refine XC.region ?_
   refine XO.mv rfl rfl ?_
   refine XO.mv rfl rfl ?_
   refine XO.v (V.nilCheckP rfl) rfl ?_
   refine XO.v (V.fieldAddr rfl fo_31_7) rfl ?_
   refine XO.store rfl rfl (.t2 .here) (encM.st_N_Kids _ _ (by omega) ((s.kids n).insertIdx (posn (s.names n) x) k) _ _ _ rfl) rfl sz_29_1 ?_
   refine XO.mono (fun _ hw3 => XM.openN (s := s) (z := n) (by omega) (.cons (.t3 .here) .nil) hw3) ?_
   refine XO.mono (fun _ hw3 => XM.openK (s := s) (z := n) (by omega) (.cons (.t5 .here) .nil) hw3) ?_
   refine XO.mono (fun _ hw3 => XM.closeN (s := s) (s.putC n x k q.2.1.1 q.2.1.2 q.2.2.1 q.2.2.2) (z := n) (l := ((s.names n).insertIdx (posn (s.names n) x) x)) (by omega) (rfl) rfl rfl rfl (.cons (.t4 .here) (.cons (.t3 .here) .nil)) hw3) ?_
   refine XO.mono (fun _ hw3 => XM.closeK (s := s) (s.putC n x k q.2.1.1 q.2.1.2 q.2.2.1 q.2.2.2) (z := n) (l := ((s.kids n).insertIdx (posn (s.names n) x) k)) (by omega) (rfl) rfl rfl rfl (.cons (.t4 .here) (.cons (.t2 .here) .nil)) hw3) ?_
   refine XO.nil ?_
   refine XE.end0 rfl (post_of (.cons (.t4 .here) (.cons (.there .here) .h1)) rfl ?_)
   exact ⟨rfl, s.putC n x k q.2.1.1 q.2.1.2 q.2.2.1 q.2.2.2, rfl, rfl, rfl, rfl⟩
set_option maxRecDepth 10000 in
set_option maxHeartbeats 4000000 in
theorem r_cut (b o : Nat) (s : FC) (hI : s.toFF.Sh) (n : Int) (x : ByteArray) (hn : 0 ≤ n ∧ n < 40) (hh : hasn (s.names n) x = true) : Spec Tryz.prog 78 [ptr b o 0, .int .i64 n, .string x]
    [.cells b o 321 (encM s), .fam fam40 (s.rowsN 9), .fam fam40 (s.rowsK 3)]
    (fun v H1 => v = .tuple #[] ∧ ∃ t : FC, t.toFF = s.cutF n x ∧ t.rP = s.rP ∧ t.rC = s.rC ∧ H1 = [.cells b o 321 (encM t), .fam fam40 (FC.rowsN 9 t), .fam fam40 (FC.rowsK 3 t)]) := by
 obtain ⟨hr, hk, h8, _⟩ := hI.rise n (by omega) (by omega)
 have hpl := posn_le (s.names n) x
 obtain ⟨hp1, hp2⟩ := hasn_iff.1 hh
 refine Spec.intro Tryz.func78 rfl rfl ?_
 intro W
 refine XC.sr ?_
 refine XO.mv rfl rfl ?_
 refine XO.mv rfl rfl ?_
 refine XO.v (V.nilCheckP rfl) rfl ?_
 refine XO.v (V.fieldAddr rfl fo_34_0) rfl ?_
 refine XO.v (V.indexArr rfl rfl ar_32 (by omega)) rfl ?_
 refine XO.as rfl rfl ?_
 refine XO.nk [(2, _), (6, _)] (S2 rfl rfl) ?_
 refine XC.sr ?_
 refine XO.as rfl rfl ?_
 refine XO.nilRow 9 1 ?_
 refine XO.nk [(2, _), (6, _), (7, _)] (S3 rfl rfl rfl) ?_
 refine XC.sr ?_
 refine XO.as rfl rfl ?_
 refine XO.nilRow 3 1 ?_
 refine XO.nk [(2, _), (6, _), (7, _), (8, _)] (S4 rfl rfl rfl rfl) ?_
 refine XC.seq ?_
 refine XC.sr ?_
 refine XO.as rfl rfl ?_
 refine XO.nk [(2, _), (6, _), (7, _), (8, _), (9, _)] (S5 rfl rfl rfl rfl rfl) ?_
 refine XC.block ?_
 refine XC.loop (σ := Int × (Option Addr × Nat) × (Option Addr × Nat)) (fun q => ((s.names n).length - q.1).toNat) (fun q => 0 ≤ q.1 ∧ q.1 ≤ (s.names n).length) (fun q => [(7, .slice q.2.1.1 (cutT (s.names n) (posn (s.names n) x) q.1.toNat).length q.2.1.2), (8, .slice q.2.2.1 (cutT (s.kids n) (posn (s.names n) x) q.1.toNat).length q.2.2.2), (9, .int .i64 q.1), (2, .string x), (6, ptr b o (0 + 0 + n.toNat * 8))]) (fun q => XM W (foot [.cells b o 321 (encM s), .fam fam40 (s.rowsN 9), .fam fam40 (s.rowsK 3)]) [srow q.2.1.1 q.2.1.2 9 (cutT (s.names n) (posn (s.names n) x) q.1.toNat), irow q.2.2.1 q.2.2.2 3 (cutT (s.kids n) (posn (s.names n) x) q.1.toNat), .cells b o 321 (encM s), .fam fam40 (s.rowsN 9), .fam fam40 (s.rowsK 3)]) ((0, (none, 0), (none, 0))) ?_ (Sub.cons (by rw [cutT_0]; rfl) (Sub.cons (by rw [cutT_0]; rfl) (S3 rfl rfl rfl))) (fun _ hw => by rw [cutT_0, cutT_0]; exact XM.pick (.cons (.there .here) .h4) hw) ?_
 ·
  exact ⟨by omega, by omega⟩
 intro q hq
 obtain ⟨hq0, hq1⟩ := hq
 have hz1 := cutT_len (s.names n) (posn (s.names n) x) q.1.toNat
 have hz2 := cutT_len (s.kids n) (posn (s.names n) x) q.1.toNat
 refine XC.seq ?_
 refine XC.sr ?_
 refine XO.mv rfl rfl ?_
 refine XO.mv rfl rfl ?_
 refine XO.v (V.nilCheckP rfl) rfl ?_
 refine XO.v (V.fieldAddr rfl fo_31_6) rfl ?_
 refine XO.v (V.load rfl (inXM (.t2 .here)) (encM.ld_N_Names _ _ (by omega)) sc_28) rfl ?_
 refine XO.v (V.lenSl rfl Tryz.underlying28) rfl ?_
 refine XO.v (V.cmp rfl rfl rfl) rfl ?_
 refine XO.nk [(2, _), (6, _), (7, _), (8, _), (9, _), (21, _)] (S6 rfl rfl rfl rfl rfl rfl) ?_
 refine XC.condP rfl (fun h1 => ?_) (fun h1 => ?_)
 ·
  refine XC.skip ?_
  refine XE.next ?_
  refine XC.keep [(2, _), (6, _), (7, _), (8, _), (9, _)] (S5 rfl rfl rfl rfl rfl) ?_
  refine XC.seq ?_
  refine XC.block ?_
  refine XC.sr ?_
  refine XO.mv rfl rfl ?_
  refine XO.v (V.nilCheckP rfl) rfl ?_
  refine XO.v (V.fieldAddr rfl fo_31_6) rfl ?_
  refine XO.v (V.load rfl (inXM (.t2 .here)) (encM.ld_N_Names _ _ (by omega)) sc_28) rfl ?_
  refine XO.mv rfl rfl ?_
  refine XO.mono (fun _ hw3 => XM.openN (s := s) (z := n) (by omega) (.cons (.t3 .here) .nil) hw3) ?_
  refine XO.openRow .here (by omega) ?_
  intro g hg
  rw [hg]
  refine XO.v (V.indexSl rfl rfl sl_28 (by omega)) rfl ?_
  refine XO.v (V.loadRow rfl (inXM .here) (strs_at (by omega)) sc_9) rfl ?_
  refine XO.mono (fun _ hw3 => XM.closeN (s := s) s (z := n) (by omega) rfl (fset_same _ rfl).symm (fset_same _ hg).symm (fset_same _ rfl).symm .h2 hw3) ?_
  refine XO.mv rfl rfl ?_
  refine XO.v (V.strCmp rfl rfl rfl) rfl ?_
  refine XO.nk [(2, _), (6, _), (7, _), (8, _), (9, _), (32, _)] (S6 rfl rfl rfl rfl rfl rfl) ?_
  refine XC.condP rfl (fun h2 => ?_) (fun h2 => ?_)
  ·
   have hne : ats (s.names n) q.1.toNat ≠ x := by assumption
   have hpi : posn (s.names n) x ≠ q.1.toNat := fun c => hne (by rw [← c]; exact hp2)
   have hl1 : q.1.toNat < (s.names n).length := by omega
   have e1 : cutT (s.names n) (posn (s.names n) x) (q.1 + 1).toNat = cutT (s.names n) (posn (s.names n) x) q.1.toNat ++ [sat0 (s.names n) q.1] := by
    rw [show (q.1 + 1).toNat = q.1.toNat + 1 by omega]; exact cutT_next _ _ _ ByteArray.empty hl1 hpi
   have e2 : cutT (s.kids n) (posn (s.names n) x) (q.1 + 1).toNat = cutT (s.kids n) (posn (s.names n) x) q.1.toNat ++ [at0 (s.kids n) q.1] := by
    rw [show (q.1 + 1).toNat = q.1.toNat + 1 by omega]; exact cutT_next _ _ _ 0 (by omega) hpi
   refine XC.sr ?_
   refine XO.mv rfl rfl ?_
   refine XO.mv rfl rfl ?_
   refine XO.v (V.nilCheckP rfl) rfl ?_
   refine XO.v (V.fieldAddr rfl fo_31_6) rfl ?_
   refine XO.v (V.load rfl (inXM (.t3 .here)) (encM.ld_N_Names _ _ (by omega)) sc_28) rfl ?_
   refine XO.mv rfl rfl ?_
   refine XO.mono (fun _ hw3 => XM.openN (s := s) (z := n) (by omega) .h1 hw3) ?_
   refine XO.openRow .here (by omega) ?_
   intro g hg
   rw [hg]
   refine XO.v (V.indexSl rfl rfl sl_28 (by omega)) rfl ?_
   refine XO.v (V.loadRow rfl (inXM .here) (strs_at (by omega)) sc_9) rfl ?_
   refine XO.mono (fun _ hw3 => XM.closeN (s := s) s (z := n) (by omega) rfl (fset_same _ rfl).symm (fset_same _ hg).symm (fset_same _ rfl).symm .h2 hw3) ?_
   refine XO.buildSlice (e := 9) (vs := #[(0, .string (sat0 (s.names n) q.1))]) (A := #[.string (sat0 (s.names n) q.1)]) rfl (fun _ => by kernel_rfl) rfl rfl ?_
   intro g7
   refine XO.appendS (e := 9) rfl rfl Tryz.underlying28 rt_9_1 (.t2 .here) .here (by omega) rfl ?_
   intro pc cc
   refine XO.as rfl rfl ?_
   refine XO.nk [(2, _), (6, _), (7, _), (8, _), (9, _)] (S5 rfl rfl rfl rfl rfl) ?_
   refine XC.region ?_
   refine XO.mv rfl rfl ?_
   refine XO.mv rfl rfl ?_
   refine XO.v (V.nilCheckP rfl) rfl ?_
   refine XO.v (V.fieldAddr rfl fo_31_7) rfl ?_
   refine XO.v (V.load rfl (inXM (.t4 .here)) (encM.ld_N_Kids _ _ (by omega)) sc_29) rfl ?_
   refine XO.mv rfl rfl ?_
   refine XO.mono (fun _ hw3 => XM.openK (s := s) (z := n) (by omega) (.cons (.t5 .here) .nil) hw3) ?_
   refine XO.openRow .here (by omega) ?_
   intro g hg
   rw [hg]
   refine XO.v (V.indexSl rfl rfl sl_29 (by omega)) rfl ?_
   refine XO.v (V.loadRow rfl (inXM .here) (ints_at (by omega)) sc_3) rfl ?_
   refine XO.mono (fun _ hw3 => XM.closeK (s := s) s (z := n) (by omega) rfl (fset_same _ rfl).symm (fset_same _ hg).symm (fset_same _ rfl).symm .h2 hw3) ?_
   refine XO.buildSlice (e := 3) (vs := #[(0, .int .i64 (at0 (s.kids n) q.1))]) (A := #[.int .i64 (at0 (s.kids n) q.1)]) rfl (fun _ => by kernel_rfl) rfl rfl ?_
   intro g8
   refine XO.appendI (e := 3) rfl rfl Tryz.underlying29 rt_3_1 (.t5 .here) .here (by omega) rfl ?_
   intro pd cd
   refine XO.as rfl rfl ?_
   refine XO.nil ?_
   refine XE.blockNormal ?_
   refine XE.next ?_
   refine XC.keep [(2, _), (6, _), (7, _), (8, _), (9, _)] (S5 rfl rfl rfl rfl rfl) ?_
   refine XC.region ?_
   refine XO.mv rfl rfl ?_
   refine XO.v (V.add rfl rfl _ (IntWalk.i64_in _ (by omega))) rfl ?_
   refine XO.as rfl rfl ?_
   refine XO.nil ?_
   refine XE.again ((q.1 + 1, (pc, cc), (pd, cd))) ?_ ?_ (Sub.cons (by rw [e1]; try rfl) (Sub.cons (by rw [e2]; try rfl) (S3 rfl rfl rfl))) (fun _ hw => by rw [e1, e2]; exact XM.pick (.cons (.t3 .here) (.cons .here (.cons (.t4 .here) (.cons (.t3 .here) (.cons (.there .here) .nil))))) hw)
   ·
    (first | omega | (simp; done) | (simp; omega))
   ·
    (first | omega | (simp; done) | (simp; omega))
  ·
   have heq : ats (s.names n) q.1.toNat = x := Decidable.byContradiction (by assumption)
   have hpi := at_posn hr (i := q.1.toNat) (by omega) heq
   have e1 : cutT (s.names n) (posn (s.names n) x) (q.1 + 1).toNat = cutT (s.names n) (posn (s.names n) x) q.1.toNat := by
    rw [show (q.1 + 1).toNat = q.1.toNat + 1 by omega, hpi]; exact cutT_here _ _ (by omega)
   have e2 : cutT (s.kids n) (posn (s.names n) x) (q.1 + 1).toNat = cutT (s.kids n) (posn (s.names n) x) q.1.toNat := by
    rw [show (q.1 + 1).toNat = q.1.toNat + 1 by omega, hpi]; exact cutT_here _ _ (by omega)
   refine XC.skip ?_
   refine XE.blockNormal ?_
   refine XE.next ?_
   refine XC.keep [(2, _), (6, _), (7, _), (8, _), (9, _)] (S5 rfl rfl rfl rfl rfl) ?_
   refine XC.region ?_
   refine XO.mv rfl rfl ?_
   refine XO.v (V.add rfl rfl _ (IntWalk.i64_in _ (by omega))) rfl ?_
   refine XO.as rfl rfl ?_
   refine XO.nil ?_
   refine XE.again ((q.1 + 1, q.2.1, q.2.2)) ?_ ?_ (Sub.cons (by rw [e1]; try rfl) (Sub.cons (by rw [e2]; try rfl) (S3 rfl rfl rfl))) (fun _ hw => by rw [e1, e2]; exact XM.pick (.cons (.there .here) (.cons (.there .here) (.cons (.there .here) .h2))) hw)
   ·
    (first | omega | (simp; done) | (simp; omega))
   ·
    (first | omega | (simp; done) | (simp; omega))
 ·
  have hql : q.1.toNat = (s.names n).length := by omega
  have e3 : cutT (s.names n) (posn (s.names n) x) q.1.toNat = (s.names n).eraseIdx (posn (s.names n) x) := by rw [hql]; exact cutT_end _ _
  have e4 : cutT (s.kids n) (posn (s.names n) x) q.1.toNat = (s.kids n).eraseIdx (posn (s.names n) x) := by rw [hql, hk]; exact cutT_end _ _
  refine XC.exit ?_
  refine XE.thenExit ?_
  refine XE.thenExit ?_
  refine XE.blockExit ?_
  refine XE.next ?_
  refine XC.keep [(6, _), (7, _), (8, _)] (S3 rfl rfl rfl) ?_
  refine XC.sr ?_
  rw [e3, e4]
  refine XO.mv rfl rfl ?_
  refine XO.mv rfl rfl ?_
  refine XO.v (V.nilCheckP rfl) rfl ?_
  refine XO.v (V.fieldAddr rfl fo_31_6) rfl ?_
  refine XO.store rfl rfl (.t2 .here) (encM.st_N_Names _ _ (by omega) ((s.names n).eraseIdx (posn (s.names n) x)) _ _ _ rfl) rfl sz_28_1 ?_
  refine XO.nk [(6, _), (8, _)] (S2 rfl rfl) ?_
  refine XC.region ?_
  refine XO.mv rfl rfl ?_
  refine XO.mv rfl rfl ?_
  refine XO.v (V.nilCheckP rfl) rfl ?_
  refine XO.v (V.fieldAddr rfl fo_31_7) rfl ?_
  refine XO.store rfl rfl (.t2 .here) (encM.st_N_Kids _ _ (by omega) ((s.kids n).eraseIdx (posn (s.names n) x)) _ _ _ rfl) rfl sz_29_1 ?_
  refine XO.mono (fun _ hw3 => XM.openN (s := s) (z := n) (by omega) (.cons (.t3 .here) .nil) hw3) ?_
  refine XO.mono (fun _ hw3 => XM.openK (s := s) (z := n) (by omega) (.cons (.t5 .here) .nil) hw3) ?_
  refine XO.mono (fun _ hw3 => XM.closeN (s := s) ((⟨s.cutF n x, fset s.nP n q.2.1.1, fset s.nC n q.2.1.2, fset s.kP n q.2.2.1, fset s.kC n q.2.2.2, s.rP, s.rC⟩ : FC)) (z := n) (l := ((s.names n).eraseIdx (posn (s.names n) x))) (by omega) (rfl) rfl rfl rfl (.cons (.t4 .here) (.cons (.t3 .here) .nil)) hw3) ?_
  refine XO.mono (fun _ hw3 => XM.closeK (s := s) ((⟨s.cutF n x, fset s.nP n q.2.1.1, fset s.nC n q.2.1.2, fset s.kP n q.2.2.1, fset s.kC n q.2.2.2, s.rP, s.rC⟩ : FC)) (z := n) (l := ((s.kids n).eraseIdx (posn (s.names n) x))) (by omega) (rfl) rfl rfl rfl (.cons (.t4 .here) (.cons (.t2 .here) .nil)) hw3) ?_
  refine XO.nil ?_
  refine XE.end0 rfl (post_of (.cons (.t4 .here) (.cons (.there .here) .h1)) rfl ?_)
  exact ⟨rfl, (⟨s.cutF n x, fset s.nP n q.2.1.1, fset s.nC n q.2.1.2, fset s.kP n q.2.2.1, fset s.kC n q.2.2.2, s.rP, s.rC⟩ : FC), rfl, rfl, rfl, rfl⟩
end Go.X

namespace Go.X
open Go Go.Proofs
theorem cl_39 : callable Tryz.prog 39 = true := by kernel_rfl
theorem cl_73 : callable Tryz.prog 73 = true := by kernel_rfl
theorem cl_74 : callable Tryz.prog 74 = true := by kernel_rfl
theorem cl_78 : callable Tryz.prog 78 = true := by kernel_rfl
theorem fo_31_1 : fieldOff Tryz.prog 31 1 = some 1 := by kernel_rfl
set_option maxRecDepth 10000 in
set_option maxHeartbeats 2000000 in
theorem r_Make (b o : Nat) (s : FC) (hI : s.toFF.Sh) (n : Int) (x : ByteArray) (k : Int) (hx : x.size ≤ 9223372036854775807) : Spec Tryz.prog 30 [ptr b o 0, .int .i64 n, .string x, .int .i64 k]
    [.cells b o 321 (encM s), .fam fam40 (s.rowsN 9), .fam fam40 (s.rowsK 3)]
    (fun v H1 => v = .tuple #[.int .i64 (s.makeV n x k), .int .i64 (s.makeE n x k)] ∧ ∃ t : FC, t.toFF = s.make n x k ∧ t.rP = s.rP ∧ t.rC = s.rC ∧ H1 = [.cells b o 321 (encM t), .fam fam40 (FC.rowsN 9 t), .fam fam40 (FC.rowsK 3 t)]) := by
 refine Spec.intro Tryz.func30 rfl rfl ?_
 intro W
 refine XC.sr ?_
 refine XO.as rfl rfl ?_
 refine XO.as rfl rfl ?_
 refine XO.nk [(0, _), (1, _), (2, _), (3, _)] (S4 rfl rfl rfl rfl) ?_
 refine XC.seq ?_
 refine XC.sr ?_
 refine XO.mv rfl rfl ?_
 refine XO.v (V.cmp rfl rfl rfl) rfl ?_
 refine XO.mv rfl rfl ?_
 refine XO.splitP (d := 15) rfl (fun h1 => ?_) (fun h1 => ?_)
 ·
  refine XO.guardRun rfl rfl rfl ?_
  refine XO.mv rfl rfl ?_
  refine XO.guardRun rfl rfl rfl ?_
  refine XO.v (V.cmp rfl rfl rfl) rfl ?_
  refine XO.v (V.pick rfl rfl rfl rfl) rfl ?_
  refine XO.nk [(0, _), (1, _), (2, _), (3, _), (18, _)] (S5 rfl rfl rfl rfl rfl) ?_
  refine XC.condP rfl (fun h2 => ?_) (fun h2 => ?_)
  ·
   refine XC.sr ?_
   refine XO.as rfl rfl ?_
   refine XO.as rfl rfl ?_
   refine XO.nk [(8, _), (9, _)] (S2 rfl rfl) ?_
   refine XC.ret ?_
   refine XE.thenRet ?_
   refine XE.ret2 rfl rfl rfl (post_of .h3 rfl ?_)
   have e : s.makeE n x k = 1 := by unfold FF.makeE; rw [if_pos (by omega)]
   exact ⟨by rw [show s.makeV n x k = 0 from by unfold FF.makeV; rw [if_neg (by omega)], e], s, by unfold FF.make; rw [if_neg (by omega)], rfl, rfl, rfl⟩
  ·
   refine XC.skip ?_
   refine XE.next ?_
   refine XC.keep [(0, _), (1, _), (2, _), (3, _)] (S4 rfl rfl rfl rfl) ?_
   refine XC.seq ?_
   refine XC.sr ?_
   refine XO.mv rfl rfl ?_
   refine XO.mv rfl rfl ?_
   refine XO.mv rfl rfl ?_
   refine XO.call rfl (r_Room _ _ _ hI _ _ (by assumption)) .h3 cl_73 rfl ?_
   rintro _ _ ⟨rfl, rfl⟩
   refine XO.as rfl rfl ?_
   refine XO.nk [(0, _), (1, _), (2, _), (3, _), (10, _)] (S5 rfl rfl rfl rfl rfl) ?_
   refine XC.sr ?_
   refine XO.mv rfl rfl ?_
   refine XO.v (V.cmp rfl rfl rfl) rfl ?_
   refine XO.nk [(0, _), (1, _), (2, _), (3, _), (10, _), (24, _)] (S6 rfl rfl rfl rfl rfl rfl) ?_
   refine XC.condP rfl (fun h3 => ?_) (fun h3 => ?_)
   ·
    refine XC.sr ?_
    refine XO.mv rfl rfl ?_
    refine XO.as rfl rfl ?_
    refine XO.as rfl rfl ?_
    refine XO.nk [(8, _), (9, _)] (S2 rfl rfl) ?_
    refine XC.ret ?_
    refine XE.thenRet ?_
    refine XE.ret2 rfl rfl rfl (post_of .h3 rfl ?_)
    have e : s.makeE n x k = s.roomE n x := by unfold FF.makeE; rw [if_neg (by omega), if_pos (by omega)]
    exact ⟨by rw [show s.makeV n x k = 0 from by unfold FF.makeV; rw [if_neg (by omega)], e], s, by unfold FF.make; rw [if_neg (by omega)], rfl, rfl, rfl⟩
   ·
    have hrn := FF.roomE_nn s.toFF n x
    have m0 : s.roomE n x = 0 := by omega
    obtain ⟨m1, m2, m3, m4⟩ := FF.roomE_0 m0
    obtain ⟨i1, i2, i3, i4⟩ := FF.isE_k0 m1
    have i5 := i4 (by omega)
    refine XC.skip ?_
    refine XE.next ?_
    refine XC.keep [(0, _), (1, _), (2, _), (3, _)] (S4 rfl rfl rfl rfl) ?_
    refine XC.sr ?_
    refine XO.mv rfl rfl ?_
    refine XO.mv rfl rfl ?_
    refine XO.mv rfl rfl ?_
    refine XO.mv rfl rfl ?_
    refine XO.v (V.nilCheckP rfl) rfl ?_
    refine XO.v (V.fieldAddr rfl fo_34_0) rfl ?_
    refine XO.v (V.indexArr rfl rfl ar_32 (by omega)) rfl ?_
    refine XO.v (V.fieldAddr rfl fo_31_1) rfl ?_
    refine XO.v (V.load rfl (inXM .here) (encM.ld_N_Tree _ _ (by omega)) sc_3) rfl ?_
    refine XO.mv rfl rfl ?_
    refine XO.v (V.build (vs := #[(0, .int .i64 k), (1, .int .i64 (s.tree n)), (2, .int .i64 1), (4, .int .i64 n)]) rfl (v := .agg (nodeMA k (s.tree n) 1 n)) (fun _ => by kernel_rfl)) rfl ?_
    refine XO.call rfl (r_fresh _ _ _ _ _ _ _) .h3 cl_27 rfl ?_
    rintro _ _ (⟨h4, rfl, rfl⟩ | ⟨h4, rfl, rfl⟩)
    ·
     refine XO.mv rfl rfl ?_
     refine XO.v (V.extract rfl rfl) rfl ?_
     refine XO.v (V.extract rfl rfl) rfl ?_
     refine XO.as rfl rfl ?_
     refine XO.as rfl rfl ?_
     refine XO.nk [(0, _), (1, _), (2, _), (11, _), (12, _)] (S5 rfl rfl rfl rfl rfl) ?_
     refine XC.seq ?_
     refine XC.sr ?_
     refine XO.mv rfl rfl ?_
     refine XO.v (V.cmp rfl rfl rfl) rfl ?_
     refine XO.nk [(0, _), (1, _), (2, _), (11, _), (12, _), (42, _)] (S6 rfl rfl rfl rfl rfl rfl) ?_
     refine XC.condTP rfl (by omega) ?_
     refine XC.sr ?_
     refine XO.mv rfl rfl ?_
     refine XO.as rfl rfl ?_
     refine XO.as rfl rfl ?_
     refine XO.nk [(8, _), (9, _)] (S2 rfl rfl) ?_
     refine XC.ret ?_
     refine XE.thenRet ?_
     refine XE.ret2 rfl rfl rfl (post_of .h3 rfl ?_)
     have e : s.makeE n x k = 4 := by unfold FF.makeE; rw [if_neg (by omega), if_neg (by omega), if_pos (by assumption)]
     exact ⟨by rw [show s.makeV n x k = 0 from by unfold FF.makeV; rw [if_neg (by omega)], e], s, by unfold FF.make; rw [if_neg (by omega)], rfl, rfl, rfl⟩
    ·
     refine XO.mv rfl rfl ?_
     refine XO.v (V.extract rfl rfl) rfl ?_
     refine XO.v (V.extract rfl rfl) rfl ?_
     refine XO.as rfl rfl ?_
     refine XO.as rfl rfl ?_
     refine XO.nk [(0, _), (1, _), (2, _), (11, _), (12, _)] (S5 rfl rfl rfl rfl rfl) ?_
     refine XC.seq ?_
     refine XC.sr ?_
     refine XO.mv rfl rfl ?_
     refine XO.v (V.cmp rfl rfl rfl) rfl ?_
     refine XO.nk [(0, _), (1, _), (2, _), (11, _), (12, _), (42, _)] (S6 rfl rfl rfl rfl rfl rfl) ?_
     refine XC.condFP rfl (by omega) ?_
     refine XC.skip ?_
     refine XE.next ?_
     refine XC.keep [(0, _), (1, _), (2, _), (11, _)] (S4 rfl rfl rfl rfl) ?_
     refine XC.sr ?_
     have f := FF.free_ok (show ¬ s.free < 0 by assumption)
     have hI2 : (s.setC s.free k (s.tree n) 1 n).toFF.Sh := hI.setN _ _ _ _ _ (by omega)
     have hne : ¬ n = s.free := fun e => by rw [← e] at f; omega
     have m5 : hasn ((s.setC s.free k (s.tree n) 1 n).names n) x = false := by rw [show (s.setC s.free k (s.tree n) 1 n).names n = s.names n from fset_ne _ _ hne]; exact m3
     refine XO.mv rfl rfl ?_
     refine XO.mv rfl rfl ?_
     refine XO.mv rfl rfl ?_
     refine XO.mv rfl rfl ?_
     refine XO.call rfl (r_put _ _ _ hI2 _ _ _ (by omega) m5) .h3 cl_74 rfl ?_
     rintro _ _ ⟨rfl, t, ht, hp, hc, rfl⟩
     refine XO.nk [(11, _)] (S1 rfl) ?_
     refine XC.sr ?_
     refine XO.mv rfl rfl ?_
     refine XO.as rfl rfl ?_
     refine XO.as rfl rfl ?_
     refine XO.nk [(8, _), (9, _)] (S2 rfl rfl) ?_
     refine XC.ret ?_
     refine XE.ret2 rfl rfl rfl (post_of .h3 rfl ?_)
     have e : s.makeE n x k = 0 := by unfold FF.makeE; rw [if_neg (by omega), if_neg (by omega), if_neg (by assumption)]
     exact ⟨by rw [show s.makeV n x k = s.free from by unfold FF.makeV; rw [if_pos e], e], t, by rw [ht]; unfold FF.make; rw [if_pos e]; rfl, hp, hc, rfl⟩
 ·
  refine XO.guardSkip rfl rfl rfl rfl rfl ?_
  refine XO.guardSkip rfl rfl rfl rfl rfl ?_
  refine XO.v (V.pick rfl rfl rfl rfl) rfl ?_
  refine XO.nk [(0, _), (1, _), (2, _), (3, _), (18, _)] (S5 rfl rfl rfl rfl rfl) ?_
  refine XC.condF rfl rfl ?_
  refine XC.skip ?_
  refine XE.next ?_
  refine XC.keep [(0, _), (1, _), (2, _), (3, _)] (S4 rfl rfl rfl rfl) ?_
  refine XC.seq ?_
  refine XC.sr ?_
  refine XO.mv rfl rfl ?_
  refine XO.mv rfl rfl ?_
  refine XO.mv rfl rfl ?_
  refine XO.call rfl (r_Room _ _ _ hI _ _ (by assumption)) .h3 cl_73 rfl ?_
  rintro _ _ ⟨rfl, rfl⟩
  refine XO.as rfl rfl ?_
  refine XO.nk [(0, _), (1, _), (2, _), (3, _), (10, _)] (S5 rfl rfl rfl rfl rfl) ?_
  refine XC.sr ?_
  refine XO.mv rfl rfl ?_
  refine XO.v (V.cmp rfl rfl rfl) rfl ?_
  refine XO.nk [(0, _), (1, _), (2, _), (3, _), (10, _), (24, _)] (S6 rfl rfl rfl rfl rfl rfl) ?_
  refine XC.condP rfl (fun h5 => ?_) (fun h5 => ?_)
  ·
   refine XC.sr ?_
   refine XO.mv rfl rfl ?_
   refine XO.as rfl rfl ?_
   refine XO.as rfl rfl ?_
   refine XO.nk [(8, _), (9, _)] (S2 rfl rfl) ?_
   refine XC.ret ?_
   refine XE.thenRet ?_
   refine XE.ret2 rfl rfl rfl (post_of .h3 rfl ?_)
   have e : s.makeE n x k = s.roomE n x := by unfold FF.makeE; rw [if_neg (by omega), if_pos (by omega)]
   exact ⟨by rw [show s.makeV n x k = 0 from by unfold FF.makeV; rw [if_neg (by omega)], e], s, by unfold FF.make; rw [if_neg (by omega)], rfl, rfl, rfl⟩
  ·
   have hrn := FF.roomE_nn s.toFF n x
   have m0 : s.roomE n x = 0 := by omega
   obtain ⟨m1, m2, m3, m4⟩ := FF.roomE_0 m0
   obtain ⟨i1, i2, i3, i4⟩ := FF.isE_k0 m1
   have i5 := i4 (by omega)
   refine XC.skip ?_
   refine XE.next ?_
   refine XC.keep [(0, _), (1, _), (2, _), (3, _)] (S4 rfl rfl rfl rfl) ?_
   refine XC.sr ?_
   refine XO.mv rfl rfl ?_
   refine XO.mv rfl rfl ?_
   refine XO.mv rfl rfl ?_
   refine XO.mv rfl rfl ?_
   refine XO.v (V.nilCheckP rfl) rfl ?_
   refine XO.v (V.fieldAddr rfl fo_34_0) rfl ?_
   refine XO.v (V.indexArr rfl rfl ar_32 (by omega)) rfl ?_
   refine XO.v (V.fieldAddr rfl fo_31_1) rfl ?_
   refine XO.v (V.load rfl (inXM .here) (encM.ld_N_Tree _ _ (by omega)) sc_3) rfl ?_
   refine XO.mv rfl rfl ?_
   refine XO.v (V.build (vs := #[(0, .int .i64 k), (1, .int .i64 (s.tree n)), (2, .int .i64 1), (4, .int .i64 n)]) rfl (v := .agg (nodeMA k (s.tree n) 1 n)) (fun _ => by kernel_rfl)) rfl ?_
   refine XO.call rfl (r_fresh _ _ _ _ _ _ _) .h3 cl_27 rfl ?_
   rintro _ _ (⟨h6, rfl, rfl⟩ | ⟨h6, rfl, rfl⟩)
   ·
    refine XO.mv rfl rfl ?_
    refine XO.v (V.extract rfl rfl) rfl ?_
    refine XO.v (V.extract rfl rfl) rfl ?_
    refine XO.as rfl rfl ?_
    refine XO.as rfl rfl ?_
    refine XO.nk [(0, _), (1, _), (2, _), (11, _), (12, _)] (S5 rfl rfl rfl rfl rfl) ?_
    refine XC.seq ?_
    refine XC.sr ?_
    refine XO.mv rfl rfl ?_
    refine XO.v (V.cmp rfl rfl rfl) rfl ?_
    refine XO.nk [(0, _), (1, _), (2, _), (11, _), (12, _), (42, _)] (S6 rfl rfl rfl rfl rfl rfl) ?_
    refine XC.condTP rfl (by omega) ?_
    refine XC.sr ?_
    refine XO.mv rfl rfl ?_
    refine XO.as rfl rfl ?_
    refine XO.as rfl rfl ?_
    refine XO.nk [(8, _), (9, _)] (S2 rfl rfl) ?_
    refine XC.ret ?_
    refine XE.thenRet ?_
    refine XE.ret2 rfl rfl rfl (post_of .h3 rfl ?_)
    have e : s.makeE n x k = 4 := by unfold FF.makeE; rw [if_neg (by omega), if_neg (by omega), if_pos (by assumption)]
    exact ⟨by rw [show s.makeV n x k = 0 from by unfold FF.makeV; rw [if_neg (by omega)], e], s, by unfold FF.make; rw [if_neg (by omega)], rfl, rfl, rfl⟩
   ·
    refine XO.mv rfl rfl ?_
    refine XO.v (V.extract rfl rfl) rfl ?_
    refine XO.v (V.extract rfl rfl) rfl ?_
    refine XO.as rfl rfl ?_
    refine XO.as rfl rfl ?_
    refine XO.nk [(0, _), (1, _), (2, _), (11, _), (12, _)] (S5 rfl rfl rfl rfl rfl) ?_
    refine XC.seq ?_
    refine XC.sr ?_
    refine XO.mv rfl rfl ?_
    refine XO.v (V.cmp rfl rfl rfl) rfl ?_
    refine XO.nk [(0, _), (1, _), (2, _), (11, _), (12, _), (42, _)] (S6 rfl rfl rfl rfl rfl rfl) ?_
    refine XC.condFP rfl (by omega) ?_
    refine XC.skip ?_
    refine XE.next ?_
    refine XC.keep [(0, _), (1, _), (2, _), (11, _)] (S4 rfl rfl rfl rfl) ?_
    refine XC.sr ?_
    have f := FF.free_ok (show ¬ s.free < 0 by assumption)
    have hI2 : (s.setC s.free k (s.tree n) 1 n).toFF.Sh := hI.setN _ _ _ _ _ (by omega)
    have hne : ¬ n = s.free := fun e => by rw [← e] at f; omega
    have m5 : hasn ((s.setC s.free k (s.tree n) 1 n).names n) x = false := by rw [show (s.setC s.free k (s.tree n) 1 n).names n = s.names n from fset_ne _ _ hne]; exact m3
    refine XO.mv rfl rfl ?_
    refine XO.mv rfl rfl ?_
    refine XO.mv rfl rfl ?_
    refine XO.mv rfl rfl ?_
    refine XO.call rfl (r_put _ _ _ hI2 _ _ _ (by omega) m5) .h3 cl_74 rfl ?_
    rintro _ _ ⟨rfl, t, ht, hp, hc, rfl⟩
    refine XO.nk [(11, _)] (S1 rfl) ?_
    refine XC.sr ?_
    refine XO.mv rfl rfl ?_
    refine XO.as rfl rfl ?_
    refine XO.as rfl rfl ?_
    refine XO.nk [(8, _), (9, _)] (S2 rfl rfl) ?_
    refine XC.ret ?_
    refine XE.ret2 rfl rfl rfl (post_of .h3 rfl ?_)
    have e : s.makeE n x k = 0 := by unfold FF.makeE; rw [if_neg (by omega), if_neg (by omega), if_neg (by assumption)]
    exact ⟨by rw [show s.makeV n x k = s.free from by unfold FF.makeV; rw [if_pos e], e], t, by rw [ht]; unfold FF.make; rw [if_pos e]; rfl, hp, hc, rfl⟩
set_option maxRecDepth 10000 in
set_option maxHeartbeats 2000000 in
theorem r_Link (b o : Nat) (s : FC) (hI : s.toFF.Sh) (k n : Int) (x : ByteArray) (hx : x.size ≤ 9223372036854775807) : Spec Tryz.prog 32 [ptr b o 0, .int .i64 k, .int .i64 n, .string x]
    [.cells b o 321 (encM s), .fam fam40 (s.rowsN 9), .fam fam40 (s.rowsK 3)]
    (fun v H1 => v = .int .i64 (s.linkE k n x) ∧ ∃ t : FC, t.toFF = s.link k n x ∧ t.rP = s.rP ∧ t.rC = s.rC ∧ H1 = [.cells b o 321 (encM t), .fam fam40 (FC.rowsN 9 t), .fam fam40 (FC.rowsK 3 t)]) := by
 have hkn := FF.isE_nn s.toFF k 1
 have hrn := FF.roomE_nn s.toFF n x
 refine Spec.intro Tryz.func32 rfl rfl ?_
 intro W
 refine XC.sr ?_
 refine XO.as rfl rfl ?_
 refine XO.nk [(0, _), (1, _), (2, _), (3, _)] (S4 rfl rfl rfl rfl) ?_
 refine XC.seq ?_
 refine XC.sr ?_
 refine XO.mv rfl rfl ?_
 refine XO.mv rfl rfl ?_
 refine XO.call rfl (r_Is _ _ _ _ _) .h1 cl_65 rfl ?_
 rintro _ _ ⟨rfl, rfl⟩
 refine XO.as rfl rfl ?_
 refine XO.nk [(0, _), (1, _), (2, _), (3, _), (9, _)] (S5 rfl rfl rfl rfl rfl) ?_
 refine XC.sr ?_
 refine XO.mv rfl rfl ?_
 refine XO.v (V.cmp rfl rfl rfl) rfl ?_
 refine XO.nk [(0, _), (1, _), (2, _), (3, _), (9, _), (15, _)] (S6 rfl rfl rfl rfl rfl rfl) ?_
 refine XC.condP rfl (fun h1 => ?_) (fun h1 => ?_)
 ·
  refine XC.sr ?_
  refine XO.mv rfl rfl ?_
  refine XO.as rfl rfl ?_
  refine XO.nk [(8, _)] (S1 rfl) ?_
  refine XC.ret ?_
  refine XE.thenRet ?_
  refine XE.ret1 rfl rfl (post_of .h3 rfl ?_)
  have e : s.linkE k n x = s.isE k 1 := by unfold FF.linkE; rw [if_pos (by omega)]
  exact ⟨by rw [e], s, by unfold FF.link; rw [if_neg (by omega)], rfl, rfl, rfl⟩
 ·
  have j0 : s.isE k 1 = 0 := by omega
  obtain ⟨j1, j2, j3, j4⟩ := FF.isE_k0 j0
  refine XC.skip ?_
  refine XE.next ?_
  refine XC.keep [(0, _), (1, _), (2, _), (3, _)] (S4 rfl rfl rfl rfl) ?_
  refine XC.seq ?_
  refine XC.sr ?_
  refine XO.mv rfl rfl ?_
  refine XO.mv rfl rfl ?_
  refine XO.mv rfl rfl ?_
  refine XO.call rfl (r_Room _ _ _ hI _ _ (by assumption)) .h3 cl_73 rfl ?_
  rintro _ _ ⟨rfl, rfl⟩
  refine XO.as rfl rfl ?_
  refine XO.nk [(0, _), (1, _), (2, _), (3, _), (10, _)] (S5 rfl rfl rfl rfl rfl) ?_
  refine XC.sr ?_
  refine XO.mv rfl rfl ?_
  refine XO.v (V.cmp rfl rfl rfl) rfl ?_
  refine XO.nk [(0, _), (1, _), (2, _), (3, _), (10, _), (22, _)] (S6 rfl rfl rfl rfl rfl rfl) ?_
  refine XC.condP rfl (fun h2 => ?_) (fun h2 => ?_)
  ·
   refine XC.sr ?_
   refine XO.mv rfl rfl ?_
   refine XO.as rfl rfl ?_
   refine XO.nk [(8, _)] (S1 rfl) ?_
   refine XC.ret ?_
   refine XE.thenRet ?_
   refine XE.ret1 rfl rfl (post_of .h3 rfl ?_)
   have e : s.linkE k n x = s.roomE n x := by unfold FF.linkE; rw [if_neg (by omega), if_pos (by omega)]
   exact ⟨by rw [e], s, by unfold FF.link; rw [if_neg (by omega)], rfl, rfl, rfl⟩
  ·
   have m0 : s.roomE n x = 0 := by omega
   obtain ⟨m1, m2, m3, m4⟩ := FF.roomE_0 m0
   obtain ⟨i1, i2, i3, i4⟩ := FF.isE_k0 m1
   refine XC.skip ?_
   refine XE.next ?_
   refine XC.keep [(0, _), (1, _), (2, _), (3, _)] (S4 rfl rfl rfl rfl) ?_
   refine XC.seq ?_
   refine XC.seq ?_
   refine XC.regionQ mixed (f := 15) (l := #[false, false, false, false, false, false, false, false, false, false, false, false, false, false, false]) rfl rfl XM.drawn' ?_
   refine XQ.pv (i := 0) (l' := #[tt,ff,ff,ff,ff,ff,ff,ff,ff,ff,ff,ff,ff,ff,ff]) rfl (by kernel_rfl) rfl (V.move rfl) rfl rfl ?_
   refine XQ.pv (i := 1) (l' := #[tt,tt,ff,ff,ff,ff,ff,ff,ff,ff,ff,ff,ff,ff,ff]) rfl (by kernel_rfl) rfl (V.move rfl) rfl rfl ?_
   refine XQ.pv (i := 2) (l' := #[tt,tt,tt,ff,ff,ff,ff,ff,ff,ff,ff,ff,ff,ff,ff]) rfl (by kernel_rfl) rfl (V.nilCheckP rfl) rfl rfl ?_
   refine XQ.pv (i := 3) (l' := #[tt,tt,tt,tt,ff,ff,ff,ff,ff,ff,ff,ff,ff,ff,ff]) rfl (by kernel_rfl) rfl (V.fieldAddr rfl fo_34_0) rfl rfl ?_
   refine XQ.pv (i := 4) (l' := #[tt,tt,tt,tt,tt,ff,ff,ff,ff,ff,ff,ff,ff,ff,ff]) rfl (by kernel_rfl) rfl (V.indexArr rfl rfl ar_32 (by omega)) rfl rfl ?_
   refine XQ.pv (i := 5) (l' := #[tt,tt,tt,tt,tt,tt,ff,ff,ff,ff,ff,ff,ff,ff,ff]) rfl (by kernel_rfl) rfl (V.fieldAddr rfl fo_31_1) rfl rfl ?_
   refine XQ.load (i := 6) (l' := #[tt,tt,tt,tt,tt,tt,tt,ff,ff,ff,ff,ff,ff,ff,ff]) (.cells _ _ _ _) [] rfl (by kernel_rfl) rfl .here (V.load rfl inEnt (encM.ld_N_Tree _ _ (by omega)) sc_3) rfl (by kernel_rfl) rfl ?_
   refine XQ.pv (i := 7) (l' := #[tt,tt,tt,tt,tt,tt,tt,tt,ff,ff,ff,ff,ff,ff,ff]) rfl (by kernel_rfl) rfl (V.move rfl) rfl rfl ?_
   refine XQ.pv (i := 8) (l' := #[tt,tt,tt,tt,tt,tt,tt,tt,tt,ff,ff,ff,ff,ff,ff]) rfl (by kernel_rfl) rfl (V.move rfl) rfl rfl ?_
   refine XQ.pv (i := 9) (l' := #[tt,tt,tt,tt,tt,tt,tt,tt,tt,tt,ff,ff,ff,ff,ff]) rfl (by kernel_rfl) rfl (V.nilCheckP rfl) rfl rfl ?_
   refine XQ.pv (i := 10) (l' := #[tt,tt,tt,tt,tt,tt,tt,tt,tt,tt,tt,ff,ff,ff,ff]) rfl (by kernel_rfl) rfl (V.fieldAddr rfl fo_34_0) rfl rfl ?_
   refine XQ.pv (i := 11) (l' := #[tt,tt,tt,tt,tt,tt,tt,tt,tt,tt,tt,tt,ff,ff,ff]) rfl (by kernel_rfl) rfl (V.indexArr rfl rfl ar_32 (by omega)) rfl rfl ?_
   refine XQ.pv (i := 12) (l' := #[tt,tt,tt,tt,tt,tt,tt,tt,tt,tt,tt,tt,tt,ff,ff]) rfl (by kernel_rfl) rfl (V.fieldAddr rfl fo_31_1) rfl rfl ?_
   refine XQ.load (i := 13) (l' := #[tt,tt,tt,tt,tt,tt,tt,tt,tt,tt,tt,tt,tt,tt,ff]) (.cells _ _ _ _) [] rfl (by kernel_rfl) rfl .here (V.load rfl inEnt (encM.ld_N_Tree _ _ (by omega)) sc_3) rfl (by kernel_rfl) rfl ?_
   refine XQ.pv (i := 14) (l' := #[tt,tt,tt,tt,tt,tt,tt,tt,tt,tt,tt,tt,tt,tt,tt]) rfl (by kernel_rfl) rfl (V.cmp rfl rfl rfl) rfl rfl ?_
   refine XQ.done (by kernel_rfl) ?_
   refine XE.next ?_
   refine XC.keep [(0, _), (1, _), (2, _), (3, _), (38, _)] (S5 rfl rfl rfl rfl rfl) ?_
   refine XC.condP rfl (fun h3 => ?_) (fun h3 => ?_)
   ·
    refine XC.sr ?_
    refine XO.as rfl rfl ?_
    refine XO.nk [(8, _)] (S1 rfl) ?_
    refine XC.ret ?_
    refine XE.thenRet ?_
    refine XE.ret1 rfl rfl (post_of .h3 rfl ?_)
    have e : s.linkE k n x = 11 := by unfold FF.linkE; rw [if_neg (by omega), if_neg (by omega), if_pos (by assumption)]
    exact ⟨by rw [e], s, by unfold FF.link; rw [if_neg (by omega)], rfl, rfl, rfl⟩
   ·
    refine XC.skip ?_
    refine XE.next ?_
    refine XC.keep [(0, _), (1, _), (2, _), (3, _)] (S4 rfl rfl rfl rfl) ?_
    refine XC.sr ?_
    refine XO.mv rfl rfl ?_
    refine XO.mv rfl rfl ?_
    refine XO.mv rfl rfl ?_
    refine XO.mv rfl rfl ?_
    refine XO.call rfl (r_put _ _ _ hI _ _ _ (by omega) (by assumption)) .h3 cl_74 rfl ?_
    rintro _ _ ⟨rfl, t, ht, hp, hc, rfl⟩
    refine XO.nk [(0, _), (1, _)] (S2 rfl rfl) ?_
    refine XC.seq ?_
    refine XC.regionQ mixed (f := 13) (l := #[false, false, false, false, false, false, false, false, false, false, false, false, false]) rfl rfl XM.drawn' ?_
    have hln : t.links k = s.links k := congrFun (congrArg FF.links ht) k
    have hlb := hI.num k (by omega) (by omega)
    refine XQ.pv (i := 0) (l' := #[tt,ff,ff,ff,ff,ff,ff,ff,ff,ff,ff,ff,ff]) rfl (by kernel_rfl) rfl (V.move rfl) rfl rfl ?_
    refine XQ.pv (i := 1) (l' := #[tt,tt,ff,ff,ff,ff,ff,ff,ff,ff,ff,ff,ff]) rfl (by kernel_rfl) rfl (V.move rfl) rfl rfl ?_
    refine XQ.pv (i := 2) (l' := #[tt,tt,tt,ff,ff,ff,ff,ff,ff,ff,ff,ff,ff]) rfl (by kernel_rfl) rfl (V.nilCheckP rfl) rfl rfl ?_
    refine XQ.pv (i := 3) (l' := #[tt,tt,tt,tt,ff,ff,ff,ff,ff,ff,ff,ff,ff]) rfl (by kernel_rfl) rfl (V.fieldAddr rfl fo_34_0) rfl rfl ?_
    refine XQ.pv (i := 4) (l' := #[tt,tt,tt,tt,tt,ff,ff,ff,ff,ff,ff,ff,ff]) rfl (by kernel_rfl) rfl (V.indexArr rfl rfl ar_32 (by omega)) rfl rfl ?_
    refine XQ.pv (i := 5) (l' := #[tt,tt,tt,tt,tt,tt,ff,ff,ff,ff,ff,ff,ff]) rfl (by kernel_rfl) rfl (V.fieldAddr rfl fo_31_2) rfl rfl ?_
    refine XQ.load (i := 6) (l' := #[tt,tt,tt,tt,tt,tt,tt,ff,ff,ff,ff,ff,ff]) (.cells _ _ _ _) [12] rfl (by kernel_rfl) rfl .here (V.load rfl inEnt (encM.ld_N_Links _ _ (by omega)) sc_3) rfl (by kernel_rfl) rfl ?_
    refine XQ.pv (i := 7) (l' := #[tt,tt,tt,tt,tt,tt,tt,tt,ff,ff,ff,ff,ff]) rfl (by kernel_rfl) rfl (V.add rfl rfl _ (IntWalk.i64_in _ (by omega))) rfl rfl ?_
    refine XQ.pv (i := 8) (l' := #[tt,tt,tt,tt,tt,tt,tt,tt,tt,ff,ff,ff,ff]) rfl (by kernel_rfl) rfl (V.nilCheckP rfl) rfl rfl ?_
    refine XQ.pv (i := 9) (l' := #[tt,tt,tt,tt,tt,tt,tt,tt,tt,tt,ff,ff,ff]) rfl (by kernel_rfl) rfl (V.fieldAddr rfl fo_34_0) rfl rfl ?_
    refine XQ.pv (i := 10) (l' := #[tt,tt,tt,tt,tt,tt,tt,tt,tt,tt,tt,ff,ff]) rfl (by kernel_rfl) rfl (V.indexArr rfl rfl ar_32 (by omega)) rfl rfl ?_
    refine XQ.pv (i := 11) (l' := #[tt,tt,tt,tt,tt,tt,tt,tt,tt,tt,tt,tt,ff]) rfl (by kernel_rfl) rfl (V.fieldAddr rfl fo_31_2) rfl rfl ?_
    refine XQ.store (i := 12) (l' := #[tt,tt,tt,tt,tt,tt,tt,tt,tt,tt,tt,tt,tt]) rfl (by kernel_rfl) rfl rfl rfl .here (encM.st_N_Links _ _ (by omega) _) rfl sz_3_1 (fun _ hw' => ⟨fun hs => (hs 12 (by first | (simp; done) | (simp; rfl)) rfl).elim, trivial⟩) ?_
    refine XQ.done (by kernel_rfl) ?_
    refine XE.next ?_
    refine XC.keep [] (Sub.nil _) ?_
    refine XC.sr ?_
    refine XO.as rfl rfl ?_
    refine XO.nk [(8, _)] (S1 rfl) ?_
    refine XC.ret ?_
    refine XE.ret1 rfl rfl (post_of .h3 rfl ?_)
    have e : s.linkE k n x = 0 := by unfold FF.linkE; rw [if_neg (by omega), if_neg (by omega), if_neg (by omega)]
    exact ⟨by rw [e], ({ t with links := fset t.links k (t.links k + 1) } : FC), by rw [links_of ht, hln]; unfold FF.link; rw [if_pos e]; rfl, hp, hc, rfl⟩
set_option maxRecDepth 10000 in
set_option maxHeartbeats 2000000 in
theorem r_Remove (b o : Nat) (s : FC) (hI : s.toFF.Sh) (n : Int) (x : ByteArray) (hL : s.findE n x = 0 → 1 ≤ s.links (s.findV n x)) : Spec Tryz.prog 34 [ptr b o 0, .int .i64 n, .string x]
    [.cells b o 321 (encM s), .fam fam40 (s.rowsN 9), .fam fam40 (s.rowsK 3)]
    (fun v H1 => v = .int .i64 (s.removeE n x) ∧ ∃ t : FC, t.toFF = s.remove n x ∧ t.rP = s.rP ∧ t.rC = s.rC ∧ H1 = [.cells b o 321 (encM t), .fam fam40 (FC.rowsN 9 t), .fam fam40 (FC.rowsK 3 t)]) := by
 refine Spec.intro Tryz.func34 rfl rfl ?_
 intro W
 refine XC.sr ?_
 refine XO.as rfl rfl ?_
 refine XO.nk [(0, _), (1, _), (2, _)] (S3 rfl rfl rfl) ?_
 refine XC.sr ?_
 refine XO.mv rfl rfl ?_
 refine XO.mv rfl rfl ?_
 refine XO.mv rfl rfl ?_
 refine XO.call rfl (r_Find _ _ _ hI _ _) .h3 cl_39 rfl ?_
 rintro _ _ ⟨rfl, rfl⟩
 refine XO.mv rfl rfl ?_
 refine XO.v (V.extract rfl rfl) rfl ?_
 refine XO.v (V.extract rfl rfl) rfl ?_
 refine XO.as rfl rfl ?_
 refine XO.as rfl rfl ?_
 refine XO.nk [(0, _), (1, _), (2, _), (7, _), (8, _)] (S5 rfl rfl rfl rfl rfl) ?_
 refine XC.seq ?_
 refine XC.sr ?_
 refine XO.mv rfl rfl ?_
 refine XO.v (V.cmp rfl rfl rfl) rfl ?_
 refine XO.nk [(0, _), (1, _), (2, _), (7, _), (8, _), (17, _)] (S6 rfl rfl rfl rfl rfl rfl) ?_
 refine XC.condP rfl (fun h1 => ?_) (fun h1 => ?_)
 ·
  refine XC.sr ?_
  refine XO.mv rfl rfl ?_
  refine XO.as rfl rfl ?_
  refine XO.nk [(6, _)] (S1 rfl) ?_
  refine XC.ret ?_
  refine XE.thenRet ?_
  refine XE.ret1 rfl rfl (post_of .h3 rfl ?_)
  have e : s.removeE n x = s.findE n x := by unfold FF.removeE; rw [if_pos (by omega)]
  exact ⟨by rw [e], s, by unfold FF.remove; rw [if_neg (by omega)], rfl, rfl, rfl⟩
 ·
  have hfn := FF.findE_nn s.toFF n x
  have f0 : s.findE n x = 0 := by omega
  obtain ⟨i1, i2, i3, k1, k2, hh⟩ := hI.kid f0
  have hnb := hI.num (s.findV n x) (by omega) (by omega)
  obtain ⟨_, hkr, hk8, _⟩ := hI.rise (s.findV n x) (by omega) (by omega)
  have hL1 := hL f0
  refine XC.skip ?_
  refine XE.next ?_
  refine XC.keep [(0, _), (1, _), (2, _), (7, _)] (S4 rfl rfl rfl rfl) ?_
  refine XC.seq ?_
  refine XC.sr ?_
  refine XO.mv rfl rfl ?_
  refine XO.mv rfl rfl ?_
  refine XO.v (V.nilCheckP rfl) rfl ?_
  refine XO.v (V.fieldAddr rfl fo_34_0) rfl ?_
  refine XO.v (V.indexArr rfl rfl ar_32 (by omega)) rfl ?_
  refine XO.v (V.fieldAddr rfl fo_31_0) rfl ?_
  refine XO.v (V.load rfl (inXM .here) (encM.ld_N_Kind _ _ (by omega)) sc_3) rfl ?_
  refine XO.v (V.cmp rfl rfl rfl) rfl ?_
  refine XO.mv rfl rfl ?_
  refine XO.splitP (d := 27) rfl (fun h2 => ?_) (fun h2 => ?_)
  ·
   refine XO.guardRun rfl rfl rfl ?_
   refine XO.mv rfl rfl ?_
   refine XO.guardRun rfl rfl rfl ?_
   refine XO.mv rfl rfl ?_
   refine XO.guardRun rfl rfl rfl ?_
   refine XO.v (V.nilCheckP rfl) rfl ?_
   refine XO.guardRun rfl rfl rfl ?_
   refine XO.v (V.fieldAddr rfl fo_34_0) rfl ?_
   refine XO.guardRun rfl rfl rfl ?_
   refine XO.v (V.indexArr rfl rfl ar_32 (by omega)) rfl ?_
   refine XO.guardRun rfl rfl rfl ?_
   refine XO.v (V.fieldAddr rfl fo_31_6) rfl ?_
   refine XO.guardRun rfl rfl rfl ?_
   refine XO.v (V.load rfl (inXM .here) (encM.ld_N_Names _ _ (by omega)) sc_28) rfl ?_
   refine XO.guardRun rfl rfl rfl ?_
   refine XO.v (V.lenSl rfl Tryz.underlying28) rfl ?_
   refine XO.guardRun rfl rfl rfl ?_
   refine XO.v (V.cmp rfl rfl rfl) rfl ?_
   refine XO.guardRun rfl rfl rfl ?_
   refine XO.mv rfl rfl ?_
   refine XO.splitP (d := 37) rfl (fun h3 => ?_) (fun h3 => ?_)
   ·
    refine XO.guardSkip rfl rfl rfl rfl rfl ?_
    refine XO.guardSkip rfl rfl rfl rfl rfl ?_
    refine XO.guardSkip rfl rfl rfl rfl rfl ?_
    refine XO.guardSkip rfl rfl rfl rfl rfl ?_
    refine XO.guardSkip rfl rfl rfl rfl rfl ?_
    refine XO.guardSkip rfl rfl rfl rfl rfl ?_
    refine XO.guardSkip rfl rfl rfl rfl rfl ?_
    refine XO.guardSkip rfl rfl rfl rfl rfl ?_
    refine XO.guardRun rfl rfl rfl ?_
    refine XO.v (V.pick rfl rfl rfl rfl) rfl ?_
    refine XO.v (V.pick rfl rfl rfl rfl) rfl ?_
    refine XO.nk [(0, _), (1, _), (2, _), (7, _), (47, _)] (S5 rfl rfl rfl rfl rfl) ?_
    refine XC.condT rfl rfl ?_
    refine XC.sr ?_
    refine XO.as rfl rfl ?_
    refine XO.nk [(6, _)] (S1 rfl) ?_
    refine XC.ret ?_
    refine XE.thenRet ?_
    refine XE.ret1 rfl rfl (post_of .h3 rfl ?_)
    have e : s.removeE n x = 5 := by unfold FF.removeE; rw [if_neg (by omega), if_pos (by unfold FF.busy; exact ⟨by assumption, by omega⟩)]
    exact ⟨by rw [e], s, by unfold FF.remove; rw [if_neg (by omega)], rfl, rfl, rfl⟩
   ·
    refine XO.guardRun rfl rfl rfl ?_
    refine XO.mv rfl rfl ?_
    refine XO.guardRun rfl rfl rfl ?_
    refine XO.mv rfl rfl ?_
    refine XO.guardRun rfl rfl rfl ?_
    refine XO.v (V.nilCheckP rfl) rfl ?_
    refine XO.guardRun rfl rfl rfl ?_
    refine XO.v (V.fieldAddr rfl fo_34_0) rfl ?_
    refine XO.guardRun rfl rfl rfl ?_
    refine XO.v (V.indexArr rfl rfl ar_32 (by omega)) rfl ?_
    refine XO.guardRun rfl rfl rfl ?_
    refine XO.v (V.fieldAddr rfl fo_31_3) rfl ?_
    refine XO.guardRun rfl rfl rfl ?_
    refine XO.v (V.load rfl (inXM .here) (encM.ld_N_Held _ _ (by omega)) sc_3) rfl ?_
    refine XO.guardRun rfl rfl rfl ?_
    refine XO.v (V.cmp rfl rfl rfl) rfl ?_
    refine XO.guardRun rfl rfl rfl ?_
    refine XO.v (V.pick rfl rfl rfl rfl) rfl ?_
    refine XO.v (V.pick rfl rfl rfl rfl) rfl ?_
    refine XO.nk [(0, _), (1, _), (2, _), (7, _), (47, _)] (S5 rfl rfl rfl rfl rfl) ?_
    refine XC.condP rfl (fun h4 => ?_) (fun h4 => ?_)
    ·
     refine XC.sr ?_
     refine XO.as rfl rfl ?_
     refine XO.nk [(6, _)] (S1 rfl) ?_
     refine XC.ret ?_
     refine XE.thenRet ?_
     refine XE.ret1 rfl rfl (post_of .h3 rfl ?_)
     have e : s.removeE n x = 5 := by unfold FF.removeE; rw [if_neg (by omega), if_pos (by unfold FF.busy; exact ⟨by assumption, by omega⟩)]
     exact ⟨by rw [e], s, by unfold FF.remove; rw [if_neg (by omega)], rfl, rfl, rfl⟩
    ·
     refine XC.skip ?_
     refine XE.next ?_
     refine XC.keep [(0, _), (1, _), (2, _), (7, _)] (S4 rfl rfl rfl rfl) ?_
     refine XC.sr ?_
     refine XO.mv rfl rfl ?_
     refine XO.mv rfl rfl ?_
     refine XO.mv rfl rfl ?_
     refine XO.call rfl (r_cut _ _ _ hI _ _ (by omega) (by assumption)) .h3 cl_78 rfl ?_
     rintro _ _ ⟨rfl, t, ht, hp, hc, rfl⟩
     have hln : t.links (s.findV n x) = s.links (s.findV n x) := congrFun (congrArg FF.links ht) _
     have hlh : t.held (s.findV n x) = s.held (s.findV n x) := congrFun (congrArg FF.held ht) _
     refine XO.nk [(0, _), (7, _)] (S2 rfl rfl) ?_
     refine XC.seq ?_
     refine XC.regionQ mixed (f := 13) (l := #[false, false, false, false, false, false, false, false, false, false, false, false, false]) rfl rfl XM.drawn' ?_
     refine XQ.pv (i := 0) (l' := #[tt,ff,ff,ff,ff,ff,ff,ff,ff,ff,ff,ff,ff]) rfl (by kernel_rfl) rfl (V.move rfl) rfl rfl ?_
     refine XQ.pv (i := 1) (l' := #[tt,tt,ff,ff,ff,ff,ff,ff,ff,ff,ff,ff,ff]) rfl (by kernel_rfl) rfl (V.move rfl) rfl rfl ?_
     refine XQ.pv (i := 2) (l' := #[tt,tt,tt,ff,ff,ff,ff,ff,ff,ff,ff,ff,ff]) rfl (by kernel_rfl) rfl (V.nilCheckP rfl) rfl rfl ?_
     refine XQ.pv (i := 3) (l' := #[tt,tt,tt,tt,ff,ff,ff,ff,ff,ff,ff,ff,ff]) rfl (by kernel_rfl) rfl (V.fieldAddr rfl fo_34_0) rfl rfl ?_
     refine XQ.pv (i := 4) (l' := #[tt,tt,tt,tt,tt,ff,ff,ff,ff,ff,ff,ff,ff]) rfl (by kernel_rfl) rfl (V.indexArr rfl rfl ar_32 (by omega)) rfl rfl ?_
     refine XQ.pv (i := 5) (l' := #[tt,tt,tt,tt,tt,tt,ff,ff,ff,ff,ff,ff,ff]) rfl (by kernel_rfl) rfl (V.fieldAddr rfl fo_31_2) rfl rfl ?_
     refine XQ.load (i := 6) (l' := #[tt,tt,tt,tt,tt,tt,tt,ff,ff,ff,ff,ff,ff]) (.cells _ _ _ _) [12] rfl (by kernel_rfl) rfl .here (V.load rfl inEnt (encM.ld_N_Links _ _ (by omega)) sc_3) rfl (by kernel_rfl) rfl ?_
     refine XQ.pv (i := 7) (l' := #[tt,tt,tt,tt,tt,tt,tt,tt,ff,ff,ff,ff,ff]) rfl (by kernel_rfl) rfl (V.sub rfl rfl _ (IntWalk.i64_in _ (by omega))) rfl rfl ?_
     refine XQ.pv (i := 8) (l' := #[tt,tt,tt,tt,tt,tt,tt,tt,tt,ff,ff,ff,ff]) rfl (by kernel_rfl) rfl (V.nilCheckP rfl) rfl rfl ?_
     refine XQ.pv (i := 9) (l' := #[tt,tt,tt,tt,tt,tt,tt,tt,tt,tt,ff,ff,ff]) rfl (by kernel_rfl) rfl (V.fieldAddr rfl fo_34_0) rfl rfl ?_
     refine XQ.pv (i := 10) (l' := #[tt,tt,tt,tt,tt,tt,tt,tt,tt,tt,tt,ff,ff]) rfl (by kernel_rfl) rfl (V.indexArr rfl rfl ar_32 (by omega)) rfl rfl ?_
     refine XQ.pv (i := 11) (l' := #[tt,tt,tt,tt,tt,tt,tt,tt,tt,tt,tt,tt,ff]) rfl (by kernel_rfl) rfl (V.fieldAddr rfl fo_31_2) rfl rfl ?_
     refine XQ.store (i := 12) (l' := #[tt,tt,tt,tt,tt,tt,tt,tt,tt,tt,tt,tt,tt]) rfl (by kernel_rfl) rfl rfl rfl .here (encM.st_N_Links _ _ (by omega) _) rfl sz_3_1 (fun _ hw' => ⟨fun hs => (hs 12 (by first | (simp; done) | (simp; rfl)) rfl).elim, trivial⟩) ?_
     refine XQ.done (by kernel_rfl) ?_
     refine XE.next ?_
     refine XC.keep [(0, _), (7, _)] (S2 rfl rfl) ?_
     refine XC.sr ?_
     refine XO.mv rfl rfl ?_
     refine XO.mv rfl rfl ?_
     refine XO.call rfl (r_gone _ _ ({ t with links := fset t.links (s.findV n x) (t.links (s.findV n x) - 1) } : FC) (s.findV n x) (by omega) (by show 0 ≤ fset t.links (s.findV n x) (t.links (s.findV n x) - 1) (s.findV n x) ∧ fset t.links (s.findV n x) (t.links (s.findV n x) - 1) (s.findV n x) ≤ 1000000 ∧ 0 ≤ t.held (s.findV n x) ∧ t.held (s.findV n x) ≤ 1000000; rw [fset_eq]; omega)) .h3 cl_72 rfl ?_
     rintro _ _ ⟨rfl, t2, ht2, hp2, hc2, rfl⟩
     refine XO.nk [] (Sub.nil _) ?_
     refine XC.sr ?_
     refine XO.as rfl rfl ?_
     refine XO.nk [(6, _)] (S1 rfl) ?_
     refine XC.ret ?_
     refine XE.ret1 rfl rfl (post_of .h3 rfl ?_)
     have e : s.removeE n x = 0 := by unfold FF.removeE; rw [if_neg (by omega), if_neg (by unfold FF.busy; omega)]
     exact ⟨by rw [e], t2, by rw [ht2, links_of ht, hln]; unfold FF.remove; rw [if_pos e]; rfl, hp2.trans hp, hc2.trans hc, rfl⟩
  ·
   refine XO.guardSkip rfl rfl rfl rfl rfl ?_
   refine XO.guardSkip rfl rfl rfl rfl rfl ?_
   refine XO.guardSkip rfl rfl rfl rfl rfl ?_
   refine XO.guardSkip rfl rfl rfl rfl rfl ?_
   refine XO.guardSkip rfl rfl rfl rfl rfl ?_
   refine XO.guardSkip rfl rfl rfl rfl rfl ?_
   refine XO.guardSkip rfl rfl rfl rfl rfl ?_
   refine XO.guardSkip rfl rfl rfl rfl rfl ?_
   refine XO.guardSkip rfl rfl rfl rfl rfl ?_
   refine XO.guardSkip rfl rfl rfl rfl rfl ?_
   refine XO.guardSkipU rfl rfl rfl rfl rfl ?_
   refine XO.guardSkipU rfl rfl rfl rfl rfl ?_
   refine XO.guardSkipU rfl rfl rfl rfl rfl ?_
   refine XO.guardSkipU rfl rfl rfl rfl rfl ?_
   refine XO.guardSkipU rfl rfl rfl rfl rfl ?_
   refine XO.guardSkipU rfl rfl rfl rfl rfl ?_
   refine XO.guardSkipU rfl rfl rfl rfl rfl ?_
   refine XO.guardSkipU rfl rfl rfl rfl rfl ?_
   refine XO.guardSkip rfl rfl rfl rfl rfl ?_
   refine XO.v (V.pick rfl rfl rfl rfl) rfl ?_
   refine XO.nk [(0, _), (1, _), (2, _), (7, _), (47, _)] (S5 rfl rfl rfl rfl rfl) ?_
   refine XC.condF rfl rfl ?_
   refine XC.skip ?_
   refine XE.next ?_
   refine XC.keep [(0, _), (1, _), (2, _), (7, _)] (S4 rfl rfl rfl rfl) ?_
   refine XC.sr ?_
   refine XO.mv rfl rfl ?_
   refine XO.mv rfl rfl ?_
   refine XO.mv rfl rfl ?_
   refine XO.call rfl (r_cut _ _ _ hI _ _ (by omega) (by assumption)) .h3 cl_78 rfl ?_
   rintro _ _ ⟨rfl, t, ht, hp, hc, rfl⟩
   have hln : t.links (s.findV n x) = s.links (s.findV n x) := congrFun (congrArg FF.links ht) _
   have hlh : t.held (s.findV n x) = s.held (s.findV n x) := congrFun (congrArg FF.held ht) _
   refine XO.nk [(0, _), (7, _)] (S2 rfl rfl) ?_
   refine XC.seq ?_
   refine XC.regionQ mixed (f := 13) (l := #[false, false, false, false, false, false, false, false, false, false, false, false, false]) rfl rfl XM.drawn' ?_
   refine XQ.pv (i := 0) (l' := #[tt,ff,ff,ff,ff,ff,ff,ff,ff,ff,ff,ff,ff]) rfl (by kernel_rfl) rfl (V.move rfl) rfl rfl ?_
   refine XQ.pv (i := 1) (l' := #[tt,tt,ff,ff,ff,ff,ff,ff,ff,ff,ff,ff,ff]) rfl (by kernel_rfl) rfl (V.move rfl) rfl rfl ?_
   refine XQ.pv (i := 2) (l' := #[tt,tt,tt,ff,ff,ff,ff,ff,ff,ff,ff,ff,ff]) rfl (by kernel_rfl) rfl (V.nilCheckP rfl) rfl rfl ?_
   refine XQ.pv (i := 3) (l' := #[tt,tt,tt,tt,ff,ff,ff,ff,ff,ff,ff,ff,ff]) rfl (by kernel_rfl) rfl (V.fieldAddr rfl fo_34_0) rfl rfl ?_
   refine XQ.pv (i := 4) (l' := #[tt,tt,tt,tt,tt,ff,ff,ff,ff,ff,ff,ff,ff]) rfl (by kernel_rfl) rfl (V.indexArr rfl rfl ar_32 (by omega)) rfl rfl ?_
   refine XQ.pv (i := 5) (l' := #[tt,tt,tt,tt,tt,tt,ff,ff,ff,ff,ff,ff,ff]) rfl (by kernel_rfl) rfl (V.fieldAddr rfl fo_31_2) rfl rfl ?_
   refine XQ.load (i := 6) (l' := #[tt,tt,tt,tt,tt,tt,tt,ff,ff,ff,ff,ff,ff]) (.cells _ _ _ _) [12] rfl (by kernel_rfl) rfl .here (V.load rfl inEnt (encM.ld_N_Links _ _ (by omega)) sc_3) rfl (by kernel_rfl) rfl ?_
   refine XQ.pv (i := 7) (l' := #[tt,tt,tt,tt,tt,tt,tt,tt,ff,ff,ff,ff,ff]) rfl (by kernel_rfl) rfl (V.sub rfl rfl _ (IntWalk.i64_in _ (by omega))) rfl rfl ?_
   refine XQ.pv (i := 8) (l' := #[tt,tt,tt,tt,tt,tt,tt,tt,tt,ff,ff,ff,ff]) rfl (by kernel_rfl) rfl (V.nilCheckP rfl) rfl rfl ?_
   refine XQ.pv (i := 9) (l' := #[tt,tt,tt,tt,tt,tt,tt,tt,tt,tt,ff,ff,ff]) rfl (by kernel_rfl) rfl (V.fieldAddr rfl fo_34_0) rfl rfl ?_
   refine XQ.pv (i := 10) (l' := #[tt,tt,tt,tt,tt,tt,tt,tt,tt,tt,tt,ff,ff]) rfl (by kernel_rfl) rfl (V.indexArr rfl rfl ar_32 (by omega)) rfl rfl ?_
   refine XQ.pv (i := 11) (l' := #[tt,tt,tt,tt,tt,tt,tt,tt,tt,tt,tt,tt,ff]) rfl (by kernel_rfl) rfl (V.fieldAddr rfl fo_31_2) rfl rfl ?_
   refine XQ.store (i := 12) (l' := #[tt,tt,tt,tt,tt,tt,tt,tt,tt,tt,tt,tt,tt]) rfl (by kernel_rfl) rfl rfl rfl .here (encM.st_N_Links _ _ (by omega) _) rfl sz_3_1 (fun _ hw' => ⟨fun hs => (hs 12 (by first | (simp; done) | (simp; rfl)) rfl).elim, trivial⟩) ?_
   refine XQ.done (by kernel_rfl) ?_
   refine XE.next ?_
   refine XC.keep [(0, _), (7, _)] (S2 rfl rfl) ?_
   refine XC.sr ?_
   refine XO.mv rfl rfl ?_
   refine XO.mv rfl rfl ?_
   refine XO.call rfl (r_gone _ _ ({ t with links := fset t.links (s.findV n x) (t.links (s.findV n x) - 1) } : FC) (s.findV n x) (by omega) (by show 0 ≤ fset t.links (s.findV n x) (t.links (s.findV n x) - 1) (s.findV n x) ∧ fset t.links (s.findV n x) (t.links (s.findV n x) - 1) (s.findV n x) ≤ 1000000 ∧ 0 ≤ t.held (s.findV n x) ∧ t.held (s.findV n x) ≤ 1000000; rw [fset_eq]; omega)) .h3 cl_72 rfl ?_
   rintro _ _ ⟨rfl, t2, ht2, hp2, hc2, rfl⟩
   refine XO.nk [] (Sub.nil _) ?_
   refine XC.sr ?_
   refine XO.as rfl rfl ?_
   refine XO.nk [(6, _)] (S1 rfl) ?_
   refine XC.ret ?_
   refine XE.ret1 rfl rfl (post_of .h3 rfl ?_)
   have e : s.removeE n x = 0 := by unfold FF.removeE; rw [if_neg (by omega), if_neg (by unfold FF.busy; omega)]
   exact ⟨by rw [e], t2, by rw [ht2, links_of ht, hln]; unfold FF.remove; rw [if_pos e]; rfl, hp2.trans hp, hc2.trans hc, rfl⟩
set_option maxRecDepth 10000 in
set_option maxHeartbeats 4000000 in
theorem r_Move (b o : Nat) (s : FC) (hI : s.toFF.Sh) (d : Int → Nat) (hc : ∀ k, s.toFF.Ch d k) (n : Int) (x : ByteArray) (to : Int) (y : ByteArray) (hy : y.size ≤ 9223372036854775807) : Spec Tryz.prog 36 [ptr b o 0, .int .i64 n, .string x, .int .i64 to, .string y]
    [.cells b o 321 (encM s), .fam fam40 (s.rowsN 9), .fam fam40 (s.rowsK 3)]
    (fun v H1 => v = .int .i64 (s.moveE d n x to y) ∧ ∃ t : FC, t.toFF = s.move d n x to y ∧ t.rP = s.rP ∧ t.rC = s.rC ∧ H1 = [.cells b o 321 (encM t), .fam fam40 (FC.rowsN 9 t), .fam fam40 (FC.rowsK 3 t)]) := by
 have hfn := FF.findE_nn s.toFF n x
 have htn := FF.isE_nn s.toFF to 2
 refine Spec.intro Tryz.func36 rfl rfl ?_
 intro W
 refine XC.sr ?_
 refine XO.as rfl rfl ?_
 refine XO.nk [(0, _), (1, _), (2, _), (3, _), (4, _)] (S5 rfl rfl rfl rfl rfl) ?_
 refine XC.sr ?_
 refine XO.mv rfl rfl ?_
 refine XO.mv rfl rfl ?_
 refine XO.mv rfl rfl ?_
 refine XO.call rfl (r_Find _ _ _ hI _ _) .h3 cl_39 rfl ?_
 rintro _ _ ⟨rfl, rfl⟩
 refine XO.mv rfl rfl ?_
 refine XO.v (V.extract rfl rfl) rfl ?_
 refine XO.v (V.extract rfl rfl) rfl ?_
 refine XO.as rfl rfl ?_
 refine XO.as rfl rfl ?_
 refine XO.nk [(0, _), (1, _), (2, _), (3, _), (4, _), (11, _), (12, _)] (S7 rfl rfl rfl rfl rfl rfl rfl) ?_
 refine XC.seq ?_
 refine XC.sr ?_
 refine XO.mv rfl rfl ?_
 refine XO.v (V.cmp rfl rfl rfl) rfl ?_
 refine XO.nk [(0, _), (1, _), (2, _), (3, _), (4, _), (11, _), (12, _), (24, _)] (S8 rfl rfl rfl rfl rfl rfl rfl rfl) ?_
 refine XC.condP rfl (fun h1 => ?_) (fun h1 => ?_)
 ·
  refine XC.sr ?_
  refine XO.mv rfl rfl ?_
  refine XO.as rfl rfl ?_
  refine XO.nk [(10, _)] (S1 rfl) ?_
  refine XC.ret ?_
  refine XE.thenRet ?_
  refine XE.ret1 rfl rfl (post_of .h3 rfl ?_)
  have e0 : s.moveE0 d n x to = s.findE n x := by unfold FF.moveE0; rw [if_pos (by omega)]
  have e : s.moveE d n x to y = s.moveE0 d n x to := by unfold FF.moveE; rw [if_pos (by omega)]
  exact ⟨by rw [e, e0], s, by unfold FF.move; rw [if_pos (by omega)], rfl, rfl, rfl⟩
 ·
  have f0 : s.findE n x = 0 := by omega
  obtain ⟨i1, i2, i3, k1, k2, hh⟩ := hI.kid f0
  refine XC.skip ?_
  refine XE.next ?_
  refine XC.keep [(0, _), (1, _), (2, _), (3, _), (4, _), (11, _)] (S6 rfl rfl rfl rfl rfl rfl) ?_
  refine XC.seq ?_
  refine XC.sr ?_
  refine XO.mv rfl rfl ?_
  refine XO.mv rfl rfl ?_
  refine XO.call rfl (r_Is _ _ _ _ _) .h1 cl_65 rfl ?_
  rintro _ _ ⟨rfl, rfl⟩
  refine XO.as rfl rfl ?_
  refine XO.nk [(0, _), (1, _), (2, _), (3, _), (4, _), (11, _), (13, _)] (S7 rfl rfl rfl rfl rfl rfl rfl) ?_
  refine XC.sr ?_
  refine XO.mv rfl rfl ?_
  refine XO.v (V.cmp rfl rfl rfl) rfl ?_
  refine XO.nk [(0, _), (1, _), (2, _), (3, _), (4, _), (11, _), (13, _), (30, _)] (S8 rfl rfl rfl rfl rfl rfl rfl rfl) ?_
  refine XC.condP rfl (fun h2 => ?_) (fun h2 => ?_)
  ·
   refine XC.sr ?_
   refine XO.mv rfl rfl ?_
   refine XO.as rfl rfl ?_
   refine XO.nk [(10, _)] (S1 rfl) ?_
   refine XC.ret ?_
   refine XE.thenRet ?_
   refine XE.ret1 rfl rfl (post_of .h3 rfl ?_)
   have e0 : s.moveE0 d n x to = s.isE to 2 := by unfold FF.moveE0; rw [if_neg (by omega), if_pos (by omega)]
   have e : s.moveE d n x to y = s.moveE0 d n x to := by unfold FF.moveE; rw [if_pos (by omega)]
   exact ⟨by rw [e, e0], s, by unfold FF.move; rw [if_pos (by omega)], rfl, rfl, rfl⟩
  ·
   have t0 : s.isE to 2 = 0 := by omega
   obtain ⟨t1, t2, _, t3⟩ := FF.isE_k0 t0
   have t3 := t3 (by omega)
   refine XC.skip ?_
   refine XE.next ?_
   refine XC.keep [(0, _), (1, _), (2, _), (3, _), (4, _), (11, _)] (S6 rfl rfl rfl rfl rfl rfl) ?_
   refine XC.seq ?_
   refine XC.seq ?_
   refine XC.regionQ mixed (f := 15) (l := #[false, false, false, false, false, false, false, false, false, false, false, false, false, false, false]) rfl rfl XM.drawn' ?_
   refine XQ.pv (i := 0) (l' := #[tt,ff,ff,ff,ff,ff,ff,ff,ff,ff,ff,ff,ff,ff,ff]) rfl (by kernel_rfl) rfl (V.move rfl) rfl rfl ?_
   refine XQ.pv (i := 1) (l' := #[tt,tt,ff,ff,ff,ff,ff,ff,ff,ff,ff,ff,ff,ff,ff]) rfl (by kernel_rfl) rfl (V.move rfl) rfl rfl ?_
   refine XQ.pv (i := 2) (l' := #[tt,tt,tt,ff,ff,ff,ff,ff,ff,ff,ff,ff,ff,ff,ff]) rfl (by kernel_rfl) rfl (V.nilCheckP rfl) rfl rfl ?_
   refine XQ.pv (i := 3) (l' := #[tt,tt,tt,tt,ff,ff,ff,ff,ff,ff,ff,ff,ff,ff,ff]) rfl (by kernel_rfl) rfl (V.fieldAddr rfl fo_34_0) rfl rfl ?_
   refine XQ.pv (i := 4) (l' := #[tt,tt,tt,tt,tt,ff,ff,ff,ff,ff,ff,ff,ff,ff,ff]) rfl (by kernel_rfl) rfl (V.indexArr rfl rfl ar_32 (by omega)) rfl rfl ?_
   refine XQ.pv (i := 5) (l' := #[tt,tt,tt,tt,tt,tt,ff,ff,ff,ff,ff,ff,ff,ff,ff]) rfl (by kernel_rfl) rfl (V.fieldAddr rfl fo_31_1) rfl rfl ?_
   refine XQ.load (i := 6) (l' := #[tt,tt,tt,tt,tt,tt,tt,ff,ff,ff,ff,ff,ff,ff,ff]) (.cells _ _ _ _) [] rfl (by kernel_rfl) rfl .here (V.load rfl inEnt (encM.ld_N_Tree _ _ (by omega)) sc_3) rfl (by kernel_rfl) rfl ?_
   refine XQ.pv (i := 7) (l' := #[tt,tt,tt,tt,tt,tt,tt,tt,ff,ff,ff,ff,ff,ff,ff]) rfl (by kernel_rfl) rfl (V.move rfl) rfl rfl ?_
   refine XQ.pv (i := 8) (l' := #[tt,tt,tt,tt,tt,tt,tt,tt,tt,ff,ff,ff,ff,ff,ff]) rfl (by kernel_rfl) rfl (V.move rfl) rfl rfl ?_
   refine XQ.pv (i := 9) (l' := #[tt,tt,tt,tt,tt,tt,tt,tt,tt,tt,ff,ff,ff,ff,ff]) rfl (by kernel_rfl) rfl (V.nilCheckP rfl) rfl rfl ?_
   refine XQ.pv (i := 10) (l' := #[tt,tt,tt,tt,tt,tt,tt,tt,tt,tt,tt,ff,ff,ff,ff]) rfl (by kernel_rfl) rfl (V.fieldAddr rfl fo_34_0) rfl rfl ?_
   refine XQ.pv (i := 11) (l' := #[tt,tt,tt,tt,tt,tt,tt,tt,tt,tt,tt,tt,ff,ff,ff]) rfl (by kernel_rfl) rfl (V.indexArr rfl rfl ar_32 (by omega)) rfl rfl ?_
   refine XQ.pv (i := 12) (l' := #[tt,tt,tt,tt,tt,tt,tt,tt,tt,tt,tt,tt,tt,ff,ff]) rfl (by kernel_rfl) rfl (V.fieldAddr rfl fo_31_1) rfl rfl ?_
   refine XQ.load (i := 13) (l' := #[tt,tt,tt,tt,tt,tt,tt,tt,tt,tt,tt,tt,tt,tt,ff]) (.cells _ _ _ _) [] rfl (by kernel_rfl) rfl .here (V.load rfl inEnt (encM.ld_N_Tree _ _ (by omega)) sc_3) rfl (by kernel_rfl) rfl ?_
   refine XQ.pv (i := 14) (l' := #[tt,tt,tt,tt,tt,tt,tt,tt,tt,tt,tt,tt,tt,tt,tt]) rfl (by kernel_rfl) rfl (V.cmp rfl rfl rfl) rfl rfl ?_
   refine XQ.done (by kernel_rfl) ?_
   refine XE.next ?_
   refine XC.keep [(0, _), (1, _), (2, _), (3, _), (4, _), (11, _), (46, _)] (S7 rfl rfl rfl rfl rfl rfl rfl) ?_
   refine XC.condP rfl (fun h3 => ?_) (fun h3 => ?_)
   ·
    refine XC.sr ?_
    refine XO.as rfl rfl ?_
    refine XO.nk [(10, _)] (S1 rfl) ?_
    refine XC.ret ?_
    refine XE.thenRet ?_
    refine XE.ret1 rfl rfl (post_of .h3 rfl ?_)
    have e0 : s.moveE0 d n x to = 11 := by unfold FF.moveE0; rw [if_neg (by omega), if_neg (by omega), if_pos (by assumption)]
    have e : s.moveE d n x to y = s.moveE0 d n x to := by unfold FF.moveE; rw [if_pos (by omega)]
    exact ⟨by rw [e, e0], s, by unfold FF.move; rw [if_pos (by omega)], rfl, rfl, rfl⟩
   ·
    refine XC.skip ?_
    refine XE.next ?_
    refine XC.keep [(0, _), (1, _), (2, _), (3, _), (4, _), (11, _)] (S6 rfl rfl rfl rfl rfl rfl) ?_
    refine XC.sr ?_
    refine XO.mv rfl rfl ?_
    refine XO.as rfl rfl ?_
    refine XO.nk [(0, _), (1, _), (2, _), (3, _), (4, _), (11, _), (14, _)] (S7 rfl rfl rfl rfl rfl rfl rfl) ?_
    refine XC.seq ?_
    refine XC.block ?_
    refine XC.loop (σ := Int) (fun i => d i) (fun i => (0 ≤ i ∧ i < 40 ∧ s.kind i = 2) ∧ FF.und d s.toFF to (s.findV n x) = FF.und d s.toFF i (s.findV n x)) (fun i => [(14, .int .i64 i), (0, ptr b o 0), (1, .int .i64 n), (2, .string x), (3, .int .i64 to), (4, .string y), (11, .int .i64 (s.findV n x))]) (fun i => XM W (foot [.cells b o 321 (encM s), .fam fam40 (s.rowsN 9), .fam fam40 (s.rowsK 3)]) [.cells b o 321 (encM s), .fam fam40 (s.rowsN 9), .fam fam40 (s.rowsK 3)]) (to) ?_ (S7 rfl rfl rfl rfl rfl rfl rfl) (fun _ hw => XM.pick .h3 hw) ?_
    ·
     exact ⟨⟨t1, t2, t3⟩, rfl⟩
    intro i hi
    obtain ⟨hi, he⟩ := hi
    refine XC.seq ?_
    refine XC.sr ?_
    refine XO.mv rfl rfl ?_
    refine XO.mv rfl rfl ?_
    refine XO.v (V.nilCheckP rfl) rfl ?_
    refine XO.v (V.fieldAddr rfl fo_34_0) rfl ?_
    refine XO.v (V.indexArr rfl rfl ar_32 (by omega)) rfl ?_
    refine XO.v (V.fieldAddr rfl fo_31_0) rfl ?_
    refine XO.v (V.load rfl (inXM .here) (encM.ld_N_Kind _ _ (by omega)) sc_3) rfl ?_
    refine XO.v (V.cmp rfl rfl rfl) rfl ?_
    refine XO.nk [(0, _), (1, _), (2, _), (3, _), (4, _), (11, _), (14, _), (55, _)] (S8 rfl rfl rfl rfl rfl rfl rfl rfl) ?_
    refine XC.condP rfl (fun h4 => ?_) (fun h4 => ?_)
    ·
     refine XC.skip ?_
     refine XE.next ?_
     refine XC.keep [(0, _), (1, _), (2, _), (3, _), (4, _), (11, _), (14, _)] (S7 rfl rfl rfl rfl rfl rfl rfl) ?_
     refine XC.block ?_
     refine XC.seq ?_
     refine XC.sr ?_
     refine XO.mv rfl rfl ?_
     refine XO.mv rfl rfl ?_
     refine XO.v (V.cmp rfl rfl rfl) rfl ?_
     refine XO.nk [(0, _), (1, _), (2, _), (3, _), (4, _), (11, _), (14, _), (58, _)] (S8 rfl rfl rfl rfl rfl rfl rfl rfl) ?_
     refine XC.condP rfl (fun h5 => ?_) (fun h5 => ?_)
     ·
      have hun : FF.und d s.toFF to (s.findV n x) = true := by rw [he, show i = s.findV n x by assumption, FF.und_self]
      refine XC.sr ?_
      refine XO.as rfl rfl ?_
      refine XO.nk [(10, _)] (S1 rfl) ?_
      refine XC.ret ?_
      refine XE.thenRet ?_
      refine XE.blockRet ?_
      refine XE.thenRet ?_
      refine XE.blockRet ?_
      refine XE.thenRet ?_
      refine XE.ret1 rfl rfl (post_of .h3 rfl ?_)
      have e0 : s.moveE0 d n x to = 5 := by unfold FF.moveE0; rw [if_neg (by omega), if_neg (by omega), if_neg (by omega), if_pos ⟨by assumption, hun⟩]
      have e : s.moveE d n x to y = s.moveE0 d n x to := by unfold FF.moveE; rw [if_pos (by omega)]
      exact ⟨by rw [e, e0], s, by unfold FF.move; rw [if_pos (by omega)], rfl, rfl, rfl⟩
     ·
      refine XC.skip ?_
      refine XE.next ?_
      refine XC.keep [(0, _), (1, _), (2, _), (3, _), (4, _), (11, _), (14, _)] (S7 rfl rfl rfl rfl rfl rfl rfl) ?_
      refine XC.seq ?_
      refine XC.sr ?_
      refine XO.mv rfl rfl ?_
      refine XO.mv rfl rfl ?_
      refine XO.v (V.nilCheckP rfl) rfl ?_
      refine XO.v (V.fieldAddr rfl fo_34_0) rfl ?_
      refine XO.v (V.indexArr rfl rfl ar_32 (by omega)) rfl ?_
      refine XO.v (V.fieldAddr rfl fo_31_4) rfl ?_
      refine XO.v (V.load rfl (inXM .here) (encM.ld_N_Up _ _ (by omega)) sc_3) rfl ?_
      refine XO.mv rfl rfl ?_
      refine XO.v (V.cmp rfl rfl rfl) rfl ?_
      refine XO.nk [(0, _), (1, _), (2, _), (3, _), (4, _), (11, _), (14, _), (67, _)] (S8 rfl rfl rfl rfl rfl rfl rfl rfl) ?_
      refine XC.condP rfl (fun h6 => ?_) (fun h6 => ?_)
      ·
       have hst := FF.und_step (hc (s.findV n x)) (by omega) (by omega) hi.2.2 (show i ≠ s.findV n x by assumption)
       rw [if_pos (by assumption)] at hst
       have hun : FF.und d s.toFF to (s.findV n x) = false := he.trans hst
       refine XC.exit ?_
       refine XE.thenExit ?_
       refine XE.blockOther rfl ?_
       refine XE.thenExit ?_
       refine XE.blockExit ?_
       refine XE.next ?_
       refine XC.keep [(0, _), (1, _), (2, _), (3, _), (4, _), (11, _)] (S6 rfl rfl rfl rfl rfl rfl) ?_
       refine XC.sr ?_
       refine XO.mv rfl rfl ?_
       refine XO.mv rfl rfl ?_
       refine XO.mv rfl rfl ?_
       refine XO.call rfl (r_cut _ _ _ hI _ _ (by omega) (by assumption)) .h3 cl_78 rfl ?_
       rintro _ _ ⟨rfl, t, ht, hp, hc0, rfl⟩
       have hI2 : t.toFF.Sh := by rw [ht]; exact hI.cutF i1 i2 hh
       refine XO.nk [(0, _), (1, _), (2, _), (3, _), (4, _), (11, _)] (S6 rfl rfl rfl rfl rfl rfl) ?_
       refine XC.seq ?_
       refine XC.sr ?_
       refine XO.mv rfl rfl ?_
       refine XO.mv rfl rfl ?_
       refine XO.mv rfl rfl ?_
       refine XO.call rfl (r_Room _ _ _ hI2 _ _ (by assumption)) .h3 cl_73 rfl ?_
       rintro _ _ ⟨rfl, rfl⟩
       refine XO.as rfl rfl ?_
       refine XO.nk [(0, _), (1, _), (2, _), (3, _), (4, _), (11, _), (15, _)] (S7 rfl rfl rfl rfl rfl rfl rfl) ?_
       refine XC.sr ?_
       refine XO.mv rfl rfl ?_
       refine XO.v (V.cmp rfl rfl rfl) rfl ?_
       refine XO.nk [(0, _), (1, _), (2, _), (3, _), (4, _), (11, _), (15, _), (84, _)] (S8 rfl rfl rfl rfl rfl rfl rfl rfl) ?_
       refine XC.condP rfl (fun h7 => ?_) (fun h7 => ?_)
       ·
        have hrn := FF.roomE_nn (s.cutF n x) to y
        have hm : (s.cutF n x).roomE to y ≠ 0 := by rw [← ht]; omega
        have hno : hasn (t.names n) x = false := by
         rw [show t.names n = (s.names n).eraseIdx (posn (s.names n) x) from (congrFun (congrArg FF.names ht) n).trans (fset_eq _ _ _)]
         exact hasn_erase (hI.rise n i1 i2).1 hh
        refine XC.sr ?_
        refine XO.mv rfl rfl ?_
        refine XO.mv rfl rfl ?_
        refine XO.mv rfl rfl ?_
        refine XO.mv rfl rfl ?_
        refine XO.call rfl (r_put _ _ _ hI2 _ _ _ (by omega) hno) .h3 cl_74 rfl ?_
        rintro _ _ ⟨rfl, t2, ht2, hp2, hc2, rfl⟩
        refine XO.nk [(15, _)] (S1 rfl) ?_
        refine XC.sr ?_
        refine XO.mv rfl rfl ?_
        refine XO.as rfl rfl ?_
        refine XO.nk [(10, _)] (S1 rfl) ?_
        refine XC.ret ?_
        refine XE.thenRet ?_
        refine XE.ret1 rfl rfl (post_of .h3 rfl ?_)
        have e0 : s.moveE0 d n x to = 0 := by unfold FF.moveE0; rw [if_neg (by omega), if_neg (by omega), if_neg (by omega), if_neg (fun q => absurd q.2 (by rw [hun]; simp))]
        have e : s.moveE d n x to y = (s.cutF n x).roomE to y := by unfold FF.moveE; rw [if_neg (by omega)]
        exact ⟨by rw [e, ht], t2, by rw [ht2, ht]; unfold FF.move; rw [if_neg (by omega), if_pos (by omega)], hp2.trans hp, hc2.trans hc0, rfl⟩
       ·
        have hrn := FF.roomE_nn (s.cutF n x) to y
        have hm2 : t.roomE to y = 0 := by rw [ht]; rw [ht] at h7; omega
        have hm : (s.cutF n x).roomE to y = 0 := by rw [← ht]; exact hm2
        have hno2 := (FF.roomE_0 hm2).2.2.1
        refine XC.skip ?_
        refine XE.next ?_
        refine XC.keep [(0, _), (3, _), (4, _), (11, _)] (S4 rfl rfl rfl rfl) ?_
        refine XC.sr ?_
        refine XO.mv rfl rfl ?_
        refine XO.mv rfl rfl ?_
        refine XO.mv rfl rfl ?_
        refine XO.mv rfl rfl ?_
        refine XO.call rfl (r_put _ _ _ hI2 _ _ _ (by omega) hno2) .h3 cl_74 rfl ?_
        rintro _ _ ⟨rfl, t2, ht2, hp2, hc2, rfl⟩
        have hkd : t2.kind (s.findV n x) = s.kind (s.findV n x) := (congrFun (congrArg FF.kind ht2) _).trans (congrFun (congrArg FF.kind ht) _)
        refine XO.nk [(0, _), (3, _), (11, _)] (S3 rfl rfl rfl) ?_
        refine XC.seq ?_
        refine XC.sr ?_
        refine XO.mv rfl rfl ?_
        refine XO.mv rfl rfl ?_
        refine XO.v (V.nilCheckP rfl) rfl ?_
        refine XO.v (V.fieldAddr rfl fo_34_0) rfl ?_
        refine XO.v (V.indexArr rfl rfl ar_32 (by omega)) rfl ?_
        refine XO.v (V.fieldAddr rfl fo_31_0) rfl ?_
        refine XO.v (V.load rfl (inXM .here) (encM.ld_N_Kind _ _ (by omega)) sc_3) rfl ?_
        refine XO.v (V.cmp rfl rfl rfl) rfl ?_
        refine XO.nk [(0, _), (3, _), (11, _), (103, _)] (S4 rfl rfl rfl rfl) ?_
        refine XC.condP rfl (fun h8 => ?_) (fun h8 => ?_)
        ·
         refine XC.region ?_
         refine XO.mv rfl rfl ?_
         refine XO.mv rfl rfl ?_
         refine XO.mv rfl rfl ?_
         refine XO.v (V.nilCheckP rfl) rfl ?_
         refine XO.v (V.fieldAddr rfl fo_34_0) rfl ?_
         refine XO.v (V.indexArr rfl rfl ar_32 (by omega)) rfl ?_
         refine XO.v (V.fieldAddr rfl fo_31_4) rfl ?_
         refine XO.store rfl rfl .here (encM.st_N_Up _ _ (by omega) _) rfl sz_3_1 ?_
         refine XO.nk [] (Sub.nil _) ?_
         refine XC.sr ?_
         refine XO.as rfl rfl ?_
         refine XO.nk [(10, _)] (S1 rfl) ?_
         refine XC.ret ?_
         refine XE.ret1 rfl rfl (post_of .h3 rfl ?_)
         have e0 : s.moveE0 d n x to = 0 := by unfold FF.moveE0; rw [if_neg (by omega), if_neg (by omega), if_neg (by omega), if_neg (fun q => absurd q.2 (by rw [hun]; simp))]
         have e : s.moveE d n x to y = (s.cutF n x).roomE to y := by unfold FF.moveE; rw [if_neg (by omega)]
         exact ⟨by rw [e, hm], ({ t2 with up := fset t2.up (s.findV n x) to } : FC), by rw [up_of ht2, ht]; unfold FF.move; rw [if_neg (by omega), if_neg (by omega), if_pos (by omega)]; rfl, hp2.trans hp, hc2.trans hc0, rfl⟩
        ·
         refine XC.skip ?_
         refine XE.next ?_
         refine XC.keep [] (Sub.nil _) ?_
         refine XC.sr ?_
         refine XO.as rfl rfl ?_
         refine XO.nk [(10, _)] (S1 rfl) ?_
         refine XC.ret ?_
         refine XE.ret1 rfl rfl (post_of .h3 rfl ?_)
         have e0 : s.moveE0 d n x to = 0 := by unfold FF.moveE0; rw [if_neg (by omega), if_neg (by omega), if_neg (by omega), if_neg (fun q => absurd q.2 (by rw [hun]; simp))]
         have e : s.moveE d n x to y = (s.cutF n x).roomE to y := by unfold FF.moveE; rw [if_neg (by omega)]
         exact ⟨by rw [e, hm], t2, by rw [ht2, ht]; unfold FF.move; rw [if_neg (by omega), if_neg (by omega), if_neg (by omega)], hp2.trans hp, hc2.trans hc0, rfl⟩
      ·
       refine XC.skip ?_
       refine XE.next ?_
       refine XC.keep [(0, _), (1, _), (2, _), (3, _), (4, _), (11, _), (14, _)] (S7 rfl rfl rfl rfl rfl rfl rfl) ?_
       refine XC.region ?_
       refine XO.mv rfl rfl ?_
       refine XO.mv rfl rfl ?_
       refine XO.v (V.nilCheckP rfl) rfl ?_
       refine XO.v (V.fieldAddr rfl fo_34_0) rfl ?_
       refine XO.v (V.indexArr rfl rfl ar_32 (by omega)) rfl ?_
       refine XO.v (V.fieldAddr rfl fo_31_4) rfl ?_
       refine XO.v (V.load rfl (inXM .here) (encM.ld_N_Up _ _ (by omega)) sc_3) rfl ?_
       refine XO.as rfl rfl ?_
       refine XO.nil ?_
       refine XE.blockNormal ?_
       refine XE.again (s.up i) ?_ ?_ (S7 rfl rfl rfl rfl rfl rfl rfl) (fun _ hw => XM.pick .h3 hw)
       ·
        rcases hc (s.findV n x) i (by omega) (by omega) hi.2.2 (by assumption) with g | ⟨g1, g2, g3, g4⟩
        ·
         contradiction
        ·
         exact g4
       ·
        have e := FF.und_step (hc (s.findV n x)) (by omega) (by omega) hi.2.2 (show i ≠ s.findV n x by assumption)
        rw [if_neg (by assumption)] at e
        rcases hc (s.findV n x) i (by omega) (by omega) hi.2.2 (by assumption) with g | ⟨g1, g2, g3, g4⟩
        ·
         contradiction
        ·
         exact ⟨⟨g1, g2, g3⟩, he.trans e⟩
    ·
     refine XC.exit ?_
     refine XE.thenExit ?_
     refine XE.thenExit ?_
     refine XE.blockExit ?_
     refine XE.next ?_
     refine XC.keep [(0, _), (1, _), (2, _), (3, _), (4, _), (11, _)] (S6 rfl rfl rfl rfl rfl rfl) ?_
     refine XC.sr ?_
     refine XO.mv rfl rfl ?_
     refine XO.mv rfl rfl ?_
     refine XO.mv rfl rfl ?_
     refine XO.call rfl (r_cut _ _ _ hI _ _ (by omega) (by assumption)) .h3 cl_78 rfl ?_
     rintro _ _ ⟨rfl, t, ht, hp, hc0, rfl⟩
     have hI2 : t.toFF.Sh := by rw [ht]; exact hI.cutF i1 i2 hh
     refine XO.nk [(0, _), (1, _), (2, _), (3, _), (4, _), (11, _)] (S6 rfl rfl rfl rfl rfl rfl) ?_
     refine XC.seq ?_
     refine XC.sr ?_
     refine XO.mv rfl rfl ?_
     refine XO.mv rfl rfl ?_
     refine XO.mv rfl rfl ?_
     refine XO.call rfl (r_Room _ _ _ hI2 _ _ (by assumption)) .h3 cl_73 rfl ?_
     rintro _ _ ⟨rfl, rfl⟩
     refine XO.as rfl rfl ?_
     refine XO.nk [(0, _), (1, _), (2, _), (3, _), (4, _), (11, _), (15, _)] (S7 rfl rfl rfl rfl rfl rfl rfl) ?_
     refine XC.sr ?_
     refine XO.mv rfl rfl ?_
     refine XO.v (V.cmp rfl rfl rfl) rfl ?_
     refine XO.nk [(0, _), (1, _), (2, _), (3, _), (4, _), (11, _), (15, _), (84, _)] (S8 rfl rfl rfl rfl rfl rfl rfl rfl) ?_
     refine XC.condP rfl (fun h9 => ?_) (fun h9 => ?_)
     ·
      have hrn := FF.roomE_nn (s.cutF n x) to y
      have hm : (s.cutF n x).roomE to y ≠ 0 := by rw [← ht]; omega
      have hno : hasn (t.names n) x = false := by
       rw [show t.names n = (s.names n).eraseIdx (posn (s.names n) x) from (congrFun (congrArg FF.names ht) n).trans (fset_eq _ _ _)]
       exact hasn_erase (hI.rise n i1 i2).1 hh
      refine XC.sr ?_
      refine XO.mv rfl rfl ?_
      refine XO.mv rfl rfl ?_
      refine XO.mv rfl rfl ?_
      refine XO.mv rfl rfl ?_
      refine XO.call rfl (r_put _ _ _ hI2 _ _ _ (by omega) hno) .h3 cl_74 rfl ?_
      rintro _ _ ⟨rfl, t2, ht2, hp2, hc2, rfl⟩
      refine XO.nk [(15, _)] (S1 rfl) ?_
      refine XC.sr ?_
      refine XO.mv rfl rfl ?_
      refine XO.as rfl rfl ?_
      refine XO.nk [(10, _)] (S1 rfl) ?_
      refine XC.ret ?_
      refine XE.thenRet ?_
      refine XE.ret1 rfl rfl (post_of .h3 rfl ?_)
      have e0 : s.moveE0 d n x to = 0 := by unfold FF.moveE0; rw [if_neg (by omega), if_neg (by omega), if_neg (by omega), if_neg (fun q => absurd q.1 (by assumption))]
      have e : s.moveE d n x to y = (s.cutF n x).roomE to y := by unfold FF.moveE; rw [if_neg (by omega)]
      exact ⟨by rw [e, ht], t2, by rw [ht2, ht]; unfold FF.move; rw [if_neg (by omega), if_pos (by omega)], hp2.trans hp, hc2.trans hc0, rfl⟩
     ·
      have hrn := FF.roomE_nn (s.cutF n x) to y
      have hm2 : t.roomE to y = 0 := by rw [ht]; rw [ht] at h9; omega
      have hm : (s.cutF n x).roomE to y = 0 := by rw [← ht]; exact hm2
      have hno2 := (FF.roomE_0 hm2).2.2.1
      refine XC.skip ?_
      refine XE.next ?_
      refine XC.keep [(0, _), (3, _), (4, _), (11, _)] (S4 rfl rfl rfl rfl) ?_
      refine XC.sr ?_
      refine XO.mv rfl rfl ?_
      refine XO.mv rfl rfl ?_
      refine XO.mv rfl rfl ?_
      refine XO.mv rfl rfl ?_
      refine XO.call rfl (r_put _ _ _ hI2 _ _ _ (by omega) hno2) .h3 cl_74 rfl ?_
      rintro _ _ ⟨rfl, t2, ht2, hp2, hc2, rfl⟩
      have hkd : t2.kind (s.findV n x) = s.kind (s.findV n x) := (congrFun (congrArg FF.kind ht2) _).trans (congrFun (congrArg FF.kind ht) _)
      refine XO.nk [(0, _), (3, _), (11, _)] (S3 rfl rfl rfl) ?_
      refine XC.seq ?_
      refine XC.sr ?_
      refine XO.mv rfl rfl ?_
      refine XO.mv rfl rfl ?_
      refine XO.v (V.nilCheckP rfl) rfl ?_
      refine XO.v (V.fieldAddr rfl fo_34_0) rfl ?_
      refine XO.v (V.indexArr rfl rfl ar_32 (by omega)) rfl ?_
      refine XO.v (V.fieldAddr rfl fo_31_0) rfl ?_
      refine XO.v (V.load rfl (inXM .here) (encM.ld_N_Kind _ _ (by omega)) sc_3) rfl ?_
      refine XO.v (V.cmp rfl rfl rfl) rfl ?_
      refine XO.nk [(0, _), (3, _), (11, _), (103, _)] (S4 rfl rfl rfl rfl) ?_
      refine XC.condP rfl (fun h10 => ?_) (fun h10 => ?_)
      ·
       refine XC.region ?_
       refine XO.mv rfl rfl ?_
       refine XO.mv rfl rfl ?_
       refine XO.mv rfl rfl ?_
       refine XO.v (V.nilCheckP rfl) rfl ?_
       refine XO.v (V.fieldAddr rfl fo_34_0) rfl ?_
       refine XO.v (V.indexArr rfl rfl ar_32 (by omega)) rfl ?_
       refine XO.v (V.fieldAddr rfl fo_31_4) rfl ?_
       refine XO.store rfl rfl .here (encM.st_N_Up _ _ (by omega) _) rfl sz_3_1 ?_
       refine XO.nk [] (Sub.nil _) ?_
       refine XC.sr ?_
       refine XO.as rfl rfl ?_
       refine XO.nk [(10, _)] (S1 rfl) ?_
       refine XC.ret ?_
       refine XE.ret1 rfl rfl (post_of .h3 rfl ?_)
       have e0 : s.moveE0 d n x to = 0 := by unfold FF.moveE0; rw [if_neg (by omega), if_neg (by omega), if_neg (by omega), if_neg (fun q => absurd q.1 (by assumption))]
       have e : s.moveE d n x to y = (s.cutF n x).roomE to y := by unfold FF.moveE; rw [if_neg (by omega)]
       exact ⟨by rw [e, hm], ({ t2 with up := fset t2.up (s.findV n x) to } : FC), by rw [up_of ht2, ht]; unfold FF.move; rw [if_neg (by omega), if_neg (by omega), if_pos (by omega)]; rfl, hp2.trans hp, hc2.trans hc0, rfl⟩
      ·
       refine XC.skip ?_
       refine XE.next ?_
       refine XC.keep [] (Sub.nil _) ?_
       refine XC.sr ?_
       refine XO.as rfl rfl ?_
       refine XO.nk [(10, _)] (S1 rfl) ?_
       refine XC.ret ?_
       refine XE.ret1 rfl rfl (post_of .h3 rfl ?_)
       have e0 : s.moveE0 d n x to = 0 := by unfold FF.moveE0; rw [if_neg (by omega), if_neg (by omega), if_neg (by omega), if_neg (fun q => absurd q.1 (by assumption))]
       have e : s.moveE d n x to y = (s.cutF n x).roomE to y := by unfold FF.moveE; rw [if_neg (by omega)]
       exact ⟨by rw [e, hm], t2, by rw [ht2, ht]; unfold FF.move; rw [if_neg (by omega), if_neg (by omega), if_neg (by omega)], hp2.trans hp, hc2.trans hc0, rfl⟩
set_option maxRecDepth 10000 in
set_option maxHeartbeats 1000000 in
theorem r_Read (b o : Nat) (s : FC) (hI : s.toFF.Sh) (n a m : Int) : Spec Tryz.prog 41 [ptr b o 0, .int .i64 n, .int .i64 a, .int .i64 m]
    [.cells b o 321 (encM s)]
    (fun v H1 => v = .tuple #[.string (s.readV n a m), .int .i64 (s.readE n a m)] ∧ H1 = [.cells b o 321 (encM s)]) := by
 refine Spec.intro Tryz.func41 rfl rfl ?_
 intro W
 refine XC.sr ?_
 refine XO.as rfl rfl ?_
 refine XO.as rfl rfl ?_
 refine XO.nk [(0, _), (1, _), (2, _), (3, _)] (S4 rfl rfl rfl rfl) ?_
 refine XC.seq ?_
 refine XC.sr ?_
 refine XO.mv rfl rfl ?_
 refine XO.mv rfl rfl ?_
 refine XO.call rfl (r_Is _ _ _ _ _) .h1 cl_65 rfl ?_
 rintro _ _ ⟨rfl, rfl⟩
 refine XO.as rfl rfl ?_
 refine XO.nk [(0, _), (1, _), (2, _), (3, _), (10, _)] (S5 rfl rfl rfl rfl rfl) ?_
 refine XC.sr ?_
 refine XO.mv rfl rfl ?_
 refine XO.v (V.cmp rfl rfl rfl) rfl ?_
 refine XO.nk [(0, _), (1, _), (2, _), (3, _), (10, _), (18, _)] (S6 rfl rfl rfl rfl rfl rfl) ?_
 refine XC.condP rfl (fun h1 => ?_) (fun h1 => ?_)
 ·
  refine XC.sr ?_
  refine XO.mv rfl rfl ?_
  refine XO.as rfl rfl ?_
  refine XO.as rfl rfl ?_
  refine XO.nk [(8, _), (9, _)] (S2 rfl rfl) ?_
  refine XC.ret ?_
  refine XE.thenRet ?_
  refine XE.ret2 rfl rfl rfl (post_of .h1 rfl ?_)
  have e : s.readE n a m = s.isE n 1 := by unfold FF.readE; rw [if_pos (by omega)]
  exact ⟨by rw [show s.readV n a m = ByteArray.empty from by unfold FF.readV; rw [if_neg (by omega)], e]; rfl, rfl⟩
 ·
  have i0 : s.isE n 1 = 0 := by have := FF.isE_nn s.toFF n 1; omega
  obtain ⟨i1, i2, i3, i4⟩ := FF.isE_k0 i0
  have hd := hI.data n (by omega) (by omega)
  refine XC.skip ?_
  refine XE.next ?_
  refine XC.keep [(0, _), (1, _), (2, _), (3, _)] (S4 rfl rfl rfl rfl) ?_
  refine XC.seq ?_
  refine XC.sr ?_
  refine XO.mv rfl rfl ?_
  refine XO.v (V.cmp rfl rfl rfl) rfl ?_
  refine XO.mv rfl rfl ?_
  refine XO.splitP (d := 22) rfl (fun h2 => ?_) (fun h2 => ?_)
  ·
   refine XO.guardSkip rfl rfl rfl rfl rfl ?_
   refine XO.guardSkip rfl rfl rfl rfl rfl ?_
   refine XO.v (V.pick rfl rfl rfl rfl) rfl ?_
   refine XO.nk [(0, _), (1, _), (2, _), (3, _), (25, _)] (S5 rfl rfl rfl rfl rfl) ?_
   refine XC.condT rfl rfl ?_
   refine XC.sr ?_
   refine XO.as rfl rfl ?_
   refine XO.as rfl rfl ?_
   refine XO.nk [(8, _), (9, _)] (S2 rfl rfl) ?_
   refine XC.ret ?_
   refine XE.thenRet ?_
   refine XE.ret2 rfl rfl rfl (post_of .h1 rfl ?_)
   have e : s.readE n a m = 1 := by unfold FF.readE; rw [if_neg (by omega), if_pos (by omega)]
   exact ⟨by rw [show s.readV n a m = ByteArray.empty from by unfold FF.readV; rw [if_neg (by omega)], e]; rfl, rfl⟩
  ·
   refine XO.guardRun rfl rfl rfl ?_
   refine XO.mv rfl rfl ?_
   refine XO.guardRun rfl rfl rfl ?_
   refine XO.v (V.cmp rfl rfl rfl) rfl ?_
   refine XO.v (V.pick rfl rfl rfl rfl) rfl ?_
   refine XO.nk [(0, _), (1, _), (2, _), (3, _), (25, _)] (S5 rfl rfl rfl rfl rfl) ?_
   refine XC.condP rfl (fun h3 => ?_) (fun h3 => ?_)
   ·
    refine XC.sr ?_
    refine XO.as rfl rfl ?_
    refine XO.as rfl rfl ?_
    refine XO.nk [(8, _), (9, _)] (S2 rfl rfl) ?_
    refine XC.ret ?_
    refine XE.thenRet ?_
    refine XE.ret2 rfl rfl rfl (post_of .h1 rfl ?_)
    have e : s.readE n a m = 1 := by unfold FF.readE; rw [if_neg (by omega), if_pos (by omega)]
    exact ⟨by rw [show s.readV n a m = ByteArray.empty from by unfold FF.readV; rw [if_neg (by omega)], e]; rfl, rfl⟩
   ·
    refine XC.skip ?_
    refine XE.next ?_
    refine XC.keep [(0, _), (1, _), (2, _), (3, _)] (S4 rfl rfl rfl rfl) ?_
    refine XC.sr ?_
    refine XO.as rfl rfl ?_
    refine XO.nk [(0, _), (1, _), (2, _), (3, _), (11, _)] (S5 rfl rfl rfl rfl rfl) ?_
    refine XC.sr ?_
    refine XO.mv rfl rfl ?_
    refine XO.mv rfl rfl ?_
    refine XO.v (V.nilCheckP rfl) rfl ?_
    refine XO.v (V.fieldAddr rfl fo_34_0) rfl ?_
    refine XO.v (V.indexArr rfl rfl ar_32 (by omega)) rfl ?_
    refine XO.v (V.fieldAddr rfl fo_31_5) rfl ?_
    refine XO.v (V.load rfl (inXM .here) (encM.ld_N_Data _ _ (by omega)) sc_9) rfl ?_
    refine XO.as rfl rfl ?_
    refine XO.nk [(2, _), (3, _), (11, _), (12, _)] (S4 rfl rfl rfl rfl) ?_
    refine XC.seq ?_
    refine XC.sr ?_
    refine XO.mv rfl rfl ?_
    refine XO.as rfl rfl ?_
    refine XO.nk [(3, _), (11, _), (12, _), (13, _)] (S4 rfl rfl rfl rfl) ?_
    refine XC.block ?_
    refine XC.loop (σ := Int) (fun i => ((s.data n).size - i).toNat) (fun i => a ≤ i ∧ (i ≤ (s.data n).size ∨ i = a) ∧ i - a ≤ m) (fun i => [(11, .string ((s.data n).extract a.toNat i.toNat)), (13, .int .i64 i), (3, .int .i64 m), (12, .string (s.data n))]) (fun i => XM W (foot [.cells b o 321 (encM s)]) [.cells b o 321 (encM s)]) (a) ?_ (Sub.cons (eqs (extract_self _ _).symm) (S3 rfl rfl rfl)) (fun _ hw => XM.pick .h1 hw) ?_
    ·
     exact ⟨by omega, .inr rfl, by omega⟩
    intro i hi
    obtain ⟨hi1, hi2, hi3⟩ := hi
    have hes : ((s.data n).extract a.toNat i.toNat).size = min i.toNat (s.data n).size - a.toNat := ByteArray.size_extract
    refine XC.seq ?_
    refine XC.sr ?_
    refine XO.mv rfl rfl ?_
    refine XO.mv rfl rfl ?_
    refine XO.v (V.lenStr rfl Tryz.underlying9) rfl ?_
    refine XO.v (V.cmp rfl rfl rfl) rfl ?_
    refine XO.mv rfl rfl ?_
    refine XO.splitP (d := 38) rfl (fun h4 => ?_) (fun h4 => ?_)
    ·
     refine XO.guardRun rfl rfl rfl ?_
     refine XO.mv rfl rfl ?_
     refine XO.guardRun rfl rfl rfl ?_
     refine XO.v (V.lenStr rfl Tryz.underlying9) rfl ?_
     refine XO.guardRun rfl rfl rfl ?_
     refine XO.mv rfl rfl ?_
     refine XO.guardRun rfl rfl rfl ?_
     refine XO.v (V.cmp rfl rfl rfl) rfl ?_
     refine XO.v (V.pick rfl rfl rfl rfl) rfl ?_
     refine XO.nk [(3, _), (11, _), (12, _), (13, _), (43, _)] (S5 rfl rfl rfl rfl rfl) ?_
     refine XC.condP rfl (fun h5 => ?_) (fun h5 => ?_)
     ·
      refine XC.skip ?_
      refine XE.next ?_
      refine XC.keep [(3, _), (11, _), (12, _), (13, _)] (S4 rfl rfl rfl rfl) ?_
      refine XC.seq ?_
      refine XC.block ?_
      refine XC.region ?_
      refine XO.mv rfl rfl ?_
      refine XO.mv rfl rfl ?_
      refine XO.mv rfl rfl ?_
      refine XO.mv rfl rfl ?_
      refine XO.v (V.add rfl rfl _ (IntWalk.i64_in _ (by omega))) rfl ?_
      refine XO.v (V.slice2 rfl rfl rfl Tryz.underlying9 (by omega)) rfl ?_
      refine XO.v (V.concat rfl rfl (by rw [hes, ByteArray.size_extract]; omega)) rfl ?_
      refine XO.as rfl rfl ?_
      refine XO.nil ?_
      refine XE.blockNormal ?_
      refine XE.next ?_
      refine XC.keep [(3, _), (11, _), (12, _), (13, _)] (S4 rfl rfl rfl rfl) ?_
      refine XC.region ?_
      refine XO.mv rfl rfl ?_
      refine XO.v (V.add rfl rfl _ (IntWalk.i64_in _ (by omega))) rfl ?_
      refine XO.as rfl rfl ?_
      refine XO.nil ?_
      refine XE.again (i + 1) ?_ ?_ (Sub.cons (eqs (extract_snoc _ _ _ _ _ (by omega) (by omega) (by omega) (by omega))) (S3 rfl rfl rfl)) (fun _ hw => XM.pick .h1 hw)
      ·
       omega
      ·
       exact ⟨by omega, by omega, by omega⟩
     ·
      refine XC.exit ?_
      refine XE.thenExit ?_
      refine XE.thenExit ?_
      refine XE.blockExit ?_
      refine XE.next ?_
      refine XC.keep [(11, _)] (S1 rfl) ?_
      refine XC.sr ?_
      refine XO.mv rfl rfl ?_
      refine XO.as rfl rfl ?_
      refine XO.as rfl rfl ?_
      refine XO.nk [(8, _), (9, _)] (S2 rfl rfl) ?_
      refine XC.ret ?_
      refine XE.ret2 rfl rfl rfl (post_of .h1 rfl ?_)
      have e : s.readE n a m = 0 := by unfold FF.readE; rw [if_neg (by omega), if_neg (by omega)]
      exact ⟨by rw [show s.readV n a m = _ from by unfold FF.readV; rw [if_pos e], e, read_end (s.data n) a i m (by omega) (by omega) hi1 hi2 hi3 (by omega)], rfl⟩
    ·
     refine XO.guardSkip rfl rfl rfl rfl rfl ?_
     refine XO.guardSkip rfl rfl rfl rfl rfl ?_
     refine XO.guardSkip rfl rfl rfl rfl rfl ?_
     refine XO.guardSkip rfl rfl rfl rfl rfl ?_
     refine XO.v (V.pick rfl rfl rfl rfl) rfl ?_
     refine XO.nk [(3, _), (11, _), (12, _), (13, _), (43, _)] (S5 rfl rfl rfl rfl rfl) ?_
     refine XC.condF rfl rfl ?_
     refine XC.exit ?_
     refine XE.thenExit ?_
     refine XE.thenExit ?_
     refine XE.blockExit ?_
     refine XE.next ?_
     refine XC.keep [(11, _)] (S1 rfl) ?_
     refine XC.sr ?_
     refine XO.mv rfl rfl ?_
     refine XO.as rfl rfl ?_
     refine XO.as rfl rfl ?_
     refine XO.nk [(8, _), (9, _)] (S2 rfl rfl) ?_
     refine XC.ret ?_
     refine XE.ret2 rfl rfl rfl (post_of .h1 rfl ?_)
     have e : s.readE n a m = 0 := by unfold FF.readE; rw [if_neg (by omega), if_neg (by omega)]
     exact ⟨by rw [show s.readV n a m = _ from by unfold FF.readV; rw [if_pos e], e, read_end (s.data n) a i m (by omega) (by omega) hi1 hi2 hi3 (by omega)], rfl⟩
end Go.X

namespace Go.X
open Go Go.Proofs

set_option maxRecDepth 10000 in
set_option maxHeartbeats 2000000 in
theorem r_Write (b o : Nat) (s : FC) (hI : s.toFF.Sh) (n a : Int) (x : ByteArray) (hx : x.size ≤ 9223372036854775807) : Spec Tryz.prog 43 [ptr b o 0, .int .i64 n, .int .i64 a, .string x]
    [.cells b o 321 (encM s), .fam fam40 (s.rowsN 9), .fam fam40 (s.rowsK 3)]
    (fun v H1 => v = .int .i64 (s.writeE n a x) ∧ ∃ t : FC, t.toFF = s.write n a x ∧ t.rP = s.rP ∧ t.rC = s.rC ∧ H1 = [.cells b o 321 (encM t), .fam fam40 (FC.rowsN 9 t), .fam fam40 (FC.rowsK 3 t)]) := by
 refine Spec.intro Tryz.func43 rfl rfl ?_
 intro W
 refine XC.sr ?_
 refine XO.as rfl rfl ?_
 refine XO.nk [(0, _), (1, _), (2, _), (3, _)] (S4 rfl rfl rfl rfl) ?_
 refine XC.seq ?_
 refine XC.sr ?_
 refine XO.mv rfl rfl ?_
 refine XO.mv rfl rfl ?_
 refine XO.call rfl (r_Is _ _ _ _ _) .h1 cl_65 rfl ?_
 rintro _ _ ⟨rfl, rfl⟩
 refine XO.as rfl rfl ?_
 refine XO.nk [(0, _), (1, _), (2, _), (3, _), (9, _)] (S5 rfl rfl rfl rfl rfl) ?_
 refine XC.sr ?_
 refine XO.mv rfl rfl ?_
 refine XO.v (V.cmp rfl rfl rfl) rfl ?_
 refine XO.nk [(0, _), (1, _), (2, _), (3, _), (9, _), (16, _)] (S6 rfl rfl rfl rfl rfl rfl) ?_
 refine XC.condP rfl (fun h1 => ?_) (fun h1 => ?_)
 ·
  refine XC.sr ?_
  refine XO.mv rfl rfl ?_
  refine XO.as rfl rfl ?_
  refine XO.nk [(8, _)] (S1 rfl) ?_
  refine XC.ret ?_
  refine XE.thenRet ?_
  refine XE.ret1 rfl rfl (post_of .h3 rfl ?_)
  have e : s.writeE n a x = s.isE n 1 := by unfold FF.writeE; rw [if_pos (by omega)]
  exact ⟨by rw [e], s, by unfold FF.write; rw [if_neg (by omega)], rfl, rfl, rfl⟩
 ·
  have i0 : s.isE n 1 = 0 := by have := FF.isE_nn s.toFF n 1; omega
  obtain ⟨i1, i2, i3, i4⟩ := FF.isE_k0 i0
  have hd := hI.data n (by omega) (by omega)
  refine XC.skip ?_
  refine XE.next ?_
  refine XC.keep [(0, _), (1, _), (2, _), (3, _)] (S4 rfl rfl rfl rfl) ?_
  refine XC.seq ?_
  refine XC.sr ?_
  refine XO.mv rfl rfl ?_
  refine XO.v (V.cmp rfl rfl rfl) rfl ?_
  refine XO.nk [(0, _), (1, _), (2, _), (3, _), (19, _)] (S5 rfl rfl rfl rfl rfl) ?_
  refine XC.condP rfl (fun h2 => ?_) (fun h2 => ?_)
  ·
   refine XC.sr ?_
   refine XO.as rfl rfl ?_
   refine XO.nk [(8, _)] (S1 rfl) ?_
   refine XC.ret ?_
   refine XE.thenRet ?_
   refine XE.ret1 rfl rfl (post_of .h3 rfl ?_)
   have e : s.writeE n a x = 1 := by unfold FF.writeE; rw [if_neg (by omega), if_pos (by omega)]
   exact ⟨by rw [e], s, by unfold FF.write; rw [if_neg (by omega)], rfl, rfl, rfl⟩
  ·
   refine XC.skip ?_
   refine XE.next ?_
   refine XC.keep [(0, _), (1, _), (2, _), (3, _)] (S4 rfl rfl rfl rfl) ?_
   refine XC.seq ?_
   refine XC.sr ?_
   refine XO.mv rfl rfl ?_
   refine XO.v (V.cmp rfl rfl rfl) rfl ?_
   refine XO.mv rfl rfl ?_
   refine XO.splitP (d := 22) rfl (fun h3 => ?_) (fun h3 => ?_)
   ·
    refine XO.guardSkip rfl rfl rfl rfl rfl ?_
    refine XO.guardSkip rfl rfl rfl rfl rfl ?_
    refine XO.guardSkip rfl rfl rfl rfl rfl ?_
    refine XO.guardSkip rfl rfl rfl rfl rfl ?_
    refine XO.guardSkip rfl rfl rfl rfl rfl ?_
    refine XO.v (V.pick rfl rfl rfl rfl) rfl ?_
    refine XO.nk [(0, _), (1, _), (2, _), (3, _), (28, _)] (S5 rfl rfl rfl rfl rfl) ?_
    refine XC.condT rfl rfl ?_
    refine XC.sr ?_
    refine XO.as rfl rfl ?_
    refine XO.nk [(8, _)] (S1 rfl) ?_
    refine XC.ret ?_
    refine XE.thenRet ?_
    refine XE.ret1 rfl rfl (post_of .h3 rfl ?_)
    have e : s.writeE n a x = 4 := by unfold FF.writeE; rw [if_neg (by omega), if_neg (by omega), if_pos (by omega)]
    exact ⟨by rw [e], s, by unfold FF.write; rw [if_neg (by omega)], rfl, rfl, rfl⟩
   ·
    refine XO.guardRun rfl rfl rfl ?_
    refine XO.mv rfl rfl ?_
    refine XO.guardRun rfl rfl rfl ?_
    refine XO.v (V.lenStr rfl Tryz.underlying9) rfl ?_
    refine XO.guardRun rfl rfl rfl ?_
    refine XO.mv rfl rfl ?_
    refine XO.guardRun rfl rfl rfl ?_
    refine XO.v (V.sub rfl rfl _ (IntWalk.i64_in _ (by omega))) rfl ?_
    refine XO.guardRun rfl rfl rfl ?_
    refine XO.v (V.cmp rfl rfl rfl) rfl ?_
    refine XO.v (V.pick rfl rfl rfl rfl) rfl ?_
    refine XO.nk [(0, _), (1, _), (2, _), (3, _), (28, _)] (S5 rfl rfl rfl rfl rfl) ?_
    refine XC.condP rfl (fun h4 => ?_) (fun h4 => ?_)
    ·
     refine XC.sr ?_
     refine XO.as rfl rfl ?_
     refine XO.nk [(8, _)] (S1 rfl) ?_
     refine XC.ret ?_
     refine XE.thenRet ?_
     refine XE.ret1 rfl rfl (post_of .h3 rfl ?_)
     have e : s.writeE n a x = 4 := by unfold FF.writeE; rw [if_neg (by omega), if_neg (by omega), if_pos (by omega)]
     exact ⟨by rw [e], s, by unfold FF.write; rw [if_neg (by omega)], rfl, rfl, rfl⟩
    ·
     refine XC.skip ?_
     refine XE.next ?_
     refine XC.keep [(0, _), (1, _), (2, _), (3, _)] (S4 rfl rfl rfl rfl) ?_
     refine XC.sr ?_
     refine XO.mv rfl rfl ?_
     refine XO.mv rfl rfl ?_
     refine XO.v (V.nilCheckP rfl) rfl ?_
     refine XO.v (V.fieldAddr rfl fo_34_0) rfl ?_
     refine XO.v (V.indexArr rfl rfl ar_32 (by omega)) rfl ?_
     refine XO.v (V.fieldAddr rfl fo_31_5) rfl ?_
     refine XO.v (V.load rfl (inXM .here) (encM.ld_N_Data _ _ (by omega)) sc_9) rfl ?_
     refine XO.as rfl rfl ?_
     refine XO.nk [(0, _), (1, _), (2, _), (3, _), (10, _)] (S5 rfl rfl rfl rfl rfl) ?_
     refine XC.seq ?_
     refine XC.block ?_
     refine XC.loop (σ := Nat) (fun j => (a - ((s.data n).size + j)).toNat) (fun j => j = 0 ∨ (((s.data n).size + j : Int) ≤ a ∧ 0 < x.size)) (fun j => [(10, .string (padB (s.data n) j)), (0, ptr b o 0), (1, .int .i64 n), (2, .int .i64 a), (3, .string x)]) (fun j => XM W (foot [.cells b o 321 (encM s), .fam fam40 (s.rowsN 9), .fam fam40 (s.rowsK 3)]) [.cells b o 321 (encM s), .fam fam40 (s.rowsN 9), .fam fam40 (s.rowsK 3)]) (0) ?_ (S5 rfl rfl rfl rfl rfl) (fun _ hw => XM.pick .h3 hw) ?_
     ·
      exact .inl rfl
     intro j hj
     have hps := padB_size (s.data n) j
     refine XC.seq ?_
     refine XC.sr ?_
     refine XO.mv rfl rfl ?_
     refine XO.v (V.lenStr rfl Tryz.underlying9) rfl ?_
     refine XO.v (V.cmp rfl rfl rfl) rfl ?_
     refine XO.mv rfl rfl ?_
     refine XO.splitP (d := 39) rfl (fun h5 => ?_) (fun h5 => ?_)
     ·
      refine XO.guardRun rfl rfl rfl ?_
      refine XO.mv rfl rfl ?_
      refine XO.guardRun rfl rfl rfl ?_
      refine XO.v (V.lenStr rfl Tryz.underlying9) rfl ?_
      refine XO.guardRun rfl rfl rfl ?_
      refine XO.mv rfl rfl ?_
      refine XO.guardRun rfl rfl rfl ?_
      refine XO.v (V.cmp rfl rfl rfl) rfl ?_
      refine XO.v (V.pick rfl rfl rfl rfl) rfl ?_
      refine XO.nk [(0, _), (1, _), (2, _), (3, _), (10, _), (44, _)] (S6 rfl rfl rfl rfl rfl rfl) ?_
      refine XC.condP rfl (fun h6 => ?_) (fun h6 => ?_)
      ·
       refine XC.skip ?_
       refine XE.next ?_
       refine XC.keep [(0, _), (1, _), (2, _), (3, _), (10, _)] (S5 rfl rfl rfl rfl rfl) ?_
       refine XC.block ?_
       refine XC.region ?_
       refine XO.mv rfl rfl ?_
       refine XO.buildSlice (e := 5) (vs := #[(0, .int .u8 0)]) (A := #[.int .u8 0]) rfl (fun _ => by kernel_rfl) rfl rfl ?_
       intro bz
       refine XO.v (V.convB (B := ⟨#[0]⟩) rfl rfl (inXM .here) one0 bt_103 Tryz.underlying9) rfl ?_
       refine XO.v (V.concat rfl rfl (by rw [padB_size]; show _ + 1 ≤ _; omega)) rfl ?_
       refine XO.as rfl rfl ?_
       refine XO.nil ?_
       refine XE.blockNormal ?_
       refine XE.again (j + 1) ?_ ?_ (S5 rfl rfl rfl rfl rfl) (fun _ hw => XM.pick (.cons (.there .here) (.cons (.there .here) (.cons (.there .here) .nil))) hw)
       ·
        omega
       ·
        exact .inr (by omega)
      ·
       refine XC.exit ?_
       refine XE.thenExit ?_
       refine XE.thenExit ?_
       refine XE.blockExit ?_
       refine XE.next ?_
       refine XC.keep [(0, _), (1, _), (2, _), (3, _), (10, _)] (S5 rfl rfl rfl rfl rfl) ?_
       refine XC.seq ?_
       refine XC.sr ?_
       refine XO.mv rfl rfl ?_
       refine XO.v (V.lenStr rfl Tryz.underlying9) rfl ?_
       refine XO.v (V.cmp rfl rfl rfl) rfl ?_
       refine XO.nk [(0, _), (1, _), (2, _), (3, _), (10, _), (51, _)] (S6 rfl rfl rfl rfl rfl rfl) ?_
       refine XC.condTP rfl (by omega) ?_
       refine XC.sr ?_
       have hxp : 0 < x.size := by omega
       have hxe : x ≠ ByteArray.empty := fun q => by rw [q] at hxp; exact absurd hxp (by decide)
       refine XO.as rfl rfl ?_
       refine XO.nk [(0, _), (1, _), (2, _), (3, _), (10, _), (11, _)] (S6 rfl rfl rfl rfl rfl rfl) ?_
       refine XC.seq ?_
       refine XC.sr ?_
       refine XO.mv rfl rfl ?_
       refine XO.v (V.lenStr rfl Tryz.underlying9) rfl ?_
       refine XO.mv rfl rfl ?_
       refine XO.mv rfl rfl ?_
       refine XO.v (V.lenStr rfl Tryz.underlying9) rfl ?_
       refine XO.v (V.add rfl rfl _ (IntWalk.i64_in _ (by omega))) rfl ?_
       refine XO.v (V.cmp rfl rfl rfl) rfl ?_
       refine XO.nk [(0, _), (1, _), (2, _), (3, _), (10, _), (11, _), (58, _)] (S7 rfl rfl rfl rfl rfl rfl rfl) ?_
       refine XC.condP rfl (fun h8 => ?_) (fun h8 => ?_)
       ·
        refine XC.region ?_
        refine XO.mv rfl rfl ?_
        refine XO.mv rfl rfl ?_
        refine XO.mv rfl rfl ?_
        refine XO.v (V.lenStr rfl Tryz.underlying9) rfl ?_
        refine XO.v (V.add rfl rfl _ (IntWalk.i64_in _ (by omega))) rfl ?_
        refine XO.v (V.sliceFrom rfl rfl Tryz.underlying9 (by omega)) rfl ?_
        refine XO.as rfl rfl ?_
        refine XO.nk [(0, _), (1, _), (2, _), (3, _), (10, _), (11, _)] (S6 rfl rfl rfl rfl rfl rfl) ?_
        refine XC.region ?_
        refine XO.mv rfl rfl ?_
        refine XO.mv rfl rfl ?_
        refine XO.v (V.sliceTo rfl rfl Tryz.underlying9 (by omega)) rfl ?_
        refine XO.mv rfl rfl ?_
        refine XO.v (V.concat rfl rfl (by rw [ByteArray.size_extract]; omega)) rfl ?_
        refine XO.mv rfl rfl ?_
        refine XO.v (V.concat rfl rfl (by rw [ByteArray.size_append, ByteArray.size_extract]; first | omega | (rw [ByteArray.size_extract]; omega) | (show _ + 0 ≤ _; omega))) rfl ?_
        refine XO.as rfl rfl ?_
        refine XO.nk [(0, _), (1, _), (10, _)] (S3 rfl rfl rfl) ?_
        refine XC.sr ?_
        refine XO.mv rfl rfl ?_
        refine XO.mv rfl rfl ?_
        refine XO.mv rfl rfl ?_
        refine XO.v (V.nilCheckP rfl) rfl ?_
        refine XO.v (V.fieldAddr rfl fo_34_0) rfl ?_
        refine XO.v (V.indexArr rfl rfl ar_32 (by omega)) rfl ?_
        refine XO.v (V.fieldAddr rfl fo_31_5) rfl ?_
        refine XO.store rfl rfl .here (encM.st_N_Data _ _ (by omega) _) rfl sz_9_1 ?_
        refine XO.nk [] (Sub.nil _) ?_
        refine XC.sr ?_
        refine XO.as rfl rfl ?_
        refine XO.nk [(8, _)] (S1 rfl) ?_
        refine XC.ret ?_
        refine XE.ret1 rfl rfl (post_of .h3 rfl ?_)
        have e : s.writeE n a x = 0 := by unfold FF.writeE; rw [if_neg (by omega), if_neg (by omega), if_neg (by omega)]
        exact ⟨by rw [e], ({ s with data := fset s.data n ((padB (s.data n) j).extract 0 a.toNat ++ x ++ (padB (s.data n) j).extract (a + ↑x.size).toNat (padB (s.data n) j).size) } : FC), by unfold FF.write; rw [if_pos ⟨e, hxe⟩, ← wr_ref1 (s.data n) x a.toNat j (a + x.size) (by omega) (by omega) (by omega) (by omega)], rfl, rfl, rfl⟩
       ·
        refine XC.skip ?_
        refine XE.next ?_
        refine XC.keep [(0, _), (1, _), (2, _), (3, _), (10, _), (11, _)] (S6 rfl rfl rfl rfl rfl rfl) ?_
        refine XC.region ?_
        refine XO.mv rfl rfl ?_
        refine XO.mv rfl rfl ?_
        refine XO.v (V.sliceTo rfl rfl Tryz.underlying9 (by omega)) rfl ?_
        refine XO.mv rfl rfl ?_
        refine XO.v (V.concat rfl rfl (by rw [ByteArray.size_extract]; omega)) rfl ?_
        refine XO.mv rfl rfl ?_
        refine XO.v (V.concat rfl rfl (by rw [ByteArray.size_append, ByteArray.size_extract]; first | omega | (rw [ByteArray.size_extract]; omega) | (show _ + 0 ≤ _; omega))) rfl ?_
        refine XO.as rfl rfl ?_
        refine XO.nk [(0, _), (1, _), (10, _)] (S3 rfl rfl rfl) ?_
        refine XC.sr ?_
        refine XO.mv rfl rfl ?_
        refine XO.mv rfl rfl ?_
        refine XO.mv rfl rfl ?_
        refine XO.v (V.nilCheckP rfl) rfl ?_
        refine XO.v (V.fieldAddr rfl fo_34_0) rfl ?_
        refine XO.v (V.indexArr rfl rfl ar_32 (by omega)) rfl ?_
        refine XO.v (V.fieldAddr rfl fo_31_5) rfl ?_
        refine XO.store rfl rfl .here (encM.st_N_Data _ _ (by omega) _) rfl sz_9_1 ?_
        refine XO.nk [] (Sub.nil _) ?_
        refine XC.sr ?_
        refine XO.as rfl rfl ?_
        refine XO.nk [(8, _)] (S1 rfl) ?_
        refine XC.ret ?_
        refine XE.ret1 rfl rfl (post_of .h3 rfl ?_)
        have e : s.writeE n a x = 0 := by unfold FF.writeE; rw [if_neg (by omega), if_neg (by omega), if_neg (by omega)]
        exact ⟨by rw [e], ({ s with data := fset s.data n ((padB (s.data n) j).extract 0 a.toNat ++ x ++ ⟨#[]⟩) } : FC), by unfold FF.write; rw [if_pos ⟨e, hxe⟩, ← wr_ref2 (s.data n) x a.toNat j (by omega) (by omega) (by omega) (by omega)], rfl, rfl, rfl⟩
     ·
      refine XO.guardSkip rfl rfl rfl rfl rfl ?_
      refine XO.guardSkip rfl rfl rfl rfl rfl ?_
      refine XO.guardSkip rfl rfl rfl rfl rfl ?_
      refine XO.guardSkip rfl rfl rfl rfl rfl ?_
      refine XO.v (V.pick rfl rfl rfl rfl) rfl ?_
      refine XO.nk [(0, _), (1, _), (2, _), (3, _), (10, _), (44, _)] (S6 rfl rfl rfl rfl rfl rfl) ?_
      refine XC.condF rfl rfl ?_
      refine XC.exit ?_
      refine XE.thenExit ?_
      refine XE.thenExit ?_
      refine XE.blockExit ?_
      refine XE.next ?_
      refine XC.keep [(0, _), (1, _), (2, _), (3, _), (10, _)] (S5 rfl rfl rfl rfl rfl) ?_
      refine XC.seq ?_
      refine XC.sr ?_
      refine XO.mv rfl rfl ?_
      refine XO.v (V.lenStr rfl Tryz.underlying9) rfl ?_
      refine XO.v (V.cmp rfl rfl rfl) rfl ?_
      refine XO.nk [(0, _), (1, _), (2, _), (3, _), (10, _), (51, _)] (S6 rfl rfl rfl rfl rfl rfl) ?_
      refine XC.condFP rfl (by omega) ?_
      refine XC.skip ?_
      refine XE.next ?_
      refine XC.keep [(0, _), (1, _), (10, _)] (S3 rfl rfl rfl) ?_
      refine XC.sr ?_
      refine XO.mv rfl rfl ?_
      refine XO.mv rfl rfl ?_
      refine XO.mv rfl rfl ?_
      refine XO.v (V.nilCheckP rfl) rfl ?_
      refine XO.v (V.fieldAddr rfl fo_34_0) rfl ?_
      refine XO.v (V.indexArr rfl rfl ar_32 (by omega)) rfl ?_
      refine XO.v (V.fieldAddr rfl fo_31_5) rfl ?_
      refine XO.store rfl rfl .here (encM.st_N_Data _ _ (by omega) _) rfl sz_9_1 ?_
      refine XO.nk [] (Sub.nil _) ?_
      refine XC.sr ?_
      refine XO.as rfl rfl ?_
      refine XO.nk [(8, _)] (S1 rfl) ?_
      refine XC.ret ?_
      refine XE.ret1 rfl rfl (post_of .h3 rfl ?_)
      have e : s.writeE n a x = 0 := by unfold FF.writeE; rw [if_neg (by omega), if_neg (by omega), if_neg (by omega)]
      have hx0 : x = ByteArray.empty := size_nil.2 (by omega)
      have hj0 : j = 0 := by omega
      subst hj0
      exact ⟨by rw [e], ({ s with data := fset s.data n (padB (s.data n) 0) } : FC), by unfold FF.write; rw [if_neg (fun q => q.2 hx0), show fset s.data n (padB (s.data n) 0) = s.data from fset_same _ rfl], rfl, rfl, rfl⟩
set_option maxRecDepth 10000 in
set_option maxHeartbeats 400000 in
theorem same_texts (p q : Option Addr) (c c2 : Nat) (l : List ByteArray) (hm : l.length ≤ 1000) : Spec Tryz.prog 58 [.slice p l.length c, .slice q l.length c2]
    [srow p c 9 l, srow q c2 9 l]
    (fun v H1 => v = .bool true ∧ H1 = [srow p c 9 l, srow q c2 9 l]) := by
 refine Spec.intro Tryz.func58 rfl rfl ?_
 intro W
 refine XC.sr ?_
 refine XO.as rfl rfl ?_
 refine XO.nk [(0, _), (1, _)] (S2 rfl rfl) ?_
 refine XC.seq ?_
 refine XC.sr ?_
 refine XO.mv rfl rfl ?_
 refine XO.v (V.lenSl rfl Tryz.underlying28) rfl ?_
 refine XO.mv rfl rfl ?_
 refine XO.v (V.lenSl rfl Tryz.underlying28) rfl ?_
 refine XO.v (V.cmp rfl rfl rfl) rfl ?_
 refine XO.nk [(0, _), (1, _), (10, _)] (S3 rfl rfl rfl) ?_
 refine XC.condFP rfl (by simp) ?_
 refine XC.skip ?_
 refine XE.next ?_
 refine XC.keep [(0, _), (1, _)] (S2 rfl rfl) ?_
 refine XC.seq ?_
 refine XC.sr ?_
 refine XO.as rfl rfl ?_
 refine XO.nk [(0, _), (1, _), (5, _)] (S3 rfl rfl rfl) ?_
 refine XC.block ?_
 refine XC.loop (σ := Int) (fun i => (l.length - i).toNat) (fun i => 0 ≤ i ∧ i ≤ l.length) (fun i => [(5, .int .i64 i), (0, .slice p l.length c), (1, .slice q l.length c2)]) (fun i => XM W (foot [srow p c 9 l, srow q c2 9 l]) [srow p c 9 l, srow q c2 9 l]) (0) ?_ (S3 rfl rfl rfl) (fun _ hw => XM.pick .h2 hw) ?_
 ·
  omega
 intro i hi
 refine XC.seq ?_
 refine XC.sr ?_
 refine XO.mv rfl rfl ?_
 refine XO.mv rfl rfl ?_
 refine XO.v (V.lenSl rfl Tryz.underlying28) rfl ?_
 refine XO.v (V.cmp rfl rfl rfl) rfl ?_
 refine XO.nk [(0, _), (1, _), (5, _), (14, _)] (S4 rfl rfl rfl rfl) ?_
 refine XC.condP rfl (fun h1 => ?_) (fun h1 => ?_)
 ·
  refine XC.skip ?_
  refine XE.next ?_
  refine XC.keep [(0, _), (1, _), (5, _)] (S3 rfl rfl rfl) ?_
  refine XC.seq ?_
  refine XC.block ?_
  refine XC.seq ?_
  refine XC.openRow .here ((by omega)) ?_
  intro ga h2
  subst h2
  refine XC.openRow (.there .here) ((by omega)) ?_
  intro gb h3
  subst h3
  refine XC.regionQ mixed (f := 9) (l := #[false, false, false, false, false, false, false, false, false]) rfl rfl XM.drawn' ?_
  refine XQ.pv (i := 0) (l' := #[tt,ff,ff,ff,ff,ff,ff,ff,ff]) rfl (by kernel_rfl) rfl (V.move rfl) rfl rfl ?_
  refine XQ.pv (i := 1) (l' := #[tt,tt,ff,ff,ff,ff,ff,ff,ff]) rfl (by kernel_rfl) rfl (V.move rfl) rfl rfl ?_
  refine XQ.pv (i := 2) (l' := #[tt,tt,tt,ff,ff,ff,ff,ff,ff]) rfl (by kernel_rfl) rfl (V.indexSl rfl rfl sl_28 (by omega)) rfl rfl ?_
  refine XQ.load (i := 3) (l' := #[tt,tt,tt,tt,ff,ff,ff,ff,ff]) (.row _ _ _ _ _) [] rfl (by kernel_rfl) rfl .here (V.loadRow rfl inEnt (strs_at (by omega)) sc_9) rfl (by kernel_rfl) rfl ?_
  refine XQ.pv (i := 4) (l' := #[tt,tt,tt,tt,tt,ff,ff,ff,ff]) rfl (by kernel_rfl) rfl (V.move rfl) rfl rfl ?_
  refine XQ.pv (i := 5) (l' := #[tt,tt,tt,tt,tt,tt,ff,ff,ff]) rfl (by kernel_rfl) rfl (V.move rfl) rfl rfl ?_
  refine XQ.pv (i := 6) (l' := #[tt,tt,tt,tt,tt,tt,tt,ff,ff]) rfl (by kernel_rfl) rfl (V.indexSl rfl rfl sl_28 (by omega)) rfl rfl ?_
  refine XQ.load (i := 7) (l' := #[tt,tt,tt,tt,tt,tt,tt,tt,ff]) (.row _ _ _ _ _) [] rfl (by kernel_rfl) rfl (.there .here) (V.loadRow rfl inEnt (strs_at (by omega)) sc_9) rfl (by kernel_rfl) rfl ?_
  refine XQ.pv (i := 8) (l' := #[tt,tt,tt,tt,tt,tt,tt,tt,tt]) rfl (by kernel_rfl) rfl (V.strCmp rfl rfl rfl) rfl rfl ?_
  refine XQ.done (by kernel_rfl) ?_
  refine XE.next ?_
  refine XC.keep [(0, _), (1, _), (5, _), (25, _)] (S4 rfl rfl rfl rfl) ?_
  refine XC.condFP rfl (by simp) ?_
  refine XC.skip ?_
  refine XE.blockNormal ?_
  refine XE.next ?_
  refine XC.keep [(0, _), (1, _), (5, _)] (S3 rfl rfl rfl) ?_
  refine XC.region ?_
  refine XO.mv rfl rfl ?_
  refine XO.v (V.add rfl rfl _ (IntWalk.i64_in _ (by omega))) rfl ?_
  refine XO.as rfl rfl ?_
  refine XO.nil ?_
  refine XE.again (i + 1) ?_ ?_ (S3 rfl rfl rfl) (fun _ hw => XM.pick .h2 hw)
  ·
   (first | omega | (simp; done) | (simp; omega))
  ·
   (first | omega | (simp; done) | (simp; omega))
 ·
  refine XC.exit ?_
  refine XE.thenExit ?_
  refine XE.thenExit ?_
  refine XE.blockExit ?_
  refine XE.next ?_
  refine XC.keep [] (Sub.nil _) ?_
  refine XC.sr ?_
  refine XO.as rfl rfl ?_
  refine XO.nk [(4, _)] (S1 rfl) ?_
  refine XC.ret ?_
  refine XE.ret1 rfl rfl (post_of .h2 rfl ?_)
  exact ⟨rfl, rfl⟩
theorem same_texts2 (p q : Option Addr) (c c2 : Nat) (l l2 : List ByteArray) (hl : l2 = l) (hm : l.length ≤ 1000) : Spec Tryz.prog 58 [.slice p l.length c, .slice q l2.length c2] [srow p c 9 l, srow q c2 9 l2] (fun v H1 => v = .bool true ∧ H1 = [srow p c 9 l, srow q c2 9 l2]) := by
  subst hl; exact same_texts p q c c2 _ hm
set_option maxRecDepth 10000 in
set_option maxHeartbeats 400000 in
theorem same_texts_nil  : Spec Tryz.prog 58 [.slice none 0 0, .slice none 0 0]
    []
    (fun v H1 => v = .bool true ∧ H1 = []) := by
 refine Spec.intro Tryz.func58 rfl rfl ?_
 intro W
 refine XC.sr ?_
 refine XO.as rfl rfl ?_
 refine XO.nk [(0, _), (1, _)] (S2 rfl rfl) ?_
 refine XC.seq ?_
 refine XC.sr ?_
 refine XO.mv rfl rfl ?_
 refine XO.v (V.lenSl rfl Tryz.underlying28) rfl ?_
 refine XO.mv rfl rfl ?_
 refine XO.v (V.lenSl rfl Tryz.underlying28) rfl ?_
 refine XO.v (V.cmp rfl rfl rfl) rfl ?_
 refine XO.nk [(0, _), (1, _), (10, _)] (S3 rfl rfl rfl) ?_
 refine XC.condFP rfl (by simp) ?_
 refine XC.skip ?_
 refine XE.next ?_
 refine XC.keep [(0, _), (1, _)] (S2 rfl rfl) ?_
 refine XC.seq ?_
 refine XC.sr ?_
 refine XO.as rfl rfl ?_
 refine XO.nk [(0, _), (1, _), (5, _)] (S3 rfl rfl rfl) ?_
 refine XC.block ?_
 refine XC.loop (σ := Int) (fun i => 0) (fun i => 0 ≤ i) (fun i => [(5, .int .i64 i), (0, .slice none 0 0), (1, .slice none 0 0)]) (fun i => XM W (foot []) []) (0) ?_ (S3 rfl rfl rfl) (fun _ hw => XM.pick .nil hw) ?_
 ·
  omega
 intro i hi
 refine XC.seq ?_
 refine XC.sr ?_
 refine XO.mv rfl rfl ?_
 refine XO.mv rfl rfl ?_
 refine XO.v (V.lenSl rfl Tryz.underlying28) rfl ?_
 refine XO.v (V.cmp rfl rfl rfl) rfl ?_
 refine XO.nk [(0, _), (1, _), (5, _), (14, _)] (S4 rfl rfl rfl rfl) ?_
 refine XC.condFP rfl (by simp; omega) ?_
 refine XC.exit ?_
 refine XE.thenExit ?_
 refine XE.thenExit ?_
 refine XE.blockExit ?_
 refine XE.next ?_
 refine XC.keep [] (Sub.nil _) ?_
 refine XC.sr ?_
 refine XO.as rfl rfl ?_
 refine XO.nk [(4, _)] (S1 rfl) ?_
 refine XC.ret ?_
 refine XE.ret1 rfl rfl (post_of .nil rfl ?_)
 exact ⟨rfl, rfl⟩
end Go.X
