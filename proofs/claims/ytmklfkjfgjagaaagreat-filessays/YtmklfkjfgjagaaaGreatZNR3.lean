import Derived.Test.YtmklfkjfgjagaaaGreatXShort
import Derived.Test.YtmklfkjfgjagaaaGreatZNR2
namespace Go.X
open Go Go.Proofs
theorem rt_9_1 : rowT Tryz.prog 9 1 = true := by kernel_rfl
set_option maxRecDepth 10000 in
set_option maxHeartbeats 4000000 in
theorem r_put (b o : Nat) (s : FC) (hI : s.toFF.Sh) (n : Int) (x : ByteArray) (k : Int) (hn : 0 ≤ n ∧ n < 40) (hno : hasn (s.names n) x = false) : Spec Tryz.prog 75 [ptr b o 0, .int .i64 n, .string x, .int .i64 k]
    [.cells b o 321 (encM s), .fam fam40 (s.rowsN 9), .fam fam40 (s.rowsK 3)]
    (fun v H1 => v = .tuple #[] ∧ ∃ t : FC, t.toFF = s.putF n x k ∧ t.rP = s.rP ∧ t.rC = s.rC ∧ H1 = [.cells b o 321 (encM t), .fam fam40 (FC.rowsN 9 t), .fam fam40 (FC.rowsK 3 t)]) := by
 obtain ⟨hr, hk, h8, _⟩ := hI.rise n (by omega) (by omega)
 have hpl := posn_le (s.names n) x
 refine Spec.intro Tryz.func75 rfl rfl ?_
 intro W
 refine XC.sr ?_
 refine XO.mv rfl rfl ?_
 refine XO.mv rfl rfl ?_
 refine XO.v (V.nilCheckP rfl) rfl ?_
 refine XO.v (V.fieldAddr rfl fo_34_0) rfl ?_
 refine XO.v (V.indexArr rfl rfl ar_32 (by omega)) rfl ?_
 refine XO.as rfl rfl ?_
 refine XO.nk [(2, _), (3, _), (8, _)] (S3 rfl rfl rfl) ?_
 refine XC.sr ?_
 refine XO.as rfl rfl ?_
 refine XO.nilRow 9 1 ?_
 refine XO.nk [(2, _), (3, _), (8, _), (9, _)] (S4 rfl rfl rfl rfl) ?_
 refine XC.sr ?_
 refine XO.as rfl rfl ?_
 refine XO.nilRow 3 1 ?_
 refine XO.nk [(2, _), (3, _), (8, _), (9, _), (10, _)] (S5 rfl rfl rfl rfl rfl) ?_
 refine XC.sr ?_
 refine XO.as rfl rfl ?_
 refine XO.nk [(2, _), (3, _), (8, _), (9, _), (10, _), (11, _)] (S6 rfl rfl rfl rfl rfl rfl) ?_
 refine XC.seq ?_
 refine XC.sr ?_
 refine XO.as rfl rfl ?_
 refine XO.nk [(2, _), (3, _), (8, _), (9, _), (10, _), (11, _), (12, _)] (S7 rfl rfl rfl rfl rfl rfl rfl) ?_
 refine XC.block ?_
 refine XC.loop (σ := Int × (Option Addr × Nat) × (Option Addr × Nat)) (fun q => ((s.names n).length - q.1).toNat) (fun q => 0 ≤ q.1 ∧ q.1 ≤ (s.names n).length) (fun q => [(9, .slice q.2.1.1 (putT (s.names n) (posn (s.names n) x) x q.1.toNat).length q.2.1.2), (10, .slice q.2.2.1 (putT (s.kids n) (posn (s.names n) x) k q.1.toNat).length q.2.2.2), (11, .bool (decide (posn (s.names n) x < q.1.toNat))), (12, .int .i64 q.1), (2, .string x), (3, .int .i64 k), (8, ptr b o (0 + 0 + n.toNat * 8))]) (fun q => XM W (foot [.cells b o 321 (encM s), .fam fam40 (s.rowsN 9), .fam fam40 (s.rowsK 3)]) [srow q.2.1.1 q.2.1.2 9 (putT (s.names n) (posn (s.names n) x) x q.1.toNat), irow q.2.2.1 q.2.2.2 3 (putT (s.kids n) (posn (s.names n) x) k q.1.toNat), .cells b o 321 (encM s), .fam fam40 (s.rowsN 9), .fam fam40 (s.rowsK 3)]) ((0, (none, 0), (none, 0))) ?_ (Sub.cons (by rw [show putT (s.names n) (posn (s.names n) x) x (0 : Int).toNat = [] from by unfold putT; simp]; rfl) (Sub.cons (by rw [show putT (s.kids n) (posn (s.names n) x) k (0 : Int).toNat = [] from by unfold putT; simp]; rfl) (Sub.cons (eqb (by simp)) (S4 rfl rfl rfl rfl)))) (fun _ hw => by rw [show putT (s.names n) (posn (s.names n) x) x (0 : Int).toNat = [] from by unfold putT; simp, show putT (s.kids n) (posn (s.names n) x) k (0 : Int).toNat = [] from by unfold putT; simp]; exact XM.pick (.cons (.there .here) .h4) hw) ?_
 ·
  exact ⟨by omega, by omega⟩
 intro q hq
 obtain ⟨hq0, hq1⟩ := hq
 have hz1 := putT_len (s.names n) (posn (s.names n) x) x q.1.toNat
 have hz2 := putT_len (s.kids n) (posn (s.names n) x) k q.1.toNat
 refine XC.seq ?_
 refine XC.sr ?_
 refine XO.mv rfl rfl ?_
 refine XO.mv rfl rfl ?_
 refine XO.v (V.nilCheckP rfl) rfl ?_
 refine XO.v (V.fieldAddr rfl fo_31_6) rfl ?_
 refine XO.v (V.load rfl (inXM (.t2 .here)) (encM.ld_N_Names _ _ (by omega)) sc_28) rfl ?_
 refine XO.v (V.lenSl rfl Tryz.underlying28) rfl ?_
 refine XO.v (V.cmp rfl rfl rfl) rfl ?_
 refine XO.nk [(2, _), (3, _), (8, _), (9, _), (10, _), (11, _), (12, _), (24, _)] (S8 rfl rfl rfl rfl rfl rfl rfl rfl) ?_
 refine XC.condP rfl (fun h1 => ?_) (fun h1 => ?_)
 ·
  refine XC.skip ?_
  refine XE.next ?_
  refine XC.keep [(2, _), (3, _), (8, _), (9, _), (10, _), (11, _), (12, _)] (S7 rfl rfl rfl rfl rfl rfl rfl) ?_
  refine XC.seq ?_
  refine XC.block ?_
  refine XC.seq ?_
  refine XC.sr ?_
  refine XO.mv rfl rfl ?_
  refine XO.v (V.not rfl) rfl ?_
  refine XO.mv rfl rfl ?_
  refine XO.split (d := 29) rfl (fun h2 => ?_) (fun h2 => ?_)
  ·
   try simp only [sb] at h2
   have hlaid : ¬ posn (s.names n) x < q.1.toNat := by simpa using h2
   refine XO.guardRun rfl rfl rfl ?_
   refine XO.mv rfl rfl ?_
   refine XO.guardRun rfl rfl rfl ?_
   refine XO.v (V.nilCheckP rfl) rfl ?_
   refine XO.guardRun rfl rfl rfl ?_
   refine XO.v (V.fieldAddr rfl fo_31_6) rfl ?_
   refine XO.guardRun rfl rfl rfl ?_
   refine XO.v (V.load rfl (inXM (.t2 .here)) (encM.ld_N_Names _ _ (by omega)) sc_28) rfl ?_
   refine XO.guardRun rfl rfl rfl ?_
   refine XO.mv rfl rfl ?_
   refine XO.mono (fun _ hw3 => XM.openN (s := s) (z := n) (by omega) (.cons (.t3 .here) .nil) hw3) ?_
   refine XO.openRow .here (by omega) ?_
   intro g hg
   rw [hg]
   refine XO.guardRun rfl rfl rfl ?_
   refine XO.v (V.indexSl rfl rfl sl_28 (by omega)) rfl ?_
   refine XO.guardRun rfl rfl rfl ?_
   refine XO.v (V.loadRow rfl (inXM .here) (strs_at (by omega)) sc_9) rfl ?_
   refine XO.mono (fun _ hw3 => XM.closeN (s := s) s (z := n) (by omega) rfl (fset_same _ rfl).symm (fset_same _ hg).symm (fset_same _ rfl).symm .h2 hw3) ?_
   refine XO.guardRun rfl rfl rfl ?_
   refine XO.mv rfl rfl ?_
   refine XO.guardRun rfl rfl rfl ?_
   refine XO.v (V.strCmp rfl rfl rfl) rfl ?_
   refine XO.v (V.pick rfl rfl rfl rfl) rfl ?_
   refine XO.nk [(2, _), (3, _), (8, _), (9, _), (10, _), (11, _), (12, _), (39, _)] (S8 rfl rfl rfl rfl rfl rfl rfl rfl) ?_
   refine XC.cond rfl (fun h3 => ?_) (fun h3 => ?_)
   ·
    try simp only [sb] at h3
    have hcmp0 : ¬ (blt (sat0 (s.names n) q.1) x = true ∨ sat0 (s.names n) q.1 = x) := by simpa [blt] using h3
    have hcmp : ¬ (blt (ats (s.names n) q.1.toNat) x = true ∨ ats (s.names n) q.1.toNat = x) := hcmp0
    have hpi : posn (s.names n) x = q.1.toNat := by
     have h1 : ¬ posn (s.names n) x < q.1.toNat := hlaid
     have h2 : ¬ q.1.toNat < posn (s.names n) x := fun c => hcmp (.inl (posn_lt _ _ _ c))
     omega
    have hl1 : q.1.toNat < (s.names n).length := by omega
    have e1 : putT (s.names n) (posn (s.names n) x) x (q.1 + 1).toNat = putT (s.names n) (posn (s.names n) x) x q.1.toNat ++ [x] ++ [sat0 (s.names n) q.1] := by
     rw [show (q.1 + 1).toNat = q.1.toNat + 1 by omega, hpi]; exact putT_here _ _ _ ByteArray.empty hl1
    have e2 : putT (s.kids n) (posn (s.names n) x) k (q.1 + 1).toNat = putT (s.kids n) (posn (s.names n) x) k q.1.toNat ++ [k] ++ [at0 (s.kids n) q.1] := by
     rw [show (q.1 + 1).toNat = q.1.toNat + 1 by omega, hpi]; exact putT_here _ _ _ 0 (by omega)
    refine XC.sr ?_
    refine XO.mv rfl rfl ?_
    refine XO.mv rfl rfl ?_
    refine XO.buildSlice (e := 9) (vs := #[(0, .string x)]) (A := #[.string x]) rfl (fun _ => by kernel_rfl) rfl rfl ?_
    intro g8
    refine XO.appendS (e := 9) rfl rfl Tryz.underlying28 rt_9_1 (.t2 .here) .here (by omega) rfl ?_
    intro pa ca
    refine XO.as rfl rfl ?_
    refine XO.nk [(2, _), (3, _), (8, _), (9, _), (10, _), (12, _)] (S6 rfl rfl rfl rfl rfl rfl) ?_
    refine XC.sr ?_
    refine XO.mv rfl rfl ?_
    refine XO.mv rfl rfl ?_
    refine XO.buildSlice (A := #[.int .i64 _]) (vs := #[(0, .int .i64 _)]) rfl (bs1_29 _) rfl rfl ?_
    intro h7
    refine XO.appendI (e := 3) rfl rfl Tryz.underlying29 rt_3_1 (.t4 .here) .here (by omega) rfl ?_
    intro pb cb
    refine XO.as rfl rfl ?_
    refine XO.nk [(2, _), (3, _), (8, _), (9, _), (10, _), (12, _)] (S6 rfl rfl rfl rfl rfl rfl) ?_
    refine XC.region ?_
    refine XO.as rfl rfl ?_
    refine XO.nk [(2, _), (3, _), (8, _), (9, _), (10, _), (11, _), (12, _)] (S7 rfl rfl rfl rfl rfl rfl rfl) ?_
    refine XC.sr ?_
    refine XO.mv rfl rfl ?_
    refine XO.mv rfl rfl ?_
    refine XO.v (V.nilCheckP rfl) rfl ?_
    refine XO.v (V.fieldAddr rfl fo_31_6) rfl ?_
    refine XO.v (V.load rfl (inXM (.t5 .here)) (encM.ld_N_Names _ _ (by omega)) sc_28) rfl ?_
    refine XO.mv rfl rfl ?_
    refine XO.mono (fun _ hw3 => XM.openN (s := s) (z := n) (by omega) (.cons (.t4 .here) .nil) hw3) ?_
    refine XO.openRow .here (by omega) ?_
    intro g hg
    rw [hg]
    refine XO.v (V.indexSl rfl rfl sl_28 (by omega)) rfl ?_
    refine XO.v (V.loadRow rfl (inXM .here) (strs_at (by omega)) sc_9) rfl ?_
    refine XO.mono (fun _ hw3 => XM.closeN (s := s) s (z := n) (by omega) rfl (fset_same _ rfl).symm (fset_same _ hg).symm (fset_same _ rfl).symm .h2 hw3) ?_
    refine XO.buildSlice (e := 9) (vs := #[(0, .string (sat0 (s.names n) q.1))]) (A := #[.string (sat0 (s.names n) q.1)]) rfl (fun _ => by kernel_rfl) rfl rfl ?_
    intro g11
    refine XO.appendS (e := 9) rfl rfl Tryz.underlying28 rt_9_1 (.t4 .here) .here (by first | omega | (simp only [List.length_append, List.length_singleton]; omega)) rfl ?_
    intro pc cc
    refine XO.as rfl rfl ?_
    refine XO.nk [(2, _), (3, _), (8, _), (9, _), (10, _), (11, _), (12, _)] (S7 rfl rfl rfl rfl rfl rfl rfl) ?_
    refine XC.region ?_
    refine XO.mv rfl rfl ?_
    refine XO.mv rfl rfl ?_
    refine XO.v (V.nilCheckP rfl) rfl ?_
    refine XO.v (V.fieldAddr rfl fo_31_7) rfl ?_
    refine XO.v (V.load rfl (inXM (.t6 .here)) (encM.ld_N_Kids _ _ (by omega)) sc_29) rfl ?_
    refine XO.mv rfl rfl ?_
    refine XO.mono (fun _ hw3 => XM.openK (s := s) (z := n) (by omega) (.cons (.t7 .here) .nil) hw3) ?_
    refine XO.openRow .here (by omega) ?_
    intro g hg
    rw [hg]
    refine XO.v (V.indexSl rfl rfl sl_29 (by omega)) rfl ?_
    refine XO.v (V.loadRow rfl (inXM .here) (ints_at (by omega)) sc_3) rfl ?_
    refine XO.mono (fun _ hw3 => XM.closeK (s := s) s (z := n) (by omega) rfl (fset_same _ rfl).symm (fset_same _ hg).symm (fset_same _ rfl).symm .h2 hw3) ?_
    refine XO.buildSlice (e := 3) (vs := #[(0, .int .i64 (at0 (s.kids n) q.1))]) (A := #[.int .i64 (at0 (s.kids n) q.1)]) rfl (fun _ => by kernel_rfl) rfl rfl ?_
    intro g12
    refine XO.appendI (e := 3) rfl rfl Tryz.underlying29 rt_3_1 (.t5 .here) .here (by first | omega | (simp only [List.length_append, List.length_singleton]; omega)) rfl ?_
    intro pd cd
    refine XO.as rfl rfl ?_
    refine XO.nil ?_
    refine XE.blockNormal ?_
    refine XE.next ?_
    refine XC.keep [(2, _), (3, _), (8, _), (9, _), (10, _), (11, _), (12, _)] (S7 rfl rfl rfl rfl rfl rfl rfl) ?_
    refine XC.region ?_
    refine XO.mv rfl rfl ?_
    refine XO.v (V.add rfl rfl _ (IntWalk.i64_in _ (by omega))) rfl ?_
    refine XO.as rfl rfl ?_
    refine XO.nil ?_
    refine XE.again ((q.1 + 1, (pc, cc), (pd, cd))) ?_ ?_ (Sub.cons (by rw [e1]; try rfl) (Sub.cons (by rw [e2]; try rfl) (Sub.cons (eqb (decide_eq_true (by omega)).symm) (S4 rfl rfl rfl rfl)))) (fun _ hw => by rw [e1, e2]; exact XM.pick (.cons (.t3 .here) (.cons .here (.cons (.t6 .here) (.cons (.t3 .here) (.cons (.there .here) .nil))))) hw)
    ·
     (first | omega | (simp; done) | (simp; omega))
    ·
     (first | omega | (simp; done) | (simp; omega))
   ·
    try simp only [sb] at h3
    have hcmp0 : blt (sat0 (s.names n) q.1) x = true ∨ sat0 (s.names n) q.1 = x := by simpa [blt] using h3
    have hcmp : blt (ats (s.names n) q.1.toNat) x = true ∨ ats (s.names n) q.1.toNat = x := hcmp0
    have hpi : posn (s.names n) x ≠ q.1.toNat := fun c => by
     have h3 := posn_gt hr hno (i := q.1.toNat) (by omega) (by omega)
     rcases hcmp with h4 | h4
     ·
      rw [blt_asymm h3] at h4; cases h4
     ·
      rw [h4, blt_irrefl] at h3; cases h3
    have hpd : decide (posn (s.names n) x < q.1.toNat) = decide (posn (s.names n) x < (q.1 + 1).toNat) := decide_eq_decide.2 (by omega)
    have hl1 : q.1.toNat < (s.names n).length := by omega
    have e1 : putT (s.names n) (posn (s.names n) x) x (q.1 + 1).toNat = putT (s.names n) (posn (s.names n) x) x q.1.toNat ++ [sat0 (s.names n) q.1] := by
     rw [show (q.1 + 1).toNat = q.1.toNat + 1 by omega]; exact putT_next _ _ _ _ ByteArray.empty hl1 hpi
    have e2 : putT (s.kids n) (posn (s.names n) x) k (q.1 + 1).toNat = putT (s.kids n) (posn (s.names n) x) k q.1.toNat ++ [at0 (s.kids n) q.1] := by
     rw [show (q.1 + 1).toNat = q.1.toNat + 1 by omega]; exact putT_next _ _ _ _ 0 (by omega) hpi
    refine XC.skip ?_
    refine XE.next ?_
    refine XC.keep [(2, _), (3, _), (8, _), (9, _), (10, _), (11, _), (12, _)] (S7 rfl rfl rfl rfl rfl rfl rfl) ?_
    refine XC.sr ?_
    refine XO.mv rfl rfl ?_
    refine XO.mv rfl rfl ?_
    refine XO.v (V.nilCheckP rfl) rfl ?_
    refine XO.v (V.fieldAddr rfl fo_31_6) rfl ?_
    refine XO.v (V.load rfl (inXM (.t3 .here)) (encM.ld_N_Names _ _ (by omega)) sc_28) rfl ?_
    refine XO.mv rfl rfl ?_
    refine XO.mono (fun _ hw3 => XM.openN (s := s) (z := n) (by omega) .h1 hw3) ?_
    refine XO.openRow .here (by omega) ?_
    intro g hg
    rw [hg]
    refine XO.v (V.indexSl rfl rfl sl_28 (by omega)) rfl ?_
    refine XO.v (V.loadRow rfl (inXM .here) (strs_at (by omega)) sc_9) rfl ?_
    refine XO.mono (fun _ hw3 => XM.closeN (s := s) s (z := n) (by omega) rfl (fset_same _ rfl).symm (fset_same _ hg).symm (fset_same _ rfl).symm .h2 hw3) ?_
    refine XO.buildSlice (e := 9) (vs := #[(0, .string (sat0 (s.names n) q.1))]) (A := #[.string (sat0 (s.names n) q.1)]) rfl (fun _ => by kernel_rfl) rfl rfl ?_
    intro g11
    refine XO.appendS (e := 9) rfl rfl Tryz.underlying28 rt_9_1 (.t2 .here) .here (by first | omega | (simp only [List.length_append, List.length_singleton]; omega)) rfl ?_
    intro pc cc
    refine XO.as rfl rfl ?_
    refine XO.nk [(2, _), (3, _), (8, _), (9, _), (10, _), (11, _), (12, _)] (S7 rfl rfl rfl rfl rfl rfl rfl) ?_
    refine XC.region ?_
    refine XO.mv rfl rfl ?_
    refine XO.mv rfl rfl ?_
    refine XO.v (V.nilCheckP rfl) rfl ?_
    refine XO.v (V.fieldAddr rfl fo_31_7) rfl ?_
    refine XO.v (V.load rfl (inXM (.t4 .here)) (encM.ld_N_Kids _ _ (by omega)) sc_29) rfl ?_
    refine XO.mv rfl rfl ?_
    refine XO.mono (fun _ hw3 => XM.openK (s := s) (z := n) (by omega) (.cons (.t5 .here) .nil) hw3) ?_
    refine XO.openRow .here (by omega) ?_
    intro g hg
    rw [hg]
    refine XO.v (V.indexSl rfl rfl sl_29 (by omega)) rfl ?_
    refine XO.v (V.loadRow rfl (inXM .here) (ints_at (by omega)) sc_3) rfl ?_
    refine XO.mono (fun _ hw3 => XM.closeK (s := s) s (z := n) (by omega) rfl (fset_same _ rfl).symm (fset_same _ hg).symm (fset_same _ rfl).symm .h2 hw3) ?_
    refine XO.buildSlice (e := 3) (vs := #[(0, .int .i64 (at0 (s.kids n) q.1))]) (A := #[.int .i64 (at0 (s.kids n) q.1)]) rfl (fun _ => by kernel_rfl) rfl rfl ?_
    intro g12
    refine XO.appendI (e := 3) rfl rfl Tryz.underlying29 rt_3_1 (.t5 .here) .here (by first | omega | (simp only [List.length_append, List.length_singleton]; omega)) rfl ?_
    intro pd cd
    refine XO.as rfl rfl ?_
    refine XO.nil ?_
    refine XE.blockNormal ?_
    refine XE.next ?_
    refine XC.keep [(2, _), (3, _), (8, _), (9, _), (10, _), (11, _), (12, _)] (S7 rfl rfl rfl rfl rfl rfl rfl) ?_
    refine XC.region ?_
    refine XO.mv rfl rfl ?_
    refine XO.v (V.add rfl rfl _ (IntWalk.i64_in _ (by omega))) rfl ?_
    refine XO.as rfl rfl ?_
    refine XO.nil ?_
    refine XE.again ((q.1 + 1, (pc, cc), (pd, cd))) ?_ ?_ (Sub.cons (by rw [e1]; try rfl) (Sub.cons (by rw [e2]; try rfl) (Sub.cons (eqb (by rw [hpd])) (S4 rfl rfl rfl rfl)))) (fun _ hw => by rw [e1, e2]; exact XM.pick (.cons (.t3 .here) (.cons .here (.cons (.t4 .here) (.cons (.t3 .here) (.cons (.there .here) .nil))))) hw)
    ·
     (first | omega | (simp; done) | (simp; omega))
    ·
     (first | omega | (simp; done) | (simp; omega))
  ·
   try simp only [sb] at h2
   have hlaid : posn (s.names n) x < q.1.toNat := by simpa using h2
   have hpi : posn (s.names n) x ≠ q.1.toNat := by omega
   have hpd : decide (posn (s.names n) x < q.1.toNat) = decide (posn (s.names n) x < (q.1 + 1).toNat) := decide_eq_decide.2 (by omega)
   have hl1 : q.1.toNat < (s.names n).length := by omega
   have e1 : putT (s.names n) (posn (s.names n) x) x (q.1 + 1).toNat = putT (s.names n) (posn (s.names n) x) x q.1.toNat ++ [sat0 (s.names n) q.1] := by
    rw [show (q.1 + 1).toNat = q.1.toNat + 1 by omega]; exact putT_next _ _ _ _ ByteArray.empty hl1 hpi
   have e2 : putT (s.kids n) (posn (s.names n) x) k (q.1 + 1).toNat = putT (s.kids n) (posn (s.names n) x) k q.1.toNat ++ [at0 (s.kids n) q.1] := by
    rw [show (q.1 + 1).toNat = q.1.toNat + 1 by omega]; exact putT_next _ _ _ _ 0 (by omega) hpi
   refine XO.guardSkip rfl rfl rfl rfl rfl ?_
   refine XO.guardSkip rfl rfl rfl rfl rfl ?_
   refine XO.guardSkip rfl rfl rfl rfl rfl ?_
   refine XO.guardSkip rfl rfl rfl rfl rfl ?_
   refine XO.guardSkip rfl rfl rfl rfl rfl ?_
   refine XO.mono (fun _ hw3 => XM.openN (s := s) (z := n) (by omega) (.cons (.t3 .here) .nil) hw3) ?_
   refine XO.openRow .here (by omega) ?_
   intro g hg
   rw [hg]
   refine XO.guardSkip rfl rfl rfl rfl rfl ?_
   refine XO.guardSkip rfl rfl rfl rfl rfl ?_
   refine XO.mono (fun _ hw3 => XM.closeN (s := s) s (z := n) (by omega) rfl (fset_same _ rfl).symm (fset_same _ hg).symm (fset_same _ rfl).symm .h2 hw3) ?_
   refine XO.guardSkip rfl rfl rfl rfl rfl ?_
   refine XO.guardSkip rfl rfl rfl rfl rfl ?_
   refine XO.v (V.pick rfl rfl rfl rfl) rfl ?_
   refine XO.nk [(2, _), (3, _), (8, _), (9, _), (10, _), (11, _), (12, _), (39, _)] (S8 rfl rfl rfl rfl rfl rfl rfl rfl) ?_
   refine XC.condF rfl rfl ?_
   refine XC.skip ?_
   refine XE.next ?_
   refine XC.keep [(2, _), (3, _), (8, _), (9, _), (10, _), (11, _), (12, _)] (S7 rfl rfl rfl rfl rfl rfl rfl) ?_
   refine XC.sr ?_
   refine XO.mv rfl rfl ?_
   refine XO.mv rfl rfl ?_
   refine XO.v (V.nilCheckP rfl) rfl ?_
   refine XO.v (V.fieldAddr rfl fo_31_6) rfl ?_
   refine XO.v (V.load rfl (inXM (.t3 .here)) (encM.ld_N_Names _ _ (by omega)) sc_28) rfl ?_
   refine XO.mv rfl rfl ?_
   refine XO.mono (fun _ hw3 => XM.openN (s := s) (z := n) (by omega) .h1 hw3) ?_
   refine XO.openRow .here (by omega) ?_
   intro g hg
   rw [hg]
   refine XO.v (V.indexSl rfl rfl sl_28 (by omega)) rfl ?_
   refine XO.v (V.loadRow rfl (inXM .here) (strs_at (by omega)) sc_9) rfl ?_
   refine XO.mono (fun _ hw3 => XM.closeN (s := s) s (z := n) (by omega) rfl (fset_same _ rfl).symm (fset_same _ hg).symm (fset_same _ rfl).symm .h2 hw3) ?_
   refine XO.buildSlice (e := 9) (vs := #[(0, .string (sat0 (s.names n) q.1))]) (A := #[.string (sat0 (s.names n) q.1)]) rfl (fun _ => by kernel_rfl) rfl rfl ?_
   intro g11
   refine XO.appendS (e := 9) rfl rfl Tryz.underlying28 rt_9_1 (.t2 .here) .here (by first | omega | (simp only [List.length_append, List.length_singleton]; omega)) rfl ?_
   intro pc cc
   refine XO.as rfl rfl ?_
   refine XO.nk [(2, _), (3, _), (8, _), (9, _), (10, _), (11, _), (12, _)] (S7 rfl rfl rfl rfl rfl rfl rfl) ?_
   refine XC.region ?_
   refine XO.mv rfl rfl ?_
   refine XO.mv rfl rfl ?_
   refine XO.v (V.nilCheckP rfl) rfl ?_
   refine XO.v (V.fieldAddr rfl fo_31_7) rfl ?_
   refine XO.v (V.load rfl (inXM (.t4 .here)) (encM.ld_N_Kids _ _ (by omega)) sc_29) rfl ?_
   refine XO.mv rfl rfl ?_
   refine XO.mono (fun _ hw3 => XM.openK (s := s) (z := n) (by omega) (.cons (.t5 .here) .nil) hw3) ?_
   refine XO.openRow .here (by omega) ?_
   intro g hg
   rw [hg]
   refine XO.v (V.indexSl rfl rfl sl_29 (by omega)) rfl ?_
   refine XO.v (V.loadRow rfl (inXM .here) (ints_at (by omega)) sc_3) rfl ?_
   refine XO.mono (fun _ hw3 => XM.closeK (s := s) s (z := n) (by omega) rfl (fset_same _ rfl).symm (fset_same _ hg).symm (fset_same _ rfl).symm .h2 hw3) ?_
   refine XO.buildSlice (e := 3) (vs := #[(0, .int .i64 (at0 (s.kids n) q.1))]) (A := #[.int .i64 (at0 (s.kids n) q.1)]) rfl (fun _ => by kernel_rfl) rfl rfl ?_
   intro g12
   refine XO.appendI (e := 3) rfl rfl Tryz.underlying29 rt_3_1 (.t5 .here) .here (by first | omega | (simp only [List.length_append, List.length_singleton]; omega)) rfl ?_
   intro pd cd
   refine XO.as rfl rfl ?_
   refine XO.nil ?_
   refine XE.blockNormal ?_
   refine XE.next ?_
   refine XC.keep [(2, _), (3, _), (8, _), (9, _), (10, _), (11, _), (12, _)] (S7 rfl rfl rfl rfl rfl rfl rfl) ?_
   refine XC.region ?_
   refine XO.mv rfl rfl ?_
   refine XO.v (V.add rfl rfl _ (IntWalk.i64_in _ (by omega))) rfl ?_
   refine XO.as rfl rfl ?_
   refine XO.nil ?_
   refine XE.again ((q.1 + 1, (pc, cc), (pd, cd))) ?_ ?_ (Sub.cons (by rw [e1]; try rfl) (Sub.cons (by rw [e2]; try rfl) (Sub.cons (eqb (by rw [hpd])) (S4 rfl rfl rfl rfl)))) (fun _ hw => by rw [e1, e2]; exact XM.pick (.cons (.t3 .here) (.cons .here (.cons (.t4 .here) (.cons (.t3 .here) (.cons (.there .here) .nil))))) hw)
   ·
    (first | omega | (simp; done) | (simp; omega))
   ·
    (first | omega | (simp; done) | (simp; omega))
 ·
  refine XC.exit ?_
  refine XE.thenExit ?_
  refine XE.thenExit ?_
  refine XE.blockExit ?_
  refine XE.next ?_
  refine XC.keep [(2, _), (3, _), (8, _), (9, _), (10, _), (11, _)] (S6 rfl rfl rfl rfl rfl rfl) ?_
  refine XC.seq ?_
  refine XC.sr ?_
  refine XO.mv rfl rfl ?_
  refine XO.v (V.not rfl) rfl ?_
  refine XO.nk [(2, _), (3, _), (8, _), (9, _), (10, _), (69, _)] (S6 rfl rfl rfl rfl rfl rfl) ?_
  refine XC.cond rfl (fun h28 => ?_) (fun h28 => ?_)
  ·
   try simp only [sb] at h28
   have hlaid : ¬ posn (s.names n) x < q.1.toNat := by simpa using h28
   have hql : q.1.toNat = (s.names n).length := by omega
   have hpe : posn (s.names n) x = (s.names n).length := by omega
   have e3 : putT (s.names n) (posn (s.names n) x) x q.1.toNat ++ [x] = (s.names n).insertIdx (posn (s.names n) x) x := by rw [hql, hpe]; exact putT_end2 _ _
   have e4 : putT (s.kids n) (posn (s.names n) x) k q.1.toNat ++ [k] = (s.kids n).insertIdx (posn (s.names n) x) k := by rw [hql, hpe, hk]; exact putT_end2 _ _
   refine XC.sr ?_
   refine XO.mv rfl rfl ?_
   refine XO.mv rfl rfl ?_
   refine XO.buildSlice (e := 9) (vs := #[(0, .string x)]) (A := #[.string x]) rfl (fun _ => by kernel_rfl) rfl rfl ?_
   intro g14
   refine XO.appendS (e := 9) rfl rfl Tryz.underlying28 rt_9_1 (.there .here) .here (by omega) rfl ?_
   intro pe ce
   refine XO.as rfl rfl ?_
   refine XO.nk [(3, _), (8, _), (9, _), (10, _)] (S4 rfl rfl rfl rfl) ?_
   refine XC.region ?_
   refine XO.mv rfl rfl ?_
   refine XO.mv rfl rfl ?_
   refine XO.buildSlice (A := #[.int .i64 _]) (vs := #[(0, .int .i64 _)]) rfl (bs1_29 _) rfl rfl ?_
   intro h32
   refine XO.appendI (e := 3) rfl rfl Tryz.underlying29 rt_3_1 (.t3 .here) .here (by omega) rfl ?_
   intro pf cf
   refine XO.as rfl rfl ?_
   refine XO.nk [(8, _), (9, _), (10, _)] (S3 rfl rfl rfl) ?_
   refine XC.sr ?_
   rw [e3, e4]
   refine XO.mv rfl rfl ?_
   refine XO.mv rfl rfl ?_
   refine XO.v (V.nilCheckP rfl) rfl ?_
   refine XO.v (V.fieldAddr rfl fo_31_6) rfl ?_
   refine XO.store rfl rfl (.t4 .here) (encM.st_N_Names _ _ (by omega) ((s.names n).insertIdx (posn (s.names n) x) x) _ _ _ rfl) rfl sz_28_1 ?_
   refine XO.nk [(8, _), (10, _)] (S2 rfl rfl) ?_
   refine XC.region ?_
   refine XO.mv rfl rfl ?_
   refine XO.mv rfl rfl ?_
   refine XO.v (V.nilCheckP rfl) rfl ?_
   refine XO.v (V.fieldAddr rfl fo_31_7) rfl ?_
   refine XO.store rfl rfl (.t4 .here) (encM.st_N_Kids _ _ (by omega) ((s.kids n).insertIdx (posn (s.names n) x) k) _ _ _ rfl) rfl sz_29_1 ?_
   refine XO.mono (fun _ hw3 => XM.openN (s := s) (z := n) (by omega) (.cons (.t5 .here) .nil) hw3) ?_
   refine XO.mono (fun _ hw3 => XM.openK (s := s) (z := n) (by omega) (.cons (.t7 .here) .nil) hw3) ?_
   refine XO.mono (fun _ hw3 => XM.closeN (s := s) (s.putC n x k pe ce pf cf) (z := n) (l := ((s.names n).insertIdx (posn (s.names n) x) x)) (by omega) (rfl) rfl rfl rfl (.cons (.t6 .here) (.cons (.t3 .here) .nil)) hw3) ?_
   refine XO.mono (fun _ hw3 => XM.closeK (s := s) (s.putC n x k pe ce pf cf) (z := n) (l := ((s.kids n).insertIdx (posn (s.names n) x) k)) (by omega) (rfl) rfl rfl rfl (.cons (.t4 .here) (.cons (.t2 .here) .nil)) hw3) ?_
   refine XO.nil ?_
   refine XE.end0 rfl (post_of (.cons (.t6 .here) (.cons (.there .here) .h1)) rfl ?_)
   exact ⟨rfl, s.putC n x k pe ce pf cf, rfl, rfl, rfl, rfl⟩
  ·
   try simp only [sb] at h28
   have hlaid : posn (s.names n) x < q.1.toNat := by simpa using h28
   have hql : q.1.toNat = (s.names n).length := by omega
   have e3 : putT (s.names n) (posn (s.names n) x) x q.1.toNat = (s.names n).insertIdx (posn (s.names n) x) x := by rw [hql]; exact putT_end _ _ _ (by omega)
   have e4 : putT (s.kids n) (posn (s.names n) x) k q.1.toNat = (s.kids n).insertIdx (posn (s.names n) x) k := by rw [hql, hk]; exact putT_end _ _ _ (by omega)
   refine XC.skip ?_
   refine XE.next ?_
   refine XC.keep [(8, _), (9, _), (10, _)] (S3 rfl rfl rfl) ?_
   refine XC.sr ?_
   rw [e3, e4]
   refine XO.mv rfl rfl ?_
   refine XO.mv rfl rfl ?_
   refine XO.v (V.nilCheckP rfl) rfl ?_
   refine XO.v (V.fieldAddr rfl fo_31_6) rfl ?_
   refine XO.store rfl rfl (.t2 .here) (encM.st_N_Names _ _ (by omega) ((s.names n).insertIdx (posn (s.names n) x) x) _ _ _ rfl) rfl sz_28_1 ?_
   refine XO.nk [(8, _), (10, _)] (S2 rfl rfl) ?_
   refine XC.region ?_
   refine XO.mv rfl rfl ?_
   refine XO.mv rfl rfl ?_
   refine XO.v (V.nilCheckP rfl) rfl ?_
   refine XO.v (V.fieldAddr rfl fo_31_7) rfl ?_
   refine XO.store rfl rfl (.t2 .here) (encM.st_N_Kids _ _ (by omega) ((s.kids n).insertIdx (posn (s.names n) x) k) _ _ _ rfl) rfl sz_29_1 ?_
   refine XO.mono (fun _ hw3 => XM.openN (s := s) (z := n) (by omega) (.cons (.t3 .here) .nil) hw3) ?_
   refine XO.mono (fun _ hw3 => XM.openK (s := s) (z := n) (by omega) (.cons (.t5 .here) .nil) hw3) ?_
   refine XO.mono (fun _ hw3 => XM.closeN (s := s) (s.putC n x k q.2.1.1 q.2.1.2 q.2.2.1 q.2.2.2) (z := n) (l := ((s.names n).insertIdx (posn (s.names n) x) x)) (by omega) (rfl) rfl rfl rfl (.cons (.t4 .here) (.cons (.t3 .here) .nil)) hw3) ?_
   refine XO.mono (fun _ hw3 => XM.closeK (s := s) (s.putC n x k q.2.1.1 q.2.1.2 q.2.2.1 q.2.2.2) (z := n) (l := ((s.kids n).insertIdx (posn (s.names n) x) k)) (by omega) (rfl) rfl rfl rfl (.cons (.t4 .here) (.cons (.t2 .here) .nil)) hw3) ?_
   refine XO.nil ?_
   refine XE.end0 rfl (post_of (.cons (.t4 .here) (.cons (.there .here) .h1)) rfl ?_)
   exact ⟨rfl, s.putC n x k q.2.1.1 q.2.1.2 q.2.2.1 q.2.2.2, rfl, rfl, rfl, rfl⟩
set_option maxRecDepth 10000 in
set_option maxHeartbeats 4000000 in
theorem r_cut (b o : Nat) (s : FC) (hI : s.toFF.Sh) (n : Int) (x : ByteArray) (hn : 0 ≤ n ∧ n < 40) (hh : hasn (s.names n) x = true) : Spec Tryz.prog 79 [ptr b o 0, .int .i64 n, .string x]
    [.cells b o 321 (encM s), .fam fam40 (s.rowsN 9), .fam fam40 (s.rowsK 3)]
    (fun v H1 => v = .tuple #[] ∧ ∃ t : FC, t.toFF = s.cutF n x ∧ t.rP = s.rP ∧ t.rC = s.rC ∧ H1 = [.cells b o 321 (encM t), .fam fam40 (FC.rowsN 9 t), .fam fam40 (FC.rowsK 3 t)]) := by
 obtain ⟨hr, hk, h8, _⟩ := hI.rise n (by omega) (by omega)
 have hpl := posn_le (s.names n) x
 obtain ⟨hp1, hp2⟩ := hasn_iff.1 hh
 refine Spec.intro Tryz.func79 rfl rfl ?_
 intro W
 refine XC.sr ?_
 refine XO.mv rfl rfl ?_
 refine XO.mv rfl rfl ?_
 refine XO.v (V.nilCheckP rfl) rfl ?_
 refine XO.v (V.fieldAddr rfl fo_34_0) rfl ?_
 refine XO.v (V.indexArr rfl rfl ar_32 (by omega)) rfl ?_
 refine XO.as rfl rfl ?_
 refine XO.nk [(2, _), (6, _)] (S2 rfl rfl) ?_
 refine XC.sr ?_
 refine XO.as rfl rfl ?_
 refine XO.nilRow 9 1 ?_
 refine XO.nk [(2, _), (6, _), (7, _)] (S3 rfl rfl rfl) ?_
 refine XC.sr ?_
 refine XO.as rfl rfl ?_
 refine XO.nilRow 3 1 ?_
 refine XO.nk [(2, _), (6, _), (7, _), (8, _)] (S4 rfl rfl rfl rfl) ?_
 refine XC.seq ?_
 refine XC.sr ?_
 refine XO.as rfl rfl ?_
 refine XO.nk [(2, _), (6, _), (7, _), (8, _), (9, _)] (S5 rfl rfl rfl rfl rfl) ?_
 refine XC.block ?_
 refine XC.loop (σ := Int × (Option Addr × Nat) × (Option Addr × Nat)) (fun q => ((s.names n).length - q.1).toNat) (fun q => 0 ≤ q.1 ∧ q.1 ≤ (s.names n).length) (fun q => [(7, .slice q.2.1.1 (cutT (s.names n) (posn (s.names n) x) q.1.toNat).length q.2.1.2), (8, .slice q.2.2.1 (cutT (s.kids n) (posn (s.names n) x) q.1.toNat).length q.2.2.2), (9, .int .i64 q.1), (2, .string x), (6, ptr b o (0 + 0 + n.toNat * 8))]) (fun q => XM W (foot [.cells b o 321 (encM s), .fam fam40 (s.rowsN 9), .fam fam40 (s.rowsK 3)]) [srow q.2.1.1 q.2.1.2 9 (cutT (s.names n) (posn (s.names n) x) q.1.toNat), irow q.2.2.1 q.2.2.2 3 (cutT (s.kids n) (posn (s.names n) x) q.1.toNat), .cells b o 321 (encM s), .fam fam40 (s.rowsN 9), .fam fam40 (s.rowsK 3)]) ((0, (none, 0), (none, 0))) ?_ (Sub.cons (by rw [cutT_0]; rfl) (Sub.cons (by rw [cutT_0]; rfl) (S3 rfl rfl rfl))) (fun _ hw => by rw [cutT_0, cutT_0]; exact XM.pick (.cons (.there .here) .h4) hw) ?_
 ·
  exact ⟨by omega, by omega⟩
 intro q hq
 obtain ⟨hq0, hq1⟩ := hq
 have hz1 := cutT_len (s.names n) (posn (s.names n) x) q.1.toNat
 have hz2 := cutT_len (s.kids n) (posn (s.names n) x) q.1.toNat
 refine XC.seq ?_
 refine XC.sr ?_
 refine XO.mv rfl rfl ?_
 refine XO.mv rfl rfl ?_
 refine XO.v (V.nilCheckP rfl) rfl ?_
 refine XO.v (V.fieldAddr rfl fo_31_6) rfl ?_
 refine XO.v (V.load rfl (inXM (.t2 .here)) (encM.ld_N_Names _ _ (by omega)) sc_28) rfl ?_
 refine XO.v (V.lenSl rfl Tryz.underlying28) rfl ?_
 refine XO.v (V.cmp rfl rfl rfl) rfl ?_
 refine XO.nk [(2, _), (6, _), (7, _), (8, _), (9, _), (21, _)] (S6 rfl rfl rfl rfl rfl rfl) ?_
 refine XC.condP rfl (fun h1 => ?_) (fun h1 => ?_)
 ·
  refine XC.skip ?_
  refine XE.next ?_
  refine XC.keep [(2, _), (6, _), (7, _), (8, _), (9, _)] (S5 rfl rfl rfl rfl rfl) ?_
  refine XC.seq ?_
  refine XC.block ?_
  refine XC.sr ?_
  refine XO.mv rfl rfl ?_
  refine XO.v (V.nilCheckP rfl) rfl ?_
  refine XO.v (V.fieldAddr rfl fo_31_6) rfl ?_
  refine XO.v (V.load rfl (inXM (.t2 .here)) (encM.ld_N_Names _ _ (by omega)) sc_28) rfl ?_
  refine XO.mv rfl rfl ?_
  refine XO.mono (fun _ hw3 => XM.openN (s := s) (z := n) (by omega) (.cons (.t3 .here) .nil) hw3) ?_
  refine XO.openRow .here (by omega) ?_
  intro g hg
  rw [hg]
  refine XO.v (V.indexSl rfl rfl sl_28 (by omega)) rfl ?_
  refine XO.v (V.loadRow rfl (inXM .here) (strs_at (by omega)) sc_9) rfl ?_
  refine XO.mono (fun _ hw3 => XM.closeN (s := s) s (z := n) (by omega) rfl (fset_same _ rfl).symm (fset_same _ hg).symm (fset_same _ rfl).symm .h2 hw3) ?_
  refine XO.mv rfl rfl ?_
  refine XO.v (V.strCmp rfl rfl rfl) rfl ?_
  refine XO.nk [(2, _), (6, _), (7, _), (8, _), (9, _), (32, _)] (S6 rfl rfl rfl rfl rfl rfl) ?_
  refine XC.condP rfl (fun h2 => ?_) (fun h2 => ?_)
  ·
   have hne : ats (s.names n) q.1.toNat ≠ x := by assumption
   have hpi : posn (s.names n) x ≠ q.1.toNat := fun c => hne (by rw [← c]; exact hp2)
   have hl1 : q.1.toNat < (s.names n).length := by omega
   have e1 : cutT (s.names n) (posn (s.names n) x) (q.1 + 1).toNat = cutT (s.names n) (posn (s.names n) x) q.1.toNat ++ [sat0 (s.names n) q.1] := by
    rw [show (q.1 + 1).toNat = q.1.toNat + 1 by omega]; exact cutT_next _ _ _ ByteArray.empty hl1 hpi
   have e2 : cutT (s.kids n) (posn (s.names n) x) (q.1 + 1).toNat = cutT (s.kids n) (posn (s.names n) x) q.1.toNat ++ [at0 (s.kids n) q.1] := by
    rw [show (q.1 + 1).toNat = q.1.toNat + 1 by omega]; exact cutT_next _ _ _ 0 (by omega) hpi
   refine XC.sr ?_
   refine XO.mv rfl rfl ?_
   refine XO.mv rfl rfl ?_
   refine XO.v (V.nilCheckP rfl) rfl ?_
   refine XO.v (V.fieldAddr rfl fo_31_6) rfl ?_
   refine XO.v (V.load rfl (inXM (.t3 .here)) (encM.ld_N_Names _ _ (by omega)) sc_28) rfl ?_
   refine XO.mv rfl rfl ?_
   refine XO.mono (fun _ hw3 => XM.openN (s := s) (z := n) (by omega) .h1 hw3) ?_
   refine XO.openRow .here (by omega) ?_
   intro g hg
   rw [hg]
   refine XO.v (V.indexSl rfl rfl sl_28 (by omega)) rfl ?_
   refine XO.v (V.loadRow rfl (inXM .here) (strs_at (by omega)) sc_9) rfl ?_
   refine XO.mono (fun _ hw3 => XM.closeN (s := s) s (z := n) (by omega) rfl (fset_same _ rfl).symm (fset_same _ hg).symm (fset_same _ rfl).symm .h2 hw3) ?_
   refine XO.buildSlice (e := 9) (vs := #[(0, .string (sat0 (s.names n) q.1))]) (A := #[.string (sat0 (s.names n) q.1)]) rfl (fun _ => by kernel_rfl) rfl rfl ?_
   intro g7
   refine XO.appendS (e := 9) rfl rfl Tryz.underlying28 rt_9_1 (.t2 .here) .here (by omega) rfl ?_
   intro pc cc
   refine XO.as rfl rfl ?_
   refine XO.nk [(2, _), (6, _), (7, _), (8, _), (9, _)] (S5 rfl rfl rfl rfl rfl) ?_
   refine XC.region ?_
   refine XO.mv rfl rfl ?_
   refine XO.mv rfl rfl ?_
   refine XO.v (V.nilCheckP rfl) rfl ?_
   refine XO.v (V.fieldAddr rfl fo_31_7) rfl ?_
   refine XO.v (V.load rfl (inXM (.t4 .here)) (encM.ld_N_Kids _ _ (by omega)) sc_29) rfl ?_
   refine XO.mv rfl rfl ?_
   refine XO.mono (fun _ hw3 => XM.openK (s := s) (z := n) (by omega) (.cons (.t5 .here) .nil) hw3) ?_
   refine XO.openRow .here (by omega) ?_
   intro g hg
   rw [hg]
   refine XO.v (V.indexSl rfl rfl sl_29 (by omega)) rfl ?_
   refine XO.v (V.loadRow rfl (inXM .here) (ints_at (by omega)) sc_3) rfl ?_
   refine XO.mono (fun _ hw3 => XM.closeK (s := s) s (z := n) (by omega) rfl (fset_same _ rfl).symm (fset_same _ hg).symm (fset_same _ rfl).symm .h2 hw3) ?_
   refine XO.buildSlice (e := 3) (vs := #[(0, .int .i64 (at0 (s.kids n) q.1))]) (A := #[.int .i64 (at0 (s.kids n) q.1)]) rfl (fun _ => by kernel_rfl) rfl rfl ?_
   intro g8
   refine XO.appendI (e := 3) rfl rfl Tryz.underlying29 rt_3_1 (.t5 .here) .here (by omega) rfl ?_
   intro pd cd
   refine XO.as rfl rfl ?_
   refine XO.nil ?_
   refine XE.blockNormal ?_
   refine XE.next ?_
   refine XC.keep [(2, _), (6, _), (7, _), (8, _), (9, _)] (S5 rfl rfl rfl rfl rfl) ?_
   refine XC.region ?_
   refine XO.mv rfl rfl ?_
   refine XO.v (V.add rfl rfl _ (IntWalk.i64_in _ (by omega))) rfl ?_
   refine XO.as rfl rfl ?_
   refine XO.nil ?_
   refine XE.again ((q.1 + 1, (pc, cc), (pd, cd))) ?_ ?_ (Sub.cons (by rw [e1]; try rfl) (Sub.cons (by rw [e2]; try rfl) (S3 rfl rfl rfl))) (fun _ hw => by rw [e1, e2]; exact XM.pick (.cons (.t3 .here) (.cons .here (.cons (.t4 .here) (.cons (.t3 .here) (.cons (.there .here) .nil))))) hw)
   ·
    (first | omega | (simp; done) | (simp; omega))
   ·
    (first | omega | (simp; done) | (simp; omega))
  ·
   have heq : ats (s.names n) q.1.toNat = x := Decidable.byContradiction (by assumption)
   have hpi := at_posn hr (i := q.1.toNat) (by omega) heq
   have e1 : cutT (s.names n) (posn (s.names n) x) (q.1 + 1).toNat = cutT (s.names n) (posn (s.names n) x) q.1.toNat := by
    rw [show (q.1 + 1).toNat = q.1.toNat + 1 by omega, hpi]; exact cutT_here _ _ (by omega)
   have e2 : cutT (s.kids n) (posn (s.names n) x) (q.1 + 1).toNat = cutT (s.kids n) (posn (s.names n) x) q.1.toNat := by
    rw [show (q.1 + 1).toNat = q.1.toNat + 1 by omega, hpi]; exact cutT_here _ _ (by omega)
   refine XC.skip ?_
   refine XE.blockNormal ?_
   refine XE.next ?_
   refine XC.keep [(2, _), (6, _), (7, _), (8, _), (9, _)] (S5 rfl rfl rfl rfl rfl) ?_
   refine XC.region ?_
   refine XO.mv rfl rfl ?_
   refine XO.v (V.add rfl rfl _ (IntWalk.i64_in _ (by omega))) rfl ?_
   refine XO.as rfl rfl ?_
   refine XO.nil ?_
   refine XE.again ((q.1 + 1, q.2.1, q.2.2)) ?_ ?_ (Sub.cons (by rw [e1]; try rfl) (Sub.cons (by rw [e2]; try rfl) (S3 rfl rfl rfl))) (fun _ hw => by rw [e1, e2]; exact XM.pick (.cons (.there .here) (.cons (.there .here) (.cons (.there .here) .h2))) hw)
   ·
    (first | omega | (simp; done) | (simp; omega))
   ·
    (first | omega | (simp; done) | (simp; omega))
 ·
  have hql : q.1.toNat = (s.names n).length := by omega
  have e3 : cutT (s.names n) (posn (s.names n) x) q.1.toNat = (s.names n).eraseIdx (posn (s.names n) x) := by rw [hql]; exact cutT_end _ _
  have e4 : cutT (s.kids n) (posn (s.names n) x) q.1.toNat = (s.kids n).eraseIdx (posn (s.names n) x) := by rw [hql, hk]; exact cutT_end _ _
  refine XC.exit ?_
  refine XE.thenExit ?_
  refine XE.thenExit ?_
  refine XE.blockExit ?_
  refine XE.next ?_
  refine XC.keep [(6, _), (7, _), (8, _)] (S3 rfl rfl rfl) ?_
  refine XC.sr ?_
  rw [e3, e4]
  refine XO.mv rfl rfl ?_
  refine XO.mv rfl rfl ?_
  refine XO.v (V.nilCheckP rfl) rfl ?_
  refine XO.v (V.fieldAddr rfl fo_31_6) rfl ?_
  refine XO.store rfl rfl (.t2 .here) (encM.st_N_Names _ _ (by omega) ((s.names n).eraseIdx (posn (s.names n) x)) _ _ _ rfl) rfl sz_28_1 ?_
  refine XO.nk [(6, _), (8, _)] (S2 rfl rfl) ?_
  refine XC.region ?_
  refine XO.mv rfl rfl ?_
  refine XO.mv rfl rfl ?_
  refine XO.v (V.nilCheckP rfl) rfl ?_
  refine XO.v (V.fieldAddr rfl fo_31_7) rfl ?_
  refine XO.store rfl rfl (.t2 .here) (encM.st_N_Kids _ _ (by omega) ((s.kids n).eraseIdx (posn (s.names n) x)) _ _ _ rfl) rfl sz_29_1 ?_
  refine XO.mono (fun _ hw3 => XM.openN (s := s) (z := n) (by omega) (.cons (.t3 .here) .nil) hw3) ?_
  refine XO.mono (fun _ hw3 => XM.openK (s := s) (z := n) (by omega) (.cons (.t5 .here) .nil) hw3) ?_
  refine XO.mono (fun _ hw3 => XM.closeN (s := s) ((⟨s.cutF n x, fset s.nP n q.2.1.1, fset s.nC n q.2.1.2, fset s.kP n q.2.2.1, fset s.kC n q.2.2.2, s.rP, s.rC⟩ : FC)) (z := n) (l := ((s.names n).eraseIdx (posn (s.names n) x))) (by omega) (rfl) rfl rfl rfl (.cons (.t4 .here) (.cons (.t3 .here) .nil)) hw3) ?_
  refine XO.mono (fun _ hw3 => XM.closeK (s := s) ((⟨s.cutF n x, fset s.nP n q.2.1.1, fset s.nC n q.2.1.2, fset s.kP n q.2.2.1, fset s.kC n q.2.2.2, s.rP, s.rC⟩ : FC)) (z := n) (l := ((s.kids n).eraseIdx (posn (s.names n) x))) (by omega) (rfl) rfl rfl rfl (.cons (.t4 .here) (.cons (.t2 .here) .nil)) hw3) ?_
  refine XO.nil ?_
  refine XE.end0 rfl (post_of (.cons (.t4 .here) (.cons (.there .here) .h1)) rfl ?_)
  exact ⟨rfl, (⟨s.cutF n x, fset s.nP n q.2.1.1, fset s.nC n q.2.1.2, fset s.kP n q.2.2.1, fset s.kC n q.2.2.2, s.rP, s.rC⟩ : FC), rfl, rfl, rfl, rfl⟩
end Go.X
