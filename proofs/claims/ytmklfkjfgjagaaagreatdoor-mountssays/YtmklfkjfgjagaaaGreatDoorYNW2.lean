import Derived.Test.YtmklfkjfgjagaaaGreatDoorXShort
import Derived.Test.YtmklfkjfgjagaaaGreatDoorYNW
namespace Go.X
open Go Go.Proofs
theorem ag_69 : aggT Tryz.prog 69 = true := by kernel_rfl
theorem cl_87 : callable Tryz.prog 87 = true := by kernel_rfl
theorem cl_90 : callable Tryz.prog 90 = true := by kernel_rfl
theorem cl_91 : callable Tryz.prog 91 = true := by kernel_rfl
theorem cl_93 : callable Tryz.prog 93 = true := by kernel_rfl
theorem cl_94 : callable Tryz.prog 94 = true := by kernel_rfl
theorem fo_69_1 : fieldOff Tryz.prog 69 1 = some 1 := by kernel_rfl
theorem fo_69_2 : fieldOff Tryz.prog 69 2 = some 2 := by kernel_rfl
theorem fo_69_3 : fieldOff Tryz.prog 69 3 = some 3 := by kernel_rfl
theorem fo_69_7 : fieldOff Tryz.prog 69 7 = some 7 := by kernel_rfl
theorem fo_72_1 : fieldOff Tryz.prog 72 1 = some 320 := by kernel_rfl
theorem sz_28_1 : szOf Tryz.prog 28 = some 1 := by kernel_rfl
theorem sz_29_1 : szOf Tryz.prog 29 = some 1 := by kernel_rfl
theorem sz_69_8 : szOf Tryz.prog 69 = some 8 := by kernel_rfl
set_option maxRecDepth 10000 in
set_option maxHeartbeats 1000000 in
theorem t_room (b o : Nat) (s : FC) (hI : s.toFF.Sh) (n : Int) (x : ByteArray) (hx : x.size ≤ 9223372036854775807) : Spec Tryz.prog 68 [ptr b o 0, .int .i64 n, .string x]
    [.cells b o 321 (encF s), .fam fam40 (s.rowsN 9), .fam fam40 (s.rowsK 3)]
    (fun v H1 => v = errv 76 (s.roomE n x) ∧ H1 = [.cells b o 321 (encF s), .fam fam40 (FC.rowsN 9 s), .fam fam40 (FC.rowsK 3 s)]) := by
 refine Spec.intro Tryz.func68 rfl rfl ?_
 intro W
 refine XC.sr ?_
 refine XO.as rfl rfl ?_
 refine XO.nk [(0, _), (1, _), (2, _)] (S3 rfl rfl rfl) ?_
 refine XC.sr ?_
 refine XO.mv rfl rfl ?_
 refine XO.mv rfl rfl ?_
 refine XO.call rfl (t_dir _ _ _ _) .h1 cl_79 rfl ?_
 rintro _ _ ⟨rfl, rfl⟩
 refine XO.as rfl rfl ?_
 refine XO.nk [(0, _), (1, _), (2, _), (7, _)] (S4 rfl rfl rfl rfl) ?_
 refine XC.seq ?_
 refine XC.sr ?_
 refine XO.mv rfl rfl ?_
 refine XO.v (V.errNil rfl Tryz.underlying37 rfl) rfl ?_
 refine XO.nk [(0, _), (1, _), (2, _), (7, _), (14, _)] (S5 rfl rfl rfl rfl rfl) ?_
 refine XC.condP rfl (fun h1 => ?_) (fun h1 => ?_)
 ·
  have i0 : s.isE n 2 ≠ 0 := by assumption
  refine XC.sr ?_
  refine XO.mv rfl rfl ?_
  refine XO.as rfl rfl ?_
  refine XO.nk [(6, _)] (S1 rfl) ?_
  refine XC.ret ?_
  refine XE.thenRet ?_
  refine XE.ret1 rfl rfl (post_of .h3 rfl ?_)
  have e : s.roomE n x = s.isE n 2 := by unfold FF.roomE; rw [if_pos i0]
  exact ⟨by rw [e], rfl⟩
 ·
  obtain ⟨i1, i2, i3, i4⟩ := FF.isE_k0 (show s.isE n 2 = 0 by simpa using h1)
  have i0 : s.isE n 2 = 0 := by simpa using h1
  obtain ⟨hr, hk, h8, _⟩ := hI.rise n (by omega) (by omega)
  have hbs := bsS_eq hr x
  have hbh := bsHit_eq hr x
  have hpl := posn_le (s.names n) x
  refine XC.skip ?_
  refine XE.next ?_
  refine XC.keep [(0, _), (1, _), (2, _)] (S3 rfl rfl rfl) ?_
  refine XC.seq ?_
  refine XC.sr ?_
  refine XO.mv rfl rfl ?_
  refine XO.call rfl (t_Name _ (by omega)) .nil cl_87 rfl ?_
  rintro _ _ ⟨rfl, rfl⟩
  refine XO.v (V.not rfl) rfl ?_
  refine XO.nk [(0, _), (1, _), (2, _), (18, _)] (S4 rfl rfl rfl rfl) ?_
  refine XC.cond rfl (fun h2 => ?_) (fun h2 => ?_)
  ·
   try simp only [sb] at h2
   have hn : nameOk x = false := by simpa using h2
   refine XC.sr ?_
   refine XO.v (V.makeIface rfl Tryz.underlying76 (by simp)) rfl ?_
   refine XO.as rfl rfl ?_
   refine XO.nk [(6, _)] (S1 rfl) ?_
   refine XC.ret ?_
   refine XE.thenRet ?_
   refine XE.ret1 rfl rfl (post_of .h3 rfl ?_)
   have e : s.roomE n x = 9 := by unfold FF.roomE; rw [if_neg (by omega), if_pos hn]
   exact ⟨by rw [e]; rfl, rfl⟩
  ·
   try simp only [sb] at h2
   have hn : nameOk x = true := by simpa using h2
   refine XC.skip ?_
   refine XE.next ?_
   refine XC.keep [(0, _), (1, _), (2, _)] (S3 rfl rfl rfl) ?_
   refine XC.sr ?_
   refine XO.mv rfl rfl ?_
   refine XO.mv rfl rfl ?_
   refine XO.v (V.nilCheckP rfl) rfl ?_
   refine XO.v (V.fieldAddr rfl fo_72_0) rfl ?_
   refine XO.v (V.indexArr rfl rfl ar_70 (by omega)) rfl ?_
   refine XO.v (V.fieldAddr rfl fo_69_5) rfl ?_
   refine XO.v (V.load rfl (inXM .here) (encF.ld_n_names _ _ (by omega)) sc_28) rfl ?_
   refine XO.mono (fun _ hw3 => XM.openN (s := s) (z := n) (by omega) (.cons (.there .here) .nil) hw3) ?_
   refine XO.mv rfl rfl ?_
   refine XO.call rfl (s_search _ _ _ _ (by omega)) .h1 cl_81 rfl ?_
   rintro _ _ ⟨rfl, rfl⟩
   refine XO.mono (fun _ hw3 => XM.closeN (s := s) s (z := n) (by omega) rfl (fset_same _ rfl).symm (fset_same _ rfl).symm (fset_same _ rfl).symm .h2 hw3) ?_
   refine XO.mv rfl rfl ?_
   refine XO.v (V.extract rfl rfl) rfl ?_
   refine XO.v (V.extract rfl rfl) rfl ?_
   refine XO.as rfl rfl ?_
   refine XO.as rfl rfl ?_
   refine XO.nk [(0, _), (1, _), (9, _)] (S3 rfl rfl rfl) ?_
   refine XC.seq ?_
   refine XC.sr ?_
   refine XO.mv rfl rfl ?_
   refine XO.nk [(0, _), (1, _), (32, _)] (S3 rfl rfl rfl) ?_
   refine XC.cond rfl (fun h3 => ?_) (fun h3 => ?_)
   ·
    try simp only [sb] at h3
    have hh : hasn (s.names n) x = true := by rw [← hbh]; simpa using h3
    refine XC.sr ?_
    refine XO.v (V.makeIface rfl Tryz.underlying76 (by simp)) rfl ?_
    refine XO.as rfl rfl ?_
    refine XO.nk [(6, _)] (S1 rfl) ?_
    refine XC.ret ?_
    refine XE.thenRet ?_
    refine XE.ret1 rfl rfl (post_of (.cons (.there .here) .h2) rfl ?_)
    have e : s.roomE n x = 3 := by unfold FF.roomE; rw [if_neg (by omega), if_neg (by rw [hn]; simp), if_pos hh]
    exact ⟨by rw [e]; rfl, rfl⟩
   ·
    try simp only [sb] at h3
    have hh : hasn (s.names n) x = false := by rw [← hbh]; simpa using h3
    refine XC.skip ?_
    refine XE.next ?_
    refine XC.keep [(0, _), (1, _)] (S2 rfl rfl) ?_
    refine XC.seq ?_
    refine XC.sr ?_
    refine XO.mv rfl rfl ?_
    refine XO.mv rfl rfl ?_
    refine XO.v (V.nilCheckP rfl) rfl ?_
    refine XO.v (V.fieldAddr rfl fo_72_0) rfl ?_
    refine XO.v (V.indexArr rfl rfl ar_70 (by omega)) rfl ?_
    refine XO.v (V.fieldAddr rfl fo_69_5) rfl ?_
    refine XO.v (V.load rfl (inXM (.there .here)) (encF.ld_n_names _ _ (by omega)) sc_28) rfl ?_
    refine XO.v (V.lenSl rfl Tryz.underlying28) rfl ?_
    refine XO.v (V.cmp rfl rfl rfl) rfl ?_
    refine XO.nk [(42, _)] (S1 rfl) ?_
    refine XC.condP rfl (fun h4 => ?_) (fun h4 => ?_)
    ·
     refine XC.sr ?_
     refine XO.v (V.makeIface rfl Tryz.underlying76 (by simp)) rfl ?_
     refine XO.as rfl rfl ?_
     refine XO.nk [(6, _)] (S1 rfl) ?_
     refine XC.ret ?_
     refine XE.thenRet ?_
     refine XE.ret1 rfl rfl (post_of (.cons (.there .here) .h2) rfl ?_)
     have e : s.roomE n x = 4 := by unfold FF.roomE; rw [if_neg (by omega), if_neg (by rw [hn]; simp), if_neg (by rw [hh]; simp), if_pos (by omega)]
     exact ⟨by rw [e]; rfl, rfl⟩
    ·
     refine XC.skip ?_
     refine XE.next ?_
     refine XC.keep [] (Sub.nil _) ?_
     refine XC.sr ?_
     refine XO.as rfl rfl ?_
     refine XO.nk [(6, _)] (S1 rfl) ?_
     refine XC.ret ?_
     refine XE.ret1 rfl rfl (post_of (.cons (.there .here) .h2) rfl ?_)
     have e : s.roomE n x = 0 := by unfold FF.roomE; rw [if_neg (by omega), if_neg (by rw [hn]; simp), if_neg (by rw [hh]; simp), if_neg (by omega)]
     exact ⟨by rw [e]; rfl, rfl⟩
set_option maxRecDepth 10000 in
set_option maxHeartbeats 2000000 in
theorem t_put (b o : Nat) (s : FC) (hI : s.toFF.Sh) (n : Int) (x : ByteArray) (k : Int) (hn : 0 ≤ n ∧ n < 40) : Spec Tryz.prog 69 [ptr b o 0, .int .i64 n, .string x, .int .i64 k]
    [.cells b o 321 (encF s), .fam fam40 (s.rowsN 9), .fam fam40 (s.rowsK 3)]
    (fun v H1 => v = .tuple #[] ∧ ∃ t : FC, t.toFF = s.putF n x k ∧ t.rP = s.rP ∧ t.rC = s.rC ∧ H1 = [.cells b o 321 (encF t), .fam fam40 (FC.rowsN 9 t), .fam fam40 (FC.rowsK 3 t)]) := by
 obtain ⟨hr, hk, h8, _⟩ := hI.rise n (by omega) (by omega)
 have hbs := bsS_eq hr x
 have hbh := bsHit_eq hr x
 have hpl := posn_le (s.names n) x
 refine Spec.intro Tryz.func69 rfl rfl ?_
 intro W
 refine XC.sr ?_
 refine XO.mv rfl rfl ?_
 refine XO.mv rfl rfl ?_
 refine XO.v (V.nilCheckP rfl) rfl ?_
 refine XO.v (V.fieldAddr rfl fo_72_0) rfl ?_
 refine XO.v (V.indexArr rfl rfl ar_70 (by omega)) rfl ?_
 refine XO.as rfl rfl ?_
 refine XO.nk [(2, _), (3, _), (8, _)] (S3 rfl rfl rfl) ?_
 refine XC.sr ?_
 refine XO.mv rfl rfl ?_
 refine XO.v (V.nilCheckP rfl) rfl ?_
 refine XO.v (V.fieldAddr rfl fo_69_5) rfl ?_
 refine XO.v (V.load rfl (inXM .here) (encF.ld_n_names _ _ (by omega)) sc_28) rfl ?_
 refine XO.mono (fun _ hw3 => XM.openN (s := s) (z := n) (by omega) (.cons (.there .here) .nil) hw3) ?_
 refine XO.mv rfl rfl ?_
 refine XO.call rfl (s_search _ _ _ _ (by omega)) .h1 cl_81 rfl ?_
 rintro _ _ ⟨rfl, rfl⟩
 rw [hbs]
 refine XO.mono (fun _ hw3 => XM.closeN (s := s) s (z := n) (by omega) rfl (fset_same _ rfl).symm (fset_same _ rfl).symm (fset_same _ rfl).symm .h2 hw3) ?_
 refine XO.mv rfl rfl ?_
 refine XO.v (V.extract rfl rfl) rfl ?_
 refine XO.v (V.extract rfl rfl) rfl ?_
 refine XO.as rfl rfl ?_
 refine XO.as rfl rfl ?_
 refine XO.nk [(2, _), (3, _), (8, _), (9, _)] (S4 rfl rfl rfl rfl) ?_
 refine XC.sr ?_
 refine XO.mv rfl rfl ?_
 refine XO.mv rfl rfl ?_
 refine XO.v (V.nilCheckP rfl) rfl ?_
 refine XO.v (V.fieldAddr rfl fo_69_5) rfl ?_
 refine XO.v (V.load rfl (inXM (.there .here)) (encF.ld_n_names _ _ (by omega)) sc_28) rfl ?_
 refine XO.mono (fun _ hw3 => XM.openN (s := s) (z := n) (by omega) .h1 hw3) ?_
 refine XO.mv rfl rfl ?_
 refine XO.mv rfl rfl ?_
 refine XO.buildRow (e := 9) (vs := #[(0, .string x)]) (A := #[.string x]) (sz := 1) rfl (fun _ => by kernel_rfl) rfl (by omega) rfl ?_
 intro b1
 refine XO.call rfl (s_insS _ _ _ _ hpl _ _ (by omega)) (.cons (.there .here) .h1) cl_90 rfl ?_
 rintro _ _ ⟨p1, c1, rfl, rfl⟩
 refine XO.mono (fun _ hw3 => XM.closeN (s := s) ({ s with names := fset s.names n ((s.names n).insertIdx (posn (s.names n) x) x), nP := fset s.nP n p1, nC := fset s.nC n c1 } : FC) (z := n) (l := ((s.names n).insertIdx (posn (s.names n) x) x)) (by omega) (by rw [List.length_insertIdx, if_pos hpl]) rfl rfl rfl (.cons .here (.cons (.there .here) .nil)) hw3) ?_
 refine XO.v (V.nilCheckP rfl) rfl ?_
 refine XO.v (V.fieldAddr rfl fo_69_5) rfl ?_
 refine XO.store rfl rfl (.t2 .here) (encF.st_n_names _ _ (by omega) ((s.names n).insertIdx (posn (s.names n) x) x) _ _ _ (by rw [List.length_insertIdx, if_pos hpl])) rfl sz_28_1 ?_
 refine XO.nk [(3, _), (8, _), (9, _)] (S3 rfl rfl rfl) ?_
 refine XC.region ?_
 refine XO.mv rfl rfl ?_
 refine XO.mv rfl rfl ?_
 refine XO.v (V.nilCheckP rfl) rfl ?_
 refine XO.v (V.fieldAddr rfl fo_69_6) rfl ?_
 refine XO.v (V.load rfl (inXM (.t2 .here)) (encF.ld_n_kids _ _ (by omega)) sc_29) rfl ?_
 refine XO.mono (fun _ hw3 => XM.openK (s := s) (z := n) (by omega) (.cons (.t3 .here) .nil) hw3) ?_
 refine XO.mv rfl rfl ?_
 refine XO.mv rfl rfl ?_
 refine XO.buildRow (e := 3) (vs := #[(0, .int .i64 k)]) (A := #[.int .i64 k]) (sz := 1) rfl (fun _ => by kernel_rfl) rfl (by omega) rfl ?_
 intro b2
 refine XO.call rfl (s_insI (s.kP n) (s.kC n) (s.kids n) (posn (s.names n) x) (by omega) k _ (by omega)) (.cons (.there .here) .h1) cl_91 rfl ?_
 rintro _ _ ⟨p2, c2, rfl, rfl⟩
 refine XO.mono (fun _ hw3 => XM.closeK (s := s) (s.putC n x k p1 c1 p2 c2) (z := n) (l := ((s.kids n).insertIdx (posn (s.names n) x) k)) (by omega) (by rw [List.length_insertIdx, if_pos (by omega)]) rfl rfl rfl (.cons .here (.cons (.there .here) .nil)) hw3) ?_
 refine XO.v (V.nilCheckP rfl) rfl ?_
 refine XO.v (V.fieldAddr rfl fo_69_6) rfl ?_
 refine XO.store rfl rfl (.t4 .here) (encF.st_n_kids _ _ (by omega) ((s.kids n).insertIdx (posn (s.names n) x) k) _ _ _ (by rw [List.length_insertIdx, if_pos (by omega)])) rfl sz_29_1 ?_
 refine XO.nil ?_
 refine XE.end0 rfl (post_of (.cons (.t4 .here) (.cons (.t2 .here) .h1)) rfl ?_)
 exact ⟨rfl, s.putC n x k p1 c1 p2 c2, rfl, rfl, rfl, rfl⟩
set_option maxRecDepth 10000 in
set_option maxHeartbeats 2000000 in
theorem t_cut (b o : Nat) (s : FC) (hI : s.toFF.Sh) (n : Int) (x : ByteArray) (hn : 0 ≤ n ∧ n < 40) (hh : hasn (s.names n) x = true) : Spec Tryz.prog 76 [ptr b o 0, .int .i64 n, .string x]
    [.cells b o 321 (encF s), .fam fam40 (s.rowsN 9), .fam fam40 (s.rowsK 3)]
    (fun v H1 => v = .tuple #[] ∧ ∃ t : FC, t.toFF = s.cutF n x ∧ t.rP = s.rP ∧ t.rC = s.rC ∧ H1 = [.cells b o 321 (encF t), .fam fam40 (FC.rowsN 9 t), .fam fam40 (FC.rowsK 3 t)]) := by
 obtain ⟨hr, hk, h8, _⟩ := hI.rise n (by omega) (by omega)
 have hbs := bsS_eq hr x
 have hbh := bsHit_eq hr x
 have hpl := posn_le (s.names n) x
 have hlt := (hasn_iff.1 hh).1
 refine Spec.intro Tryz.func76 rfl rfl ?_
 intro W
 refine XC.sr ?_
 refine XO.mv rfl rfl ?_
 refine XO.mv rfl rfl ?_
 refine XO.v (V.nilCheckP rfl) rfl ?_
 refine XO.v (V.fieldAddr rfl fo_72_0) rfl ?_
 refine XO.v (V.indexArr rfl rfl ar_70 (by omega)) rfl ?_
 refine XO.as rfl rfl ?_
 refine XO.nk [(2, _), (6, _)] (S2 rfl rfl) ?_
 refine XC.sr ?_
 refine XO.mv rfl rfl ?_
 refine XO.v (V.nilCheckP rfl) rfl ?_
 refine XO.v (V.fieldAddr rfl fo_69_5) rfl ?_
 refine XO.v (V.load rfl (inXM .here) (encF.ld_n_names _ _ (by omega)) sc_28) rfl ?_
 refine XO.mono (fun _ hw3 => XM.openN (s := s) (z := n) (by omega) (.cons (.there .here) .nil) hw3) ?_
 refine XO.mv rfl rfl ?_
 refine XO.call rfl (s_search _ _ _ _ (by omega)) .h1 cl_81 rfl ?_
 rintro _ _ ⟨rfl, rfl⟩
 rw [hbs]
 refine XO.mono (fun _ hw3 => XM.closeN (s := s) s (z := n) (by omega) rfl (fset_same _ rfl).symm (fset_same _ rfl).symm (fset_same _ rfl).symm .h2 hw3) ?_
 refine XO.mv rfl rfl ?_
 refine XO.v (V.extract rfl rfl) rfl ?_
 refine XO.v (V.extract rfl rfl) rfl ?_
 refine XO.as rfl rfl ?_
 refine XO.as rfl rfl ?_
 refine XO.nk [(6, _), (7, _)] (S2 rfl rfl) ?_
 refine XC.sr ?_
 refine XO.mv rfl rfl ?_
 refine XO.mv rfl rfl ?_
 refine XO.v (V.nilCheckP rfl) rfl ?_
 refine XO.v (V.fieldAddr rfl fo_69_5) rfl ?_
 refine XO.v (V.load rfl (inXM (.there .here)) (encF.ld_n_names _ _ (by omega)) sc_28) rfl ?_
 refine XO.mono (fun _ hw3 => XM.openN (s := s) (z := n) (by omega) .h1 hw3) ?_
 refine XO.mv rfl rfl ?_
 refine XO.mv rfl rfl ?_
 refine XO.v (V.add rfl rfl _ (IntWalk.i64_in _ (by omega))) rfl ?_
 refine XO.call rfl (s_delS _ _ _ _ hlt (by omega)) .h1 cl_93 rfl ?_
 rintro _ _ ⟨rfl, rfl⟩
 refine XO.mono (fun _ hw3 => XM.closeN (s := s) ({ s with names := fset s.names n ((s.names n).eraseIdx (posn (s.names n) x)), nP := fset s.nP n (s.nP n), nC := fset s.nC n (s.nC n) } : FC) (z := n) (l := ((s.names n).eraseIdx (posn (s.names n) x))) (by omega) (by rw [List.length_eraseIdx, if_pos hlt]) rfl rfl rfl .h2 hw3) ?_
 refine XO.v (V.nilCheckP rfl) rfl ?_
 refine XO.v (V.fieldAddr rfl fo_69_5) rfl ?_
 refine XO.store rfl rfl (.there .here) (encF.st_n_names _ _ (by omega) ((s.names n).eraseIdx (posn (s.names n) x)) _ _ _ (by rw [List.length_eraseIdx, if_pos hlt])) rfl sz_28_1 ?_
 refine XO.nk [(6, _), (7, _)] (S2 rfl rfl) ?_
 refine XC.region ?_
 refine XO.mv rfl rfl ?_
 refine XO.mv rfl rfl ?_
 refine XO.v (V.nilCheckP rfl) rfl ?_
 refine XO.v (V.fieldAddr rfl fo_69_6) rfl ?_
 refine XO.v (V.load rfl (inXM (.there .here)) (encF.ld_n_kids _ _ (by omega)) sc_29) rfl ?_
 refine XO.mono (fun _ hw3 => XM.openK (s := s) (z := n) (by omega) (.cons (.t2 .here) .nil) hw3) ?_
 refine XO.mv rfl rfl ?_
 refine XO.mv rfl rfl ?_
 refine XO.v (V.add rfl rfl _ (IntWalk.i64_in _ (by omega))) rfl ?_
 refine XO.call rfl (s_delI (s.kP n) (s.kC n) (s.kids n) (posn (s.names n) x) (by omega) (by omega)) .h1 cl_94 rfl ?_
 rintro _ _ ⟨rfl, rfl⟩
 refine XO.mono (fun _ hw3 => XM.closeK (s := s) (s.cutC n x) (z := n) (l := ((s.kids n).eraseIdx (posn (s.names n) x))) (by omega) (by rw [List.length_eraseIdx, if_pos (by omega)]) rfl rfl rfl .h2 hw3) ?_
 refine XO.v (V.nilCheckP rfl) rfl ?_
 refine XO.v (V.fieldAddr rfl fo_69_6) rfl ?_
 refine XO.store rfl rfl (.t2 .here) (encF.st_n_kids _ _ (by omega) ((s.kids n).eraseIdx (posn (s.names n) x)) _ _ _ (by rw [List.length_eraseIdx, if_pos (by omega)])) rfl sz_29_1 ?_
 refine XO.nil ?_
 refine XE.end0 rfl (post_of (.cons (.t2 .here) (.cons (.there .here) .h1)) rfl ?_)
 exact ⟨rfl, s.cutC n x, rfl, rfl, rfl, rfl⟩
set_option maxRecDepth 10000 in
set_option maxHeartbeats 1000000 in
theorem t_fresh (b o : Nat) (s : FC) (k t l u : Int) : Spec Tryz.prog 26 [ptr b o 0, .agg (nodeA k t l u)]
    [.cells b o 321 (encF s), .fam fam40 (s.rowsN 9), .fam fam40 (s.rowsK 3)]
    (fun v H1 => (s.free < 0 ∧ v = .tuple #[.int .i64 0, errv 76 4] ∧ H1 = [.cells b o 321 (encF s), .fam fam40 (FC.rowsN 9 s), .fam fam40 (FC.rowsK 3 s)]) ∨ (¬ s.free < 0 ∧ v = .tuple #[.int .i64 s.free, errv 76 0] ∧ H1 = [.cells b o 321 (encF (s.setC s.free k t l u)), .fam fam40 (FC.rowsN 9 (s.setC s.free k t l u)), .fam fam40 (FC.rowsK 3 (s.setC s.free k t l u))])) := by
 refine Spec.intro Tryz.func26 rfl rfl ?_
 intro W
 refine XC.sr ?_
 refine XO.box (m := 8) (C := encF.cell (nodeU k t l u)) rfl rfl (node_box k t l u) rfl ?_
 intro bx
 refine XO.as rfl rfl ?_
 refine XO.as rfl rfl ?_
 refine XO.nk [(0, _), (3, _)] (S2 rfl rfl) ?_
 refine XC.seq ?_
 refine XC.sr ?_
 refine XO.mv rfl rfl ?_
 refine XO.nk [(0, _), (3, _), (7, _)] (S3 rfl rfl rfl) ?_
 refine XC.block ?_
 refine XC.loop (σ := Int) (fun i => (40 - i).toNat) (fun i => (0 ≤ i ∧ i ≤ 40) ∧ ∀ j, 0 ≤ j → j < i → s.kind j ≠ 0) (fun i => [(7, .int .i64 i), (0, ptr b o 0), (3, ptr bx 0 0)]) (fun i => XM W (foot [.cells b o 321 (encF s), .fam fam40 (s.rowsN 9), .fam fam40 (s.rowsK 3)]) [.cells b o 321 (encF s), .fam fam40 (s.rowsN 9), .fam fam40 (s.rowsK 3), .cells bx 0 8 (encF.cell (nodeU k t l u))]) (0) ?_ (S3 rfl rfl rfl) (fun _ hw => XM.pick (.cons (.there .here) (.cons (.there .here) (.cons (.there .here) .h1))) hw) ?_
 ·
  exact ⟨by omega, fun j a b => by omega⟩
 intro i hi
 obtain ⟨hi, ho⟩ := hi
 refine XC.sr ?_
 refine XO.v (V.cmp rfl rfl rfl) rfl ?_
 refine XO.nk [(0, _), (3, _), (7, _), (8, _)] (S4 rfl rfl rfl rfl) ?_
 refine XC.seq ?_
 refine XC.condP rfl (fun h1 => ?_) (fun h1 => ?_)
 ·
  refine XC.skip ?_
  refine XE.next ?_
  refine XC.keep [(0, _), (3, _), (7, _)] (S3 rfl rfl rfl) ?_
  refine XC.seq ?_
  refine XC.block ?_
  refine XC.sr ?_
  refine XO.mv rfl rfl ?_
  refine XO.as rfl rfl ?_
  refine XO.nk [(0, _), (3, _), (6, _), (7, _)] (S4 rfl rfl rfl rfl) ?_
  refine XC.sr ?_
  refine XO.mv rfl rfl ?_
  refine XO.mv rfl rfl ?_
  refine XO.v (V.nilCheckP rfl) rfl ?_
  refine XO.v (V.fieldAddr rfl fo_72_0) rfl ?_
  refine XO.v (V.indexArr rfl rfl ar_70 (by omega)) rfl ?_
  refine XO.v (V.fieldAddr rfl fo_69_0) rfl ?_
  refine XO.v (V.load rfl (inXM .here) (encF.ld_n_kind _ _ (by omega)) sc_3) rfl ?_
  refine XO.v (V.cmp rfl rfl rfl) rfl ?_
  refine XO.nk [(0, _), (3, _), (6, _), (7, _), (17, _)] (S5 rfl rfl rfl rfl rfl) ?_
  refine XC.condP rfl (fun h2 => ?_) (fun h2 => ?_)
  ·
   refine XC.seq ?_
   refine XC.regionQ mixed (f := 7) (l := #[false, false, false, false, false, false, false]) rfl rfl XM.drawn' ?_
   refine XQ.pv (i := 0) (l' := #[tt,ff,ff,ff,ff,ff,ff]) rfl (by kernel_rfl) rfl (V.move rfl) rfl rfl ?_
   refine XQ.pv (i := 1) (l' := #[tt,tt,ff,ff,ff,ff,ff]) rfl (by kernel_rfl) rfl (V.move rfl) rfl rfl ?_
   refine XQ.load (i := 2) (l' := #[tt,tt,tt,ff,ff,ff,ff]) (.cells _ _ _ _) [6] rfl (by kernel_rfl) rfl (.t3 .here) (V.loadAgg rfl inEnt (node_agg k t l u) ag_69 sz_69_8) rfl (by kernel_rfl) rfl ?_
   refine XQ.pv (i := 3) (l' := #[tt,tt,tt,tt,ff,ff,ff]) rfl (by kernel_rfl) rfl (V.nilCheckP rfl) rfl rfl ?_
   refine XQ.pv (i := 4) (l' := #[tt,tt,tt,tt,tt,ff,ff]) rfl (by kernel_rfl) rfl (V.fieldAddr rfl fo_72_0) rfl rfl ?_
   refine XQ.pv (i := 5) (l' := #[tt,tt,tt,tt,tt,tt,ff]) rfl (by kernel_rfl) rfl (V.indexArr rfl rfl ar_70 (by omega)) rfl rfl ?_
   refine XQ.storeAgg (i := 6) (l' := #[tt,tt,tt,tt,tt,tt,tt]) rfl (by kernel_rfl) rfl rfl rfl .here (encF_new s i k t l u (by omega)) ⟨rfl, rfl⟩ sz_69_8 (fun _ hw' => ⟨fun hs => (hs 6 (by first | (simp; done) | (simp; rfl)) rfl).elim, trivial⟩) ?_
   refine XQ.mono (fun _ hw3 => XM.newN (s := s) (s.setC i k t l u) (by omega) rfl rfl rfl (.cons (.there .here) .nil) hw3) ?_
   refine XQ.mono (fun _ hw3 => XM.newK (s := s) (s.setC i k t l u) (by omega) rfl rfl rfl (.cons (.t2 .here) .nil) hw3) ?_
   refine XQ.done (by kernel_rfl) ?_
   refine XE.next ?_
   refine XC.keep [(6, _)] (S1 rfl) ?_
   refine XC.sr ?_
   refine XO.mv rfl rfl ?_
   refine XO.as rfl rfl ?_
   refine XO.as rfl rfl ?_
   refine XO.nk [(4, _), (5, _)] (S2 rfl rfl) ?_
   refine XC.ret ?_
   refine XE.blockRet ?_
   refine XE.thenRet ?_
   refine XE.thenRet ?_
   refine XE.blockRet ?_
   refine XE.thenRet ?_
   refine XE.ret2 rfl rfl rfl (post_of (.cons (.t2 .here) (.cons (.there .here) .h1)) rfl ?_)
   have e := FF.free_at hi.1 (by omega) ho (by assumption)
   exact .inr ⟨by omega, by rw [e]; rfl, by rw [e]⟩
  ·
   refine XC.skip ?_
   refine XE.blockNormal ?_
   refine XE.next ?_
   refine XC.keep [(0, _), (3, _), (7, _)] (S3 rfl rfl rfl) ?_
   refine XC.region ?_
   refine XO.v (V.add rfl rfl _ (IntWalk.i64_in _ (by omega))) rfl ?_
   refine XO.mv rfl rfl ?_
   refine XO.nil ?_
   refine XE.again (i + 1) ?_ ?_ (S3 rfl rfl rfl) (fun _ hw => XM.pick .h4 hw)
   ·
    (first | omega | (simp; done) | (simp; omega))
   ·
    refine ⟨by omega, fun j a b => ?_⟩
    by_cases c : j = i
    ·
     subst c; assumption
    ·
     exact ho j a (by omega)
 ·
  refine XC.exit ?_
  refine XE.thenExit ?_
  refine XE.thenExit ?_
  refine XE.blockExit ?_
  refine XE.next ?_
  refine XC.keep [] (Sub.nil _) ?_
  refine XC.sr ?_
  refine XO.v (V.makeIface rfl Tryz.underlying76 (by simp)) rfl ?_
  refine XO.as rfl rfl ?_
  refine XO.as rfl rfl ?_
  refine XO.nk [(4, _), (5, _)] (S2 rfl rfl) ?_
  refine XC.ret ?_
  refine XE.ret2 rfl rfl rfl (post_of .h3 rfl ?_)
  have e := FF.free_none (s := s.toFF) (fun j a b => ho j a (by omega))
  exact .inl ⟨by omega, rfl, rfl⟩
set_option maxRecDepth 10000 in
set_option maxHeartbeats 1000000 in
theorem t_gone (b o : Nat) (s : FC) (n : Int) (hn : 0 ≤ n ∧ n < 40) : Spec Tryz.prog 77 [ptr b o 0, .int .i64 n]
    [.cells b o 321 (encF s), .fam fam40 (s.rowsN 9), .fam fam40 (s.rowsK 3)]
    (fun v H1 => v = .tuple #[] ∧ ∃ t : FC, t.toFF = s.goneF n ∧ t.rP = s.rP ∧ t.rC = s.rC ∧ H1 = [.cells b o 321 (encF t), .fam fam40 (FC.rowsN 9 t), .fam fam40 (FC.rowsK 3 t)]) := by
 refine Spec.intro Tryz.func77 rfl rfl ?_
 intro W
 refine XC.sr ?_
 refine XO.mv rfl rfl ?_
 refine XO.mv rfl rfl ?_
 refine XO.v (V.nilCheckP rfl) rfl ?_
 refine XO.v (V.fieldAddr rfl fo_72_0) rfl ?_
 refine XO.v (V.indexArr rfl rfl ar_70 (by omega)) rfl ?_
 refine XO.v (V.fieldAddr rfl fo_69_2) rfl ?_
 refine XO.v (V.load rfl (inXM .here) (encF.ld_n_links _ _ (by omega)) sc_3) rfl ?_
 refine XO.v (V.cmp rfl rfl rfl) rfl ?_
 refine XO.mv rfl rfl ?_
 refine XO.splitP (d := 12) rfl (fun h1 => ?_) (fun h1 => ?_)
 ·
  refine XO.guardRun rfl rfl rfl ?_
  refine XO.mv rfl rfl ?_
  refine XO.guardRun rfl rfl rfl ?_
  refine XO.mv rfl rfl ?_
  refine XO.guardRun rfl rfl rfl ?_
  refine XO.v (V.nilCheckP rfl) rfl ?_
  refine XO.guardRun rfl rfl rfl ?_
  refine XO.v (V.fieldAddr rfl fo_72_0) rfl ?_
  refine XO.guardRun rfl rfl rfl ?_
  refine XO.v (V.indexArr rfl rfl ar_70 (by omega)) rfl ?_
  refine XO.guardRun rfl rfl rfl ?_
  refine XO.v (V.fieldAddr rfl fo_69_3) rfl ?_
  refine XO.guardRun rfl rfl rfl ?_
  refine XO.v (V.load rfl (inXM .here) (encF.ld_n_held _ _ (by omega)) sc_3) rfl ?_
  refine XO.guardRun rfl rfl rfl ?_
  refine XO.v (V.cmp rfl rfl rfl) rfl ?_
  refine XO.v (V.pick rfl rfl rfl rfl) rfl ?_
  refine XO.nk [(0, _), (1, _), (21, _)] (S3 rfl rfl rfl) ?_
  refine XC.condP rfl (fun h2 => ?_) (fun h2 => ?_)
  ·
   refine XC.region ?_
   refine XO.mv rfl rfl ?_
   refine XO.mv rfl rfl ?_
   refine XO.v (V.build (vs := #[]) rfl (v := .agg (nodeA 0 0 0 0)) (fun _ => by kernel_rfl)) rfl ?_
   refine XO.v (V.nilCheckP rfl) rfl ?_
   refine XO.v (V.fieldAddr rfl fo_72_0) rfl ?_
   refine XO.v (V.indexArr rfl rfl ar_70 (by omega)) rfl ?_
   refine XO.storeAgg rfl rfl .here (encF_new s n 0 0 0 0 (by omega)) ⟨rfl, rfl⟩ sz_69_8 ?_
   refine XO.mono (fun _ hw3 => XM.newN (s := s) (s.setC n 0 0 0 0) (by omega) rfl rfl rfl (.cons (.there .here) .nil) hw3) ?_
   refine XO.mono (fun _ hw3 => XM.newK (s := s) (s.setC n 0 0 0 0) (by omega) rfl rfl rfl (.cons (.t2 .here) .nil) hw3) ?_
   refine XO.nil ?_
   refine XE.end0 rfl (post_of (.cons (.t2 .here) (.cons (.there .here) .h1)) rfl ?_)
   exact ⟨rfl, s.setC n 0 0 0 0, by unfold FF.goneF; rw [if_pos ⟨by assumption, by assumption⟩]; rfl, rfl, rfl, rfl⟩
  ·
   refine XC.skip ?_
   refine XE.end0 rfl (post_of .h3 rfl ?_)
   exact ⟨rfl, s, by unfold FF.goneF; rw [if_neg (by omega)], rfl, rfl, rfl⟩
 ·
  refine XO.guardSkip rfl rfl rfl rfl rfl ?_
  refine XO.guardSkip rfl rfl rfl rfl rfl ?_
  refine XO.guardSkip rfl rfl rfl rfl rfl ?_
  refine XO.guardSkip rfl rfl rfl rfl rfl ?_
  refine XO.guardSkip rfl rfl rfl rfl rfl ?_
  refine XO.guardSkip rfl rfl rfl rfl rfl ?_
  refine XO.guardSkip rfl rfl rfl rfl rfl ?_
  refine XO.guardSkip rfl rfl rfl rfl rfl ?_
  refine XO.v (V.pick rfl rfl rfl rfl) rfl ?_
  refine XO.nk [(0, _), (1, _), (21, _)] (S3 rfl rfl rfl) ?_
  refine XC.condF rfl rfl ?_
  refine XC.skip ?_
  refine XE.end0 rfl (post_of .h3 rfl ?_)
  exact ⟨rfl, s, by unfold FF.goneF; rw [if_neg (by omega)], rfl, rfl, rfl⟩
set_option maxRecDepth 10000 in
set_option maxHeartbeats 400000 in
theorem t_Tree (b o : Nat) (s : FC) (n : Int) : Spec Tryz.prog 64 [ptr b o 0, .int .i64 n]
    [.cells b o 321 (encF s)]
    (fun v H1 => v = .tuple #[.int .i64 (if s.isE n 0 = 0 then s.tree n else 0), errv 76 (s.isE n 0)] ∧ H1 = [.cells b o 321 (encF s)]) := by
 refine Spec.intro Tryz.func64 rfl rfl ?_
 intro W
 refine XC.sr ?_
 refine XO.as rfl rfl ?_
 refine XO.as rfl rfl ?_
 refine XO.nk [(0, _), (1, _)] (S2 rfl rfl) ?_
 refine XC.sr ?_
 refine XO.mv rfl rfl ?_
 refine XO.mv rfl rfl ?_
 refine XO.call rfl (t_is _ _ _ _) .h1 cl_71 rfl ?_
 rintro _ _ ⟨rfl, rfl⟩
 refine XO.as rfl rfl ?_
 refine XO.nk [(0, _), (1, _), (6, _)] (S3 rfl rfl rfl) ?_
 refine XC.seq ?_
 refine XC.sr ?_
 refine XO.mv rfl rfl ?_
 refine XO.v (V.errNil rfl Tryz.underlying37 rfl) rfl ?_
 refine XO.nk [(0, _), (1, _), (6, _), (11, _)] (S4 rfl rfl rfl rfl) ?_
 refine XC.condP rfl (fun h1 => ?_) (fun h1 => ?_)
 ·
  have i0 : s.isE n 0 ≠ 0 := by assumption
  refine XC.sr ?_
  refine XO.mv rfl rfl ?_
  refine XO.as rfl rfl ?_
  refine XO.as rfl rfl ?_
  refine XO.nk [(4, _), (5, _)] (S2 rfl rfl) ?_
  refine XC.ret ?_
  refine XE.thenRet ?_
  refine XE.ret2 rfl rfl rfl (post_of .h1 rfl ?_)
  exact ⟨by rw [if_neg i0], rfl⟩
 ·
  obtain ⟨i1, i2, i3, i4⟩ := FF.isE_k0 (show s.isE n 0 = 0 by simpa using h1)
  have i0 : s.isE n 0 = 0 := by simpa using h1
  refine XC.skip ?_
  refine XE.next ?_
  refine XC.keep [(0, _), (1, _)] (S2 rfl rfl) ?_
  refine XC.sr ?_
  refine XO.mv rfl rfl ?_
  refine XO.mv rfl rfl ?_
  refine XO.v (V.nilCheckP rfl) rfl ?_
  refine XO.v (V.fieldAddr rfl fo_72_0) rfl ?_
  refine XO.v (V.indexArr rfl rfl ar_70 (by omega)) rfl ?_
  refine XO.v (V.fieldAddr rfl fo_69_1) rfl ?_
  refine XO.v (V.load rfl (inXM .here) (encF.ld_n_tree _ _ (by omega)) sc_3) rfl ?_
  refine XO.as rfl rfl ?_
  refine XO.as rfl rfl ?_
  refine XO.nk [(4, _), (5, _)] (S2 rfl rfl) ?_
  refine XC.ret ?_
  refine XE.ret2 rfl rfl rfl (post_of .h1 rfl ?_)
  exact ⟨by rw [if_pos i0, i0]; rfl, rfl⟩
set_option maxRecDepth 10000 in
set_option maxHeartbeats 400000 in
theorem t_Up (b o : Nat) (s : FC) (n : Int) : Spec Tryz.prog 63 [ptr b o 0, .int .i64 n]
    [.cells b o 321 (encF s)]
    (fun v H1 => v = .tuple #[.int .i64 (if s.isE n 2 = 0 then s.up n else 0), errv 76 (s.isE n 2)] ∧ H1 = [.cells b o 321 (encF s)]) := by
 refine Spec.intro Tryz.func63 rfl rfl ?_
 intro W
 refine XC.sr ?_
 refine XO.as rfl rfl ?_
 refine XO.as rfl rfl ?_
 refine XO.nk [(0, _), (1, _)] (S2 rfl rfl) ?_
 refine XC.sr ?_
 refine XO.mv rfl rfl ?_
 refine XO.mv rfl rfl ?_
 refine XO.call rfl (t_dir _ _ _ _) .h1 cl_79 rfl ?_
 rintro _ _ ⟨rfl, rfl⟩
 refine XO.as rfl rfl ?_
 refine XO.nk [(0, _), (1, _), (6, _)] (S3 rfl rfl rfl) ?_
 refine XC.seq ?_
 refine XC.sr ?_
 refine XO.mv rfl rfl ?_
 refine XO.v (V.errNil rfl Tryz.underlying37 rfl) rfl ?_
 refine XO.nk [(0, _), (1, _), (6, _), (11, _)] (S4 rfl rfl rfl rfl) ?_
 refine XC.condP rfl (fun h1 => ?_) (fun h1 => ?_)
 ·
  have i0 : s.isE n 2 ≠ 0 := by assumption
  refine XC.sr ?_
  refine XO.mv rfl rfl ?_
  refine XO.as rfl rfl ?_
  refine XO.as rfl rfl ?_
  refine XO.nk [(4, _), (5, _)] (S2 rfl rfl) ?_
  refine XC.ret ?_
  refine XE.thenRet ?_
  refine XE.ret2 rfl rfl rfl (post_of .h1 rfl ?_)
  exact ⟨by rw [if_neg i0], rfl⟩
 ·
  obtain ⟨i1, i2, i3, i4⟩ := FF.isE_k0 (show s.isE n 2 = 0 by simpa using h1)
  have i0 : s.isE n 2 = 0 := by simpa using h1
  refine XC.skip ?_
  refine XE.next ?_
  refine XC.keep [(0, _), (1, _)] (S2 rfl rfl) ?_
  refine XC.sr ?_
  refine XO.mv rfl rfl ?_
  refine XO.mv rfl rfl ?_
  refine XO.v (V.nilCheckP rfl) rfl ?_
  refine XO.v (V.fieldAddr rfl fo_72_0) rfl ?_
  refine XO.v (V.indexArr rfl rfl ar_70 (by omega)) rfl ?_
  refine XO.v (V.fieldAddr rfl fo_69_7) rfl ?_
  refine XO.v (V.load rfl (inXM .here) (encF.ld_n_up _ _ (by omega)) sc_3) rfl ?_
  refine XO.as rfl rfl ?_
  refine XO.as rfl rfl ?_
  refine XO.nk [(4, _), (5, _)] (S2 rfl rfl) ?_
  refine XC.ret ?_
  refine XE.ret2 rfl rfl rfl (post_of .h1 rfl ?_)
  exact ⟨by rw [if_pos i0, i0]; rfl, rfl⟩
set_option maxRecDepth 10000 in
set_option maxHeartbeats 1000000 in
theorem t_under (b o : Nat) (s : FC) (d : Int → Nat) (n k : Int) (hn : 0 ≤ n ∧ n < 40 ∧ s.kind n = 2) (hc : s.toFF.Ch d k) : Spec Tryz.prog 80 [ptr b o 0, .int .i64 n, .int .i64 k]
    [.cells b o 321 (encF s)]
    (fun v H1 => v = .bool (FF.und d s.toFF n k) ∧ H1 = [.cells b o 321 (encF s)]) := by
 refine Spec.intro Tryz.func80 rfl rfl ?_
 intro W
 refine XC.sr ?_
 refine XO.as rfl rfl ?_
 refine XO.nk [(0, _), (1, _), (2, _)] (S3 rfl rfl rfl) ?_
 refine XC.seq ?_
 refine XC.block ?_
 refine XC.loop (σ := Int) (fun i => d i) (fun i => (0 ≤ i ∧ i < 40 ∧ s.kind i = 2) ∧ FF.und d s.toFF n k = FF.und d s.toFF i k) (fun i => [(1, .int .i64 i), (0, ptr b o 0), (2, .int .i64 k)]) (fun i => XM W (foot [.cells b o 321 (encF s)]) [.cells b o 321 (encF s)]) (n) ?_ (S3 rfl rfl rfl) (fun _ hw => XM.pick .h1 hw) ?_
 ·
  exact ⟨hn, rfl⟩
 intro i hi
 obtain ⟨hi, he⟩ := hi
 refine XC.seq ?_
 refine XC.sr ?_
 refine XO.mv rfl rfl ?_
 refine XO.mv rfl rfl ?_
 refine XO.v (V.cmp rfl rfl rfl) rfl ?_
 refine XO.nk [(0, _), (1, _), (2, _), (9, _)] (S4 rfl rfl rfl rfl) ?_
 refine XC.condP rfl (fun h1 => ?_) (fun h1 => ?_)
 ·
  refine XC.skip ?_
  refine XE.next ?_
  refine XC.keep [(0, _), (1, _), (2, _)] (S3 rfl rfl rfl) ?_
  refine XC.block ?_
  refine XC.seq ?_
  refine XC.sr ?_
  refine XO.mv rfl rfl ?_
  refine XO.mv rfl rfl ?_
  refine XO.v (V.nilCheckP rfl) rfl ?_
  refine XO.v (V.fieldAddr rfl fo_72_0) rfl ?_
  refine XO.v (V.indexArr rfl rfl ar_70 (by omega)) rfl ?_
  refine XO.v (V.fieldAddr rfl fo_69_7) rfl ?_
  refine XO.v (V.load rfl (inXM .here) (encF.ld_n_up _ _ (by omega)) sc_3) rfl ?_
  refine XO.mv rfl rfl ?_
  refine XO.v (V.cmp rfl rfl rfl) rfl ?_
  refine XO.nk [(0, _), (1, _), (2, _), (18, _)] (S4 rfl rfl rfl rfl) ?_
  refine XC.condP rfl (fun h2 => ?_) (fun h2 => ?_)
  ·
   refine XC.sr ?_
   refine XO.as rfl rfl ?_
   refine XO.nk [(6, _)] (S1 rfl) ?_
   refine XC.ret ?_
   refine XE.thenRet ?_
   refine XE.blockRet ?_
   refine XE.thenRet ?_
   refine XE.blockRet ?_
   refine XE.thenRet ?_
   refine XE.ret1 rfl rfl (post_of .h1 rfl ?_)
   have e := FF.und_step hc (by omega) (by omega) hi.2.2 (show i ≠ k by assumption)
   rw [if_pos (by assumption)] at e
   exact ⟨by rw [he, e], rfl⟩
  ·
   refine XC.skip ?_
   refine XE.next ?_
   refine XC.keep [(0, _), (1, _), (2, _)] (S3 rfl rfl rfl) ?_
   refine XC.region ?_
   refine XO.mv rfl rfl ?_
   refine XO.mv rfl rfl ?_
   refine XO.v (V.nilCheckP rfl) rfl ?_
   refine XO.v (V.fieldAddr rfl fo_72_0) rfl ?_
   refine XO.v (V.indexArr rfl rfl ar_70 (by omega)) rfl ?_
   refine XO.v (V.fieldAddr rfl fo_69_7) rfl ?_
   refine XO.v (V.load rfl (inXM .here) (encF.ld_n_up _ _ (by omega)) sc_3) rfl ?_
   refine XO.as rfl rfl ?_
   refine XO.nil ?_
   refine XE.blockNormal ?_
   refine XE.again (s.up i) ?_ ?_ (S3 rfl rfl rfl) (fun _ hw => XM.pick .h1 hw)
   ·
    rcases hc i (by omega) (by omega) hi.2.2 (by assumption) with g | ⟨g1, g2, g3, g4⟩
    ·
     contradiction
    ·
     exact g4
   ·
    have e := FF.und_step hc (by omega) (by omega) hi.2.2 (show i ≠ k by assumption)
    rw [if_neg (by assumption)] at e
    rcases hc i (by omega) (by omega) hi.2.2 (by assumption) with g | ⟨g1, g2, g3, g4⟩
    ·
     contradiction
    ·
     exact ⟨⟨g1, g2, g3⟩, he.trans e⟩
 ·
  refine XC.exit ?_
  refine XE.thenExit ?_
  refine XE.thenExit ?_
  refine XE.blockExit ?_
  refine XE.next ?_
  refine XC.keep [] (Sub.nil _) ?_
  refine XC.sr ?_
  refine XO.as rfl rfl ?_
  refine XO.nk [(6, _)] (S1 rfl) ?_
  refine XC.ret ?_
  refine XE.ret1 rfl rfl (post_of .h1 rfl ?_)
  have e : i = k := by omega
  exact ⟨by rw [he, e, FF.und_self], rfl⟩
set_option maxRecDepth 10000 in
set_option maxHeartbeats 1000000 in
theorem t_Nodes (b o : Nat) (s : FC) : Spec Tryz.prog 66 [ptr b o 0]
    [.cells b o 321 (encF s)]
    (fun v H1 => v = .int .i64 s.nodes ∧ H1 = [.cells b o 321 (encF s)]) := by
 refine Spec.intro Tryz.func66 rfl rfl ?_
 intro W
 refine XC.sr ?_
 refine XO.as rfl rfl ?_
 refine XO.nk [(0, _)] (S1 rfl) ?_
 refine XC.sr ?_
 refine XO.as rfl rfl ?_
 refine XO.nk [(0, _), (3, _)] (S2 rfl rfl) ?_
 refine XC.seq ?_
 refine XC.sr ?_
 refine XO.mv rfl rfl ?_
 refine XO.nk [(0, _), (3, _), (5, _)] (S3 rfl rfl rfl) ?_
 refine XC.block ?_
 refine XC.loop (σ := Int) (fun i => (40 - i).toNat) (fun i => (0 ≤ i ∧ i ≤ 40) ∧ 0 ≤ s.cntN i.toNat ∧ s.cntN i.toNat ≤ i) (fun i => [(5, .int .i64 i), (3, .int .i64 (s.cntN i.toNat)), (0, ptr b o 0)]) (fun i => XM W (foot [.cells b o 321 (encF s)]) [.cells b o 321 (encF s)]) (0) ?_ (S3 rfl rfl rfl) (fun _ hw => XM.pick .h1 hw) ?_
 ·
  exact ⟨by omega, by show (0:Int) ≤ 0; omega, by show (0:Int) ≤ 0; omega⟩
 intro i hi
 obtain ⟨hi, ho⟩ := hi
 have hst := FF.cntN_next s.toFF hi.1
 refine XC.sr ?_
 refine XO.v (V.cmp rfl rfl rfl) rfl ?_
 refine XO.nk [(0, _), (3, _), (5, _), (6, _)] (S4 rfl rfl rfl rfl) ?_
 refine XC.seq ?_
 refine XC.condP rfl (fun h1 => ?_) (fun h1 => ?_)
 ·
  refine XC.skip ?_
  refine XE.next ?_
  refine XC.keep [(0, _), (3, _), (5, _)] (S3 rfl rfl rfl) ?_
  refine XC.seq ?_
  refine XC.block ?_
  refine XC.sr ?_
  refine XO.mv rfl rfl ?_
  refine XO.as rfl rfl ?_
  refine XO.nk [(0, _), (3, _), (4, _), (5, _)] (S4 rfl rfl rfl rfl) ?_
  refine XC.sr ?_
  refine XO.mv rfl rfl ?_
  refine XO.mv rfl rfl ?_
  refine XO.v (V.nilCheckP rfl) rfl ?_
  refine XO.v (V.fieldAddr rfl fo_72_0) rfl ?_
  refine XO.v (V.indexArr rfl rfl ar_70 (by omega)) rfl ?_
  refine XO.v (V.fieldAddr rfl fo_69_0) rfl ?_
  refine XO.v (V.load rfl (inXM .here) (encF.ld_n_kind _ _ (by omega)) sc_3) rfl ?_
  refine XO.v (V.cmp rfl rfl rfl) rfl ?_
  refine XO.nk [(0, _), (3, _), (5, _), (15, _)] (S4 rfl rfl rfl rfl) ?_
  refine XC.condP rfl (fun h2 => ?_) (fun h2 => ?_)
  ·
   refine XC.region ?_
   refine XO.mv rfl rfl ?_
   refine XO.v (V.add rfl rfl _ (IntWalk.i64_in _ (by omega))) rfl ?_
   refine XO.as rfl rfl ?_
   refine XO.nil ?_
   refine XE.blockNormal ?_
   refine XE.next ?_
   refine XC.keep [(0, _), (3, _), (5, _)] (S3 rfl rfl rfl) ?_
   refine XC.region ?_
   refine XO.v (V.add rfl rfl _ (IntWalk.i64_in _ (by omega))) rfl ?_
   refine XO.mv rfl rfl ?_
   refine XO.nil ?_
   refine XE.again (i + 1) ?_ ?_ (Sub.cons rfl (Sub.cons (eqi (by rw [hst, if_pos (by assumption)])) (S1 rfl))) (fun _ hw => XM.pick .h1 hw)
   ·
    (first | omega | (simp; done) | (simp; omega))
   ·
    rw [hst, if_pos (by assumption)]; omega
  ·
   refine XC.skip ?_
   refine XE.blockNormal ?_
   refine XE.next ?_
   refine XC.keep [(0, _), (3, _), (5, _)] (S3 rfl rfl rfl) ?_
   refine XC.region ?_
   refine XO.v (V.add rfl rfl _ (IntWalk.i64_in _ (by omega))) rfl ?_
   refine XO.mv rfl rfl ?_
   refine XO.nil ?_
   refine XE.again (i + 1) ?_ ?_ (Sub.cons rfl (Sub.cons (eqi (by rw [hst, if_neg (by omega)]; omega)) (S1 rfl))) (fun _ hw => XM.pick .h1 hw)
   ·
    (first | omega | (simp; done) | (simp; omega))
   ·
    rw [hst, if_neg (by omega)]; omega
 ·
  refine XC.exit ?_
  refine XE.thenExit ?_
  refine XE.thenExit ?_
  refine XE.blockExit ?_
  refine XE.next ?_
  refine XC.keep [(3, _)] (S1 rfl) ?_
  refine XC.sr ?_
  refine XO.mv rfl rfl ?_
  refine XO.as rfl rfl ?_
  refine XO.nk [(2, _)] (S1 rfl) ?_
  refine XC.ret ?_
  refine XE.ret1 rfl rfl (post_of .h1 rfl ?_)
  have e : i = 40 := by omega
  subst e
  exact ⟨rfl, rfl⟩
set_option maxRecDepth 10000 in
set_option maxHeartbeats 1000000 in
theorem t_Root (b o : Nat) (s : FC) (hI : s.toFF.Sh) (t : Int) : Spec Tryz.prog 24 [ptr b o 0, .int .i64 t]
    [.cells b o 321 (encF s), irow s.rP s.rC 3 s.roots]
    (fun v H1 => v = .tuple #[.int .i64 (s.rootV t), errv 76 (s.rootE t)] ∧ H1 = [.cells b o 321 (encF s), irow s.rP s.rC 3 s.roots]) := by
 have hr4 := hI.roots.1
 refine Spec.intro Tryz.func24 rfl rfl ?_
 intro W
 refine XC.sr ?_
 refine XO.as rfl rfl ?_
 refine XO.as rfl rfl ?_
 refine XO.nk [(0, _), (1, _)] (S2 rfl rfl) ?_
 refine XC.seq ?_
 refine XC.sr ?_
 refine XO.mv rfl rfl ?_
 refine XO.v (V.cmp rfl rfl rfl) rfl ?_
 refine XO.mv rfl rfl ?_
 refine XO.splitP (d := 8) rfl (fun h1 => ?_) (fun h1 => ?_)
 ·
  refine XO.guardSkip rfl rfl rfl rfl rfl ?_
  refine XO.guardSkip rfl rfl rfl rfl rfl ?_
  refine XO.v (V.pick rfl rfl rfl rfl) rfl ?_
  refine XO.nk [(0, _), (1, _), (11, _)] (S3 rfl rfl rfl) ?_
  refine XC.condT rfl rfl ?_
  refine XC.sr ?_
  refine XO.v (V.makeIface rfl Tryz.underlying76 (by simp)) rfl ?_
  refine XO.as rfl rfl ?_
  refine XO.as rfl rfl ?_
  refine XO.nk [(4, _), (5, _)] (S2 rfl rfl) ?_
  refine XC.ret ?_
  refine XE.thenRet ?_
  refine XE.ret2 rfl rfl rfl (post_of .h2 rfl ?_)
  have e : s.rootE t = 1 := by unfold FF.rootE; rw [if_pos (by omega)]
  exact ⟨by rw [show s.rootV t = 0 from by unfold FF.rootV; rw [if_neg (by omega)], e]; rfl, rfl⟩
 ·
  refine XO.guardRun rfl rfl rfl ?_
  refine XO.mv rfl rfl ?_
  refine XO.guardRun rfl rfl rfl ?_
  refine XO.v (V.cmp rfl rfl rfl) rfl ?_
  refine XO.v (V.pick rfl rfl rfl rfl) rfl ?_
  refine XO.nk [(0, _), (1, _), (11, _)] (S3 rfl rfl rfl) ?_
  refine XC.condP rfl (fun h2 => ?_) (fun h2 => ?_)
  ·
   refine XC.sr ?_
   refine XO.v (V.makeIface rfl Tryz.underlying76 (by simp)) rfl ?_
   refine XO.as rfl rfl ?_
   refine XO.as rfl rfl ?_
   refine XO.nk [(4, _), (5, _)] (S2 rfl rfl) ?_
   refine XC.ret ?_
   refine XE.thenRet ?_
   refine XE.ret2 rfl rfl rfl (post_of .h2 rfl ?_)
   have e : s.rootE t = 1 := by unfold FF.rootE; rw [if_pos (by omega)]
   exact ⟨by rw [show s.rootV t = 0 from by unfold FF.rootV; rw [if_neg (by omega)], e]; rfl, rfl⟩
  ·
   refine XC.skip ?_
   refine XE.next ?_
   refine XC.keep [(0, _), (1, _)] (S2 rfl rfl) ?_
   refine XC.seq ?_
   refine XC.sr ?_
   refine XO.mv rfl rfl ?_
   refine XO.mv rfl rfl ?_
   refine XO.v (V.nilCheckP rfl) rfl ?_
   refine XO.v (V.fieldAddr rfl fo_72_1) rfl ?_
   refine XO.v (V.load rfl (inXM .here) (encF_roots _) sc_29) rfl ?_
   refine XO.v (V.lenSl rfl Tryz.underlying29) rfl ?_
   refine XO.v (V.cmp rfl rfl rfl) rfl ?_
   refine XO.nk [(0, _), (1, _), (19, _)] (S3 rfl rfl rfl) ?_
   refine XC.condP rfl (fun h3 => ?_) (fun h3 => ?_)
   ·
    refine XC.sr ?_
    refine XO.v (V.makeIface rfl Tryz.underlying76 (by simp)) rfl ?_
    refine XO.as rfl rfl ?_
    refine XO.as rfl rfl ?_
    refine XO.nk [(4, _), (5, _)] (S2 rfl rfl) ?_
    refine XC.ret ?_
    refine XE.thenRet ?_
    refine XE.ret2 rfl rfl rfl (post_of .h2 rfl ?_)
    have e : s.rootE t = 2 := by unfold FF.rootE; rw [if_neg (by omega), if_pos (by omega)]
    exact ⟨by rw [show s.rootV t = 0 from by unfold FF.rootV; rw [if_neg (by omega)], e]; rfl, rfl⟩
   ·
    refine XC.skip ?_
    refine XE.next ?_
    refine XC.keep [(0, _), (1, _)] (S2 rfl rfl) ?_
    refine XC.sr ?_
    refine XO.mv rfl rfl ?_
    refine XO.v (V.nilCheckP rfl) rfl ?_
    refine XO.v (V.fieldAddr rfl fo_72_1) rfl ?_
    refine XO.v (V.load rfl (inXM .here) (encF_roots _) sc_29) rfl ?_
    refine XO.mv rfl rfl ?_
    refine XO.openRow (.there .here) (by omega) ?_
    intro g hg
    rw [hg]
    refine XO.v (V.indexSl rfl rfl sl_29 (by omega)) rfl ?_
    refine XO.v (V.loadRow rfl (inXM (.there .here)) (ints_at (by omega)) sc_3) rfl ?_
    refine XO.as rfl rfl ?_
    refine XO.as rfl rfl ?_
    refine XO.nk [(4, _), (5, _)] (S2 rfl rfl) ?_
    refine XC.ret ?_
    refine XE.ret2 rfl rfl rfl (post_of .h2 rfl ?_)
    have e : s.rootE t = 0 := by unfold FF.rootE; rw [if_neg (by omega), if_neg (by omega)]
    exact ⟨by rw [show s.rootV t = at0 s.roots t from by unfold FF.rootV; rw [if_pos e], e]; rfl, rfl⟩
end Go.X
