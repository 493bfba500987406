import Derived.Test.YtmklfkjfgjagaaaGreatXShort
import Derived.Test.YtmklfkjfgjagaaaGreatZNR4
namespace Go.X
open Go Go.Proofs

set_option maxRecDepth 10000 in
set_option maxHeartbeats 2000000 in
theorem r_Write (b o : Nat) (s : FC) (hI : s.toFF.Sh) (n a : Int) (x : ByteArray) (hx : x.size ≤ 9223372036854775807) : Spec Tryz.prog 42 [ptr b o 0, .int .i64 n, .int .i64 a, .string x]
    [.cells b o 321 (encM s), .fam fam40 (s.rowsN 9), .fam fam40 (s.rowsK 3)]
    (fun v H1 => v = .int .i64 (s.writeE n a x) ∧ ∃ t : FC, t.toFF = s.write n a x ∧ t.rP = s.rP ∧ t.rC = s.rC ∧ H1 = [.cells b o 321 (encM t), .fam fam40 (FC.rowsN 9 t), .fam fam40 (FC.rowsK 3 t)]) := by
 refine Spec.intro Tryz.func42 rfl rfl ?_
 intro W
 refine XC.sr ?_
 refine XO.as rfl rfl ?_
 refine XO.nk [(0, _), (1, _), (2, _), (3, _)] (S4 rfl rfl rfl rfl) ?_
 refine XC.seq ?_
 refine XC.sr ?_
 refine XO.mv rfl rfl ?_
 refine XO.mv rfl rfl ?_
 refine XO.call rfl (r_Is _ _ _ _ _) .h1 cl_66 rfl ?_
 rintro _ _ ⟨rfl, rfl⟩
 refine XO.as rfl rfl ?_
 refine XO.nk [(0, _), (1, _), (2, _), (3, _), (9, _)] (S5 rfl rfl rfl rfl rfl) ?_
 refine XC.sr ?_
 refine XO.mv rfl rfl ?_
 refine XO.v (V.cmp rfl rfl rfl) rfl ?_
 refine XO.nk [(0, _), (1, _), (2, _), (3, _), (9, _), (16, _)] (S6 rfl rfl rfl rfl rfl rfl) ?_
 refine XC.condP rfl (fun h1 => ?_) (fun h1 => ?_)
 ·
  refine XC.sr ?_
  refine XO.mv rfl rfl ?_
  refine XO.as rfl rfl ?_
  refine XO.nk [(8, _)] (S1 rfl) ?_
  refine XC.ret ?_
  refine XE.thenRet ?_
  refine XE.ret1 rfl rfl (post_of .h3 rfl ?_)
  have e : s.writeE n a x = s.isE n 1 := by unfold FF.writeE; rw [if_pos (by omega)]
  exact ⟨by rw [e], s, by unfold FF.write; rw [if_neg (by omega)], rfl, rfl, rfl⟩
 ·
  have i0 : s.isE n 1 = 0 := by have := FF.isE_nn s.toFF n 1; omega
  obtain ⟨i1, i2, i3, i4⟩ := FF.isE_k0 i0
  have hd := hI.data n (by omega) (by omega)
  refine XC.skip ?_
  refine XE.next ?_
  refine XC.keep [(0, _), (1, _), (2, _), (3, _)] (S4 rfl rfl rfl rfl) ?_
  refine XC.seq ?_
  refine XC.sr ?_
  refine XO.mv rfl rfl ?_
  refine XO.v (V.cmp rfl rfl rfl) rfl ?_
  refine XO.nk [(0, _), (1, _), (2, _), (3, _), (19, _)] (S5 rfl rfl rfl rfl rfl) ?_
  refine XC.condP rfl (fun h2 => ?_) (fun h2 => ?_)
  ·
   refine XC.sr ?_
   refine XO.as rfl rfl ?_
   refine XO.nk [(8, _)] (S1 rfl) ?_
   refine XC.ret ?_
   refine XE.thenRet ?_
   refine XE.ret1 rfl rfl (post_of .h3 rfl ?_)
   have e : s.writeE n a x = 1 := by unfold FF.writeE; rw [if_neg (by omega), if_pos (by omega)]
   exact ⟨by rw [e], s, by unfold FF.write; rw [if_neg (by omega)], rfl, rfl, rfl⟩
  ·
   refine XC.skip ?_
   refine XE.next ?_
   refine XC.keep [(0, _), (1, _), (2, _), (3, _)] (S4 rfl rfl rfl rfl) ?_
   refine XC.seq ?_
   refine XC.sr ?_
   refine XO.mv rfl rfl ?_
   refine XO.v (V.cmp rfl rfl rfl) rfl ?_
   refine XO.mv rfl rfl ?_
   refine XO.splitP (d := 22) rfl (fun h3 => ?_) (fun h3 => ?_)
   ·
    refine XO.guardSkip rfl rfl rfl rfl rfl ?_
    refine XO.guardSkip rfl rfl rfl rfl rfl ?_
    refine XO.guardSkip rfl rfl rfl rfl rfl ?_
    refine XO.guardSkip rfl rfl rfl rfl rfl ?_
    refine XO.guardSkip rfl rfl rfl rfl rfl ?_
    refine XO.v (V.pick rfl rfl rfl rfl) rfl ?_
    refine XO.nk [(0, _), (1, _), (2, _), (3, _), (28, _)] (S5 rfl rfl rfl rfl rfl) ?_
    refine XC.condT rfl rfl ?_
    refine XC.sr ?_
    refine XO.as rfl rfl ?_
    refine XO.nk [(8, _)] (S1 rfl) ?_
    refine XC.ret ?_
    refine XE.thenRet ?_
    refine XE.ret1 rfl rfl (post_of .h3 rfl ?_)
    have e : s.writeE n a x = 4 := by unfold FF.writeE; rw [if_neg (by omega), if_neg (by omega), if_pos (by omega)]
    exact ⟨by rw [e], s, by unfold FF.write; rw [if_neg (by omega)], rfl, rfl, rfl⟩
   ·
    refine XO.guardRun rfl rfl rfl ?_
    refine XO.mv rfl rfl ?_
    refine XO.guardRun rfl rfl rfl ?_
    refine XO.v (V.lenStr rfl Tryz.underlying9) rfl ?_
    refine XO.guardRun rfl rfl rfl ?_
    refine XO.mv rfl rfl ?_
    refine XO.guardRun rfl rfl rfl ?_
    refine XO.v (V.sub rfl rfl _ (IntWalk.i64_in _ (by omega))) rfl ?_
    refine XO.guardRun rfl rfl rfl ?_
    refine XO.v (V.cmp rfl rfl rfl) rfl ?_
    refine XO.v (V.pick rfl rfl rfl rfl) rfl ?_
    refine XO.nk [(0, _), (1, _), (2, _), (3, _), (28, _)] (S5 rfl rfl rfl rfl rfl) ?_
    refine XC.condP rfl (fun h4 => ?_) (fun h4 => ?_)
    ·
     refine XC.sr ?_
     refine XO.as rfl rfl ?_
     refine XO.nk [(8, _)] (S1 rfl) ?_
     refine XC.ret ?_
     refine XE.thenRet ?_
     refine XE.ret1 rfl rfl (post_of .h3 rfl ?_)
     have e : s.writeE n a x = 4 := by unfold FF.writeE; rw [if_neg (by omega), if_neg (by omega), if_pos (by omega)]
     exact ⟨by rw [e], s, by unfold FF.write; rw [if_neg (by omega)], rfl, rfl, rfl⟩
    ·
     refine XC.skip ?_
     refine XE.next ?_
     refine XC.keep [(0, _), (1, _), (2, _), (3, _)] (S4 rfl rfl rfl rfl) ?_
     refine XC.sr ?_
     refine XO.mv rfl rfl ?_
     refine XO.mv rfl rfl ?_
     refine XO.v (V.nilCheckP rfl) rfl ?_
     refine XO.v (V.fieldAddr rfl fo_34_0) rfl ?_
     refine XO.v (V.indexArr rfl rfl ar_32 (by omega)) rfl ?_
     refine XO.v (V.fieldAddr rfl fo_31_5) rfl ?_
     refine XO.v (V.load rfl (inXM .here) (encM.ld_N_Data _ _ (by omega)) sc_9) rfl ?_
     refine XO.as rfl rfl ?_
     refine XO.nk [(0, _), (1, _), (2, _), (3, _), (10, _)] (S5 rfl rfl rfl rfl rfl) ?_
     refine XC.seq ?_
     refine XC.block ?_
     refine XC.loop (σ := Nat) (fun j => (a - ((s.data n).size + j)).toNat) (fun j => j = 0 ∨ (((s.data n).size + j : Int) ≤ a ∧ 0 < x.size)) (fun j => [(10, .string (padB (s.data n) j)), (0, ptr b o 0), (1, .int .i64 n), (2, .int .i64 a), (3, .string x)]) (fun j => XM W (foot [.cells b o 321 (encM s), .fam fam40 (s.rowsN 9), .fam fam40 (s.rowsK 3)]) [.cells b o 321 (encM s), .fam fam40 (s.rowsN 9), .fam fam40 (s.rowsK 3)]) (0) ?_ (S5 rfl rfl rfl rfl rfl) (fun _ hw => XM.pick .h3 hw) ?_
     ·
      exact .inl rfl
     intro j hj
     have hps := padB_size (s.data n) j
     refine XC.seq ?_
     refine XC.sr ?_
     refine XO.mv rfl rfl ?_
     refine XO.v (V.lenStr rfl Tryz.underlying9) rfl ?_
     refine XO.v (V.cmp rfl rfl rfl) rfl ?_
     refine XO.mv rfl rfl ?_
     refine XO.splitP (d := 39) rfl (fun h5 => ?_) (fun h5 => ?_)
     ·
      refine XO.guardRun rfl rfl rfl ?_
      refine XO.mv rfl rfl ?_
      refine XO.guardRun rfl rfl rfl ?_
      refine XO.v (V.lenStr rfl Tryz.underlying9) rfl ?_
      refine XO.guardRun rfl rfl rfl ?_
      refine XO.mv rfl rfl ?_
      refine XO.guardRun rfl rfl rfl ?_
      refine XO.v (V.cmp rfl rfl rfl) rfl ?_
      refine XO.v (V.pick rfl rfl rfl rfl) rfl ?_
      refine XO.nk [(0, _), (1, _), (2, _), (3, _), (10, _), (44, _)] (S6 rfl rfl rfl rfl rfl rfl) ?_
      refine XC.condP rfl (fun h6 => ?_) (fun h6 => ?_)
      ·
       refine XC.skip ?_
       refine XE.next ?_
       refine XC.keep [(0, _), (1, _), (2, _), (3, _), (10, _)] (S5 rfl rfl rfl rfl rfl) ?_
       refine XC.block ?_
       refine XC.region ?_
       refine XO.mv rfl rfl ?_
       refine XO.buildSlice (e := 5) (vs := #[(0, .int .u8 0)]) (A := #[.int .u8 0]) rfl (fun _ => by kernel_rfl) rfl rfl ?_
       intro bz
       refine XO.v (V.convB (B := ⟨#[0]⟩) rfl rfl (inXM .here) one0 bt_103 Tryz.underlying9) rfl ?_
       refine XO.v (V.concat rfl rfl (by rw [padB_size]; show _ + 1 ≤ _; omega)) rfl ?_
       refine XO.as rfl rfl ?_
       refine XO.nil ?_
       refine XE.blockNormal ?_
       refine XE.again (j + 1) ?_ ?_ (S5 rfl rfl rfl rfl rfl) (fun _ hw => XM.pick (.cons (.there .here) (.cons (.there .here) (.cons (.there .here) .nil))) hw)
       ·
        omega
       ·
        exact .inr (by omega)
      ·
       refine XC.exit ?_
       refine XE.thenExit ?_
       refine XE.thenExit ?_
       refine XE.blockExit ?_
       refine XE.next ?_
       refine XC.keep [(0, _), (1, _), (2, _), (3, _), (10, _)] (S5 rfl rfl rfl rfl rfl) ?_
       refine XC.seq ?_
       refine XC.sr ?_
       refine XO.mv rfl rfl ?_
       refine XO.v (V.lenStr rfl Tryz.underlying9) rfl ?_
       refine XO.v (V.cmp rfl rfl rfl) rfl ?_
       refine XO.nk [(0, _), (1, _), (2, _), (3, _), (10, _), (51, _)] (S6 rfl rfl rfl rfl rfl rfl) ?_
       refine XC.condTP rfl (by omega) ?_
       refine XC.sr ?_
       have hxp : 0 < x.size := by omega
       have hxe : x ≠ ByteArray.empty := fun q => by rw [q] at hxp; exact absurd hxp (by decide)
       refine XO.as rfl rfl ?_
       refine XO.nk [(0, _), (1, _), (2, _), (3, _), (10, _), (11, _)] (S6 rfl rfl rfl rfl rfl rfl) ?_
       refine XC.seq ?_
       refine XC.sr ?_
       refine XO.mv rfl rfl ?_
       refine XO.v (V.lenStr rfl Tryz.underlying9) rfl ?_
       refine XO.mv rfl rfl ?_
       refine XO.mv rfl rfl ?_
       refine XO.v (V.lenStr rfl Tryz.underlying9) rfl ?_
       refine XO.v (V.add rfl rfl _ (IntWalk.i64_in _ (by omega))) rfl ?_
       refine XO.v (V.cmp rfl rfl rfl) rfl ?_
       refine XO.nk [(0, _), (1, _), (2, _), (3, _), (10, _), (11, _), (58, _)] (S7 rfl rfl rfl rfl rfl rfl rfl) ?_
       refine XC.condP rfl (fun h8 => ?_) (fun h8 => ?_)
       ·
        refine XC.region ?_
        refine XO.mv rfl rfl ?_
        refine XO.mv rfl rfl ?_
        refine XO.mv rfl rfl ?_
        refine XO.v (V.lenStr rfl Tryz.underlying9) rfl ?_
        refine XO.v (V.add rfl rfl _ (IntWalk.i64_in _ (by omega))) rfl ?_
        refine XO.v (V.sliceFrom rfl rfl Tryz.underlying9 (by omega)) rfl ?_
        refine XO.as rfl rfl ?_
        refine XO.nk [(0, _), (1, _), (2, _), (3, _), (10, _), (11, _)] (S6 rfl rfl rfl rfl rfl rfl) ?_
        refine XC.region ?_
        refine XO.mv rfl rfl ?_
        refine XO.mv rfl rfl ?_
        refine XO.v (V.sliceTo rfl rfl Tryz.underlying9 (by omega)) rfl ?_
        refine XO.mv rfl rfl ?_
        refine XO.v (V.concat rfl rfl (by rw [ByteArray.size_extract]; omega)) rfl ?_
        refine XO.mv rfl rfl ?_
        refine XO.v (V.concat rfl rfl (by rw [ByteArray.size_append, ByteArray.size_extract]; first | omega | (rw [ByteArray.size_extract]; omega) | (show _ + 0 ≤ _; omega))) rfl ?_
        refine XO.as rfl rfl ?_
        refine XO.nk [(0, _), (1, _), (10, _)] (S3 rfl rfl rfl) ?_
        refine XC.sr ?_
        refine XO.mv rfl rfl ?_
        refine XO.mv rfl rfl ?_
        refine XO.mv rfl rfl ?_
        refine XO.v (V.nilCheckP rfl) rfl ?_
        refine XO.v (V.fieldAddr rfl fo_34_0) rfl ?_
        refine XO.v (V.indexArr rfl rfl ar_32 (by omega)) rfl ?_
        refine XO.v (V.fieldAddr rfl fo_31_5) rfl ?_
        refine XO.store rfl rfl .here (encM.st_N_Data _ _ (by omega) _) rfl sz_9_1 ?_
        refine XO.nk [] (Sub.nil _) ?_
        refine XC.sr ?_
        refine XO.as rfl rfl ?_
        refine XO.nk [(8, _)] (S1 rfl) ?_
        refine XC.ret ?_
        refine XE.ret1 rfl rfl (post_of .h3 rfl ?_)
        have e : s.writeE n a x = 0 := by unfold FF.writeE; rw [if_neg (by omega), if_neg (by omega), if_neg (by omega)]
        exact ⟨by rw [e], ({ s with data := fset s.data n ((padB (s.data n) j).extract 0 a.toNat ++ x ++ (padB (s.data n) j).extract (a + ↑x.size).toNat (padB (s.data n) j).size) } : FC), by unfold FF.write; rw [if_pos ⟨e, hxe⟩, ← wr_ref1 (s.data n) x a.toNat j (a + x.size) (by omega) (by omega) (by omega) (by omega)], rfl, rfl, rfl⟩
       ·
        refine XC.skip ?_
        refine XE.next ?_
        refine XC.keep [(0, _), (1, _), (2, _), (3, _), (10, _), (11, _)] (S6 rfl rfl rfl rfl rfl rfl) ?_
        refine XC.region ?_
        refine XO.mv rfl rfl ?_
        refine XO.mv rfl rfl ?_
        refine XO.v (V.sliceTo rfl rfl Tryz.underlying9 (by omega)) rfl ?_
        refine XO.mv rfl rfl ?_
        refine XO.v (V.concat rfl rfl (by rw [ByteArray.size_extract]; omega)) rfl ?_
        refine XO.mv rfl rfl ?_
        refine XO.v (V.concat rfl rfl (by rw [ByteArray.size_append, ByteArray.size_extract]; first | omega | (rw [ByteArray.size_extract]; omega) | (show _ + 0 ≤ _; omega))) rfl ?_
        refine XO.as rfl rfl ?_
        refine XO.nk [(0, _), (1, _), (10, _)] (S3 rfl rfl rfl) ?_
        refine XC.sr ?_
        refine XO.mv rfl rfl ?_
        refine XO.mv rfl rfl ?_
        refine XO.mv rfl rfl ?_
        refine XO.v (V.nilCheckP rfl) rfl ?_
        refine XO.v (V.fieldAddr rfl fo_34_0) rfl ?_
        refine XO.v (V.indexArr rfl rfl ar_32 (by omega)) rfl ?_
        refine XO.v (V.fieldAddr rfl fo_31_5) rfl ?_
        refine XO.store rfl rfl .here (encM.st_N_Data _ _ (by omega) _) rfl sz_9_1 ?_
        refine XO.nk [] (Sub.nil _) ?_
        refine XC.sr ?_
        refine XO.as rfl rfl ?_
        refine XO.nk [(8, _)] (S1 rfl) ?_
        refine XC.ret ?_
        refine XE.ret1 rfl rfl (post_of .h3 rfl ?_)
        have e : s.writeE n a x = 0 := by unfold FF.writeE; rw [if_neg (by omega), if_neg (by omega), if_neg (by omega)]
        exact ⟨by rw [e], ({ s with data := fset s.data n ((padB (s.data n) j).extract 0 a.toNat ++ x ++ ⟨#[]⟩) } : FC), by unfold FF.write; rw [if_pos ⟨e, hxe⟩, ← wr_ref2 (s.data n) x a.toNat j (by omega) (by omega) (by omega) (by omega)], rfl, rfl, rfl⟩
     ·
      refine XO.guardSkip rfl rfl rfl rfl rfl ?_
      refine XO.guardSkip rfl rfl rfl rfl rfl ?_
      refine XO.guardSkip rfl rfl rfl rfl rfl ?_
      refine XO.guardSkip rfl rfl rfl rfl rfl ?_
      refine XO.v (V.pick rfl rfl rfl rfl) rfl ?_
      refine XO.nk [(0, _), (1, _), (2, _), (3, _), (10, _), (44, _)] (S6 rfl rfl rfl rfl rfl rfl) ?_
      refine XC.condF rfl rfl ?_
      refine XC.exit ?_
      refine XE.thenExit ?_
      refine XE.thenExit ?_
      refine XE.blockExit ?_
      refine XE.next ?_
      refine XC.keep [(0, _), (1, _), (2, _), (3, _), (10, _)] (S5 rfl rfl rfl rfl rfl) ?_
      refine XC.seq ?_
      refine XC.sr ?_
      refine XO.mv rfl rfl ?_
      refine XO.v (V.lenStr rfl Tryz.underlying9) rfl ?_
      refine XO.v (V.cmp rfl rfl rfl) rfl ?_
      refine XO.nk [(0, _), (1, _), (2, _), (3, _), (10, _), (51, _)] (S6 rfl rfl rfl rfl rfl rfl) ?_
      refine XC.condFP rfl (by omega) ?_
      refine XC.skip ?_
      refine XE.next ?_
      refine XC.keep [(0, _), (1, _), (10, _)] (S3 rfl rfl rfl) ?_
      refine XC.sr ?_
      refine XO.mv rfl rfl ?_
      refine XO.mv rfl rfl ?_
      refine XO.mv rfl rfl ?_
      refine XO.v (V.nilCheckP rfl) rfl ?_
      refine XO.v (V.fieldAddr rfl fo_34_0) rfl ?_
      refine XO.v (V.indexArr rfl rfl ar_32 (by omega)) rfl ?_
      refine XO.v (V.fieldAddr rfl fo_31_5) rfl ?_
      refine XO.store rfl rfl .here (encM.st_N_Data _ _ (by omega) _) rfl sz_9_1 ?_
      refine XO.nk [] (Sub.nil _) ?_
      refine XC.sr ?_
      refine XO.as rfl rfl ?_
      refine XO.nk [(8, _)] (S1 rfl) ?_
      refine XC.ret ?_
      refine XE.ret1 rfl rfl (post_of .h3 rfl ?_)
      have e : s.writeE n a x = 0 := by unfold FF.writeE; rw [if_neg (by omega), if_neg (by omega), if_neg (by omega)]
      have hx0 : x = ByteArray.empty := size_nil.2 (by omega)
      have hj0 : j = 0 := by omega
      subst hj0
      exact ⟨by rw [e], ({ s with data := fset s.data n (padB (s.data n) 0) } : FC), by unfold FF.write; rw [if_neg (fun q => q.2 hx0), show fset s.data n (padB (s.data n) 0) = s.data from fset_same _ rfl], rfl, rfl, rfl⟩
set_option maxRecDepth 10000 in
set_option maxHeartbeats 400000 in
theorem same_texts (p q : Option Addr) (c c2 : Nat) (l : List ByteArray) (hm : l.length ≤ 1000) : Spec Tryz.prog 63 [.slice p l.length c, .slice q l.length c2]
    [srow p c 9 l, srow q c2 9 l]
    (fun v H1 => v = .bool true ∧ H1 = [srow p c 9 l, srow q c2 9 l]) := by
 refine Spec.intro Tryz.func63 rfl rfl ?_
 intro W
 refine XC.sr ?_
 refine XO.as rfl rfl ?_
 refine XO.nk [(0, _), (1, _)] (S2 rfl rfl) ?_
 refine XC.seq ?_
 refine XC.sr ?_
 refine XO.mv rfl rfl ?_
 refine XO.v (V.lenSl rfl Tryz.underlying28) rfl ?_
 refine XO.mv rfl rfl ?_
 refine XO.v (V.lenSl rfl Tryz.underlying28) rfl ?_
 refine XO.v (V.cmp rfl rfl rfl) rfl ?_
 refine XO.nk [(0, _), (1, _), (10, _)] (S3 rfl rfl rfl) ?_
 refine XC.condFP rfl (by simp) ?_
 refine XC.skip ?_
 refine XE.next ?_
 refine XC.keep [(0, _), (1, _)] (S2 rfl rfl) ?_
 refine XC.seq ?_
 refine XC.sr ?_
 refine XO.as rfl rfl ?_
 refine XO.nk [(0, _), (1, _), (5, _)] (S3 rfl rfl rfl) ?_
 refine XC.block ?_
 refine XC.loop (σ := Int) (fun i => (l.length - i).toNat) (fun i => 0 ≤ i ∧ i ≤ l.length) (fun i => [(5, .int .i64 i), (0, .slice p l.length c), (1, .slice q l.length c2)]) (fun i => XM W (foot [srow p c 9 l, srow q c2 9 l]) [srow p c 9 l, srow q c2 9 l]) (0) ?_ (S3 rfl rfl rfl) (fun _ hw => XM.pick .h2 hw) ?_
 ·
  omega
 intro i hi
 refine XC.seq ?_
 refine XC.sr ?_
 refine XO.mv rfl rfl ?_
 refine XO.mv rfl rfl ?_
 refine XO.v (V.lenSl rfl Tryz.underlying28) rfl ?_
 refine XO.v (V.cmp rfl rfl rfl) rfl ?_
 refine XO.nk [(0, _), (1, _), (5, _), (14, _)] (S4 rfl rfl rfl rfl) ?_
 refine XC.condP rfl (fun h1 => ?_) (fun h1 => ?_)
 ·
  refine XC.skip ?_
  refine XE.next ?_
  refine XC.keep [(0, _), (1, _), (5, _)] (S3 rfl rfl rfl) ?_
  refine XC.seq ?_
  refine XC.block ?_
  refine XC.seq ?_
  refine XC.openRow .here ((by omega)) ?_
  intro ga h2
  subst h2
  refine XC.openRow (.there .here) ((by omega)) ?_
  intro gb h3
  subst h3
  refine XC.regionQ mixed (f := 9) (l := #[false, false, false, false, false, false, false, false, false]) rfl rfl XM.drawn' ?_
  refine XQ.pv (i := 0) (l' := #[tt,ff,ff,ff,ff,ff,ff,ff,ff]) rfl (by kernel_rfl) rfl (V.move rfl) rfl rfl ?_
  refine XQ.pv (i := 1) (l' := #[tt,tt,ff,ff,ff,ff,ff,ff,ff]) rfl (by kernel_rfl) rfl (V.move rfl) rfl rfl ?_
  refine XQ.pv (i := 2) (l' := #[tt,tt,tt,ff,ff,ff,ff,ff,ff]) rfl (by kernel_rfl) rfl (V.indexSl rfl rfl sl_28 (by omega)) rfl rfl ?_
  refine XQ.load (i := 3) (l' := #[tt,tt,tt,tt,ff,ff,ff,ff,ff]) (.row _ _ _ _ _) [] rfl (by kernel_rfl) rfl .here (V.loadRow rfl inEnt (strs_at (by omega)) sc_9) rfl (by kernel_rfl) rfl ?_
  refine XQ.pv (i := 4) (l' := #[tt,tt,tt,tt,tt,ff,ff,ff,ff]) rfl (by kernel_rfl) rfl (V.move rfl) rfl rfl ?_
  refine XQ.pv (i := 5) (l' := #[tt,tt,tt,tt,tt,tt,ff,ff,ff]) rfl (by kernel_rfl) rfl (V.move rfl) rfl rfl ?_
  refine XQ.pv (i := 6) (l' := #[tt,tt,tt,tt,tt,tt,tt,ff,ff]) rfl (by kernel_rfl) rfl (V.indexSl rfl rfl sl_28 (by omega)) rfl rfl ?_
  refine XQ.load (i := 7) (l' := #[tt,tt,tt,tt,tt,tt,tt,tt,ff]) (.row _ _ _ _ _) [] rfl (by kernel_rfl) rfl (.there .here) (V.loadRow rfl inEnt (strs_at (by omega)) sc_9) rfl (by kernel_rfl) rfl ?_
  refine XQ.pv (i := 8) (l' := #[tt,tt,tt,tt,tt,tt,tt,tt,tt]) rfl (by kernel_rfl) rfl (V.strCmp rfl rfl rfl) rfl rfl ?_
  refine XQ.done (by kernel_rfl) ?_
  refine XE.next ?_
  refine XC.keep [(0, _), (1, _), (5, _), (25, _)] (S4 rfl rfl rfl rfl) ?_
  refine XC.condFP rfl (by simp) ?_
  refine XC.skip ?_
  refine XE.blockNormal ?_
  refine XE.next ?_
  refine XC.keep [(0, _), (1, _), (5, _)] (S3 rfl rfl rfl) ?_
  refine XC.region ?_
  refine XO.mv rfl rfl ?_
  refine XO.v (V.add rfl rfl _ (IntWalk.i64_in _ (by omega))) rfl ?_
  refine XO.as rfl rfl ?_
  refine XO.nil ?_
  refine XE.again (i + 1) ?_ ?_ (S3 rfl rfl rfl) (fun _ hw => XM.pick .h2 hw)
  ·
   (first | omega | (simp; done) | (simp; omega))
  ·
   (first | omega | (simp; done) | (simp; omega))
 ·
  refine XC.exit ?_
  refine XE.thenExit ?_
  refine XE.thenExit ?_
  refine XE.blockExit ?_
  refine XE.next ?_
  refine XC.keep [] (Sub.nil _) ?_
  refine XC.sr ?_
  refine XO.as rfl rfl ?_
  refine XO.nk [(4, _)] (S1 rfl) ?_
  refine XC.ret ?_
  refine XE.ret1 rfl rfl (post_of .h2 rfl ?_)
  exact ⟨rfl, rfl⟩
theorem same_texts2 (p q : Option Addr) (c c2 : Nat) (l l2 : List ByteArray) (hl : l2 = l) (hm : l.length ≤ 1000) : Spec Tryz.prog 63 [.slice p l.length c, .slice q l2.length c2] [srow p c 9 l, srow q c2 9 l2] (fun v H1 => v = .bool true ∧ H1 = [srow p c 9 l, srow q c2 9 l2]) := by
  subst hl; exact same_texts p q c c2 _ hm
set_option maxRecDepth 10000 in
set_option maxHeartbeats 400000 in
theorem same_texts_nil  : Spec Tryz.prog 63 [.slice none 0 0, .slice none 0 0]
    []
    (fun v H1 => v = .bool true ∧ H1 = []) := by
 refine Spec.intro Tryz.func63 rfl rfl ?_
 intro W
 refine XC.sr ?_
 refine XO.as rfl rfl ?_
 refine XO.nk [(0, _), (1, _)] (S2 rfl rfl) ?_
 refine XC.seq ?_
 refine XC.sr ?_
 refine XO.mv rfl rfl ?_
 refine XO.v (V.lenSl rfl Tryz.underlying28) rfl ?_
 refine XO.mv rfl rfl ?_
 refine XO.v (V.lenSl rfl Tryz.underlying28) rfl ?_
 refine XO.v (V.cmp rfl rfl rfl) rfl ?_
 refine XO.nk [(0, _), (1, _), (10, _)] (S3 rfl rfl rfl) ?_
 refine XC.condFP rfl (by simp) ?_
 refine XC.skip ?_
 refine XE.next ?_
 refine XC.keep [(0, _), (1, _)] (S2 rfl rfl) ?_
 refine XC.seq ?_
 refine XC.sr ?_
 refine XO.as rfl rfl ?_
 refine XO.nk [(0, _), (1, _), (5, _)] (S3 rfl rfl rfl) ?_
 refine XC.block ?_
 refine XC.loop (σ := Int) (fun i => 0) (fun i => 0 ≤ i) (fun i => [(5, .int .i64 i), (0, .slice none 0 0), (1, .slice none 0 0)]) (fun i => XM W (foot []) []) (0) ?_ (S3 rfl rfl rfl) (fun _ hw => XM.pick .nil hw) ?_
 ·
  omega
 intro i hi
 refine XC.seq ?_
 refine XC.sr ?_
 refine XO.mv rfl rfl ?_
 refine XO.mv rfl rfl ?_
 refine XO.v (V.lenSl rfl Tryz.underlying28) rfl ?_
 refine XO.v (V.cmp rfl rfl rfl) rfl ?_
 refine XO.nk [(0, _), (1, _), (5, _), (14, _)] (S4 rfl rfl rfl rfl) ?_
 refine XC.condFP rfl (by simp; omega) ?_
 refine XC.exit ?_
 refine XE.thenExit ?_
 refine XE.thenExit ?_
 refine XE.blockExit ?_
 refine XE.next ?_
 refine XC.keep [] (Sub.nil _) ?_
 refine XC.sr ?_
 refine XO.as rfl rfl ?_
 refine XO.nk [(4, _)] (S1 rfl) ?_
 refine XC.ret ?_
 refine XE.ret1 rfl rfl (post_of .nil rfl ?_)
 exact ⟨rfl, rfl⟩
end Go.X
