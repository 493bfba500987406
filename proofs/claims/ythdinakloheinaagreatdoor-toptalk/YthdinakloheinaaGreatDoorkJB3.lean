import Derived.Test.YthdinakloheinaaGreatDoorkNOW2
import Derived.Test.YthdinakloheinaaGreatDoorkNKM
import Derived.Shelf.Strings.Split
import Derived.Test.YthdinakloheinaaGreatDoorProg
import Derived.Ground.NamesProg
import Derived.Shelf.Lays
import Derived.Test.YthdinakloheinaaGreatDoorkNW6
import Derived.Test.YthdinakloheinaaGreatDoorXFam
import Derived.Test.YthdinakloheinaaGreatDoorkJA2
import Derived.Test.YthdinakloheinaaGreatDoorkKW5
namespace Go.X.Tr
open Go Go.Proofs Go.X
set_option maxRecDepth 20000
set_option maxHeartbeats 4000000

theorem f_Pipe (bo oo bf bp : Nat) (O : OS) (K : Int) (hK : K ≤ 1000000) (q : PS) (hq : q.Inv K) : Spec Tryz.prog 68 [ptr bo oo 0]
 [.cells bo oo 122 (encO bf bp O), .cells bp 0 24 (encP q)]
 (fun v H1 => v = .tuple #[.int .i64 (opipeV q O), .int .i64 (opipeU q O), errv 102 (opipeE q O)] ∧ H1 = [.cells bo oo 122 (encO bf bp (opipeO q O)), .cells bp 0 24 (encP (opipeP q O))]) := by
  refine Spec.go 48 [0, 2, 3, 4, 5, 6, 7, 11, 22] [] Tryz.func68 rfl rfl rfl ?_
  intro W
  refine ca (f_free _ _ _ _ _ _) .h1 ?_
  rintro _ _ (⟨f0, rfl, rfl⟩ | ⟨f0, p1, c1, rfl, rfl⟩)
  · skip
    refine gO ?_
    refine XO.v (V.sliceNil rfl Tryz.underlying55 rfl) rfl (gO ?_)
    refine cdT rfl (rfl) ?_
    refine XE.ret3 rfl rfl rfl rfl (post_of .h2 rfl ?_)
    try dsimp only [SW.den, SV.den, dens, ofC]
    have hf := OS.free2_no f0
    have e : opipeE q O = 4 := by unfold opipeE; rw [if_pos hf]
    have eV : opipeV q O = 0 := by unfold opipeV; rw [if_neg (by omega)]
    have eU : opipeU q O = 0 := by unfold opipeU; rw [if_neg (by omega)]
    have eO : opipeO q O = O := by unfold opipeO; rw [if_neg (by omega)]
    have eP : opipeP q O = q := by unfold opipeP; rw [if_pos hf]
    exact ⟨by rw [e, eV, eU]; rfl, by rw [eO, eP]⟩
  · skip
    obtain ⟨hf1, hf2, hf4⟩ := OS.free2_yes f0
    have hf3 := OS.first_ok hf1
    have hf5 : 0 ≤ O.second ∧ O.second < 24 := ⟨by omega, (OS.first_ok (s := O.lay O.first 2 0 false) hf2).2.1⟩
    have hf6 : ¬ (O.first < 0 ∨ O.second < 0) := by omega
    rw [hf4]
    refine gO ?_
    refine XR.openRow .here (by show 0 < 2; omega) ?_
    intro g hg
    subst hg
    refine XO.v (V.sliceNil rfl Tryz.underlying55 rfl) rfl (gO ?_)
    refine cdF rfl (by simp) ?_
    refine ld (.there .here) (encO.ld_p _) ?_
    refine ca (p_Make _ _ K hK q hq) (.cons (.t2 .here) .nil) ?_
    rintro _ _ ⟨rfl, rfl⟩
    refine gO ?_
    refine cd rfl ?_ ?_ <;> intro h1
    · skip
      refine XE.ret3 rfl rfl rfl rfl (post_of (.cons (.t2 .here) .h1) rfl ?_)
      try dsimp only [SW.den, SV.den, dens, ofC]
      have e : opipeE q O = q.make.2.1 := by unfold opipeE; rw [if_neg hf6]
      have eV : opipeV q O = 0 := by unfold opipeV; rw [if_neg (by omega)]
      have eU : opipeU q O = 0 := by unfold opipeU; rw [if_neg (by omega)]
      have eO : opipeO q O = O := by unfold opipeO; rw [if_neg (by omega)]
      have eP : opipeP q O = q.make.2.2 := by unfold opipeP; rw [if_neg hf6]
      exact ⟨by rw [e, eV, eU], by rw [eO, eP]⟩
    · skip
      refine rq [0, 1, 2, 3, 4, 5, 6, 7, 8, 9] mixed (by kernel_rfl) ?_
      refine sd (by show (0 : Int) ≤ 0 ∧ (0 : Int) < 2; omega) ?_
      refine ldR (.there .here) (ints2a _ _) ?_
      refine XO.v (V.build (vs := #[(0, .int .i64 2), (1, .int .i64 q.make.1), (4, .int .i64 1)]) rfl (v := .agg (encO.arr ⟨2, q.make.1, 0, false, 1⟩)) (fun _ => by kernel_rfl)) rfl (gO ?_)
      refine sd ⟨hf3.1, hf3.2.1⟩ ?_
      refine stA (.t2 .here) (encO.put O O.first 2 q.make.1 false 1 ⟨hf3.1, hf3.2.1⟩) rfl ⟨rfl, rfl⟩ ?_
      refine rq [0, 1, 2, 3, 4, 5, 6, 7, 8, 9] mixed (by kernel_rfl) ?_
      refine sd (by show (0 : Int) ≤ 1 ∧ (1 : Int) < 2; omega) ?_
      refine ldR (.there .here) (ints2b _ _) ?_
      refine XO.v (V.build (vs := #[(0, .int .i64 3), (1, .int .i64 q.make.1), (4, .int .i64 1)]) rfl (v := .agg (encO.arr ⟨3, q.make.1, 0, false, 1⟩)) (fun _ => by kernel_rfl)) rfl (gO ?_)
      refine sd hf5 ?_
      refine stA (.t2 .here) (encO.put (O.lay O.first 2 q.make.1 false) O.second 3 q.make.1 false 1 hf5) rfl ⟨rfl, rfl⟩ ?_
      refine rq [0, 1, 2, 3, 4, 5, 6, 7, 8] mixed (by kernel_rfl) ?_
      refine sd (by show (0 : Int) ≤ 0 ∧ (0 : Int) < 2; omega) ?_
      refine ldR (.there .here) (ints2a _ _) ?_
      refine sd (by show (0 : Int) ≤ 1 ∧ (1 : Int) < 2; omega) ?_
      refine ldR (.there .here) (ints2b _ _) ?_
      refine XE.ret3 rfl rfl rfl rfl (post_of (.cons (.t2 .here) .h1) rfl ?_)
      try dsimp only [SW.den, SV.den, dens, ofC]
      have hz : q.make.2.1 = 0 := Decidable.byContradiction (by assumption)
      have e : opipeE q O = 0 := by unfold opipeE; rw [if_neg hf6, hz]
      have eV : opipeV q O = O.first := by unfold opipeV; rw [if_pos e]
      have eU : opipeU q O = O.second := by unfold opipeU; rw [if_pos e]
      have eO : opipeO q O = (O.lay O.first 2 q.make.1 false).lay O.second 3 q.make.1 false := by unfold opipeO; rw [if_pos e]
      have eP : opipeP q O = q.make.2.2 := by unfold opipeP; rw [if_neg hf6]
      exact ⟨by rw [e, eV, eU]; rfl, by rw [eO, eP]; rfl⟩
end Go.X.Tr

namespace Go.X.Tr
open Go Go.Shelf Go.RowKit Go.Lib Go.Proofs Go.X
set_option maxRecDepth 20000
set_option maxHeartbeats 4000000
section
variable {P : Program} {ρ : Ren}
end
end Go.X.Tr

/-
  DERIVED: THE SHELF's CONTRACTS AT THIS DUMP, IN PLAIN WORDS (tools/lay-plain.mjs out of 'TrydSHL.lean', which tools/lay-shelf.mjs wrote): THE SAME DECLARATIONS UNDER THE SAME NAMES: 'import', 'namespace', 'open', 'def', 'theorem' AND NOTHING ELSE: no command of the shelf's: FOR A HAND-IN. Each laying: the table of numbers ('.._ren') and one theorem, a field a fact of the dump's own or the kernel's comparison; each contract: ONE APPLICATION.
-/
namespace Go.Proofs
open Go.Shelf
def trydSplit_ren : Go.Shelf.Ren := ⟨fun | 146 => 246 | 221 => 265 | 268 => 277 | 138 => 278 | 143 => 279 | 195 => 284 | 197 => 285 | 218 => 286 | 219 => 287 | 260 => 290 | 217 => 291 | 225 => 292 | 224 => 293 | 267 => 294 | 266 => 295 | 314 => 296 | n => n, fun | 9 => 9 | 31 => 207 | 3 => 3 | 4 => 4 | 0 => 0 | 105 => 306 | 21 => 21 | 5 => 5 | 46 => 258 | 119 => 311 | 139 => 314 | 138 => 313 | 146 => 315 | 51 => 257 | n => n, fun | 1 => 2 | 3 => 3 | 4 => 4 | n => n⟩
end Go.Proofs

namespace Go.X.Tr
open Go Go.Proofs Go.X
set_option maxRecDepth 20000
set_option maxHeartbeats 4000000
theorem ag_163 : aggT Tryz.prog 163 = true := by kernel_rfl
theorem sz_163_2 : szOf Tryz.prog 163 = some 2 := by kernel_rfl

end Go.X.Tr

namespace Go.X.Tr
open Go Go.Proofs Go.X
set_option maxRecDepth 20000
set_option maxHeartbeats 4000000
end Go.X.Tr

namespace Go.X.Tr
open Go Go.Proofs Go.X
set_option maxRecDepth 20000
set_option maxHeartbeats 4000000
end Go.X.Tr

namespace Go.X.Tr
open Go Go.Proofs Go.X
set_option maxRecDepth 20000
set_option maxHeartbeats 4000000
theorem fo_166_0 : fieldOff Tryz.prog 166 0 = some 0 := by kernel_rfl
theorem fo_166_1 : fieldOff Tryz.prog 166 1 = some 1 := by kernel_rfl
theorem fo_166_2 : fieldOff Tryz.prog 166 2 = some 3 := by kernel_rfl
theorem rt_168_4 : rowT Tryz.prog 168 4 = true := by kernel_rfl
theorem sc_164 : scal Tryz.prog 164 = true := by kernel_rfl
theorem sc_95 : scal Tryz.prog 95 = true := by kernel_rfl
theorem m_New (bf : Nat) (s : FC) (d : Int → Nat) (B : Int) (hO : s.toFF.Ok d B) (hB : B ≤ 900000) (t : Int) : Spec Tryz.prog 102 [ptr bf 0 0, .int .i64 t]
 [.cells bf 0 321 (encF s), .fam fam40 (FC.rowsN 9 s), .fam fam40 (FC.rowsK 3 s), irow (FC.rP s) (FC.rC s) 3 (FC.toFF s).roots]
 (fun v H1 => (s.rootE t ≠ 0 ∧ v = .tuple #[.pointer none, errv 102 (s.rootE t)] ∧ H1 = [.cells bf 0 321 (encF s), .fam fam40 (FC.rowsN 9 s), .fam fam40 (FC.rowsK 3 s), irow (FC.rP s) (FC.rC s) 3 (FC.toFF s).roots]) ∨ (s.rootE t = 0 ∧ ∃ (bt : Nat) (u : FC), v = .tuple #[ptr bt 0 0, .nilIface] ∧ u.toFF = s.toFF.hold (s.rootV t) ∧ u.rP = s.rP ∧ u.rC = s.rC ∧ H1 = [.cells bt 0 4 (encT bf ⟨t, s.rootV t⟩ (.slice none 0 0)), frow none 0 168 4 0 C0, .cells bf 0 321 (encF u), .fam fam40 (FC.rowsN 9 u), .fam fam40 (FC.rowsK 3 u), irow (FC.rP s) (FC.rC s) 3 (FC.toFF s).roots])) := by
  have hI := hO.sh (by omega)
  refine Spec.go 26 [0, 1, 4, 5, 6, 7, 15] [] Tryz.func102 rfl rfl rfl ?_
  intro W
  refine ca (t_Root _ _ _ hI _) (.cons .here (.cons (.t2 .here) .nil)) ?_
  rintro _ _ ⟨rfl, rfl⟩
  refine gO ?_
  refine cd rfl ?_ ?_ <;> intro h1
  · skip
    refine XE.ret2 rfl rfl rfl (post_of (.cons .here (.cons (.there .here) (.cons (.there .here) .h1))) rfl ?_)
    try dsimp only [SW.den, SV.den, dens, ofC]
    exact .inl ⟨by assumption, rfl, rfl⟩
  · skip
    refine ca (t_Hold _ _ _ hI _) (.cons .here (.cons (.there .here) (.cons (.there .here) .nil))) ?_
    rintro _ _ ⟨rfl, u, hu, pu, cu, rfl⟩
    refine gO ?_
    refine XO.v (V.build (vs := #[(0, .int .i64 t), (1, .int .i64 (s.rootV t))]) rfl (v := .agg (WH.arr ⟨t, s.rootV t⟩)) (fun _ => by kernel_rfl)) rfl (gO ?_)
    refine XO.v (V.build (vs := #[(0, ptr bf 0 0), (1, .agg (WH.arr ⟨t, s.rootV t⟩))]) rfl (v := .agg (arrT bf ⟨t, s.rootV t⟩ (.slice none 0 0))) (fun _ => by kernel_rfl)) rfl (gO ?_)
    refine XO.box (m := 4) (C := encT bf ⟨t, s.rootV t⟩ (.slice none 0 0)) rfl rfl (encT.box _ _ _) rfl ?_
    intro bt
    refine gO ?_
    refine XR.nilRow 168 4 ?_
    refine XE.ret2 rfl rfl rfl (post_of (.cons (.there .here) .h5) rfl ?_)
    try dsimp only [SW.den, SV.den, dens, ofC]
    exact .inr ⟨Decidable.byContradiction (by assumption), bt, u, rfl, hu, pu, cu, rfl⟩
theorem m_Copy (bt bf : Nat) (r : WH) (l : List MT) (p : Option Addr) (cap k c : Nat) (C : Nat → Value) (hv : RV.ok ⟨p, cap, k, l.length, c, C⟩) (hC : MC C l) (hm6 : l.length ≤ 6) (s : FC) (d : Int → Nat) (B : Int) (hO : s.toFF.Ok d B) (hB : B ≤ 900000) : Spec Tryz.prog 55 [ptr bt 0 0]
 [.cells bt 0 4 (encT bf r (.slice p l.length c)), frow p cap 168 4 k C, .cells bf 0 321 (encF s), .fam fam40 (FC.rowsN 9 s), .fam fam40 (FC.rowsK 3 s)]
 (fun v H1 => ∃ (bt2 : Nat) (p2 : Option Addr) (cap2 k2 c2 : Nat) (C2 : Nat → Value) (u : FC), v = ptr bt2 0 0 ∧ RV.ok ⟨p2, cap2, k2, l.length, c2, C2⟩ ∧ MC C2 l ∧ u.toFF = copyF s.toFF l r ∧ u.toFF.Ok d (B + 13) ∧ u.rP = s.rP ∧ u.rC = s.rC ∧ H1 = [.cells bt2 0 4 (encT bf r (.slice p2 l.length c2)), frow p2 cap2 168 4 k2 C2, .cells bt 0 4 (encT bf r (.slice p l.length c)), frow p cap 168 4 k C, .cells bf 0 321 (encF u), .fam fam40 (FC.rowsN 9 u), .fam fam40 (FC.rowsK 3 u)]) := by
  have hlk := RV.ok_le hv
  have hlk : l.length ≤ k := hlk
  have hI := hO.sh (by omega)
  refine Spec.go 58 [0, 2, 3, 5, 34, 35, 36, 37] [] Tryz.func55 rfl rfl rfl ?_
  intro W
  refine XC.regionQ mixed (f := 16) (l := #[false, false, false, false, false, false, false, false, false, false, false, false, false, false, false, false]) rfl rfl XM.drawn' ?_
  refine XQ.pv (i := 0) (l' := #[true, false, false, false, false, false, false, false, false, false, false, false, false, false, false, false]) rfl (by kernel_rfl) rfl (V.move rfl) rfl rfl ?_
  refine XQ.pv (i := 1) (l' := #[true, true, false, false, false, false, false, false, false, false, false, false, false, false, false, false]) rfl (by kernel_rfl) rfl (V.nilCheckP rfl) rfl rfl ?_
  refine XQ.pv (i := 2) (l' := #[true, true, true, false, false, false, false, false, false, false, false, false, false, false, false, false]) rfl (by kernel_rfl) rfl (V.fieldAddr rfl fo_166_0) rfl rfl ?_
  refine XQ.load (i := 3) (l' := #[true, true, true, true, false, false, false, false, false, false, false, false, false, false, false, false]) (.cells _ _ _ _) [14] rfl (by kernel_rfl) rfl .here (V.load rfl inEnt (encT.ld0 _ _) sc_95) rfl (by kernel_rfl) rfl ?_
  refine XQ.pv (i := 4) (l' := #[true, true, true, true, true, false, false, false, false, false, false, false, false, false, false, false]) rfl (by kernel_rfl) rfl (V.move rfl) rfl rfl ?_
  refine XQ.pv (i := 5) (l' := #[true, true, true, true, true, true, false, false, false, false, false, false, false, false, false, false]) rfl (by kernel_rfl) rfl (V.nilCheckP rfl) rfl rfl ?_
  refine XQ.pv (i := 6) (l' := #[true, true, true, true, true, true, true, false, false, false, false, false, false, false, false, false]) rfl (by kernel_rfl) rfl (V.fieldAddr rfl fo_166_1) rfl rfl ?_
  refine XQ.load (i := 7) (l' := #[true, true, true, true, true, true, true, true, false, false, false, false, false, false, false, false]) (.cells _ _ _ _) [14] rfl (by kernel_rfl) rfl .here (V.loadAgg rfl inEnt (encT.ld1 _ _) ag_163 sz_163_2) rfl (by kernel_rfl) rfl ?_
  refine XQ.pv (i := 8) (l' := #[true, true, true, true, true, true, true, true, true, false, false, false, false, false, false, false]) rfl (by kernel_rfl) rfl (V.move rfl) rfl rfl ?_
  refine XQ.pv (i := 9) (l' := #[true, true, true, true, true, true, true, true, true, true, false, false, false, false, false, false]) rfl (by kernel_rfl) rfl (V.nilCheckP rfl) rfl rfl ?_
  refine XQ.pv (i := 10) (l' := #[true, true, true, true, true, true, true, true, true, true, true, false, false, false, false, false]) rfl (by kernel_rfl) rfl (V.fieldAddr rfl fo_166_2) rfl rfl ?_
  refine XQ.load (i := 11) (l' := #[true, true, true, true, true, true, true, true, true, true, true, true, false, false, false, false]) (.cells _ _ _ _) [12, 14] rfl (by kernel_rfl) rfl .here (V.load rfl inEnt (encT.ld2 _ _) sc_164) rfl (by kernel_rfl) rfl ?_
  refine XQ.g (i := 12) (l' := #[true, true, true, true, true, true, true, true, true, true, true, true, true, false, false, false]) rfl (by kernel_rfl) rfl (RG.clone (e := 168) (v := ⟨p, cap, k, l.length, c, C⟩) hv rfl Tryz.underlying164 rt_168_4 (.there .here) (by show l.length ≤ _; omega)) rfl (fun _ _ hw' => ⟨fun hs => (hs 12 (by first | (simp; done) | (simp; rfl)) rfl).elim, fun _ => inXM (.there .here) _ hw', fun _ => inXM (.there .here) _ hw', trivial⟩) ?_
  intro u hu
  obtain ⟨hu1, hu2, hu3⟩ := hu
  obtain ⟨p2, cap2, k2, len2, c2, C2⟩ := u
  have hu2 : len2 = l.length := hu2
  subst hu2
  have hC2 : MC C2 l := hC.copy hu3
  have hlk2 : l.length ≤ k2 := RV.ok_le hu1
  refine XQ.pv (i := 13) (l' := #[true, true, true, true, true, true, true, true, true, true, true, true, true, true, false, false]) rfl (by kernel_rfl) rfl (V.build (vs := #[(0, ptr bf 0 0), (1, .agg (WH.arr r)), (2, .slice p2 l.length c2)]) rfl (v := .agg (arrT bf r (.slice p2 l.length c2))) (fun _ => by kernel_rfl)) rfl rfl ?_
  refine XQ.g (i := 14) (l' := #[true, true, true, true, true, true, true, true, true, true, true, true, true, true, true, false]) rfl (by kernel_rfl) rfl (RG.box (m := 4) (C := encT bf r (.slice p2 l.length c2)) rfl rfl (encT.box _ _ _)) rfl (fun _ _ hw' => ⟨fun hs => (hs 12 (by first | (simp; done) | (simp; rfl)) rfl).elim, fun hs => (hs 14 (by first | (simp; done) | (simp; rfl)) rfl).elim, fun hs => (hs 14 (by first | (simp; done) | (simp; rfl)) rfl).elim, trivial⟩) ?_
  intro bt2 _
  refine XQ.pv (i := 15) (l' := #[true, true, true, true, true, true, true, true, true, true, true, true, true, true, true, true]) rfl (by kernel_rfl) rfl (V.assign rfl) rfl rfl ?_
  refine XQ.done (by kernel_rfl) ?_
  refine gE ?_
  refine rq [0, 1, 2, 3, 4, 5, 6, 7, 8, 9] mixed (by kernel_rfl) ?_
  refine ld .here (encT.ld0 _ _) ?_
  refine ld .here (encT.ld1n _ _) ?_
  refine ca (t_Hold _ _ s hI _) (.cons (.t4 .here) (.cons (.t4 .here) (.cons (.t4 .here) .nil))) ?_
  rintro _ _ ⟨rfl, u0, hu0, pu0, cu0, rfl⟩
  have hO0 : u0.toFF.Ok d (B + 1) := by rw [hu0]; exact hO.hold r.node
  refine gO ?_
  refine ld (.t3 .here) (encT.ld2 _ _) ?_
  refine lp (σ := FC × Int) (fun x => (l.length - x.2).toNat) (fun x => holdM x.1.toFF (l.drop x.2.toNat) = copyF s.toFF l r ∧ x.1.toFF.Ok d (B + 1 + 2 * x.2) ∧ x.1.rP = s.rP ∧ x.1.rC = s.rC ∧ 0 ≤ x.2 ∧ x.2 ≤ l.length) (fun x => [(36, .int .i64 x.2), (3, ptr bt2 0 0), (34, .slice p2 l.length c2), (35, .int .i64 l.length)]) (fun x => XM W (foot [.cells bt 0 4 (encT bf r (.slice p l.length c)), frow p cap 168 4 k C, .cells bf 0 321 (encF s), .fam fam40 (FC.rowsN 9 s), .fam fam40 (FC.rowsK 3 s)]) [.cells bt2 0 4 (encT bf r (.slice p2 l.length c2)), frow p2 cap2 168 4 k2 C2, .cells bt 0 4 (encT bf r (.slice p l.length c)), frow p cap 168 4 k C, .cells bf 0 321 (encF x.1), .fam fam40 (FC.rowsN 9 x.1), .fam fam40 (FC.rowsK 3 x.1)]) ((u0, 0)) ?_ (S4 rfl rfl rfl rfl) (fun _ hw => XM.pick (.cons (.t3 .here) (.cons (.t3 .here) (.cons (.t3 .here) (.cons (.t3 .here) .h3)))) hw) ?_
  · skip
    exact ⟨by show holdM u0.toFF l = _; rw [hu0]; rfl, by simpa using hO0, pu0, cu0, by simp, by simp⟩
  intro x hx
  obtain ⟨hh, hOx, hxp, hxc, hx0, hx1⟩ := hx
  refine gC ?_
  refine cd rfl ?_ ?_ <;> intro h1
  · skip
    refine XR.openRow (.there .here) (by omega) ?_
    intro g hg
    subst hg
    refine sd (by omega) ?_
    refine ldAF (.there .here) (hC2.ld hlk2 _ (by omega)) ?_
    refine XO.allocZ (z := .agg (MT.arr MT.nil)) (m := 4) (C := encMt MT.nil) (by kernel_rfl) rfl (encMt.box _) rfl ?_
    intro bm
    refine gO ?_
    refine stA .here (encMt.st _ _) rfl ⟨rfl, rfl⟩ ?_
    refine rq [0, 1, 2, 3, 4, 5, 6, 7] mixed (by kernel_rfl) ?_
    refine ld (.there .here) (encT.ld0 _ _) ?_
    refine ld .here (encMt.ldAn _) ?_
    refine ca (t_Hold _ _ x.1 (hOx.sh (by omega)) _) (.cons (.t5 .here) (.cons (.t5 .here) (.cons (.t5 .here) .nil))) ?_
    rintro _ _ ⟨rfl, u1, hu1x, pu1, cu1, rfl⟩
    refine gO ?_
    refine rq [0, 1, 2, 3, 4, 5, 6, 7] mixed (by kernel_rfl) ?_
    have hO1 : u1.toFF.Ok d (B + 1 + 2 * x.2 + 1) := by rw [hu1x]; exact hOx.hold (mat l x.2).at_.node
    refine ld (.t4 .here) (encT.ld0 _ _) ?_
    refine ld (.t3 .here) (encMt.ldTn _) ?_
    refine ca (t_Hold _ _ u1 (hO1.sh (by omega)) _) .h3 ?_
    rintro _ _ ⟨rfl, u2, hu2x, pu2, cu2, rfl⟩
    refine gO ?_
    refine sd (by omega) ?_
    refine ag ((u2, x.2 + 1)) ?_ ?_ (S4 rfl rfl rfl rfl) (fun _ hw => XM.pick (.cons (.t4 .here) (.cons (.t4 .here) (.cons (.t4 .here) (.cons (.t4 .here) .h3)))) hw)
    · skip
      (simp; omega)
    · skip
      exact ⟨by rw [← hh, holdM_step (i := x.2) ⟨by omega, by omega⟩]; show holdM u2.toFF _ = _; rw [hu2x, hu1x], by have h9 := hO1.hold (mat l x.2).to.node; rw [show B + 1 + 2 * (x.2 + 1) = B + 1 + 2 * x.2 + 1 + 1 from by omega]; show u2.toFF.Ok d _; rw [hu2x]; exact h9, by show u2.rP = _; rw [pu2, pu1, hxp], by show u2.rC = _; rw [cu2, cu1, hxc], by simp; omega, by simp; omega⟩
  · skip
    refine XE.ret1 rfl rfl (post_of .h7 rfl ?_)
    try dsimp only [SW.den, SV.den, dens, ofC]
    have e : x.2 = l.length := by omega
    rw [e] at hh
    exact ⟨bt2, p2, cap2, k2, c2, C2, x.1, rfl, hu1, hC2, by rw [← hh, holdM_end], ⟨hOx.inv, fun n a b => Int.le_trans (hOx.held n a b) (by omega), by have := hOx.nn; omega⟩, hxp, hxc, rfl⟩
theorem m_Close (bt bf : Nat) (r : WH) (l : List MT) (p : Option Addr) (cap k c : Nat) (C : Nat → Value) (hv : RV.ok ⟨p, cap, k, l.length, c, C⟩) (hC : MC C l) (hm6 : l.length ≤ 6) (s : FC) (d : Int → Nat) (B : Int) (hO : s.toFF.Ok d B) (hB : B ≤ 900000) : Spec Tryz.prog 133 [ptr bt 0 0]
 [.cells bt 0 4 (encT bf r (.slice p l.length c)), frow p cap 168 4 k C, .cells bf 0 321 (encF s), .fam fam40 (FC.rowsN 9 s), .fam fam40 (FC.rowsK 3 s)]
 (fun v H1 => v = .tuple #[] ∧ ∃ u : FC, u.toFF = tcloseF s.toFF l r ∧ u.toFF.Ok d (B + 13) ∧ u.rP = s.rP ∧ u.rC = s.rC ∧ H1 = [.cells bt 0 4 (encT bf r (.slice none 0 0)), frow none 0 168 4 0 C0, .cells bf 0 321 (encF u), .fam fam40 (FC.rowsN 9 u), .fam fam40 (FC.rowsK 3 u)]) := by
  have hlk := RV.ok_le hv
  have hlk : l.length ≤ k := hlk
  refine Spec.go 43 [0, 3, 7, 8, 9, 10] [] Tryz.func133 rfl rfl rfl ?_
  intro W
  refine ld .here (encT.ld2 _ _) ?_
  refine lp (σ := FC × Int) (fun x => (l.length - x.2).toNat) (fun x => letM x.1.toFF (l.drop x.2.toNat) = letM s.toFF l ∧ x.1.toFF.Ok d (B + 2 * x.2) ∧ x.1.rP = s.rP ∧ x.1.rC = s.rC ∧ 0 ≤ x.2 ∧ x.2 ≤ l.length) (fun x => [(9, .int .i64 x.2), (0, ptr bt 0 0), (7, .slice p l.length c), (8, .int .i64 l.length)]) (fun x => XM W (foot [.cells bt 0 4 (encT bf r (.slice p l.length c)), frow p cap 168 4 k C, .cells bf 0 321 (encF s), .fam fam40 (FC.rowsN 9 s), .fam fam40 (FC.rowsK 3 s)]) [.cells bt 0 4 (encT bf r (.slice p l.length c)), frow p cap 168 4 k C, .cells bf 0 321 (encF x.1), .fam fam40 (FC.rowsN 9 x.1), .fam fam40 (FC.rowsK 3 x.1)]) ((s, 0)) ?_ (S4 rfl rfl rfl rfl) (fun _ hw => XM.pick .h5 hw) ?_
  · skip
    exact ⟨rfl, by simpa using hO, rfl, rfl, by simp, by simp⟩
  intro x hx
  obtain ⟨hh, hOx, hxp, hxc, hx0, hx1⟩ := hx
  refine gC ?_
  refine cd rfl ?_ ?_ <;> intro h1
  · skip
    refine XR.openRow (.there .here) (by omega) ?_
    intro g hg
    subst hg
    refine sd (by omega) ?_
    refine ldAF (.there .here) (hC.ld hlk _ (by omega)) ?_
    refine XO.allocZ (z := .agg (MT.arr MT.nil)) (m := 4) (C := encMt MT.nil) (by kernel_rfl) rfl (encMt.box _) rfl ?_
    intro bm
    refine gO ?_
    refine stA .here (encMt.st _ _) rfl ⟨rfl, rfl⟩ ?_
    refine rq [0, 1, 2, 3, 4, 5, 6, 7] mixed (by kernel_rfl) ?_
    refine ld (.there .here) (encT.ld0 _ _) ?_
    refine ld .here (encMt.ldAn _) ?_
    refine ca (t_Let _ _ x.1 (hOx.sh (by omega)) _) (.cons (.t3 .here) (.cons (.t3 .here) (.cons (.t3 .here) .nil))) ?_
    rintro _ _ ⟨rfl, u1, hu1, pu1, cu1, rfl⟩
    refine gO ?_
    refine rq [0, 1, 2, 3, 4, 5, 6, 7] mixed (by kernel_rfl) ?_
    have hO1 : u1.toFF.Ok d (B + 2 * x.2 + 1) := by rw [hu1]; exact hOx.letF (mat l x.2).at_.node
    refine ld (.t4 .here) (encT.ld0 _ _) ?_
    refine ld (.t3 .here) (encMt.ldTn _) ?_
    refine ca (t_Let _ _ u1 (hO1.sh (by omega)) _) .h3 ?_
    rintro _ _ ⟨rfl, u2, hu2, pu2, cu2, rfl⟩
    refine gO ?_
    refine sd (by omega) ?_
    refine ag ((u2, x.2 + 1)) ?_ ?_ (S4 rfl rfl rfl rfl) (fun _ hw => XM.pick (.cons (.t4 .here) (.cons (.t4 .here) .h3)) hw)
    · skip
      (simp; omega)
    · skip
      exact ⟨by rw [← hh, letM_step (i := x.2) ⟨by omega, by omega⟩]; show letM u2.toFF _ = _; rw [hu2, hu1], by have h9 := hO1.letF (mat l x.2).to.node; rw [show B + 2 * (x.2 + 1) = B + 2 * x.2 + 1 + 1 from by omega]; show u2.toFF.Ok d _; rw [hu2]; exact h9, by show u2.rP = _; rw [pu2, pu1, hxp], by show u2.rC = _; rw [cu2, cu1, hxc], by simp; omega, by simp; omega⟩
  · skip
    refine rq [0, 1, 2, 3, 4, 5, 6, 7, 8, 9] mixed (by kernel_rfl) ?_
    refine ld .here (encT.ld0 _ _) ?_
    refine ld .here (encT.ld1n _ _) ?_
    refine ca (t_Let _ _ x.1 (hOx.sh (by omega)) _) (.cons (.t2 .here) (.cons (.t2 .here) (.cons (.t2 .here) .nil))) ?_
    rintro _ _ ⟨rfl, u3, hu3, pu3, cu3, rfl⟩
    refine gO ?_
    refine XR.nilRow 168 4 ?_
    refine st (.t4 .here) (encT.st2 _ _ _) rfl ?_
    refine XE.end0 rfl (post_of (.cons (.t4 .here) .h4) rfl ?_)
    try dsimp only [SW.den, SV.den, dens, ofC]
    have e : x.2 = l.length := by omega
    rw [e, letM_end] at hh
    have h9 := hOx.letF r.node
    exact ⟨rfl, u3, by rw [hu3, hh]; rfl, by rw [hu3]; exact ⟨h9.inv, fun n a b => Int.le_trans (h9.held n a b) (by omega), by have := h9.nn; omega⟩, by rw [pu3, hxp], by rw [cu3, hxc], rfl⟩
end Go.X.Tr

namespace Go.X.Tr
open Go Go.Proofs Go.X
set_option maxRecDepth 20000
set_option maxHeartbeats 4000000
theorem sc_3 : scal Tryz.prog 3 = true := by kernel_rfl
end Go.X.Tr

namespace Go.X.Kn
open Go Go.Proofs Go.X
set_option maxRecDepth 20000
set_option maxHeartbeats 4000000

theorem k_slot (kb : Nat) (k : KP) (n : Int) (hn : 0 ≤ n ∧ n < 20) (x : Int) (hx : 0 ≤ x) : Spec Tryz.prog 67 [ptr kb 0 (0 + 0 + n.toNat * 22), .int .i64 x]
 [.cells kb 0 453 (encKn k)]
 (fun v H1 => v = .int .i64 (slotF (k.u n).fd x) ∧ H1 = [.cells kb 0 453 (encKn k)]) := by
  refine Spec.go 19 [0, 1, 4, 5, 8, 17] [] Tryz.func67 rfl rfl rfl ?_
  intro W
  refine lp (σ := Int) (fun i => (6 - i).toNat) (fun i => 0 ≤ i ∧ x ≤ i ∧ ∀ j : Int, 0 ≤ j → x ≤ j → j < i → (k.u n).fd j ≠ 0) (fun i => [(5, .int .i64 i), (0, ptr kb 0 (0 + 0 + n.toNat * 22))]) (fun i => XM W (foot [.cells kb 0 453 (encKn k)]) [.cells kb 0 453 (encKn k)]) (x) ?_ (S2 rfl rfl) (fun _ hw => XM.pick .h1 hw) ?_
  · skip
    exact ⟨hx, by omega, fun j a1 a2 a3 => by omega⟩
  intro i hi
  obtain ⟨hi0, hxi, hno⟩ := hi
  refine gC ?_
  refine cd rfl ?_ ?_ <;> intro h1
  · skip
    refine sd (by omega) ?_
    refine ld .here (encKn.ld_fd _ (by omega) (by omega)) ?_
    refine cd rfl ?_ ?_ <;> intro h2
    · skip
      refine XE.ret1 rfl rfl (post_of .h1 rfl ?_)
      try dsimp only [SW.den, SV.den, dens, ofC]
      exact ⟨by rw [slotF_hit ⟨hi0, hxi, by omega⟩ (by assumption) hno], rfl⟩
    · skip
      refine sd (by omega) ?_
      refine ag (i + 1) ?_ ?_ (S2 rfl rfl) (fun _ hw => XM.pick .h1 hw)
      · skip
        (first | omega | (simp; done) | (simp; omega))
      · skip
        refine ⟨by omega, by omega, fun j a1 a2 a3 => ?_⟩
        by_cases e : j = i
        · subst e; assumption
        · exact hno j a1 a2 (by omega)
  · skip
    refine XE.ret1 rfl rfl (post_of .h1 rfl ?_)
    try dsimp only [SW.den, SV.den, dens, ofC]
    exact ⟨by rw [slotF_none (fun j a1 a2 a3 => hno j a1 a2 (by omega))], rfl⟩
theorem k_open (kb : Nat) (k : KP) (n i : Int) (hf : ∀ n i, 0 ≤ (k.u n).fd i ∧ (k.u n).fd i ≤ 24) : Spec Tryz.prog 69 [ptr kb 0 0, .int .i64 n, .int .i64 i]
 [.cells kb 0 453 (encKn k)]
 (fun v H1 => v = .tuple #[.int .i64 (k.openV n i), errv 102 (k.openE n i)] ∧ H1 = [.cells kb 0 453 (encKn k)]) := by
  have hf1 := hf n i
  refine Spec.go 41 [0, 1, 2, 6, 7, 8, 9, 17, 24, 32] [] Tryz.func69 rfl rfl rfl ?_
  intro W
  refine ca (k_live kb _ _) .h1 ?_
  rintro _ _ ⟨⟨hl, rfl⟩ | ⟨hl, rfl⟩, rfl⟩
  · skip
    try dsimp only [errvL0, errvL1, errvL2, errvL3, errvL4, errvL5, errvL6, errvL7, errvL8, errvL9, errvL10, errvL11, errvL12, errvL13]
    obtain ⟨hlr, hls⟩ := KP.live_rng hl
    refine gO ?_
    refine sp 21 rfl ?_ ?_ <;> intro h1
    · skip
      refine XE.ret2 rfl rfl rfl (post_of .h1 rfl ?_)
      try dsimp only [SW.den, SV.den, dens, ofC]
      first
        | (have e : k.openE n i = 1 := by unfold KP.openE; rw [if_neg (by omega), if_pos (by omega)]
           have e2 : k.openV n i = 0 := by unfold KP.openV; rw [e] <;> rfl
           rw [e, e2]; exact ⟨rfl, rfl⟩)
        | (have e : k.openE n i = 0 := by unfold KP.openE; rw [if_neg (by omega), if_neg (by omega), if_neg (by omega)]
           rw [(KP.open_0 e).2.2.2.2, e]; exact ⟨rfl, rfl⟩)
    · skip
      refine cd rfl ?_ ?_ <;> intro h2
      · skip
        refine XE.ret2 rfl rfl rfl (post_of .h1 rfl ?_)
        try dsimp only [SW.den, SV.den, dens, ofC]
        first
          | (have e : k.openE n i = 1 := by unfold KP.openE; rw [if_neg (by omega), if_pos (by omega)]
             have e2 : k.openV n i = 0 := by unfold KP.openV; rw [e] <;> rfl
             rw [e, e2]; exact ⟨rfl, rfl⟩)
          | (have e : k.openE n i = 0 := by unfold KP.openE; rw [if_neg (by omega), if_neg (by omega), if_neg (by omega)]
             rw [(KP.open_0 e).2.2.2.2, e]; exact ⟨rfl, rfl⟩)
      · skip
        refine sd (by omega) ?_
        refine ld .here (encKn.ld_fd _ (by omega) (by omega)) ?_
        refine cd rfl ?_ ?_ <;> intro h3
        · skip
          refine XE.ret2 rfl rfl rfl (post_of .h1 rfl ?_)
          try dsimp only [SW.den, SV.den, dens, ofC]
          have e : k.openE n i = 2 := by unfold KP.openE; rw [if_neg (by omega), if_neg (by omega), if_pos (by omega)]
          have e2 : k.openV n i = 0 := by unfold KP.openV; rw [e] <;> rfl
          rw [e, e2]; exact ⟨rfl, rfl⟩
        · skip
          refine sd (by omega) ?_
          refine ld .here (encKn.ld_fd _ (by omega) (by omega)) ?_
          refine sd (by omega) ?_
          refine XE.ret2 rfl rfl rfl (post_of .h1 rfl ?_)
          try dsimp only [SW.den, SV.den, dens, ofC]
          first
            | (have e : k.openE n i = 1 := by unfold KP.openE; rw [if_neg (by omega), if_pos (by omega)]
               have e2 : k.openV n i = 0 := by unfold KP.openV; rw [e] <;> rfl
               rw [e, e2]; exact ⟨rfl, rfl⟩)
            | (have e : k.openE n i = 0 := by unfold KP.openE; rw [if_neg (by omega), if_neg (by omega), if_neg (by omega)]
               rw [(KP.open_0 e).2.2.2.2, e]; exact ⟨rfl, rfl⟩)
  · skip
    try dsimp only [errvL0, errvL1, errvL2, errvL3, errvL4, errvL5, errvL6, errvL7, errvL8, errvL9, errvL10, errvL11, errvL12, errvL13]
    refine gO ?_
    refine XE.ret2 rfl rfl rfl (post_of .h1 rfl ?_)
    try dsimp only [SW.den, SV.den, dens, ofC]
    have e : k.openE n i = k.live n := by unfold KP.openE; rw [if_pos hl]
    have e2 : k.openV n i = 0 := by unfold KP.openV; rw [e, if_neg hl]
    rw [e, e2, errv_pos _ hl]; exact ⟨rfl, rfl⟩
end Go.X.Kn

namespace Go.X.Kn
open Go Go.Proofs Go.X
set_option maxRecDepth 20000
set_option maxHeartbeats 4000000

set_option maxHeartbeats 16000000 in
theorem k_endA (a : KA) (b : KZ) (c : KC) (N : Nat) (T : Int) (hw : a.Wk T) (hc : Con a c N T) (hT : T ≤ 900000) (n co : Int) (hl : (a.u n).st = 1) : Spec Tryz.prog 129 [ptr b.kb 0 0, .int .i64 n, .int .i64 co]
 [.cells b.kb 0 453 (encKn (kp a b c)), .cells b.gb 0 60 (Gr.encGt a.g), .cells b.sb 0 158 (Sp.encT a.s), .cells b.qb 0 2281 (Fa.encS c.q), .fam Fa.fam30 (Fa.SC.rows 254 c.q), .cells b.bb 0 577 (Vm.encK b.vp a.v.by_ a.v.rf), .cells b.vp 0 71 (Vm.encP a.v.bb.pool), .cfam (lvA a) c.mb 34 (cN b.bb a.f c.pp c.cc), .fam (lvA a) (rN 171 a.f c.pp c.cc), .cells b.tb 0 321 (Tr.encF c.F), .fam Tr.fam40 (Tr.FC.rowsN 9 c.F), .fam Tr.fam40 (Tr.FC.rowsK 3 c.F), irow c.rp c.rc 3 c.rl, .cells b.pi 0 24 (Tr.encP a.P), .cells b.ob 0 122 (Tr.encO b.tb b.pi a.O), .cfam (hrA a) (fun z => (c.t z).b) 4 (cT b.tb c.t), .fam (hrA a) (rT 168 c.t)]
 (fun v H1 => ∃ c1 : KC, Con (a.endA n co) c1 N T ∧ H1 = [.cells b.kb 0 453 (encKn (kp (a.endA n co) b c1)), .cells b.gb 0 60 (Gr.encGt (a.endA n co).g), .cells b.sb 0 158 (Sp.encT (a.endA n co).s), .cells b.qb 0 2281 (Fa.encS c1.q), .fam Fa.fam30 (Fa.SC.rows 254 c1.q), .cells b.bb 0 577 (Vm.encK b.vp (a.endA n co).v.by_ (a.endA n co).v.rf), .cells b.vp 0 71 (Vm.encP (a.endA n co).v.bb.pool), .cfam (lvA (a.endA n co)) c1.mb 34 (cN b.bb (a.endA n co).f c1.pp c1.cc), .fam (lvA (a.endA n co)) (rN 171 (a.endA n co).f c1.pp c1.cc), .cells b.tb 0 321 (Tr.encF c1.F), .fam Tr.fam40 (Tr.FC.rowsN 9 c1.F), .fam Tr.fam40 (Tr.FC.rowsK 3 c1.F), irow c1.rp c1.rc 3 c1.rl, .cells b.pi 0 24 (Tr.encP (a.endA n co).P), .cells b.ob 0 122 (Tr.encO b.tb b.pi (a.endA n co).O), .cfam (hrA (a.endA n co)) (fun z => (c1.t z).b) 4 (cT b.tb c1.t), .fam (hrA (a.endA n co)) (rT 168 c1.t)]) := by
  have hn : 0 ≤ n ∧ n < 20 := by
    by_cases e : n < 0 ∨ 20 ≤ n
    · rw [hw.out n e] at hl; exact absurd hl (by decide)
    · omega
  have hmem := kp_mem a b c (n := n) (by omega)
  have hz := hw.sys.mo n.toNat (by omega)
  refine Spec.go 70 [0, 1, 2, 6, 7, 9, 10, 37, 38, 39, 43] [] Tryz.func129 rfl rfl rfl ?_
  intro W
  refine sd (by omega) ?_
  refine XR.mono (fun _ hw3 => XM.outM (z := n.toNat) (lvA_at hn (by omega)) (.cons (.t7 .here) (.cons (.t7 .here) .nil)) hw3) ?_
  refine ld (.t4 .here) (encKn.ld_memP _ (by omega) hmem) ?_
  refine ca (Vm.v_UnmapN b.bb b.vp (c.mb n.toNat) a.v hw.sys.acc.ok _ _ (a.f n.toNat) hz (hw.sys.In (by omega)) 0 16) (.cons (.t9 .here) (.cons (.t9 .here) .h2)) ?_
  rintro _ _ ⟨rfl, pu, cu, rfl⟩
  refine gO ?_
  refine rq [0, 1, 2, 3, 4, 5, 6, 7, 8, 9] mixed (by kernel_rfl) ?_
  refine ld (.t6 .here) (encKn.ld_g _) ?_
  refine ld (.t6 .here) (encKn.ld_grp _ (by omega)) ?_
  refine ca (Gr.g_uncharge _ _ a.g hw.gI.ok _ _ _ (1000 * T) (by have := hw.T0; omega) hw.gS) (.cons (.t7 .here) .nil) ?_
  rintro _ _ ⟨rfl, rfl⟩
  refine gO ?_
  refine ldA (.t7 .here) (encKn.ld_fds _ (by omega)) ?_
  refine lp (σ := Int × Tr.FC) (fun x => (6 - x.1).toNat) (fun x => (0 ≤ x.1 ∧ x.1 ≤ 6) ∧ x.2.toFF.Ok c.dF T ∧ x.2.rP = c.rp ∧ x.2.rC = c.rc ∧ x.2.roots = c.rl) (fun x => [(38, .int .i64 x.1), (0, ptr b.kb 0 0), (1, .int .i64 n), (2, .int .i64 co), (6, ptr b.kb 0 (0 + 0 + n.toNat * 22)), (37, .agg (fdA (a.u n).fd))]) (fun x => XM W (foot [.cells b.kb 0 453 (encKn (kp a b c)), .cells b.gb 0 60 (Gr.encGt a.g), .cells b.sb 0 158 (Sp.encT a.s), .cells b.qb 0 2281 (Fa.encS c.q), .fam Fa.fam30 (Fa.SC.rows 254 c.q), .cells b.bb 0 577 (Vm.encK b.vp a.v.by_ a.v.rf), .cells b.vp 0 71 (Vm.encP a.v.bb.pool), .cfam (lvA a) c.mb 34 (cN b.bb a.f c.pp c.cc), .fam (lvA a) (rN 171 a.f c.pp c.cc), .cells b.tb 0 321 (Tr.encF c.F), .fam Tr.fam40 (Tr.FC.rowsN 9 c.F), .fam Tr.fam40 (Tr.FC.rowsK 3 c.F), irow c.rp c.rc 3 c.rl, .cells b.pi 0 24 (Tr.encP a.P), .cells b.ob 0 122 (Tr.encO b.tb b.pi a.O), .cfam (hrA a) (fun z => (c.t z).b) 4 (cT b.tb c.t), .fam (hrA a) (rT 168 c.t)]) [.cells b.kb 0 453 (encKn ((kp a b c).put n { (kp a b c).u n with fd := fdZ (a.u n).fd x.1 })), .cells b.gb 0 60 (Gr.encGt (a.g.unch (a.u n).grp 0 (a.um n).1)), .cells b.sb 0 158 (Sp.encT a.s), .cells b.qb 0 2281 (Fa.encS c.q), .fam Fa.fam30 (Fa.SC.rows 254 c.q), .cells b.bb 0 577 (Vm.encK b.vp (a.um n).2.2.1.by_ (a.um n).2.2.1.rf), .cells b.vp 0 71 (Vm.encP (a.um n).2.2.1.bb.pool), .cells (c.mb n.toNat) 0 34 (Vm.encN b.bb pu (Vm.runs (a.um n).2.2.2.is_).length cu (a.um n).2.2.2.fr (a.um n).2.2.2.own), frow pu cu 171 3 (Vm.runs (a.um n).2.2.2.is_).length (Vm.rgC (Vm.runs (a.um n).2.2.2.is_)), .cfam (outP (lvA a) n.toNat) c.mb 34 (cN b.bb a.f c.pp c.cc), .fam (outP (lvA a) n.toNat) (rN 171 a.f c.pp c.cc), .cells b.tb 0 321 (Tr.encF x.2), .fam Tr.fam40 (Tr.FC.rowsN 9 x.2), .fam Tr.fam40 (Tr.FC.rowsK 3 x.2), irow c.rp c.rc 3 c.rl, .cells b.pi 0 24 (Tr.encP (clN (a.u n).fd a.O a.P x.1.toNat).2), .cells b.ob 0 122 (Tr.encO b.tb b.pi (clN (a.u n).fd a.O a.P x.1.toNat).1), .cfam (hrA a) (fun z => (c.t z).b) 4 (cT b.tb c.t), .fam (hrA a) (rT 168 c.t)]) ((0, c.F)) ?_ (S6 rfl rfl rfl rfl rfl rfl) (fun _ hw2 => by rw [kp_fd0]; exact XM.pick (.cons (.t7 .here) (.cons .here (.cons (.t6 .here) (.cons (.t6 .here) (.cons (.t6 .here) .h14))))) hw2) ?_
  · skip
    exact ⟨by simp, hc.F, hc.rp, hc.rc, hc.rl⟩
  intro x hx
  obtain ⟨hi, hF, hFp, hFc, hFr⟩ := hx
  have hfd := hw.fd n x.1
  refine gC ?_
  refine cd rfl ?_ ?_ <;> intro h1
  · skip
    refine XO.v (V.indexArrV rfl rfl Tryz.underlying83 sz_3_1 sc_3 (by omega)) rfl (gO ?_)
    refine cd rfl ?_ ?_ <;> intro h2
    · skip
      have h6 := h2
      refine ld .here (encKn.ld_o _) ?_
      refine sd (by omega) ?_
      refine ca (Tr.f_Close _ _ _ _ _ T (by omega) (clN_inv hw.OI hw.PI x.1.toNat).1 x.2 (hF.sh (by omega)) T (by omega) _ (clN_inv hw.OI hw.PI x.1.toNat).2 ((a.u n).fd x.1 - 1)) (.cons (.t12 (.t4 .here)) (.cons (.t11 .here) (.cons (.t11 .here) (.cons (.t11 .here) (.cons (.t12 .here) .nil))))) ?_
      rintro _ _ ⟨rfl, F1, hF1, hp1, hr1, rfl⟩
      refine gO ?_
      refine sd (by omega) ?_
      refine st (.t5 .here) (encKn.st_fd _ (by omega) (by omega) _) rfl ?_
      refine sd (by omega) ?_
      refine ag ((x.1 + 1, F1)) ?_ ?_ (S6 rfl rfl rfl rfl rfl rfl) (fun _ hw2 => by show XM _ _ [_, _, _, _, _, _, _, _, _, _, _, _, _, _, _, .cells b.pi 0 24 (Tr.encP (clN (a.u n).fd a.O a.P (x.1 + 1).toNat).2), .cells b.ob 0 122 (Tr.encO b.tb b.pi (clN (a.u n).fd a.O a.P (x.1 + 1).toNat).1), _, _] _; rw [clN_hit _ _ hi.1 h6, ← kp_fd1 a b c hi.1 h6]; exact XM.pick (.cons (.t5 .here) (.cons (.t5 .here) (.cons (.t5 .here) (.cons (.t5 .here) (.cons (.t5 .here) (.cons (.t5 .here) (.cons (.t5 .here) (.cons (.t5 .here) (.cons (.t5 .here) (.cons (.t5 .here) (.cons (.t5 .here) (.cons (.there .here) (.cons (.there .here) (.cons (.there .here) (.cons (.t2 .here) (.cons (.there .here) .h3)))))))))))))))) hw2)
      · skip
        (show (6 - (x.1 + 1)).toNat < (6 - x.1).toNat; omega)
      · skip
        exact ⟨(by show 0 ≤ x.1 + 1 ∧ x.1 + 1 ≤ 6; omega), (by show F1.toFF.Ok c.dF T; rw [hF1]; exact FF.Ok.close0 hF _ _), hp1.trans hFp, hr1.trans hFc, (by show F1.toFF.roots = _; rw [hF1, Tr.closeF_roots]; exact hFr)⟩
    · skip
      have h6 := h2
      refine sd (by omega) ?_
      refine ag ((x.1 + 1, x.2)) ?_ ?_ (S6 rfl rfl rfl rfl rfl rfl) (fun _ hw2 => by show XM _ _ [.cells b.kb 0 453 (encKn ((kp a b c).put n { (kp a b c).u n with fd := fdZ (a.u n).fd (x.1 + 1) })), _, _, _, _, _, _, _, _, _, _, _, _, _, _, .cells b.pi 0 24 (Tr.encP (clN (a.u n).fd a.O a.P (x.1 + 1).toNat).2), .cells b.ob 0 122 (Tr.encO b.tb b.pi (clN (a.u n).fd a.O a.P (x.1 + 1).toNat).1), _, _] _; rw [clN_miss _ _ hi.1 h6, ← fdZ_miss _ h6]; exact XM.pick .h19 hw2)
      · skip
        (show (6 - (x.1 + 1)).toNat < (6 - x.1).toNat; omega)
      · skip
        exact ⟨(by show 0 ≤ x.1 + 1 ∧ x.1 + 1 ≤ 6; omega), hF, hFp, hFc, hFr⟩
  · skip
    refine ld .here (encKn.ld_q _) ?_
    refine ca (Fa.f_DropTask _ _ c.q c.d hc.qO.inv hc.qR n) (.cons (.t3 .here) (.cons (.t3 .here) .nil)) ?_
    rintro _ _ ⟨rfl, t, ht, hr, rfl⟩
    refine gO ?_
    refine st (.t2 .here) (encKn.st_st _ (by omega) _) rfl ?_
    refine st (.t2 .here) (encKn.st_code _ (by omega) _) rfl ?_
    refine XR.mono (fun _ hw3 => XM.backM (a.um n).2.2.2 (lvA_at hn (by omega)) (.cons (.t7 .here) (.cons (.t7 .here) (.cons (.t7 .here) (.cons (.t7 .here) .nil)))) hw3) ?_
    refine XE.end0 rfl (post_of (.cons (.t4 .here) (.cons (.t4 .here) (.cons (.t4 .here) (.cons (.t2 .here) (.cons (.t2 .here) (.cons (.t2 .here) (.cons (.t2 .here) .h10))))))) rfl ?_)
    try dsimp only [SW.den, SV.den, dens, ofC]
    have hx6 : x.1 = 6 := by omega
    refine ⟨{ c with q := t, F := x.2, pp := fupd c.pp n.toNat pu, cc := fupd c.cc n.toNat cu }, ⟨(by show t.toSF.Ok _ _ _; rw [ht]; exact hc.qO.dropT (by omega) _), hr, hF, hFp, hFc, hFr, hc.tb⟩, ?_⟩
    rw [hx6]
    rw [kp_end a b c hl hn, lvA_end a hl]
    all_goals rfl
end Go.X.Kn

namespace Go.X.Kn
open Go Go.Proofs Go.X
set_option maxRecDepth 20000
set_option maxHeartbeats 4000000

theorem k_awayA (a : KA) (b : KZ) (c : KC) (N : Nat) (T : Int) (hw : a.Wk T) (hc : Con a c N T) (hT : T ≤ 900000) (n : Int) (hn : 0 ≤ n ∧ n < 20) (hs : (a.u n).st ≠ 0) : Spec Tryz.prog 64 [ptr b.kb 0 0, .int .i64 n]
 [.cells b.kb 0 453 (encKn (kp a b c)), .cells b.gb 0 60 (Gr.encGt a.g), .cells b.sb 0 158 (Sp.encT a.s), .cells b.qb 0 2281 (Fa.encS c.q), .fam Fa.fam30 (Fa.SC.rows 254 c.q), .cells b.bb 0 577 (Vm.encK b.vp a.v.by_ a.v.rf), .cells b.vp 0 71 (Vm.encP a.v.bb.pool), .cfam (lvA a) c.mb 34 (cN b.bb a.f c.pp c.cc), .fam (lvA a) (rN 171 a.f c.pp c.cc), .cells b.tb 0 321 (Tr.encF c.F), .fam Tr.fam40 (Tr.FC.rowsN 9 c.F), .fam Tr.fam40 (Tr.FC.rowsK 3 c.F), irow c.rp c.rc 3 c.rl, .cells b.pi 0 24 (Tr.encP a.P), .cells b.ob 0 122 (Tr.encO b.tb b.pi a.O), .cfam (hrA a) (fun z => (c.t z).b) 4 (cT b.tb c.t), .fam (hrA a) (rT 168 c.t)]
 (fun v H1 => H1 = [.cells b.kb 0 453 (encKn (kp (a.awayA n) b c)), .cells b.gb 0 60 (Gr.encGt (a.awayA n).g), .cells b.sb 0 158 (Sp.encT (a.awayA n).s), .cells b.qb 0 2281 (Fa.encS c.q), .fam Fa.fam30 (Fa.SC.rows 254 c.q), .cells b.bb 0 577 (Vm.encK b.vp (a.awayA n).v.by_ (a.awayA n).v.rf), .cells b.vp 0 71 (Vm.encP (a.awayA n).v.bb.pool), .cfam (lvA (a.awayA n)) c.mb 34 (cN b.bb (a.awayA n).f c.pp c.cc), .fam (lvA (a.awayA n)) (rN 171 (a.awayA n).f c.pp c.cc), .cells b.tb 0 321 (Tr.encF c.F), .fam Tr.fam40 (Tr.FC.rowsN 9 c.F), .fam Tr.fam40 (Tr.FC.rowsK 3 c.F), irow c.rp c.rc 3 c.rl, .cells b.pi 0 24 (Tr.encP (a.awayA n).P), .cells b.ob 0 122 (Tr.encO b.tb b.pi (a.awayA n).O), .cfam (hrA (a.awayA n)) (fun z => (c.t z).b) 4 (cT b.tb c.t), .fam (hrA (a.awayA n)) (rT 168 c.t)]) := by
  refine Spec.go 28 [0, 1] [] Tryz.func64 rfl rfl rfl ?_
  intro W
  refine rq [0, 1, 2, 3, 4, 5, 6, 7, 8, 9, 10, 11] mixed (by kernel_rfl) ?_
  refine ld .here (encKn.ld_g _) ?_
  refine sd (by omega) ?_
  refine ld .here (encKn.ld_grp _ (by omega)) ?_
  refine ca (Gr.g_uncharge _ _ a.g hw.gI.ok _ _ _ (1000 * T) (by have := hw.T0; omega) hw.gS) (.cons (.there .here) .nil) ?_
  rintro _ _ ⟨rfl, rfl⟩
  refine gO ?_
  refine ld (.there .here) (encKn.ld_s _) ?_
  refine ca (Sp.t_Leave _ _ a.s a.dep hw.sI.D n (fun a1 b1 c1 => ⟨(hw.sI.loc n).2, hw.sI.at_ n a1 b1 c1⟩) (fun a1 m q e => by have h9 := hw.sI.mem m q n a1 e; exact ⟨h9.2.2.2.2, by omega, h9.2.2.1⟩)) (.cons (.t2 .here) .nil) ?_
  rintro _ _ ⟨rfl, rfl⟩
  refine gO ?_
  refine XO.v (V.build (vs := #[]) rfl (v := .agg PU.nil.arr) (fun _ => by kernel_rfl)) rfl (gO ?_)
  refine sd (by omega) ?_
  refine stA (.t2 .here) (encKn.put_ _ (by omega) PU.nil) rfl ⟨rfl, rfl⟩ ?_
  refine XR.mono (fun _ hw3 => XM.outM (z := n.toNat) (lvA_at hn hs) (.cons (.t7 .here) (.cons (.t7 .here) .nil)) hw3) ?_
  refine XE.end0 rfl (post_of (.cons (.t6 .here) (.cons (.t5 .here) (.cons (.t4 .here) (.cons (.t4 .here) (.cons (.t4 .here) (.cons (.t4 .here) (.cons (.t4 .here) (.cons (.t2 .here) (.cons (.t2 .here) (.cons (.t2 .here) (.cons (.t2 .here) (.cons (.t2 .here) (.cons (.t2 .here) (.cons (.t2 .here) (.cons (.t2 .here) (.cons (.t2 .here) (.cons (.t2 .here) .nil))))))))))))))))) rfl ?_)
  try dsimp only [SW.den, SV.den, dens, ofC]
  rw [kp_away, lvA_away a hn, hrA_away]
  all_goals rfl
theorem k_shut1 (a : KA) (b : KZ) (c : KC) (N : Nat) (T : Int) (hw : a.Wk T) (hc : Con a c N T) (hT : T ≤ 900000) (z : Int) (hd : (a.s.drop z).1 = 0) (hz : 0 ≤ z ∧ z < 6) (hh : a.s.here z = true) (hs : (a.s.drop z).2 = { a.s with here := fset a.s.here z false, par := fset a.s.par z 0 }) : Spec Tryz.prog 65 [ptr b.kb 0 0, .int .i64 z]
 [.cells b.kb 0 453 (encKn (kp a b c)), .cells b.gb 0 60 (Gr.encGt a.g), .cells b.sb 0 158 (Sp.encT a.s), .cells b.qb 0 2281 (Fa.encS c.q), .fam Fa.fam30 (Fa.SC.rows 254 c.q), .cells b.bb 0 577 (Vm.encK b.vp a.v.by_ a.v.rf), .cells b.vp 0 71 (Vm.encP a.v.bb.pool), .cfam (lvA a) c.mb 34 (cN b.bb a.f c.pp c.cc), .fam (lvA a) (rN 171 a.f c.pp c.cc), .cells b.tb 0 321 (Tr.encF c.F), .fam Tr.fam40 (Tr.FC.rowsN 9 c.F), .fam Tr.fam40 (Tr.FC.rowsK 3 c.F), irow c.rp c.rc 3 c.rl, .cells b.pi 0 24 (Tr.encP a.P), .cells b.ob 0 122 (Tr.encO b.tb b.pi a.O), .cfam (hrA a) (fun z => (c.t z).b) 4 (cT b.tb c.t), .fam (hrA a) (rT 168 c.t)]
 (fun v H1 => ∃ c1 : KC, Con (a.shutA z) c1 N T ∧ H1 = [.cells b.kb 0 453 (encKn (kp (a.shutA z) b c1)), .cells b.gb 0 60 (Gr.encGt (a.shutA z).g), .cells b.sb 0 158 (Sp.encT (a.shutA z).s), .cells b.qb 0 2281 (Fa.encS c1.q), .fam Fa.fam30 (Fa.SC.rows 254 c1.q), .cells b.bb 0 577 (Vm.encK b.vp (a.shutA z).v.by_ (a.shutA z).v.rf), .cells b.vp 0 71 (Vm.encP (a.shutA z).v.bb.pool), .cfam (lvA (a.shutA z)) c1.mb 34 (cN b.bb (a.shutA z).f c1.pp c1.cc), .fam (lvA (a.shutA z)) (rN 171 (a.shutA z).f c1.pp c1.cc), .cells b.tb 0 321 (Tr.encF c1.F), .fam Tr.fam40 (Tr.FC.rowsN 9 c1.F), .fam Tr.fam40 (Tr.FC.rowsK 3 c1.F), irow c1.rp c1.rc 3 c1.rl, .cells b.pi 0 24 (Tr.encP (a.shutA z).P), .cells b.ob 0 122 (Tr.encO b.tb b.pi (a.shutA z).O), .cfam (hrA (a.shutA z)) (fun z => (c1.t z).b) 4 (cT b.tb c1.t), .fam (hrA (a.shutA z)) (rT 168 c1.t)]) := by
  have htb := hc.tb z hz.1 hz.2 hh
  refine Spec.go 23 [0, 1, 10] [] Tryz.func65 rfl rfl rfl ?_
  intro W
  refine ld .here (encKn.ld_s _) ?_
  refine ca (Sp.t_Drop _ _ a.s z) (.cons (.t2 .here) .nil) ?_
  rintro _ _ ⟨rfl, rfl⟩
  refine gO ?_
  refine cdT rfl (hd) ?_
  refine XR.mono (fun _ hw3 => XM.outT (z := z.toNat) (hrA_at hz hh) (.cons (.t12 (.t3 .here)) (.cons (.t12 (.t3 .here)) .nil)) hw3) ?_
  refine sd (by omega) ?_
  refine ld (.t5 .here) (encKn.ld_msP _ hz (kp_ms a b c hh)) ?_
  refine ca (Tr.m_Close _ _ _ _ _ _ _ _ _ htb.rv htb.mc htb.len c.F c.dF T hc.F hT) (.cons .here (.cons .here (.cons (.t11 .here) (.cons (.t11 .here) (.cons (.t11 .here) .nil))))) ?_
  rintro _ _ ⟨rfl, F1, hF1, hO1, hp1, hr1, rfl⟩
  refine gO ?_
  refine sd (by omega) ?_
  refine st (.t8 .here) (encKn.st_ms _ hz _) rfl ?_
  refine XE.end0 rfl (post_of (.cons (.t8 .here) (.cons (.t8 .here) (.cons (.t7 .here) (.cons (.t7 .here) (.cons (.t7 .here) (.cons (.t7 .here) (.cons (.t7 .here) (.cons (.t7 .here) (.cons (.t7 .here) (.cons (.t2 .here) (.cons (.t2 .here) (.cons (.t2 .here) (.cons (.t4 .here) (.cons (.t4 .here) (.cons (.t4 .here) (.cons (.t2 .here) (.cons (.t2 .here) .nil))))))))))))))))) rfl ?_)
  try dsimp only [SW.den, SV.den, dens, ofC]
  refine ⟨{ c with F := F1 }, ⟨hc.qO, hc.qR, (by show F1.toFF.Ok _ _; rw [hF1]; exact FF.Ok.tclose0 hc.F _ _), hp1.trans hc.rp, hr1.trans hc.rc, (by show F1.toFF.roots = _; rw [hF1, FF.tclose_roots]; exact hc.rl), fun y h0 h1 h2 => hc.tb y h0 h1 (SS.drop_here h2)⟩, ?_⟩
  rw [kp_shut a b c hs, hrA_shut hz hs]
  all_goals rfl
theorem k_shut0 (a : KA) (b : KZ) (c : KC) (N : Nat) (T : Int) (hw : a.Wk T) (hc : Con a c N T) (hT : T ≤ 900000) (z : Int) (hd : (a.s.drop z).1 ≠ 0) (hs : (a.s.drop z).2 = a.s) : Spec Tryz.prog 65 [ptr b.kb 0 0, .int .i64 z]
 [.cells b.kb 0 453 (encKn (kp a b c)), .cells b.gb 0 60 (Gr.encGt a.g), .cells b.sb 0 158 (Sp.encT a.s), .cells b.qb 0 2281 (Fa.encS c.q), .fam Fa.fam30 (Fa.SC.rows 254 c.q), .cells b.bb 0 577 (Vm.encK b.vp a.v.by_ a.v.rf), .cells b.vp 0 71 (Vm.encP a.v.bb.pool), .cfam (lvA a) c.mb 34 (cN b.bb a.f c.pp c.cc), .fam (lvA a) (rN 171 a.f c.pp c.cc), .cells b.tb 0 321 (Tr.encF c.F), .fam Tr.fam40 (Tr.FC.rowsN 9 c.F), .fam Tr.fam40 (Tr.FC.rowsK 3 c.F), irow c.rp c.rc 3 c.rl, .cells b.pi 0 24 (Tr.encP a.P), .cells b.ob 0 122 (Tr.encO b.tb b.pi a.O), .cfam (hrA a) (fun z => (c.t z).b) 4 (cT b.tb c.t), .fam (hrA a) (rT 168 c.t)]
 (fun v H1 => ∃ c1 : KC, Con (a.shutA z) c1 N T ∧ H1 = [.cells b.kb 0 453 (encKn (kp (a.shutA z) b c1)), .cells b.gb 0 60 (Gr.encGt (a.shutA z).g), .cells b.sb 0 158 (Sp.encT (a.shutA z).s), .cells b.qb 0 2281 (Fa.encS c1.q), .fam Fa.fam30 (Fa.SC.rows 254 c1.q), .cells b.bb 0 577 (Vm.encK b.vp (a.shutA z).v.by_ (a.shutA z).v.rf), .cells b.vp 0 71 (Vm.encP (a.shutA z).v.bb.pool), .cfam (lvA (a.shutA z)) c1.mb 34 (cN b.bb (a.shutA z).f c1.pp c1.cc), .fam (lvA (a.shutA z)) (rN 171 (a.shutA z).f c1.pp c1.cc), .cells b.tb 0 321 (Tr.encF c1.F), .fam Tr.fam40 (Tr.FC.rowsN 9 c1.F), .fam Tr.fam40 (Tr.FC.rowsK 3 c1.F), irow c1.rp c1.rc 3 c1.rl, .cells b.pi 0 24 (Tr.encP (a.shutA z).P), .cells b.ob 0 122 (Tr.encO b.tb b.pi (a.shutA z).O), .cfam (hrA (a.shutA z)) (fun z => (c1.t z).b) 4 (cT b.tb c1.t), .fam (hrA (a.shutA z)) (rT 168 c1.t)]) := by
  refine Spec.go 23 [0, 1, 10] [] Tryz.func65 rfl rfl rfl ?_
  intro W
  refine ld .here (encKn.ld_s _) ?_
  refine ca (Sp.t_Drop _ _ a.s z) (.cons (.t2 .here) .nil) ?_
  rintro _ _ ⟨rfl, rfl⟩
  refine gO ?_
  refine cdF rfl (hd) ?_
  refine XE.end0 rfl (post_of (.cons (.there .here) (.cons (.there .here) .h15)) rfl ?_)
  try dsimp only [SW.den, SV.den, dens, ofC]
  have e : a.shutA z = a := by unfold KA.shutA; rw [hs]
  rw [e, hs]
  exact ⟨c, hc, rfl⟩
theorem k_shutA (a : KA) (b : KZ) (c : KC) (N : Nat) (T : Int) (hw : a.Wk T) (hc : Con a c N T) (hT : T ≤ 900000) (z : Int) : Spec Tryz.prog 65 [ptr b.kb 0 0, .int .i64 z] [.cells b.kb 0 453 (encKn (kp a b c)), .cells b.gb 0 60 (Gr.encGt a.g), .cells b.sb 0 158 (Sp.encT a.s), .cells b.qb 0 2281 (Fa.encS c.q), .fam Fa.fam30 (Fa.SC.rows 254 c.q), .cells b.bb 0 577 (Vm.encK b.vp a.v.by_ a.v.rf), .cells b.vp 0 71 (Vm.encP a.v.bb.pool), .cfam (lvA a) c.mb 34 (cN b.bb a.f c.pp c.cc), .fam (lvA a) (rN 171 a.f c.pp c.cc), .cells b.tb 0 321 (Tr.encF c.F), .fam Tr.fam40 (Tr.FC.rowsN 9 c.F), .fam Tr.fam40 (Tr.FC.rowsK 3 c.F), irow c.rp c.rc 3 c.rl, .cells b.pi 0 24 (Tr.encP a.P), .cells b.ob 0 122 (Tr.encO b.tb b.pi a.O), .cfam (hrA a) (fun z => (c.t z).b) 4 (cT b.tb c.t), .fam (hrA a) (rT 168 c.t)] (fun v H1 => ∃ c1 : KC, Con (a.shutA z) c1 N T ∧ H1 = [.cells b.kb 0 453 (encKn (kp (a.shutA z) b c1)), .cells b.gb 0 60 (Gr.encGt (a.shutA z).g), .cells b.sb 0 158 (Sp.encT (a.shutA z).s), .cells b.qb 0 2281 (Fa.encS c1.q), .fam Fa.fam30 (Fa.SC.rows 254 c1.q), .cells b.bb 0 577 (Vm.encK b.vp (a.shutA z).v.by_ (a.shutA z).v.rf), .cells b.vp 0 71 (Vm.encP (a.shutA z).v.bb.pool), .cfam (lvA (a.shutA z)) c1.mb 34 (cN b.bb (a.shutA z).f c1.pp c1.cc), .fam (lvA (a.shutA z)) (rN 171 (a.shutA z).f c1.pp c1.cc), .cells b.tb 0 321 (Tr.encF c1.F), .fam Tr.fam40 (Tr.FC.rowsN 9 c1.F), .fam Tr.fam40 (Tr.FC.rowsK 3 c1.F), irow c1.rp c1.rc 3 c1.rl, .cells b.pi 0 24 (Tr.encP (a.shutA z).P), .cells b.ob 0 122 (Tr.encO b.tb b.pi (a.shutA z).O), .cfam (hrA (a.shutA z)) (fun z => (c1.t z).b) 4 (cT b.tb c1.t), .fam (hrA (a.shutA z)) (rT 168 c1.t)]) := by
  rcases SS.drop_cases a.s z with ⟨hd, hs⟩ | ⟨hd, hz, hz0, hh, hs, _, _⟩
  · exact k_shut0 a b c N T hw hc hT z hd hs
  · exact k_shut1 a b c N T hw hc hT z hd hz hh hs
end Go.X.Kn
