import Derived.Test.YthdinakloheinaaGreatDoorkJB7
import Derived.Test.YthdinakloheinaaGreatDoorkKKI
import Derived.Test.YthdinakloheinaaGreatDoorkSM
import Derived.Test.YthdinakloheinaaGreatDoorkVW2
import Derived.Test.YthdinakloheinaaGreatDoorkFPL
import Derived.Test.YthdinakloheinaaGreatDoorkNL
import Derived.Test.YthdinakloheinaaGreatDoorkKW5
import Derived.Test.YthdinakloheinaaGreatDoorkJB3
import Derived.Test.YthdinakloheinaaGreatDoorkGPl
import Derived.Test.YthdinakloheinaaGreatDoorKB
namespace Go.X.Kn
open Go Go.Proofs Go.X
set_option maxRecDepth 20000
set_option maxHeartbeats 4000000

attribute [local irreducible] KA.exitA KA.settleA
theorem k_ExitG (a : KA) (b : KZ) (c : KC) (N : Nat) (T : Int) (ho : a.Ok T) (hc : Con a c N T) (hT : T ≤ 800000) (n co : Int) : Spec Tryz.prog 16 [ptr b.kb 0 0, .int .i64 n, .int .i64 co]
 [.cells b.kb 0 453 (encKn (kp a b c)), .cells b.gb 0 60 (Gr.encGt a.g), .cells b.sb 0 158 (Sp.encT a.s), .cells b.qb 0 2281 (Fa.encS c.q), .fam Fa.fam30 (Fa.SC.rows 254 c.q), .cells b.bb 0 577 (Vm.encK b.vp a.v.by_ a.v.rf), .cells b.vp 0 71 (Vm.encP a.v.bb.pool), .cfam (lvA a) c.mb 34 (cN b.bb a.f c.pp c.cc), .fam (lvA a) (rN 171 a.f c.pp c.cc), .cells b.tb 0 321 (Tr.encF c.F), .fam Tr.fam40 (Tr.FC.rowsN 9 c.F), .fam Tr.fam40 (Tr.FC.rowsK 3 c.F), irow c.rp c.rc 3 c.rl, .cells b.pi 0 24 (Tr.encP a.P), .cells b.ob 0 122 (Tr.encO b.tb b.pi a.O), .cfam (hrA a) (fun z => (c.t z).b) 4 (cT b.tb c.t), .fam (hrA a) (rT 168 c.t), .ro 0 0 32 Sg.tab32]
 (fun v H1 => v = errv 102 (a.exitE n co) ∧ ∃ c1 : KC, Con (a.exitK n co) c1 N T ∧ H1 = [.cells b.kb 0 453 (encKn (kp (a.exitK n co) b c1)), .cells b.gb 0 60 (Gr.encGt (a.exitK n co).g), .cells b.sb 0 158 (Sp.encT (a.exitK n co).s), .cells b.qb 0 2281 (Fa.encS c1.q), .fam Fa.fam30 (Fa.SC.rows 254 c1.q), .cells b.bb 0 577 (Vm.encK b.vp (a.exitK n co).v.by_ (a.exitK n co).v.rf), .cells b.vp 0 71 (Vm.encP (a.exitK n co).v.bb.pool), .cfam (lvA (a.exitK n co)) c1.mb 34 (cN b.bb (a.exitK n co).f c1.pp c1.cc), .fam (lvA (a.exitK n co)) (rN 171 (a.exitK n co).f c1.pp c1.cc), .cells b.tb 0 321 (Tr.encF c1.F), .fam Tr.fam40 (Tr.FC.rowsN 9 c1.F), .fam Tr.fam40 (Tr.FC.rowsK 3 c1.F), irow c1.rp c1.rc 3 c1.rl, .cells b.pi 0 24 (Tr.encP (a.exitK n co).P), .cells b.ob 0 122 (Tr.encO b.tb b.pi (a.exitK n co).O), .cfam (hrA (a.exitK n co)) (fun z => (c1.t z).b) 4 (cT b.tb c1.t), .fam (hrA (a.exitK n co)) (rT 168 c1.t)]) := by
  refine Spec.go 32 [0, 1, 2, 6, 8, 16, 23, 26] [] Tryz.func16 rfl rfl rfl ?_
  intro W
  refine ca (k_live b.kb (kp a b c) n) .h1 ?_
  rintro _ _ ⟨⟨hl, rfl⟩ | ⟨hl, rfl⟩, rfl⟩
  · skip
    try dsimp only [errvL0, errvL1, errvL2, errvL3, errvL4, errvL5, errvL6, errvL7, errvL8, errvL9, errvL10, errvL11, errvL12, errvL13]
    obtain ⟨hlr, hls⟩ := KP.live_rng hl
    have hl : a.live n = 0 := hl
    have hls : (a.u n).st = 1 := hls
    refine gO ?_
    refine sp 20 rfl ?_ ?_ <;> intro h1
    · skip
      refine XE.ret1 rfl rfl (post_of .h17 rfl ?_)
      try dsimp only [SW.den, SV.den, dens, ofC]
      first
        | (have e1 : a.exitE n co = 0 := by unfold KA.exitE; rw [if_neg (by omega), if_neg (by omega), if_neg (by omega)]
           have e2 : a.exitK n co = a.exitA n co := by unfold KA.exitK; rw [if_pos e1]
           rw [e1, e2]; exact ⟨rfl, c1, hc1, rfl⟩)
        | (have e1 : a.exitE n co = 8 := by unfold KA.exitE; rw [if_neg (by omega), if_neg (by omega), if_pos (by omega)]
           have e2 : a.exitK n co = a := by unfold KA.exitK; rw [if_neg (by omega)]
           rw [e1, e2]; exact ⟨rfl, c, hc, rfl⟩)
        | (have e1 : a.exitE n co = 1 := by unfold KA.exitE; rw [if_neg (by omega), if_pos (by omega)]
           have e2 : a.exitK n co = a := by unfold KA.exitK; rw [if_neg (by omega)]
           rw [e1, e2]; exact ⟨rfl, c, hc, rfl⟩)
    · skip
      refine cd rfl ?_ ?_ <;> intro h2
      · skip
        refine XE.ret1 rfl rfl (post_of .h17 rfl ?_)
        try dsimp only [SW.den, SV.den, dens, ofC]
        first
          | (have e1 : a.exitE n co = 0 := by unfold KA.exitE; rw [if_neg (by omega), if_neg (by omega), if_neg (by omega)]
             have e2 : a.exitK n co = a.exitA n co := by unfold KA.exitK; rw [if_pos e1]
             rw [e1, e2]; exact ⟨rfl, c1, hc1, rfl⟩)
          | (have e1 : a.exitE n co = 8 := by unfold KA.exitE; rw [if_neg (by omega), if_neg (by omega), if_pos (by omega)]
             have e2 : a.exitK n co = a := by unfold KA.exitK; rw [if_neg (by omega)]
             rw [e1, e2]; exact ⟨rfl, c, hc, rfl⟩)
          | (have e1 : a.exitE n co = 1 := by unfold KA.exitE; rw [if_neg (by omega), if_pos (by omega)]
             have e2 : a.exitK n co = a := by unfold KA.exitK; rw [if_neg (by omega)]
             rw [e1, e2]; exact ⟨rfl, c, hc, rfl⟩)
      · skip
        refine cd rfl ?_ ?_ <;> intro h3
        · skip
          refine XE.ret1 rfl rfl (post_of .h17 rfl ?_)
          try dsimp only [SW.den, SV.den, dens, ofC]
          first
            | (have e1 : a.exitE n co = 0 := by unfold KA.exitE; rw [if_neg (by omega), if_neg (by omega), if_neg (by omega)]
               have e2 : a.exitK n co = a.exitA n co := by unfold KA.exitK; rw [if_pos e1]
               rw [e1, e2]; exact ⟨rfl, c1, hc1, rfl⟩)
            | (have e1 : a.exitE n co = 8 := by unfold KA.exitE; rw [if_neg (by omega), if_neg (by omega), if_pos (by omega)]
               have e2 : a.exitK n co = a := by unfold KA.exitK; rw [if_neg (by omega)]
               rw [e1, e2]; exact ⟨rfl, c, hc, rfl⟩)
            | (have e1 : a.exitE n co = 1 := by unfold KA.exitE; rw [if_neg (by omega), if_pos (by omega)]
               have e2 : a.exitK n co = a := by unfold KA.exitK; rw [if_neg (by omega)]
               rw [e1, e2]; exact ⟨rfl, c, hc, rfl⟩)
        · skip
          refine caR 17 (k_exitA a b c N T ho.wk hc (by omega) n co hls (ho.hx.any n)) .h18 rfl ?_
          rintro _ _ ⟨c1, hc1, rfl⟩
          refine gO ?_
          refine XE.ret1 rfl rfl (post_of .h17 rfl ?_)
          try dsimp only [SW.den, SV.den, dens, ofC]
          first
            | (have e1 : a.exitE n co = 0 := by unfold KA.exitE; rw [if_neg (by omega), if_neg (by omega), if_neg (by omega)]
               have e2 : a.exitK n co = a.exitA n co := by unfold KA.exitK; rw [if_pos e1]
               rw [e1, e2]; exact ⟨rfl, c1, hc1, rfl⟩)
            | (have e1 : a.exitE n co = 8 := by unfold KA.exitE; rw [if_neg (by omega), if_neg (by omega), if_pos (by omega)]
               have e2 : a.exitK n co = a := by unfold KA.exitK; rw [if_neg (by omega)]
               rw [e1, e2]; exact ⟨rfl, c, hc, rfl⟩)
            | (have e1 : a.exitE n co = 1 := by unfold KA.exitE; rw [if_neg (by omega), if_pos (by omega)]
               have e2 : a.exitK n co = a := by unfold KA.exitK; rw [if_neg (by omega)]
               rw [e1, e2]; exact ⟨rfl, c, hc, rfl⟩)
  · skip
    try dsimp only [errvL0, errvL1, errvL2, errvL3, errvL4, errvL5, errvL6, errvL7, errvL8, errvL9, errvL10, errvL11, errvL12, errvL13]
    have hl : a.live n ≠ 0 := hl
    have hlk : (kp a b c).live n = a.live n := rfl
    rw [hlk]
    refine gO ?_
    refine XE.ret1 rfl rfl (post_of .h17 rfl ?_)
    try dsimp only [SW.den, SV.den, dens, ofC]
    have e1 : a.exitE n co = a.live n := by unfold KA.exitE; rw [if_pos hl]
    have e2 : a.exitK n co = a := by unfold KA.exitK; rw [if_neg (by omega)]
    rw [e1, e2, errv_pos _ hl]; exact ⟨rfl, c, hc, rfl⟩
end Go.X.Kn

namespace Go.X.Kn
open Go Go.Proofs Go.X
set_option maxRecDepth 20000
set_option maxHeartbeats 4000000

attribute [local irreducible] KA.exitA KA.settleA
theorem k_openG (a : KA) (b : KZ) (c : KC) (hf : ∀ n i, 0 ≤ (a.u n).fd i ∧ (a.u n).fd i ≤ 24) (n i : Int) : Spec Tryz.prog 69 [ptr b.kb 0 0, .int .i64 n, .int .i64 i] [.cells b.kb 0 453 (encKn (kp a b c))] (fun v H1 => v = .tuple #[.int .i64 (a.openV n i), errv 102 (a.openE n i)] ∧ H1 = [.cells b.kb 0 453 (encKn (kp a b c))]) := k_open b.kb (kp a b c) n i hf
theorem k_slotG (a : KA) (b : KZ) (c : KC) (n : Int) (hn : 0 ≤ n ∧ n < 20) (x : Int) (hx : 0 ≤ x) : Spec Tryz.prog 67 [ptr b.kb 0 (0 + 0 + n.toNat * 22), .int .i64 x] [.cells b.kb 0 453 (encKn (kp a b c))] (fun v H1 => v = .int .i64 (slotF (a.u n).fd x) ∧ H1 = [.cells b.kb 0 453 (encKn (kp a b c))]) := k_slot b.kb (kp a b c) n hn x hx
end Go.X.Kn

namespace Go.X.Kn
open Go Go.Proofs Go.X
set_option maxRecDepth 20000
set_option maxHeartbeats 4000000

attribute [local irreducible] KA.exitA KA.settleA
theorem errInfo : Tryz.prog.info? 102 = some Tryz.t102 := by kernel_rfl
theorem Con.same {a a' : KA} {c : KC} {N : Nat} {T T' : Int} (h : Con a c N T) (hT : T ≤ T') (e : a'.s = a.s) : Con a' c N T' := ⟨h.qO.mono (Nat.le_refl _) (by omega), h.qR, FF.Ok.up h.F hT, h.rp, h.rc, h.rl, fun z h0 h1 h2 => h.tb z h0 h1 (by rwa [e] at h2)⟩
theorem lvA_fdU2 (a : KA) (n i v j w : Int) (O : Tr.OS) (P : Tr.PS) : lvA { a with u := fdU (fdU a.u n i v) n j w, O := O, P := P } = lvA a := (lvA_congr fun m _ _ => by
  show _ ↔ (fdU (fdU a.u n i v) n j w m).st = 0
  rw [(fdU_st _ _ _ _ _).1, (fdU_st _ _ _ _ _).1]).symm
theorem owriteF_ok {F : Tr.FF} {d : Int → Nat} {B : Int} (h : F.Ok d B) (O : Tr.OS) (n : Int) (x : ByteArray) : (Tr.owriteF F O n x).Ok d (B + 1) := by
  unfold Tr.owriteF; split
  · exact h.write _ _ _
  · exact h.up1
set_option maxHeartbeats 8000000 in
theorem k_PipeG (a : KA) (b : KZ) (c : KC) (N : Nat) (T : Int) (ho : a.Ok T) (hc : Con a c N T) (hT : T ≤ 800000) (n : Int) : Spec Tryz.prog 20 [ptr b.kb 0 0, .int .i64 n]
 [.cells b.kb 0 453 (encKn (kp a b c)), .cells b.gb 0 60 (Gr.encGt a.g), .cells b.sb 0 158 (Sp.encT a.s), .cells b.qb 0 2281 (Fa.encS c.q), .fam Fa.fam30 (Fa.SC.rows 254 c.q), .cells b.bb 0 577 (Vm.encK b.vp a.v.by_ a.v.rf), .cells b.vp 0 71 (Vm.encP a.v.bb.pool), .cfam (lvA a) c.mb 34 (cN b.bb a.f c.pp c.cc), .fam (lvA a) (rN 171 a.f c.pp c.cc), .cells b.tb 0 321 (Tr.encF c.F), .fam Tr.fam40 (Tr.FC.rowsN 9 c.F), .fam Tr.fam40 (Tr.FC.rowsK 3 c.F), irow c.rp c.rc 3 c.rl, .cells b.pi 0 24 (Tr.encP a.P), .cells b.ob 0 122 (Tr.encO b.tb b.pi a.O), .cfam (hrA a) (fun z => (c.t z).b) 4 (cT b.tb c.t), .fam (hrA a) (rT 168 c.t)]
 (fun v H1 => v = .tuple #[.int .i64 (a.pipeV n), .int .i64 (a.pipeU n), errv 102 (a.pipeE n)] ∧ ∃ c1 : KC, Con (a.pipeA n) c1 N (T + 1) ∧ H1 = [.cells b.kb 0 453 (encKn (kp (a.pipeA n) b c1)), .cells b.gb 0 60 (Gr.encGt (a.pipeA n).g), .cells b.sb 0 158 (Sp.encT (a.pipeA n).s), .cells b.qb 0 2281 (Fa.encS c1.q), .fam Fa.fam30 (Fa.SC.rows 254 c1.q), .cells b.bb 0 577 (Vm.encK b.vp (a.pipeA n).v.by_ (a.pipeA n).v.rf), .cells b.vp 0 71 (Vm.encP (a.pipeA n).v.bb.pool), .cfam (lvA (a.pipeA n)) c1.mb 34 (cN b.bb (a.pipeA n).f c1.pp c1.cc), .fam (lvA (a.pipeA n)) (rN 171 (a.pipeA n).f c1.pp c1.cc), .cells b.tb 0 321 (Tr.encF c1.F), .fam Tr.fam40 (Tr.FC.rowsN 9 c1.F), .fam Tr.fam40 (Tr.FC.rowsK 3 c1.F), irow c1.rp c1.rc 3 c1.rl, .cells b.pi 0 24 (Tr.encP (a.pipeA n).P), .cells b.ob 0 122 (Tr.encO b.tb b.pi (a.pipeA n).O), .cfam (hrA (a.pipeA n)) (fun z => (c1.t z).b) 4 (cT b.tb c1.t), .fam (hrA (a.pipeA n)) (rT 168 c1.t)]) := by
  have hop := opipe_rng a.P a.O
  have h1 : a.slot n = slotF (a.u n).fd 0 := rfl
  have h2 : a.slot2 n = slotF (a.u n).fd (slotF (a.u n).fd 0 + 1) := rfl
  refine Spec.go 62 [0, 1, 4, 5, 6, 7, 8, 9, 10, 11, 12, 20, 25, 32, 44] [] Tryz.func20 rfl rfl rfl ?_
  intro W
  refine ca (k_live b.kb (kp a b c) n) .h1 ?_
  rintro _ _ ⟨⟨hl, rfl⟩ | ⟨hl, rfl⟩, rfl⟩
  · skip
    try dsimp only [errvL0, errvL1, errvL2, errvL3, errvL4, errvL5, errvL6, errvL7, errvL8, errvL9, errvL10, errvL11, errvL12, errvL13]
    obtain ⟨hlr, hls⟩ := KP.live_rng hl
    have hl : a.live n = 0 := hl
    have hls : (a.u n).st = 1 := hls
    refine gO ?_
    refine ca (k_slotG a b c n hlr 0 (by omega)) .h1 ?_
    rintro _ _ ⟨rfl, rfl⟩
    refine gO ?_
    refine cd rfl ?_ ?_ <;> intro h1
    · skip
      refine XE.ret3 rfl rfl rfl rfl (post_of .h17 rfl ?_)
      try dsimp only [SW.den, SV.den, dens, ofC]
      have e1 : a.pipeE n = 4 := by unfold KA.pipeE; rw [if_neg (by omega), if_pos (by omega)]
      have e2 : a.pipeV n = 0 := by unfold KA.pipeV; rw [if_neg (by omega)]
      have e3 : a.pipeU n = 0 := by unfold KA.pipeU; rw [if_neg (by omega)]
      have e4 : a.pipeA n = a := by unfold KA.pipeA; rw [if_pos (by omega)]
      rw [e1, e2, e3, e4]; exact ⟨rfl, c, hc.up (Nat.le_refl _) (by omega), rfl⟩
    · skip
      have hsl := slotF_rng (a.u n).fd 0 (by omega)
      refine sd (by omega) ?_
      refine ca (k_slotG a b c n hlr (slotF (a.u n).fd 0 + 1) (by omega)) .h1 ?_
      rintro _ _ ⟨rfl, rfl⟩
      refine gO ?_
      refine cd rfl ?_ ?_ <;> intro h2
      · skip
        refine XE.ret3 rfl rfl rfl rfl (post_of .h17 rfl ?_)
        try dsimp only [SW.den, SV.den, dens, ofC]
        have e1 : a.pipeE n = 4 := by unfold KA.pipeE; rw [if_neg (by omega), if_pos (by omega)]
        have e2 : a.pipeV n = 0 := by unfold KA.pipeV; rw [if_neg (by omega)]
        have e3 : a.pipeU n = 0 := by unfold KA.pipeU; rw [if_neg (by omega)]
        have e4 : a.pipeA n = a := by unfold KA.pipeA; rw [if_pos (by omega)]
        rw [e1, e2, e3, e4]; exact ⟨rfl, c, hc.up (Nat.le_refl _) (by omega), rfl⟩
      · skip
        have hsm := slotF_rng (a.u n).fd (slotF (a.u n).fd 0 + 1) (by omega)
        refine ld .here (encKn.ld_o _) ?_
        refine ca (Tr.f_Pipe _ _ _ _ _ T (by omega) _ ho.wk.PI) (.cons (.t12 (.t2 .here)) (.cons (.t12 (.there .here)) .nil)) ?_
        rintro _ _ ⟨rfl, rfl⟩
        refine gO ?_
        refine cd rfl ?_ ?_ <;> intro h3
        · skip
          refine XE.ret3 rfl rfl rfl rfl (post_of (.cons (.t2 .here) (.cons (.t2 .here) (.cons (.t2 .here) (.cons (.t2 .here) (.cons (.t2 .here) (.cons (.t2 .here) (.cons (.t2 .here) (.cons (.t2 .here) (.cons (.t2 .here) (.cons (.t2 .here) (.cons (.t2 .here) (.cons (.t2 .here) (.cons (.t2 .here) (.cons (.there .here) .h3)))))))))))))) rfl ?_)
          try dsimp only [SW.den, SV.den, dens, ofC]
          have e1 : a.pipeE n = Tr.opipeE a.P a.O := by unfold KA.pipeE; rw [if_neg (by omega), if_neg (by omega)]
          have h0 : ¬ Tr.opipeE a.P a.O = 0 := by omega
          have e2 : a.pipeV n = 0 := by unfold KA.pipeV; rw [if_neg (by omega)]
          have e3 : a.pipeU n = 0 := by unfold KA.pipeU; rw [if_neg (by omega)]
          have e4 : a.pipeA n = { a with O := Tr.opipeO a.P a.O, P := Tr.opipeP a.P a.O } := by unfold KA.pipeA; rw [if_neg (by omega), if_neg h0]
          rw [e1, e2, e3, e4]; exact ⟨rfl, c, hc.same (by omega) rfl, rfl⟩
        · skip
          refine rq [0, 1, 2, 3, 4, 5, 6, 7, 8, 9, 10, 12, 13, 11, 14, 15] mixed (by kernel_rfl) ?_
          refine sd (by omega) ?_
          refine sd (by omega) ?_
          refine sd (by omega) ?_
          refine st (.t2 .here) (encKn.st_fd _ hlr ⟨hsl.1, hsl.2.1⟩ _) rfl ?_
          refine sd (by omega) ?_
          refine st (.t2 .here) (encKn.st_fd _ hlr ⟨hsm.1, hsm.2.1⟩ _) rfl ?_
          refine XE.ret3 rfl rfl rfl rfl (post_of (.cons (.t2 .here) (.cons (.t2 .here) (.cons (.t2 .here) (.cons (.t2 .here) (.cons (.t2 .here) (.cons (.t2 .here) (.cons (.t2 .here) (.cons (.t2 .here) (.cons (.t2 .here) (.cons (.t2 .here) (.cons (.t2 .here) (.cons (.t2 .here) (.cons (.t2 .here) (.cons (.there .here) .h3)))))))))))))) rfl ?_)
          try dsimp only [SW.den, SV.den, dens, ofC]
          have e1 : a.pipeE n = Tr.opipeE a.P a.O := by unfold KA.pipeE; rw [if_neg (by omega), if_neg (by omega)]
          have h0 : Tr.opipeE a.P a.O = 0 := by omega
          have e2 : a.pipeV n = a.slot n := by unfold KA.pipeV; rw [if_pos (by omega)]
          have e3 : a.pipeU n = a.slot2 n := by unfold KA.pipeU; rw [if_pos (by omega)]
          have e4 : a.pipeA n = { a with u := fdU (fdU a.u n (a.slot n) (Tr.opipeV a.P a.O + 1)) n (a.slot2 n) (Tr.opipeU a.P a.O + 1), O := Tr.opipeO a.P a.O, P := Tr.opipeP a.P a.O } := by unfold KA.pipeA; rw [if_neg (by omega), if_pos h0]
          rw [e1, e2, e3, e4, h0]
          refine ⟨rfl, c, hc.same (by omega) rfl, ?_⟩
          rw [kp_fdU a b c n (slotF (a.u n).fd 0) (Tr.opipeV a.P a.O + 1) a.O a.P, kp_fdU { a with u := fdU a.u n (slotF (a.u n).fd 0) (Tr.opipeV a.P a.O + 1), O := a.O, P := a.P } b c n (slotF (a.u n).fd (slotF (a.u n).fd 0 + 1)) (Tr.opipeU a.P a.O + 1) (Tr.opipeO a.P a.O) (Tr.opipeP a.P a.O)]
          rw [lvA_fdU2]
          all_goals rfl
  · skip
    try dsimp only [errvL0, errvL1, errvL2, errvL3, errvL4, errvL5, errvL6, errvL7, errvL8, errvL9, errvL10, errvL11, errvL12, errvL13]
    have hl : a.live n ≠ 0 := hl
    have hlk : (kp a b c).live n = a.live n := rfl
    rw [hlk]
    refine gO ?_
    refine XE.ret3 rfl rfl rfl rfl (post_of .h17 rfl ?_)
    try dsimp only [SW.den, SV.den, dens, ofC]
    have e1 : a.pipeE n = a.live n := by unfold KA.pipeE; rw [if_pos hl]
    have e2 : a.pipeV n = 0 := by unfold KA.pipeV; rw [if_neg (by omega)]
    have e3 : a.pipeU n = 0 := by unfold KA.pipeU; rw [if_neg (by omega)]
    have e4 : a.pipeA n = a := by unfold KA.pipeA; rw [if_pos (by omega)]
    rw [e1, e2, e3, e4, errv_pos _ hl]; exact ⟨rfl, c, hc.up (Nat.le_refl _) (by omega), rfl⟩
theorem k_ReadG (a : KA) (b : KZ) (c : KC) (N : Nat) (T : Int) (ho : a.Ok T) (hc : Con a c N T) (hT : T ≤ 800000) (n i m : Int) : Spec Tryz.prog 22 [ptr b.kb 0 0, .int .i64 n, .int .i64 i, .int .i64 m]
 [.cells b.kb 0 453 (encKn (kp a b c)), .cells b.gb 0 60 (Gr.encGt a.g), .cells b.sb 0 158 (Sp.encT a.s), .cells b.qb 0 2281 (Fa.encS c.q), .fam Fa.fam30 (Fa.SC.rows 254 c.q), .cells b.bb 0 577 (Vm.encK b.vp a.v.by_ a.v.rf), .cells b.vp 0 71 (Vm.encP a.v.bb.pool), .cfam (lvA a) c.mb 34 (cN b.bb a.f c.pp c.cc), .fam (lvA a) (rN 171 a.f c.pp c.cc), .cells b.tb 0 321 (Tr.encF c.F), .fam Tr.fam40 (Tr.FC.rowsN 9 c.F), .fam Tr.fam40 (Tr.FC.rowsK 3 c.F), irow c.rp c.rc 3 c.rl, .cells b.pi 0 24 (Tr.encP a.P), .cells b.ob 0 122 (Tr.encO b.tb b.pi a.O), .cfam (hrA a) (fun z => (c.t z).b) 4 (cT b.tb c.t), .fam (hrA a) (rT 168 c.t)]
 (fun v H1 => v = .tuple #[.string (a.readV c.F.toFF n i m), errv 102 (a.readE c.F.toFF n i m)] ∧ ∃ c1 : KC, Con (a.readA c.F.toFF n i m) c1 N (T + 1) ∧ H1 = [.cells b.kb 0 453 (encKn (kp (a.readA c.F.toFF n i m) b c1)), .cells b.gb 0 60 (Gr.encGt (a.readA c.F.toFF n i m).g), .cells b.sb 0 158 (Sp.encT (a.readA c.F.toFF n i m).s), .cells b.qb 0 2281 (Fa.encS c1.q), .fam Fa.fam30 (Fa.SC.rows 254 c1.q), .cells b.bb 0 577 (Vm.encK b.vp (a.readA c.F.toFF n i m).v.by_ (a.readA c.F.toFF n i m).v.rf), .cells b.vp 0 71 (Vm.encP (a.readA c.F.toFF n i m).v.bb.pool), .cfam (lvA (a.readA c.F.toFF n i m)) c1.mb 34 (cN b.bb (a.readA c.F.toFF n i m).f c1.pp c1.cc), .fam (lvA (a.readA c.F.toFF n i m)) (rN 171 (a.readA c.F.toFF n i m).f c1.pp c1.cc), .cells b.tb 0 321 (Tr.encF c1.F), .fam Tr.fam40 (Tr.FC.rowsN 9 c1.F), .fam Tr.fam40 (Tr.FC.rowsK 3 c1.F), irow c1.rp c1.rc 3 c1.rl, .cells b.pi 0 24 (Tr.encP (a.readA c.F.toFF n i m).P), .cells b.ob 0 122 (Tr.encO b.tb b.pi (a.readA c.F.toFF n i m).O), .cfam (hrA (a.readA c.F.toFF n i m)) (fun z => (c1.t z).b) 4 (cT b.tb c1.t), .fam (hrA (a.readA c.F.toFF n i m)) (rT 168 c1.t)]) := by
  refine Spec.go 31 [0, 1, 2, 3, 8, 9, 10, 11, 20] [] Tryz.func22 rfl rfl rfl ?_
  intro W
  refine ca (k_openG a b c ho.wk.fd n i) .h1 ?_
  rintro _ _ ⟨rfl, rfl⟩
  refine gO ?_
  refine cd rfl ?_ ?_ <;> intro h1
  · skip
    refine XE.ret2 rfl rfl rfl (post_of .h17 rfl ?_)
    try dsimp only [SW.den, SV.den, dens, ofC]
    have e1 : a.readE c.F.toFF n i m = a.openE n i := by unfold KA.readE; rw [if_pos (by omega)]
    have e2 : a.readV c.F.toFF n i m = ⟨#[]⟩ := by unfold KA.readV; rw [if_pos (by omega)]
    have e3 : a.readA c.F.toFF n i m = a := by unfold KA.readA; rw [if_pos (by omega)]
    rw [e1, e2, e3]; exact ⟨rfl, c, hc.up (Nat.le_refl _) (by omega), rfl⟩
  · skip
    have hp0 : a.openE n i = 0 := by omega
    obtain ⟨hn, hs, hi, hf, hv⟩ := KA.open_0 hp0
    have hfd := ho.wk.fd n i
    refine ld .here (encKn.ld_o _) ?_
    refine ca (Tr.f_Read _ _ _ _ _ T (by omega) ho.wk.OI c.F (hc.F.sh (by omega)) T (by omega) _ ho.wk.PI (a.openV n i) m) (.cons (.t12 (.t2 .here)) (.cons (.t9 .here) (.cons (.t9 .here) (.cons (.t9 .here) (.cons (.t10 .here) .nil))))) ?_
    rintro _ _ ⟨rfl, rfl⟩
    refine gO ?_
    refine XE.ret2 rfl rfl rfl (post_of (.cons (.t5 .here) (.cons (.t5 .here) (.cons (.t5 .here) (.cons (.t5 .here) (.cons (.t5 .here) (.cons (.t5 .here) (.cons (.t5 .here) (.cons (.t5 .here) (.cons (.t5 .here) (.cons (.there .here) (.cons (.there .here) (.cons (.there .here) (.cons (.t2 .here) (.cons (.there .here) .h3)))))))))))))) rfl ?_)
    try dsimp only [SW.den, SV.den, dens, ofC]
    have e1 : a.readE c.F.toFF n i m = Tr.oreadE c.F.toFF a.P a.O (a.openV n i) m := by unfold KA.readE; rw [if_neg (by omega)]
    have e2 : a.readV c.F.toFF n i m = Tr.oreadV c.F.toFF a.P a.O (a.openV n i) m := by unfold KA.readV; rw [if_neg (by omega)]
    have e3 : a.readA c.F.toFF n i m = { a with O := Tr.oreadO c.F.toFF a.O (a.openV n i) m, P := Tr.oreadP a.P a.O (a.openV n i) m } := by unfold KA.readA; rw [if_neg (by omega)]
    rw [e1, e2, e3]; exact ⟨rfl, c, hc.same (by omega) rfl, rfl⟩
set_option maxHeartbeats 8000000 in
theorem k_WriteG (a : KA) (b : KZ) (c : KC) (N : Nat) (T : Int) (ho : a.Ok T) (hc : Con a c N T) (hT : T ≤ 800000) (n i : Int) (x : ByteArray) (hx : x.size ≤ 1000000) : Spec Tryz.prog 21 [ptr b.kb 0 0, .int .i64 n, .int .i64 i, .string x]
 [.cells b.kb 0 453 (encKn (kp a b c)), .cells b.gb 0 60 (Gr.encGt a.g), .cells b.sb 0 158 (Sp.encT a.s), .cells b.qb 0 2281 (Fa.encS c.q), .fam Fa.fam30 (Fa.SC.rows 254 c.q), .cells b.bb 0 577 (Vm.encK b.vp a.v.by_ a.v.rf), .cells b.vp 0 71 (Vm.encP a.v.bb.pool), .cfam (lvA a) c.mb 34 (cN b.bb a.f c.pp c.cc), .fam (lvA a) (rN 171 a.f c.pp c.cc), .cells b.tb 0 321 (Tr.encF c.F), .fam Tr.fam40 (Tr.FC.rowsN 9 c.F), .fam Tr.fam40 (Tr.FC.rowsK 3 c.F), irow c.rp c.rc 3 c.rl, .cells b.pi 0 24 (Tr.encP a.P), .cells b.ob 0 122 (Tr.encO b.tb b.pi a.O), .cfam (hrA a) (fun z => (c.t z).b) 4 (cT b.tb c.t), .fam (hrA a) (rT 168 c.t), .ro 0 0 32 Sg.tab32]
 (fun v H1 => v = .tuple #[.int .i64 (a.writeV c.F.toFF n i x), errv 102 (a.writeE c.F.toFF n i x)] ∧ ∃ c1 : KC, Con (a.writeA c.F.toFF n i x) c1 N (T + 1) ∧ H1 = [.cells b.kb 0 453 (encKn (kp (a.writeA c.F.toFF n i x) b c1)), .cells b.gb 0 60 (Gr.encGt (a.writeA c.F.toFF n i x).g), .cells b.sb 0 158 (Sp.encT (a.writeA c.F.toFF n i x).s), .cells b.qb 0 2281 (Fa.encS c1.q), .fam Fa.fam30 (Fa.SC.rows 254 c1.q), .cells b.bb 0 577 (Vm.encK b.vp (a.writeA c.F.toFF n i x).v.by_ (a.writeA c.F.toFF n i x).v.rf), .cells b.vp 0 71 (Vm.encP (a.writeA c.F.toFF n i x).v.bb.pool), .cfam (lvA (a.writeA c.F.toFF n i x)) c1.mb 34 (cN b.bb (a.writeA c.F.toFF n i x).f c1.pp c1.cc), .fam (lvA (a.writeA c.F.toFF n i x)) (rN 171 (a.writeA c.F.toFF n i x).f c1.pp c1.cc), .cells b.tb 0 321 (Tr.encF c1.F), .fam Tr.fam40 (Tr.FC.rowsN 9 c1.F), .fam Tr.fam40 (Tr.FC.rowsK 3 c1.F), irow c1.rp c1.rc 3 c1.rl, .cells b.pi 0 24 (Tr.encP (a.writeA c.F.toFF n i x).P), .cells b.ob 0 122 (Tr.encO b.tb b.pi (a.writeA c.F.toFF n i x).O), .cfam (hrA (a.writeA c.F.toFF n i x)) (fun z => (c1.t z).b) 4 (cT b.tb c1.t), .fam (hrA (a.writeA c.F.toFF n i x)) (rT 168 c1.t)]) := by
  refine Spec.go 41 [0, 1, 2, 3, 8, 9, 10, 11, 12, 21, 35] [] Tryz.func21 rfl rfl rfl ?_
  intro W
  refine ca (k_openG a b c ho.wk.fd n i) .h1 ?_
  rintro _ _ ⟨rfl, rfl⟩
  refine gO ?_
  refine cd rfl ?_ ?_ <;> intro h1
  · skip
    refine XE.ret2 rfl rfl rfl (post_of .h17 rfl ?_)
    try dsimp only [SW.den, SV.den, dens, ofC]
    have e1 : a.writeE c.F.toFF n i x = a.openE n i := by unfold KA.writeE; rw [if_pos (by omega)]
    have e2 : a.writeV c.F.toFF n i x = 0 := by unfold KA.writeV; rw [if_pos (by omega)]
    have e3 : a.writeA c.F.toFF n i x = a := by unfold KA.writeA; rw [if_pos (by omega)]
    rw [e1, e2, e3]; exact ⟨rfl, c, hc.up (Nat.le_refl _) (by omega), rfl⟩
  · skip
    have hp0 : a.openE n i = 0 := by omega
    obtain ⟨hn, hs, hi, hf, hv⟩ := KA.open_0 hp0
    have hfd := ho.wk.fd n i
    refine ld .here (encKn.ld_o _) ?_
    refine ca (Tr.f_Write _ _ _ _ _ T (by omega) ho.wk.OI c.F (hc.F.sh (by omega)) T (by omega) _ ho.wk.PI (a.openV n i) x hx) (.cons (.t12 (.t2 .here)) (.cons (.t9 .here) (.cons (.t9 .here) (.cons (.t9 .here) (.cons (.t10 .here) .nil))))) ?_
    rintro _ _ ⟨rfl, F1, hF1, hp1, hr1, rfl⟩
    have hcf : Con (a.wroteA c.F.toFF n i x) { c with F := F1 } N (T + 1) := ⟨hc.qO, hc.qR, (by show F1.toFF.Ok _ _; rw [hF1]; exact owriteF_ok hc.F _ _ _), hp1.trans hc.rp, hr1.trans hc.rc, (by show F1.toFF.roots = _; rw [hF1, Tr.owriteF_roots]; exact hc.rl), hc.tb⟩
    refine gO ?_
    refine XO.v (V.errIs rfl rfl (by decide) Tryz.underlying33 errInfo rfl Tryz.underlying102 rfl) rfl (gO ?_)
    refine cd rfl ?_ ?_ <;> intro h2
    · skip
      refine caR 17 (k_send (a.wroteA c.F.toFF n i x) b { c with F := F1 } N (T + 1) (ho.wrote (by omega) c.F.toFF n i x).wk hcf (by omega) n 2 false ((ho.wrote (by omega) c.F.toFF n i x).hx.any n)) (.cons (.t5 .here) (.cons (.t5 .here) (.cons (.t5 .here) (.cons (.t5 .here) (.cons (.t5 .here) (.cons (.t5 .here) (.cons (.t5 .here) (.cons (.t5 .here) (.cons (.t5 .here) (.cons (.there .here) (.cons (.there .here) (.cons (.there .here) (.cons (.t2 .here) (.cons (.there .here) .h4)))))))))))))) rfl ?_
      rintro _ _ ⟨c1, hc1, rfl⟩
      refine gO ?_
      refine XE.ret2 rfl rfl rfl (post_of .h17 rfl ?_)
      try dsimp only [SW.den, SV.den, dens, ofC]
      have e1 : a.writeE c.F.toFF n i x = (Tr.owriteE c.F.toFF a.P a.O (a.openV n i) x) := by unfold KA.writeE; rw [if_neg (by omega)]
      have e2 : a.writeV c.F.toFF n i x = Tr.owriteV c.F.toFF a.P a.O (a.openV n i) x := by unfold KA.writeV; rw [if_neg (by omega)]
      have e3 : a.writeA c.F.toFF n i x = (a.wroteA c.F.toFF n i x).sendA n 2 false := by unfold KA.writeA; rw [if_neg (by omega), if_pos (by omega)]
      rw [e1, e2, e3]; exact ⟨rfl, c1, hc1, rfl⟩
    · skip
      refine XE.ret2 rfl rfl rfl (post_of (.cons (.t5 .here) (.cons (.t5 .here) (.cons (.t5 .here) (.cons (.t5 .here) (.cons (.t5 .here) (.cons (.t5 .here) (.cons (.t5 .here) (.cons (.t5 .here) (.cons (.t5 .here) (.cons (.there .here) (.cons (.there .here) (.cons (.there .here) (.cons (.t2 .here) (.cons (.there .here) .h3)))))))))))))) rfl ?_)
      try dsimp only [SW.den, SV.den, dens, ofC]
      have e1 : a.writeE c.F.toFF n i x = (Tr.owriteE c.F.toFF a.P a.O (a.openV n i) x) := by unfold KA.writeE; rw [if_neg (by omega)]
      have e2 : a.writeV c.F.toFF n i x = Tr.owriteV c.F.toFF a.P a.O (a.openV n i) x := by unfold KA.writeV; rw [if_neg (by omega)]
      have e3 : a.writeA c.F.toFF n i x = a.wroteA c.F.toFF n i x := by unfold KA.writeA; rw [if_neg (by omega), if_neg (by omega)]
      rw [e1, e2, e3]; exact ⟨rfl, _, hcf, rfl⟩
end Go.X.Kn

namespace Go.X.Fa
open Go Go.Proofs Go.X
set_option maxRecDepth 20000
set_option maxHeartbeats 4000000

theorem f_New  : Spec Tryz.prog 97 []
 []
 (fun v H1 => ∃ p, v = ptr p 0 0 ∧ ∃ t : SC, t.toSF = SF.init ∧ t.Rep ∧ H1 = [.cells p 0 2281 (encS t), .fam fam30 (t.rows 254)]) := by
  refine Spec.go 10 [0, 1] [] Tryz.func97 rfl rfl rfl ?_
  intro W
  refine XO.v (V.build (vs := #[]) rfl (v := .agg arrS) (fun _ => by kernel_rfl)) rfl (gO ?_)
  refine XO.box (m := 2281) (C := encS SC.void) rfl arrS_size arrS_box rfl ?_
  intro p
  refine XO.mono (fun _ hw3 => XM.famVoid 254 hw3) ?_
  refine gO ?_
  refine XO.v (V.build (vs := #[(0, .bool true), (1, .int .i64 (-1)), (2, .int .i64 1)]) rfl (v := .agg (unitArr (freshU true (-1) 1))) (fun _ => by kernel_rfl)) rfl (gO ?_)
  refine sd (by omega) ?_
  refine oS ?_
  refine XO.storeAgg rfl rfl (.there .here) (encS_new _ 0 (-1) 1 true (by omega)) (unitArr_ok _) sz_187_76 ?_
  refine XO.mono (fun _ hw3 => XM.newRow (s := SC.void) (z := 0) (by omega) (.cons .here .nil) hw3) ?_
  refine gO ?_
  refine XE.ret1 rfl rfl (post_of (.cons (.there .here) .h1) rfl ?_)
  try dsimp only [SW.den, SV.den, dens, ofC]
  exact ⟨_, rfl, _, rfl, SC.Rep.void.new rfl (fun i hi => by cases hi) (-1) 1 true, rfl⟩
end Go.X.Fa

namespace Go.X.Tr
open Go Go.X
theorem boxP_init : ∀ i, i < 24 → cellsOf (Value.agg #[.string ⟨#[]⟩, .int .i64 0, .int .i64 0, .string ⟨#[]⟩, .int .i64 0, .int .i64 0, .string ⟨#[]⟩, .int .i64 0, .int .i64 0, .string ⟨#[]⟩, .int .i64 0, .int .i64 0, .string ⟨#[]⟩, .int .i64 0, .int .i64 0, .string ⟨#[]⟩, .int .i64 0, .int .i64 0, .string ⟨#[]⟩, .int .i64 0, .int .i64 0, .string ⟨#[]⟩, .int .i64 0, .int .i64 0]).cells i = encP PS.init i := fun i hi => match i, hi with
  | 0, _ => rfl
  | 1, _ => rfl
  | 2, _ => rfl
  | 3, _ => rfl
  | 4, _ => rfl
  | 5, _ => rfl
  | 6, _ => rfl
  | 7, _ => rfl
  | 8, _ => rfl
  | 9, _ => rfl
  | 10, _ => rfl
  | 11, _ => rfl
  | 12, _ => rfl
  | 13, _ => rfl
  | 14, _ => rfl
  | 15, _ => rfl
  | 16, _ => rfl
  | 17, _ => rfl
  | 18, _ => rfl
  | 19, _ => rfl
  | 20, _ => rfl
  | 21, _ => rfl
  | 22, _ => rfl
  | 23, _ => rfl
  | k + 24, h => absurd h (by omega)

end Go.X.Tr

namespace Go.X.Kn
open Go Go.Proofs Go.X
set_option maxRecDepth 20000
set_option maxHeartbeats 4000000

theorem first_build (mb : Nat) : ∀ w, (Instr.build 89 #[(0, .int .i64 1), (1, .int .i64 (-1)), (4, ptr mb 0 0)]).run Tryz.prog w = .ok (.agg (PU.arr (firstU mb))) w := fun w => by kernel_rfl
theorem raw_build (a b c d e f : Nat) : ∀ w, (Instr.build 101 #[(1, ptr a 0 0), (2, ptr b 0 0), (3, ptr c 0 0), (4, ptr d 0 0), (5, ptr e 0 0), (6, ptr f 0 0)]).run Tryz.prog w = .ok (.agg (arrK0 (KP.raw a b c d e f))) w := fun w => by kernel_rfl
end Go.X.Kn

namespace Go.X.Kn
open Go Go.Proofs Go.X
set_option maxRecDepth 20000
set_option maxHeartbeats 4000000


attribute [local irreducible] KA.exitA KA.settleA
set_option maxHeartbeats 16000000 in
theorem k_NewG  : Spec Tryz.prog 37 []
 []
 (fun x H1 => ∃ (b : KZ) (c : KC), x = ptr b.kb 0 0 ∧ c.q.toSF = Q2 ∧ c.d = dK ∧ Con A0 c 1 2 ∧ H1 = [.cells b.kb 0 453 (encKn (kp A0 b c)), .cells b.gb 0 60 (Gr.encGt A0.g), .cells b.sb 0 158 (Sp.encT A0.s), .cells b.qb 0 2281 (Fa.encS c.q), .fam Fa.fam30 (Fa.SC.rows 254 c.q), .cells b.bb 0 577 (Vm.encK b.vp A0.v.by_ A0.v.rf), .cells b.vp 0 71 (Vm.encP A0.v.bb.pool), .cfam (lvA A0) c.mb 34 (cN b.bb A0.f c.pp c.cc), .fam (lvA A0) (rN 171 A0.f c.pp c.cc), .cells b.tb 0 321 (Tr.encF c.F), .fam Tr.fam40 (Tr.FC.rowsN 9 c.F), .fam Tr.fam40 (Tr.FC.rowsK 3 c.F), irow c.rp c.rc 3 c.rl, .cells b.pi 0 24 (Tr.encP A0.P), .cells b.ob 0 122 (Tr.encO b.tb b.pi A0.O), .cfam (hrA A0) (fun z => (c.t z).b) 4 (cT b.tb c.t), .fam (hrA A0) (rT 168 c.t)]) := by
  refine Spec.go 77 [0, 1] [] Tryz.func37 rfl rfl rfl ?_
  intro W
  refine ca (Gr.g_new) .nil ?_
  rintro _ _ ⟨gb, rfl, rfl⟩
  refine gO ?_
  refine ca (Sp.t_New) .nil ?_
  rintro _ _ ⟨sb, rfl, rfl⟩
  refine gO ?_
  refine ca (Fa.f_New) .nil ?_
  rintro _ _ ⟨qb, rfl, q0, hq0, hr0, rfl⟩
  refine gO ?_
  refine ca (Vm.v_NewBank) .nil ?_
  rintro _ _ ⟨bb, vp, rfl, rfl⟩
  refine gO ?_
  refine ca (Tr.t_New) .nil ?_
  rintro _ _ ⟨tb, rfl, rfl⟩
  refine gO ?_
  refine XO.v (V.build (vs := #[]) rfl (v := .agg #[.string ⟨#[]⟩, .int .i64 0, .int .i64 0, .string ⟨#[]⟩, .int .i64 0, .int .i64 0, .string ⟨#[]⟩, .int .i64 0, .int .i64 0, .string ⟨#[]⟩, .int .i64 0, .int .i64 0, .string ⟨#[]⟩, .int .i64 0, .int .i64 0, .string ⟨#[]⟩, .int .i64 0, .int .i64 0, .string ⟨#[]⟩, .int .i64 0, .int .i64 0, .string ⟨#[]⟩, .int .i64 0, .int .i64 0]) (fun _ => by kernel_rfl)) rfl (gO ?_)
  refine XO.box (m := 24) (C := Tr.encP Tr.PS.init) rfl rfl Tr.boxP_init rfl ?_
  intro pi
  refine gO ?_
  refine XO.v (V.build (vs := #[(1, ptr gb 0 0), (2, ptr sb 0 0), (3, ptr qb 0 0), (4, ptr bb 0 0), (5, ptr tb 0 0), (6, ptr pi 0 0)]) rfl (v := .agg (arrK0 (KP.raw gb sb qb bb tb pi))) (raw_build _ _ _ _ _ _)) rfl (gO ?_)
  refine XO.box (m := 453) (C := encK0 (KP.raw gb sb qb bb tb pi)) rfl (arrK0_size _) (arrK0_box _) rfl ?_
  intro kb
  refine gO ?_
  refine rq [0, 1, 2, 3, 4, 5, 6, 7, 8, 9, 10, 11, 12] mixed (by kernel_rfl) ?_
  refine ld .here (encK0.ld_t _) ?_
  refine ld .here (encK0.ld_pi _) ?_
  refine ca (Tr.f_New tb pi) .nil ?_
  rintro _ _ ⟨ob, rfl, rfl⟩
  refine gO ?_
  refine st (.there .here) (encK0.st_o _ _) rfl ?_
  refine ld (.there .here) (encKn.ld_t _) ?_
  refine ca (Tr.t_Plant _ _ _ (Tr.FF.inv_void.sh (by omega))) (.cons (.t3 .here) (.cons (.t3 .here) (.cons (.t3 .here) (.cons (.t3 .here) .nil)))) ?_
  rintro _ _ ⟨t0, rfl, ht0, rfl⟩
  obtain ⟨d1, o1⟩ := Tr.FF.inv_void.plant
  have o2 : t0.toFF.Ok d1 (0 + 1) := by rw [ht0]; exact o1
  have hrt : t0.rootE 0 = 0 := by show t0.toFF.rootE 0 = 0; rw [ht0]; decide +kernel
  refine gO ?_
  refine rq [0, 1, 2, 3, 4, 9, 10, 5, 6, 7, 8, 11, 12] mixed (by kernel_rfl) ?_
  refine ld (.t5 .here) (encKn.ld_t _) ?_
  refine ca (Tr.m_New _ t0 d1 _ o2 (by omega) 0) .h4 ?_
  rintro _ _ (⟨hne, rfl, rfl⟩ | ⟨_, bt, u0, rfl, hu0, up0, uc0, rfl⟩)
  · skip
    exact absurd hrt hne
    skip
  · skip
    try dsimp only [errvL0, errvL1, errvL2, errvL3, errvL4, errvL5, errvL6, errvL7, errvL8, errvL9, errvL10, errvL11, errvL12, errvL13]
    refine gO ?_
    refine sd (by omega) ?_
    refine st (.t7 .here) (encKn.st_ms _ (by omega) _) rfl ?_
    refine rq [0, 1, 2, 3, 4, 7, 8, 5, 6, 9, 10] mixed (by kernel_rfl) ?_
    refine ld (.t7 .here) (encKn.ld_b _) ?_
    refine ca (Vm.v_New bb) .nil ?_
    rintro _ _ ⟨mb, rfl, rfl⟩
    refine gO ?_
    refine XO.v (V.build (vs := #[(0, .int .i64 1), (1, .int .i64 (-1)), (4, ptr mb 0 0)]) rfl (v := .agg (PU.arr (firstU mb))) (first_build mb)) rfl (gO ?_)
    refine sd (by omega) ?_
    refine stA (.t9 .here) (encKn.put_ _ (by omega) (firstU mb)) rfl ⟨rfl, rfl⟩ ?_
    refine ld (.t9 .here) (encKn.ld_g _) ?_
    refine ca (Gr.g_charge _ _ Gr.TG.init Gr.TG.Inv.init.ok 0 1 0 0 (by omega) Gr.TG.Small.init) (.cons (.t12 (.t4 .here)) .nil) ?_
    rintro _ _ ⟨rfl, rfl⟩
    refine gO ?_
    refine ld (.t10 .here) (encKn.ld_s _) ?_
    refine ca (Sp.t_Enter _ _ Sp.SS.init (fun _ => 1) Sp.SS.Inv.init.D 0 0) (.cons (.t12 (.t4 .here)) .nil) ?_
    rintro _ _ ⟨rfl, rfl⟩
    refine gO ?_
    refine ld (.t11 .here) (encKn.ld_q _) ?_
    refine ca (Fa.f_AddTask _ _ q0 (fun _ => 0) (by rw [hq0]; exact Fa.SF.init_ok.inv) hr0 0 0 100) (.cons (.t12 (.t3 .here)) (.cons (.t12 (.t3 .here)) .nil)) ?_
    rintro _ _ ⟨rfl, q1, hq1, hr1, rfl⟩
    have hq1 : q1.toSF = Q1 := by rw [hq1, hq0]; rfl
    refine gO ?_
    refine ld (.t12 (.there .here)) (encKn.ld_q _) ?_
    refine ca (Fa.f_wake _ _ q1 dK (by rw [hq1]; exact Q1_ok.inv) hr1 0 true) .h2 ?_
    rintro _ _ ⟨rfl, q2, hq2, hr2, rfl⟩
    have hq2 : q2.toSF = Q2 := by rw [hq2, hq1]; rfl
    refine gO ?_
    refine XR.mono (fun _ hw3 => XM.startM (z := (0 : Int).toNat) Vm.MS.nil (.cons (.t4 .here) (.cons (.t4 .here) .nil)) hw3) ?_
    rw [fupd_self (fun _ => Vm.MS.nil)]
    refine XR.mono (fun _ hw3 => XM.startT (z := (0 : Int).toNat) (⟨bt, ⟨0, t0.rootV 0⟩, [], none, 0, 0, 0, Tr.C0⟩ : TB) (.cons (.t6 .here) (.cons (.t6 .here) .nil)) hw3) ?_
    refine XE.ret1 rfl rfl (post_of (.cons (.t12 (.there .here)) (.cons (.t7 .here) (.cons (.t6 .here) (.cons (.t4 .here) (.cons (.t4 .here) (.cons (.t10 .here) (.cons (.t10 .here) (.cons (.t2 .here) (.cons (.t2 .here) (.cons (.t2 .here) (.cons (.t2 .here) (.cons (.t2 .here) (.cons (.t2 .here) (.cons (.t3 .here) (.cons (.t2 .here) .h2))))))))))))))) rfl ?_)
    try dsimp only [SW.den, SV.den, dens, ofC]
    refine ⟨(⟨kb, gb, sb, qb, bb, tb, pi, ob, vp⟩ : KZ), (⟨fupd (fun _ => 0) (0 : Int).toNat mb, fupd (fun _ => none) (0 : Int).toNat none, fupd (fun _ => 0) (0 : Int).toNat 0, q2, dK, u0, d1, t0.rP, t0.rC, t0.roots, fupd (fun _ => (⟨bt, ⟨0, t0.rootV 0⟩, [], none, 0, 0, 0, Tr.C0⟩ : TB)) (0 : Int).toNat (⟨bt, ⟨0, t0.rootV 0⟩, [], none, 0, 0, 0, Tr.C0⟩ : TB)⟩ : KC), rfl, hq2, rfl, ⟨(by show q2.toSF.Ok dK 1 1; rw [hq2]; exact Q2_ok.mono (Nat.le_refl _) (by omega)), hr2, (by show u0.toFF.Ok d1 2; rw [hu0]; exact o2.hold _), up0, uc0, (by show u0.toFF.roots = _; rw [hu0, hold_roots2]), fun z z0 z1 z2 => ?_⟩, ?_⟩
    · have et : fupd (fun _ => (⟨bt, ⟨0, t0.rootV 0⟩, [], none, 0, 0, 0, Tr.C0⟩ : TB)) (0 : Int).toNat (⟨bt, ⟨0, t0.rootV 0⟩, [], none, 0, 0, 0, Tr.C0⟩ : TB) z.toNat = (⟨bt, ⟨0, t0.rootV 0⟩, [], none, 0, 0, 0, Tr.C0⟩ : TB) := by unfold fupd; split <;> rfl
      show (fupd (fun _ => (⟨bt, ⟨0, t0.rootV 0⟩, [], none, 0, 0, 0, Tr.C0⟩ : TB)) (0 : Int).toNat (⟨bt, ⟨0, t0.rootV 0⟩, [], none, 0, 0, 0, Tr.C0⟩ : TB) z.toNat).Ok
      rw [et]
      exact ⟨.inl ⟨rfl, rfl⟩, fun i hi => absurd hi (by show ¬ i < 0 * 4; omega), (by show 0 ≤ 6; omega)⟩
    · rw [lvA_A0, hrA_A0, new_kp (⟨kb, gb, sb, qb, bb, tb, pi, ob, vp⟩ : KZ) (⟨fupd (fun _ => 0) (0 : Int).toNat mb, fupd (fun _ => none) (0 : Int).toNat none, fupd (fun _ => 0) (0 : Int).toNat 0, q2, dK, u0, d1, t0.rP, t0.rC, t0.roots, fupd (fun _ => (⟨bt, ⟨0, t0.rootV 0⟩, [], none, 0, 0, 0, Tr.C0⟩ : TB)) (0 : Int).toNat (⟨bt, ⟨0, t0.rootV 0⟩, [], none, 0, 0, 0, Tr.C0⟩ : TB)⟩ : KC) ob mb (⟨bt, ⟨0, t0.rootV 0⟩, [], none, 0, 0, 0, Tr.C0⟩ : TB) rfl rfl _ rfl]
      all_goals rfl
end Go.X.Kn
