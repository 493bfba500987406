import Derived.Test.YtojlnbjpiccliaaLWq
import Derived.Test.YtojlnbjpiccliaaQLM
namespace Go.X
open Go Go.Proofs
theorem cl_15 : callable Try.prog 15 = true := by kernel_rfl
set_option maxRecDepth 10000 in
set_option maxHeartbeats 400000 in
theorem same_f0 (p q : Option Addr) (c c2 n : Nat) (f g : Int → Int) (hn : n ≤ 64) (hfg : ∀ j : Int, 0 ≤ j → j < n → f j = g j) : Spec Try.prog 54 [.slice p n c, .slice q n c2]
    [frow p c 3 1 n (encF f), frow q c2 3 1 n (encF g)]
    (fun v H1 => v = .bool true ∧ H1 = [frow p c 3 1 n (encF f), frow q c2 3 1 n (encF g)]) := by
  refine Spec.intro Try.func54 rfl rfl ?_
  intro W
  refine XC.seq ?_
  refine XC.region ?_
  refine XO.v (V.assign rfl) rfl ?_
  refine XO.nil ?_
  refine XE.next ?_
  refine XC.keep [(0, _), (1, _)] (Sub.cons rfl (Sub.cons rfl (Sub.nil _))) ?_
  refine XC.seq ?_
  refine XC.seq ?_
  refine XC.region ?_
  refine XO.v (V.move rfl) rfl ?_
  refine XO.v (V.lenSl rfl Try.underlying85) rfl ?_
  refine XO.v (V.move rfl) rfl ?_
  refine XO.v (V.lenSl rfl Try.underlying85) rfl ?_
  refine XO.v (V.cmp rfl rfl rfl) rfl ?_
  refine XO.nil ?_
  refine XE.next ?_
  refine XC.keep [(0, _), (1, _), (10, _)] (Sub.cons rfl (Sub.cons rfl (Sub.cons rfl (Sub.nil _)))) ?_
  refine XC.condFP rfl (by simp) ?_
  refine XC.skip ?_
  refine XE.next ?_
  refine XC.keep [(0, _), (1, _)] (Sub.cons rfl (Sub.cons rfl (Sub.nil _))) ?_
  refine XC.seq ?_
  refine XC.seq ?_
  refine XC.region ?_
  refine XO.v (V.assign rfl) rfl ?_
  refine XO.nil ?_
  refine XE.next ?_
  refine XC.keep [(0, _), (1, _), (5, _)] (Sub.cons rfl (Sub.cons rfl (Sub.cons rfl (Sub.nil _)))) ?_
  refine XC.block ?_
  refine XC.loop (σ := Int) (fun k => (n - k).toNat) (fun k => 0 ≤ k ∧ k ≤ n) (fun k => [(5, .int .i64 k), (0, .slice p n c), (1, .slice q n c2)]) (fun k => XM W (foot [frow p c 3 1 n (encF f), frow q c2 3 1 n (encF g)]) [frow p c 3 1 n (encF f), frow q c2 3 1 n (encF g)]) (0) ?_ (Sub.cons rfl (Sub.cons rfl (Sub.cons rfl (Sub.nil _)))) (fun _ hw => XM.pick (.cons .here (.cons .here .nil)) hw) ?_
  · skip
    exact ⟨by omega, by omega⟩
  intro k hk
  refine XC.seq ?_
  refine XC.seq ?_
  refine XC.region ?_
  refine XO.v (V.move rfl) rfl ?_
  refine XO.v (V.move rfl) rfl ?_
  refine XO.v (V.lenSl rfl Try.underlying85) rfl ?_
  refine XO.v (V.cmp rfl rfl rfl) rfl ?_
  refine XO.nil ?_
  refine XE.next ?_
  refine XC.keep [(0, _), (1, _), (5, _), (14, _)] (Sub.cons rfl (Sub.cons rfl (Sub.cons rfl (Sub.cons rfl (Sub.nil _))))) ?_
  refine XC.condP rfl (fun h1 => ?_) (fun h1 => ?_)
  · skip
    refine XC.skip ?_
    refine XE.next ?_
    refine XC.keep [(0, _), (1, _), (5, _)] (Sub.cons rfl (Sub.cons rfl (Sub.cons rfl (Sub.nil _)))) ?_
    refine XC.seq ?_
    refine XC.block ?_
    refine XC.seq ?_
    refine XC.openRow .here (by omega) ?_
    intro h2 h3
    subst h3
    refine XC.openRow (.there .here) (by omega) ?_
    intro h4 h5
    subst h5
    refine XC.regionQ mixed (f := 9) (l := #[false, false, false, false, false, false, false, false, false]) rfl rfl XM.drawn' ?_
    refine XQ.pv (i := 0) (l' := #[true, false, false, false, false, false, false, false, false]) rfl (by kernel_rfl) rfl (V.move rfl) rfl rfl ?_
    refine XQ.pv (i := 1) (l' := #[true, true, false, false, false, false, false, false, false]) rfl (by kernel_rfl) rfl (V.move rfl) rfl rfl ?_
    refine XQ.pv (i := 2) (l' := #[true, true, true, false, false, false, false, false, false]) rfl (by kernel_rfl) rfl (V.indexSl rfl rfl sl_85 (by omega)) rfl rfl ?_
    refine XQ.load (i := 3) (l' := #[true, true, true, true, false, false, false, false, false]) (.row _ _ _ _ _) [] rfl (by kernel_rfl) rfl .here (V.loadF rfl inEnt (encF_ld _ _ _ (by omega)) sc_3) rfl (by kernel_rfl) rfl ?_
    refine XQ.pv (i := 4) (l' := #[true, true, true, true, true, false, false, false, false]) rfl (by kernel_rfl) rfl (V.move rfl) rfl rfl ?_
    refine XQ.pv (i := 5) (l' := #[true, true, true, true, true, true, false, false, false]) rfl (by kernel_rfl) rfl (V.move rfl) rfl rfl ?_
    refine XQ.pv (i := 6) (l' := #[true, true, true, true, true, true, true, false, false]) rfl (by kernel_rfl) rfl (V.indexSl rfl rfl sl_85 (by omega)) rfl rfl ?_
    refine XQ.load (i := 7) (l' := #[true, true, true, true, true, true, true, true, false]) (.row _ _ _ _ _) [] rfl (by kernel_rfl) rfl (.there .here) (V.loadF rfl inEnt (encF_ld _ _ _ (by omega)) sc_3) rfl (by kernel_rfl) rfl ?_
    refine XQ.pv (i := 8) (l' := #[true, true, true, true, true, true, true, true, true]) rfl (by kernel_rfl) rfl (V.cmp rfl rfl rfl) rfl rfl ?_
    refine XQ.done (by kernel_rfl) ?_
    refine XE.next ?_
    refine XC.keep [(0, _), (1, _), (5, _), (25, _)] (Sub.cons rfl (Sub.cons rfl (Sub.cons rfl (Sub.cons rfl (Sub.nil _))))) ?_
    refine XC.condFP rfl (by have := hfg k (by omega) (by omega); omega) ?_
    refine XC.skip ?_
    refine XE.blockNormal ?_
    refine XE.next ?_
    refine XC.keep [(0, _), (1, _), (5, _)] (Sub.cons rfl (Sub.cons rfl (Sub.cons rfl (Sub.nil _)))) ?_
    refine XC.region ?_
    refine XO.v (V.move rfl) rfl ?_
    refine XO.v (V.add rfl rfl _ (IntWalk.i64_in _ (by omega))) rfl ?_
    refine XO.v (V.assign rfl) rfl ?_
    refine XO.nil ?_
    refine XE.again (k + 1) ?_ ?_ (Sub.cons rfl (Sub.cons rfl (Sub.cons rfl (Sub.nil _)))) (fun _ hw => XM.pick (.cons .here (.cons .here .nil)) hw)
    · skip
      (first | omega | (simp; done) | (simp; omega))
    · skip
      (first | omega | (simp; done) | (simp; omega))
  · skip
    refine XC.exit ?_
    refine XE.thenExit ?_
    refine XE.thenExit ?_
    refine XE.blockExit ?_
    refine XE.next ?_
    refine XC.keep [] (Sub.nil _) ?_
    refine XC.seq ?_
    refine XC.region ?_
    refine XO.v (V.assign rfl) rfl ?_
    refine XO.nil ?_
    refine XE.next ?_
    refine XC.keep [(4, _)] (Sub.cons rfl (Sub.nil _)) ?_
    refine XC.ret ?_
    refine XE.ret1 rfl rfl (post_of (.cons .here (.cons .here .nil)) rfl ?_)
    exact ⟨rfl, rfl⟩
theorem same_f (p q : Option Addr) (c c2 n m : Nat) (f g : Int → Int) (hn : n ≤ 64) (hnm : n = m ∧ ∀ j : Int, 0 ≤ j → j < n → f j = g j) : Spec Try.prog 54 [.slice p n c, .slice q m c2] [frow p c 3 1 n (encF f), frow q c2 3 1 m (encF g)] (fun v H1 => v = .bool true ∧ H1 = [frow p c 3 1 n (encF f), frow q c2 3 1 m (encF g)]) := by
  obtain ⟨rfl, hfg⟩ := hnm
  exact same_f0 p q c c2 n f g hn hfg
theorem q_First01 (b o cap : Nat) (p : Option Addr) (s : QS) : Spec Try.prog 57 [ptr b o 0] [.cells b o 65 (encQ (s) p cap), frow p cap 126 2 (s).n (encH (s))] (fun v H1 => ((s.n = 0 ∧ v = .tuple #[.int .i64 0, .int .u64 0, .bool false]) ∨ (0 < s.n ∧ v = .tuple #[.int .i64 (s.I 0), .int .u64 (s.K 0), .bool true])) ∧ H1 = [.cells b o 65 (encQ (s) p cap), frow p cap 126 2 (s).n (encH (s))]) := by
  intro w hw
  refine (q_First b o cap p s w hw).mono ?_
  rintro e w' ⟨v, H', he, ⟨hv, hH⟩, h3, h4⟩
  refine ⟨v, H', he, ⟨?_, hH⟩, h3, h4⟩
  by_cases h : s.n = 0
  · left; rw [hv]; unfold QS.first; rw [if_pos h]; exact ⟨h, rfl⟩
  · right; rw [hv]; unfold QS.first; rw [if_neg h]; exact ⟨by omega, rfl⟩
theorem q_First1 (b o cap : Nat) (p : Option Addr) (s : QS) (h : 0 < s.n) : Spec Try.prog 57 [ptr b o 0] [.cells b o 65 (encQ (s) p cap), frow p cap 126 2 (s).n (encH (s))] (fun v H1 => v = .tuple #[.int .i64 (s.I 0), .int .u64 (s.K 0), .bool true] ∧ H1 = [.cells b o 65 (encQ (s) p cap), frow p cap 126 2 (s).n (encH (s))]) := by
  intro w hw
  refine (q_First01 b o cap p s w hw).mono ?_
  rintro e w' ⟨v, H', he, ⟨⟨h0, _⟩ | ⟨_, hv⟩, hH⟩, h3, h4⟩
  · omega
  · exact ⟨v, H', he, ⟨hv, hH⟩, h3, h4⟩
set_option maxRecDepth 10000 in
set_option maxHeartbeats 1000000 in
theorem lines_any  : Spec Try.prog 48 []
    []
    (fun v H1 => v = .bool true ∧ H1 = []) := by
  have i1 : (QS.void.put 3 9).2.Ok := (QRel.void.put 3 9).2.ok
  have i2 : 0 < ((QS.void.put 3 9).2.put 5 7).2.n := by decide +kernel
  have e2 : ((QS.void.put 3 9).2.put 5 7).2.n = 2 := by decide +kernel
  have e3 : ((QS.void.put 3 9).2.put 5 7).2.I 0 = 5 := by decide +kernel
  have e4 : ((QS.void.put 3 9).2.put 5 7).2.K 0 = 7 := by decide +kernel
  refine Spec.intro Try.func48 rfl rfl ?_
  intro W
  refine XC.seq ?_
  refine XC.region ?_
  refine XO.v (V.assign rfl) rfl ?_
  refine XO.nil ?_
  refine XE.next ?_
  refine XC.keep [] (Sub.nil _) ?_
  refine XC.seq ?_
  refine XC.region ?_
  refine XO.v (V.build (vs := #[]) rfl (v := .agg #[.slice none 0 0, .int .i64 0, .int .i64 0, .int .i64 0, .int .i64 0, .int .i64 0, .int .i64 0, .int .i64 0, .int .i64 0, .int .i64 0, .int .i64 0, .int .i64 0, .int .i64 0, .int .i64 0, .int .i64 0, .int .i64 0, .int .i64 0, .int .i64 0, .int .i64 0, .int .i64 0, .int .i64 0, .int .i64 0, .int .i64 0, .int .i64 0, .int .i64 0, .int .i64 0, .int .i64 0, .int .i64 0, .int .i64 0, .int .i64 0, .int .i64 0, .int .i64 0, .int .i64 0, .int .i64 0, .int .i64 0, .int .i64 0, .int .i64 0, .int .i64 0, .int .i64 0, .int .i64 0, .int .i64 0, .int .i64 0, .int .i64 0, .int .i64 0, .int .i64 0, .int .i64 0, .int .i64 0, .int .i64 0, .int .i64 0, .int .i64 0, .int .i64 0, .int .i64 0, .int .i64 0, .int .i64 0, .int .i64 0, .int .i64 0, .int .i64 0, .int .i64 0, .int .i64 0, .int .i64 0, .int .i64 0, .int .i64 0, .int .i64 0, .int .i64 0, .int .i64 0]) (fun _ => by kernel_rfl)) rfl ?_
  refine XO.box (m := 65) (C := encQ QS.void none 0) rfl rfl boxQ_init rfl ?_
  intro bq
  refine XO.nilRow 126 2 ?_
  refine XO.v (V.assign rfl) rfl ?_
  refine XO.nil ?_
  refine XE.next ?_
  refine XC.keep [(1, _)] (Sub.cons rfl (Sub.nil _)) ?_
  refine XC.seq ?_
  refine XC.region ?_
  refine XO.v (V.move rfl) rfl ?_
  refine XO.call rfl (q_Put _ _ _ _ QS.void QS.Ok.void 3 9) (.cons (.there .here) (.cons .here .nil)) cl_49 rfl ?_
  rintro _ _ ⟨p1, c1, rfl, rfl⟩
  refine XO.v (V.assign rfl) rfl ?_
  refine XO.nil ?_
  refine XE.next ?_
  refine XC.keep [(1, _), (2, _)] (Sub.cons rfl (Sub.cons rfl (Sub.nil _))) ?_
  refine XC.seq ?_
  refine XC.region ?_
  refine XO.v (V.move rfl) rfl ?_
  refine XO.call rfl (q_Put _ _ _ _ (QS.void.put 3 9).2 i1 5 7) (.cons .here (.cons .here .nil)) cl_49 rfl ?_
  rintro _ _ ⟨p2, c2, rfl, rfl⟩
  refine XO.v (V.assign rfl) rfl ?_
  refine XO.nil ?_
  refine XE.next ?_
  refine XC.keep [(1, _), (2, _), (3, _)] (Sub.cons rfl (Sub.cons rfl (Sub.cons rfl (Sub.nil _)))) ?_
  refine XC.seq ?_
  refine XC.region ?_
  refine XO.v (V.move rfl) rfl ?_
  refine XO.call rfl (q_First1 _ _ _ _ ((QS.void.put 3 9).2.put 5 7).2 i2) (.cons .here (.cons .here .nil)) cl_57 rfl ?_
  rintro _ _ ⟨rfl, rfl⟩
  refine XO.v (V.move rfl) rfl ?_
  refine XO.v (V.extract rfl rfl) rfl ?_
  refine XO.v (V.extract rfl rfl) rfl ?_
  refine XO.v (V.extract rfl rfl) rfl ?_
  refine XO.v (V.assign rfl) rfl ?_
  refine XO.v (V.assign rfl) rfl ?_
  refine XO.v (V.assign rfl) rfl ?_
  refine XO.nil ?_
  refine XE.next ?_
  refine XC.keep [(1, _), (2, _), (3, _), (4, _), (5, _), (6, _)] (Sub.cons rfl (Sub.cons rfl (Sub.cons rfl (Sub.cons rfl (Sub.cons rfl (Sub.cons rfl (Sub.nil _))))))) ?_
  refine XC.seq ?_
  refine XC.region ?_
  refine XO.v (V.move rfl) rfl ?_
  refine XO.call rfl (same_any _ _ (QS.put_nn _ _ _)) .nil cl_15 rfl ?_
  rintro _ _ ⟨rfl, rfl⟩
  refine XO.v (V.move rfl) rfl ?_
  refine XO.splitT (d := 21) rfl (by decide +kernel) ?_
  refine XO.guardRun rfl rfl rfl ?_
  refine XO.v (V.move rfl) rfl ?_
  refine XO.guardRun rfl rfl rfl ?_
  refine XO.call rfl (same_any _ _ (QS.put_nn _ _ _)) .nil cl_15 rfl ?_
  rintro _ _ ⟨rfl, rfl⟩
  refine XO.v (V.pick rfl rfl rfl rfl) rfl ?_
  refine XO.v (V.move rfl) rfl ?_
  refine XO.splitT (d := 25) rfl (by decide +kernel) ?_
  refine XO.guardRun rfl rfl rfl ?_
  refine XO.v (V.move rfl) rfl ?_
  refine XO.v (V.pick rfl rfl rfl rfl) rfl ?_
  refine XO.v (V.move rfl) rfl ?_
  refine XO.guardRun rfl rfl rfl ?_
  refine XO.v (V.move rfl) rfl ?_
  refine XO.guardRun rfl rfl rfl ?_
  refine XO.v (V.cmp rfl rfl rfl) rfl ?_
  refine XO.v (V.pick rfl rfl rfl rfl) rfl ?_
  refine XO.v (V.move rfl) rfl ?_
  refine XO.splitT (d := 32) rfl (e3) ?_
  refine XO.guardRun rfl rfl rfl ?_
  refine XO.v (V.move rfl) rfl ?_
  refine XO.guardRun rfl rfl rfl ?_
  refine XO.v (V.cmp rfl rfl rfl) rfl ?_
  refine XO.v (V.pick rfl rfl rfl rfl) rfl ?_
  refine XO.v (V.move rfl) rfl ?_
  refine XO.splitT (d := 36) rfl (e4) ?_
  refine XO.guardRun rfl rfl rfl ?_
  refine XO.v (V.move rfl) rfl ?_
  refine XO.guardRun rfl rfl rfl ?_
  refine XO.call rfl (q_Len _ _ _ _ ((QS.void.put 3 9).2.put 5 7).2) (.cons .here (.cons .here .nil)) cl_58 rfl ?_
  rintro _ _ ⟨rfl, rfl⟩
  refine XO.guardRun rfl rfl rfl ?_
  refine XO.v (V.cmp rfl rfl rfl) rfl ?_
  refine XO.v (V.pick rfl rfl rfl rfl) rfl ?_
  refine XO.v (V.assign rfl) rfl ?_
  refine XO.nil ?_
  refine XE.next ?_
  refine XC.keep [(0, _)] (Sub.cons rfl (Sub.nil _)) ?_
  refine XC.ret ?_
  refine XE.ret1 rfl rfl (post_of .nil rfl ?_)
  exact ⟨congrArg Value.bool (show _ = true from by simp [e2]), rfl⟩
end Go.X
