import Derived.Test.YtojlnbjpiccliaaQAM
import Derived.Test.YtojlnbjpiccliaaQRA
import Derived.Test.YtojlnbjpiccliaaSFP
namespace Go.X
open Go Go.Proofs
theorem cl_92 : callable Try.prog 92 = true := by kernel_rfl
theorem cl_93 : callable Try.prog 93 = true := by kernel_rfl
set_option maxRecDepth 10000 in
set_option maxHeartbeats 400000 in
theorem q_cmp (k i k2 i2 : Int) : Spec Try.prog 94 [.agg #[.int .u64 (k), .int .i64 (i)], .agg #[.int .u64 (k2), .int .i64 (i2)]]
    []
    (fun v H1 => v = .int .i64 (cmp2 (k, i) (k2, i2)) ∧ H1 = []) := by
  refine Spec.intro Try.func94 rfl rfl ?_
  intro W
  refine XC.seq ?_
  refine XC.region ?_
  refine XO.box (m := 2) (C := encIt k i) rfl rfl (encIt_box _ _) rfl ?_
  intro ba
  refine XO.box (m := 2) (C := encIt k2 i2) rfl rfl (encIt_box _ _) rfl ?_
  intro bc
  refine XO.v (V.assign rfl) rfl ?_
  refine XO.nil ?_
  refine XE.next ?_
  refine XC.keep [(2, _), (3, _)] (Sub.cons rfl (Sub.cons rfl (Sub.nil _))) ?_
  refine XC.seq ?_
  refine XC.seq ?_
  refine XC.region ?_
  refine XO.v (V.loadAgg rfl (inXM (.there .here)) (encIt_item _ _) ag_126 sz_126_2) rfl ?_
  refine XO.v (V.loadAgg rfl (inXM .here) (encIt_item _ _) ag_126 sz_126_2) rfl ?_
  refine XO.call rfl (q_less _ _ _ _) .nil cl_95 rfl ?_
  rintro _ _ ⟨rfl, rfl⟩
  refine XO.nil ?_
  refine XE.next ?_
  refine XC.keep [(7, _)] (Sub.cons rfl (Sub.nil _)) ?_
  refine XC.condP rfl (fun h1 => ?_) (fun h1 => ?_)
  · skip
    refine XC.seq ?_
    refine XC.region ?_
    refine XO.v (V.assign rfl) rfl ?_
    refine XO.nil ?_
    refine XE.next ?_
    refine XC.keep [(4, _)] (Sub.cons rfl (Sub.nil _)) ?_
    refine XC.ret ?_
    refine XE.thenRet ?_
    refine XE.ret1 rfl rfl (post_of .nil rfl ?_)
    unfold cmp2; rw [if_pos (by assumption)]; exact ⟨rfl, rfl⟩
  · skip
    refine XC.skip ?_
    refine XE.next ?_
    refine XC.keep [] (Sub.nil _) ?_
    refine XC.seq ?_
    refine XC.region ?_
    refine XO.v (V.assign rfl) rfl ?_
    refine XO.nil ?_
    refine XE.next ?_
    refine XC.keep [(4, _)] (Sub.cons rfl (Sub.nil _)) ?_
    refine XC.ret ?_
    refine XE.ret1 rfl rfl (post_of .nil rfl ?_)
    unfold cmp2; rw [if_neg (by assumption)]; exact ⟨rfl, rfl⟩
theorem q_sort (cap : Nat) (p : Option Addr) (s : QS) (hO : s.Ok) : Spec Try.prog 93 [.slice p s.n cap, .func (.func 94) #[] #[]] [frow p cap 126 2 s.n (encH s)] (fun v H1 => v = .tuple #[] ∧ ∃ t : QS, s.Sorted t ∧ H1 = [frow p cap 126 2 s.n (encH t)]) := by
  have h := sort_row trySort 2 Try.isAgg126 Try.sizeOf126 enc2 enc2_len enc2_one cmp2 cmp2_swo 94 (Go.Proofs.enters_of Try.func94 (by kernel_rfl) rfl) (fun x y => q_cmp x.1 x.2 y.1 y.2) p s.n cap 126 (parr s) (parr_size s) (by have := hO.n64; omega)
  rw [← encH_arr] at h
  intro w hw
  refine (h w hw).mono ?_
  rintro e w' ⟨v, H', he, ⟨hv, d', hp, hs, hH⟩, h3, h4⟩
  have hst := sorted_of hO hp hs
  refine ⟨v, H', he, ⟨hv, ofArr d', hst, ?_⟩, h3, h4⟩
  rw [hH, flat_of]
  have hsz : d'.size = s.n := hst.n
  rw [hsz]
set_option maxRecDepth 10000 in
set_option maxHeartbeats 400000 in
theorem q_Clone (cap : Nat) (p : Option Addr) (s : QS) (hn : s.n ≤ 64) : Spec Try.prog 92 [.slice p s.n cap]
    [frow p cap 126 2 s.n (encH s)]
    (fun v H1 => ∃ p1 c1, v = .slice p1 s.n c1 ∧ H1 = [frow p cap 126 2 s.n (encH s), frow p1 c1 126 2 s.n (encH s)]) := by
  refine Spec.intro Try.func92 rfl rfl ?_
  intro W
  refine XC.seq ?_
  refine XC.region ?_
  refine XO.v (V.assign rfl) rfl ?_
  refine XO.nil ?_
  refine XE.next ?_
  refine XC.keep [(0, _)] (Sub.cons rfl (Sub.nil _)) ?_
  refine XC.seq ?_
  refine XC.seq ?_
  refine XC.region ?_
  refine XO.v (V.move rfl) rfl ?_
  refine XO.v (V.sliceNil rfl Try.underlying69 rfl) rfl ?_
  refine XO.nil ?_
  refine XE.next ?_
  refine XC.keep [(0, _), (4, _)] (Sub.cons rfl (Sub.cons rfl (Sub.nil _))) ?_
  refine XC.condP rfl (fun h1 => ?_) (fun h1 => ?_)
  · skip
    subst h1
    refine XC.rowNil .here ?_
    intro hn0
    refine XC.seq ?_
    refine XC.region ?_
    refine XO.v (V.assign rfl) rfl ?_
    refine XO.nilRow 126 2 ?_
    refine XO.nil ?_
    refine XE.next ?_
    refine XC.keep [(2, _)] (Sub.cons rfl (Sub.nil _)) ?_
    refine XC.ret ?_
    refine XE.thenRet ?_
    refine XE.ret1 rfl rfl (post_of (.cons (.there .here) (.cons .here .nil)) rfl ?_)
    exact ⟨none, 0, by rw [hn0], by rw [hn0]; rfl⟩
  · skip
    refine XC.rowAt .here h1 ?_
    intro g hg
    subst hg
    refine XC.skip ?_
    refine XE.next ?_
    refine XC.keep [(0, _)] (Sub.cons rfl (Sub.nil _)) ?_
    refine XC.seq ?_
    refine XC.region ?_
    refine XO.buildRow (e := 126) (vs := #[]) (A := #[]) (sz := 2) rfl (fun _ => by kernel_rfl) rfl (by omega) rfl ?_
    intro b1
    refine XO.v (V.move rfl) rfl ?_
    refine XO.appendRow (e := 126) rfl rfl Try.underlying69 rt_126_2 .here (.there .here) newsH_one (by omega) rfl ?_
    intro p1 c1
    refine XO.v (V.assign rfl) rfl ?_
    refine XO.nil ?_
    refine XE.next ?_
    refine XC.keep [(2, _)] (Sub.cons rfl (Sub.nil _)) ?_
    refine XC.ret ?_
    refine XE.ret1 rfl rfl (post_of (.cons (.there .here) (.cons .here .nil)) rfl ?_)
    exact ⟨p1, c1, by rw [Nat.zero_add], by simp only [Nat.zero_add, List.nil_append]⟩
set_option maxRecDepth 10000 in
set_option maxHeartbeats 1000000 in
theorem q_All (b o cap : Nat) (p : Option Addr) (s : QS) (hO : s.Ok) : Spec Try.prog 55 [ptr b o 0]
    [.cells b o 65 (encQ (s) p cap), frow p cap 126 2 (s).n (encH (s))]
    (fun v H1 => ∃ p2 c2 f, Srt s.kOf (fun id => 0 ≤ id ∧ id < 64 ∧ ¬ s.at_ id = 0) f s.n ∧ v = .slice p2 s.n c2 ∧ H1 = [.cells b o 65 (encQ (s) p cap), frow p cap 126 2 (s).n (encH (s)), frow p2 c2 3 1 s.n (encF f)]) := by
  have hn64 := hO.n64
  refine Spec.intro Try.func55 rfl rfl ?_
  intro W
  refine XC.seq ?_
  refine XC.region ?_
  refine XO.v (V.assign rfl) rfl ?_
  refine XO.nil ?_
  refine XE.next ?_
  refine XC.keep [(0, _)] (Sub.cons rfl (Sub.nil _)) ?_
  refine XC.seq ?_
  refine XC.region ?_
  refine XO.v (V.move rfl) rfl ?_
  refine XO.v (V.nilCheckP rfl) rfl ?_
  refine XO.v (V.fieldAddr rfl fo_72_0) rfl ?_
  refine XO.v (V.load rfl (inXM .here) (encQ_h _ _ _) sc_69) rfl ?_
  refine XO.call rfl (q_Clone _ _ s (by omega)) (.cons (.there .here) .nil) cl_92 rfl ?_
  rintro _ _ ⟨p1, c1, rfl, rfl⟩
  refine XO.v (V.assign rfl) rfl ?_
  refine XO.nil ?_
  refine XE.next ?_
  refine XC.keep [(3, _)] (Sub.cons rfl (Sub.nil _)) ?_
  refine XC.seq ?_
  refine XC.region ?_
  refine XO.v (V.move rfl) rfl ?_
  refine XO.call rfl (q_sort _ _ s hO) (.cons (.there .here) .nil) cl_93 rfl ?_
  rintro _ _ ⟨rfl, t, hst, rfl⟩
  refine XO.nil ?_
  refine XE.next ?_
  refine XC.keep [(3, _)] (Sub.cons rfl (Sub.nil _)) ?_
  refine XC.seq ?_
  refine XC.region ?_
  refine XO.v (V.assign rfl) rfl ?_
  refine XO.nilRow 3 1 ?_
  refine XO.nil ?_
  refine XE.next ?_
  refine XC.keep [(3, _), (4, _)] (Sub.cons rfl (Sub.cons rfl (Sub.nil _))) ?_
  refine XC.seq ?_
  refine XC.seq ?_
  refine XC.region ?_
  refine XO.v (V.move rfl) rfl ?_
  refine XO.v (V.lenSl rfl Try.underlying69) rfl ?_
  refine XO.v (V.move rfl) rfl ?_
  refine XO.nil ?_
  refine XE.next ?_
  refine XC.keep [(4, _), (14, _), (15, _), (16, _)] (Sub.cons rfl (Sub.cons rfl (Sub.cons rfl (Sub.cons rfl (Sub.nil _))))) ?_
  refine XC.block ?_
  refine XC.loop (σ := Nat × Option Addr × Nat) (fun x => s.n - x.1) (fun x => x.1 ≤ s.n) (fun x => [(16, .int .i64 (x.1 : Int)), (4, .slice x.2.1 x.1 x.2.2), (14, .slice p1 s.n c1), (15, .int .i64 (s.n : Int))]) (fun x => XM W (foot [.cells b o 65 (encQ (s) p cap), frow p cap 126 2 (s).n (encH (s))]) [.cells b o 65 (encQ (s) p cap), frow p cap 126 2 (s).n (encH (s)), frow p1 c1 126 2 s.n (encH t), frow x.2.1 x.2.2 3 1 x.1 (encF t.I)]) ((0, none, 0)) ?_ (Sub.cons rfl (Sub.cons rfl (Sub.cons rfl (Sub.cons rfl (Sub.nil _))))) (fun _ hw => XM.pick (.cons (.there (.there (.there .here))) (.cons (.there (.there .here)) (.cons (.there .here) (.cons .here .nil)))) hw) ?_
  · skip
    exact Nat.zero_le _
  intro x hx
  refine XC.seq ?_
  refine XC.region ?_
  refine XO.v (V.cmp rfl rfl rfl) rfl ?_
  refine XO.nil ?_
  refine XE.next ?_
  refine XC.keep [(4, _), (14, _), (15, _), (16, _), (17, _)] (Sub.cons rfl (Sub.cons rfl (Sub.cons rfl (Sub.cons rfl (Sub.cons rfl (Sub.nil _)))))) ?_
  refine XC.seq ?_
  refine XC.condP rfl (fun h1 => ?_) (fun h1 => ?_)
  · skip
    refine XC.skip ?_
    refine XE.next ?_
    refine XC.keep [(4, _), (14, _), (15, _), (16, _)] (Sub.cons rfl (Sub.cons rfl (Sub.cons rfl (Sub.cons rfl (Sub.nil _))))) ?_
    refine XC.seq ?_
    refine XC.block ?_
    refine XC.seq ?_
    refine XC.openRow (.there (.there .here)) (by omega) ?_
    intro g2 h2
    subst h2
    refine XC.region ?_
    refine XO.v (V.indexSl rfl rfl sl_69 (by omega)) rfl ?_
    refine XO.v (V.loadFA rfl (inXM (.there (.there .here))) (encH_item _ _ _ (by omega)) ag_126 sz_126_2) rfl ?_
    refine XO.allocZ (z := .agg #[.int .u64 0, .int .i64 0]) (m := 2) (C := cellsOf #[.int .u64 0, .int .i64 0]) (by kernel_rfl) rfl (fun _ _ => rfl) rfl ?_
    intro bx
    refine XO.storeAgg rfl rfl .here (encIt_set _ _) ⟨rfl, rfl⟩ sz_126_2 ?_
    refine XO.nil ?_
    refine XE.next ?_
    refine XC.keep [(4, _), (6, _), (14, _), (15, _), (16, _)] (Sub.cons rfl (Sub.cons rfl (Sub.cons rfl (Sub.cons rfl (Sub.cons rfl (Sub.nil _)))))) ?_
    refine XC.region ?_
    refine XO.v (V.move rfl) rfl ?_
    refine XO.v (V.fieldAddr rfl fo_126_1) rfl ?_
    refine XO.v (V.load rfl (inXM .here) (encIt_id _ _) sc_3) rfl ?_
    refine XO.buildSlice (A := #[.int .i64 _]) (vs := #[(0, .int .i64 _)]) rfl (bs1_85 _) rfl rfl ?_
    intro h3
    refine XO.appendF (e := 3) (C2 := encF t.I) rfl rfl Try.underlying85 rt_3_1 (.there (.there (.there (.there (.there .here))))) .here rfl rfl (by omega) (by omega) (encF_next t.I x.1 _ rfl) rfl ?_
    intro p3 c3
    refine XO.v (V.assign rfl) rfl ?_
    refine XO.nil ?_
    refine XE.blockNormal ?_
    refine XE.next ?_
    refine XC.keep [(4, _), (14, _), (15, _), (16, _)] (Sub.cons rfl (Sub.cons rfl (Sub.cons rfl (Sub.cons rfl (Sub.nil _))))) ?_
    refine XC.region ?_
    refine XO.v (V.add rfl rfl _ (IntWalk.i64_in _ (by omega))) rfl ?_
    refine XO.v (V.move rfl) rfl ?_
    refine XO.nil ?_
    refine XE.again ((x.1 + 1, p3, c3)) ?_ ?_ (Sub.cons rfl (Sub.cons rfl (Sub.cons rfl (Sub.cons rfl (Sub.nil _))))) (fun _ hw => XM.pick (.cons (.there (.there (.there .here))) (.cons (.there (.there (.there .here))) (.cons (.there (.there (.there .here))) (.cons .here .nil)))) hw)
    · skip
      (show s.n - (x.1 + 1) < s.n - x.1; omega)
    · skip
      (show x.1 + 1 ≤ s.n; omega)
  · skip
    refine XC.exit ?_
    refine XE.thenExit ?_
    refine XE.thenExit ?_
    refine XE.blockExit ?_
    refine XE.next ?_
    refine XC.keep [(4, _)] (Sub.cons rfl (Sub.nil _)) ?_
    refine XC.seq ?_
    refine XC.region ?_
    refine XO.v (V.move rfl) rfl ?_
    refine XO.v (V.assign rfl) rfl ?_
    refine XO.nil ?_
    refine XE.next ?_
    refine XC.keep [(2, _)] (Sub.cons rfl (Sub.nil _)) ?_
    refine XC.ret ?_
    refine XE.ret1 rfl rfl (post_of (.cons .here (.cons .here (.cons (.there .here) .nil))) rfl ?_)
    have hxn : x.1 = s.n := by omega
    rw [hxn]
    exact ⟨_, _, _, hst.srt hO, rfl, rfl⟩
end Go.X
