import Derived.Test.YtpnddggohipdnaaDoorVW3
import Derived.Test.YtpnddggohipdnaaDoorXQ
namespace Go.X
open Go Go.Proofs
set_option maxRecDepth 20000
set_option maxHeartbeats 4000000
theorem ar_48 : arrOf Tryd.prog 48 = some (64, 1) := by kernel_rfl
theorem cl_38 : callable Tryd.prog 38 = true := by kernel_rfl
theorem fo_92_0 : fieldOff Tryd.prog 92 0 = some 0 := by kernel_rfl
theorem sz_3_1 : szOf Tryd.prog 3 = some 1 := by kernel_rfl
theorem u_size (k : Int) (hk : 1 ≤ k ∧ k ≤ 7) : Spec Tryd.prog 38 [.int .i64 k]
 []
 (fun v H1 => v = .int .i64 (p2 (k - 1)) ∧ H1 = []) := by
  refine Spec.go 11 [0, 2, 3, 5] [] Tryd.func38 rfl rfl rfl ?_
  intro W
  refine lp (σ := Int) (fun j => (j - 1).toNat) (fun j => 1 ≤ j ∧ j ≤ k) (fun j => [(0, .int .i64 j), (3, .int .i64 (p2 (k - j)))]) (fun j => XM W (foot []) []) (k) ?_ (S2 rfl (eqi (by rw [show k - k = 0 from by omega]; rfl))) (fun _ hw => XM.pick .nil hw) ?_
  · skip
    omega
  intro j hj
  have hp := p2_lt (k := k - j) (by omega)
  have hn := p2_next (k := k - j) (by omega)
  refine gC ?_
  refine cd rfl ?_ ?_ <;> intro h1
  · skip
    refine sd (by omega) ?_
    refine sd (by omega) ?_
    refine ag (j - 1) ?_ ?_ (S2 rfl (eqi (by rw [show k - (j - 1) = k - j + 1 from by omega, hn]))) (fun _ hw => XM.pick .nil hw)
    · skip
      (first | omega | (simp; done) | (simp; omega))
    · skip
      (first | omega | (simp; done) | (simp; omega))
  · skip
    refine XE.ret1 rfl rfl (post_of .nil rfl ?_)
    obtain rfl : j = 1 := by omega
    exact ⟨rfl, rfl⟩
theorem u_Is (m w : Nat) (b : BB) (a : Int) : Spec Tryd.prog 67 [ptr m w 0, .int .i64 a]
 [.cells m w 128 (encM b)]
 (fun v H1 => v = .int .i64 (b.is a) ∧ H1 = [.cells m w 128 (encM b)]) := by
  refine Spec.go 18 [0, 1, 4, 10, 17] [] Tryd.func67 rfl rfl rfl ?_
  intro W
  refine sp 7 rfl ?_ ?_ <;> intro h1
  · skip
    refine XE.ret1 rfl rfl (post_of .h1 rfl ?_)
    rw [BB.is_bound (by omega)]; exact ⟨rfl, rfl⟩
  · skip
    refine cd rfl ?_ ?_ <;> intro h2
    · skip
      refine XE.ret1 rfl rfl (post_of .h1 rfl ?_)
      rw [BB.is_bound (by omega)]; exact ⟨rfl, rfl⟩
    · skip
      refine sd (by omega) ?_
      refine ld .here (encM.ld_Taken_I _ _ (by omega)) ?_
      refine cdB rfl ?_ ?_ <;> intro h3
      · try simp at h3
        refine XE.ret1 rfl rfl (post_of .h1 rfl ?_)
        rw [BB.is_none (by omega) (by assumption)]; exact ⟨rfl, rfl⟩
      · try simp at h3
        refine XE.ret1 rfl rfl (post_of .h1 rfl ?_)
        rw [BB.is_ok (by omega) (by assumption)]; exact ⟨rfl, rfl⟩
theorem u_New  : Spec Tryd.prog 30 []
 []
 (fun v H1 => ∃ b, v = ptr b 0 0 ∧ H1 = [.cells b 0 128 (encM BB.init)]) := by
  refine Spec.go 9 [0, 1] [] Tryd.func30 rfl rfl rfl ?_
  intro W
  refine XO.v (V.build (vs := #[]) rfl (v := .agg #[.int .i64 0, .int .i64 0, .int .i64 0, .int .i64 0, .int .i64 0, .int .i64 0, .int .i64 0, .int .i64 0, .int .i64 0, .int .i64 0, .int .i64 0, .int .i64 0, .int .i64 0, .int .i64 0, .int .i64 0, .int .i64 0, .int .i64 0, .int .i64 0, .int .i64 0, .int .i64 0, .int .i64 0, .int .i64 0, .int .i64 0, .int .i64 0, .int .i64 0, .int .i64 0, .int .i64 0, .int .i64 0, .int .i64 0, .int .i64 0, .int .i64 0, .int .i64 0, .int .i64 0, .int .i64 0, .int .i64 0, .int .i64 0, .int .i64 0, .int .i64 0, .int .i64 0, .int .i64 0, .int .i64 0, .int .i64 0, .int .i64 0, .int .i64 0, .int .i64 0, .int .i64 0, .int .i64 0, .int .i64 0, .int .i64 0, .int .i64 0, .int .i64 0, .int .i64 0, .int .i64 0, .int .i64 0, .int .i64 0, .int .i64 0, .int .i64 0, .int .i64 0, .int .i64 0, .int .i64 0, .int .i64 0, .int .i64 0, .int .i64 0, .int .i64 0, .bool false, .bool false, .bool false, .bool false, .bool false, .bool false, .bool false, .bool false, .bool false, .bool false, .bool false, .bool false, .bool false, .bool false, .bool false, .bool false, .bool false, .bool false, .bool false, .bool false, .bool false, .bool false, .bool false, .bool false, .bool false, .bool false, .bool false, .bool false, .bool false, .bool false, .bool false, .bool false, .bool false, .bool false, .bool false, .bool false, .bool false, .bool false, .bool false, .bool false, .bool false, .bool false, .bool false, .bool false, .bool false, .bool false, .bool false, .bool false, .bool false, .bool false, .bool false, .bool false, .bool false, .bool false, .bool false, .bool false, .bool false, .bool false, .bool false, .bool false, .bool false, .bool false, .bool false, .bool false]) (fun _ => by kernel_rfl)) rfl (gO ?_)
  refine XO.box (m := 128) (C := encM BB.void) rfl rfl boxM_init rfl ?_
  intro bs
  refine gO ?_
  refine sd (by omega) ?_
  refine st .here (encM.st_Order_I _ _ (by omega) _) rfl ?_
  refine XE.ret1 rfl rfl (post_of .h1 rfl ?_)
  exact ⟨_, rfl, rfl⟩

theorem u_Left (m w : Nat) (b : BB) (hI : b.Inv) : Spec Tryd.prog 14 [ptr m w 0]
 [.cells m w 128 (encM b)]
 (fun v H1 => v = .int .i64 b.left ∧ H1 = [.cells m w 128 (encM b)]) := by
  refine Spec.go 35 [0, 2, 3, 4, 6, 24] [] Tryd.func14 rfl rfl rfl ?_
  intro W
  refine lp (σ := Int × Int) (fun x => (64 - x.1).toNat) (fun x => (0 ≤ x.1 ∧ x.1 ≤ 64) ∧ x.2 = sumN b.room x.1.toNat ∧ 0 ≤ x.2 ∧ x.2 ≤ 64 * x.1) (fun x => [(3, .int .i64 x.2), (4, .int .i64 x.1), (0, ptr m w 0)]) (fun x => XM W (foot [.cells m w 128 (encM b)]) [.cells m w 128 (encM b)]) ((0, 0)) ?_ (S3 rfl rfl rfl) (fun _ hw => XM.pick .h1 hw) ?_
  · skip
    exact ⟨by simp, rfl, by simp, by simp⟩
  intro x hx
  obtain ⟨hx, hs, hs0, hs1⟩ := hx
  have hrg := hI.rng x.1
  have hp := fun h => p2_lt (k := b.ord x.1 - 1) h
  have hnx : sumN b.room (x.1 + 1).toNat = x.2 + b.room x.1 := by rw [show (x.1 + 1).toNat = x.1.toNat + 1 from by omega, sumN, ← hs, show ((x.1.toNat : Nat) : Int) = x.1 from by omega]
  refine gC ?_
  refine cd rfl ?_ ?_ <;> intro h1
  · skip
    refine sd (by omega) ?_
    refine ld .here (encM.ld_Order_I _ _ (by omega)) ?_
    refine sp 16 rfl ?_ ?_ <;> intro h2
    · skip
      have hp := hp (by omega)
      refine sd (by omega) ?_
      refine ld .here (encM.ld_Taken_I _ _ (by omega)) ?_
      refine cdB rfl ?_ ?_ <;> intro h3
      · try simp at h3
        refine sd (by omega) ?_
        refine ld .here (encM.ld_Order_I _ _ (by omega)) ?_
        refine ca (u_size _ (by omega)) .nil ?_
        rintro _ _ ⟨rfl, rfl⟩
        refine gO ?_
        refine sd (by omega) ?_
        refine sd (by omega) ?_
        refine ag ((x.1 + 1, x.2 + p2 (b.ord x.1 - 1))) ?_ ?_ (S3 rfl rfl rfl) (fun _ hw => XM.pick .h1 hw)
        · skip
          (first | omega | (simp; done) | (simp; omega))
        · skip
          have hr : b.room x.1 = p2 (b.ord x.1 - 1) := by unfold BB.room; rw [if_pos ⟨by omega, by assumption⟩]
          rw [hr] at hnx
          exact ⟨by simp; omega, hnx.symm, by simp; omega, by simp; omega⟩
      · try simp at h3
        refine sd (by omega) ?_
        refine ag ((x.1 + 1, x.2)) ?_ ?_ (S3 rfl rfl rfl) (fun _ hw => XM.pick .h1 hw)
        · skip
          (first | omega | (simp; done) | (simp; omega))
        · skip
          have hr : b.room x.1 = 0 := by unfold BB.room; rw [if_neg (fun e => by have e1 := e.1; have e2 := e.2; first | omega | simp_all)]
          rw [hr] at hnx
          exact ⟨by simp; omega, by simp; omega, by simp; omega, by simp; omega⟩
    · skip
      refine sd (by omega) ?_
      refine ag ((x.1 + 1, x.2)) ?_ ?_ (S3 rfl rfl rfl) (fun _ hw => XM.pick .h1 hw)
      · skip
        (first | omega | (simp; done) | (simp; omega))
      · skip
        have hr : b.room x.1 = 0 := by unfold BB.room; rw [if_neg (fun e => by have e1 := e.1; have e2 := e.2; first | omega | simp_all)]
        rw [hr] at hnx
        exact ⟨by simp; omega, by simp; omega, by simp; omega, by simp; omega⟩
  · skip
    refine XE.ret1 rfl rfl (post_of .h1 rfl ?_)
    have h7 : x.1 = 64 := by omega
    rw [h7] at hs
    exact ⟨congrArg (Value.int .i64) hs, rfl⟩
theorem u_Take (m w : Nat) (b : BB) (hI : b.Inv) (q : Int) : Spec Tryd.prog 68 [ptr m w 0, .int .i64 q]
 [.cells m w 128 (encM b)]
 (fun v H1 => v = .tuple #[.int .i64 (b.take q).1, .int .i64 (b.take q).2.1] ∧ H1 = [.cells m w 128 (encM (b.take q).2.2)]) := by
  refine Spec.go 101 [0, 1, 4, 5, 6, 7, 13, 15, 53, 56, 65] [] Tryd.func68 rfl rfl rfl ?_
  intro W
  refine sp 10 rfl ?_ ?_ <;> intro h1
  · skip
    refine XE.ret2 rfl rfl rfl (post_of .h1 rfl ?_)
    rw [BB.take_bound (by omega)]; exact ⟨rfl, rfl⟩
  · skip
    refine cd rfl ?_ ?_ <;> intro h2
    · skip
      refine XE.ret2 rfl rfl rfl (post_of .h1 rfl ?_)
      rw [BB.take_bound (by omega)]; exact ⟨rfl, rfl⟩
    · skip
      refine lp (σ := Int × Int) (fun y => (y.1 + 1).toNat) (fun y => (-1 ≤ y.1 ∧ y.1 ≤ 63) ∧ b.Best q y.1 y.2) (fun y => [(6, .int .i64 y.2), (7, .int .i64 y.1), (0, ptr m w 0), (1, .int .i64 q)]) (fun y => XM W (foot [.cells m w 128 (encM b)]) [.cells m w 128 (encM b)]) ((63, -1)) ?_ (S4 rfl rfl rfl rfl) (fun _ hw => XM.pick .h1 hw) ?_
      · skip
        exact ⟨by simp, BB.Best.start _ _⟩
      intro y hy
      obtain ⟨hy, hB⟩ := hy
      have hrx := hI.rng y.1
      refine gC ?_
      refine cd rfl ?_ ?_ <;> intro h3
      · skip
        refine rq [0, 1, 2, 3, 4, 5, 6, 7, 8, 9, 10, 11, 12, 13, 14, 15, 16, 17, 18, 19, 20, 21, 22, 23, 24, 25, 26, 27, 28, 29, 30, 31, 32, 33, 34, 35] mixed (by kernel_rfl) ?_
        refine sd (by omega) ?_
        refine ld .here (encM.ld_Order_I _ _ (by omega)) ?_
        refine sp 26 rfl ?_ ?_ <;> intro h4
        · skip
          refine sd (by omega) ?_
          refine ld .here (encM.ld_Taken_I _ _ (by omega)) ?_
          refine spB 35 rfl ?_ ?_ <;> intro h5
          · try simp at h5
            refine sp 38 rfl ?_ ?_ <;> intro h6
            · skip
              refine sd (by omega) ?_
              refine ag ((y.1 - 1, y.1)) ?_ ?_ (S4 rfl rfl rfl rfl) (fun _ hw => XM.pick .h1 hw)
              · skip
                (first | omega | (simp; done) | (simp; omega))
              · skip
                exact ⟨by simp; omega, hB.take (by omega) ⟨by omega, by assumption⟩ (.inl (by omega)) (by omega)⟩
            · skip
              have hb2 : y.2 < 64 := by
                rcases hB with ⟨e, _⟩ | ⟨_, e, _⟩ <;> omega
              refine sd (by omega) ?_
              refine ld .here (encM.ld_Order_I _ _ (by omega)) ?_
              refine sd (by omega) ?_
              refine ld .here (encM.ld_Order_I _ _ (by omega)) ?_
              refine cd rfl ?_ ?_ <;> intro h7
              · skip
                refine sd (by omega) ?_
                refine ag ((y.1 - 1, y.1)) ?_ ?_ (S4 rfl rfl rfl rfl) (fun _ hw => XM.pick .h1 hw)
                · skip
                  (first | omega | (simp; done) | (simp; omega))
                · skip
                  exact ⟨by simp; omega, hB.take (by omega) ⟨by omega, by assumption⟩ (.inr (by omega)) (by omega)⟩
              · skip
                refine sd (by omega) ?_
                refine ag ((y.1 - 1, y.2)) ?_ ?_ (S4 rfl rfl rfl rfl) (fun _ hw => XM.pick .h1 hw)
                · skip
                  (first | omega | (simp; done) | (simp; omega))
                · skip
                  exact ⟨by simp; omega, hB.keep (.inr ⟨by omega, by omega⟩)⟩
          · try simp at h5
            refine sd (by omega) ?_
            refine ag ((y.1 - 1, y.2)) ?_ ?_ (S4 rfl rfl rfl rfl) (fun _ hw => XM.pick .h1 hw)
            · skip
              (first | omega | (simp; done) | (simp; omega))
            · skip
              exact ⟨by simp; omega, hB.keep (.inl fun e => by have := e.2; simp_all)⟩
        · skip
          refine sd (by omega) ?_
          refine ag ((y.1 - 1, y.2)) ?_ ?_ (S4 rfl rfl rfl rfl) (fun _ hw => XM.pick .h1 hw)
          · skip
            (first | omega | (simp; done) | (simp; omega))
          · skip
            exact ⟨by simp; omega, hB.keep (.inl fun e => by have := e.1; omega)⟩
      · skip
        have hy1 : y.1 = -1 := by omega
        rw [hy1] at hB
        refine cd rfl ?_ ?_ <;> intro h8
        · skip
          have hpn := hB.none (by omega) (by omega)
          refine XE.ret2 rfl rfl rfl (post_of .h1 rfl ?_)
          rw [BB.take_full (by omega) hpn]; exact ⟨rfl, rfl⟩
        · skip
          obtain ⟨hp1, hp2, hp3, hp4⟩ := hB.some (by omega) hI (by omega)
          have hrb := hI.rng y.2
          refine lp (σ := BB) (fun x => (x.ord y.2 - (q + 1)).toNat) (fun x => x.Inv ∧ q + 1 ≤ x.ord y.2 ∧ x.tk y.2 = false ∧ BB.splits (x.ord y.2 - (q + 1)).toNat x y.2 = BB.splits (b.ord y.2 - (q + 1)).toNat b y.2) (fun x => [(0, ptr m w 0), (1, .int .i64 q), (6, .int .i64 y.2)]) (fun x => XM W (foot [.cells m w 128 (encM b)]) [.cells m w 128 (encM x)]) (b) ?_ (S3 rfl rfl rfl) (fun _ hw => XM.pick .h1 hw) ?_
          · skip
            exact ⟨hI, by omega, hp4, rfl⟩
          intro x hx
          obtain ⟨hx, x1, x2, x3⟩ := hx
          have hrx := hx.rng y.2
          refine gC ?_
          refine sd (by omega) ?_
          refine ld .here (encM.ld_Order_I _ _ (by omega)) ?_
          refine sd (by omega) ?_
          refine cd rfl ?_ ?_ <;> intro h9
          · skip
            obtain ⟨s1, s2, s3, s4⟩ := hx.split (a := y.2) (by omega)
            have hq2 := p2_lt (k := x.ord y.2 - 1 - 1) (by omega)
            rw [show x.ord y.2 - 2 = x.ord y.2 - 1 - 1 from by omega] at s2
            refine rq [0, 1, 2, 3, 4, 5, 6, 7, 8, 9, 10] mixed (by kernel_rfl) ?_
            refine sd (by omega) ?_
            refine ld .here (encM.ld_Order_I _ _ (by omega)) ?_
            refine sd (by omega) ?_
            refine sd (by omega) ?_
            refine st .here (encM.st_Order_I _ _ (by omega) _) rfl ?_
            refine XC.regionQ mixed (f := 20) (l := #[false, false, false, false, false, false, false, false, false, false, false, false, false, false, false, false, false, false, false, false]) rfl rfl XM.drawn' ?_
            refine XQ.pv (i := 0) (l' := #[true, false, false, false, false, false, false, false, false, false, false, false, false, false, false, false, false, false, false, false]) rfl (by kernel_rfl) rfl (V.move rfl) rfl rfl ?_
            refine XQ.pv (i := 1) (l' := #[true, true, false, false, false, false, false, false, false, false, false, false, false, false, false, false, false, false, false, false]) rfl (by kernel_rfl) rfl (V.move rfl) rfl rfl ?_
            refine XQ.pv (i := 2) (l' := #[true, true, true, false, false, false, false, false, false, false, false, false, false, false, false, false, false, false, false, false]) rfl (by kernel_rfl) rfl (V.move rfl) rfl rfl ?_
            refine XQ.pv (i := 3) (l' := #[true, true, true, true, false, false, false, false, false, false, false, false, false, false, false, false, false, false, false, false]) rfl (by kernel_rfl) rfl (V.move rfl) rfl rfl ?_
            refine XQ.pv (i := 4) (l' := #[true, true, true, true, true, false, false, false, false, false, false, false, false, false, false, false, false, false, false, false]) rfl (by kernel_rfl) rfl (V.nilCheckP rfl) rfl rfl ?_
            refine XQ.pv (i := 5) (l' := #[true, true, true, true, true, true, false, false, false, false, false, false, false, false, false, false, false, false, false, false]) rfl (by kernel_rfl) rfl (V.fieldAddr rfl fo_92_0) rfl rfl ?_
            refine XQ.pv (i := 6) (l' := #[true, true, true, true, true, true, true, false, false, false, false, false, false, false, false, false, false, false, false, false]) rfl (by kernel_rfl) rfl (V.indexArr rfl rfl ar_48 (by omega)) rfl rfl ?_
            refine XQ.load (i := 7) (l' := #[true, true, true, true, true, true, true, true, false, false, false, false, false, false, false, false, false, false, false, false]) (.cells _ _ _ _) [8, 19] rfl (by kernel_rfl) rfl .here (V.load rfl inEnt (encM_at _ _ _ (by omega) (fset_eq _ _ _)) sc_3) rfl (by kernel_rfl) rfl ?_
            refine XQ.pv (i := 10) (l' := #[true, true, true, true, true, true, true, true, false, false, true, false, false, false, false, false, false, false, false, false]) rfl (by kernel_rfl) rfl (V.move rfl) rfl rfl ?_
            refine XQ.pv (i := 11) (l' := #[true, true, true, true, true, true, true, true, false, false, true, true, false, false, false, false, false, false, false, false]) rfl (by kernel_rfl) rfl (V.move rfl) rfl rfl ?_
            refine XQ.pv (i := 12) (l' := #[true, true, true, true, true, true, true, true, false, false, true, true, true, false, false, false, false, false, false, false]) rfl (by kernel_rfl) rfl (V.nilCheckP rfl) rfl rfl ?_
            refine XQ.pv (i := 13) (l' := #[true, true, true, true, true, true, true, true, false, false, true, true, true, true, false, false, false, false, false, false]) rfl (by kernel_rfl) rfl (V.fieldAddr rfl fo_92_0) rfl rfl ?_
            refine XQ.pv (i := 14) (l' := #[true, true, true, true, true, true, true, true, false, false, true, true, true, true, true, false, false, false, false, false]) rfl (by kernel_rfl) rfl (V.indexArr rfl rfl ar_48 (by omega)) rfl rfl ?_
            refine XQ.load (i := 15) (l' := #[true, true, true, true, true, true, true, true, false, false, true, true, true, true, true, true, false, false, false, false]) (.cells _ _ _ _) [19] rfl (by kernel_rfl) rfl .here (V.load rfl inEnt (encM_at _ _ _ (by omega) (fset_eq _ _ _)) sc_3) rfl (by kernel_rfl) rfl ?_
            refine XQ.pv (i := 16) (l' := #[true, true, true, true, true, true, true, true, false, false, true, true, true, true, true, true, true, false, false, false]) rfl (by kernel_rfl) rfl (V.nilCheckP rfl) rfl rfl ?_
            refine XQ.pv (i := 17) (l' := #[true, true, true, true, true, true, true, true, false, false, true, true, true, true, true, true, true, true, false, false]) rfl (by kernel_rfl) rfl (V.fieldAddr rfl fo_92_0) rfl rfl ?_
            refine XQ.call (i := 8) (l' := #[true, true, true, true, true, true, true, true, true, false, true, true, true, true, true, true, true, true, false, false]) rfl (by kernel_rfl) rfl rfl (u_size _ (by omega)) .nil cl_38 rfl (by rintro _ _ ⟨rfl, rfl⟩; all_goals (intro _ hw'; exact ⟨fun _ => inXM .here _ hw', fun hs => (hs 8 (by first | (simp; done) | (simp; rfl)) rfl).elim, trivial⟩)) ?_
            rintro _ _ ⟨rfl, rfl⟩
            refine XQ.pv (i := 9) (l' := #[true, true, true, true, true, true, true, true, true, true, true, true, true, true, true, true, true, true, false, false]) rfl (by kernel_rfl) rfl (V.add rfl rfl _ (IntWalk.i64_in _ (by omega))) rfl rfl ?_
            refine XQ.pv (i := 18) (l' := #[true, true, true, true, true, true, true, true, true, true, true, true, true, true, true, true, true, true, true, false]) rfl (by kernel_rfl) rfl (V.indexArr rfl rfl ar_48 (by omega)) rfl rfl ?_
            refine XQ.store (i := 19) (l' := #[true, true, true, true, true, true, true, true, true, true, true, true, true, true, true, true, true, true, true, true]) rfl (by kernel_rfl) rfl rfl rfl .here (encM.st_Order_I _ _ (by omega) _) rfl sz_3_1 (fun _ hw' => ⟨fun hs => (hs 19 (by first | (simp; done) | (simp; rfl)) rfl).elim, fun hs => (hs 8 (by first | (simp; done) | (simp; rfl)) rfl).elim, trivial⟩) ?_
            refine XQ.done (by kernel_rfl) ?_
            refine gE ?_
            refine ag (x.split y.2) ?_ ?_ (S3 rfl rfl rfl) (fun _ hw2 => by
                rw [show x.split y.2 = ({ x with ord := fset (fset x.ord y.2 (x.ord y.2 - 1)) (y.2 + p2 (x.ord y.2 - 1 - 1)) (x.ord y.2 - 1) } : BB) from by unfold BB.split; rw [show x.ord y.2 - 2 = x.ord y.2 - 1 - 1 from by omega]]
                exact XM.pick .h1 hw2)
            · skip
              (show ((x.split y.2).ord y.2 - (q + 1)).toNat < (x.ord y.2 - (q + 1)).toNat; rw [s4]; omega)
            · skip
              refine ⟨s1, by rw [s4]; omega, x2, ?_⟩
              rw [← x3, s4, show (x.ord y.2 - (q + 1)).toNat = (x.ord y.2 - 1 - (q + 1)).toNat + 1 from by omega]
              rfl
          · skip
            have hn : (x.ord y.2 - (q + 1)).toNat = 0 := by omega
            rw [hn] at x3
            have x5 : x = BB.splits (b.ord y.2 - (q + 1)).toNat b y.2 := x3
            have ht : b.take q = (y.2, 0, x.hide y.2) := by
              rw [BB.take_ok (by omega) hp1, show ((y.2.toNat : Nat) : Int) = y.2 from by omega, BB.splits_hide, x5]
              rw [show (((b.ord y.2 - 1).toNat : Nat) : Int) - q = b.ord y.2 - (q + 1) from by omega]
            refine sd (by omega) ?_
            refine st .here (encM.st_Taken_I _ _ (by omega) _) rfl ?_
            refine XE.ret2 rfl rfl rfl (post_of .h1 rfl ?_)
            rw [ht]; exact ⟨rfl, rfl⟩
theorem u_Give (m w : Nat) (b : BB) (hI : b.Inv) (a : Int) : Spec Tryd.prog 62 [ptr m w 0, .int .i64 a]
 [.cells m w 128 (encM b)]
 (fun v H1 => v = .int .i64 (b.give a).1 ∧ H1 = [.cells m w 128 (encM (b.give a).2)]) := by
  refine Spec.go 87 [0, 1, 4, 5, 6, 7, 8, 13, 26, 41, 65] [(8, 1)] Tryd.func62 rfl rfl rfl ?_
  intro W
  refine ca (u_Is _ _ _ _) .h1 ?_
  rintro _ _ ⟨rfl, rfl⟩
  refine gO ?_
  refine cd rfl ?_ ?_ <;> intro h1
  · skip
    refine XE.ret1 rfl rfl (post_of .h1 rfl ?_)
    rw [BB.give_err (by omega)]; exact ⟨rfl, rfl⟩
  · skip
    have hnn := b.is_nn a
    have his : b.is a = 0 := by omega
    obtain ⟨ha0, ha1, ht⟩ := BB.is_zero his
    have hpos := hI.tk a ht
    have hrg := hI.rng a
    refine sd (by omega) ?_
    refine st .here (encM.st_Taken_I _ _ (by omega) _) rfl ?_
    refine lp (σ := BB × Int) (fun x => (7 - x.1.ord x.2).toNat) (fun x => x.1.Inv ∧ 0 < x.1.ord x.2 ∧ x.1.tk x.2 = false ∧ BB.joins (7 - x.1.ord x.2).toNat x.1 x.2 = BB.joins (7 - b.ord a).toNat (b.bare a) a) (fun x => [(1, .int .i64 x.2), (0, ptr m w 0)]) (fun x => XM W (foot [.cells m w 128 (encM b)]) [.cells m w 128 (encM x.1)]) ((b.bare a, a)) ?_ (S2 rfl rfl) (fun w2 hw2 => by show XM _ _ (.cells m w 128 (encM (b.bare a)) :: _) w2; exact XM.pick .h1 hw2) ?_
    · skip
      exact ⟨hI.bare a, hpos, fset_eq _ _ _, rfl⟩
    intro x hx
    obtain ⟨hx, x1, x2, x3⟩ := hx
    have hxr := hx.rng x.2
    have hxi := hx.in_rng x1
    refine gC ?_
    refine sd (by omega) ?_
    refine ld .here (encM.ld_Order_I _ _ (by omega)) ?_
    refine cd rfl ?_ ?_ <;> intro h2
    · skip
      obtain ⟨r1, r2, r3⟩ := hx.buddy_rng x1 (by omega)
      have hp2 := p2_lt (k := x.1.ord x.2 - 1) (by omega)
      refine sd (by omega) ?_
      refine ld .here (encM.ld_Order_I _ _ (by omega)) ?_
      refine ca (u_size _ (by omega)) .nil ?_
      rintro _ _ ⟨rfl, rfl⟩
      refine gO ?_
      refine sd (by omega) ?_
      refine ct [(0, ptr m w 0), (1, .int .i64 x.2), (7, .int .i64 (x.1.buddy x.2))] (XM W (foot [.cells m w 128 (encM b)]) [.cells m w 128 (encM x.1)]) ?_ ?_
      · skip
        refine XO.v (V.quo rfl rfl (by first | decide | omega) _ (quo_nn (by omega) (by omega) (by omega))) rfl (gO ?_)
        refine XO.v (V.rem rfl rfl (by first | decide | omega) _ (Int.tmod_eq_emod_of_nonneg (Int.ediv_nonneg (by omega) (by omega)))) rfl (gO ?_)
        refine cd rfl ?_ ?_ <;> intro h3
        · skip
          refine sd (by omega) ?_
          refine mt (S3 rfl rfl (eqi (by unfold BB.buddy halfB; rw [if_pos (by assumption)]))) (fun _ hw => XM.pick .h1 hw)
        · skip
          refine mt (S3 rfl rfl (eqi (by unfold BB.buddy halfB; rw [if_neg (by assumption)]))) (fun _ hw => XM.pick .h1 hw)
      refine gC ?_
      refine rq [0, 1, 2, 3, 4, 5, 6, 7, 8, 9, 10, 11, 12, 13, 14, 15, 16, 17, 18, 19, 20] mixed (by kernel_rfl) ?_
      refine sd (by omega) ?_
      refine ld .here (encM.ld_Taken_I _ _ (by omega)) ?_
      refine spB 51 rfl ?_ ?_ <;> intro h4
      · try simp at h4
        refine XE.ret1 rfl rfl (post_of .h1 rfl ?_)
        have hc : ¬ x.1.canJoin x.2 := fun q => by have := q.2.2; simp_all
        have hx9 : BB.joins (7 - b.ord a).toNat (b.bare a) a = x.1 := by rw [← x3]; exact BB.joins_stop _ hc
        rw [BB.give_ok his, hx9]; exact ⟨rfl, rfl⟩
      · try simp at h4
        refine sd (by omega) ?_
        refine ld .here (encM.ld_Order_I _ _ (by omega)) ?_
        refine sd (by omega) ?_
        refine ld .here (encM.ld_Order_I _ _ (by omega)) ?_
        refine cd rfl ?_ ?_ <;> intro h5
        · skip
          refine XE.ret1 rfl rfl (post_of .h1 rfl ?_)
          have hc : ¬ x.1.canJoin x.2 := fun q => by have := q.2.1; omega
          have hx9 : BB.joins (7 - b.ord a).toNat (b.bare a) a = x.1 := by rw [← x3]; exact BB.joins_stop _ hc
          rw [BB.give_ok his, hx9]; exact ⟨rfl, rfl⟩
        · skip
          have hc : x.1.canJoin x.2 := ⟨by omega, by omega, by assumption⟩
          obtain ⟨j1, _, _, _, j5, j6⟩ := hx.join1 x1 x2 hc
          have hlow : fset x.1.ord (max x.2 (x.1.buddy x.2)) 0 (min x.2 (x.1.buddy x.2)) = x.1.ord x.2 := by
            rw [fset_ne _ _ (by omega)]
            by_cases c : x.2 ≤ (x.1.buddy x.2)
            · rw [show (min x.2 (x.1.buddy x.2)) = x.2 from by omega]
            · rw [show (min x.2 (x.1.buddy x.2)) = (x.1.buddy x.2) from by omega]; exact hc.2.1
          refine sd (by omega) ?_
          refine st .here (encM.st_Order_I _ _ (by omega) _) rfl ?_
          refine rq [0, 1, 2, 3, 4, 5, 6, 7, 8, 9, 10] mixed (by kernel_rfl) ?_
          refine sd (by omega) ?_
          refine ld .here (encM_at _ _ _ (by omega) hlow) ?_
          refine sd (by omega) ?_
          refine sd (by omega) ?_
          refine st .here (encM.st_Order_I _ _ (by omega) _) rfl ?_
          refine ag ((x.1.join1 x.2, (min x.2 (x.1.buddy x.2)))) ?_ ?_ (S2 rfl rfl) (fun w2 hw2 => by show XM _ _ (.cells m w 128 (encM (x.1.join1 x.2)) :: _) w2; exact XM.pick .h1 hw2)
          · skip
            (show (7 - (x.1.join1 x.2).ord (min x.2 (x.1.buddy x.2))).toNat < (7 - x.1.ord x.2).toNat; rw [j5]; omega)
          · skip
            refine ⟨j1, by show 0 < (x.1.join1 x.2).ord (min x.2 (x.1.buddy x.2)); rw [j5]; omega, j6, ?_⟩
            show BB.joins (7 - (x.1.join1 x.2).ord (min x.2 (x.1.buddy x.2))).toNat (x.1.join1 x.2) (min x.2 (x.1.buddy x.2)) = _
            rw [← x3, j5, show (7 - x.1.ord x.2).toNat = (7 - (x.1.ord x.2 + 1)).toNat + 1 from by omega, BB.joins, if_pos hc]
    · skip
      refine XE.ret1 rfl rfl (post_of .h1 rfl ?_)
      have hc : ¬ x.1.canJoin x.2 := fun q => by have := q.1; omega
      have hx9 : BB.joins (7 - b.ord a).toNat (b.bare a) a = x.1 := by rw [← x3]; exact BB.joins_stop _ hc
      rw [BB.give_ok his, hx9]; exact ⟨rfl, rfl⟩
end Go.X
