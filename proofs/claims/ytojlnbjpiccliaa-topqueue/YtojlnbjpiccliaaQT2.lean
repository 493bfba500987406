import Derived.Test.YtojlnbjpiccliaaQT
import Derived.Test.YtojlnbjpiccliaaQW
namespace Go.X
open Go Go.Proofs
theorem ar_74 : arrOf Try.prog 74 = some (64, 1) := by kernel_rfl
theorem ar_75 : arrOf Try.prog 75 = some (64, 1) := by kernel_rfl
theorem cl_49 : callable Try.prog 49 = true := by kernel_rfl
theorem cl_51 : callable Try.prog 51 = true := by kernel_rfl
theorem cl_57 : callable Try.prog 57 = true := by kernel_rfl
theorem cl_58 : callable Try.prog 58 = true := by kernel_rfl
theorem sc_4 : scal Try.prog 4 = true := by kernel_rfl
theorem sl_85 : sliceOf Try.prog 85 = some (3, 1) := by kernel_rfl
theorem sl_90 : sliceOf Try.prog 90 = some (29, 1) := by kernel_rfl
theorem sz_29_1 : szOf Try.prog 29 = some 1 := by kernel_rfl
theorem sz_4_1 : szOf Try.prog 4 = some 1 := by kernel_rfl
theorem q_First1 (b o cap : Nat) (p : Option Addr) (s : QS) (h : 0 < s.n) : Spec Try.prog 57 [ptr b o 0] [.cells b o 65 (encQ (s) p cap), frow p cap 126 2 (s).n (encH (s))] (fun v H1 => v = .tuple #[.int .i64 (s.I 0), .int .u64 (s.K 0), .bool true] ∧ H1 = [.cells b o 65 (encQ (s) p cap), frow p cap 126 2 (s).n (encH (s))]) := by
  have := q_First b o cap p s
  rw [QS.first_some h] at this; exact this
theorem q_First0 (b o cap : Nat) (p : Option Addr) (s : QS) (h : s.n = 0) : Spec Try.prog 57 [ptr b o 0] [.cells b o 65 (encQ (s) p cap), frow p cap 126 2 (s).n (encH (s))] (fun v H1 => v = .tuple #[.int .i64 0, .int .u64 0, .bool false] ∧ H1 = [.cells b o 65 (encQ (s) p cap), frow p cap 126 2 (s).n (encH (s))]) := by
  have := q_First b o cap p s
  rw [QS.first_none h] at this; exact this
set_option maxRecDepth 10000 in
set_option maxHeartbeats 2000000 in
theorem top_some (b1 o1 n1 c1 b2 o2 n2 c2 : Nat) (A : Int → Int) (B : Int → Int) (hB : ∀ z : Int, 0 ≤ z → z < n2 → 0 ≤ B z) : Spec Try.prog 8 [.slice (some ⟨b1, o1, none⟩) n1 c1, .slice (some ⟨b2, o2, none⟩) n2 c2]
    [.ro b1 o1 n1 (encI A n1), .ro b2 o2 n2 (encW B n2)]
    (fun v H1 => v = .bool true ∧ H1 = []) := by
  refine Spec.intro Try.func8 rfl rfl ?_
  intro W
  refine XC.seq ?_
  refine XC.region ?_
  refine XO.v (V.assign rfl) rfl ?_
  refine XO.nil ?_
  refine XE.next ?_
  refine XC.keep [(0, _), (1, _)] (Sub.cons rfl (Sub.cons rfl (Sub.nil _))) ?_
  refine XC.seq ?_
  refine XC.region ?_
  refine XO.v (V.build (vs := #[]) rfl (v := .agg #[.slice none 0 0, .int .i64 0, .int .i64 0, .int .i64 0, .int .i64 0, .int .i64 0, .int .i64 0, .int .i64 0, .int .i64 0, .int .i64 0, .int .i64 0, .int .i64 0, .int .i64 0, .int .i64 0, .int .i64 0, .int .i64 0, .int .i64 0, .int .i64 0, .int .i64 0, .int .i64 0, .int .i64 0, .int .i64 0, .int .i64 0, .int .i64 0, .int .i64 0, .int .i64 0, .int .i64 0, .int .i64 0, .int .i64 0, .int .i64 0, .int .i64 0, .int .i64 0, .int .i64 0, .int .i64 0, .int .i64 0, .int .i64 0, .int .i64 0, .int .i64 0, .int .i64 0, .int .i64 0, .int .i64 0, .int .i64 0, .int .i64 0, .int .i64 0, .int .i64 0, .int .i64 0, .int .i64 0, .int .i64 0, .int .i64 0, .int .i64 0, .int .i64 0, .int .i64 0, .int .i64 0, .int .i64 0, .int .i64 0, .int .i64 0, .int .i64 0, .int .i64 0, .int .i64 0, .int .i64 0, .int .i64 0, .int .i64 0, .int .i64 0, .int .i64 0, .int .i64 0]) (fun _ => by kernel_rfl)) rfl ?_
  refine XO.box (m := 65) (C := encQ QS.void none 0) rfl rfl boxQ_init rfl ?_
  intro b5
  refine XO.nilRow 126 2 ?_
  refine XO.v (V.assign rfl) rfl ?_
  refine XO.nil ?_
  refine XE.next ?_
  refine XC.keep [(0, _), (1, _), (5, _)] (Sub.cons rfl (Sub.cons rfl (Sub.cons rfl (Sub.nil _)))) ?_
  refine XC.seq ?_
  refine XC.seq ?_
  refine XC.region ?_
  refine XO.v (V.move rfl) rfl ?_
  refine XO.call rfl (q_Put _ _ _ _ QS.void QS.Ok.void 1 5) (.cons (.there .here) (.cons .here .nil)) cl_49 rfl ?_
  rintro _ _ ⟨p9, c9, rfl, rfl⟩
  refine XO.v (V.errNil rfl Try.underlying33 rfl) rfl ?_
  refine XO.v (V.move rfl) rfl ?_
  refine XO.splitF (d := 26) rfl (by decide +kernel) ?_
  refine XO.guardRun rfl rfl rfl ?_
  refine XO.v (V.move rfl) rfl ?_
  refine XO.guardRun rfl rfl rfl ?_
  refine XO.call rfl (q_Len _ _ _ _ _) (.cons .here (.cons .here .nil)) cl_58 rfl ?_
  rintro _ _ ⟨rfl, rfl⟩
  refine XO.guardRun rfl rfl rfl ?_
  refine XO.v (V.cmp rfl rfl rfl) rfl ?_
  refine XO.v (V.pick rfl rfl rfl rfl) rfl ?_
  refine XO.nil ?_
  refine XE.next ?_
  refine XC.keep [(0, _), (1, _), (30, _)] (Sub.cons rfl (Sub.cons rfl (Sub.cons rfl (Sub.nil _)))) ?_
  refine XC.condFP rfl (by decide +kernel) ?_
  refine XC.skip ?_
  refine XE.next ?_
  refine XC.keep [(0, _), (1, _)] (Sub.cons rfl (Sub.cons rfl (Sub.nil _))) ?_
  refine XC.seq ?_
  refine XC.seq ?_
  refine XC.region ?_
  refine XO.v (V.move rfl) rfl ?_
  refine XO.v (V.lenSl rfl Try.underlying85) rfl ?_
  refine XO.v (V.cmp rfl rfl rfl) rfl ?_
  refine XO.v (V.move rfl) rfl ?_
  refine XO.splitP (d := 34) rfl (fun h2 => ?_) (fun h2 => ?_)
  · skip
    refine XO.guardSkip rfl rfl rfl rfl rfl ?_
    refine XO.guardSkip rfl rfl rfl rfl rfl ?_
    refine XO.guardSkip rfl rfl rfl rfl rfl ?_
    refine XO.v (V.pick rfl rfl rfl rfl) rfl ?_
    refine XO.nil ?_
    refine XE.next ?_
    refine XC.keep [(0, _), (1, _), (38, _)] (Sub.cons rfl (Sub.cons rfl (Sub.cons rfl (Sub.nil _)))) ?_
    refine XC.condT rfl rfl ?_
    refine XC.seq ?_
    refine XC.region ?_
    refine XO.v (V.assign rfl) rfl ?_
    refine XO.nil ?_
    refine XE.next ?_
    refine XC.keep [(4, _)] (Sub.cons rfl (Sub.nil _)) ?_
    refine XC.ret ?_
    refine XE.thenRet ?_
    refine XE.ret1 rfl rfl (post_of .nil rfl ?_)
    first | exact ⟨rfl, rfl⟩ | exact ⟨congrArg Value.bool (by simp; omega), rfl⟩
  · skip
    refine XO.guardRun rfl rfl rfl ?_
    refine XO.v (V.move rfl) rfl ?_
    refine XO.guardRun rfl rfl rfl ?_
    refine XO.v (V.lenSl rfl Try.underlying90) rfl ?_
    refine XO.guardRun rfl rfl rfl ?_
    refine XO.v (V.cmp rfl rfl rfl) rfl ?_
    refine XO.v (V.pick rfl rfl rfl rfl) rfl ?_
    refine XO.nil ?_
    refine XE.next ?_
    refine XC.keep [(0, _), (1, _), (38, _)] (Sub.cons rfl (Sub.cons rfl (Sub.cons rfl (Sub.nil _)))) ?_
    refine XC.condP rfl (fun h3 => ?_) (fun h3 => ?_)
    · skip
      refine XC.seq ?_
      refine XC.region ?_
      refine XO.v (V.assign rfl) rfl ?_
      refine XO.nil ?_
      refine XE.next ?_
      refine XC.keep [(4, _)] (Sub.cons rfl (Sub.nil _)) ?_
      refine XC.ret ?_
      refine XE.thenRet ?_
      refine XE.ret1 rfl rfl (post_of .nil rfl ?_)
      first | exact ⟨rfl, rfl⟩ | exact ⟨congrArg Value.bool (by simp; omega), rfl⟩
    · skip
      refine XC.skip ?_
      refine XE.next ?_
      refine XC.keep [(0, _), (1, _)] (Sub.cons rfl (Sub.cons rfl (Sub.nil _))) ?_
      refine XC.seq ?_
      refine XC.region ?_
      refine XO.v (V.build (vs := #[]) rfl (v := .agg #[.slice none 0 0, .int .i64 0, .int .i64 0, .int .i64 0, .int .i64 0, .int .i64 0, .int .i64 0, .int .i64 0, .int .i64 0, .int .i64 0, .int .i64 0, .int .i64 0, .int .i64 0, .int .i64 0, .int .i64 0, .int .i64 0, .int .i64 0, .int .i64 0, .int .i64 0, .int .i64 0, .int .i64 0, .int .i64 0, .int .i64 0, .int .i64 0, .int .i64 0, .int .i64 0, .int .i64 0, .int .i64 0, .int .i64 0, .int .i64 0, .int .i64 0, .int .i64 0, .int .i64 0, .int .i64 0, .int .i64 0, .int .i64 0, .int .i64 0, .int .i64 0, .int .i64 0, .int .i64 0, .int .i64 0, .int .i64 0, .int .i64 0, .int .i64 0, .int .i64 0, .int .i64 0, .int .i64 0, .int .i64 0, .int .i64 0, .int .i64 0, .int .i64 0, .int .i64 0, .int .i64 0, .int .i64 0, .int .i64 0, .int .i64 0, .int .i64 0, .int .i64 0, .int .i64 0, .int .i64 0, .int .i64 0, .int .i64 0, .int .i64 0, .int .i64 0, .int .i64 0]) (fun _ => by kernel_rfl)) rfl ?_
      refine XO.box (m := 65) (C := encQ QS.void none 0) rfl rfl boxQ_init rfl ?_
      intro b6
      refine XO.nilRow 126 2 ?_
      refine XO.v (V.assign rfl) rfl ?_
      refine XO.nil ?_
      refine XE.next ?_
      refine XC.keep [(0, _), (1, _), (6, _)] (Sub.cons rfl (Sub.cons rfl (Sub.cons rfl (Sub.nil _)))) ?_
      refine XC.seq ?_
      refine XC.region ?_
      refine XO.allocZ (z := .agg (arrW (fun _ => 0) 64)) (m := 64) (C := encW (fun _ => 0) 64) (by kernel_rfl) (arrW_size (fun _ => 0) 64) (encW.box (fun _ => 0) 64) rfl ?_
      intro b7
      refine XO.nil ?_
      refine XE.next ?_
      refine XC.keep [(0, _), (1, _), (6, _), (7, _)] (Sub.cons rfl (Sub.cons rfl (Sub.cons rfl (Sub.cons rfl (Sub.nil _))))) ?_
      refine XC.seq ?_
      refine XC.region ?_
      refine XO.allocZ (z := .agg (arrB (fun _ => false) 64)) (m := 64) (C := encBl (fun _ => false) 64) (by kernel_rfl) (arrB_size (fun _ => false) 64) (encBl.box (fun _ => false) 64) rfl ?_
      intro b8
      refine XO.nil ?_
      refine XE.next ?_
      refine XC.keep [(0, _), (1, _), (6, _), (7, _), (8, _)] (Sub.cons rfl (Sub.cons rfl (Sub.cons rfl (Sub.cons rfl (Sub.cons rfl (Sub.nil _)))))) ?_
      refine XC.seq ?_
      refine XC.region ?_
      refine XO.v (V.assign rfl) rfl ?_
      refine XO.nil ?_
      refine XE.next ?_
      refine XC.keep [(0, _), (1, _), (6, _), (7, _), (8, _), (9, _)] (Sub.cons rfl (Sub.cons rfl (Sub.cons rfl (Sub.cons rfl (Sub.cons rfl (Sub.cons rfl (Sub.nil _))))))) ?_
      refine XC.seq ?_
      refine XC.seq ?_
      refine XC.region ?_
      refine XO.v (V.assign rfl) rfl ?_
      refine XO.nil ?_
      refine XE.next ?_
      refine XC.keep [(0, _), (1, _), (6, _), (7, _), (8, _), (9, _), (10, _)] (Sub.cons rfl (Sub.cons rfl (Sub.cons rfl (Sub.cons rfl (Sub.cons rfl (Sub.cons rfl (Sub.cons rfl (Sub.nil _)))))))) ?_
      refine XC.block ?_
      refine XC.loop (σ := TQ) (fun x => (n1 - x.i).toNat) (fun x => x.V ∧ x.was = 0 ∧ x.last = -1) (fun x => [(9, .int .i64 x.n), (10, .int .i64 x.i), (0, .slice (some ⟨b1, o1, none⟩) n1 c1), (1, .slice (some ⟨b2, o2, none⟩) n2 c2), (6, ptr b6 0 0), (7, ptr b7 0 0), (8, ptr b8 0 0)]) (fun x => XM W (foot [.ro b1 o1 n1 (encI A n1), .ro b2 o2 n2 (encW B n2)]) [.cells b6 0 65 (encQ x.s x.p x.c), frow x.p x.c 126 2 (x.s).n (encH x.s), .cells b7 0 64 (encW x.key 64), .cells b8 0 64 (encBl x.inn 64), .ro b1 o1 n1 (encI A n1), .ro b2 o2 n2 (encW B n2)]) (TQ.start) ?_ (Sub.cons rfl (Sub.cons rfl (Sub.cons rfl (Sub.cons rfl (Sub.cons rfl (Sub.cons rfl (Sub.cons rfl (Sub.nil _)))))))) (fun _ hw => XM.pick (.cons (.there (.there (.there .here))) (.cons (.there (.there .here)) (.cons (.there .here) (.cons .here (.cons (.there (.there .here)) (.cons (.there (.there .here)) .nil)))))) hw) ?_
      · skip
        exact ⟨TQ.V.start, rfl, rfl⟩
      intro x hx
      obtain ⟨hx, hw1, hw2⟩ := hx
      have hi0 := hx.i0
      have hxn := hx.n
      have h64 := hx.ok.n64
      refine XC.seq ?_
      refine XC.seq ?_
      refine XC.region ?_
      refine XO.v (V.move rfl) rfl ?_
      refine XO.v (V.move rfl) rfl ?_
      refine XO.v (V.lenSl rfl Try.underlying85) rfl ?_
      refine XO.v (V.cmp rfl rfl rfl) rfl ?_
      refine XO.v (V.move rfl) rfl ?_
      refine XO.splitP (d := 45) rfl (fun h4 => ?_) (fun h4 => ?_)
      · skip
        refine XO.guardRun rfl rfl rfl ?_
        refine XO.v (V.move rfl) rfl ?_
        refine XO.guardRun rfl rfl rfl ?_
        refine XO.v (V.move rfl) rfl ?_
        refine XO.guardRun rfl rfl rfl ?_
        refine XO.v (V.lenSl rfl Try.underlying90) rfl ?_
        refine XO.guardRun rfl rfl rfl ?_
        refine XO.v (V.cmp rfl rfl rfl) rfl ?_
        refine XO.v (V.pick rfl rfl rfl rfl) rfl ?_
        refine XO.nil ?_
        refine XE.next ?_
        refine XC.keep [(0, _), (1, _), (6, _), (7, _), (8, _), (9, _), (10, _), (50, _)] (Sub.cons rfl (Sub.cons rfl (Sub.cons rfl (Sub.cons rfl (Sub.cons rfl (Sub.cons rfl (Sub.cons rfl (Sub.cons rfl (Sub.nil _))))))))) ?_
        refine XC.condP rfl (fun h5 => ?_) (fun h5 => ?_)
        · skip
          refine XC.skip ?_
          refine XE.next ?_
          refine XC.keep [(0, _), (1, _), (6, _), (7, _), (8, _), (9, _), (10, _)] (Sub.cons rfl (Sub.cons rfl (Sub.cons rfl (Sub.cons rfl (Sub.cons rfl (Sub.cons rfl (Sub.cons rfl (Sub.nil _)))))))) ?_
          refine XC.seq ?_
          refine XC.block ?_
          refine XC.seq ?_
          refine XC.regionQ mixed (f := 11) (l := #[false, false, false, false, false, false, false, false, false, false, false]) rfl rfl XM.drawn' ?_
          refine XQ.pv (i := 0) (l' := #[true, false, false, false, false, false, false, false, false, false, false]) rfl (by kernel_rfl) rfl (V.move rfl) rfl rfl ?_
          refine XQ.pv (i := 1) (l' := #[true, true, false, false, false, false, false, false, false, false, false]) rfl (by kernel_rfl) rfl (V.move rfl) rfl rfl ?_
          refine XQ.pv (i := 2) (l' := #[true, true, true, false, false, false, false, false, false, false, false]) rfl (by kernel_rfl) rfl (V.move rfl) rfl rfl ?_
          refine XQ.pv (i := 3) (l' := #[true, true, true, true, false, false, false, false, false, false, false]) rfl (by kernel_rfl) rfl (V.indexSl rfl rfl sl_85 (by omega)) rfl rfl ?_
          refine XQ.load (i := 4) (l' := #[true, true, true, true, true, false, false, false, false, false, false]) (.ro _ _ _ _) [9] rfl (by kernel_rfl) rfl (.there (.there (.there (.there .here)))) (V.loadRo rfl inEnt (encI.ld _ _ _ (by omega)) sc_3) rfl (by kernel_rfl) rfl ?_
          refine XQ.pv (i := 5) (l' := #[true, true, true, true, true, true, false, false, false, false, false]) rfl (by kernel_rfl) rfl (V.move rfl) rfl rfl ?_
          refine XQ.pv (i := 6) (l' := #[true, true, true, true, true, true, true, false, false, false, false]) rfl (by kernel_rfl) rfl (V.move rfl) rfl rfl ?_
          refine XQ.pv (i := 7) (l' := #[true, true, true, true, true, true, true, true, false, false, false]) rfl (by kernel_rfl) rfl (V.indexSl rfl rfl sl_90 (by omega)) rfl rfl ?_
          refine XQ.load (i := 8) (l' := #[true, true, true, true, true, true, true, true, true, false, false]) (.ro _ _ _ _) [9] rfl (by kernel_rfl) rfl (.there (.there (.there (.there (.there .here))))) (V.loadRo rfl inEnt (encW.ld _ _ _ (by omega)) sc_29) rfl (by kernel_rfl) rfl ?_
          refine XQ.call (i := 9) (l' := #[true, true, true, true, true, true, true, true, true, true, false]) rfl (by kernel_rfl) rfl rfl (q_Put _ _ _ _ x.s hx.ok (A x.i) (B x.i)) (.cons .here (.cons .here .nil)) cl_49 rfl (by rintro _ _ ⟨p3, c3, rfl, rfl⟩; all_goals (intro _ hw'; exact ⟨fun hs => (hs 9 (by simp) rfl).elim, fun hs => (hs 9 (by simp) rfl).elim, trivial⟩)) ?_
          rintro _ _ ⟨p3, c3, rfl, rfl⟩
          refine XQ.pv (i := 10) (l' := #[true, true, true, true, true, true, true, true, true, true, true]) rfl (by kernel_rfl) rfl (V.errNil rfl Try.underlying33 rfl) rfl rfl ?_
          refine XQ.done (by kernel_rfl) ?_
          refine XE.next ?_
          refine XC.keep [(0, _), (1, _), (6, _), (7, _), (8, _), (9, _), (10, _), (63, _)] (Sub.cons rfl (Sub.cons rfl (Sub.cons rfl (Sub.cons rfl (Sub.cons rfl (Sub.cons rfl (Sub.cons rfl (Sub.cons rfl (Sub.nil _))))))))) ?_
          refine XC.condP rfl (fun h6 => ?_) (fun h6 => ?_)
          · skip
            obtain ⟨⟨d0, d1⟩, d2, hV⟩ := hx.put ⟨hw1, hw2⟩ h6 (hB x.i (by omega) (by omega)) p3 c3
            refine XC.seq ?_
            refine XC.seq ?_
            refine XC.region ?_
            refine XO.v (V.move rfl) rfl ?_
            refine XO.v (V.move rfl) rfl ?_
            refine XO.v (V.indexSl rfl rfl sl_85 (by omega)) rfl ?_
            refine XO.v (V.loadRo rfl (inXM (.there (.there (.there (.there .here))))) (encI.ld _ _ _ (by omega)) sc_3) rfl ?_
            refine XO.v (V.indexArr rfl rfl ar_74 (by omega)) rfl ?_
            refine XO.v (V.load rfl (inXM (.there (.there (.there .here)))) (encBl.ld _ _ _ (by omega)) sc_4) rfl ?_
            refine XO.nil ?_
            refine XE.next ?_
            refine XC.keep [(0, _), (1, _), (6, _), (7, _), (8, _), (9, _), (10, _), (69, _)] (Sub.cons rfl (Sub.cons rfl (Sub.cons rfl (Sub.cons rfl (Sub.cons rfl (Sub.cons rfl (Sub.cons rfl (Sub.cons rfl (Sub.nil _))))))))) ?_
            refine XC.condF rfl (d2) ?_
            refine XC.skip ?_
            refine XE.next ?_
            refine XC.keep [(0, _), (1, _), (6, _), (7, _), (8, _), (9, _), (10, _)] (Sub.cons rfl (Sub.cons rfl (Sub.cons rfl (Sub.cons rfl (Sub.cons rfl (Sub.cons rfl (Sub.cons rfl (Sub.nil _)))))))) ?_
            refine XC.seq ?_
            refine XC.region ?_
            refine XO.v (V.move rfl) rfl ?_
            refine XO.v (V.move rfl) rfl ?_
            refine XO.v (V.indexSl rfl rfl sl_85 (by omega)) rfl ?_
            refine XO.v (V.loadRo rfl (inXM (.there (.there (.there (.there .here))))) (encI.ld _ _ _ (by omega)) sc_3) rfl ?_
            refine XO.v (V.indexArr rfl rfl ar_74 (by omega)) rfl ?_
            refine XO.store rfl rfl (.there (.there (.there .here))) (encBl.st _ _ _ _ (by omega)) rfl sz_4_1 ?_
            refine XO.nil ?_
            refine XE.next ?_
            refine XC.keep [(0, _), (1, _), (6, _), (7, _), (8, _), (9, _), (10, _)] (Sub.cons rfl (Sub.cons rfl (Sub.cons rfl (Sub.cons rfl (Sub.cons rfl (Sub.cons rfl (Sub.cons rfl (Sub.nil _)))))))) ?_
            refine XC.seq ?_
            refine XC.regionQ mixed (f := 10) (l := #[false, false, false, false, false, false, false, false, false, false]) rfl rfl XM.drawn' ?_
            refine XQ.pv (i := 0) (l' := #[true, false, false, false, false, false, false, false, false, false]) rfl (by kernel_rfl) rfl (V.move rfl) rfl rfl ?_
            refine XQ.pv (i := 1) (l' := #[true, true, false, false, false, false, false, false, false, false]) rfl (by kernel_rfl) rfl (V.move rfl) rfl rfl ?_
            refine XQ.pv (i := 2) (l' := #[true, true, true, false, false, false, false, false, false, false]) rfl (by kernel_rfl) rfl (V.indexSl rfl rfl sl_85 (by omega)) rfl rfl ?_
            refine XQ.load (i := 3) (l' := #[true, true, true, true, false, false, false, false, false, false]) (.ro _ _ _ _) [9] rfl (by kernel_rfl) rfl (.there (.there (.there (.there .here)))) (V.loadRo rfl inEnt (encI.ld _ _ _ (by omega)) sc_3) rfl (by kernel_rfl) rfl ?_
            refine XQ.pv (i := 4) (l' := #[true, true, true, true, true, false, false, false, false, false]) rfl (by kernel_rfl) rfl (V.move rfl) rfl rfl ?_
            refine XQ.pv (i := 5) (l' := #[true, true, true, true, true, true, false, false, false, false]) rfl (by kernel_rfl) rfl (V.move rfl) rfl rfl ?_
            refine XQ.pv (i := 6) (l' := #[true, true, true, true, true, true, true, false, false, false]) rfl (by kernel_rfl) rfl (V.indexSl rfl rfl sl_90 (by omega)) rfl rfl ?_
            refine XQ.load (i := 7) (l' := #[true, true, true, true, true, true, true, true, false, false]) (.ro _ _ _ _) [9] rfl (by kernel_rfl) rfl (.there (.there (.there (.there (.there .here))))) (V.loadRo rfl inEnt (encW.ld _ _ _ (by omega)) sc_29) rfl (by kernel_rfl) rfl ?_
            refine XQ.pv (i := 8) (l' := #[true, true, true, true, true, true, true, true, true, false]) rfl (by kernel_rfl) rfl (V.indexArr rfl rfl ar_75 (by omega)) rfl rfl ?_
            refine XQ.store (i := 9) (l' := #[true, true, true, true, true, true, true, true, true, true]) rfl (by kernel_rfl) rfl rfl rfl (.there (.there .here)) (encW.st _ _ _ _ (by omega)) rfl sz_29_1 (fun _ hw' => ⟨fun hs => (hs 9 (by simp) rfl).elim, fun hs => (hs 9 (by simp) rfl).elim, trivial⟩) ?_
            refine XQ.done (by kernel_rfl) ?_
            refine XE.next ?_
            refine XC.keep [(0, _), (1, _), (6, _), (7, _), (8, _), (9, _), (10, _)] (Sub.cons rfl (Sub.cons rfl (Sub.cons rfl (Sub.cons rfl (Sub.cons rfl (Sub.cons rfl (Sub.cons rfl (Sub.nil _)))))))) ?_
            refine XC.region ?_
            refine XO.v (V.move rfl) rfl ?_
            refine XO.v (V.add rfl rfl _ (IntWalk.i64_in _ (by omega))) rfl ?_
            refine XO.v (V.assign rfl) rfl ?_
            refine XO.nil ?_
            refine XE.blockNormal ?_
            refine XE.next ?_
            refine XC.keep [(0, _), (1, _), (6, _), (7, _), (8, _), (9, _), (10, _)] (Sub.cons rfl (Sub.cons rfl (Sub.cons rfl (Sub.cons rfl (Sub.cons rfl (Sub.cons rfl (Sub.cons rfl (Sub.nil _)))))))) ?_
            refine XC.region ?_
            refine XO.v (V.move rfl) rfl ?_
            refine XO.v (V.add rfl rfl _ (IntWalk.i64_in _ (by omega))) rfl ?_
            refine XO.v (V.assign rfl) rfl ?_
            refine XO.nil ?_
            refine XE.again (⟨(x.s.put (A x.i) (B x.i)).2, p3, c3, fset x.key (A x.i) (B x.i), fset x.inn (A x.i) true, x.n + 1, x.i + 1, x.was, x.last⟩) ?_ ?_ (Sub.cons rfl (Sub.cons rfl (Sub.cons rfl (Sub.cons rfl (Sub.cons rfl (Sub.cons rfl (Sub.cons rfl (Sub.nil _)))))))) (fun _ hw => XM.pick (.cons .here (.cons .here (.cons .here (.cons .here (.cons .here (.cons .here .nil)))))) hw)
            · skip
              (simp; omega)
            · skip
              exact ⟨hV, hw1, hw2⟩
          · skip
            refine XC.skip ?_
            refine XE.blockNormal ?_
            refine XE.next ?_
            refine XC.keep [(0, _), (1, _), (6, _), (7, _), (8, _), (9, _), (10, _)] (Sub.cons rfl (Sub.cons rfl (Sub.cons rfl (Sub.cons rfl (Sub.cons rfl (Sub.cons rfl (Sub.cons rfl (Sub.nil _)))))))) ?_
            refine XC.region ?_
            refine XO.v (V.move rfl) rfl ?_
            refine XO.v (V.add rfl rfl _ (IntWalk.i64_in _ (by omega))) rfl ?_
            refine XO.v (V.assign rfl) rfl ?_
            refine XO.nil ?_
            refine XE.again (⟨(x.s.put (A x.i) (B x.i)).2, p3, c3, x.key, x.inn, x.n, x.i + 1, x.was, x.last⟩) ?_ ?_ (Sub.cons rfl (Sub.cons rfl (Sub.cons rfl (Sub.cons rfl (Sub.cons rfl (Sub.cons rfl (Sub.cons rfl (Sub.nil _)))))))) (fun _ hw => XM.pick (.cons .here (.cons .here (.cons .here (.cons .here (.cons .here (.cons .here .nil)))))) hw)
            · skip
              (simp; omega)
            · skip
              exact ⟨hx.keep (by assumption) p3 c3, hw1, hw2⟩
        · skip
          refine XC.exit ?_
          refine XE.thenExit ?_
          refine XE.thenExit ?_
          refine XE.blockExit ?_
          refine XE.next ?_
          refine XC.keep [(6, _), (7, _), (8, _), (9, _)] (Sub.cons rfl (Sub.cons rfl (Sub.cons rfl (Sub.cons rfl (Sub.nil _))))) ?_
          refine XC.seq ?_
          refine XC.region ?_
          refine XO.v (V.assign rfl) rfl ?_
          refine XO.nil ?_
          refine XE.next ?_
          refine XC.keep [(6, _), (7, _), (8, _), (9, _), (11, _)] (Sub.cons rfl (Sub.cons rfl (Sub.cons rfl (Sub.cons rfl (Sub.cons rfl (Sub.nil _)))))) ?_
          refine XC.seq ?_
          refine XC.region ?_
          refine XO.v (V.assign rfl) rfl ?_
          refine XO.nil ?_
          refine XE.next ?_
          refine XC.keep [(6, _), (7, _), (8, _), (9, _), (11, _), (12, _)] (Sub.cons rfl (Sub.cons rfl (Sub.cons rfl (Sub.cons rfl (Sub.cons rfl (Sub.cons rfl (Sub.nil _))))))) ?_
          refine XC.seq ?_
          refine XC.block ?_
          refine XC.loop (σ := TQ) (fun x => x.n.toNat) (fun x => x.V) (fun x => [(9, .int .i64 x.n), (11, .int .u64 x.was), (12, .int .i64 x.last), (6, ptr b6 0 0), (7, ptr b7 0 0), (8, ptr b8 0 0)]) (fun x => XM W (foot [.ro b1 o1 n1 (encI A n1), .ro b2 o2 n2 (encW B n2)]) [.cells b6 0 65 (encQ x.s x.p x.c), frow x.p x.c 126 2 (x.s).n (encH x.s), .cells b7 0 64 (encW x.key 64), .cells b8 0 64 (encBl x.inn 64)]) (x) ?_ (Sub.cons rfl (Sub.cons (eqi hw1.symm) (Sub.cons (eqi hw2.symm) (Sub.cons rfl (Sub.cons rfl (Sub.cons rfl (Sub.nil _))))))) (fun _ hw => XM.pick (.cons .here (.cons .here (.cons .here (.cons .here .nil)))) hw) ?_
          · skip
            exact hx
          clear hw1 hw2
          intro x hx
          have hi0 := hx.i0
          have hxn := hx.n
          have h64 := hx.ok.n64
          refine XC.seq ?_
          refine XC.seq ?_
          refine XC.region ?_
          refine XO.v (V.move rfl) rfl ?_
          refine XO.v (V.cmp rfl rfl rfl) rfl ?_
          refine XO.nil ?_
          refine XE.next ?_
          refine XC.keep [(6, _), (7, _), (8, _), (9, _), (11, _), (12, _), (87, _)] (Sub.cons rfl (Sub.cons rfl (Sub.cons rfl (Sub.cons rfl (Sub.cons rfl (Sub.cons rfl (Sub.cons rfl (Sub.nil _)))))))) ?_
          refine XC.condP rfl (fun h7 => ?_) (fun h7 => ?_)
          · skip
            obtain ⟨⟨e0, e1⟩, e2, e3, e4, e5, e6, _⟩ := hx.cut (by omega) none 0
            have e7 : (x.s.cut (x.s.I 0)).2.1 = 0 := by rw [e6]
            have e8 : (x.s.cut (x.s.I 0)).1 = x.s.K 0 := by rw [e6]
            refine XC.skip ?_
            refine XE.next ?_
            refine XC.keep [(6, _), (7, _), (8, _), (9, _), (11, _), (12, _)] (Sub.cons rfl (Sub.cons rfl (Sub.cons rfl (Sub.cons rfl (Sub.cons rfl (Sub.cons rfl (Sub.nil _))))))) ?_
            refine XC.block ?_
            refine XC.seq ?_
            refine XC.seq ?_
            refine XC.region ?_
            refine XO.v (V.move rfl) rfl ?_
            refine XO.call rfl (q_Len _ _ _ _ _) (.cons .here (.cons .here .nil)) cl_58 rfl ?_
            rintro _ _ ⟨rfl, rfl⟩
            refine XO.v (V.move rfl) rfl ?_
            refine XO.v (V.cmp rfl rfl rfl) rfl ?_
            refine XO.nil ?_
            refine XE.next ?_
            refine XC.keep [(6, _), (7, _), (8, _), (9, _), (11, _), (12, _), (91, _)] (Sub.cons rfl (Sub.cons rfl (Sub.cons rfl (Sub.cons rfl (Sub.cons rfl (Sub.cons rfl (Sub.cons rfl (Sub.nil _)))))))) ?_
            refine XC.condFP rfl (by omega) ?_
            refine XC.skip ?_
            refine XE.next ?_
            refine XC.keep [(6, _), (7, _), (8, _), (9, _), (11, _), (12, _)] (Sub.cons rfl (Sub.cons rfl (Sub.cons rfl (Sub.cons rfl (Sub.cons rfl (Sub.cons rfl (Sub.nil _))))))) ?_
            refine XC.seq ?_
            refine XC.region ?_
            refine XO.v (V.move rfl) rfl ?_
            refine XO.call rfl (q_First1 _ _ _ _ x.s (by omega)) (.cons .here (.cons .here .nil)) cl_57 rfl ?_
            rintro _ _ ⟨rfl, rfl⟩
            refine XO.v (V.move rfl) rfl ?_
            refine XO.v (V.extract rfl rfl) rfl ?_
            refine XO.v (V.extract rfl rfl) rfl ?_
            refine XO.v (V.extract rfl rfl) rfl ?_
            refine XO.v (V.assign rfl) rfl ?_
            refine XO.v (V.assign rfl) rfl ?_
            refine XO.v (V.assign rfl) rfl ?_
            refine XO.nil ?_
            refine XE.next ?_
            refine XC.keep [(6, _), (7, _), (8, _), (9, _), (11, _), (12, _), (13, _), (14, _), (15, _)] (Sub.cons rfl (Sub.cons rfl (Sub.cons rfl (Sub.cons rfl (Sub.cons rfl (Sub.cons rfl (Sub.cons rfl (Sub.cons rfl (Sub.cons rfl (Sub.nil _)))))))))) ?_
            refine XC.seq ?_
            refine XC.seq ?_
            refine XC.region ?_
            refine XO.v (V.move rfl) rfl ?_
            refine XO.v (V.not rfl) rfl ?_
            refine XO.v (V.move rfl) rfl ?_
            refine XO.guardRun rfl rfl rfl ?_
            refine XO.v (V.move rfl) rfl ?_
            refine XO.guardRun rfl rfl rfl ?_
            refine XO.v (V.cmp rfl rfl rfl) rfl ?_
            refine XO.v (V.pick rfl rfl rfl rfl) rfl ?_
            refine XO.v (V.move rfl) rfl ?_
            refine XO.splitF (d := 104) rfl (by omega) ?_
            refine XO.guardRun rfl rfl rfl ?_
            refine XO.v (V.move rfl) rfl ?_
            refine XO.guardRun rfl rfl rfl ?_
            refine XO.v (V.cmp rfl rfl rfl) rfl ?_
            refine XO.v (V.pick rfl rfl rfl rfl) rfl ?_
            refine XO.v (V.move rfl) rfl ?_
            refine XO.splitF (d := 108) rfl (by omega) ?_
            refine XO.guardRun rfl rfl rfl ?_
            refine XO.v (V.move rfl) rfl ?_
            refine XO.guardRun rfl rfl rfl ?_
            refine XO.v (V.indexArr rfl rfl ar_74 (by omega)) rfl ?_
            refine XO.guardRun rfl rfl rfl ?_
            refine XO.v (V.load rfl (inXM (.there (.there (.there .here)))) (encBl.ld _ _ _ (by omega)) sc_4) rfl ?_
            refine XO.guardRun rfl rfl rfl ?_
            refine XO.v (V.not rfl) rfl ?_
            refine XO.v (V.pick rfl rfl rfl rfl) rfl ?_
            refine XO.v (V.move rfl) rfl ?_
            refine XO.split (d := 114) rfl (fun h10 => ?_) (fun h10 => ?_)
            · try simp at h10
              all_goals (simp [e2] at h10)
            · try simp at h10
              refine XO.guardRun rfl rfl rfl ?_
              refine XO.v (V.move rfl) rfl ?_
              refine XO.guardRun rfl rfl rfl ?_
              refine XO.v (V.move rfl) rfl ?_
              refine XO.guardRun rfl rfl rfl ?_
              refine XO.v (V.indexArr rfl rfl ar_75 (by omega)) rfl ?_
              refine XO.guardRun rfl rfl rfl ?_
              refine XO.v (V.load rfl (inXM (.there (.there .here))) (encW.ld _ _ _ (by omega)) sc_29) rfl ?_
              refine XO.guardRun rfl rfl rfl ?_
              refine XO.v (V.cmp rfl rfl rfl) rfl ?_
              refine XO.v (V.pick rfl rfl rfl rfl) rfl ?_
              refine XO.v (V.move rfl) rfl ?_
              refine XO.splitF (d := 121) rfl (by omega) ?_
              refine XO.guardRun rfl rfl rfl ?_
              refine XO.v (V.move rfl) rfl ?_
              refine XO.guardRun rfl rfl rfl ?_
              refine XO.v (V.move rfl) rfl ?_
              refine XO.guardRun rfl rfl rfl ?_
              refine XO.v (V.cmp rfl rfl rfl) rfl ?_
              refine XO.v (V.pick rfl rfl rfl rfl) rfl ?_
              refine XO.v (V.move rfl) rfl ?_
              refine XO.splitF (d := 126) rfl (by omega) ?_
              refine XO.guardRun rfl rfl rfl ?_
              refine XO.v (V.move rfl) rfl ?_
              refine XO.guardRun rfl rfl rfl ?_
              refine XO.v (V.move rfl) rfl ?_
              refine XO.guardRun rfl rfl rfl ?_
              refine XO.v (V.cmp rfl rfl rfl) rfl ?_
              refine XO.guardRun rfl rfl rfl ?_
              refine XO.v (V.move rfl) rfl ?_
              refine XO.splitP (d := 130) rfl (fun h13 => ?_) (fun h13 => ?_)
              · skip
                refine XO.guardRun rfl rfl rfl ?_
                refine XO.v (V.move rfl) rfl ?_
                refine XO.guardRun rfl rfl rfl ?_
                refine XO.v (V.move rfl) rfl ?_
                refine XO.guardRun rfl rfl rfl ?_
                refine XO.v (V.cmp rfl rfl rfl) rfl ?_
                refine XO.guardRun rfl rfl rfl ?_
                refine XO.v (V.pick rfl rfl rfl rfl) rfl ?_
                refine XO.v (V.pick rfl rfl rfl rfl) rfl ?_
                refine XO.nil ?_
                refine XE.next ?_
                refine XC.keep [(6, _), (7, _), (8, _), (9, _), (13, _), (14, _), (135, _)] (Sub.cons rfl (Sub.cons rfl (Sub.cons rfl (Sub.cons rfl (Sub.cons rfl (Sub.cons rfl (Sub.cons rfl (Sub.nil _)))))))) ?_
                refine XC.condFP rfl (by omega) ?_
                refine XC.skip ?_
                refine XE.next ?_
                refine XC.keep [(6, _), (7, _), (8, _), (9, _), (13, _), (14, _)] (Sub.cons rfl (Sub.cons rfl (Sub.cons rfl (Sub.cons rfl (Sub.cons rfl (Sub.cons rfl (Sub.nil _))))))) ?_
                refine XC.seq ?_
                refine XC.region ?_
                refine XO.v (V.move rfl) rfl ?_
                refine XO.v (V.move rfl) rfl ?_
                refine XO.call rfl (q_Cut _ _ _ _ x.s hx.ok hx.heap (x.s.I 0)) (.cons .here (.cons .here .nil)) cl_51 rfl ?_
                rintro _ _ ⟨p4, c4, rfl, rfl⟩
                refine XO.v (V.move rfl) rfl ?_
                refine XO.v (V.extract rfl rfl) rfl ?_
                refine XO.v (V.extract rfl rfl) rfl ?_
                refine XO.v (V.assign rfl) rfl ?_
                refine XO.v (V.assign rfl) rfl ?_
                refine XO.nil ?_
                refine XE.next ?_
                refine XC.keep [(6, _), (7, _), (8, _), (9, _), (13, _), (14, _), (16, _), (17, _)] (Sub.cons rfl (Sub.cons rfl (Sub.cons rfl (Sub.cons rfl (Sub.cons rfl (Sub.cons rfl (Sub.cons rfl (Sub.cons rfl (Sub.nil _))))))))) ?_
                refine XC.seq ?_
                refine XC.seq ?_
                refine XC.region ?_
                refine XO.v (V.move rfl) rfl ?_
                refine XO.v (V.errNil rfl Try.underlying33 rfl) rfl ?_
                refine XO.v (V.move rfl) rfl ?_
                refine XO.splitF (d := 144) rfl (by simp [e7]) ?_
                refine XO.guardRun rfl rfl rfl ?_
                refine XO.v (V.move rfl) rfl ?_
                refine XO.guardRun rfl rfl rfl ?_
                refine XO.v (V.move rfl) rfl ?_
                refine XO.guardRun rfl rfl rfl ?_
                refine XO.v (V.cmp rfl rfl rfl) rfl ?_
                refine XO.v (V.pick rfl rfl rfl rfl) rfl ?_
                refine XO.nil ?_
                refine XE.next ?_
                refine XC.keep [(6, _), (7, _), (8, _), (9, _), (13, _), (14, _), (148, _)] (Sub.cons rfl (Sub.cons rfl (Sub.cons rfl (Sub.cons rfl (Sub.cons rfl (Sub.cons rfl (Sub.cons rfl (Sub.nil _)))))))) ?_
                refine XC.condFP rfl (by omega) ?_
                refine XC.skip ?_
                refine XE.next ?_
                refine XC.keep [(6, _), (7, _), (8, _), (9, _), (13, _), (14, _)] (Sub.cons rfl (Sub.cons rfl (Sub.cons rfl (Sub.cons rfl (Sub.cons rfl (Sub.cons rfl (Sub.nil _))))))) ?_
                refine XC.seq ?_
                refine XC.region ?_
                refine XO.v (V.move rfl) rfl ?_
                refine XO.v (V.indexArr rfl rfl ar_74 (by omega)) rfl ?_
                refine XO.store rfl rfl (.there (.there (.there .here))) (encBl.st _ _ _ _ (by omega)) rfl sz_4_1 ?_
                refine XO.nil ?_
                refine XE.next ?_
                refine XC.keep [(6, _), (7, _), (8, _), (9, _), (13, _), (14, _)] (Sub.cons rfl (Sub.cons rfl (Sub.cons rfl (Sub.cons rfl (Sub.cons rfl (Sub.cons rfl (Sub.nil _))))))) ?_
                refine XC.seq ?_
                refine XC.region ?_
                refine XO.v (V.move rfl) rfl ?_
                refine XO.v (V.assign rfl) rfl ?_
                refine XO.nil ?_
                refine XE.next ?_
                refine XC.keep [(6, _), (7, _), (8, _), (9, _), (11, _), (13, _)] (Sub.cons rfl (Sub.cons rfl (Sub.cons rfl (Sub.cons rfl (Sub.cons rfl (Sub.cons rfl (Sub.nil _))))))) ?_
                refine XC.seq ?_
                refine XC.region ?_
                refine XO.v (V.move rfl) rfl ?_
                refine XO.v (V.assign rfl) rfl ?_
                refine XO.nil ?_
                refine XE.next ?_
                refine XC.keep [(6, _), (7, _), (8, _), (9, _), (11, _), (12, _)] (Sub.cons rfl (Sub.cons rfl (Sub.cons rfl (Sub.cons rfl (Sub.cons rfl (Sub.cons rfl (Sub.nil _))))))) ?_
                refine XC.region ?_
                refine XO.v (V.move rfl) rfl ?_
                refine XO.v (V.sub rfl rfl _ (IntWalk.i64_in _ (by omega))) rfl ?_
                refine XO.v (V.assign rfl) rfl ?_
                refine XO.nil ?_
                refine XE.blockNormal ?_
                refine XE.again (⟨x.s.cutOk (x.s.I 0), p4, c4, x.key, fset x.inn (x.s.I 0) false, x.n - 1, x.i, x.s.K 0, x.s.I 0⟩) ?_ ?_ (Sub.cons rfl (Sub.cons rfl (Sub.cons rfl (Sub.cons rfl (Sub.cons rfl (Sub.cons rfl (Sub.nil _))))))) (fun _ hw2 => by rw [e6] at hw2; exact XM.pick (.cons .here (.cons .here (.cons .here (.cons .here .nil)))) hw2)
                · skip
                  (simp; omega)
                · skip
                  exact (hx.cut (by omega) p4 c4).2.2.2.2.2.2
              · skip
                refine XO.guardSkip rfl rfl rfl rfl rfl ?_
                refine XO.guardSkip rfl rfl rfl rfl rfl ?_
                refine XO.guardSkip rfl rfl rfl rfl rfl ?_
                refine XO.guardRun rfl rfl rfl ?_
                refine XO.v (V.pick rfl rfl rfl rfl) rfl ?_
                refine XO.v (V.pick rfl rfl rfl rfl) rfl ?_
                refine XO.nil ?_
                refine XE.next ?_
                refine XC.keep [(6, _), (7, _), (8, _), (9, _), (13, _), (14, _), (135, _)] (Sub.cons rfl (Sub.cons rfl (Sub.cons rfl (Sub.cons rfl (Sub.cons rfl (Sub.cons rfl (Sub.cons rfl (Sub.nil _)))))))) ?_
                refine XC.condF rfl rfl ?_
                refine XC.skip ?_
                refine XE.next ?_
                refine XC.keep [(6, _), (7, _), (8, _), (9, _), (13, _), (14, _)] (Sub.cons rfl (Sub.cons rfl (Sub.cons rfl (Sub.cons rfl (Sub.cons rfl (Sub.cons rfl (Sub.nil _))))))) ?_
                refine XC.seq ?_
                refine XC.region ?_
                refine XO.v (V.move rfl) rfl ?_
                refine XO.v (V.move rfl) rfl ?_
                refine XO.call rfl (q_Cut _ _ _ _ x.s hx.ok hx.heap (x.s.I 0)) (.cons .here (.cons .here .nil)) cl_51 rfl ?_
                rintro _ _ ⟨p4, c4, rfl, rfl⟩
                refine XO.v (V.move rfl) rfl ?_
                refine XO.v (V.extract rfl rfl) rfl ?_
                refine XO.v (V.extract rfl rfl) rfl ?_
                refine XO.v (V.assign rfl) rfl ?_
                refine XO.v (V.assign rfl) rfl ?_
                refine XO.nil ?_
                refine XE.next ?_
                refine XC.keep [(6, _), (7, _), (8, _), (9, _), (13, _), (14, _), (16, _), (17, _)] (Sub.cons rfl (Sub.cons rfl (Sub.cons rfl (Sub.cons rfl (Sub.cons rfl (Sub.cons rfl (Sub.cons rfl (Sub.cons rfl (Sub.nil _))))))))) ?_
                refine XC.seq ?_
                refine XC.seq ?_
                refine XC.region ?_
                refine XO.v (V.move rfl) rfl ?_
                refine XO.v (V.errNil rfl Try.underlying33 rfl) rfl ?_
                refine XO.v (V.move rfl) rfl ?_
                refine XO.splitF (d := 144) rfl (by simp [e7]) ?_
                refine XO.guardRun rfl rfl rfl ?_
                refine XO.v (V.move rfl) rfl ?_
                refine XO.guardRun rfl rfl rfl ?_
                refine XO.v (V.move rfl) rfl ?_
                refine XO.guardRun rfl rfl rfl ?_
                refine XO.v (V.cmp rfl rfl rfl) rfl ?_
                refine XO.v (V.pick rfl rfl rfl rfl) rfl ?_
                refine XO.nil ?_
                refine XE.next ?_
                refine XC.keep [(6, _), (7, _), (8, _), (9, _), (13, _), (14, _), (148, _)] (Sub.cons rfl (Sub.cons rfl (Sub.cons rfl (Sub.cons rfl (Sub.cons rfl (Sub.cons rfl (Sub.cons rfl (Sub.nil _)))))))) ?_
                refine XC.condFP rfl (by omega) ?_
                refine XC.skip ?_
                refine XE.next ?_
                refine XC.keep [(6, _), (7, _), (8, _), (9, _), (13, _), (14, _)] (Sub.cons rfl (Sub.cons rfl (Sub.cons rfl (Sub.cons rfl (Sub.cons rfl (Sub.cons rfl (Sub.nil _))))))) ?_
                refine XC.seq ?_
                refine XC.region ?_
                refine XO.v (V.move rfl) rfl ?_
                refine XO.v (V.indexArr rfl rfl ar_74 (by omega)) rfl ?_
                refine XO.store rfl rfl (.there (.there (.there .here))) (encBl.st _ _ _ _ (by omega)) rfl sz_4_1 ?_
                refine XO.nil ?_
                refine XE.next ?_
                refine XC.keep [(6, _), (7, _), (8, _), (9, _), (13, _), (14, _)] (Sub.cons rfl (Sub.cons rfl (Sub.cons rfl (Sub.cons rfl (Sub.cons rfl (Sub.cons rfl (Sub.nil _))))))) ?_
                refine XC.seq ?_
                refine XC.region ?_
                refine XO.v (V.move rfl) rfl ?_
                refine XO.v (V.assign rfl) rfl ?_
                refine XO.nil ?_
                refine XE.next ?_
                refine XC.keep [(6, _), (7, _), (8, _), (9, _), (11, _), (13, _)] (Sub.cons rfl (Sub.cons rfl (Sub.cons rfl (Sub.cons rfl (Sub.cons rfl (Sub.cons rfl (Sub.nil _))))))) ?_
                refine XC.seq ?_
                refine XC.region ?_
                refine XO.v (V.move rfl) rfl ?_
                refine XO.v (V.assign rfl) rfl ?_
                refine XO.nil ?_
                refine XE.next ?_
                refine XC.keep [(6, _), (7, _), (8, _), (9, _), (11, _), (12, _)] (Sub.cons rfl (Sub.cons rfl (Sub.cons rfl (Sub.cons rfl (Sub.cons rfl (Sub.cons rfl (Sub.nil _))))))) ?_
                refine XC.region ?_
                refine XO.v (V.move rfl) rfl ?_
                refine XO.v (V.sub rfl rfl _ (IntWalk.i64_in _ (by omega))) rfl ?_
                refine XO.v (V.assign rfl) rfl ?_
                refine XO.nil ?_
                refine XE.blockNormal ?_
                refine XE.again (⟨x.s.cutOk (x.s.I 0), p4, c4, x.key, fset x.inn (x.s.I 0) false, x.n - 1, x.i, x.s.K 0, x.s.I 0⟩) ?_ ?_ (Sub.cons rfl (Sub.cons rfl (Sub.cons rfl (Sub.cons rfl (Sub.cons rfl (Sub.cons rfl (Sub.nil _))))))) (fun _ hw2 => by rw [e6] at hw2; exact XM.pick (.cons .here (.cons .here (.cons .here (.cons .here .nil)))) hw2)
                · skip
                  (simp; omega)
                · skip
                  exact (hx.cut (by omega) p4 c4).2.2.2.2.2.2
          · skip
            refine XC.exit ?_
            refine XE.thenExit ?_
            refine XE.thenExit ?_
            refine XE.blockExit ?_
            refine XE.next ?_
            refine XC.keep [(6, _)] (Sub.cons rfl (Sub.nil _)) ?_
            refine XC.seq ?_
            refine XC.region ?_
            refine XO.v (V.move rfl) rfl ?_
            refine XO.call rfl (q_First0 _ _ _ _ x.s (by omega)) (.cons .here (.cons .here .nil)) cl_57 rfl ?_
            rintro _ _ ⟨rfl, rfl⟩
            refine XO.v (V.move rfl) rfl ?_
            refine XO.v (V.extract rfl rfl) rfl ?_
            refine XO.v (V.extract rfl rfl) rfl ?_
            refine XO.v (V.extract rfl rfl) rfl ?_
            refine XO.v (V.assign rfl) rfl ?_
            refine XO.v (V.assign rfl) rfl ?_
            refine XO.v (V.assign rfl) rfl ?_
            refine XO.nil ?_
            refine XE.next ?_
            refine XC.keep [(6, _), (20, _)] (Sub.cons rfl (Sub.cons rfl (Sub.nil _))) ?_
            refine XC.seq ?_
            refine XC.region ?_
            refine XO.v (V.move rfl) rfl ?_
            refine XO.v (V.not rfl) rfl ?_
            refine XO.v (V.move rfl) rfl ?_
            refine XO.guardRun rfl rfl rfl ?_
            refine XO.v (V.move rfl) rfl ?_
            refine XO.guardRun rfl rfl rfl ?_
            refine XO.call rfl (q_Len _ _ _ _ _) (.cons .here (.cons .here .nil)) cl_58 rfl ?_
            rintro _ _ ⟨rfl, rfl⟩
            refine XO.guardRun rfl rfl rfl ?_
            refine XO.v (V.cmp rfl rfl rfl) rfl ?_
            refine XO.v (V.pick rfl rfl rfl rfl) rfl ?_
            refine XO.v (V.assign rfl) rfl ?_
            refine XO.nil ?_
            refine XE.next ?_
            refine XC.keep [(4, _)] (Sub.cons rfl (Sub.nil _)) ?_
            refine XC.ret ?_
            refine XE.ret1 rfl rfl (post_of .nil rfl ?_)
            first | exact ⟨rfl, rfl⟩ | exact ⟨congrArg Value.bool (by simp; omega), rfl⟩
      · skip
        refine XO.guardSkip rfl rfl rfl rfl rfl ?_
        refine XO.guardSkip rfl rfl rfl rfl rfl ?_
        refine XO.guardSkip rfl rfl rfl rfl rfl ?_
        refine XO.guardSkip rfl rfl rfl rfl rfl ?_
        refine XO.v (V.pick rfl rfl rfl rfl) rfl ?_
        refine XO.nil ?_
        refine XE.next ?_
        refine XC.keep [(0, _), (1, _), (6, _), (7, _), (8, _), (9, _), (10, _), (50, _)] (Sub.cons rfl (Sub.cons rfl (Sub.cons rfl (Sub.cons rfl (Sub.cons rfl (Sub.cons rfl (Sub.cons rfl (Sub.cons rfl (Sub.nil _))))))))) ?_
        refine XC.condF rfl rfl ?_
        refine XC.exit ?_
        refine XE.thenExit ?_
        refine XE.thenExit ?_
        refine XE.blockExit ?_
        refine XE.next ?_
        refine XC.keep [(6, _), (7, _), (8, _), (9, _)] (Sub.cons rfl (Sub.cons rfl (Sub.cons rfl (Sub.cons rfl (Sub.nil _))))) ?_
        refine XC.seq ?_
        refine XC.region ?_
        refine XO.v (V.assign rfl) rfl ?_
        refine XO.nil ?_
        refine XE.next ?_
        refine XC.keep [(6, _), (7, _), (8, _), (9, _), (11, _)] (Sub.cons rfl (Sub.cons rfl (Sub.cons rfl (Sub.cons rfl (Sub.cons rfl (Sub.nil _)))))) ?_
        refine XC.seq ?_
        refine XC.region ?_
        refine XO.v (V.assign rfl) rfl ?_
        refine XO.nil ?_
        refine XE.next ?_
        refine XC.keep [(6, _), (7, _), (8, _), (9, _), (11, _), (12, _)] (Sub.cons rfl (Sub.cons rfl (Sub.cons rfl (Sub.cons rfl (Sub.cons rfl (Sub.cons rfl (Sub.nil _))))))) ?_
        refine XC.seq ?_
        refine XC.block ?_
        refine XC.loop (σ := TQ) (fun x => x.n.toNat) (fun x => x.V) (fun x => [(9, .int .i64 x.n), (11, .int .u64 x.was), (12, .int .i64 x.last), (6, ptr b6 0 0), (7, ptr b7 0 0), (8, ptr b8 0 0)]) (fun x => XM W (foot [.ro b1 o1 n1 (encI A n1), .ro b2 o2 n2 (encW B n2)]) [.cells b6 0 65 (encQ x.s x.p x.c), frow x.p x.c 126 2 (x.s).n (encH x.s), .cells b7 0 64 (encW x.key 64), .cells b8 0 64 (encBl x.inn 64)]) (x) ?_ (Sub.cons rfl (Sub.cons (eqi hw1.symm) (Sub.cons (eqi hw2.symm) (Sub.cons rfl (Sub.cons rfl (Sub.cons rfl (Sub.nil _))))))) (fun _ hw => XM.pick (.cons .here (.cons .here (.cons .here (.cons .here .nil)))) hw) ?_
        · skip
          exact hx
        clear hw1 hw2
        intro x hx
        have hi0 := hx.i0
        have hxn := hx.n
        have h64 := hx.ok.n64
        refine XC.seq ?_
        refine XC.seq ?_
        refine XC.region ?_
        refine XO.v (V.move rfl) rfl ?_
        refine XO.v (V.cmp rfl rfl rfl) rfl ?_
        refine XO.nil ?_
        refine XE.next ?_
        refine XC.keep [(6, _), (7, _), (8, _), (9, _), (11, _), (12, _), (87, _)] (Sub.cons rfl (Sub.cons rfl (Sub.cons rfl (Sub.cons rfl (Sub.cons rfl (Sub.cons rfl (Sub.cons rfl (Sub.nil _)))))))) ?_
        refine XC.condP rfl (fun h16 => ?_) (fun h16 => ?_)
        · skip
          obtain ⟨⟨e0, e1⟩, e2, e3, e4, e5, e6, _⟩ := hx.cut (by omega) none 0
          have e7 : (x.s.cut (x.s.I 0)).2.1 = 0 := by rw [e6]
          have e8 : (x.s.cut (x.s.I 0)).1 = x.s.K 0 := by rw [e6]
          refine XC.skip ?_
          refine XE.next ?_
          refine XC.keep [(6, _), (7, _), (8, _), (9, _), (11, _), (12, _)] (Sub.cons rfl (Sub.cons rfl (Sub.cons rfl (Sub.cons rfl (Sub.cons rfl (Sub.cons rfl (Sub.nil _))))))) ?_
          refine XC.block ?_
          refine XC.seq ?_
          refine XC.seq ?_
          refine XC.region ?_
          refine XO.v (V.move rfl) rfl ?_
          refine XO.call rfl (q_Len _ _ _ _ _) (.cons .here (.cons .here .nil)) cl_58 rfl ?_
          rintro _ _ ⟨rfl, rfl⟩
          refine XO.v (V.move rfl) rfl ?_
          refine XO.v (V.cmp rfl rfl rfl) rfl ?_
          refine XO.nil ?_
          refine XE.next ?_
          refine XC.keep [(6, _), (7, _), (8, _), (9, _), (11, _), (12, _), (91, _)] (Sub.cons rfl (Sub.cons rfl (Sub.cons rfl (Sub.cons rfl (Sub.cons rfl (Sub.cons rfl (Sub.cons rfl (Sub.nil _)))))))) ?_
          refine XC.condFP rfl (by omega) ?_
          refine XC.skip ?_
          refine XE.next ?_
          refine XC.keep [(6, _), (7, _), (8, _), (9, _), (11, _), (12, _)] (Sub.cons rfl (Sub.cons rfl (Sub.cons rfl (Sub.cons rfl (Sub.cons rfl (Sub.cons rfl (Sub.nil _))))))) ?_
          refine XC.seq ?_
          refine XC.region ?_
          refine XO.v (V.move rfl) rfl ?_
          refine XO.call rfl (q_First1 _ _ _ _ x.s (by omega)) (.cons .here (.cons .here .nil)) cl_57 rfl ?_
          rintro _ _ ⟨rfl, rfl⟩
          refine XO.v (V.move rfl) rfl ?_
          refine XO.v (V.extract rfl rfl) rfl ?_
          refine XO.v (V.extract rfl rfl) rfl ?_
          refine XO.v (V.extract rfl rfl) rfl ?_
          refine XO.v (V.assign rfl) rfl ?_
          refine XO.v (V.assign rfl) rfl ?_
          refine XO.v (V.assign rfl) rfl ?_
          refine XO.nil ?_
          refine XE.next ?_
          refine XC.keep [(6, _), (7, _), (8, _), (9, _), (11, _), (12, _), (13, _), (14, _), (15, _)] (Sub.cons rfl (Sub.cons rfl (Sub.cons rfl (Sub.cons rfl (Sub.cons rfl (Sub.cons rfl (Sub.cons rfl (Sub.cons rfl (Sub.cons rfl (Sub.nil _)))))))))) ?_
          refine XC.seq ?_
          refine XC.seq ?_
          refine XC.region ?_
          refine XO.v (V.move rfl) rfl ?_
          refine XO.v (V.not rfl) rfl ?_
          refine XO.v (V.move rfl) rfl ?_
          refine XO.guardRun rfl rfl rfl ?_
          refine XO.v (V.move rfl) rfl ?_
          refine XO.guardRun rfl rfl rfl ?_
          refine XO.v (V.cmp rfl rfl rfl) rfl ?_
          refine XO.v (V.pick rfl rfl rfl rfl) rfl ?_
          refine XO.v (V.move rfl) rfl ?_
          refine XO.splitF (d := 104) rfl (by omega) ?_
          refine XO.guardRun rfl rfl rfl ?_
          refine XO.v (V.move rfl) rfl ?_
          refine XO.guardRun rfl rfl rfl ?_
          refine XO.v (V.cmp rfl rfl rfl) rfl ?_
          refine XO.v (V.pick rfl rfl rfl rfl) rfl ?_
          refine XO.v (V.move rfl) rfl ?_
          refine XO.splitF (d := 108) rfl (by omega) ?_
          refine XO.guardRun rfl rfl rfl ?_
          refine XO.v (V.move rfl) rfl ?_
          refine XO.guardRun rfl rfl rfl ?_
          refine XO.v (V.indexArr rfl rfl ar_74 (by omega)) rfl ?_
          refine XO.guardRun rfl rfl rfl ?_
          refine XO.v (V.load rfl (inXM (.there (.there (.there .here)))) (encBl.ld _ _ _ (by omega)) sc_4) rfl ?_
          refine XO.guardRun rfl rfl rfl ?_
          refine XO.v (V.not rfl) rfl ?_
          refine XO.v (V.pick rfl rfl rfl rfl) rfl ?_
          refine XO.v (V.move rfl) rfl ?_
          refine XO.split (d := 114) rfl (fun h19 => ?_) (fun h19 => ?_)
          · try simp at h19
            all_goals (simp [e2] at h19)
          · try simp at h19
            refine XO.guardRun rfl rfl rfl ?_
            refine XO.v (V.move rfl) rfl ?_
            refine XO.guardRun rfl rfl rfl ?_
            refine XO.v (V.move rfl) rfl ?_
            refine XO.guardRun rfl rfl rfl ?_
            refine XO.v (V.indexArr rfl rfl ar_75 (by omega)) rfl ?_
            refine XO.guardRun rfl rfl rfl ?_
            refine XO.v (V.load rfl (inXM (.there (.there .here))) (encW.ld _ _ _ (by omega)) sc_29) rfl ?_
            refine XO.guardRun rfl rfl rfl ?_
            refine XO.v (V.cmp rfl rfl rfl) rfl ?_
            refine XO.v (V.pick rfl rfl rfl rfl) rfl ?_
            refine XO.v (V.move rfl) rfl ?_
            refine XO.splitF (d := 121) rfl (by omega) ?_
            refine XO.guardRun rfl rfl rfl ?_
            refine XO.v (V.move rfl) rfl ?_
            refine XO.guardRun rfl rfl rfl ?_
            refine XO.v (V.move rfl) rfl ?_
            refine XO.guardRun rfl rfl rfl ?_
            refine XO.v (V.cmp rfl rfl rfl) rfl ?_
            refine XO.v (V.pick rfl rfl rfl rfl) rfl ?_
            refine XO.v (V.move rfl) rfl ?_
            refine XO.splitF (d := 126) rfl (by omega) ?_
            refine XO.guardRun rfl rfl rfl ?_
            refine XO.v (V.move rfl) rfl ?_
            refine XO.guardRun rfl rfl rfl ?_
            refine XO.v (V.move rfl) rfl ?_
            refine XO.guardRun rfl rfl rfl ?_
            refine XO.v (V.cmp rfl rfl rfl) rfl ?_
            refine XO.guardRun rfl rfl rfl ?_
            refine XO.v (V.move rfl) rfl ?_
            refine XO.splitP (d := 130) rfl (fun h22 => ?_) (fun h22 => ?_)
            · skip
              refine XO.guardRun rfl rfl rfl ?_
              refine XO.v (V.move rfl) rfl ?_
              refine XO.guardRun rfl rfl rfl ?_
              refine XO.v (V.move rfl) rfl ?_
              refine XO.guardRun rfl rfl rfl ?_
              refine XO.v (V.cmp rfl rfl rfl) rfl ?_
              refine XO.guardRun rfl rfl rfl ?_
              refine XO.v (V.pick rfl rfl rfl rfl) rfl ?_
              refine XO.v (V.pick rfl rfl rfl rfl) rfl ?_
              refine XO.nil ?_
              refine XE.next ?_
              refine XC.keep [(6, _), (7, _), (8, _), (9, _), (13, _), (14, _), (135, _)] (Sub.cons rfl (Sub.cons rfl (Sub.cons rfl (Sub.cons rfl (Sub.cons rfl (Sub.cons rfl (Sub.cons rfl (Sub.nil _)))))))) ?_
              refine XC.condFP rfl (by omega) ?_
              refine XC.skip ?_
              refine XE.next ?_
              refine XC.keep [(6, _), (7, _), (8, _), (9, _), (13, _), (14, _)] (Sub.cons rfl (Sub.cons rfl (Sub.cons rfl (Sub.cons rfl (Sub.cons rfl (Sub.cons rfl (Sub.nil _))))))) ?_
              refine XC.seq ?_
              refine XC.region ?_
              refine XO.v (V.move rfl) rfl ?_
              refine XO.v (V.move rfl) rfl ?_
              refine XO.call rfl (q_Cut _ _ _ _ x.s hx.ok hx.heap (x.s.I 0)) (.cons .here (.cons .here .nil)) cl_51 rfl ?_
              rintro _ _ ⟨p4, c4, rfl, rfl⟩
              refine XO.v (V.move rfl) rfl ?_
              refine XO.v (V.extract rfl rfl) rfl ?_
              refine XO.v (V.extract rfl rfl) rfl ?_
              refine XO.v (V.assign rfl) rfl ?_
              refine XO.v (V.assign rfl) rfl ?_
              refine XO.nil ?_
              refine XE.next ?_
              refine XC.keep [(6, _), (7, _), (8, _), (9, _), (13, _), (14, _), (16, _), (17, _)] (Sub.cons rfl (Sub.cons rfl (Sub.cons rfl (Sub.cons rfl (Sub.cons rfl (Sub.cons rfl (Sub.cons rfl (Sub.cons rfl (Sub.nil _))))))))) ?_
              refine XC.seq ?_
              refine XC.seq ?_
              refine XC.region ?_
              refine XO.v (V.move rfl) rfl ?_
              refine XO.v (V.errNil rfl Try.underlying33 rfl) rfl ?_
              refine XO.v (V.move rfl) rfl ?_
              refine XO.splitF (d := 144) rfl (by simp [e7]) ?_
              refine XO.guardRun rfl rfl rfl ?_
              refine XO.v (V.move rfl) rfl ?_
              refine XO.guardRun rfl rfl rfl ?_
              refine XO.v (V.move rfl) rfl ?_
              refine XO.guardRun rfl rfl rfl ?_
              refine XO.v (V.cmp rfl rfl rfl) rfl ?_
              refine XO.v (V.pick rfl rfl rfl rfl) rfl ?_
              refine XO.nil ?_
              refine XE.next ?_
              refine XC.keep [(6, _), (7, _), (8, _), (9, _), (13, _), (14, _), (148, _)] (Sub.cons rfl (Sub.cons rfl (Sub.cons rfl (Sub.cons rfl (Sub.cons rfl (Sub.cons rfl (Sub.cons rfl (Sub.nil _)))))))) ?_
              refine XC.condFP rfl (by omega) ?_
              refine XC.skip ?_
              refine XE.next ?_
              refine XC.keep [(6, _), (7, _), (8, _), (9, _), (13, _), (14, _)] (Sub.cons rfl (Sub.cons rfl (Sub.cons rfl (Sub.cons rfl (Sub.cons rfl (Sub.cons rfl (Sub.nil _))))))) ?_
              refine XC.seq ?_
              refine XC.region ?_
              refine XO.v (V.move rfl) rfl ?_
              refine XO.v (V.indexArr rfl rfl ar_74 (by omega)) rfl ?_
              refine XO.store rfl rfl (.there (.there (.there .here))) (encBl.st _ _ _ _ (by omega)) rfl sz_4_1 ?_
              refine XO.nil ?_
              refine XE.next ?_
              refine XC.keep [(6, _), (7, _), (8, _), (9, _), (13, _), (14, _)] (Sub.cons rfl (Sub.cons rfl (Sub.cons rfl (Sub.cons rfl (Sub.cons rfl (Sub.cons rfl (Sub.nil _))))))) ?_
              refine XC.seq ?_
              refine XC.region ?_
              refine XO.v (V.move rfl) rfl ?_
              refine XO.v (V.assign rfl) rfl ?_
              refine XO.nil ?_
              refine XE.next ?_
              refine XC.keep [(6, _), (7, _), (8, _), (9, _), (11, _), (13, _)] (Sub.cons rfl (Sub.cons rfl (Sub.cons rfl (Sub.cons rfl (Sub.cons rfl (Sub.cons rfl (Sub.nil _))))))) ?_
              refine XC.seq ?_
              refine XC.region ?_
              refine XO.v (V.move rfl) rfl ?_
              refine XO.v (V.assign rfl) rfl ?_
              refine XO.nil ?_
              refine XE.next ?_
              refine XC.keep [(6, _), (7, _), (8, _), (9, _), (11, _), (12, _)] (Sub.cons rfl (Sub.cons rfl (Sub.cons rfl (Sub.cons rfl (Sub.cons rfl (Sub.cons rfl (Sub.nil _))))))) ?_
              refine XC.region ?_
              refine XO.v (V.move rfl) rfl ?_
              refine XO.v (V.sub rfl rfl _ (IntWalk.i64_in _ (by omega))) rfl ?_
              refine XO.v (V.assign rfl) rfl ?_
              refine XO.nil ?_
              refine XE.blockNormal ?_
              refine XE.again (⟨x.s.cutOk (x.s.I 0), p4, c4, x.key, fset x.inn (x.s.I 0) false, x.n - 1, x.i, x.s.K 0, x.s.I 0⟩) ?_ ?_ (Sub.cons rfl (Sub.cons rfl (Sub.cons rfl (Sub.cons rfl (Sub.cons rfl (Sub.cons rfl (Sub.nil _))))))) (fun _ hw2 => by rw [e6] at hw2; exact XM.pick (.cons .here (.cons .here (.cons .here (.cons .here .nil)))) hw2)
              · skip
                (simp; omega)
              · skip
                exact (hx.cut (by omega) p4 c4).2.2.2.2.2.2
            · skip
              refine XO.guardSkip rfl rfl rfl rfl rfl ?_
              refine XO.guardSkip rfl rfl rfl rfl rfl ?_
              refine XO.guardSkip rfl rfl rfl rfl rfl ?_
              refine XO.guardRun rfl rfl rfl ?_
              refine XO.v (V.pick rfl rfl rfl rfl) rfl ?_
              refine XO.v (V.pick rfl rfl rfl rfl) rfl ?_
              refine XO.nil ?_
              refine XE.next ?_
              refine XC.keep [(6, _), (7, _), (8, _), (9, _), (13, _), (14, _), (135, _)] (Sub.cons rfl (Sub.cons rfl (Sub.cons rfl (Sub.cons rfl (Sub.cons rfl (Sub.cons rfl (Sub.cons rfl (Sub.nil _)))))))) ?_
              refine XC.condF rfl rfl ?_
              refine XC.skip ?_
              refine XE.next ?_
              refine XC.keep [(6, _), (7, _), (8, _), (9, _), (13, _), (14, _)] (Sub.cons rfl (Sub.cons rfl (Sub.cons rfl (Sub.cons rfl (Sub.cons rfl (Sub.cons rfl (Sub.nil _))))))) ?_
              refine XC.seq ?_
              refine XC.region ?_
              refine XO.v (V.move rfl) rfl ?_
              refine XO.v (V.move rfl) rfl ?_
              refine XO.call rfl (q_Cut _ _ _ _ x.s hx.ok hx.heap (x.s.I 0)) (.cons .here (.cons .here .nil)) cl_51 rfl ?_
              rintro _ _ ⟨p4, c4, rfl, rfl⟩
              refine XO.v (V.move rfl) rfl ?_
              refine XO.v (V.extract rfl rfl) rfl ?_
              refine XO.v (V.extract rfl rfl) rfl ?_
              refine XO.v (V.assign rfl) rfl ?_
              refine XO.v (V.assign rfl) rfl ?_
              refine XO.nil ?_
              refine XE.next ?_
              refine XC.keep [(6, _), (7, _), (8, _), (9, _), (13, _), (14, _), (16, _), (17, _)] (Sub.cons rfl (Sub.cons rfl (Sub.cons rfl (Sub.cons rfl (Sub.cons rfl (Sub.cons rfl (Sub.cons rfl (Sub.cons rfl (Sub.nil _))))))))) ?_
              refine XC.seq ?_
              refine XC.seq ?_
              refine XC.region ?_
              refine XO.v (V.move rfl) rfl ?_
              refine XO.v (V.errNil rfl Try.underlying33 rfl) rfl ?_
              refine XO.v (V.move rfl) rfl ?_
              refine XO.splitF (d := 144) rfl (by simp [e7]) ?_
              refine XO.guardRun rfl rfl rfl ?_
              refine XO.v (V.move rfl) rfl ?_
              refine XO.guardRun rfl rfl rfl ?_
              refine XO.v (V.move rfl) rfl ?_
              refine XO.guardRun rfl rfl rfl ?_
              refine XO.v (V.cmp rfl rfl rfl) rfl ?_
              refine XO.v (V.pick rfl rfl rfl rfl) rfl ?_
              refine XO.nil ?_
              refine XE.next ?_
              refine XC.keep [(6, _), (7, _), (8, _), (9, _), (13, _), (14, _), (148, _)] (Sub.cons rfl (Sub.cons rfl (Sub.cons rfl (Sub.cons rfl (Sub.cons rfl (Sub.cons rfl (Sub.cons rfl (Sub.nil _)))))))) ?_
              refine XC.condFP rfl (by omega) ?_
              refine XC.skip ?_
              refine XE.next ?_
              refine XC.keep [(6, _), (7, _), (8, _), (9, _), (13, _), (14, _)] (Sub.cons rfl (Sub.cons rfl (Sub.cons rfl (Sub.cons rfl (Sub.cons rfl (Sub.cons rfl (Sub.nil _))))))) ?_
              refine XC.seq ?_
              refine XC.region ?_
              refine XO.v (V.move rfl) rfl ?_
              refine XO.v (V.indexArr rfl rfl ar_74 (by omega)) rfl ?_
              refine XO.store rfl rfl (.there (.there (.there .here))) (encBl.st _ _ _ _ (by omega)) rfl sz_4_1 ?_
              refine XO.nil ?_
              refine XE.next ?_
              refine XC.keep [(6, _), (7, _), (8, _), (9, _), (13, _), (14, _)] (Sub.cons rfl (Sub.cons rfl (Sub.cons rfl (Sub.cons rfl (Sub.cons rfl (Sub.cons rfl (Sub.nil _))))))) ?_
              refine XC.seq ?_
              refine XC.region ?_
              refine XO.v (V.move rfl) rfl ?_
              refine XO.v (V.assign rfl) rfl ?_
              refine XO.nil ?_
              refine XE.next ?_
              refine XC.keep [(6, _), (7, _), (8, _), (9, _), (11, _), (13, _)] (Sub.cons rfl (Sub.cons rfl (Sub.cons rfl (Sub.cons rfl (Sub.cons rfl (Sub.cons rfl (Sub.nil _))))))) ?_
              refine XC.seq ?_
              refine XC.region ?_
              refine XO.v (V.move rfl) rfl ?_
              refine XO.v (V.assign rfl) rfl ?_
              refine XO.nil ?_
              refine XE.next ?_
              refine XC.keep [(6, _), (7, _), (8, _), (9, _), (11, _), (12, _)] (Sub.cons rfl (Sub.cons rfl (Sub.cons rfl (Sub.cons rfl (Sub.cons rfl (Sub.cons rfl (Sub.nil _))))))) ?_
              refine XC.region ?_
              refine XO.v (V.move rfl) rfl ?_
              refine XO.v (V.sub rfl rfl _ (IntWalk.i64_in _ (by omega))) rfl ?_
              refine XO.v (V.assign rfl) rfl ?_
              refine XO.nil ?_
              refine XE.blockNormal ?_
              refine XE.again (⟨x.s.cutOk (x.s.I 0), p4, c4, x.key, fset x.inn (x.s.I 0) false, x.n - 1, x.i, x.s.K 0, x.s.I 0⟩) ?_ ?_ (Sub.cons rfl (Sub.cons rfl (Sub.cons rfl (Sub.cons rfl (Sub.cons rfl (Sub.cons rfl (Sub.nil _))))))) (fun _ hw2 => by rw [e6] at hw2; exact XM.pick (.cons .here (.cons .here (.cons .here (.cons .here .nil)))) hw2)
              · skip
                (simp; omega)
              · skip
                exact (hx.cut (by omega) p4 c4).2.2.2.2.2.2
        · skip
          refine XC.exit ?_
          refine XE.thenExit ?_
          refine XE.thenExit ?_
          refine XE.blockExit ?_
          refine XE.next ?_
          refine XC.keep [(6, _)] (Sub.cons rfl (Sub.nil _)) ?_
          refine XC.seq ?_
          refine XC.region ?_
          refine XO.v (V.move rfl) rfl ?_
          refine XO.call rfl (q_First0 _ _ _ _ x.s (by omega)) (.cons .here (.cons .here .nil)) cl_57 rfl ?_
          rintro _ _ ⟨rfl, rfl⟩
          refine XO.v (V.move rfl) rfl ?_
          refine XO.v (V.extract rfl rfl) rfl ?_
          refine XO.v (V.extract rfl rfl) rfl ?_
          refine XO.v (V.extract rfl rfl) rfl ?_
          refine XO.v (V.assign rfl) rfl ?_
          refine XO.v (V.assign rfl) rfl ?_
          refine XO.v (V.assign rfl) rfl ?_
          refine XO.nil ?_
          refine XE.next ?_
          refine XC.keep [(6, _), (20, _)] (Sub.cons rfl (Sub.cons rfl (Sub.nil _))) ?_
          refine XC.seq ?_
          refine XC.region ?_
          refine XO.v (V.move rfl) rfl ?_
          refine XO.v (V.not rfl) rfl ?_
          refine XO.v (V.move rfl) rfl ?_
          refine XO.guardRun rfl rfl rfl ?_
          refine XO.v (V.move rfl) rfl ?_
          refine XO.guardRun rfl rfl rfl ?_
          refine XO.call rfl (q_Len _ _ _ _ _) (.cons .here (.cons .here .nil)) cl_58 rfl ?_
          rintro _ _ ⟨rfl, rfl⟩
          refine XO.guardRun rfl rfl rfl ?_
          refine XO.v (V.cmp rfl rfl rfl) rfl ?_
          refine XO.v (V.pick rfl rfl rfl rfl) rfl ?_
          refine XO.v (V.assign rfl) rfl ?_
          refine XO.nil ?_
          refine XE.next ?_
          refine XC.keep [(4, _)] (Sub.cons rfl (Sub.nil _)) ?_
          refine XC.ret ?_
          refine XE.ret1 rfl rfl (post_of .nil rfl ?_)
          first | exact ⟨rfl, rfl⟩ | exact ⟨congrArg Value.bool (by simp; omega), rfl⟩
end Go.X
