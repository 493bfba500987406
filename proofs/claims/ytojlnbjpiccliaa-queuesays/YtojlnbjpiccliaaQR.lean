import Derived.Test.YtojlnbjpiccliaaQRM
import Derived.Test.YtojlnbjpiccliaaQW
namespace Go.X
open Go Go.Proofs
theorem ar_74 : arrOf Try.prog 74 = some (64, 1) := by kernel_rfl
theorem ar_75 : arrOf Try.prog 75 = some (64, 1) := by kernel_rfl
theorem cl_49 : callable Try.prog 49 = true := by kernel_rfl
theorem cl_51 : callable Try.prog 51 = true := by kernel_rfl
theorem cl_57 : callable Try.prog 57 = true := by kernel_rfl
theorem cl_58 : callable Try.prog 58 = true := by kernel_rfl
theorem cl_89 : callable Try.prog 89 = true := by kernel_rfl
theorem fo_77_0 : fieldOff Try.prog 77 0 = some 0 := by kernel_rfl
theorem fo_77_1 : fieldOff Try.prog 77 1 = some 64 := by kernel_rfl
theorem sc_4 : scal Try.prog 4 = true := by kernel_rfl
theorem sl_85 : sliceOf Try.prog 85 = some (3, 1) := by kernel_rfl
theorem sl_90 : sliceOf Try.prog 90 = some (29, 1) := by kernel_rfl
theorem sz_29_1 : szOf Try.prog 29 = some 1 := by kernel_rfl
theorem sz_4_1 : szOf Try.prog 4 = some 1 := by kernel_rfl
set_option maxRecDepth 10000 in
set_option maxHeartbeats 400000 in
theorem qr_Is (b o : Nat) (r : RQ) (id : Int) : Spec Try.prog 89 [ptr b o 0, .int .i64 id]
    [.cells b o 128 (encRQ r)]
    (fun v H1 => v = .int .i64 (r.is id) ∧ H1 = [.cells b o 128 (encRQ (r))]) := by
  refine Spec.intro Try.func89 rfl rfl ?_
  intro W
  refine XC.seq ?_
  refine XC.region ?_
  refine XO.v (V.assign rfl) rfl ?_
  refine XO.nil ?_
  refine XE.next ?_
  refine XC.keep [(0, _), (1, _)] (Sub.cons rfl (Sub.cons rfl (Sub.nil _))) ?_
  refine XC.seq ?_
  refine XC.seq ?_
  refine XC.region ?_
  refine XO.v (V.move rfl) rfl ?_
  refine XO.v (V.cmp rfl rfl rfl) rfl ?_
  refine XO.v (V.move rfl) rfl ?_
  refine XO.splitP (d := 7) rfl (fun h1 => ?_) (fun h1 => ?_)
  · skip
    refine XO.guardSkip rfl rfl rfl rfl rfl ?_
    refine XO.guardSkip rfl rfl rfl rfl rfl ?_
    refine XO.v (V.pick rfl rfl rfl rfl) rfl ?_
    refine XO.nil ?_
    refine XE.next ?_
    refine XC.keep [(0, _), (1, _), (10, _)] (Sub.cons rfl (Sub.cons rfl (Sub.cons rfl (Sub.nil _)))) ?_
    refine XC.condT rfl rfl ?_
    refine XC.seq ?_
    refine XC.region ?_
    refine XO.v (V.assign rfl) rfl ?_
    refine XO.nil ?_
    refine XE.next ?_
    refine XC.keep [(4, _)] (Sub.cons rfl (Sub.nil _)) ?_
    refine XC.ret ?_
    refine XE.thenRet ?_
    refine XE.ret1 rfl rfl (post_of (.cons .here .nil) rfl ?_)
    rw [RQ.is_bound (by omega)]; exact ⟨rfl, rfl⟩
  · skip
    refine XO.guardRun rfl rfl rfl ?_
    refine XO.v (V.move rfl) rfl ?_
    refine XO.guardRun rfl rfl rfl ?_
    refine XO.v (V.cmp rfl rfl rfl) rfl ?_
    refine XO.v (V.pick rfl rfl rfl rfl) rfl ?_
    refine XO.nil ?_
    refine XE.next ?_
    refine XC.keep [(0, _), (1, _), (10, _)] (Sub.cons rfl (Sub.cons rfl (Sub.cons rfl (Sub.nil _)))) ?_
    refine XC.condP rfl (fun h2 => ?_) (fun h2 => ?_)
    · skip
      refine XC.seq ?_
      refine XC.region ?_
      refine XO.v (V.assign rfl) rfl ?_
      refine XO.nil ?_
      refine XE.next ?_
      refine XC.keep [(4, _)] (Sub.cons rfl (Sub.nil _)) ?_
      refine XC.ret ?_
      refine XE.thenRet ?_
      refine XE.ret1 rfl rfl (post_of (.cons .here .nil) rfl ?_)
      rw [RQ.is_bound (by omega)]; exact ⟨rfl, rfl⟩
    · skip
      refine XC.skip ?_
      refine XE.next ?_
      refine XC.keep [(0, _), (1, _)] (Sub.cons rfl (Sub.cons rfl (Sub.nil _))) ?_
      refine XC.seq ?_
      refine XC.seq ?_
      refine XC.region ?_
      refine XO.v (V.move rfl) rfl ?_
      refine XO.v (V.move rfl) rfl ?_
      refine XO.v (V.nilCheckP rfl) rfl ?_
      refine XO.v (V.fieldAddr rfl fo_77_0) rfl ?_
      refine XO.v (V.indexArr rfl rfl ar_74 (by omega)) rfl ?_
      refine XO.v (V.load rfl (inXM .here) (encRQ.ld_In_I _ _ (by omega)) sc_4) rfl ?_
      refine XO.v (V.not rfl) rfl ?_
      refine XO.nil ?_
      refine XE.next ?_
      refine XC.keep [(17, _)] (Sub.cons rfl (Sub.nil _)) ?_
      refine XC.cond rfl (fun h3 => ?_) (fun h3 => ?_)
      · try simp only [decide_eq_true_eq, decide_eq_false_iff_not, Bool.not_eq_true', Bool.not_eq_false', Bool.not_eq_eq_eq_not, Bool.not_true, Bool.not_false, beq_iff_eq, bne_iff_ne, ne_eq, beq_eq_false_iff_ne, bne_eq_false_iff_eq, Int.not_lt, Int.not_le, gt_iff_lt, ge_iff_le, Bool.and_eq_true, Bool.or_eq_true, Bool.and_eq_false_iff, Bool.or_eq_false_iff, Decidable.not_not] at h3
        refine XC.seq ?_
        refine XC.region ?_
        refine XO.v (V.assign rfl) rfl ?_
        refine XO.nil ?_
        refine XE.next ?_
        refine XC.keep [(4, _)] (Sub.cons rfl (Sub.nil _)) ?_
        refine XC.ret ?_
        refine XE.thenRet ?_
        refine XE.ret1 rfl rfl (post_of (.cons .here .nil) rfl ?_)
        rw [RQ.is_none (by omega) (by assumption)]; exact ⟨rfl, rfl⟩
      · try simp only [decide_eq_true_eq, decide_eq_false_iff_not, Bool.not_eq_true', Bool.not_eq_false', Bool.not_eq_eq_eq_not, Bool.not_true, Bool.not_false, beq_iff_eq, bne_iff_ne, ne_eq, beq_eq_false_iff_ne, bne_eq_false_iff_eq, Int.not_lt, Int.not_le, gt_iff_lt, ge_iff_le, Bool.and_eq_true, Bool.or_eq_true, Bool.and_eq_false_iff, Bool.or_eq_false_iff, Decidable.not_not] at h3
        refine XC.skip ?_
        refine XE.next ?_
        refine XC.keep [] (Sub.nil _) ?_
        refine XC.seq ?_
        refine XC.region ?_
        refine XO.v (V.assign rfl) rfl ?_
        refine XO.nil ?_
        refine XE.next ?_
        refine XC.keep [(4, _)] (Sub.cons rfl (Sub.nil _)) ?_
        refine XC.ret ?_
        refine XE.ret1 rfl rfl (post_of (.cons .here .nil) rfl ?_)
        rw [RQ.is_ok (by omega) (by assumption)]; exact ⟨rfl, rfl⟩
set_option maxRecDepth 10000 in
set_option maxHeartbeats 400000 in
theorem qr_Put (b o : Nat) (r : RQ) (id k : Int) : Spec Try.prog 50 [ptr b o 0, .int .i64 id, .int .u64 k]
    [.cells b o 128 (encRQ r)]
    (fun v H1 => v = .int .i64 (r.put id k).1 ∧ H1 = [.cells b o 128 (encRQ ((r.put id k).2))]) := by
  have hcs := r.is_cases id
  refine Spec.intro Try.func50 rfl rfl ?_
  intro W
  refine XC.seq ?_
  refine XC.region ?_
  refine XO.v (V.assign rfl) rfl ?_
  refine XO.nil ?_
  refine XE.next ?_
  refine XC.keep [(0, _), (1, _), (2, _)] (Sub.cons rfl (Sub.cons rfl (Sub.cons rfl (Sub.nil _)))) ?_
  refine XC.seq ?_
  refine XC.region ?_
  refine XO.v (V.move rfl) rfl ?_
  refine XO.v (V.move rfl) rfl ?_
  refine XO.call rfl (qr_Is _ _ _ _) (.cons .here .nil) cl_89 rfl ?_
  rintro _ _ ⟨rfl, rfl⟩
  refine XO.v (V.assign rfl) rfl ?_
  refine XO.nil ?_
  refine XE.next ?_
  refine XC.keep [(0, _), (1, _), (2, _), (7, _)] (Sub.cons rfl (Sub.cons rfl (Sub.cons rfl (Sub.cons rfl (Sub.nil _))))) ?_
  refine XC.seq ?_
  refine XC.seq ?_
  refine XC.region ?_
  refine XO.v (V.move rfl) rfl ?_
  refine XO.v (V.cmp rfl rfl rfl) rfl ?_
  refine XO.nil ?_
  refine XE.next ?_
  refine XC.keep [(0, _), (1, _), (2, _), (7, _), (12, _)] (Sub.cons rfl (Sub.cons rfl (Sub.cons rfl (Sub.cons rfl (Sub.cons rfl (Sub.nil _)))))) ?_
  refine XC.condP rfl (fun h1 => ?_) (fun h1 => ?_)
  · skip
    refine XC.seq ?_
    refine XC.region ?_
    refine XO.v (V.move rfl) rfl ?_
    refine XO.v (V.assign rfl) rfl ?_
    refine XO.nil ?_
    refine XE.next ?_
    refine XC.keep [(6, _)] (Sub.cons rfl (Sub.nil _)) ?_
    refine XC.ret ?_
    refine XE.thenRet ?_
    refine XE.ret1 rfl rfl (post_of (.cons .here .nil) rfl ?_)
    rw [RQ.put_bound k (by omega), show r.is id = 1 from by omega]; exact ⟨rfl, rfl⟩
  · skip
    refine XC.skip ?_
    refine XE.next ?_
    refine XC.keep [(0, _), (1, _), (2, _), (7, _)] (Sub.cons rfl (Sub.cons rfl (Sub.cons rfl (Sub.cons rfl (Sub.nil _))))) ?_
    refine XC.seq ?_
    refine XC.seq ?_
    refine XC.region ?_
    refine XO.v (V.move rfl) rfl ?_
    refine XO.v (V.cmp rfl rfl rfl) rfl ?_
    refine XO.nil ?_
    refine XE.next ?_
    refine XC.keep [(0, _), (1, _), (2, _), (15, _)] (Sub.cons rfl (Sub.cons rfl (Sub.cons rfl (Sub.cons rfl (Sub.nil _))))) ?_
    refine XC.condP rfl (fun h2 => ?_) (fun h2 => ?_)
    · skip
      refine XC.seq ?_
      refine XC.region ?_
      refine XO.v (V.assign rfl) rfl ?_
      refine XO.nil ?_
      refine XE.next ?_
      refine XC.keep [(6, _)] (Sub.cons rfl (Sub.nil _)) ?_
      refine XC.ret ?_
      refine XE.thenRet ?_
      refine XE.ret1 rfl rfl (post_of (.cons .here .nil) rfl ?_)
      rw [RQ.put_exist k (by omega) (by omega)]; exact ⟨rfl, rfl⟩
    · skip
      refine XC.skip ?_
      refine XE.next ?_
      refine XC.keep [(0, _), (1, _), (2, _)] (Sub.cons rfl (Sub.cons rfl (Sub.cons rfl (Sub.nil _)))) ?_
      refine XC.seq ?_
      refine XC.region ?_
      refine XO.v (V.move rfl) rfl ?_
      refine XO.v (V.move rfl) rfl ?_
      refine XO.v (V.nilCheckP rfl) rfl ?_
      refine XO.v (V.fieldAddr rfl fo_77_0) rfl ?_
      refine XO.v (V.indexArr rfl rfl ar_74 (by omega)) rfl ?_
      refine XO.store rfl rfl .here (encRQ.st_In_I _ _ (by omega) _) rfl sz_4_1 ?_
      refine XO.nil ?_
      refine XE.next ?_
      refine XC.keep [(0, _), (1, _), (2, _)] (Sub.cons rfl (Sub.cons rfl (Sub.cons rfl (Sub.nil _)))) ?_
      refine XC.seq ?_
      refine XC.region ?_
      refine XO.v (V.move rfl) rfl ?_
      refine XO.v (V.move rfl) rfl ?_
      refine XO.v (V.move rfl) rfl ?_
      refine XO.v (V.nilCheckP rfl) rfl ?_
      refine XO.v (V.fieldAddr rfl fo_77_1) rfl ?_
      refine XO.v (V.indexArr rfl rfl ar_75 (by omega)) rfl ?_
      refine XO.store rfl rfl .here (encRQ.st_Key_I _ _ (by omega) _) rfl sz_29_1 ?_
      refine XO.nil ?_
      refine XE.next ?_
      refine XC.keep [] (Sub.nil _) ?_
      refine XC.seq ?_
      refine XC.region ?_
      refine XO.v (V.assign rfl) rfl ?_
      refine XO.nil ?_
      refine XE.next ?_
      refine XC.keep [(6, _)] (Sub.cons rfl (Sub.nil _)) ?_
      refine XC.ret ?_
      refine XE.ret1 rfl rfl (post_of (.cons .here .nil) rfl ?_)
      rw [RQ.put_done k (by omega) (by omega)]; exact ⟨rfl, rfl⟩
set_option maxRecDepth 10000 in
set_option maxHeartbeats 400000 in
theorem qr_OfT (b o : Nat) (r : RQ) (id : Int) : Spec Try.prog 52 [ptr b o 0, .int .i64 id, .bool true]
    [.cells b o 128 (encRQ r)]
    (fun v H1 => v = .tuple #[.int .u64 (r.of_ id true).1, .int .i64 (r.of_ id true).2.1] ∧ H1 = [.cells b o 128 (encRQ ((r.of_ id true).2.2))]) := by
  have hcs := r.is_cases id
  refine Spec.intro Try.func52 rfl rfl ?_
  intro W
  refine XC.seq ?_
  refine XC.region ?_
  refine XO.v (V.assign rfl) rfl ?_
  refine XO.v (V.assign rfl) rfl ?_
  refine XO.nil ?_
  refine XE.next ?_
  refine XC.keep [(0, _), (1, _), (2, _)] (Sub.cons rfl (Sub.cons rfl (Sub.cons rfl (Sub.nil _)))) ?_
  refine XC.seq ?_
  refine XC.seq ?_
  refine XC.region ?_
  refine XO.v (V.move rfl) rfl ?_
  refine XO.v (V.move rfl) rfl ?_
  refine XO.call rfl (qr_Is _ _ _ _) (.cons .here .nil) cl_89 rfl ?_
  rintro _ _ ⟨rfl, rfl⟩
  refine XO.v (V.assign rfl) rfl ?_
  refine XO.nil ?_
  refine XE.next ?_
  refine XC.keep [(0, _), (1, _), (2, _), (8, _)] (Sub.cons rfl (Sub.cons rfl (Sub.cons rfl (Sub.cons rfl (Sub.nil _))))) ?_
  refine XC.seq ?_
  refine XC.region ?_
  refine XO.v (V.move rfl) rfl ?_
  refine XO.v (V.cmp rfl rfl rfl) rfl ?_
  refine XO.nil ?_
  refine XE.next ?_
  refine XC.keep [(0, _), (1, _), (2, _), (8, _), (13, _)] (Sub.cons rfl (Sub.cons rfl (Sub.cons rfl (Sub.cons rfl (Sub.cons rfl (Sub.nil _)))))) ?_
  refine XC.condP rfl (fun h1 => ?_) (fun h1 => ?_)
  · skip
    refine XC.seq ?_
    refine XC.region ?_
    refine XO.v (V.move rfl) rfl ?_
    refine XO.v (V.assign rfl) rfl ?_
    refine XO.v (V.assign rfl) rfl ?_
    refine XO.nil ?_
    refine XE.next ?_
    refine XC.keep [(6, _), (7, _)] (Sub.cons rfl (Sub.cons rfl (Sub.nil _))) ?_
    refine XC.ret ?_
    refine XE.thenRet ?_
    refine XE.ret2 rfl rfl rfl (post_of (.cons .here .nil) rfl ?_)
    rw [RQ.of_no _ (by omega)]; exact ⟨rfl, rfl⟩
  · skip
    refine XC.skip ?_
    refine XE.next ?_
    refine XC.keep [(0, _), (1, _), (2, _)] (Sub.cons rfl (Sub.cons rfl (Sub.cons rfl (Sub.nil _)))) ?_
    refine XC.seq ?_
    refine XC.seq ?_
    refine XC.region ?_
    refine XO.v (V.move rfl) rfl ?_
    refine XO.nil ?_
    refine XE.next ?_
    refine XC.keep [(0, _), (1, _), (15, _)] (Sub.cons rfl (Sub.cons rfl (Sub.cons rfl (Sub.nil _)))) ?_
    refine XC.condT rfl rfl ?_
    refine XC.region ?_
    refine XO.v (V.move rfl) rfl ?_
    refine XO.v (V.move rfl) rfl ?_
    refine XO.v (V.nilCheckP rfl) rfl ?_
    refine XO.v (V.fieldAddr rfl fo_77_0) rfl ?_
    refine XO.v (V.indexArr rfl rfl ar_74 (by omega)) rfl ?_
    refine XO.store rfl rfl .here (encRQ.st_In_I _ _ (by omega) _) rfl sz_4_1 ?_
    refine XO.nil ?_
    refine XE.next ?_
    refine XC.keep [(0, _), (1, _)] (Sub.cons rfl (Sub.cons rfl (Sub.nil _))) ?_
    refine XC.seq ?_
    refine XC.region ?_
    refine XO.v (V.move rfl) rfl ?_
    refine XO.v (V.move rfl) rfl ?_
    refine XO.v (V.nilCheckP rfl) rfl ?_
    refine XO.v (V.fieldAddr rfl fo_77_1) rfl ?_
    refine XO.v (V.indexArr rfl rfl ar_75 (by omega)) rfl ?_
    refine XO.v (V.load rfl (inXM .here) (encRQ.ld_Key_I _ _ (by omega)) sc_29) rfl ?_
    refine XO.v (V.assign rfl) rfl ?_
    refine XO.v (V.assign rfl) rfl ?_
    refine XO.nil ?_
    refine XE.next ?_
    refine XC.keep [(6, _), (7, _)] (Sub.cons rfl (Sub.cons rfl (Sub.nil _))) ?_
    refine XC.ret ?_
    refine XE.ret2 rfl rfl rfl (post_of (.cons .here .nil) rfl ?_)
    rw [RQ.of_cut (by omega)]; exact ⟨rfl, rfl⟩
set_option maxRecDepth 10000 in
set_option maxHeartbeats 400000 in
theorem qr_OfF (b o : Nat) (r : RQ) (id : Int) : Spec Try.prog 52 [ptr b o 0, .int .i64 id, .bool false]
    [.cells b o 128 (encRQ r)]
    (fun v H1 => v = .tuple #[.int .u64 (r.of_ id false).1, .int .i64 (r.of_ id false).2.1] ∧ H1 = [.cells b o 128 (encRQ ((r.of_ id false).2.2))]) := by
  have hcs := r.is_cases id
  refine Spec.intro Try.func52 rfl rfl ?_
  intro W
  refine XC.seq ?_
  refine XC.region ?_
  refine XO.v (V.assign rfl) rfl ?_
  refine XO.v (V.assign rfl) rfl ?_
  refine XO.nil ?_
  refine XE.next ?_
  refine XC.keep [(0, _), (1, _), (2, _)] (Sub.cons rfl (Sub.cons rfl (Sub.cons rfl (Sub.nil _)))) ?_
  refine XC.seq ?_
  refine XC.seq ?_
  refine XC.region ?_
  refine XO.v (V.move rfl) rfl ?_
  refine XO.v (V.move rfl) rfl ?_
  refine XO.call rfl (qr_Is _ _ _ _) (.cons .here .nil) cl_89 rfl ?_
  rintro _ _ ⟨rfl, rfl⟩
  refine XO.v (V.assign rfl) rfl ?_
  refine XO.nil ?_
  refine XE.next ?_
  refine XC.keep [(0, _), (1, _), (2, _), (8, _)] (Sub.cons rfl (Sub.cons rfl (Sub.cons rfl (Sub.cons rfl (Sub.nil _))))) ?_
  refine XC.seq ?_
  refine XC.region ?_
  refine XO.v (V.move rfl) rfl ?_
  refine XO.v (V.cmp rfl rfl rfl) rfl ?_
  refine XO.nil ?_
  refine XE.next ?_
  refine XC.keep [(0, _), (1, _), (2, _), (8, _), (13, _)] (Sub.cons rfl (Sub.cons rfl (Sub.cons rfl (Sub.cons rfl (Sub.cons rfl (Sub.nil _)))))) ?_
  refine XC.condP rfl (fun h1 => ?_) (fun h1 => ?_)
  · skip
    refine XC.seq ?_
    refine XC.region ?_
    refine XO.v (V.move rfl) rfl ?_
    refine XO.v (V.assign rfl) rfl ?_
    refine XO.v (V.assign rfl) rfl ?_
    refine XO.nil ?_
    refine XE.next ?_
    refine XC.keep [(6, _), (7, _)] (Sub.cons rfl (Sub.cons rfl (Sub.nil _))) ?_
    refine XC.ret ?_
    refine XE.thenRet ?_
    refine XE.ret2 rfl rfl rfl (post_of (.cons .here .nil) rfl ?_)
    rw [RQ.of_no _ (by omega)]; exact ⟨rfl, rfl⟩
  · skip
    refine XC.skip ?_
    refine XE.next ?_
    refine XC.keep [(0, _), (1, _), (2, _)] (Sub.cons rfl (Sub.cons rfl (Sub.cons rfl (Sub.nil _)))) ?_
    refine XC.seq ?_
    refine XC.seq ?_
    refine XC.region ?_
    refine XO.v (V.move rfl) rfl ?_
    refine XO.nil ?_
    refine XE.next ?_
    refine XC.keep [(0, _), (1, _), (15, _)] (Sub.cons rfl (Sub.cons rfl (Sub.cons rfl (Sub.nil _)))) ?_
    refine XC.condF rfl rfl ?_
    refine XC.skip ?_
    refine XE.next ?_
    refine XC.keep [(0, _), (1, _)] (Sub.cons rfl (Sub.cons rfl (Sub.nil _))) ?_
    refine XC.seq ?_
    refine XC.region ?_
    refine XO.v (V.move rfl) rfl ?_
    refine XO.v (V.move rfl) rfl ?_
    refine XO.v (V.nilCheckP rfl) rfl ?_
    refine XO.v (V.fieldAddr rfl fo_77_1) rfl ?_
    refine XO.v (V.indexArr rfl rfl ar_75 (by omega)) rfl ?_
    refine XO.v (V.load rfl (inXM .here) (encRQ.ld_Key_I _ _ (by omega)) sc_29) rfl ?_
    refine XO.v (V.assign rfl) rfl ?_
    refine XO.v (V.assign rfl) rfl ?_
    refine XO.nil ?_
    refine XE.next ?_
    refine XC.keep [(6, _), (7, _)] (Sub.cons rfl (Sub.cons rfl (Sub.nil _))) ?_
    refine XC.ret ?_
    refine XE.ret2 rfl rfl rfl (post_of (.cons .here .nil) rfl ?_)
    rw [RQ.of_key (by omega)]; exact ⟨rfl, rfl⟩
end Go.X
