import Derived.Test.YtmkfmnhbckbfbabPT
import Derived.Test.YtmkfmnhbckbfbababLW
namespace Go.X
open Go Go.Proofs
theorem cl_10 : callable Try.prog 10 = true := by kernel_rfl
theorem cl_11 : callable Try.prog 11 = true := by kernel_rfl
theorem cl_12 : callable Try.prog 12 = true := by kernel_rfl
theorem cl_13 : callable Try.prog 13 = true := by kernel_rfl
theorem cl_14 : callable Try.prog 14 = true := by kernel_rfl
theorem cl_8 : callable Try.prog 8 = true := by kernel_rfl
theorem cl_9 : callable Try.prog 9 = true := by kernel_rfl
theorem fo_37_0 : fieldOff Try.prog 37 0 = some 0 := by kernel_rfl
theorem fo_37_2 : fieldOff Try.prog 37 2 = some 2 := by kernel_rfl
theorem p_Write_open (b o : Nat) (s : PS) (hI : s.Inv 1) (h0 : s.e 0 0 = 1) (h1 : s.e 0 1 = 1) (t : ByteArray) (ht : t.size ≤ 1000000) : Spec Try.prog 12 [ptr b o 0, .int .i64 0, .string t] [.cells b o 24 (encP s)]
    (fun v H1 => (∃ k : Int, (0 ≤ k ∧ k ≤ t.size ∧ (k = 0 → t = ⟨#[]⟩) ∧ s.write 0 t = (k, 0, s.wrote t k)) ∧ v = .tuple #[.int .i64 k, .nilIface] ∧ H1 = [.cells b o 24 (encP (s.wrote t k))]) ∨ (v = .tuple #[.int .i64 0, .iface 71 (.int .i64 13)] ∧ H1 = [.cells b o 24 (encP s)])) := by
  have h := p_Write b o 1 (by omega) s hI 0 t ht
  rcases PS.write_open t h0 h1 (hI.len 0) with ⟨k, q1, q2, q3, q4⟩ | q
  · rw [q4] at h
    exact h.weaken fun v H1 hp => .inl ⟨k, ⟨q1, q2, q3, q4⟩, hp.1, hp.2⟩
  · rw [q] at h
    exact h.weaken fun v H1 hp => .inr ⟨hp.1, hp.2⟩
theorem p_Read_open (b o : Nat) (s : PS) (hI : s.Inv 1) (h0 : s.e 0 0 = 1) (h1 : s.e 0 1 = 1) (m : Int) : Spec Try.prog 13 [ptr b o 0, .int .i64 0, .int .i64 m] [.cells b o 24 (encP s)]
    (fun v H1 => (∃ k : Int, (0 ≤ k ∧ k ≤ (s.b 0).size ∧ k ≤ m ∧ s.read 0 m = ((s.b 0).extract 0 k.toNat, 0, s.taken k)) ∧ v = .tuple #[.string ((s.b 0).extract 0 k.toNat), .nilIface] ∧ H1 = [.cells b o 24 (encP (s.taken k))]) ∨ (∃ c : Int, v = .tuple #[.string ⟨#[]⟩, .iface 71 (.int .i64 c)] ∧ H1 = [.cells b o 24 (encP s)])) := by
  have h := p_Read b o 1 (by omega) s hI 0 m
  rcases PS.read_open m h0 h1 with ⟨k, q1, q2, q3, q4⟩ | ⟨c, hc, q⟩
  · rw [q4] at h
    exact h.weaken fun v H1 hp => .inl ⟨k, ⟨q1, q2, q3, q4⟩, hp.1, hp.2⟩
  · rw [q] at h
    exact h.weaken fun v H1 hp => .inr ⟨c, by rw [hp.1]; rw [errv_pos _ (by simp; omega)], hp.2⟩
theorem p_turn_eq {b o : Nat} {s s' : PS} {K n : Int} (hK : K ≤ 1000000) (hI : s.Inv K) (w : Bool) (he : s.turn n w (-1) = (0, s')) : Spec Try.prog 14 [ptr b o 0, .int .i64 n, .bool w] [.cells b o 24 (encP s)] (fun v H1 => v = .nilIface ∧ H1 = [.cells b o 24 (encP s')]) := by
  cases w
  · have h := p_Drop_false b o K hK s hI n
    rw [he] at h; exact h
  · have h := p_Drop_true b o K hK s hI n
    rw [he] at h; exact h
theorem p_read_eq {b o : Nat} {s s' : PS} {K n m : Int} {t : ByteArray} (hK : K ≤ 1000000) (hI : s.Inv K) (he : s.read n m = (t, 0, s')) : Spec Try.prog 13 [ptr b o 0, .int .i64 n, .int .i64 m] [.cells b o 24 (encP s)] (fun v H1 => v = .tuple #[.string t, .nilIface] ∧ H1 = [.cells b o 24 (encP s')]) := by
  have h := p_Read b o K hK s hI n m
  rw [he] at h; exact h
theorem p_make_one {b o : Nat} : Spec Try.prog 8 [ptr b o 0] [.cells b o 24 (encP PS.init)] (fun v H1 => v = .tuple #[.int .i64 0, .nilIface] ∧ H1 = [.cells b o 24 (encP PS.one)]) := by
  have h := p_Make b o 0 (by omega) PS.init PS.Inv.init
  rw [PS.one_make] at h; exact h
set_option maxRecDepth 10000 in
set_option maxHeartbeats 2000000 in
theorem top_some (bl ol len cap : Nat) (hlen : len ≤ cap) (A : Int → ActV) (hA : ∀ z : Int, 0 ≤ z → z < len → (A z).ok) : Spec Try.prog 3 [.slice (some ⟨bl, ol, none⟩) len cap]
    [.ro bl ol (8 * len) (encActs A)]
    (fun v H1 => v = .bool true ∧ H1 = []) := by
  refine Spec.intro Try.func3 rfl rfl ?_
  intro W
  refine XC.seq ?_
  refine XC.region ?_
  refine XO.v (V.assign rfl) rfl ?_
  refine XO.nil ?_
  refine XE.next ?_
  refine XC.keep [(0, _)] (Sub.cons rfl (Sub.nil _)) ?_
  refine XC.seq ?_
  refine XC.region ?_
  refine XO.v (V.build (vs := #[]) rfl (v := .agg #[.string ⟨#[]⟩, .int .i64 0, .int .i64 0, .string ⟨#[]⟩, .int .i64 0, .int .i64 0, .string ⟨#[]⟩, .int .i64 0, .int .i64 0, .string ⟨#[]⟩, .int .i64 0, .int .i64 0, .string ⟨#[]⟩, .int .i64 0, .int .i64 0, .string ⟨#[]⟩, .int .i64 0, .int .i64 0, .string ⟨#[]⟩, .int .i64 0, .int .i64 0, .string ⟨#[]⟩, .int .i64 0, .int .i64 0]) (fun _ => by kernel_rfl)) rfl ?_
  refine XO.box (m := 24) (C := encP PS.init) rfl rfl boxP_init rfl ?_
  intro bs
  refine XO.v (V.assign rfl) rfl ?_
  refine XO.nil ?_
  refine XE.next ?_
  refine XC.keep [(0, _), (3, _)] (Sub.cons rfl (Sub.cons rfl (Sub.nil _))) ?_
  refine XC.seq ?_
  refine XC.region ?_
  refine XO.v (V.move rfl) rfl ?_
  refine XO.call rfl (p_make_one) (.cons .here .nil) cl_8 rfl ?_
  rintro _ _ ⟨rfl, rfl⟩
  refine XO.v (V.move rfl) rfl ?_
  refine XO.v (V.extract rfl rfl) rfl ?_
  refine XO.v (V.extract rfl rfl) rfl ?_
  refine XO.v (V.assign rfl) rfl ?_
  refine XO.v (V.assign rfl) rfl ?_
  refine XO.nil ?_
  refine XE.next ?_
  refine XC.keep [(0, _), (3, _), (4, _), (5, _)] (Sub.cons rfl (Sub.cons rfl (Sub.cons rfl (Sub.cons rfl (Sub.nil _))))) ?_
  refine XC.seq ?_
  refine XC.seq ?_
  refine XC.region ?_
  refine XO.v (V.move rfl) rfl ?_
  refine XO.v (V.nilNil rfl Try.underlying30 rfl) rfl ?_
  refine XO.v (V.move rfl) rfl ?_
  refine XO.guardRun rfl rfl rfl ?_
  refine XO.v (V.move rfl) rfl ?_
  refine XO.guardRun rfl rfl rfl ?_
  refine XO.call rfl (p_Pipes _ _ 1 (by omega) _ PS.one_inv) (.cons .here .nil) cl_9 rfl ?_
  rintro _ _ ⟨rfl, rfl⟩
  refine XO.guardRun rfl rfl rfl ?_
  refine XO.v (V.cmp rfl rfl rfl) rfl ?_
  refine XO.v (V.pick rfl rfl rfl rfl) rfl ?_
  refine XO.nil ?_
  refine XE.next ?_
  refine XC.keep [(0, _), (3, _), (4, _), (30, _)] (Sub.cons rfl (Sub.cons rfl (Sub.cons rfl (Sub.cons rfl (Sub.nil _))))) ?_
  refine XC.condFP rfl (by decide) ?_
  refine XC.skip ?_
  refine XE.next ?_
  refine XC.keep [(0, _), (3, _), (4, _)] (Sub.cons rfl (Sub.cons rfl (Sub.cons rfl (Sub.nil _)))) ?_
  refine XC.seq ?_
  refine XC.seq ?_
  refine XC.region ?_
  refine XO.v (V.move rfl) rfl ?_
  refine XO.call rfl (light_any _ _ _ _) .nil cl_10 rfl ?_
  rintro _ _ ⟨rfl, rfl⟩
  refine XO.v (V.notP rfl) rfl ?_
  refine XO.v (V.move rfl) rfl ?_
  refine XO.splitP (d := 34) rfl (fun h1 => ?_) (fun h1 => ?_)
  · skip
    refine XO.guardSkip rfl rfl rfl rfl rfl ?_
    refine XO.guardSkip rfl rfl rfl rfl rfl ?_
    refine XO.guardSkip rfl rfl rfl rfl rfl ?_
    refine XO.v (V.pick rfl rfl rfl rfl) rfl ?_
    refine XO.nil ?_
    refine XE.next ?_
    refine XC.keep [(0, _), (3, _), (4, _), (38, _)] (Sub.cons rfl (Sub.cons rfl (Sub.cons rfl (Sub.cons rfl (Sub.nil _))))) ?_
    refine XC.condT rfl rfl ?_
    refine XC.seq ?_
    refine XC.region ?_
    refine XO.v (V.assign rfl) rfl ?_
    refine XO.nil ?_
    refine XE.next ?_
    refine XC.keep [(2, _)] (Sub.cons rfl (Sub.nil _)) ?_
    refine XC.ret ?_
    refine XE.thenRet ?_
    refine XE.ret1 rfl rfl (post_of .nil rfl ?_)
    first | exact ⟨rfl, rfl⟩ | exact ⟨congrArg Value.bool (decide_eq_true (gone_open hx.z)), rfl⟩
  · skip
    refine XO.guardRun rfl rfl rfl ?_
    refine XO.v (V.move rfl) rfl ?_
    refine XO.guardRun rfl rfl rfl ?_
    refine XO.callR 0 rfl (texts_any _ _ len cap hlen A hA (by omega) _) (.cons (.there .here) .nil) rfl cl_11 rfl ?_
    rintro _ _ ⟨⟨bt, rfl, tx⟩, rfl⟩
    refine XO.guardRun rfl rfl rfl ?_
    refine XO.v (V.not rfl) rfl ?_
    refine XO.v (V.pick rfl rfl rfl rfl) rfl ?_
    refine XO.nil ?_
    refine XE.next ?_
    refine XC.keep [(0, _), (3, _), (4, _), (38, _)] (Sub.cons rfl (Sub.cons rfl (Sub.cons rfl (Sub.cons rfl (Sub.nil _))))) ?_
    refine XC.cond rfl (fun h2 => ?_) (fun h2 => ?_)
    · try simp only [decide_eq_true_eq, decide_eq_false_iff_not, Bool.not_eq_true', Bool.not_eq_false', Bool.not_eq_eq_eq_not, Bool.not_true, Bool.not_false, beq_iff_eq, bne_iff_ne, ne_eq, beq_eq_false_iff_ne, bne_eq_false_iff_eq, Int.not_lt, Int.not_le, gt_iff_lt, ge_iff_le, Bool.and_eq_true, Bool.or_eq_true, Bool.and_eq_false_iff, Bool.or_eq_false_iff, Decidable.not_not] at h2
      refine XC.seq ?_
      refine XC.region ?_
      refine XO.v (V.assign rfl) rfl ?_
      refine XO.nil ?_
      refine XE.next ?_
      refine XC.keep [(2, _)] (Sub.cons rfl (Sub.nil _)) ?_
      refine XC.ret ?_
      refine XE.thenRet ?_
      refine XE.ret1 rfl rfl (post_of .nil rfl ?_)
      first | exact ⟨rfl, rfl⟩ | exact ⟨congrArg Value.bool (decide_eq_true (gone_open hx.z)), rfl⟩
    · try simp only [decide_eq_true_eq, decide_eq_false_iff_not, Bool.not_eq_true', Bool.not_eq_false', Bool.not_eq_eq_eq_not, Bool.not_true, Bool.not_false, beq_iff_eq, bne_iff_ne, ne_eq, beq_eq_false_iff_ne, bne_eq_false_iff_eq, Int.not_lt, Int.not_le, gt_iff_lt, ge_iff_le, Bool.and_eq_true, Bool.or_eq_true, Bool.and_eq_false_iff, Bool.or_eq_false_iff, Decidable.not_not] at h2
      have hT := tx h2
      refine XC.skip ?_
      refine XE.next ?_
      refine XC.keep [(0, _), (3, _), (4, _)] (Sub.cons rfl (Sub.cons rfl (Sub.cons rfl (Sub.nil _)))) ?_
      refine XC.seq ?_
      refine XC.region ?_
      refine XO.v (V.assign rfl) rfl ?_
      refine XO.nil ?_
      refine XE.next ?_
      refine XC.keep [(0, _), (3, _), (4, _), (6, _)] (Sub.cons rfl (Sub.cons rfl (Sub.cons rfl (Sub.cons rfl (Sub.nil _))))) ?_
      refine XC.seq ?_
      refine XC.region ?_
      refine XO.v (V.assign rfl) rfl ?_
      refine XO.nil ?_
      refine XE.next ?_
      refine XC.keep [(0, _), (3, _), (4, _), (6, _), (7, _)] (Sub.cons rfl (Sub.cons rfl (Sub.cons rfl (Sub.cons rfl (Sub.cons rfl (Sub.nil _)))))) ?_
      refine XC.seq ?_
      refine XC.seq ?_
      refine XC.region ?_
      refine XO.v (V.assign rfl) rfl ?_
      refine XO.nil ?_
      refine XE.next ?_
      refine XC.keep [(0, _), (3, _), (4, _), (6, _), (7, _), (8, _)] (Sub.cons rfl (Sub.cons rfl (Sub.cons rfl (Sub.cons rfl (Sub.cons rfl (Sub.cons rfl (Sub.nil _))))))) ?_
      refine XC.block ?_
      refine XC.loop (σ := TPS) (fun x => (len - x.i).toNat) (fun x => x.V len) (fun x => [(6, .string x.inn), (7, .string x.out), (8, .int .i64 x.i), (0, .slice (some ⟨bl, ol, none⟩) len cap), (3, ptr bs 0 0), (4, .int .i64 0)]) (fun x => XM W (foot [.ro bl ol (8 * len) (encActs A)]) [.cells bs 0 24 (encP x.s), .ro bl ol (8 * len) (encActs A)]) (⟨PS.one, 0, ⟨#[]⟩, ⟨#[]⟩⟩) ?_ (Sub.cons rfl (Sub.cons rfl (Sub.cons rfl (Sub.cons rfl (Sub.cons rfl (Sub.cons rfl (Sub.nil _))))))) (fun _ hw => XM.pick (.cons (.there .here) (.cons .here .nil)) hw) ?_
      · skip
        exact ⟨PS.one_inv, by simp, by simp, rfl, rfl, fun j hj => by simp [PS.one, fset2]; omega, rfl, by simp [ByteArray.size]⟩
      intro x hx
      obtain ⟨hf1, hf2, hf3⟩ := hx.facts
      have hi0 := hx.i0
      have hi1 := hx.i1
      have hsz := hx.sz
      have hbl := hx.inv.len 0
      have he0 : (⟨#[]⟩ : ByteArray).size = 0 := rfl
      refine XC.seq ?_
      refine XC.seq ?_
      refine XC.region ?_
      refine XO.v (V.move rfl) rfl ?_
      refine XO.v (V.move rfl) rfl ?_
      refine XO.v (V.lenSl rfl Try.underlying22) rfl ?_
      refine XO.v (V.cmp rfl rfl rfl) rfl ?_
      refine XO.nil ?_
      refine XE.next ?_
      refine XC.keep [(0, _), (3, _), (4, _), (6, _), (7, _), (8, _), (42, _)] (Sub.cons rfl (Sub.cons rfl (Sub.cons rfl (Sub.cons rfl (Sub.cons rfl (Sub.cons rfl (Sub.cons rfl (Sub.nil _)))))))) ?_
      refine XC.condP rfl (fun h3 => ?_) (fun h3 => ?_)
      · skip
        refine XC.skip ?_
        refine XE.next ?_
        refine XC.keep [(0, _), (3, _), (4, _), (6, _), (7, _), (8, _)] (Sub.cons rfl (Sub.cons rfl (Sub.cons rfl (Sub.cons rfl (Sub.cons rfl (Sub.cons rfl (Sub.nil _))))))) ?_
        refine XC.seq ?_
        refine XC.block ?_
        refine XC.cutG (σ := TPS) (fun y => y.V len ∧ y.i = x.i + 1) (fun y => [(0, .slice (some ⟨bl, ol, none⟩) len cap), (3, ptr bs 0 0), (4, .int .i64 0), (6, .string y.inn), (7, .string y.out), (8, .int .i64 x.i)]) (fun y => XM W (foot [.ro bl ol (8 * len) (encActs A)]) [.cells bs 0 24 (encP y.s), .ro bl ol (8 * len) (encActs A)]) ?_ ?_
        · skip
          refine XC.seq ?_
          refine XC.region ?_
          have ht := hT x.i (by omega) (by omega)
          refine XO.v (V.move rfl) rfl ?_
          refine XO.v (V.move rfl) rfl ?_
          refine XO.v (V.indexSl rfl rfl sl_22 (by omega)) rfl ?_
          refine XO.v (V.fieldAddr rfl fo_37_0) rfl ?_
          refine XO.v (V.loadRo rfl (inXM (.there .here)) (acts_ld_Kind A len _ (by omega)) sc_9) rfl ?_
          refine XO.v (V.strCmp rfl rfl rfl) rfl ?_
          refine XO.nil ?_
          refine XE.next ?_
          refine XC.keep [(0, _), (3, _), (4, _), (6, _), (7, _), (8, _), (50, _)] (Sub.cons rfl (Sub.cons rfl (Sub.cons rfl (Sub.cons rfl (Sub.cons rfl (Sub.cons rfl (Sub.cons rfl (Sub.nil _)))))))) ?_
          refine XC.condP rfl (fun h4 => ?_) (fun h4 => ?_)
          · skip
            refine XC.seq ?_
            refine XC.region ?_
            refine XO.v (V.move rfl) rfl ?_
            refine XO.v (V.move rfl) rfl ?_
            refine XO.v (V.move rfl) rfl ?_
            refine XO.v (V.move rfl) rfl ?_
            refine XO.v (V.indexSl rfl rfl sl_22 (by omega)) rfl ?_
            refine XO.v (V.fieldAddr rfl fo_37_6) rfl ?_
            refine XO.v (V.loadRo rfl (inXM (.there .here)) (acts_ld_S A len _ (by omega)) sc_9) rfl ?_
            refine XO.call rfl (p_Write_open _ _ _ hx.inv hx.r hx.w _ (by omega)) (.cons .here .nil) cl_12 rfl ?_
            rintro _ _ (⟨k, h5, rfl, rfl⟩ | ⟨rfl, rfl⟩)
            · skip
              obtain ⟨k0, k1, k2, kw⟩ := h5
              refine XO.v (V.move rfl) rfl ?_
              refine XO.v (V.extract rfl rfl) rfl ?_
              refine XO.v (V.extract rfl rfl) rfl ?_
              refine XO.v (V.assign rfl) rfl ?_
              refine XO.v (V.assign rfl) rfl ?_
              refine XO.nil ?_
              refine XE.next ?_
              refine XC.keep [(0, _), (3, _), (4, _), (6, _), (7, _), (8, _), (9, _), (10, _)] (Sub.cons rfl (Sub.cons rfl (Sub.cons rfl (Sub.cons rfl (Sub.cons rfl (Sub.cons rfl (Sub.cons rfl (Sub.cons rfl (Sub.nil _))))))))) ?_
              refine XC.seq ?_
              refine XC.seq ?_
              refine XC.region ?_
              refine XO.v (V.move rfl) rfl ?_
              refine XO.v (V.nilNil rfl Try.underlying30 rfl) rfl ?_
              refine XO.nil ?_
              refine XE.next ?_
              refine XC.keep [(0, _), (3, _), (4, _), (6, _), (7, _), (8, _), (9, _), (10, _), (63, _)] (Sub.cons rfl (Sub.cons rfl (Sub.cons rfl (Sub.cons rfl (Sub.cons rfl (Sub.cons rfl (Sub.cons rfl (Sub.cons rfl (Sub.cons rfl (Sub.nil _)))))))))) ?_
              refine XC.condF rfl rfl ?_
              refine XC.skip ?_
              refine XE.next ?_
              refine XC.keep [(0, _), (3, _), (4, _), (6, _), (7, _), (8, _), (9, _), (10, _)] (Sub.cons rfl (Sub.cons rfl (Sub.cons rfl (Sub.cons rfl (Sub.cons rfl (Sub.cons rfl (Sub.cons rfl (Sub.cons rfl (Sub.nil _))))))))) ?_
              refine XC.seq ?_
              refine XC.seq ?_
              refine XC.region ?_
              refine XO.v (V.move rfl) rfl ?_
              refine XO.v (V.cmp rfl rfl rfl) rfl ?_
              refine XO.v (V.move rfl) rfl ?_
              refine XO.splitF (d := 66) rfl (by first | omega | (simp; done) | (simp; omega)) ?_
              refine XO.guardRun rfl rfl rfl ?_
              refine XO.v (V.move rfl) rfl ?_
              refine XO.guardRun rfl rfl rfl ?_
              refine XO.v (V.move rfl) rfl ?_
              refine XO.guardRun rfl rfl rfl ?_
              refine XO.v (V.move rfl) rfl ?_
              refine XO.guardRun rfl rfl rfl ?_
              refine XO.v (V.indexSl rfl rfl sl_22 (by omega)) rfl ?_
              refine XO.guardRun rfl rfl rfl ?_
              refine XO.v (V.fieldAddr rfl fo_37_6) rfl ?_
              refine XO.guardRun rfl rfl rfl ?_
              refine XO.v (V.loadRo rfl (inXM (.there .here)) (acts_ld_S A len _ (by omega)) sc_9) rfl ?_
              refine XO.guardRun rfl rfl rfl ?_
              refine XO.v (V.lenStr rfl Try.underlying9) rfl ?_
              refine XO.guardRun rfl rfl rfl ?_
              refine XO.v (V.cmp rfl rfl rfl) rfl ?_
              refine XO.v (V.pick rfl rfl rfl rfl) rfl ?_
              refine XO.v (V.move rfl) rfl ?_
              refine XO.splitF (d := 76) rfl (by first | omega | (simp; done) | (simp; omega)) ?_
              refine XO.guardRun rfl rfl rfl ?_
              refine XO.v (V.move rfl) rfl ?_
              refine XO.guardRun rfl rfl rfl ?_
              refine XO.v (V.nilNil rfl Try.underlying30 rfl) rfl ?_
              refine XO.guardRun rfl rfl rfl ?_
              refine XO.v (V.move rfl) rfl ?_
              refine XO.guardRun rfl rfl rfl ?_
              refine XO.v (V.move rfl) rfl ?_
              refine XO.guardRun rfl rfl rfl ?_
              refine XO.v (V.cmp rfl rfl rfl) rfl ?_
              refine XO.guardRun rfl rfl rfl ?_
              refine XO.v (V.pick rfl rfl rfl rfl) rfl ?_
              refine XO.guardRun rfl rfl rfl ?_
              refine XO.v (V.move rfl) rfl ?_
              refine XO.splitP (d := 83) rfl (fun h8 => ?_) (fun h8 => ?_)
              · skip
                refine XO.guardRun rfl rfl rfl ?_
                refine XO.v (V.move rfl) rfl ?_
                refine XO.guardRun rfl rfl rfl ?_
                refine XO.v (V.move rfl) rfl ?_
                refine XO.guardRun rfl rfl rfl ?_
                refine XO.v (V.indexSl rfl rfl sl_22 (by omega)) rfl ?_
                refine XO.guardRun rfl rfl rfl ?_
                refine XO.v (V.fieldAddr rfl fo_37_6) rfl ?_
                refine XO.guardRun rfl rfl rfl ?_
                refine XO.v (V.loadRo rfl (inXM (.there .here)) (acts_ld_S A len _ (by omega)) sc_9) rfl ?_
                refine XO.guardRun rfl rfl rfl ?_
                refine XO.v (V.strCmp rfl rfl rfl) rfl ?_
                refine XO.guardRun rfl rfl rfl ?_
                refine XO.v (V.pick rfl rfl rfl rfl) rfl ?_
                refine XO.v (V.pick rfl rfl rfl rfl) rfl ?_
                refine XO.nil ?_
                refine XE.next ?_
                refine XC.keep [(0, _), (3, _), (4, _), (6, _), (7, _), (8, _), (9, _), (91, _)] (Sub.cons rfl (Sub.cons rfl (Sub.cons rfl (Sub.cons rfl (Sub.cons rfl (Sub.cons rfl (Sub.cons rfl (Sub.cons rfl (Sub.nil _))))))))) ?_
                refine XC.condFP rfl (by first | omega | (intro q; exact q (k2 (by omega)))) ?_
                refine XC.skip ?_
                refine XE.next ?_
                refine XC.keep [(0, _), (3, _), (4, _), (6, _), (7, _), (8, _), (9, _)] (Sub.cons rfl (Sub.cons rfl (Sub.cons rfl (Sub.cons rfl (Sub.cons rfl (Sub.cons rfl (Sub.cons rfl (Sub.nil _)))))))) ?_
                refine XC.region ?_
                refine XO.v (V.move rfl) rfl ?_
                refine XO.v (V.move rfl) rfl ?_
                refine XO.v (V.move rfl) rfl ?_
                refine XO.v (V.indexSl rfl rfl sl_22 (by omega)) rfl ?_
                refine XO.v (V.fieldAddr rfl fo_37_6) rfl ?_
                refine XO.v (V.loadRo rfl (inXM (.there .here)) (acts_ld_S A len _ (by omega)) sc_9) rfl ?_
                refine XO.v (V.move rfl) rfl ?_
                refine XO.v (V.sliceTo rfl rfl Try.underlying9 (by omega)) rfl ?_
                refine XO.v (V.concat rfl rfl (by simp only [ByteArray.size_extract]; omega)) rfl ?_
                refine XO.v (V.assign rfl) rfl ?_
                refine XO.nil ?_
                refine XE.meetG (⟨x.s.wrote (A x.i).s k, x.i + 1, x.inn ++ (A x.i).s.extract 0 k.toNat, x.out⟩) ?_ (Sub.cons rfl (Sub.cons rfl (Sub.cons rfl (Sub.cons rfl (Sub.cons rfl (Sub.cons rfl (Sub.nil _))))))) (fun _ hw => XM.pick (.cons .here (.cons .here .nil)) hw)
                · exact ⟨hx.wrote (by omega) (by omega) k0 k1 kw, rfl⟩
              · skip
                refine XO.guardSkip rfl rfl rfl rfl rfl ?_
                refine XO.guardSkip rfl rfl rfl rfl rfl ?_
                refine XO.guardSkip rfl rfl rfl rfl rfl ?_
                refine XO.guardSkip rfl rfl rfl rfl rfl ?_
                refine XO.guardSkip rfl rfl rfl rfl rfl ?_
                refine XO.guardSkip rfl rfl rfl rfl rfl ?_
                refine XO.guardRun rfl rfl rfl ?_
                refine XO.v (V.pick rfl rfl rfl rfl) rfl ?_
                refine XO.v (V.pick rfl rfl rfl rfl) rfl ?_
                refine XO.nil ?_
                refine XE.next ?_
                refine XC.keep [(0, _), (3, _), (4, _), (6, _), (7, _), (8, _), (9, _), (91, _)] (Sub.cons rfl (Sub.cons rfl (Sub.cons rfl (Sub.cons rfl (Sub.cons rfl (Sub.cons rfl (Sub.cons rfl (Sub.cons rfl (Sub.nil _))))))))) ?_
                refine XC.condF rfl rfl ?_
                refine XC.skip ?_
                refine XE.next ?_
                refine XC.keep [(0, _), (3, _), (4, _), (6, _), (7, _), (8, _), (9, _)] (Sub.cons rfl (Sub.cons rfl (Sub.cons rfl (Sub.cons rfl (Sub.cons rfl (Sub.cons rfl (Sub.cons rfl (Sub.nil _)))))))) ?_
                refine XC.region ?_
                refine XO.v (V.move rfl) rfl ?_
                refine XO.v (V.move rfl) rfl ?_
                refine XO.v (V.move rfl) rfl ?_
                refine XO.v (V.indexSl rfl rfl sl_22 (by omega)) rfl ?_
                refine XO.v (V.fieldAddr rfl fo_37_6) rfl ?_
                refine XO.v (V.loadRo rfl (inXM (.there .here)) (acts_ld_S A len _ (by omega)) sc_9) rfl ?_
                refine XO.v (V.move rfl) rfl ?_
                refine XO.v (V.sliceTo rfl rfl Try.underlying9 (by omega)) rfl ?_
                refine XO.v (V.concat rfl rfl (by simp only [ByteArray.size_extract]; omega)) rfl ?_
                refine XO.v (V.assign rfl) rfl ?_
                refine XO.nil ?_
                refine XE.meetG (⟨x.s.wrote (A x.i).s k, x.i + 1, x.inn ++ (A x.i).s.extract 0 k.toNat, x.out⟩) ?_ (Sub.cons rfl (Sub.cons rfl (Sub.cons rfl (Sub.cons rfl (Sub.cons rfl (Sub.cons rfl (Sub.nil _))))))) (fun _ hw => XM.pick (.cons .here (.cons .here .nil)) hw)
                · exact ⟨hx.wrote (by omega) (by omega) k0 k1 kw, rfl⟩
            · skip
              refine XO.v (V.move rfl) rfl ?_
              refine XO.v (V.extract rfl rfl) rfl ?_
              refine XO.v (V.extract rfl rfl) rfl ?_
              refine XO.v (V.assign rfl) rfl ?_
              refine XO.v (V.assign rfl) rfl ?_
              refine XO.nil ?_
              refine XE.next ?_
              refine XC.keep [(0, _), (3, _), (4, _), (6, _), (7, _), (8, _), (9, _), (10, _)] (Sub.cons rfl (Sub.cons rfl (Sub.cons rfl (Sub.cons rfl (Sub.cons rfl (Sub.cons rfl (Sub.cons rfl (Sub.cons rfl (Sub.nil _))))))))) ?_
              refine XC.seq ?_
              refine XC.seq ?_
              refine XC.region ?_
              refine XO.v (V.move rfl) rfl ?_
              refine XO.v (V.ifaceNil rfl Try.underlying30 rfl) rfl ?_
              refine XO.nil ?_
              refine XE.next ?_
              refine XC.keep [(0, _), (3, _), (4, _), (6, _), (7, _), (8, _), (9, _), (10, _), (63, _)] (Sub.cons rfl (Sub.cons rfl (Sub.cons rfl (Sub.cons rfl (Sub.cons rfl (Sub.cons rfl (Sub.cons rfl (Sub.cons rfl (Sub.cons rfl (Sub.nil _)))))))))) ?_
              refine XC.condT rfl rfl ?_
              refine XC.region ?_
              refine XO.v (V.assign rfl) rfl ?_
              refine XO.nil ?_
              refine XE.next ?_
              refine XC.keep [(0, _), (3, _), (4, _), (6, _), (7, _), (8, _), (9, _), (10, _)] (Sub.cons rfl (Sub.cons rfl (Sub.cons rfl (Sub.cons rfl (Sub.cons rfl (Sub.cons rfl (Sub.cons rfl (Sub.cons rfl (Sub.nil _))))))))) ?_
              refine XC.seq ?_
              refine XC.seq ?_
              refine XC.region ?_
              refine XO.v (V.move rfl) rfl ?_
              refine XO.v (V.cmp rfl rfl rfl) rfl ?_
              refine XO.v (V.move rfl) rfl ?_
              refine XO.splitF (d := 66) rfl (by first | omega | (simp; done) | (simp; omega)) ?_
              refine XO.guardRun rfl rfl rfl ?_
              refine XO.v (V.move rfl) rfl ?_
              refine XO.guardRun rfl rfl rfl ?_
              refine XO.v (V.move rfl) rfl ?_
              refine XO.guardRun rfl rfl rfl ?_
              refine XO.v (V.move rfl) rfl ?_
              refine XO.guardRun rfl rfl rfl ?_
              refine XO.v (V.indexSl rfl rfl sl_22 (by omega)) rfl ?_
              refine XO.guardRun rfl rfl rfl ?_
              refine XO.v (V.fieldAddr rfl fo_37_6) rfl ?_
              refine XO.guardRun rfl rfl rfl ?_
              refine XO.v (V.loadRo rfl (inXM (.there .here)) (acts_ld_S A len _ (by omega)) sc_9) rfl ?_
              refine XO.guardRun rfl rfl rfl ?_
              refine XO.v (V.lenStr rfl Try.underlying9) rfl ?_
              refine XO.guardRun rfl rfl rfl ?_
              refine XO.v (V.cmp rfl rfl rfl) rfl ?_
              refine XO.v (V.pick rfl rfl rfl rfl) rfl ?_
              refine XO.v (V.move rfl) rfl ?_
              refine XO.splitF (d := 76) rfl (by first | omega | (simp; done) | (simp; omega)) ?_
              refine XO.guardRun rfl rfl rfl ?_
              refine XO.v (V.move rfl) rfl ?_
              refine XO.guardRun rfl rfl rfl ?_
              refine XO.v (V.ifaceNil rfl Try.underlying30 rfl) rfl ?_
              refine XO.guardRun rfl rfl rfl ?_
              refine XO.v (V.move rfl) rfl ?_
              refine XO.guardSkip rfl rfl rfl rfl rfl ?_
              refine XO.guardSkip rfl rfl rfl rfl rfl ?_
              refine XO.guardRun rfl rfl rfl ?_
              refine XO.v (V.pick rfl rfl rfl rfl) rfl ?_
              refine XO.guardRun rfl rfl rfl ?_
              refine XO.v (V.move rfl) rfl ?_
              refine XO.guardSkip rfl rfl rfl rfl rfl ?_
              refine XO.guardSkip rfl rfl rfl rfl rfl ?_
              refine XO.guardSkip rfl rfl rfl rfl rfl ?_
              refine XO.guardSkip rfl rfl rfl rfl rfl ?_
              refine XO.guardSkip rfl rfl rfl rfl rfl ?_
              refine XO.guardSkip rfl rfl rfl rfl rfl ?_
              refine XO.guardRun rfl rfl rfl ?_
              refine XO.v (V.pick rfl rfl rfl rfl) rfl ?_
              refine XO.v (V.pick rfl rfl rfl rfl) rfl ?_
              refine XO.nil ?_
              refine XE.next ?_
              refine XC.keep [(0, _), (3, _), (4, _), (6, _), (7, _), (8, _), (9, _), (91, _)] (Sub.cons rfl (Sub.cons rfl (Sub.cons rfl (Sub.cons rfl (Sub.cons rfl (Sub.cons rfl (Sub.cons rfl (Sub.cons rfl (Sub.nil _))))))))) ?_
              refine XC.condF rfl rfl ?_
              refine XC.skip ?_
              refine XE.next ?_
              refine XC.keep [(0, _), (3, _), (4, _), (6, _), (7, _), (8, _), (9, _)] (Sub.cons rfl (Sub.cons rfl (Sub.cons rfl (Sub.cons rfl (Sub.cons rfl (Sub.cons rfl (Sub.cons rfl (Sub.nil _)))))))) ?_
              refine XC.region ?_
              refine XO.v (V.move rfl) rfl ?_
              refine XO.v (V.move rfl) rfl ?_
              refine XO.v (V.move rfl) rfl ?_
              refine XO.v (V.indexSl rfl rfl sl_22 (by omega)) rfl ?_
              refine XO.v (V.fieldAddr rfl fo_37_6) rfl ?_
              refine XO.v (V.loadRo rfl (inXM (.there .here)) (acts_ld_S A len _ (by omega)) sc_9) rfl ?_
              refine XO.v (V.move rfl) rfl ?_
              refine XO.v (V.sliceTo rfl rfl Try.underlying9 (by omega)) rfl ?_
              refine XO.v (V.concat rfl rfl (by simp only [ByteArray.size_extract]; omega)) rfl ?_
              refine XO.v (V.assign rfl) rfl ?_
              refine XO.nil ?_
              refine XE.meetG (⟨x.s, x.i + 1, x.inn, x.out⟩) ?_ (Sub.cons rfl (Sub.cons rfl (Sub.cons rfl (Sub.cons (eqs (by rw [show (A x.i).s.extract 0 (0 : Int).toNat = ⟨#[]⟩ from by rw [str_empty, ByteArray.size_extract]; simp]; exact append_nil _)) (Sub.cons rfl (Sub.cons rfl (Sub.nil _))))))) (fun _ hw => XM.pick (.cons .here (.cons .here .nil)) hw)
              · exact ⟨hx.same (by omega), rfl⟩
          · skip
            refine XC.seq ?_
            refine XC.region ?_
            refine XO.v (V.move rfl) rfl ?_
            refine XO.v (V.move rfl) rfl ?_
            refine XO.v (V.move rfl) rfl ?_
            refine XO.v (V.move rfl) rfl ?_
            refine XO.v (V.indexSl rfl rfl sl_22 (by omega)) rfl ?_
            refine XO.v (V.fieldAddr rfl fo_37_2) rfl ?_
            refine XO.v (V.loadRo rfl (inXM (.there .here)) (acts_ld_B A len _ (by omega)) sc_3) rfl ?_
            refine XO.call rfl (p_Read_open _ _ _ hx.inv hx.r hx.w _) (.cons .here .nil) cl_13 rfl ?_
            rintro _ _ (⟨k, h11, rfl, rfl⟩ | ⟨c, rfl, rfl⟩)
            · skip
              obtain ⟨k0, k1, k2, kr⟩ := h11
              have ksz : ((x.s.b 0).extract 0 k.toNat).size = k.toNat := by rw [ByteArray.size_extract]; omega
              refine XO.v (V.move rfl) rfl ?_
              refine XO.v (V.extract rfl rfl) rfl ?_
              refine XO.v (V.extract rfl rfl) rfl ?_
              refine XO.v (V.assign rfl) rfl ?_
              refine XO.v (V.assign rfl) rfl ?_
              refine XO.nil ?_
              refine XE.next ?_
              refine XC.keep [(0, _), (3, _), (4, _), (6, _), (7, _), (8, _), (11, _), (12, _)] (Sub.cons rfl (Sub.cons rfl (Sub.cons rfl (Sub.cons rfl (Sub.cons rfl (Sub.cons rfl (Sub.cons rfl (Sub.cons rfl (Sub.nil _))))))))) ?_
              refine XC.seq ?_
              refine XC.seq ?_
              refine XC.region ?_
              refine XO.v (V.move rfl) rfl ?_
              refine XO.v (V.nilNil rfl Try.underlying30 rfl) rfl ?_
              refine XO.v (V.move rfl) rfl ?_
              refine XO.guardRun rfl rfl rfl ?_
              refine XO.v (V.move rfl) rfl ?_
              refine XO.guardRun rfl rfl rfl ?_
              refine XO.v (V.lenStr rfl Try.underlying9) rfl ?_
              refine XO.guardRun rfl rfl rfl ?_
              refine XO.v (V.move rfl) rfl ?_
              refine XO.guardRun rfl rfl rfl ?_
              refine XO.v (V.move rfl) rfl ?_
              refine XO.guardRun rfl rfl rfl ?_
              refine XO.v (V.indexSl rfl rfl sl_22 (by omega)) rfl ?_
              refine XO.guardRun rfl rfl rfl ?_
              refine XO.v (V.fieldAddr rfl fo_37_2) rfl ?_
              refine XO.guardRun rfl rfl rfl ?_
              refine XO.v (V.loadRo rfl (inXM (.there .here)) (acts_ld_B A len _ (by omega)) sc_3) rfl ?_
              refine XO.guardRun rfl rfl rfl ?_
              refine XO.v (V.max2 rfl rfl) rfl ?_
              refine XO.guardRun rfl rfl rfl ?_
              refine XO.v (V.cmp rfl rfl rfl) rfl ?_
              refine XO.v (V.pick rfl rfl rfl rfl) rfl ?_
              refine XO.nil ?_
              refine XE.next ?_
              refine XC.keep [(0, _), (3, _), (4, _), (6, _), (7, _), (8, _), (11, _), (124, _)] (Sub.cons rfl (Sub.cons rfl (Sub.cons rfl (Sub.cons rfl (Sub.cons rfl (Sub.cons rfl (Sub.cons rfl (Sub.cons rfl (Sub.nil _))))))))) ?_
              refine XC.condFP rfl (by first | omega | (simp; done) | (simp; omega)) ?_
              refine XC.skip ?_
              refine XE.next ?_
              refine XC.keep [(0, _), (3, _), (4, _), (6, _), (7, _), (8, _), (11, _)] (Sub.cons rfl (Sub.cons rfl (Sub.cons rfl (Sub.cons rfl (Sub.cons rfl (Sub.cons rfl (Sub.cons rfl (Sub.nil _)))))))) ?_
              refine XC.region ?_
              refine XO.v (V.move rfl) rfl ?_
              refine XO.v (V.move rfl) rfl ?_
              refine XO.v (V.concat rfl rfl (by omega)) rfl ?_
              refine XO.v (V.assign rfl) rfl ?_
              refine XO.nil ?_
              refine XE.meetG (⟨x.s.taken k, x.i + 1, x.inn, x.out ++ (x.s.b 0).extract 0 k.toNat⟩) ?_ (Sub.cons rfl (Sub.cons rfl (Sub.cons rfl (Sub.cons rfl (Sub.cons rfl (Sub.cons rfl (Sub.nil _))))))) (fun _ hw => XM.pick (.cons .here (.cons .here .nil)) hw)
              · exact ⟨hx.read (by omega) k0 k1 kr, rfl⟩
            · skip
              refine XO.v (V.move rfl) rfl ?_
              refine XO.v (V.extract rfl rfl) rfl ?_
              refine XO.v (V.extract rfl rfl) rfl ?_
              refine XO.v (V.assign rfl) rfl ?_
              refine XO.v (V.assign rfl) rfl ?_
              refine XO.nil ?_
              refine XE.next ?_
              refine XC.keep [(0, _), (3, _), (4, _), (6, _), (7, _), (8, _), (11, _), (12, _)] (Sub.cons rfl (Sub.cons rfl (Sub.cons rfl (Sub.cons rfl (Sub.cons rfl (Sub.cons rfl (Sub.cons rfl (Sub.cons rfl (Sub.nil _))))))))) ?_
              refine XC.seq ?_
              refine XC.seq ?_
              refine XC.region ?_
              refine XO.v (V.move rfl) rfl ?_
              refine XO.v (V.ifaceNil rfl Try.underlying30 rfl) rfl ?_
              refine XO.v (V.move rfl) rfl ?_
              refine XO.guardSkip rfl rfl rfl rfl rfl ?_
              refine XO.guardSkip rfl rfl rfl rfl rfl ?_
              refine XO.guardSkip rfl rfl rfl rfl rfl ?_
              refine XO.guardSkip rfl rfl rfl rfl rfl ?_
              refine XO.guardSkip rfl rfl rfl rfl rfl ?_
              refine XO.guardSkip rfl rfl rfl rfl rfl ?_
              refine XO.guardSkip rfl rfl rfl rfl rfl ?_
              refine XO.guardSkip rfl rfl rfl rfl rfl ?_
              refine XO.guardSkip rfl rfl rfl rfl rfl ?_
              refine XO.v (V.pick rfl rfl rfl rfl) rfl ?_
              refine XO.nil ?_
              refine XE.next ?_
              refine XC.keep [(0, _), (3, _), (4, _), (6, _), (7, _), (8, _), (11, _), (124, _)] (Sub.cons rfl (Sub.cons rfl (Sub.cons rfl (Sub.cons rfl (Sub.cons rfl (Sub.cons rfl (Sub.cons rfl (Sub.cons rfl (Sub.nil _))))))))) ?_
              refine XC.condF rfl rfl ?_
              refine XC.skip ?_
              refine XE.next ?_
              refine XC.keep [(0, _), (3, _), (4, _), (6, _), (7, _), (8, _), (11, _)] (Sub.cons rfl (Sub.cons rfl (Sub.cons rfl (Sub.cons rfl (Sub.cons rfl (Sub.cons rfl (Sub.cons rfl (Sub.nil _)))))))) ?_
              refine XC.region ?_
              refine XO.v (V.move rfl) rfl ?_
              refine XO.v (V.move rfl) rfl ?_
              refine XO.v (V.concat rfl rfl (by omega)) rfl ?_
              refine XO.v (V.assign rfl) rfl ?_
              refine XO.nil ?_
              refine XE.meetG (⟨x.s, x.i + 1, x.inn, x.out⟩) ?_ (Sub.cons rfl (Sub.cons rfl (Sub.cons rfl (Sub.cons rfl (Sub.cons (eqs (append_nil _)) (Sub.cons rfl (Sub.nil _))))))) (fun _ hw => XM.pick (.cons .here (.cons .here .nil)) hw)
              · exact ⟨hx.same (by omega), rfl⟩
        rintro y ⟨hy, hyi⟩
        obtain ⟨gf1, gf2, gf3⟩ := hy.facts
        have gsz := hy.sz
        have gi := hy.i1
        refine XC.seq ?_
        refine XC.region ?_
        refine XO.v (V.move rfl) rfl ?_
        refine XO.v (V.lenStr rfl Try.underlying9) rfl ?_
        refine XO.v (V.move rfl) rfl ?_
        refine XO.v (V.lenStr rfl Try.underlying9) rfl ?_
        refine XO.v (V.cmp rfl rfl rfl) rfl ?_
        refine XO.v (V.move rfl) rfl ?_
        refine XO.splitF (d := 133) rfl (by first | omega | (simp; done) | (simp; omega)) ?_
        refine XO.guardRun rfl rfl rfl ?_
        refine XO.v (V.move rfl) rfl ?_
        refine XO.guardRun rfl rfl rfl ?_
        refine XO.v (V.move rfl) rfl ?_
        refine XO.guardRun rfl rfl rfl ?_
        refine XO.v (V.move rfl) rfl ?_
        refine XO.guardRun rfl rfl rfl ?_
        refine XO.v (V.lenStr rfl Try.underlying9) rfl ?_
        refine XO.guardRun rfl rfl rfl ?_
        refine XO.v (V.sliceTo rfl rfl Try.underlying9 (by omega)) rfl ?_
        refine XO.guardRun rfl rfl rfl ?_
        refine XO.v (V.strCmp rfl rfl rfl) rfl ?_
        refine XO.v (V.pick rfl rfl rfl rfl) rfl ?_
        refine XO.v (V.move rfl) rfl ?_
        refine XO.splitF (d := 141) rfl (by intro q; exact q gf2) ?_
        refine XO.guardRun rfl rfl rfl ?_
        refine XO.v (V.move rfl) rfl ?_
        refine XO.guardRun rfl rfl rfl ?_
        refine XO.v (V.lenStr rfl Try.underlying9) rfl ?_
        refine XO.guardRun rfl rfl rfl ?_
        refine XO.v (V.move rfl) rfl ?_
        refine XO.guardRun rfl rfl rfl ?_
        refine XO.v (V.lenStr rfl Try.underlying9) rfl ?_
        refine XO.guardRun rfl rfl rfl ?_
        refine XO.v (V.sub rfl rfl _ (IntWalk.i64_in _ (by omega))) rfl ?_
        refine XO.guardRun rfl rfl rfl ?_
        refine XO.v (V.cmp rfl rfl rfl) rfl ?_
        refine XO.v (V.pick rfl rfl rfl rfl) rfl ?_
        refine XO.nil ?_
        refine XE.next ?_
        refine XC.keep [(0, _), (3, _), (4, _), (6, _), (7, _), (8, _), (148, _)] (Sub.cons rfl (Sub.cons rfl (Sub.cons rfl (Sub.cons rfl (Sub.cons rfl (Sub.cons rfl (Sub.cons rfl (Sub.nil _)))))))) ?_
        refine XC.condFP rfl (by first | omega | (simp; done) | (simp; omega)) ?_
        refine XC.skip ?_
        refine XE.blockNormal ?_
        refine XE.next ?_
        refine XC.keep [(0, _), (3, _), (4, _), (6, _), (7, _), (8, _)] (Sub.cons rfl (Sub.cons rfl (Sub.cons rfl (Sub.cons rfl (Sub.cons rfl (Sub.cons rfl (Sub.nil _))))))) ?_
        refine XC.region ?_
        refine XO.v (V.move rfl) rfl ?_
        refine XO.v (V.add rfl rfl _ (IntWalk.i64_in _ (by omega))) rfl ?_
        refine XO.v (V.assign rfl) rfl ?_
        refine XO.nil ?_
        refine XE.again (y) ?_ ?_ (Sub.cons rfl (Sub.cons rfl (Sub.cons (eqi hyi.symm) (Sub.cons rfl (Sub.cons rfl (Sub.cons rfl (Sub.nil _))))))) (fun _ hw => XM.pick (.cons .here (.cons .here .nil)) hw)
        · skip
          (have := hyi; simp; omega)
        · skip
          exact hy
      · skip
        refine XC.exit ?_
        refine XE.thenExit ?_
        refine XE.thenExit ?_
        refine XE.blockExit ?_
        refine XE.next ?_
        refine XC.keep [(3, _), (4, _), (6, _), (7, _)] (Sub.cons rfl (Sub.cons rfl (Sub.cons rfl (Sub.cons rfl (Sub.nil _))))) ?_
        refine XC.seq ?_
        refine XC.seq ?_
        refine XC.region ?_
        refine XO.v (V.move rfl) rfl ?_
        refine XO.v (V.move rfl) rfl ?_
        refine XO.call rfl (p_turn_eq (by omega) hx.inv true (half_drop hx.r hx.w)) (.cons .here .nil) cl_14 rfl ?_
        rintro _ _ ⟨rfl, rfl⟩
        refine XO.v (V.nilNil rfl Try.underlying30 rfl) rfl ?_
        refine XO.nil ?_
        refine XE.next ?_
        refine XC.keep [(3, _), (4, _), (6, _), (7, _), (152, _)] (Sub.cons rfl (Sub.cons rfl (Sub.cons rfl (Sub.cons rfl (Sub.cons rfl (Sub.nil _)))))) ?_
        refine XC.condF rfl rfl ?_
        refine XC.skip ?_
        refine XE.next ?_
        refine XC.keep [(3, _), (4, _), (6, _), (7, _)] (Sub.cons rfl (Sub.cons rfl (Sub.cons rfl (Sub.cons rfl (Sub.nil _))))) ?_
        refine XC.seq ?_
        refine XC.region ?_
        refine XO.v (V.move rfl) rfl ?_
        refine XO.v (V.move rfl) rfl ?_
        refine XO.call rfl (p_read_eq (K := 2) (by omega) (half_inv hx.inv hx.r hx.w) (half_read hx.r (hx.inv.len 0))) (.cons .here .nil) cl_13 rfl ?_
        rintro _ _ ⟨rfl, rfl⟩
        refine XO.v (V.move rfl) rfl ?_
        refine XO.v (V.extract rfl rfl) rfl ?_
        refine XO.v (V.extract rfl rfl) rfl ?_
        refine XO.v (V.assign rfl) rfl ?_
        refine XO.v (V.assign rfl) rfl ?_
        refine XO.nil ?_
        refine XE.next ?_
        refine XC.keep [(3, _), (4, _), (6, _), (7, _), (13, _), (14, _)] (Sub.cons rfl (Sub.cons rfl (Sub.cons rfl (Sub.cons rfl (Sub.cons rfl (Sub.cons rfl (Sub.nil _))))))) ?_
        refine XC.seq ?_
        refine XC.region ?_
        refine XO.v (V.move rfl) rfl ?_
        refine XO.v (V.move rfl) rfl ?_
        refine XO.call rfl (p_read_eq (K := 2) (by omega) (dry_inv hx.inv hx.r hx.w) (dry_read hx.r)) (.cons .here .nil) cl_13 rfl ?_
        rintro _ _ ⟨rfl, rfl⟩
        refine XO.v (V.move rfl) rfl ?_
        refine XO.v (V.extract rfl rfl) rfl ?_
        refine XO.v (V.extract rfl rfl) rfl ?_
        refine XO.v (V.assign rfl) rfl ?_
        refine XO.v (V.assign rfl) rfl ?_
        refine XO.nil ?_
        refine XE.next ?_
        refine XC.keep [(3, _), (4, _), (6, _), (7, _), (13, _), (14, _), (15, _), (16, _)] (Sub.cons rfl (Sub.cons rfl (Sub.cons rfl (Sub.cons rfl (Sub.cons rfl (Sub.cons rfl (Sub.cons rfl (Sub.cons rfl (Sub.nil _))))))))) ?_
        refine XC.seq ?_
        refine XC.region ?_
        refine XO.v (V.move rfl) rfl ?_
        refine XO.v (V.nilNil rfl Try.underlying30 rfl) rfl ?_
        refine XO.v (V.move rfl) rfl ?_
        refine XO.guardRun rfl rfl rfl ?_
        refine XO.v (V.move rfl) rfl ?_
        refine XO.guardRun rfl rfl rfl ?_
        refine XO.v (V.nilNil rfl Try.underlying30 rfl) rfl ?_
        refine XO.v (V.pick rfl rfl rfl rfl) rfl ?_
        refine XO.v (V.move rfl) rfl ?_
        refine XO.guardRun rfl rfl rfl ?_
        refine XO.v (V.move rfl) rfl ?_
        refine XO.guardRun rfl rfl rfl ?_
        refine XO.v (V.move rfl) rfl ?_
        refine XO.guardRun rfl rfl rfl ?_
        refine XO.v (V.concat rfl rfl (by omega)) rfl ?_
        refine XO.guardRun rfl rfl rfl ?_
        refine XO.v (V.move rfl) rfl ?_
        refine XO.guardRun rfl rfl rfl ?_
        refine XO.v (V.strCmp rfl rfl rfl) rfl ?_
        refine XO.v (V.pick rfl rfl rfl rfl) rfl ?_
        refine XO.v (V.move rfl) rfl ?_
        refine XO.splitT (d := 178) rfl ((hx.io).symm) ?_
        refine XO.guardRun rfl rfl rfl ?_
        refine XO.v (V.move rfl) rfl ?_
        refine XO.guardRun rfl rfl rfl ?_
        refine XO.v (V.strCmp rfl rfl rfl) rfl ?_
        refine XO.v (V.pick rfl rfl rfl rfl) rfl ?_
        refine XO.v (V.move rfl) rfl ?_
        refine XO.splitT (d := 182) rfl (by first | omega | (simp; done) | (simp; omega)) ?_
        refine XO.guardRun rfl rfl rfl ?_
        refine XO.v (V.move rfl) rfl ?_
        refine XO.guardRun rfl rfl rfl ?_
        refine XO.v (V.move rfl) rfl ?_
        refine XO.guardRun rfl rfl rfl ?_
        refine XO.call rfl (p_turn_eq (K := 2) (by omega) (dry_inv hx.inv hx.r hx.w) false (gone_drop hx.r)) (.cons .here .nil) cl_14 rfl ?_
        rintro _ _ ⟨rfl, rfl⟩
        refine XO.guardRun rfl rfl rfl ?_
        refine XO.v (V.nilNil rfl Try.underlying30 rfl) rfl ?_
        refine XO.v (V.pick rfl rfl rfl rfl) rfl ?_
        refine XO.v (V.move rfl) rfl ?_
        refine XO.guardRun rfl rfl rfl ?_
        refine XO.v (V.move rfl) rfl ?_
        refine XO.guardRun rfl rfl rfl ?_
        refine XO.call rfl (p_Pipes _ _ 3 (by omega) _ (gone_inv hx.inv hx.r hx.w)) (.cons .here .nil) cl_9 rfl ?_
        rintro _ _ ⟨rfl, rfl⟩
        refine XO.guardRun rfl rfl rfl ?_
        refine XO.v (V.cmp rfl rfl rfl) rfl ?_
        refine XO.v (V.pick rfl rfl rfl rfl) rfl ?_
        refine XO.v (V.assign rfl) rfl ?_
        refine XO.nil ?_
        refine XE.next ?_
        refine XC.keep [(2, _)] (Sub.cons rfl (Sub.nil _)) ?_
        refine XC.ret ?_
        refine XE.ret1 rfl rfl (post_of .nil rfl ?_)
        first | exact ⟨rfl, rfl⟩ | exact ⟨congrArg Value.bool (decide_eq_true (gone_open hx.z)), rfl⟩
end Go.X
