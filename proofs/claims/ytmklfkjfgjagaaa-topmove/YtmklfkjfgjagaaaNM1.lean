import Derived.Test.YtmklfkjfgjagaaaNMM
import Derived.Test.YtmklfkjfgjagaaaNL3
namespace Go.X
open Go Go.Proofs
theorem ag_38 : aggT Try.prog 38 = true := by kernel_rfl
theorem ar_112 : arrOf Try.prog 112 = some (40, 1) := by kernel_rfl
theorem cl_11 : callable Try.prog 11 = true := by kernel_rfl
theorem cl_14 : callable Try.prog 14 = true := by kernel_rfl
theorem cl_26 : callable Try.prog 26 = true := by kernel_rfl
theorem cl_30 : callable Try.prog 30 = true := by kernel_rfl
theorem cl_7 : callable Try.prog 7 = true := by kernel_rfl
theorem cl_8 : callable Try.prog 8 = true := by kernel_rfl
theorem cl_9 : callable Try.prog 9 = true := by kernel_rfl
theorem fo_55_0 : fieldOff Try.prog 55 0 = some 0 := by kernel_rfl
theorem fo_55_1 : fieldOff Try.prog 55 1 = some 1 := by kernel_rfl
theorem fo_55_2 : fieldOff Try.prog 55 2 = some 2 := by kernel_rfl
theorem sz_38_8 : szOf Try.prog 38 = some 8 := by kernel_rfl
set_option maxRecDepth 10000 in
set_option maxHeartbeats 400000 in
theorem number_nil  : Spec Try.prog 26 [.nilIface]
    []
    (fun v H1 => v = .int .i64 0 ∧ H1 = []) := by
  refine Spec.intro Try.func26 rfl rfl ?_
  intro W
  refine XC.seq ?_
  refine XC.region ?_
  refine XO.v (V.assign rfl) rfl ?_
  refine XO.nil ?_
  refine XE.next ?_
  refine XC.keep [(0, _)] (Sub.cons rfl (Sub.nil _)) ?_
  refine XC.seq ?_
  refine XC.seq ?_
  refine XC.region ?_
  refine XO.v (V.move rfl) rfl ?_
  refine XO.v (V.nilNil rfl Try.underlying43 rfl) rfl ?_
  refine XO.nil ?_
  refine XE.next ?_
  refine XC.keep [(0, _), (6, _)] (Sub.cons rfl (Sub.cons rfl (Sub.nil _))) ?_
  refine XC.condT rfl rfl ?_
  refine XC.seq ?_
  refine XC.region ?_
  refine XO.v (V.assign rfl) rfl ?_
  refine XO.nil ?_
  refine XE.next ?_
  refine XC.keep [(2, _)] (Sub.cons rfl (Sub.nil _)) ?_
  refine XC.ret ?_
  refine XE.thenRet ?_
  refine XE.ret1 rfl rfl (post_of .nil rfl ?_)
  exact ⟨rfl, rfl⟩
set_option maxRecDepth 10000 in
set_option maxHeartbeats 400000 in
theorem number_err (e : Int) : Spec Try.prog 26 [.iface 100 (.int .i64 e)]
    []
    (fun v H1 => v = .int .i64 e ∧ H1 = []) := by
  refine Spec.intro Try.func26 rfl rfl ?_
  intro W
  refine XC.seq ?_
  refine XC.region ?_
  refine XO.v (V.assign rfl) rfl ?_
  refine XO.nil ?_
  refine XE.next ?_
  refine XC.keep [(0, _)] (Sub.cons rfl (Sub.nil _)) ?_
  refine XC.seq ?_
  refine XC.seq ?_
  refine XC.region ?_
  refine XO.v (V.move rfl) rfl ?_
  refine XO.v (V.ifaceNil rfl Try.underlying43 rfl) rfl ?_
  refine XO.nil ?_
  refine XE.next ?_
  refine XC.keep [(0, _), (6, _)] (Sub.cons rfl (Sub.cons rfl (Sub.nil _))) ?_
  refine XC.condF rfl rfl ?_
  refine XC.skip ?_
  refine XE.next ?_
  refine XC.keep [(0, _)] (Sub.cons rfl (Sub.nil _)) ?_
  refine XC.seq ?_
  refine XC.region ?_
  refine XO.v (V.move rfl) rfl ?_
  refine XO.v (V.assertOk rfl Try.underlying100 (by simp)) rfl ?_
  refine XO.v (V.move rfl) rfl ?_
  refine XO.v (V.extract rfl rfl) rfl ?_
  refine XO.v (V.extract rfl rfl) rfl ?_
  refine XO.v (V.assign rfl) rfl ?_
  refine XO.v (V.assign rfl) rfl ?_
  refine XO.nil ?_
  refine XE.next ?_
  refine XC.keep [(3, _), (4, _)] (Sub.cons rfl (Sub.cons rfl (Sub.nil _))) ?_
  refine XC.seq ?_
  refine XC.seq ?_
  refine XC.region ?_
  refine XO.v (V.move rfl) rfl ?_
  refine XO.v (V.not rfl) rfl ?_
  refine XO.nil ?_
  refine XE.next ?_
  refine XC.keep [(3, _), (13, _)] (Sub.cons rfl (Sub.cons rfl (Sub.nil _))) ?_
  refine XC.condF rfl rfl ?_
  refine XC.skip ?_
  refine XE.next ?_
  refine XC.keep [(3, _)] (Sub.cons rfl (Sub.nil _)) ?_
  refine XC.seq ?_
  refine XC.region ?_
  refine XO.v (V.move rfl) rfl ?_
  refine XO.v (V.assign rfl) rfl ?_
  refine XO.nil ?_
  refine XE.next ?_
  refine XC.keep [(2, _)] (Sub.cons rfl (Sub.nil _)) ?_
  refine XC.ret ?_
  refine XE.ret1 rfl rfl (post_of .nil rfl ?_)
  exact ⟨rfl, rfl⟩
theorem number_any (e : Int) : Spec Try.prog 26 [errv 100 e] [] (fun v H1 => v = .int .i64 e ∧ H1 = []) := by
  by_cases h : e = 0
  · subst h; exact number_nil
  · rw [errv_pos _ h]; exact number_err e
set_option maxRecDepth 10000 in
set_option maxHeartbeats 16000000 in
theorem mv_s (bl ol len cap : Nat) (hlen : len ≤ cap) (A : Int → ActV) (hA : ∀ z : Int, 0 ≤ z → z < len → (A z).ok) (n : Int) (hzn : -9223372036854775808 ≤ n ∧ n ≤ 9223372036854775807) (x : ByteArray) (hzx : x.size ≤ 9223372036854775807) (to : Int) (hzt : -9223372036854775808 ≤ to ∧ to ≤ 9223372036854775807) (y : ByteArray) (hzy : y.size ≤ 9223372036854775807) : Spec Try.prog 4 [.slice (some ⟨bl, ol, none⟩) len cap, .int .i64 n, .string x, .int .i64 to, .string y]
    [.ro bl ol (8 * len) (encActs A)]
    (fun v H1 => v = .bool true ∧ H1 = []) := by
  refine Spec.intro Try.func4 rfl rfl ?_
  intro W
  refine XC.seq ?_
  refine XC.region ?_
  refine XO.v (V.assign rfl) rfl ?_
  refine XO.nil ?_
  refine XE.next ?_
  refine XC.keep [(0, _), (1, _), (2, _), (3, _), (4, _)] (Sub.cons rfl (Sub.cons rfl (Sub.cons rfl (Sub.cons rfl (Sub.cons rfl (Sub.nil _)))))) ?_
  refine XC.seq ?_
  refine XC.region ?_
  refine XO.call rfl (t_New) .nil cl_10 rfl ?_
  rintro _ _ ⟨bf, rfl, rfl⟩
  refine XO.v (V.assign rfl) rfl ?_
  refine XO.nil ?_
  refine XE.next ?_
  refine XC.keep [(0, _), (1, _), (2, _), (3, _), (4, _), (11, _)] (Sub.cons rfl (Sub.cons rfl (Sub.cons rfl (Sub.cons rfl (Sub.cons rfl (Sub.cons rfl (Sub.nil _))))))) ?_
  refine XC.seq ?_
  refine XC.seq ?_
  refine XC.region ?_
  refine XO.v (V.move rfl) rfl ?_
  refine XO.v (V.ptrNilP rfl Try.underlying25 rfl) rfl ?_
  refine XO.nil ?_
  refine XE.next ?_
  refine XC.keep [(0, _), (1, _), (2, _), (3, _), (4, _), (11, _), (39, _)] (Sub.cons rfl (Sub.cons rfl (Sub.cons rfl (Sub.cons rfl (Sub.cons rfl (Sub.cons rfl (Sub.cons rfl (Sub.nil _)))))))) ?_
  refine XC.condF rfl rfl ?_
  refine XC.skip ?_
  refine XE.next ?_
  refine XC.keep [(0, _), (1, _), (2, _), (3, _), (4, _), (11, _)] (Sub.cons rfl (Sub.cons rfl (Sub.cons rfl (Sub.cons rfl (Sub.cons rfl (Sub.cons rfl (Sub.nil _))))))) ?_
  refine XC.seq ?_
  refine XC.region ?_
  refine XO.v (V.move rfl) rfl ?_
  refine XO.call rfl (t_Plant _ _ _ (FF.inv_void.sh (by omega))) (.cons .here (.cons .here (.cons .here (.cons .here .nil)))) cl_15 rfl ?_
  rintro _ _ ⟨t0, rfl, ht0, rfl⟩
  obtain ⟨d1, o1⟩ := FF.inv_void.plant
  have ht0 : t0.toFF = FF.void.plant := ht0
  have o0 : t0.toFF.Ok d1 (0 + 1) := by rw [ht0]; exact o1
  refine XO.v (V.move rfl) rfl ?_
  refine XO.v (V.extract rfl rfl) rfl ?_
  refine XO.v (V.extract rfl rfl) rfl ?_
  refine XO.v (V.assign rfl) rfl ?_
  refine XO.v (V.assign rfl) rfl ?_
  refine XO.nil ?_
  refine XE.next ?_
  refine XC.keep [(0, _), (1, _), (2, _), (3, _), (4, _), (11, _), (13, _)] (Sub.cons rfl (Sub.cons rfl (Sub.cons rfl (Sub.cons rfl (Sub.cons rfl (Sub.cons rfl (Sub.cons rfl (Sub.nil _)))))))) ?_
  refine XC.seq ?_
  refine XC.region ?_
  refine XO.v (V.move rfl) rfl ?_
  refine XO.call rfl (t_Plant _ _ _ (o0.sh (by omega))) (.cons .here (.cons .here (.cons .here (.cons .here .nil)))) cl_15 rfl ?_
  rintro _ _ ⟨t1, rfl, ht1, rfl⟩
  obtain ⟨d3, o3⟩ := o0.plant
  have ht1 : t1.toFF = FF.void.plant.plant := by rw [ht1, ht0]
  have o4 : t1.toFF.Ok d3 2 := by rw [ht1]; rw [ht0] at o3; exact o3
  refine XO.v (V.move rfl) rfl ?_
  refine XO.v (V.extract rfl rfl) rfl ?_
  refine XO.v (V.extract rfl rfl) rfl ?_
  refine XO.v (V.assign rfl) rfl ?_
  refine XO.v (V.assign rfl) rfl ?_
  refine XO.nil ?_
  refine XE.next ?_
  refine XC.keep [(0, _), (1, _), (2, _), (3, _), (4, _), (11, _), (13, _), (15, _)] (Sub.cons rfl (Sub.cons rfl (Sub.cons rfl (Sub.cons rfl (Sub.cons rfl (Sub.cons rfl (Sub.cons rfl (Sub.cons rfl (Sub.nil _))))))))) ?_
  refine XC.seq ?_
  refine XC.seq ?_
  refine XC.region ?_
  refine XO.v (V.move rfl) rfl ?_
  refine XO.v (V.errNil rfl Try.underlying43 rfl) rfl ?_
  refine XO.v (V.move rfl) rfl ?_
  refine XO.splitF (d := 52) rfl (by decide +kernel) ?_
  refine XO.guardRun rfl rfl rfl ?_
  refine XO.v (V.move rfl) rfl ?_
  refine XO.guardRun rfl rfl rfl ?_
  refine XO.v (V.errNil rfl Try.underlying43 rfl) rfl ?_
  refine XO.v (V.pick rfl rfl rfl rfl) rfl ?_
  refine XO.v (V.move rfl) rfl ?_
  refine XO.splitF (d := 56) rfl (by rw [ht0]; decide +kernel) ?_
  refine XO.guardRun rfl rfl rfl ?_
  refine XO.v (V.move rfl) rfl ?_
  refine XO.guardRun rfl rfl rfl ?_
  refine XO.call rfl (t_Nodes _ _ _) (.cons .here .nil) cl_16 rfl ?_
  rintro _ _ ⟨rfl, rfl⟩
  refine XO.guardRun rfl rfl rfl ?_
  refine XO.v (V.cmp rfl rfl rfl) rfl ?_
  refine XO.v (V.pick rfl rfl rfl rfl) rfl ?_
  refine XO.nil ?_
  refine XE.next ?_
  refine XC.keep [(0, _), (1, _), (2, _), (3, _), (4, _), (11, _), (60, _)] (Sub.cons rfl (Sub.cons rfl (Sub.cons rfl (Sub.cons rfl (Sub.cons rfl (Sub.cons rfl (Sub.cons rfl (Sub.nil _)))))))) ?_
  refine XC.condFP rfl (by rw [ht1]; decide +kernel) ?_
  refine XC.skip ?_
  refine XE.next ?_
  refine XC.keep [(0, _), (1, _), (2, _), (3, _), (4, _), (11, _)] (Sub.cons rfl (Sub.cons rfl (Sub.cons rfl (Sub.cons rfl (Sub.cons rfl (Sub.cons rfl (Sub.nil _))))))) ?_
  refine XC.seq ?_
  refine XC.seq ?_
  refine XC.region ?_
  refine XO.v (V.move rfl) rfl ?_
  refine XO.call rfl (light_any _ _ _ _) .nil cl_8 rfl ?_
  rintro _ _ ⟨rfl, rfl⟩
  refine XO.v (V.notP rfl) rfl ?_
  refine XO.v (V.move rfl) rfl ?_
  refine XO.splitP (d := 64) rfl (fun h3 => ?_) (fun h3 => ?_)
  · skip
    refine XO.guardSkip rfl rfl rfl rfl rfl ?_
    refine XO.guardSkip rfl rfl rfl rfl rfl ?_
    refine XO.guardSkip rfl rfl rfl rfl rfl ?_
    refine XO.v (V.pick rfl rfl rfl rfl) rfl ?_
    refine XO.v (V.move rfl) rfl ?_
    refine XO.guardSkip rfl rfl rfl rfl rfl ?_
    refine XO.guardSkip rfl rfl rfl rfl rfl ?_
    refine XO.guardSkip rfl rfl rfl rfl rfl ?_
    refine XO.v (V.pick rfl rfl rfl rfl) rfl ?_
    refine XO.v (V.move rfl) rfl ?_
    refine XO.guardSkip rfl rfl rfl rfl rfl ?_
    refine XO.guardSkip rfl rfl rfl rfl rfl ?_
    refine XO.guardSkip rfl rfl rfl rfl rfl ?_
    refine XO.v (V.pick rfl rfl rfl rfl) rfl ?_
    refine XO.nil ?_
    refine XE.next ?_
    refine XC.keep [(0, _), (1, _), (2, _), (3, _), (4, _), (11, _), (78, _)] (Sub.cons rfl (Sub.cons rfl (Sub.cons rfl (Sub.cons rfl (Sub.cons rfl (Sub.cons rfl (Sub.cons rfl (Sub.nil _)))))))) ?_
    refine XC.condT rfl rfl ?_
    refine XC.seq ?_
    refine XC.region ?_
    refine XO.v (V.assign rfl) rfl ?_
    refine XO.nil ?_
    refine XE.next ?_
    refine XC.keep [(10, _)] (Sub.cons rfl (Sub.nil _)) ?_
    refine XC.ret ?_
    refine XE.thenRet ?_
    refine XE.ret1 rfl rfl (post_of .nil rfl ?_)
    exact ⟨rfl, rfl⟩
  · skip
    refine XO.guardRun rfl rfl rfl ?_
    refine XO.v (V.move rfl) rfl ?_
    refine XO.guardRun rfl rfl rfl ?_
    refine XO.callR 0 rfl (texts_any _ _ len cap hlen A hA (by omega) _) (.cons (.there (.there (.there (.there .here)))) .nil) rfl cl_9 rfl ?_
    rintro _ _ ⟨⟨bt, rfl, tx⟩, rfl⟩
    refine XO.guardRun rfl rfl rfl ?_
    refine XO.v (V.not rfl) rfl ?_
    refine XO.v (V.pick rfl rfl rfl rfl) rfl ?_
    refine XO.v (V.move rfl) rfl ?_
    refine XO.split (d := 69) rfl (fun h4 => ?_) (fun h4 => ?_)
    · try simp only [sb] at h4
      refine XO.guardSkip rfl rfl rfl rfl rfl ?_
      refine XO.guardSkip rfl rfl rfl rfl rfl ?_
      refine XO.guardSkip rfl rfl rfl rfl rfl ?_
      refine XO.v (V.pick rfl rfl rfl rfl) rfl ?_
      refine XO.v (V.move rfl) rfl ?_
      refine XO.guardSkip rfl rfl rfl rfl rfl ?_
      refine XO.guardSkip rfl rfl rfl rfl rfl ?_
      refine XO.guardSkip rfl rfl rfl rfl rfl ?_
      refine XO.v (V.pick rfl rfl rfl rfl) rfl ?_
      refine XO.nil ?_
      refine XE.next ?_
      refine XC.keep [(0, _), (1, _), (2, _), (3, _), (4, _), (11, _), (78, _)] (Sub.cons rfl (Sub.cons rfl (Sub.cons rfl (Sub.cons rfl (Sub.cons rfl (Sub.cons rfl (Sub.cons rfl (Sub.nil _)))))))) ?_
      refine XC.condT rfl rfl ?_
      refine XC.seq ?_
      refine XC.region ?_
      refine XO.v (V.assign rfl) rfl ?_
      refine XO.nil ?_
      refine XE.next ?_
      refine XC.keep [(10, _)] (Sub.cons rfl (Sub.nil _)) ?_
      refine XC.ret ?_
      refine XE.thenRet ?_
      refine XE.ret1 rfl rfl (post_of .nil rfl ?_)
      exact ⟨rfl, rfl⟩
    · try simp only [sb] at h4
      have tx := tx (by simpa using h4)
      refine XO.guardRun rfl rfl rfl ?_
      refine XO.v (V.move rfl) rfl ?_
      refine XO.guardRun rfl rfl rfl ?_
      refine XO.v (V.lenStr rfl Try.underlying9) rfl ?_
      refine XO.guardRun rfl rfl rfl ?_
      refine XO.v (V.cmp rfl rfl rfl) rfl ?_
      refine XO.v (V.pick rfl rfl rfl rfl) rfl ?_
      refine XO.v (V.move rfl) rfl ?_
      refine XO.splitP (d := 74) rfl (fun h5 => ?_) (fun h5 => ?_)
      · skip
        refine XO.guardSkip rfl rfl rfl rfl rfl ?_
        refine XO.guardSkip rfl rfl rfl rfl rfl ?_
        refine XO.guardSkip rfl rfl rfl rfl rfl ?_
        refine XO.v (V.pick rfl rfl rfl rfl) rfl ?_
        refine XO.nil ?_
        refine XE.next ?_
        refine XC.keep [(0, _), (1, _), (2, _), (3, _), (4, _), (11, _), (78, _)] (Sub.cons rfl (Sub.cons rfl (Sub.cons rfl (Sub.cons rfl (Sub.cons rfl (Sub.cons rfl (Sub.cons rfl (Sub.nil _)))))))) ?_
        refine XC.condT rfl rfl ?_
        refine XC.seq ?_
        refine XC.region ?_
        refine XO.v (V.assign rfl) rfl ?_
        refine XO.nil ?_
        refine XE.next ?_
        refine XC.keep [(10, _)] (Sub.cons rfl (Sub.nil _)) ?_
        refine XC.ret ?_
        refine XE.thenRet ?_
        refine XE.ret1 rfl rfl (post_of .nil rfl ?_)
        exact ⟨rfl, rfl⟩
      · skip
        refine XO.guardRun rfl rfl rfl ?_
        refine XO.v (V.move rfl) rfl ?_
        refine XO.guardRun rfl rfl rfl ?_
        refine XO.v (V.lenStr rfl Try.underlying9) rfl ?_
        refine XO.guardRun rfl rfl rfl ?_
        refine XO.v (V.cmp rfl rfl rfl) rfl ?_
        refine XO.v (V.pick rfl rfl rfl rfl) rfl ?_
        refine XO.nil ?_
        refine XE.next ?_
        refine XC.keep [(0, _), (1, _), (2, _), (3, _), (4, _), (11, _), (78, _)] (Sub.cons rfl (Sub.cons rfl (Sub.cons rfl (Sub.cons rfl (Sub.cons rfl (Sub.cons rfl (Sub.cons rfl (Sub.nil _)))))))) ?_
        refine XC.condP rfl (fun h6 => ?_) (fun h6 => ?_)
        · skip
          refine XC.seq ?_
          refine XC.region ?_
          refine XO.v (V.assign rfl) rfl ?_
          refine XO.nil ?_
          refine XE.next ?_
          refine XC.keep [(10, _)] (Sub.cons rfl (Sub.nil _)) ?_
          refine XC.ret ?_
          refine XE.thenRet ?_
          refine XE.ret1 rfl rfl (post_of .nil rfl ?_)
          exact ⟨rfl, rfl⟩
        · skip
          refine XC.skip ?_
          refine XE.next ?_
          refine XC.keep [(0, _), (1, _), (2, _), (3, _), (4, _), (11, _)] (Sub.cons rfl (Sub.cons rfl (Sub.cons rfl (Sub.cons rfl (Sub.cons rfl (Sub.cons rfl (Sub.nil _))))))) ?_
          refine XC.seq ?_
          refine XC.seq ?_
          refine XC.region ?_
          refine XO.v (V.assign rfl) rfl ?_
          refine XO.nil ?_
          refine XE.next ?_
          refine XC.keep [(0, _), (1, _), (2, _), (3, _), (4, _), (11, _), (16, _)] (Sub.cons rfl (Sub.cons rfl (Sub.cons rfl (Sub.cons rfl (Sub.cons rfl (Sub.cons rfl (Sub.cons rfl (Sub.nil _)))))))) ?_
          refine XC.block ?_
          refine XC.loop (σ := FC × Int) (fun q => (len - q.2).toNat) (fun q => (∃ d, q.1.toFF.Ok d (q.2 + 2)) ∧ 0 ≤ q.2 ∧ q.2 ≤ len) (fun q => [(16, .int .i64 q.2), (0, .slice (some ⟨bl, ol, none⟩) len cap), (1, .int .i64 n), (2, .string x), (3, .int .i64 to), (4, .string y), (11, ptr bf 0 0)]) (fun q => XM W (foot [.ro bl ol (8 * len) (encActs A)]) [.cells bf 0 321 (encF q.1), .fam fam40 (FC.rowsN 9 q.1), .fam fam40 (FC.rowsK 3 q.1), irow (FC.rP q.1) (FC.rC q.1) 3 (FC.toFF q.1).roots, .ro bl ol (8 * len) (encActs A)]) ((t1, 0)) ?_ (Sub.cons rfl (Sub.cons rfl (Sub.cons rfl (Sub.cons rfl (Sub.cons rfl (Sub.cons rfl (Sub.cons rfl (Sub.nil _)))))))) (fun _ hw => XM.pick (.cons (.there .here) (.cons (.there .here) (.cons (.there .here) (.cons (.there .here) (.cons .here .nil))))) hw) ?_
          · skip
            exact ⟨⟨d3, o4⟩, by simp, by simp⟩
          rintro ⟨x0, i⟩ hx
          obtain ⟨⟨d, hO⟩, hx0, hx1⟩ := hx
          simp only at hx0 hx1 hO
          refine XC.seq ?_
          refine XC.seq ?_
          refine XC.region ?_
          refine XO.v (V.move rfl) rfl ?_
          refine XO.v (V.move rfl) rfl ?_
          refine XO.v (V.lenSl rfl Try.underlying22) rfl ?_
          refine XO.v (V.cmp rfl rfl rfl) rfl ?_
          refine XO.nil ?_
          refine XE.next ?_
          refine XC.keep [(0, _), (1, _), (2, _), (3, _), (4, _), (11, _), (16, _), (82, _)] (Sub.cons rfl (Sub.cons rfl (Sub.cons rfl (Sub.cons rfl (Sub.cons rfl (Sub.cons rfl (Sub.cons rfl (Sub.cons rfl (Sub.nil _))))))))) ?_
          refine XC.condP rfl (fun h7 => ?_) (fun h7 => ?_)
          · skip
            refine XC.skip ?_
            refine XE.next ?_
            refine XC.keep [(0, _), (1, _), (2, _), (3, _), (4, _), (11, _), (16, _)] (Sub.cons rfl (Sub.cons rfl (Sub.cons rfl (Sub.cons rfl (Sub.cons rfl (Sub.cons rfl (Sub.cons rfl (Sub.nil _)))))))) ?_
            refine XC.seq ?_
            refine XC.block ?_
            refine XC.seq ?_
            refine XC.region ?_
            have hS := hO.sh (by omega)
            have tz := tx (x0, i).2 (by show 0 ≤ i; omega) (by show i < _; omega)
            refine XO.v (V.move rfl) rfl ?_
            refine XO.v (V.move rfl) rfl ?_
            refine XO.v (V.indexSl rfl rfl sl_22 (by omega)) rfl ?_
            refine XO.v (V.loadAggRo rfl (inXM (.there (.there (.there (.there .here))))) (acts_load A len _ (by omega)) ag_38 sz_38_8) rfl ?_
            refine XO.allocZ (z := .agg actZero) (m := 8) (C := cellsOf actZero) (by kernel_rfl) rfl (fun _ _ => rfl) rfl ?_
            intro ba
            refine XO.storeAgg rfl rfl .here (acts_store _) ⟨rfl, rfl⟩ sz_38_8 ?_
            refine XO.nil ?_
            refine XE.next ?_
            refine XC.keep [(0, _), (1, _), (2, _), (3, _), (4, _), (11, _), (16, _), (17, _)] (Sub.cons rfl (Sub.cons rfl (Sub.cons rfl (Sub.cons rfl (Sub.cons rfl (Sub.cons rfl (Sub.cons rfl (Sub.cons rfl (Sub.nil _))))))))) ?_
            refine XC.seq ?_
            refine XC.region ?_
            refine XO.v (V.fieldAddr rfl fo_38_0) rfl ?_
            refine XO.v (V.load rfl (inXM .here) (encAct.ld_Kind _) sc_9) rfl ?_
            refine XO.nil ?_
            refine XE.next ?_
            refine XC.keep [(0, _), (1, _), (2, _), (3, _), (4, _), (11, _), (16, _), (17, _), (90, _)] (Sub.cons rfl (Sub.cons rfl (Sub.cons rfl (Sub.cons rfl (Sub.cons rfl (Sub.cons rfl (Sub.cons rfl (Sub.cons rfl (Sub.cons rfl (Sub.nil _)))))))))) ?_
            refine XC.block ?_
            refine XC.seq ?_
            refine XC.region ?_
            refine XO.v (V.strCmp rfl rfl rfl) rfl ?_
            refine XO.v (V.assign rfl) rfl ?_
            refine XO.nil ?_
            refine XE.next ?_
            refine XC.keep [(0, _), (1, _), (2, _), (3, _), (4, _), (11, _), (16, _), (17, _), (90, _), (91, _)] (Sub.cons rfl (Sub.cons rfl (Sub.cons rfl (Sub.cons rfl (Sub.cons rfl (Sub.cons rfl (Sub.cons rfl (Sub.cons rfl (Sub.cons rfl (Sub.cons rfl (Sub.nil _))))))))))) ?_
            refine XC.condP rfl (fun h8 => ?_) (fun h8 => ?_)
            · skip
              refine XC.region ?_
              refine XO.v (V.move rfl) rfl ?_
              refine XO.v (V.fieldAddr rfl fo_38_1) rfl ?_
              refine XO.v (V.load rfl (inXM .here) (encAct.ld_A _) sc_3) rfl ?_
              refine XO.v (V.fieldAddr rfl fo_38_6) rfl ?_
              refine XO.v (V.load rfl (inXM .here) (encAct.ld_S _) sc_9) rfl ?_
              refine XO.v (V.fieldAddr rfl fo_38_2) rfl ?_
              refine XO.v (V.load rfl (inXM .here) (encAct.ld_B _) sc_3) rfl ?_
              refine XO.call rfl (t_Make _ _ _ hS _ _ _ (by omega)) (.cons (.there .here) (.cons (.there .here) (.cons (.there .here) .nil))) cl_17 rfl ?_
              rintro _ _ ⟨rfl, t, ht, tp, tc, rfl⟩
              obtain ⟨d2, o2⟩ := hO.make _ _ _
              rw [← ht] at o2
              have trr : (FC.toFF t).roots = x0.toFF.roots := by rw [ht]; exact FF.make_roots _ _ _ _
              refine XO.v (V.move rfl) rfl ?_
              refine XO.v (V.extract rfl rfl) rfl ?_
              refine XO.v (V.extract rfl rfl) rfl ?_
              refine XO.nil ?_
              refine XE.blockNormal ?_
              refine XE.blockNormal ?_
              refine XE.next ?_
              refine XC.keep [(0, _), (1, _), (2, _), (3, _), (4, _), (11, _), (16, _)] (Sub.cons rfl (Sub.cons rfl (Sub.cons rfl (Sub.cons rfl (Sub.cons rfl (Sub.cons rfl (Sub.cons rfl (Sub.nil _)))))))) ?_
              refine XC.region ?_
              refine XO.mono (fun _ hw3 => XM.rrSame (s := x0) tp tc trr (.cons (.there (.there (.there (.there .here)))) .nil) hw3) ?_
              refine XO.v (V.move rfl) rfl ?_
              refine XO.v (V.add rfl rfl _ (IntWalk.i64_in _ (by omega))) rfl ?_
              refine XO.v (V.assign rfl) rfl ?_
              refine XO.nil ?_
              refine XE.again ((t, i + 1)) ?_ ?_ (Sub.cons rfl (Sub.cons rfl (Sub.cons rfl (Sub.cons rfl (Sub.cons rfl (Sub.cons rfl (Sub.cons rfl (Sub.nil _)))))))) (fun _ hw => XM.pick (.cons (.there .here) (.cons (.there .here) (.cons (.there .here) (.cons .here (.cons (.there .here) .nil))))) hw)
              · skip
                (simp; omega)
              · skip
                exact ⟨⟨_, by rw [show i + 2 + 1 = i + 1 + 2 by omega] at o2; exact o2⟩, by simp; omega, by simp; omega⟩
            · skip
              refine XC.seq ?_
              refine XC.region ?_
              refine XO.v (V.strCmp rfl rfl rfl) rfl ?_
              refine XO.v (V.assign rfl) rfl ?_
              refine XO.nil ?_
              refine XE.next ?_
              refine XC.keep [(0, _), (1, _), (2, _), (3, _), (4, _), (11, _), (16, _), (17, _), (90, _), (104, _)] (Sub.cons rfl (Sub.cons rfl (Sub.cons rfl (Sub.cons rfl (Sub.cons rfl (Sub.cons rfl (Sub.cons rfl (Sub.cons rfl (Sub.cons rfl (Sub.cons rfl (Sub.nil _))))))))))) ?_
              refine XC.condP rfl (fun h9 => ?_) (fun h9 => ?_)
              · skip
                refine XC.region ?_
                refine XO.v (V.move rfl) rfl ?_
                refine XO.v (V.fieldAddr rfl fo_38_1) rfl ?_
                refine XO.v (V.load rfl (inXM .here) (encAct.ld_A _) sc_3) rfl ?_
                refine XO.v (V.fieldAddr rfl fo_38_2) rfl ?_
                refine XO.v (V.load rfl (inXM .here) (encAct.ld_B _) sc_3) rfl ?_
                refine XO.v (V.fieldAddr rfl fo_38_6) rfl ?_
                refine XO.v (V.load rfl (inXM .here) (encAct.ld_S _) sc_9) rfl ?_
                refine XO.call rfl (t_Link _ _ _ hS _ _ _ (by omega)) (.cons (.there .here) (.cons (.there .here) (.cons (.there .here) .nil))) cl_18 rfl ?_
                rintro _ _ ⟨rfl, t, ht, tp, tc, rfl⟩
                have o2 := (congrArg (fun q => FF.Ok q d _) ht).mpr (hO.link _ _ _)
                have trr : (FC.toFF t).roots = x0.toFF.roots := by rw [ht]; exact FF.link_roots _ _ _ _
                refine XO.nil ?_
                refine XE.blockNormal ?_
                refine XE.blockNormal ?_
                refine XE.next ?_
                refine XC.keep [(0, _), (1, _), (2, _), (3, _), (4, _), (11, _), (16, _)] (Sub.cons rfl (Sub.cons rfl (Sub.cons rfl (Sub.cons rfl (Sub.cons rfl (Sub.cons rfl (Sub.cons rfl (Sub.nil _)))))))) ?_
                refine XC.region ?_
                refine XO.mono (fun _ hw3 => XM.rrSame (s := x0) tp tc trr (.cons (.there (.there (.there (.there .here)))) .nil) hw3) ?_
                refine XO.v (V.move rfl) rfl ?_
                refine XO.v (V.add rfl rfl _ (IntWalk.i64_in _ (by omega))) rfl ?_
                refine XO.v (V.assign rfl) rfl ?_
                refine XO.nil ?_
                refine XE.again ((t, i + 1)) ?_ ?_ (Sub.cons rfl (Sub.cons rfl (Sub.cons rfl (Sub.cons rfl (Sub.cons rfl (Sub.cons rfl (Sub.cons rfl (Sub.nil _)))))))) (fun _ hw => XM.pick (.cons (.there .here) (.cons (.there .here) (.cons (.there .here) (.cons .here (.cons (.there .here) .nil))))) hw)
                · skip
                  (simp; omega)
                · skip
                  exact ⟨⟨_, by rw [show i + 2 + 1 = i + 1 + 2 by omega] at o2; exact o2⟩, by simp; omega, by simp; omega⟩
              · skip
                refine XC.seq ?_
                refine XC.region ?_
                refine XO.v (V.strCmp rfl rfl rfl) rfl ?_
                refine XO.v (V.assign rfl) rfl ?_
                refine XO.nil ?_
                refine XE.next ?_
                refine XC.keep [(0, _), (1, _), (2, _), (3, _), (4, _), (11, _), (16, _), (17, _), (114, _)] (Sub.cons rfl (Sub.cons rfl (Sub.cons rfl (Sub.cons rfl (Sub.cons rfl (Sub.cons rfl (Sub.cons rfl (Sub.cons rfl (Sub.cons rfl (Sub.nil _)))))))))) ?_
                refine XC.condP rfl (fun h10 => ?_) (fun h10 => ?_)
                · skip
                  refine XC.region ?_
                  refine XO.v (V.move rfl) rfl ?_
                  refine XO.v (V.fieldAddr rfl fo_38_1) rfl ?_
                  refine XO.v (V.load rfl (inXM .here) (encAct.ld_A _) sc_3) rfl ?_
                  refine XO.v (V.fieldAddr rfl fo_38_2) rfl ?_
                  refine XO.v (V.load rfl (inXM .here) (encAct.ld_B _) sc_3) rfl ?_
                  refine XO.v (V.fieldAddr rfl fo_38_6) rfl ?_
                  refine XO.v (V.load rfl (inXM .here) (encAct.ld_S _) sc_9) rfl ?_
                  refine XO.call rfl (t_Write _ _ _ hS _ _ _ (by omega)) (.cons (.there .here) (.cons (.there .here) (.cons (.there .here) .nil))) cl_19 rfl ?_
                  rintro _ _ ⟨rfl, t, ht, tp, tc, rfl⟩
                  have o2 := (congrArg (fun q => FF.Ok q d _) ht).mpr (hO.write _ _ _)
                  have trr : (FC.toFF t).roots = x0.toFF.roots := by rw [ht]; exact FF.write_roots _ _ _ _
                  refine XO.nil ?_
                  refine XE.blockNormal ?_
                  refine XE.blockNormal ?_
                  refine XE.next ?_
                  refine XC.keep [(0, _), (1, _), (2, _), (3, _), (4, _), (11, _), (16, _)] (Sub.cons rfl (Sub.cons rfl (Sub.cons rfl (Sub.cons rfl (Sub.cons rfl (Sub.cons rfl (Sub.cons rfl (Sub.nil _)))))))) ?_
                  refine XC.region ?_
                  refine XO.mono (fun _ hw3 => XM.rrSame (s := x0) tp tc trr (.cons (.there (.there (.there (.there .here)))) .nil) hw3) ?_
                  refine XO.v (V.move rfl) rfl ?_
                  refine XO.v (V.add rfl rfl _ (IntWalk.i64_in _ (by omega))) rfl ?_
                  refine XO.v (V.assign rfl) rfl ?_
                  refine XO.nil ?_
                  refine XE.again ((t, i + 1)) ?_ ?_ (Sub.cons rfl (Sub.cons rfl (Sub.cons rfl (Sub.cons rfl (Sub.cons rfl (Sub.cons rfl (Sub.cons rfl (Sub.nil _)))))))) (fun _ hw => XM.pick (.cons (.there .here) (.cons (.there .here) (.cons (.there .here) (.cons .here (.cons (.there .here) .nil))))) hw)
                  · skip
                    (simp; omega)
                  · skip
                    exact ⟨⟨_, by rw [show i + 2 + 1 = i + 1 + 2 by omega] at o2; exact o2⟩, by simp; omega, by simp; omega⟩
                · skip
                  refine XC.skip ?_
                  refine XE.blockNormal ?_
                  refine XE.blockNormal ?_
                  refine XE.next ?_
                  refine XC.keep [(0, _), (1, _), (2, _), (3, _), (4, _), (11, _), (16, _)] (Sub.cons rfl (Sub.cons rfl (Sub.cons rfl (Sub.cons rfl (Sub.cons rfl (Sub.cons rfl (Sub.cons rfl (Sub.nil _)))))))) ?_
                  refine XC.region ?_
                  refine XO.v (V.move rfl) rfl ?_
                  refine XO.v (V.add rfl rfl _ (IntWalk.i64_in _ (by omega))) rfl ?_
                  refine XO.v (V.assign rfl) rfl ?_
                  refine XO.nil ?_
                  refine XE.again ((x0, i + 1)) ?_ ?_ (Sub.cons rfl (Sub.cons rfl (Sub.cons rfl (Sub.cons rfl (Sub.cons rfl (Sub.cons rfl (Sub.cons rfl (Sub.nil _)))))))) (fun _ hw => XM.pick (.cons (.there .here) (.cons (.there .here) (.cons (.there .here) (.cons (.there .here) (.cons (.there .here) .nil))))) hw)
                  · skip
                    (simp; omega)
                  · skip
                    exact ⟨⟨d, by have := hO.up1; rw [show i + 2 + 1 = i + 1 + 2 by omega] at this; exact this⟩, by simp; omega, by simp; omega⟩
          · skip
            refine XC.exit ?_
            refine XE.thenExit ?_
            refine XE.thenExit ?_
            refine XE.blockExit ?_
            refine XE.next ?_
            refine XC.keep [(1, _), (2, _), (3, _), (4, _), (11, _)] (Sub.cons rfl (Sub.cons rfl (Sub.cons rfl (Sub.cons rfl (Sub.cons rfl (Sub.nil _)))))) ?_
            refine XC.seq ?_
            refine XC.region ?_
            have hS := hO.sh (by omega)
            refine XO.v (V.move rfl) rfl ?_
            refine XO.call rfl (t_Nodes _ _ _) (.cons .here .nil) cl_16 rfl ?_
            rintro _ _ ⟨rfl, rfl⟩
            refine XO.v (V.assign rfl) rfl ?_
            refine XO.nil ?_
            refine XE.next ?_
            refine XC.keep [(1, _), (2, _), (3, _), (4, _), (11, _), (18, _)] (Sub.cons rfl (Sub.cons rfl (Sub.cons rfl (Sub.cons rfl (Sub.cons rfl (Sub.cons rfl (Sub.nil _))))))) ?_
            refine XC.seq ?_
            refine XC.region ?_
            refine XO.v (V.move rfl) rfl ?_
            refine XO.v (V.move rfl) rfl ?_
            refine XO.v (V.move rfl) rfl ?_
            refine XO.call rfl (t_Find _ _ _ hS _ _) (.cons .here (.cons .here (.cons .here .nil))) cl_20 rfl ?_
            rintro _ _ ⟨rfl, rfl⟩
            refine XO.v (V.move rfl) rfl ?_
            refine XO.v (V.extract rfl rfl) rfl ?_
            refine XO.v (V.extract rfl rfl) rfl ?_
            refine XO.v (V.assign rfl) rfl ?_
            refine XO.v (V.assign rfl) rfl ?_
            refine XO.nil ?_
            refine XE.next ?_
            refine XC.keep [(1, _), (2, _), (3, _), (4, _), (11, _), (13, _), (18, _), (19, _)] (Sub.cons rfl (Sub.cons rfl (Sub.cons rfl (Sub.cons rfl (Sub.cons rfl (Sub.cons rfl (Sub.cons rfl (Sub.cons rfl (Sub.nil _))))))))) ?_
            refine XC.seq ?_
            refine XC.region ?_
            refine XO.v (V.move rfl) rfl ?_
            refine XO.v (V.move rfl) rfl ?_
            refine XO.call rfl (t_List _ _ _ hS _) (.cons .here (.cons .here (.cons .here .nil))) cl_21 rfl ?_
            rintro _ _ (⟨i0, rfl, rfl⟩ | ⟨i0, p1, c1, rfl, rfl⟩)
            · skip
              refine XO.v (V.move rfl) rfl ?_
              refine XO.v (V.extract rfl rfl) rfl ?_
              refine XO.v (V.extract rfl rfl) rfl ?_
              refine XO.v (V.assign rfl) rfl ?_
              refine XO.v (V.assign rfl) rfl ?_
              refine XO.nil ?_
              refine XE.next ?_
              refine XC.keep [(1, _), (2, _), (3, _), (4, _), (11, _), (13, _), (18, _), (19, _), (20, _)] (Sub.cons rfl (Sub.cons rfl (Sub.cons rfl (Sub.cons rfl (Sub.cons rfl (Sub.cons rfl (Sub.cons rfl (Sub.cons rfl (Sub.cons rfl (Sub.nil _)))))))))) ?_
              refine XC.seq ?_
              refine XC.region ?_
              refine XO.v (V.move rfl) rfl ?_
              refine XO.v (V.move rfl) rfl ?_
              refine XO.call rfl (t_Read _ _ _ hS _ _ _) (.cons .here .nil) cl_22 rfl ?_
              rintro _ _ ⟨rfl, rfl⟩
              refine XO.v (V.move rfl) rfl ?_
              refine XO.v (V.extract rfl rfl) rfl ?_
              refine XO.v (V.extract rfl rfl) rfl ?_
              refine XO.v (V.assign rfl) rfl ?_
              refine XO.v (V.assign rfl) rfl ?_
              refine XO.nil ?_
              refine XE.next ?_
              refine XC.keep [(1, _), (2, _), (3, _), (4, _), (11, _), (13, _), (18, _), (19, _), (20, _), (22, _)] (Sub.cons rfl (Sub.cons rfl (Sub.cons rfl (Sub.cons rfl (Sub.cons rfl (Sub.cons rfl (Sub.cons rfl (Sub.cons rfl (Sub.cons rfl (Sub.cons rfl (Sub.nil _))))))))))) ?_
              refine XC.seq ?_
              refine XC.region ?_
              refine XO.v (V.move rfl) rfl ?_
              refine XO.v (V.move rfl) rfl ?_
              refine XO.call rfl (t_Of _ _ _ hS _) (.cons .here .nil) cl_23 rfl ?_
              rintro _ _ ⟨rfl, rfl⟩
              refine XO.v (V.move rfl) rfl ?_
              refine XO.v (V.extract rfl rfl) rfl ?_
              refine XO.v (V.extract rfl rfl) rfl ?_
              refine XO.allocZ (z := .agg NV.zero.arr) (m := 4) (C := encNV NV.zero) (by kernel_rfl) rfl (encNV_box _) rfl ?_
              intro bx
              refine XO.storeAgg rfl rfl .here (encNV_st _ _) ⟨rfl, rfl⟩ sz_55_4 ?_
              refine XO.v (V.assign rfl) rfl ?_
              refine XO.nil ?_
              refine XE.next ?_
              refine XC.keep [(1, _), (2, _), (3, _), (4, _), (11, _), (13, _), (18, _), (19, _), (20, _), (22, _), (24, _)] (Sub.cons rfl (Sub.cons rfl (Sub.cons rfl (Sub.cons rfl (Sub.cons rfl (Sub.cons rfl (Sub.cons rfl (Sub.cons rfl (Sub.cons rfl (Sub.cons rfl (Sub.cons rfl (Sub.nil _)))))))))))) ?_
              refine XC.seq ?_
              refine XC.region ?_
              refine XO.v (V.move rfl) rfl ?_
              refine XO.v (V.move rfl) rfl ?_
              refine XO.v (V.move rfl) rfl ?_
              refine XO.v (V.move rfl) rfl ?_
              refine XO.v (V.move rfl) rfl ?_
              refine XO.call rfl (t_Move _ _ _ hS d (fun k => hO.inv.chI k) _ _ _ _ (by omega)) (.cons (.there .here) (.cons (.there .here) (.cons (.there .here) .nil))) cl_24 rfl ?_
              rintro _ _ ⟨rfl, t, ht, tp, tc, rfl⟩
              obtain ⟨d2, o2⟩ := hO.move n x to y
              rw [← ht] at o2
              have hS2 := o2.sh (by omega)
              have hkind : t.toFF.kind = x0.toFF.kind := by rw [ht]; exact FF.move_kind
              refine XO.v (V.assign rfl) rfl ?_
              refine XO.nil ?_
              refine XE.next ?_
              refine XC.keep [(1, _), (2, _), (3, _), (4, _), (11, _), (13, _), (18, _), (19, _), (20, _), (22, _), (24, _), (26, _)] (Sub.cons rfl (Sub.cons rfl (Sub.cons rfl (Sub.cons rfl (Sub.cons rfl (Sub.cons rfl (Sub.cons rfl (Sub.cons rfl (Sub.cons rfl (Sub.cons rfl (Sub.cons rfl (Sub.cons rfl (Sub.nil _))))))))))))) ?_
              refine XC.seq ?_
              refine XC.seq ?_
              refine XC.region ?_
              refine XO.v (V.move rfl) rfl ?_
              refine XO.v (V.errNil rfl Try.underlying43 rfl) rfl ?_
              refine XO.nil ?_
              refine XE.next ?_
              refine XC.keep [(1, _), (2, _), (3, _), (4, _), (11, _), (18, _), (19, _), (20, _), (22, _), (24, _), (26, _), (158, _)] (Sub.cons rfl (Sub.cons rfl (Sub.cons rfl (Sub.cons rfl (Sub.cons rfl (Sub.cons rfl (Sub.cons rfl (Sub.cons rfl (Sub.cons rfl (Sub.cons rfl (Sub.cons rfl (Sub.cons rfl (Sub.nil _))))))))))))) ?_
              refine XC.condP rfl (fun h11 => ?_) (fun h11 => ?_)
              · skip
                have hf0 : x0.toFF.findE n x ≠ 0 := by assumption
                refine XC.seq ?_
                refine XC.region ?_
                refine XO.v (V.move rfl) rfl ?_
                refine XO.v (V.errNil rfl Try.underlying43 rfl) rfl ?_
                refine XO.v (V.move rfl) rfl ?_
                refine XO.splitT (d := 161) rfl (FF.moveE_find hf0) ?_
                refine XO.guardRun rfl rfl rfl ?_
                refine XO.v (V.move rfl) rfl ?_
                refine XO.guardRun rfl rfl rfl ?_
                refine XO.call rfl (t_Nodes _ _ _) (.cons .here .nil) cl_16 rfl ?_
                rintro _ _ ⟨rfl, rfl⟩
                refine XO.guardRun rfl rfl rfl ?_
                refine XO.v (V.move rfl) rfl ?_
                refine XO.guardRun rfl rfl rfl ?_
                refine XO.v (V.cmp rfl rfl rfl) rfl ?_
                refine XO.v (V.pick rfl rfl rfl rfl) rfl ?_
                refine XO.v (V.assign rfl) rfl ?_
                refine XO.nil ?_
                refine XE.next ?_
                refine XC.keep [(10, _)] (Sub.cons rfl (Sub.nil _)) ?_
                refine XC.ret ?_
                refine XE.thenRet ?_
                refine XE.ret1 rfl rfl (post_of .nil rfl ?_)
                exact ⟨congrArg Value.bool (decide_eq_true (FF.nodes_congr hkind)), rfl⟩
              · skip
                have hf0 : x0.toFF.findE n x = 0 := by simpa using h11
                refine XC.skip ?_
                refine XE.next ?_
                refine XC.keep [(1, _), (2, _), (3, _), (4, _), (11, _), (18, _), (19, _), (20, _), (22, _), (24, _), (26, _)] (Sub.cons rfl (Sub.cons rfl (Sub.cons rfl (Sub.cons rfl (Sub.cons rfl (Sub.cons rfl (Sub.cons rfl (Sub.cons rfl (Sub.cons rfl (Sub.cons rfl (Sub.cons rfl (Sub.nil _)))))))))))) ?_
                refine XC.seq ?_
                refine XC.region ?_
                obtain ⟨hm1, hm2, hm3⟩ := FF.move_same (to := to) (y := y) hO.inv hf0
                rw [← ht] at hm1 hm2 hm3
                refine XO.v (V.move rfl) rfl ?_
                refine XO.v (V.move rfl) rfl ?_
                refine XO.call rfl (t_List _ _ _ hS2 _) (.cons .here (.cons .here (.cons .here .nil))) cl_21 rfl ?_
                rintro _ _ (⟨j0, rfl, rfl⟩ | ⟨j0, p2, c2, rfl, rfl⟩)
                · skip
                  refine XO.v (V.move rfl) rfl ?_
                  refine XO.v (V.extract rfl rfl) rfl ?_
                  refine XO.v (V.extract rfl rfl) rfl ?_
                  refine XO.v (V.assign rfl) rfl ?_
                  refine XO.v (V.assign rfl) rfl ?_
                  refine XO.nil ?_
                  refine XE.next ?_
                  refine XC.keep [(1, _), (2, _), (3, _), (4, _), (11, _), (18, _), (19, _), (20, _), (22, _), (24, _), (26, _), (27, _)] (Sub.cons rfl (Sub.cons rfl (Sub.cons rfl (Sub.cons rfl (Sub.cons rfl (Sub.cons rfl (Sub.cons rfl (Sub.cons rfl (Sub.cons rfl (Sub.cons rfl (Sub.cons rfl (Sub.cons rfl (Sub.nil _))))))))))))) ?_
                  refine XC.seq ?_
                  refine XC.region ?_
                  refine XO.v (V.move rfl) rfl ?_
                  refine XO.v (V.move rfl) rfl ?_
                  refine XO.call rfl (t_Read _ _ _ hS2 _ _ _) (.cons .here .nil) cl_22 rfl ?_
                  rintro _ _ ⟨rfl, rfl⟩
                  refine XO.v (V.move rfl) rfl ?_
                  refine XO.v (V.extract rfl rfl) rfl ?_
                  refine XO.v (V.extract rfl rfl) rfl ?_
                  refine XO.v (V.assign rfl) rfl ?_
                  refine XO.v (V.assign rfl) rfl ?_
                  refine XO.nil ?_
                  refine XE.next ?_
                  refine XC.keep [(1, _), (2, _), (3, _), (4, _), (11, _), (18, _), (19, _), (20, _), (22, _), (24, _), (26, _), (27, _), (29, _)] (Sub.cons rfl (Sub.cons rfl (Sub.cons rfl (Sub.cons rfl (Sub.cons rfl (Sub.cons rfl (Sub.cons rfl (Sub.cons rfl (Sub.cons rfl (Sub.cons rfl (Sub.cons rfl (Sub.cons rfl (Sub.cons rfl (Sub.nil _)))))))))))))) ?_
                  refine XC.seq ?_
                  refine XC.region ?_
                  refine XO.v (V.move rfl) rfl ?_
                  refine XO.v (V.move rfl) rfl ?_
                  refine XO.call rfl (t_Of _ _ _ hS2 _) (.cons .here .nil) cl_23 rfl ?_
                  rintro _ _ ⟨rfl, rfl⟩
                  refine XO.v (V.move rfl) rfl ?_
                  refine XO.v (V.extract rfl rfl) rfl ?_
                  refine XO.v (V.extract rfl rfl) rfl ?_
                  refine XO.allocZ (z := .agg NV.zero.arr) (m := 4) (C := encNV NV.zero) (by kernel_rfl) rfl (encNV_box _) rfl ?_
                  intro by_
                  refine XO.storeAgg rfl rfl .here (encNV_st _ _) ⟨rfl, rfl⟩ sz_55_4 ?_
                  refine XO.v (V.assign rfl) rfl ?_
                  refine XO.nil ?_
                  refine XE.next ?_
                  refine XC.keep [(1, _), (2, _), (3, _), (4, _), (11, _), (18, _), (19, _), (20, _), (22, _), (24, _), (26, _), (27, _), (29, _), (31, _)] (Sub.cons rfl (Sub.cons rfl (Sub.cons rfl (Sub.cons rfl (Sub.cons rfl (Sub.cons rfl (Sub.cons rfl (Sub.cons rfl (Sub.cons rfl (Sub.cons rfl (Sub.cons rfl (Sub.cons rfl (Sub.cons rfl (Sub.cons rfl (Sub.nil _))))))))))))))) ?_
                  refine XC.seq ?_
                  refine XC.seq ?_
                  refine XC.region ?_
                  refine XO.v (V.move rfl) rfl ?_
                  refine XO.v (V.move rfl) rfl ?_
                  refine XO.call rfl (same_texts_nil) .nil cl_25 rfl ?_
                  rintro _ _ ⟨rfl, rfl⟩
                  refine XO.v (V.not rfl) rfl ?_
                  refine XO.v (V.move rfl) rfl ?_
                  refine XO.guardRun rfl rfl rfl ?_
                  refine XO.v (V.move rfl) rfl ?_
                  refine XO.guardRun rfl rfl rfl ?_
                  refine XO.v (V.move rfl) rfl ?_
                  refine XO.guardRun rfl rfl rfl ?_
                  refine XO.v (V.strCmp rfl rfl rfl) rfl ?_
                  refine XO.v (V.pick rfl rfl rfl rfl) rfl ?_
                  refine XO.v (V.move rfl) rfl ?_
                  refine XO.splitF (d := 194) rfl (by rw [hm3]; exact fun q => q rfl) ?_
                  refine XO.guardRun rfl rfl rfl ?_
                  refine XO.v (V.loadAgg rfl (inXM (.there (.there (.there (.there .here))))) (encNV_agg _) ag_55 sz_55_4) rfl ?_
                  refine XO.guardRun rfl rfl rfl ?_
                  refine XO.v (V.loadAgg rfl (inXM .here) (encNV_is hm2) ag_55 sz_55_4) rfl ?_
                  refine XO.guardRun rfl rfl rfl ?_
                  refine XO.v (V.aggNe rfl rfl aggEq (NV.ints _)) rfl ?_
                  refine XO.v (V.pick rfl rfl rfl rfl) rfl ?_
                  refine XO.v (V.move rfl) rfl ?_
                  refine XO.guardRun rfl rfl rfl ?_
                  refine XO.v (V.move rfl) rfl ?_
                  refine XO.guardRun rfl rfl rfl ?_
                  refine XO.call rfl (t_Nodes _ _ _) (.cons (.there .here) .nil) cl_16 rfl ?_
                  rintro _ _ ⟨rfl, rfl⟩
                  refine XO.guardRun rfl rfl rfl ?_
                  refine XO.v (V.move rfl) rfl ?_
                  refine XO.guardRun rfl rfl rfl ?_
                  refine XO.v (V.cmp rfl rfl rfl) rfl ?_
                  refine XO.v (V.pick rfl rfl rfl rfl) rfl ?_
                  refine XO.nil ?_
                  refine XE.next ?_
                  refine XC.keep [(1, _), (2, _), (3, _), (4, _), (11, _), (19, _), (26, _), (204, _)] (Sub.cons rfl (Sub.cons rfl (Sub.cons rfl (Sub.cons rfl (Sub.cons rfl (Sub.cons rfl (Sub.cons rfl (Sub.cons rfl (Sub.nil _))))))))) ?_
                  refine XC.condFP rfl (by rw [FF.nodes_congr hkind]; exact fun q => q rfl) ?_
                  refine XC.skip ?_
                  refine XE.next ?_
                  refine XC.keep [(1, _), (2, _), (3, _), (4, _), (11, _), (19, _), (26, _)] (Sub.cons rfl (Sub.cons rfl (Sub.cons rfl (Sub.cons rfl (Sub.cons rfl (Sub.cons rfl (Sub.cons rfl (Sub.nil _)))))))) ?_
                  refine XC.seq ?_
                  refine XC.seq ?_
                  refine XC.region ?_
                  refine XO.v (V.move rfl) rfl ?_
                  refine XO.v (V.errNil rfl Try.underlying43 rfl) rfl ?_
                  refine XO.nil ?_
                  refine XE.next ?_
                  refine XC.keep [(1, _), (2, _), (3, _), (4, _), (11, _), (19, _), (206, _)] (Sub.cons rfl (Sub.cons rfl (Sub.cons rfl (Sub.cons rfl (Sub.cons rfl (Sub.cons rfl (Sub.cons rfl (Sub.nil _)))))))) ?_
                  refine XC.condP rfl (fun h14 => ?_) (fun h14 => ?_)
                  · skip
                    have hme : x0.toFF.moveE d n x to y ≠ 0 := by assumption
                    have hts : t.toFF = x0.toFF := by rw [ht]; exact FF.move_err hO.inv hme
                    refine XC.seq ?_
                    refine XC.region ?_
                    refine XO.v (V.move rfl) rfl ?_
                    refine XO.v (V.move rfl) rfl ?_
                    refine XO.v (V.move rfl) rfl ?_
                    refine XO.call rfl (t_Find _ _ _ hS2 _ _) (.cons .here (.cons (.there .here) (.cons (.there .here) .nil))) cl_20 rfl ?_
                    rintro _ _ ⟨rfl, rfl⟩
                    refine XO.v (V.move rfl) rfl ?_
                    refine XO.v (V.extract rfl rfl) rfl ?_
                    refine XO.v (V.extract rfl rfl) rfl ?_
                    refine XO.v (V.assign rfl) rfl ?_
                    refine XO.v (V.assign rfl) rfl ?_
                    refine XO.nil ?_
                    refine XE.next ?_
                    refine XC.keep [(19, _), (33, _), (34, _)] (Sub.cons rfl (Sub.cons rfl (Sub.cons rfl (Sub.nil _)))) ?_
                    refine XC.seq ?_
                    refine XC.region ?_
                    refine XO.v (V.move rfl) rfl ?_
                    refine XO.v (V.errNil rfl Try.underlying43 rfl) rfl ?_
                    refine XO.v (V.move rfl) rfl ?_
                    refine XO.splitT (d := 216) rfl (by rw [hts]; exact hf0) ?_
                    refine XO.guardRun rfl rfl rfl ?_
                    refine XO.v (V.move rfl) rfl ?_
                    refine XO.guardRun rfl rfl rfl ?_
                    refine XO.v (V.move rfl) rfl ?_
                    refine XO.guardRun rfl rfl rfl ?_
                    refine XO.v (V.cmp rfl rfl rfl) rfl ?_
                    refine XO.v (V.pick rfl rfl rfl rfl) rfl ?_
                    refine XO.v (V.assign rfl) rfl ?_
                    refine XO.nil ?_
                    refine XE.next ?_
                    refine XC.keep [(10, _)] (Sub.cons rfl (Sub.nil _)) ?_
                    refine XC.ret ?_
                    refine XE.thenRet ?_
                    refine XE.ret1 rfl rfl (post_of .nil rfl ?_)
                    exact ⟨congrArg Value.bool (decide_eq_true (by rw [hts])), rfl⟩
                  · skip
                    refine XC.skip ?_
                    refine XE.next ?_
                    refine XC.keep [(1, _), (2, _), (3, _), (4, _), (11, _), (19, _)] (Sub.cons rfl (Sub.cons rfl (Sub.cons rfl (Sub.cons rfl (Sub.cons rfl (Sub.cons rfl (Sub.nil _))))))) ?_
                    refine XC.seq ?_
                    refine XC.region ?_
                    have hmz : x0.toFF.moveE d n x to y = 0 := Decidable.byContradiction (by assumption)
                    obtain ⟨_, _, _, _, _, hv1, hv2, hv3⟩ := FF.move_ok hO.inv hmz
                    rw [← ht] at hv1 hv2 hv3
                    refine XO.v (V.move rfl) rfl ?_
                    refine XO.v (V.move rfl) rfl ?_
                    refine XO.v (V.move rfl) rfl ?_
                    refine XO.call rfl (t_Find _ _ _ hS2 _ _) (.cons .here (.cons (.there .here) (.cons (.there .here) .nil))) cl_20 rfl ?_
                    rintro _ _ ⟨rfl, rfl⟩
                    refine XO.v (V.move rfl) rfl ?_
                    refine XO.v (V.extract rfl rfl) rfl ?_
                    refine XO.v (V.extract rfl rfl) rfl ?_
                    refine XO.v (V.assign rfl) rfl ?_
                    refine XO.v (V.assign rfl) rfl ?_
                    refine XO.nil ?_
                    refine XE.next ?_
                    refine XC.keep [(1, _), (2, _), (3, _), (4, _), (11, _), (13, _), (19, _), (35, _)] (Sub.cons rfl (Sub.cons rfl (Sub.cons rfl (Sub.cons rfl (Sub.cons rfl (Sub.cons rfl (Sub.cons rfl (Sub.cons rfl (Sub.nil _))))))))) ?_
                    refine XC.seq ?_
                    refine XC.region ?_
                    refine XO.v (V.move rfl) rfl ?_
                    refine XO.v (V.move rfl) rfl ?_
                    refine XO.v (V.move rfl) rfl ?_
                    refine XO.call rfl (t_Find _ _ _ hS2 _ _) (.cons .here (.cons .here (.cons .here .nil))) cl_20 rfl ?_
                    rintro _ _ ⟨rfl, rfl⟩
                    refine XO.v (V.move rfl) rfl ?_
                    refine XO.v (V.extract rfl rfl) rfl ?_
                    refine XO.v (V.extract rfl rfl) rfl ?_
                    refine XO.v (V.assign rfl) rfl ?_
                    refine XO.v (V.assign rfl) rfl ?_
                    refine XO.nil ?_
                    refine XE.next ?_
                    refine XC.keep [(1, _), (2, _), (3, _), (4, _), (13, _), (15, _), (19, _), (35, _), (36, _)] (Sub.cons rfl (Sub.cons rfl (Sub.cons rfl (Sub.cons rfl (Sub.cons rfl (Sub.cons rfl (Sub.cons rfl (Sub.cons rfl (Sub.cons rfl (Sub.nil _)))))))))) ?_
                    refine XC.seq ?_
                    refine XC.region ?_
                    refine XO.v (V.move rfl) rfl ?_
                    refine XO.v (V.errNil rfl Try.underlying43 rfl) rfl ?_
                    refine XO.v (V.move rfl) rfl ?_
                    refine XO.splitT (d := 237) rfl (hv1) ?_
                    refine XO.guardRun rfl rfl rfl ?_
                    refine XO.v (V.move rfl) rfl ?_
                    refine XO.guardRun rfl rfl rfl ?_
                    refine XO.v (V.move rfl) rfl ?_
                    refine XO.guardRun rfl rfl rfl ?_
                    refine XO.v (V.cmp rfl rfl rfl) rfl ?_
                    refine XO.v (V.pick rfl rfl rfl rfl) rfl ?_
                    refine XO.v (V.move rfl) rfl ?_
                    refine XO.splitT (d := 242) rfl (hv2) ?_
                    refine XO.guardRun rfl rfl rfl ?_
                    refine XO.v (V.move rfl) rfl ?_
                    refine XO.guardRun rfl rfl rfl ?_
                    refine XO.v (V.errNil rfl Try.underlying43 rfl) rfl ?_
                    refine XO.guardRun rfl rfl rfl ?_
                    refine XO.v (V.move rfl) rfl ?_
                    skip
                    refine XO.splitP (d := 245) rfl (fun h18 => ?_) (fun h18 => ?_)
                    · skip
                      have hv4 : t.toFF.findE n x = 2 := by
                        rcases hv3 with h9 | ⟨_, _, h9, _⟩
                        · exact h9
                        · exact absurd h9 (by assumption)
                      skip
                      refine XO.guardRun rfl rfl rfl ?_
                      refine XO.v (V.move rfl) rfl ?_
                      refine XO.guardRun rfl rfl rfl ?_
                      refine XO.call rfl (number_any _) .nil cl_26 rfl ?_
                      rintro _ _ ⟨rfl, rfl⟩
                      refine XO.guardRun rfl rfl rfl ?_
                      refine XO.v (V.cmp rfl rfl rfl) rfl ?_
                      refine XO.guardRun rfl rfl rfl ?_
                      refine XO.v (V.pick rfl rfl rfl rfl) rfl ?_
                      refine XO.guardRun rfl rfl rfl ?_
                      refine XO.v (V.move rfl) rfl ?_
                      refine XO.splitT (d := 250) rfl (hv4) ?_
                      refine XO.guardSkip rfl rfl rfl rfl rfl ?_
                      refine XO.guardSkip rfl rfl rfl rfl rfl ?_
                      refine XO.guardSkip rfl rfl rfl rfl rfl ?_
                      refine XO.guardSkip rfl rfl rfl rfl rfl ?_
                      refine XO.guardSkipU rfl rfl rfl rfl rfl ?_
                      refine XO.guardSkipU rfl rfl rfl rfl rfl ?_
                      refine XO.guardSkipU rfl rfl rfl rfl rfl ?_
                      refine XO.guardSkip rfl rfl rfl rfl rfl ?_
                      refine XO.guardSkip rfl rfl rfl rfl rfl ?_
                      refine XO.guardSkipU rfl rfl rfl rfl rfl ?_
                      refine XO.guardSkipU rfl rfl rfl rfl rfl ?_
                      refine XO.guardSkipU rfl rfl rfl rfl rfl ?_
                      refine XO.guardSkip rfl rfl rfl rfl rfl ?_
                      refine XO.guardRun rfl rfl rfl ?_
                      refine XO.v (V.pick rfl rfl rfl rfl) rfl ?_
                      refine XO.v (V.pick rfl rfl rfl rfl) rfl ?_
                      refine XO.v (V.assign rfl) rfl ?_
                      refine XO.nil ?_
                      refine XE.next ?_
                      refine XC.keep [(10, _)] (Sub.cons rfl (Sub.nil _)) ?_
                      refine XC.ret ?_
                      refine XE.ret1 rfl rfl (post_of .nil rfl ?_)
                      exact ⟨rfl, rfl⟩
                    · skip
                      have hv4 : n = to ∧ x = y ∧ t.toFF.findV n x = x0.toFF.findV n x := by
                        rcases hv3 with h9 | ⟨h9, h10, _, h11⟩
                        · exact absurd (show t.toFF.findE n x ≠ 0 by rw [h9]; decide) (by assumption)
                        · exact ⟨h9, h10, h11⟩
                      skip
                      refine XO.guardSkip rfl rfl rfl rfl rfl ?_
                      refine XO.guardSkip rfl rfl rfl rfl rfl ?_
                      refine XO.guardSkip rfl rfl rfl rfl rfl ?_
                      refine XO.guardRun rfl rfl rfl ?_
                      refine XO.v (V.pick rfl rfl rfl rfl) rfl ?_
                      refine XO.guardRun rfl rfl rfl ?_
                      refine XO.v (V.move rfl) rfl ?_
                      refine XO.guardRun rfl rfl rfl ?_
                      refine XO.v (V.move rfl) rfl ?_
                      refine XO.guardRun rfl rfl rfl ?_
                      refine XO.v (V.move rfl) rfl ?_
                      refine XO.guardRun rfl rfl rfl ?_
                      refine XO.v (V.cmp rfl rfl rfl) rfl ?_
                      refine XO.guardRun rfl rfl rfl ?_
                      refine XO.v (V.move rfl) rfl ?_
                      refine XO.splitT (d := 254) rfl (hv4.1) ?_
                      refine XO.guardRun rfl rfl rfl ?_
                      refine XO.v (V.move rfl) rfl ?_
                      refine XO.guardRun rfl rfl rfl ?_
                      refine XO.v (V.move rfl) rfl ?_
                      refine XO.guardRun rfl rfl rfl ?_
                      refine XO.v (V.strCmp rfl rfl rfl) rfl ?_
                      refine XO.guardRun rfl rfl rfl ?_
                      refine XO.v (V.pick rfl rfl rfl rfl) rfl ?_
                      refine XO.guardRun rfl rfl rfl ?_
                      refine XO.v (V.move rfl) rfl ?_
                      refine XO.splitT (d := 259) rfl (hv4.2.1) ?_
                      refine XO.guardRun rfl rfl rfl ?_
                      refine XO.v (V.move rfl) rfl ?_
                      refine XO.guardRun rfl rfl rfl ?_
                      refine XO.v (V.move rfl) rfl ?_
                      refine XO.guardRun rfl rfl rfl ?_
                      refine XO.v (V.cmp rfl rfl rfl) rfl ?_
                      refine XO.guardRun rfl rfl rfl ?_
                      refine XO.v (V.pick rfl rfl rfl rfl) rfl ?_
                      refine XO.guardRun rfl rfl rfl ?_
                      refine XO.v (V.pick rfl rfl rfl rfl) rfl ?_
                      refine XO.v (V.pick rfl rfl rfl rfl) rfl ?_
                      refine XO.v (V.assign rfl) rfl ?_
                      refine XO.nil ?_
                      refine XE.next ?_
                      refine XC.keep [(10, _)] (Sub.cons rfl (Sub.nil _)) ?_
                      refine XC.ret ?_
                      refine XE.ret1 rfl rfl (post_of .nil rfl ?_)
                      exact ⟨congrArg Value.bool (decide_eq_true hv4.2.2), rfl⟩
                · skip
                  exact absurd (show x0.toFF.isE (x0.toFF.findV n x) 2 = 0 by rw [← FF.isE_congr hkind]; exact j0) i0
            · skip
              refine XO.v (V.move rfl) rfl ?_
              refine XO.v (V.extract rfl rfl) rfl ?_
              refine XO.v (V.extract rfl rfl) rfl ?_
              refine XO.v (V.assign rfl) rfl ?_
              refine XO.v (V.assign rfl) rfl ?_
              refine XO.nil ?_
              refine XE.next ?_
              refine XC.keep [(1, _), (2, _), (3, _), (4, _), (11, _), (13, _), (18, _), (19, _), (20, _)] (Sub.cons rfl (Sub.cons rfl (Sub.cons rfl (Sub.cons rfl (Sub.cons rfl (Sub.cons rfl (Sub.cons rfl (Sub.cons rfl (Sub.cons rfl (Sub.nil _)))))))))) ?_
              refine XC.seq ?_
              refine XC.region ?_
              refine XO.v (V.move rfl) rfl ?_
              refine XO.v (V.move rfl) rfl ?_
              refine XO.call rfl (t_Read _ _ _ hS _ _ _) (.cons (.there .here) .nil) cl_22 rfl ?_
              rintro _ _ ⟨rfl, rfl⟩
              refine XO.v (V.move rfl) rfl ?_
              refine XO.v (V.extract rfl rfl) rfl ?_
              refine XO.v (V.extract rfl rfl) rfl ?_
              refine XO.v (V.assign rfl) rfl ?_
              refine XO.v (V.assign rfl) rfl ?_
              refine XO.nil ?_
              refine XE.next ?_
              refine XC.keep [(1, _), (2, _), (3, _), (4, _), (11, _), (13, _), (18, _), (19, _), (20, _), (22, _)] (Sub.cons rfl (Sub.cons rfl (Sub.cons rfl (Sub.cons rfl (Sub.cons rfl (Sub.cons rfl (Sub.cons rfl (Sub.cons rfl (Sub.cons rfl (Sub.cons rfl (Sub.nil _))))))))))) ?_
              refine XC.seq ?_
              refine XC.region ?_
              refine XO.v (V.move rfl) rfl ?_
              refine XO.v (V.move rfl) rfl ?_
              refine XO.call rfl (t_Of _ _ _ hS _) (.cons .here .nil) cl_23 rfl ?_
              rintro _ _ ⟨rfl, rfl⟩
              refine XO.v (V.move rfl) rfl ?_
              refine XO.v (V.extract rfl rfl) rfl ?_
              refine XO.v (V.extract rfl rfl) rfl ?_
              refine XO.allocZ (z := .agg NV.zero.arr) (m := 4) (C := encNV NV.zero) (by kernel_rfl) rfl (encNV_box _) rfl ?_
              intro bx
              refine XO.storeAgg rfl rfl .here (encNV_st _ _) ⟨rfl, rfl⟩ sz_55_4 ?_
              refine XO.v (V.assign rfl) rfl ?_
              refine XO.nil ?_
              refine XE.next ?_
              refine XC.keep [(1, _), (2, _), (3, _), (4, _), (11, _), (13, _), (18, _), (19, _), (20, _), (22, _), (24, _)] (Sub.cons rfl (Sub.cons rfl (Sub.cons rfl (Sub.cons rfl (Sub.cons rfl (Sub.cons rfl (Sub.cons rfl (Sub.cons rfl (Sub.cons rfl (Sub.cons rfl (Sub.cons rfl (Sub.nil _)))))))))))) ?_
              refine XC.seq ?_
              refine XC.region ?_
              refine XO.v (V.move rfl) rfl ?_
              refine XO.v (V.move rfl) rfl ?_
              refine XO.v (V.move rfl) rfl ?_
              refine XO.v (V.move rfl) rfl ?_
              refine XO.v (V.move rfl) rfl ?_
              refine XO.call rfl (t_Move _ _ _ hS d (fun k => hO.inv.chI k) _ _ _ _ (by omega)) (.cons (.there .here) (.cons (.there (.there .here)) (.cons (.there (.there .here)) .nil))) cl_24 rfl ?_
              rintro _ _ ⟨rfl, t, ht, tp, tc, rfl⟩
              obtain ⟨d2, o2⟩ := hO.move n x to y
              rw [← ht] at o2
              have hS2 := o2.sh (by omega)
              have hkind : t.toFF.kind = x0.toFF.kind := by rw [ht]; exact FF.move_kind
              refine XO.v (V.assign rfl) rfl ?_
              refine XO.nil ?_
              refine XE.next ?_
              refine XC.keep [(1, _), (2, _), (3, _), (4, _), (11, _), (13, _), (18, _), (19, _), (20, _), (22, _), (24, _), (26, _)] (Sub.cons rfl (Sub.cons rfl (Sub.cons rfl (Sub.cons rfl (Sub.cons rfl (Sub.cons rfl (Sub.cons rfl (Sub.cons rfl (Sub.cons rfl (Sub.cons rfl (Sub.cons rfl (Sub.cons rfl (Sub.nil _))))))))))))) ?_
              refine XC.seq ?_
              refine XC.seq ?_
              refine XC.region ?_
              refine XO.v (V.move rfl) rfl ?_
              refine XO.v (V.errNil rfl Try.underlying43 rfl) rfl ?_
              refine XO.nil ?_
              refine XE.next ?_
              refine XC.keep [(1, _), (2, _), (3, _), (4, _), (11, _), (18, _), (19, _), (20, _), (22, _), (24, _), (26, _), (158, _)] (Sub.cons rfl (Sub.cons rfl (Sub.cons rfl (Sub.cons rfl (Sub.cons rfl (Sub.cons rfl (Sub.cons rfl (Sub.cons rfl (Sub.cons rfl (Sub.cons rfl (Sub.cons rfl (Sub.cons rfl (Sub.nil _))))))))))))) ?_
              refine XC.condP rfl (fun h22 => ?_) (fun h22 => ?_)
              · skip
                have hf0 : x0.toFF.findE n x ≠ 0 := by assumption
                refine XC.seq ?_
                refine XC.region ?_
                refine XO.v (V.move rfl) rfl ?_
                refine XO.v (V.errNil rfl Try.underlying43 rfl) rfl ?_
                refine XO.v (V.move rfl) rfl ?_
                refine XO.splitT (d := 161) rfl (FF.moveE_find hf0) ?_
                refine XO.guardRun rfl rfl rfl ?_
                refine XO.v (V.move rfl) rfl ?_
                refine XO.guardRun rfl rfl rfl ?_
                refine XO.call rfl (t_Nodes _ _ _) (.cons .here .nil) cl_16 rfl ?_
                rintro _ _ ⟨rfl, rfl⟩
                refine XO.guardRun rfl rfl rfl ?_
                refine XO.v (V.move rfl) rfl ?_
                refine XO.guardRun rfl rfl rfl ?_
                refine XO.v (V.cmp rfl rfl rfl) rfl ?_
                refine XO.v (V.pick rfl rfl rfl rfl) rfl ?_
                refine XO.v (V.assign rfl) rfl ?_
                refine XO.nil ?_
                refine XE.next ?_
                refine XC.keep [(10, _)] (Sub.cons rfl (Sub.nil _)) ?_
                refine XC.ret ?_
                refine XE.thenRet ?_
                refine XE.ret1 rfl rfl (post_of .nil rfl ?_)
                exact ⟨congrArg Value.bool (decide_eq_true (FF.nodes_congr hkind)), rfl⟩
              · skip
                have hf0 : x0.toFF.findE n x = 0 := by simpa using h22
                refine XC.skip ?_
                refine XE.next ?_
                refine XC.keep [(1, _), (2, _), (3, _), (4, _), (11, _), (18, _), (19, _), (20, _), (22, _), (24, _), (26, _)] (Sub.cons rfl (Sub.cons rfl (Sub.cons rfl (Sub.cons rfl (Sub.cons rfl (Sub.cons rfl (Sub.cons rfl (Sub.cons rfl (Sub.cons rfl (Sub.cons rfl (Sub.cons rfl (Sub.nil _)))))))))))) ?_
                refine XC.seq ?_
                refine XC.region ?_
                obtain ⟨hm1, hm2, hm3⟩ := FF.move_same (to := to) (y := y) hO.inv hf0
                rw [← ht] at hm1 hm2 hm3
                refine XO.v (V.move rfl) rfl ?_
                refine XO.v (V.move rfl) rfl ?_
                refine XO.call rfl (t_List _ _ _ hS2 _) (.cons .here (.cons .here (.cons .here .nil))) cl_21 rfl ?_
                rintro _ _ (⟨j0, rfl, rfl⟩ | ⟨j0, p2, c2, rfl, rfl⟩)
                · skip
                  exact absurd (show t.toFF.isE (x0.toFF.findV n x) 2 = 0 by rw [FF.isE_congr hkind]; exact i0) j0
                · skip
                  refine XO.v (V.move rfl) rfl ?_
                  refine XO.v (V.extract rfl rfl) rfl ?_
                  refine XO.v (V.extract rfl rfl) rfl ?_
                  refine XO.v (V.assign rfl) rfl ?_
                  refine XO.v (V.assign rfl) rfl ?_
                  refine XO.nil ?_
                  refine XE.next ?_
                  refine XC.keep [(1, _), (2, _), (3, _), (4, _), (11, _), (18, _), (19, _), (20, _), (22, _), (24, _), (26, _), (27, _)] (Sub.cons rfl (Sub.cons rfl (Sub.cons rfl (Sub.cons rfl (Sub.cons rfl (Sub.cons rfl (Sub.cons rfl (Sub.cons rfl (Sub.cons rfl (Sub.cons rfl (Sub.cons rfl (Sub.cons rfl (Sub.nil _))))))))))))) ?_
                  refine XC.seq ?_
                  refine XC.region ?_
                  refine XO.v (V.move rfl) rfl ?_
                  refine XO.v (V.move rfl) rfl ?_
                  refine XO.call rfl (t_Read _ _ _ hS2 _ _ _) (.cons (.there .here) .nil) cl_22 rfl ?_
                  rintro _ _ ⟨rfl, rfl⟩
                  refine XO.v (V.move rfl) rfl ?_
                  refine XO.v (V.extract rfl rfl) rfl ?_
                  refine XO.v (V.extract rfl rfl) rfl ?_
                  refine XO.v (V.assign rfl) rfl ?_
                  refine XO.v (V.assign rfl) rfl ?_
                  refine XO.nil ?_
                  refine XE.next ?_
                  refine XC.keep [(1, _), (2, _), (3, _), (4, _), (11, _), (18, _), (19, _), (20, _), (22, _), (24, _), (26, _), (27, _), (29, _)] (Sub.cons rfl (Sub.cons rfl (Sub.cons rfl (Sub.cons rfl (Sub.cons rfl (Sub.cons rfl (Sub.cons rfl (Sub.cons rfl (Sub.cons rfl (Sub.cons rfl (Sub.cons rfl (Sub.cons rfl (Sub.cons rfl (Sub.nil _)))))))))))))) ?_
                  refine XC.seq ?_
                  refine XC.region ?_
                  refine XO.v (V.move rfl) rfl ?_
                  refine XO.v (V.move rfl) rfl ?_
                  refine XO.call rfl (t_Of _ _ _ hS2 _) (.cons .here .nil) cl_23 rfl ?_
                  rintro _ _ ⟨rfl, rfl⟩
                  refine XO.v (V.move rfl) rfl ?_
                  refine XO.v (V.extract rfl rfl) rfl ?_
                  refine XO.v (V.extract rfl rfl) rfl ?_
                  refine XO.allocZ (z := .agg NV.zero.arr) (m := 4) (C := encNV NV.zero) (by kernel_rfl) rfl (encNV_box _) rfl ?_
                  intro by_
                  refine XO.storeAgg rfl rfl .here (encNV_st _ _) ⟨rfl, rfl⟩ sz_55_4 ?_
                  refine XO.v (V.assign rfl) rfl ?_
                  refine XO.nil ?_
                  refine XE.next ?_
                  refine XC.keep [(1, _), (2, _), (3, _), (4, _), (11, _), (18, _), (19, _), (20, _), (22, _), (24, _), (26, _), (27, _), (29, _), (31, _)] (Sub.cons rfl (Sub.cons rfl (Sub.cons rfl (Sub.cons rfl (Sub.cons rfl (Sub.cons rfl (Sub.cons rfl (Sub.cons rfl (Sub.cons rfl (Sub.cons rfl (Sub.cons rfl (Sub.cons rfl (Sub.cons rfl (Sub.cons rfl (Sub.nil _))))))))))))))) ?_
                  refine XC.seq ?_
                  refine XC.seq ?_
                  refine XC.region ?_
                  refine XO.v (V.move rfl) rfl ?_
                  refine XO.v (V.move rfl) rfl ?_
                  refine XO.call rfl (same_texts2 _ _ _ _ _ _ hm1 (by have := FF.isE_k0 i0; have := (hS.rise _ this.1 this.2.1).2.2.1; omega)) (.cons (.there (.there (.there (.there (.there (.there .here)))))) (.cons (.there (.there .here)) .nil)) cl_25 rfl ?_
                  rintro _ _ ⟨rfl, rfl⟩
                  refine XO.v (V.not rfl) rfl ?_
                  refine XO.v (V.move rfl) rfl ?_
                  refine XO.guardRun rfl rfl rfl ?_
                  refine XO.v (V.move rfl) rfl ?_
                  refine XO.guardRun rfl rfl rfl ?_
                  refine XO.v (V.move rfl) rfl ?_
                  refine XO.guardRun rfl rfl rfl ?_
                  refine XO.v (V.strCmp rfl rfl rfl) rfl ?_
                  refine XO.v (V.pick rfl rfl rfl rfl) rfl ?_
                  refine XO.v (V.move rfl) rfl ?_
                  refine XO.splitF (d := 194) rfl (by rw [hm3]; exact fun q => q rfl) ?_
                  refine XO.guardRun rfl rfl rfl ?_
                  refine XO.v (V.loadAgg rfl (inXM (.there (.there (.there (.there (.there (.there .here))))))) (encNV_agg _) ag_55 sz_55_4) rfl ?_
                  refine XO.guardRun rfl rfl rfl ?_
                  refine XO.v (V.loadAgg rfl (inXM (.there (.there .here))) (encNV_is hm2) ag_55 sz_55_4) rfl ?_
                  refine XO.guardRun rfl rfl rfl ?_
                  refine XO.v (V.aggNe rfl rfl aggEq (NV.ints _)) rfl ?_
                  refine XO.v (V.pick rfl rfl rfl rfl) rfl ?_
                  refine XO.v (V.move rfl) rfl ?_
                  refine XO.guardRun rfl rfl rfl ?_
                  refine XO.v (V.move rfl) rfl ?_
                  refine XO.guardRun rfl rfl rfl ?_
                  refine XO.call rfl (t_Nodes _ _ _) (.cons (.there (.there (.there .here))) .nil) cl_16 rfl ?_
                  rintro _ _ ⟨rfl, rfl⟩
                  refine XO.guardRun rfl rfl rfl ?_
                  refine XO.v (V.move rfl) rfl ?_
                  refine XO.guardRun rfl rfl rfl ?_
                  refine XO.v (V.cmp rfl rfl rfl) rfl ?_
                  refine XO.v (V.pick rfl rfl rfl rfl) rfl ?_
                  refine XO.nil ?_
                  refine XE.next ?_
                  refine XC.keep [(1, _), (2, _), (3, _), (4, _), (11, _), (19, _), (26, _), (204, _)] (Sub.cons rfl (Sub.cons rfl (Sub.cons rfl (Sub.cons rfl (Sub.cons rfl (Sub.cons rfl (Sub.cons rfl (Sub.cons rfl (Sub.nil _))))))))) ?_
                  refine XC.condFP rfl (by rw [FF.nodes_congr hkind]; exact fun q => q rfl) ?_
                  refine XC.skip ?_
                  refine XE.next ?_
                  refine XC.keep [(1, _), (2, _), (3, _), (4, _), (11, _), (19, _), (26, _)] (Sub.cons rfl (Sub.cons rfl (Sub.cons rfl (Sub.cons rfl (Sub.cons rfl (Sub.cons rfl (Sub.cons rfl (Sub.nil _)))))))) ?_
                  refine XC.seq ?_
                  refine XC.seq ?_
                  refine XC.region ?_
                  refine XO.v (V.move rfl) rfl ?_
                  refine XO.v (V.errNil rfl Try.underlying43 rfl) rfl ?_
                  refine XO.nil ?_
                  refine XE.next ?_
                  refine XC.keep [(1, _), (2, _), (3, _), (4, _), (11, _), (19, _), (206, _)] (Sub.cons rfl (Sub.cons rfl (Sub.cons rfl (Sub.cons rfl (Sub.cons rfl (Sub.cons rfl (Sub.cons rfl (Sub.nil _)))))))) ?_
                  refine XC.condP rfl (fun h25 => ?_) (fun h25 => ?_)
                  · skip
                    have hme : x0.toFF.moveE d n x to y ≠ 0 := by assumption
                    have hts : t.toFF = x0.toFF := by rw [ht]; exact FF.move_err hO.inv hme
                    refine XC.seq ?_
                    refine XC.region ?_
                    refine XO.v (V.move rfl) rfl ?_
                    refine XO.v (V.move rfl) rfl ?_
                    refine XO.v (V.move rfl) rfl ?_
                    refine XO.call rfl (t_Find _ _ _ hS2 _ _) (.cons .here (.cons (.there (.there (.there .here))) (.cons (.there (.there (.there .here))) .nil))) cl_20 rfl ?_
                    rintro _ _ ⟨rfl, rfl⟩
                    refine XO.v (V.move rfl) rfl ?_
                    refine XO.v (V.extract rfl rfl) rfl ?_
                    refine XO.v (V.extract rfl rfl) rfl ?_
                    refine XO.v (V.assign rfl) rfl ?_
                    refine XO.v (V.assign rfl) rfl ?_
                    refine XO.nil ?_
                    refine XE.next ?_
                    refine XC.keep [(19, _), (33, _), (34, _)] (Sub.cons rfl (Sub.cons rfl (Sub.cons rfl (Sub.nil _)))) ?_
                    refine XC.seq ?_
                    refine XC.region ?_
                    refine XO.v (V.move rfl) rfl ?_
                    refine XO.v (V.errNil rfl Try.underlying43 rfl) rfl ?_
                    refine XO.v (V.move rfl) rfl ?_
                    refine XO.splitT (d := 216) rfl (by rw [hts]; exact hf0) ?_
                    refine XO.guardRun rfl rfl rfl ?_
                    refine XO.v (V.move rfl) rfl ?_
                    refine XO.guardRun rfl rfl rfl ?_
                    refine XO.v (V.move rfl) rfl ?_
                    refine XO.guardRun rfl rfl rfl ?_
                    refine XO.v (V.cmp rfl rfl rfl) rfl ?_
                    refine XO.v (V.pick rfl rfl rfl rfl) rfl ?_
                    refine XO.v (V.assign rfl) rfl ?_
                    refine XO.nil ?_
                    refine XE.next ?_
                    refine XC.keep [(10, _)] (Sub.cons rfl (Sub.nil _)) ?_
                    refine XC.ret ?_
                    refine XE.thenRet ?_
                    refine XE.ret1 rfl rfl (post_of .nil rfl ?_)
                    exact ⟨congrArg Value.bool (decide_eq_true (by rw [hts])), rfl⟩
                  · skip
                    refine XC.skip ?_
                    refine XE.next ?_
                    refine XC.keep [(1, _), (2, _), (3, _), (4, _), (11, _), (19, _)] (Sub.cons rfl (Sub.cons rfl (Sub.cons rfl (Sub.cons rfl (Sub.cons rfl (Sub.cons rfl (Sub.nil _))))))) ?_
                    refine XC.seq ?_
                    refine XC.region ?_
                    have hmz : x0.toFF.moveE d n x to y = 0 := Decidable.byContradiction (by assumption)
                    obtain ⟨_, _, _, _, _, hv1, hv2, hv3⟩ := FF.move_ok hO.inv hmz
                    rw [← ht] at hv1 hv2 hv3
                    refine XO.v (V.move rfl) rfl ?_
                    refine XO.v (V.move rfl) rfl ?_
                    refine XO.v (V.move rfl) rfl ?_
                    refine XO.call rfl (t_Find _ _ _ hS2 _ _) (.cons .here (.cons (.there (.there (.there .here))) (.cons (.there (.there (.there .here))) .nil))) cl_20 rfl ?_
                    rintro _ _ ⟨rfl, rfl⟩
                    refine XO.v (V.move rfl) rfl ?_
                    refine XO.v (V.extract rfl rfl) rfl ?_
                    refine XO.v (V.extract rfl rfl) rfl ?_
                    refine XO.v (V.assign rfl) rfl ?_
                    refine XO.v (V.assign rfl) rfl ?_
                    refine XO.nil ?_
                    refine XE.next ?_
                    refine XC.keep [(1, _), (2, _), (3, _), (4, _), (11, _), (13, _), (19, _), (35, _)] (Sub.cons rfl (Sub.cons rfl (Sub.cons rfl (Sub.cons rfl (Sub.cons rfl (Sub.cons rfl (Sub.cons rfl (Sub.cons rfl (Sub.nil _))))))))) ?_
                    refine XC.seq ?_
                    refine XC.region ?_
                    refine XO.v (V.move rfl) rfl ?_
                    refine XO.v (V.move rfl) rfl ?_
                    refine XO.v (V.move rfl) rfl ?_
                    refine XO.call rfl (t_Find _ _ _ hS2 _ _) (.cons .here (.cons .here (.cons .here .nil))) cl_20 rfl ?_
                    rintro _ _ ⟨rfl, rfl⟩
                    refine XO.v (V.move rfl) rfl ?_
                    refine XO.v (V.extract rfl rfl) rfl ?_
                    refine XO.v (V.extract rfl rfl) rfl ?_
                    refine XO.v (V.assign rfl) rfl ?_
                    refine XO.v (V.assign rfl) rfl ?_
                    refine XO.nil ?_
                    refine XE.next ?_
                    refine XC.keep [(1, _), (2, _), (3, _), (4, _), (13, _), (15, _), (19, _), (35, _), (36, _)] (Sub.cons rfl (Sub.cons rfl (Sub.cons rfl (Sub.cons rfl (Sub.cons rfl (Sub.cons rfl (Sub.cons rfl (Sub.cons rfl (Sub.cons rfl (Sub.nil _)))))))))) ?_
                    refine XC.seq ?_
                    refine XC.region ?_
                    refine XO.v (V.move rfl) rfl ?_
                    refine XO.v (V.errNil rfl Try.underlying43 rfl) rfl ?_
                    refine XO.v (V.move rfl) rfl ?_
                    refine XO.splitT (d := 237) rfl (hv1) ?_
                    refine XO.guardRun rfl rfl rfl ?_
                    refine XO.v (V.move rfl) rfl ?_
                    refine XO.guardRun rfl rfl rfl ?_
                    refine XO.v (V.move rfl) rfl ?_
                    refine XO.guardRun rfl rfl rfl ?_
                    refine XO.v (V.cmp rfl rfl rfl) rfl ?_
                    refine XO.v (V.pick rfl rfl rfl rfl) rfl ?_
                    refine XO.v (V.move rfl) rfl ?_
                    refine XO.splitT (d := 242) rfl (hv2) ?_
                    refine XO.guardRun rfl rfl rfl ?_
                    refine XO.v (V.move rfl) rfl ?_
                    refine XO.guardRun rfl rfl rfl ?_
                    refine XO.v (V.errNil rfl Try.underlying43 rfl) rfl ?_
                    refine XO.guardRun rfl rfl rfl ?_
                    refine XO.v (V.move rfl) rfl ?_
                    skip
                    refine XO.splitP (d := 245) rfl (fun h29 => ?_) (fun h29 => ?_)
                    · skip
                      have hv4 : t.toFF.findE n x = 2 := by
                        rcases hv3 with h9 | ⟨_, _, h9, _⟩
                        · exact h9
                        · exact absurd h9 (by assumption)
                      skip
                      refine XO.guardRun rfl rfl rfl ?_
                      refine XO.v (V.move rfl) rfl ?_
                      refine XO.guardRun rfl rfl rfl ?_
                      refine XO.call rfl (number_any _) .nil cl_26 rfl ?_
                      rintro _ _ ⟨rfl, rfl⟩
                      refine XO.guardRun rfl rfl rfl ?_
                      refine XO.v (V.cmp rfl rfl rfl) rfl ?_
                      refine XO.guardRun rfl rfl rfl ?_
                      refine XO.v (V.pick rfl rfl rfl rfl) rfl ?_
                      refine XO.guardRun rfl rfl rfl ?_
                      refine XO.v (V.move rfl) rfl ?_
                      refine XO.splitT (d := 250) rfl (hv4) ?_
                      refine XO.guardSkip rfl rfl rfl rfl rfl ?_
                      refine XO.guardSkip rfl rfl rfl rfl rfl ?_
                      refine XO.guardSkip rfl rfl rfl rfl rfl ?_
                      refine XO.guardSkip rfl rfl rfl rfl rfl ?_
                      refine XO.guardSkipU rfl rfl rfl rfl rfl ?_
                      refine XO.guardSkipU rfl rfl rfl rfl rfl ?_
                      refine XO.guardSkipU rfl rfl rfl rfl rfl ?_
                      refine XO.guardSkip rfl rfl rfl rfl rfl ?_
                      refine XO.guardSkip rfl rfl rfl rfl rfl ?_
                      refine XO.guardSkipU rfl rfl rfl rfl rfl ?_
                      refine XO.guardSkipU rfl rfl rfl rfl rfl ?_
                      refine XO.guardSkipU rfl rfl rfl rfl rfl ?_
                      refine XO.guardSkip rfl rfl rfl rfl rfl ?_
                      refine XO.guardRun rfl rfl rfl ?_
                      refine XO.v (V.pick rfl rfl rfl rfl) rfl ?_
                      refine XO.v (V.pick rfl rfl rfl rfl) rfl ?_
                      refine XO.v (V.assign rfl) rfl ?_
                      refine XO.nil ?_
                      refine XE.next ?_
                      refine XC.keep [(10, _)] (Sub.cons rfl (Sub.nil _)) ?_
                      refine XC.ret ?_
                      refine XE.ret1 rfl rfl (post_of .nil rfl ?_)
                      exact ⟨rfl, rfl⟩
                    · skip
                      have hv4 : n = to ∧ x = y ∧ t.toFF.findV n x = x0.toFF.findV n x := by
                        rcases hv3 with h9 | ⟨h9, h10, _, h11⟩
                        · exact absurd (show t.toFF.findE n x ≠ 0 by rw [h9]; decide) (by assumption)
                        · exact ⟨h9, h10, h11⟩
                      skip
                      refine XO.guardSkip rfl rfl rfl rfl rfl ?_
                      refine XO.guardSkip rfl rfl rfl rfl rfl ?_
                      refine XO.guardSkip rfl rfl rfl rfl rfl ?_
                      refine XO.guardRun rfl rfl rfl ?_
                      refine XO.v (V.pick rfl rfl rfl rfl) rfl ?_
                      refine XO.guardRun rfl rfl rfl ?_
                      refine XO.v (V.move rfl) rfl ?_
                      refine XO.guardRun rfl rfl rfl ?_
                      refine XO.v (V.move rfl) rfl ?_
                      refine XO.guardRun rfl rfl rfl ?_
                      refine XO.v (V.move rfl) rfl ?_
                      refine XO.guardRun rfl rfl rfl ?_
                      refine XO.v (V.cmp rfl rfl rfl) rfl ?_
                      refine XO.guardRun rfl rfl rfl ?_
                      refine XO.v (V.move rfl) rfl ?_
                      refine XO.splitT (d := 254) rfl (hv4.1) ?_
                      refine XO.guardRun rfl rfl rfl ?_
                      refine XO.v (V.move rfl) rfl ?_
                      refine XO.guardRun rfl rfl rfl ?_
                      refine XO.v (V.move rfl) rfl ?_
                      refine XO.guardRun rfl rfl rfl ?_
                      refine XO.v (V.strCmp rfl rfl rfl) rfl ?_
                      refine XO.guardRun rfl rfl rfl ?_
                      refine XO.v (V.pick rfl rfl rfl rfl) rfl ?_
                      refine XO.guardRun rfl rfl rfl ?_
                      refine XO.v (V.move rfl) rfl ?_
                      refine XO.splitT (d := 259) rfl (hv4.2.1) ?_
                      refine XO.guardRun rfl rfl rfl ?_
                      refine XO.v (V.move rfl) rfl ?_
                      refine XO.guardRun rfl rfl rfl ?_
                      refine XO.v (V.move rfl) rfl ?_
                      refine XO.guardRun rfl rfl rfl ?_
                      refine XO.v (V.cmp rfl rfl rfl) rfl ?_
                      refine XO.guardRun rfl rfl rfl ?_
                      refine XO.v (V.pick rfl rfl rfl rfl) rfl ?_
                      refine XO.guardRun rfl rfl rfl ?_
                      refine XO.v (V.pick rfl rfl rfl rfl) rfl ?_
                      refine XO.v (V.pick rfl rfl rfl rfl) rfl ?_
                      refine XO.v (V.assign rfl) rfl ?_
                      refine XO.nil ?_
                      refine XE.next ?_
                      refine XC.keep [(10, _)] (Sub.cons rfl (Sub.nil _)) ?_
                      refine XC.ret ?_
                      refine XE.ret1 rfl rfl (post_of .nil rfl ?_)
                      exact ⟨congrArg Value.bool (decide_eq_true hv4.2.2), rfl⟩
end Go.X
