import Derived.Test.YtpnddggohipdnaaDoorVR2
namespace Go.X
open Go Go.Proofs
set_option maxRecDepth 20000
set_option maxHeartbeats 4000000

set_option maxHeartbeats 8000000 in
theorem r_Regions (rk rm : Nat) (m : MS) (hm : m.Ok) : Spec Tryd.prog 44 [ptr rm 0 0]
 [.cells rm 0 49 (encRN rk m.is_ m.fr m.own)]
 (fun v H1 => ∃ p2 c2, v = .slice p2 (runs m.is_).length c2 ∧ H1 = [frow p2 c2 83 3 (runs m.is_).length (rgC (runs m.is_)), .cells rm 0 49 (encRN rk m.is_ m.fr m.own)]) := by
  refine Spec.go 77 [0, 2, 3, 4, 5, 7, 16, 54] [] Tryd.func44 rfl rfl rfl ?_
  intro W
  refine XR.nilRow 83 3 ?_
  refine XR.nilRow 83 3 ?_
  refine lp (σ := Int × Option Addr × Nat) (fun x => (16 - x.1).toNat) (fun x => 0 ≤ x.1 ∧ x.1 ≤ 16) (fun x => [(4, .int .i64 x.1), (3, .slice x.2.1 (runsN m.is_ x.1.toNat).length x.2.2), (0, ptr rm 0 0)]) (fun x => XM W (foot [.cells rm 0 49 (encRN rk m.is_ m.fr m.own)]) [frow x.2.1 x.2.2 83 3 (runsN m.is_ x.1.toNat).length (rgC (runsN m.is_ x.1.toNat)), .cells rm 0 49 (encRN rk m.is_ m.fr m.own)]) ((0, none, 0)) ?_ (S3 rfl rfl rfl) (fun _ hw => XM.pick (.cons .here (.cons (.there .here) .nil)) hw) ?_
  · skip
    exact ⟨by simp, by simp⟩
  intro x hi
  have hln := runsN_len m.is_ x.1.toNat
  have hab := (runsN_ok hm.f x.1.toNat).b
  refine gC ?_
  refine cd rfl ?_ ?_ <;> intro h1
  · skip
    refine sd (by omega) ?_
    refine ld (.there .here) (encRN.ld_Is_I _ _ _ _ _ (by omega)) ?_
    refine cd rfl ?_ ?_ <;> intro h2
    · skip
      have h0 : m.is_ x.1 = 0 := h2
      refine sd (by omega) ?_
      have hN : (runsN m.is_ (x.1 + 1).toNat) = (runsN m.is_ x.1.toNat) := by rw [runsN_next' hi.1, if_pos h0]
      refine ag ((x.1 + 1, x.2)) ?_ ?_ (S3 rfl (by show lk _ _ = some (Value.slice _ (runsN m.is_ (x.1 + 1).toNat).length _); rw [hN]; rfl) rfl) (fun _ hw => by show XM _ _ [frow _ _ _ _ (runsN m.is_ (x.1 + 1).toNat).length (rgC (runsN m.is_ (x.1 + 1).toNat)), _] _; rw [hN]; exact XM.pick .h2 hw)
      · skip
        (simp; omega)
      · skip
        (show 0 ≤ x.1 + 1 ∧ x.1 + 1 ≤ 16; omega)
    · skip
      have h0 : ¬ m.is_ x.1 = 0 := h2
      refine rq [0, 1, 2, 3, 4, 5, 6, 7, 8, 9, 10, 11, 12, 13, 14, 15, 16, 17, 18, 19, 20, 21, 22, 23, 24, 25, 26, 27, 28, 29, 30, 31, 32, 33, 34, 35] mixed (by kernel_rfl) ?_
      refine sp 21 rfl ?_ ?_ <;> intro h3
      · skip
        have hpos : 0 < (runsN m.is_ x.1.toNat).length := by omega
        have hlb := hab _ (rat_mem (z := ((runsN m.is_ x.1.toNat).length : Int) - 1) (by omega))
        refine XR.openRow .here (by omega) ?_
        intro ga hga
        rw [hga]
        refine sd (by omega) ?_
        refine sd (by omega) ?_
        refine ld (.there .here) (encRN.ld_Is_I _ _ _ _ _ (by omega)) ?_
        refine sd (by omega) ?_
        refine ld (.there .here) (encRN.ld_Is_I _ _ _ _ _ (by omega)) ?_
        refine sp 38 rfl ?_ ?_ <;> intro h4
        · skip
          have h16 := h4
          refine sd (by omega) ?_
          refine sd (by omega) ?_
          refine ldF .here (rgC.f (by omega)) ?_
          refine sd (by omega) ?_
          refine sd (by omega) ?_
          refine ldF .here (rgC.n (by omega)) ?_
          refine sd (by omega) ?_
          refine cd rfl ?_ ?_ <;> intro h5
          · skip
            have h26 := h5
            refine sd (by omega) ?_
            refine sd (by omega) ?_
            refine ldF .here (rgC.n (by omega)) ?_
            refine sd (by omega) ?_
            refine sd (by omega) ?_
            refine stF .here (rgC.grow (by omega) _) rfl ?_
            refine sd (by omega) ?_
            have hq := (runsN_hit hm.f (i := x.1) ⟨hi.1, by omega⟩ h0 hpos).1 ⟨h16, h26⟩
            have hN : (runsN m.is_ (x.1 + 1).toNat) = lset (runsN m.is_ x.1.toNat) { (rat (runsN m.is_ x.1.toNat) (((runsN m.is_ x.1.toNat).length : Int) - 1)) with n := (rat (runsN m.is_ x.1.toNat) (((runsN m.is_ x.1.toNat).length : Int) - 1)).n + 1 } := by rw [runsN_next' hi.1, if_neg h0, mgS_hit hpos hq.1 hq.2]
            refine ag ((x.1 + 1, some ⟨ga, 0, none⟩, x.2.2)) ?_ ?_ (S3 rfl (by show lk _ _ = some (Value.slice _ (runsN m.is_ (x.1 + 1).toNat).length _); rw [hN, lset_length hpos]; rfl) rfl) (fun _ hw => by show XM _ _ [frow _ _ _ _ (runsN m.is_ (x.1 + 1).toNat).length (rgC (runsN m.is_ (x.1 + 1).toNat)), _] _; rw [hN, lset_length hpos]; exact XM.pick .h2 hw)
            · skip
              (simp; omega)
            · skip
              (show 0 ≤ x.1 + 1 ∧ x.1 + 1 ≤ 16; omega)
          · skip
            refine sd (by omega) ?_
            refine ld (.there .here) (encRN.ld_Is_I _ _ _ _ _ (by omega)) ?_
            refine XO.v (V.build (vs := #[(0, .int .i64 x.1), (1, .int .i64 1), (2, .bool (decide (m.is_ x.1 = 2)))]) rfl (v := .agg (RG.mk x.1 1 (decide (m.is_ x.1 = 2))).arr) (fun _ => by kernel_rfl)) rfl (gO ?_)
            refine XO.buildSlice (e := 83) (vs := #[(0, .agg (RG.mk x.1 1 (decide (m.is_ x.1 = 2))).arr)]) (A := (RG.mk x.1 1 (decide (m.is_ x.1 = 2))).arr) rfl (fun _ => by kernel_rfl) rfl rfl ?_
            intro nb
            refine gO ?_
            refine XO.appendRG (e := 83) (acc := (runsN m.is_ x.1.toNat)) (r := (RG.mk x.1 1 (decide (m.is_ x.1 = 2)))) rfl rfl Tryd.underlying69 rt_83_3 (.there .here) .here (by omega) rfl ?_
            intro p3 c3
            refine gO ?_
            refine sd (by omega) ?_
            have hN : (runsN m.is_ (x.1 + 1).toNat) = (runsN m.is_ x.1.toNat) ++ [(RG.mk x.1 1 (decide (m.is_ x.1 = 2)))] := by
              rw [runsN_next' hi.1, if_neg h0, mgS_miss (by intro hp2 hh; have hq := (runsN_hit hm.f (i := x.1) ⟨hi.1, by omega⟩ h0 hp2).2 hh; first | omega | exact absurd hq.1 (by assumption) | exact absurd hq.2 (by assumption))]
            refine ag ((x.1 + 1, p3, c3)) ?_ ?_ (S3 rfl (by show lk _ _ = some (Value.slice _ (runsN m.is_ (x.1 + 1).toNat).length _); rw [hN]; rfl) rfl) (fun _ hw => by show XM _ _ [frow _ _ _ _ (runsN m.is_ (x.1 + 1).toNat).length (rgC (runsN m.is_ (x.1 + 1).toNat)), _] _; rw [hN]; exact XM.pick (.cons .here (.cons (.there .here) .nil)) hw)
            · skip
              (simp; omega)
            · skip
              (show 0 ≤ x.1 + 1 ∧ x.1 + 1 ≤ 16; omega)
        · skip
          refine sd (by omega) ?_
          refine ld (.there .here) (encRN.ld_Is_I _ _ _ _ _ (by omega)) ?_
          refine XO.v (V.build (vs := #[(0, .int .i64 x.1), (1, .int .i64 1), (2, .bool (decide (m.is_ x.1 = 2)))]) rfl (v := .agg (RG.mk x.1 1 (decide (m.is_ x.1 = 2))).arr) (fun _ => by kernel_rfl)) rfl (gO ?_)
          refine XO.buildSlice (e := 83) (vs := #[(0, .agg (RG.mk x.1 1 (decide (m.is_ x.1 = 2))).arr)]) (A := (RG.mk x.1 1 (decide (m.is_ x.1 = 2))).arr) rfl (fun _ => by kernel_rfl) rfl rfl ?_
          intro nb
          refine gO ?_
          refine XO.appendRG (e := 83) (acc := (runsN m.is_ x.1.toNat)) (r := (RG.mk x.1 1 (decide (m.is_ x.1 = 2)))) rfl rfl Tryd.underlying69 rt_83_3 (.there .here) .here (by omega) rfl ?_
          intro p3 c3
          refine gO ?_
          refine sd (by omega) ?_
          have hN : (runsN m.is_ (x.1 + 1).toNat) = (runsN m.is_ x.1.toNat) ++ [(RG.mk x.1 1 (decide (m.is_ x.1 = 2)))] := by
            rw [runsN_next' hi.1, if_neg h0, mgS_miss (by intro hp2 hh; have hq := (runsN_hit hm.f (i := x.1) ⟨hi.1, by omega⟩ h0 hp2).2 hh; first | omega | exact absurd hq.1 (by assumption) | exact absurd hq.2 (by assumption))]
          refine ag ((x.1 + 1, p3, c3)) ?_ ?_ (S3 rfl (by show lk _ _ = some (Value.slice _ (runsN m.is_ (x.1 + 1).toNat).length _); rw [hN]; rfl) rfl) (fun _ hw => by show XM _ _ [frow _ _ _ _ (runsN m.is_ (x.1 + 1).toNat).length (rgC (runsN m.is_ (x.1 + 1).toNat)), _] _; rw [hN]; exact XM.pick (.cons .here (.cons (.there .here) .nil)) hw)
          · skip
            (simp; omega)
          · skip
            (show 0 ≤ x.1 + 1 ∧ x.1 + 1 ≤ 16; omega)
      · skip
        refine sd (by omega) ?_
        refine ld (.there .here) (encRN.ld_Is_I _ _ _ _ _ (by omega)) ?_
        refine XO.v (V.build (vs := #[(0, .int .i64 x.1), (1, .int .i64 1), (2, .bool (decide (m.is_ x.1 = 2)))]) rfl (v := .agg (RG.mk x.1 1 (decide (m.is_ x.1 = 2))).arr) (fun _ => by kernel_rfl)) rfl (gO ?_)
        refine XO.buildSlice (e := 83) (vs := #[(0, .agg (RG.mk x.1 1 (decide (m.is_ x.1 = 2))).arr)]) (A := (RG.mk x.1 1 (decide (m.is_ x.1 = 2))).arr) rfl (fun _ => by kernel_rfl) rfl rfl ?_
        intro nb
        refine gO ?_
        refine XO.appendRG (e := 83) (acc := (runsN m.is_ x.1.toNat)) (r := (RG.mk x.1 1 (decide (m.is_ x.1 = 2)))) rfl rfl Tryd.underlying69 rt_83_3 (.there .here) .here (by omega) rfl ?_
        intro p3 c3
        refine gO ?_
        refine sd (by omega) ?_
        have hN : (runsN m.is_ (x.1 + 1).toNat) = (runsN m.is_ x.1.toNat) ++ [(RG.mk x.1 1 (decide (m.is_ x.1 = 2)))] := by
          rw [runsN_next' hi.1, if_neg h0, mgS_miss (by intro hp2 hh; have hq := (runsN_hit hm.f (i := x.1) ⟨hi.1, by omega⟩ h0 hp2).2 hh; first | omega | exact absurd hq.1 (by assumption) | exact absurd hq.2 (by assumption))]
        refine ag ((x.1 + 1, p3, c3)) ?_ ?_ (S3 rfl (by show lk _ _ = some (Value.slice _ (runsN m.is_ (x.1 + 1).toNat).length _); rw [hN]; rfl) rfl) (fun _ hw => by show XM _ _ [frow _ _ _ _ (runsN m.is_ (x.1 + 1).toNat).length (rgC (runsN m.is_ (x.1 + 1).toNat)), _] _; rw [hN]; exact XM.pick (.cons .here (.cons (.there .here) .nil)) hw)
        · skip
          (simp; omega)
        · skip
          (show 0 ≤ x.1 + 1 ∧ x.1 + 1 ≤ 16; omega)
  · skip
    refine XE.ret1 rfl rfl (post_of .h2 rfl ?_)
    have e : x.1 = 16 := by omega
    exact ⟨x.2.1, x.2.2, by rw [e]; rfl, by rw [e]; rfl⟩
end Go.X
