import Derived.Test.YtfpdkhncfkefhaaFT
namespace Go.X
open Go
def arrR (u : encR.U) : Array Value := ((List.range 12).map (encR.cell u)).toArray
abbrev freshR (h : Bool) (p w r : Int) : encR.U := ⟨h, false, false, false, p, w, r, 0, 0, 0, 0, 0⟩
theorem cellR_one (u : encR.U) (j : Nat) (hj : j < 12) : one (encR.cell u j) = true :=
  one_ite (fun _ => rfl) (fun _ => one_ite (fun _ => rfl) (fun _ => one_ite (fun _ => rfl) (fun _ => one_ite (fun _ => rfl) (fun _ => one_ite (fun _ => rfl) (fun _ => one_ite (fun _ => rfl) (fun _ => one_ite (fun _ => rfl) (fun _ => one_ite (fun _ => rfl) (fun _ => one_ite (fun _ => rfl) (fun _ => one_ite (fun _ => rfl) (fun _ => one_ite (fun _ => rfl) (fun _ => one_ite (fun _ => rfl) (fun _ => by exact absurd hj (by omega)))))))))))))
theorem arrR_ok (u : encR.U) : (arrR u).toList.all one = true ∧ (arrR u).size = 12 := by
  refine ⟨List.all_eq_true.2 fun x hx => ?_, by simp [arrR]⟩
  simp only [arrR, List.mem_map, List.mem_range] at hx
  obtain ⟨j, hj, rfl⟩ := hx
  exact cellR_one u j hj
theorem encR.agg (s : SF) (z : Int) (h : 0 ≤ z ∧ z < 30) : 0 + 0 + z.toNat * 12 + 12 ≤ 361 ∧ aggOf (encR s) (0 + 0 + z.toNat * 12) 12 = .agg (arrR (encR.un s z)) := by
  refine ⟨by omega, ?_⟩
  unfold aggOf arrR
  congr 2
  apply List.map_congr_left
  intro j hj
  exact encR.at_ s z h j (by simpa using hj)
theorem cellR_out (u : encR.U) {i : Nat} (h : 12 ≤ i) : encR.cell u i = undef := by
  unfold encR.cell
  rw [if_neg (by omega), if_neg (by omega), if_neg (by omega), if_neg (by omega), if_neg (by omega), if_neg (by omega), if_neg (by omega), if_neg (by omega), if_neg (by omega), if_neg (by omega), if_neg (by omega), if_neg (by omega)]
theorem encR.c_put (u u' : encR.U) : 0 + 12 ≤ 12 ∧ updL (encR.cell u) 0 (arrR u').toList = encR.cell u' := by
  refine ⟨by omega, ?_⟩
  funext i
  by_cases h : i < 12
  · have := updL_at' (arrR u').toList (encR.cell u) 0 i (encR.cell u' i) (by simp [arrR, h])
    rwa [Nat.zero_add] at this
  · rw [updL_ge' _ _ _ _ (by simp [arrR]; omega), cellR_out _ (by omega), cellR_out _ (by omega)]
theorem encR.c_box (u : encR.U) : ∀ i, i < 12 → cellsOf (arrR u) i = encR.cell u i := fun i h => by simp [cellsOf, arrR, h]
theorem encR.c_here (s : SF) (z : Int) : 0 + 0 < 12 ∧ encR.cell (encR.un s z) (0 + 0) = .bool (s.here z) := ⟨by omega, rfl⟩
theorem encR.c_awake (s : SF) (z : Int) : 0 + 1 < 12 ∧ encR.cell (encR.un s z) (0 + 1) = .bool (s.awake z) := ⟨by omega, rfl⟩
theorem encR.c_frz (s : SF) (z : Int) : 0 + 2 < 12 ∧ encR.cell (encR.un s z) (0 + 2) = .bool (s.frz z) := ⟨by omega, rfl⟩
theorem encR.c_was (s : SF) (z : Int) : 0 + 3 < 12 ∧ encR.cell (encR.un s z) (0 + 3) = .bool (s.was z) := ⟨by omega, rfl⟩
theorem encR.c_par (s : SF) (z : Int) : 0 + 4 < 12 ∧ encR.cell (encR.un s z) (0 + 4) = .int .i64 (s.par z) := ⟨by omega, rfl⟩
theorem encR.c_wt (s : SF) (z : Int) : 0 + 5 < 12 ∧ encR.cell (encR.un s z) (0 + 5) = .int .i64 (s.wt z) := ⟨by omega, rfl⟩
theorem encR.c_ran (s : SF) (z : Int) : 0 + 6 < 12 ∧ encR.cell (encR.un s z) (0 + 6) = .int .i64 (s.ran z) := ⟨by omega, rfl⟩
theorem encR.c_v (s : SF) (z : Int) : 0 + 7 < 12 ∧ encR.cell (encR.un s z) (0 + 7) = .int .i64 (s.v z) := ⟨by omega, rfl⟩
theorem encR.c_floor (s : SF) (z : Int) : 0 + 8 < 12 ∧ encR.cell (encR.un s z) (0 + 8) = .int .i64 (s.floor z) := ⟨by omega, rfl⟩
theorem encR.c_quota (s : SF) (z : Int) : 0 + 9 < 12 ∧ encR.cell (encR.un s z) (0 + 9) = .int .i64 (s.quota z) := ⟨by omega, rfl⟩
theorem encR.c_period (s : SF) (z : Int) : 0 + 10 < 12 ∧ encR.cell (encR.un s z) (0 + 10) = .int .i64 (s.period z) := ⟨by omega, rfl⟩
theorem encR.c_used (s : SF) (z : Int) : 0 + 11 < 12 ∧ encR.cell (encR.un s z) (0 + 11) = .int .i64 (s.used z) := ⟨by omega, rfl⟩
theorem encR_new (s : SF) (z p w : Int) (h : Bool) (hz : 0 ≤ z ∧ z < 30) : 0 + 0 + z.toNat * 12 + 12 ≤ 361 ∧ updL (encR s) (0 + 0 + z.toNat * 12) (arrR (freshR h p w 0)).toList = encR (s.newU z p w h) :=
  encR.setL s (s.newU z p w h) z hz _ (by simp [arrR]) (fun j hj => by
    have e : encR.un (s.newU z p w h) z = freshR h p w 0 := by
      unfold encR.un SF.newU
      simp only [fset_eq]
    rw [e]
    simp [arrR, hj]) (fun y hy => by
    unfold encR.un SF.newU
    simp only [fset_ne _ _ hy]) rfl
def SF.newM (s : SF) (z p w r : Int) : SF := { s.newU z p w true with ran := fset s.ran z r }
theorem encR_newM (s : SF) (z p w r : Int) (hz : 0 ≤ z ∧ z < 30) : 0 + 0 + z.toNat * 12 + 12 ≤ 361 ∧ updL (encR s) (0 + 0 + z.toNat * 12) (arrR (freshR true p w r)).toList = encR (s.newM z p w r) :=
  encR.setL s (s.newM z p w r) z hz _ (by simp [arrR]) (fun j hj => by
    have e : encR.un (s.newM z p w r) z = freshR true p w r := by
      unfold encR.un SF.newM SF.newU
      simp only [fset_eq]
    rw [e]
    simp [arrR, hj]) (fun y hy => by
    unfold encR.un SF.newM SF.newU
    simp only [fset_ne _ _ hy]) rfl
def arrRS : Array Value := ((List.range 361).map (encR SF.void)).toArray
theorem arrRS_size : arrRS.size = 361 := by simp [arrRS]
theorem arrRS_box : ∀ i, i < 361 → cellsOf arrRS i = encR SF.void i := fun i hi => by simp [cellsOf, arrRS, hi]
theorem XM.famVoid {W w : World} {S : Nat → Nat → Prop} {H : List Ent} (e : TypeId) (h : XM W S H w) : XM W S (.fam fam30 (SC.void.rows e) :: H) w := by
  have hr : w.ownsRow 0 e 2 (.slice none 0 0) 0 [] := (h.nilRow e 2).good.1 (.row (.slice none 0 0) e 2 0 []) (by simp)
  refine ⟨⟨fun x hx => ?_, List.pairwise_cons.2 ⟨fun x hx _ b o h1 h2 => ?_, h.good.2⟩⟩, h.keep, fun x hx hw b o hb => ?_⟩
  · rcases List.mem_cons.1 hx with rfl | hx
    · exact ⟨fun i _ => hr, fun i j b _ _ _ h1 _ => by cases h1⟩
    · exact h.good.1 x hx
  · obtain ⟨i, _, hb⟩ := h1; cases hb
  · rcases List.mem_cons.1 hx with rfl | hx
    · obtain ⟨i, _, hb⟩ := hb; cases hb
    · exact h.mine x hx hw b o hb
/-- tasks have nothing of groups -/
def SF.Tk (s : SF) : Prop := ∀ n, 10 ≤ n → n < 30 → s.floor n = 0 ∧ s.frz n = false ∧ s.quota n = 0 ∧ s.period n = 0 ∧ s.used n = 0
namespace SF
theorem wake_off {s : SF} {d : Int → Nat} (hI : s.Inv d) {n : Int} (i1 : 0 ≤ n) (i2 : n < 20) (i3 : s.here (10 + n) = true) :
    (s.wake d n false).Inv d ∧ (s.wake d n false).was (10 + n) = false ∧ (s.wake d n false).here = s.here ∧ (s.wake d n false).par = s.par ∧ (s.wake d n false).wt = s.wt ∧ (s.wake d n false).ran = s.ran ∧ (s.wake d n false).floor = s.floor ∧ (s.wake d n false).frz = s.frz ∧ (s.wake d n false).quota = s.quota ∧ (s.wake d n false).period = s.period ∧ (s.wake d n false).used = s.used ∧ (s.wake d n false).now = s.now ∧ (s.wake d n false).awake = fset s.awake (10 + n) false := by
  have e : s.wake d n false = look d { s with awake := fset s.awake (10 + n) false } (10 + n) := by unfold wake; rw [if_pos (tkE_of i1 i2 i3)]
  have hA : SF.Inv { s with awake := fset s.awake (10 + n) false } d := ⟨hI.h0, hI.up, hI.was, hI.quo, hI.wt⟩
  obtain ⟨a1, a2, a3, a4, a5, a6, a7, a8, a9, a10, a11⟩ := lookF_keeps (d (10 + n) + 1) { s with awake := fset s.awake (10 + n) false } (10 + n)
  rw [e]
  refine ⟨look_inv hA (.inr ⟨by omega, by omega, i3⟩), ?_, a1, a2, a3, a4, a6, a7, a8, a9, a10, a11, a5⟩
  rw [look_at hA (by omega) (by omega) i3]
  unfold ready
  rw [if_pos (by omega)]
  exact fset_eq _ _ _
theorem newM_inv {s : SF} {d : Int → Nat} (h : s.Inv d) {n g w : Int} (hn : 10 ≤ 10 + n ∧ 10 + n < 30) (hg : 0 ≤ g ∧ g < 10 ∧ s.here g = true) (hh : s.here (10 + n) = true) (hw : s.was (10 + n) = false) (hwt : 1 ≤ w) (r : Int) : (s.newM (10 + n) g w r).Inv (fset d (10 + n) (d g + 1)) := by
  have e1 : (s.newM (10 + n) g w r).here = s.here := by show fset s.here (10 + n) true = s.here; exact fset_same _ hh
  refine ⟨by rw [e1]; exact h.h0, fun i i0 i1 i2 => ?_, fun i hi => ?_, fun i i0 i1 => ?_, fun i i0 i1 i2 => ?_⟩
  · rw [e1] at i2 ⊢
    show 0 ≤ fset s.par (10 + n) g i ∧ fset s.par (10 + n) g i < 10 ∧ s.here (fset s.par (10 + n) g i) = true ∧ fset d (10 + n) (d g + 1) (fset s.par (10 + n) g i) < fset d (10 + n) (d g + 1) i
    by_cases c : i = 10 + n
    · subst c
      rw [fset_eq, fset_eq, fset_ne _ _ (by omega)]
      exact ⟨hg.1, hg.2.1, hg.2.2, by omega⟩
    · obtain ⟨p0, p1, p2, p3⟩ := h.up i i0 i1 i2
      rw [fset_ne _ _ c, fset_ne _ _ c, fset_ne _ _ (by omega)]
      exact ⟨p0, p1, p2, p3⟩
  · rw [e1]
    have hi2 : fset s.was (10 + n) false i = true := hi
    by_cases c : i = 10 + n
    · subst c; rw [fset_eq] at hi2; cases hi2
    · rw [fset_ne _ _ c] at hi2; exact h.was i hi2
  · show 0 ≤ fset s.quota (10 + n) 0 i ∧ (0 < fset s.quota (10 + n) 0 i → 1 ≤ fset s.period (10 + n) 0 i)
    by_cases c : i = 10 + n
    · subst c; rw [fset_eq]; omega
    · rw [fset_ne _ _ c, fset_ne _ _ c]; exact h.quo i i0 i1
  · rw [e1] at i2
    show 1 ≤ fset s.wt (10 + n) w i
    by_cases c : i = 10 + n
    · subst c; rw [fset_eq]; exact hwt
    · rw [fset_ne _ _ c]; exact h.wt i i0 i1 i2
theorem bestN_step (s : SF) (g : Int) {i : Int} (h0 : 0 < i) (h1 : i ≤ 29) : bestN s g (29 - (i - 1)).toNat = if s.was i = true ∧ s.par i = g ∧ (bestN s g (29 - i).toNat < 0 ∨ s.v i ≤ s.v (bestN s g (29 - i).toNat)) then i else bestN s g (29 - i).toNat := by
  rw [show (29 - (i - 1)).toNat = (29 - i).toNat + 1 from by omega]
  show (if s.was (29 - (((29 - i).toNat : Nat) : Int)) = true ∧ s.par (29 - (((29 - i).toNat : Nat) : Int)) = g ∧ (bestN s g (29 - i).toNat < 0 ∨ s.v (29 - (((29 - i).toNat : Nat) : Int)) ≤ s.v (bestN s g (29 - i).toNat)) then 29 - (((29 - i).toNat : Nat) : Int) else bestN s g (29 - i).toNat) = _
  rw [show 29 - (((29 - i).toNat : Nat) : Int) = i from by omega]
theorem bestN_yes {s : SF} {g i : Int} (h0 : 0 < i) (h1 : i ≤ 29) (h : s.was i = true) (h2 : s.par i = g) (h3 : bestN s g (29 - i).toNat < 0 ∨ s.v i ≤ s.v (bestN s g (29 - i).toNat)) : i = bestN s g (29 - (i - 1)).toNat := by
  rw [bestN_step s g h0 h1, if_pos ⟨h, h2, h3⟩]
theorem bestN_not {s : SF} {g i : Int} (h0 : 0 < i) (h1 : i ≤ 29) (h : s.was i = true → s.par i = g → ¬ bestN s g (29 - i).toNat < 0 ∧ ¬ s.v i ≤ s.v (bestN s g (29 - i).toNat)) : bestN s g (29 - i).toNat = bestN s g (29 - (i - 1)).toNat := by
  rw [bestN_step s g h0 h1, if_neg]
  rintro ⟨a, b, c⟩
  have := h a b
  omega
theorem i64_le {a : Int} (h0 : 0 ≤ a) (h1 : a ≤ 9000000000000000000) : IntKind.i64.wrap a = a := IntWalk.i64_in _ (by omega)
theorem wake_eq {s : SF} {n : Int} (h : s.tkE n = 0) (d : Int → Nat) (on : Bool) : s.wake d n on = look d { s with awake := fset s.awake (10 + n) on } (10 + n) := by unfold wake; rw [if_pos h]
theorem move_same {s : SF} {d : Int → Nat} (hI : s.Inv d) (hT : s.Tk) {n : Int} (i1 : 0 ≤ n) (i2 : n < 20) (i3 : s.here (10 + n) = true) {g : Int} :
    ((s.wake d n false).newM (10 + n) g (s.wt (10 + n)) (s.ran (10 + n))).tkE n = 0 ∧ ((s.wake d n false).newM (10 + n) g (s.wt (10 + n)) (s.ran (10 + n))).wake (fset d (10 + n) (d g + 1)) n (s.awake (10 + n)) = look (fset d (10 + n) (d g + 1)) (mv1 d s n g) (10 + n) := by
  have e0 : ((s.wake d n false).newM (10 + n) g (s.wt (10 + n)) (s.ran (10 + n))).tkE n = 0 := tkE_of i1 i2 (fset_eq _ _ _)
  refine ⟨e0, ?_⟩
  rw [wake_eq e0]
  refine congrArg (fun x => look (fset d (10 + n) (d g + 1)) x (10 + n)) ?_
  obtain ⟨_, w2, w3, _, w5, w6, w7, w8, w9, w10, w11, _, _⟩ := wake_off hI i1 i2 i3
  obtain ⟨t1, t2, t3, t4, t5⟩ := hT (10 + n) (by omega) (by omega)
  unfold mv1 newM newU
  have a1 : fset (s.wake d n false).here (10 + n) true = (s.wake d n false).here := fset_same _ (by rw [w3]; exact i3)
  have a2 : fset (s.wake d n false).wt (10 + n) (s.wt (10 + n)) = (s.wake d n false).wt := fset_same _ (by rw [w5])
  have a3 : fset (s.wake d n false).ran (10 + n) (s.ran (10 + n)) = (s.wake d n false).ran := fset_same _ (by rw [w6])
  have a4 : fset (s.wake d n false).floor (10 + n) 0 = (s.wake d n false).floor := fset_same _ (by rw [w7]; exact t1)
  have a5 : fset (s.wake d n false).frz (10 + n) false = (s.wake d n false).frz := fset_same _ (by rw [w8]; exact t2)
  have a6 : fset (s.wake d n false).quota (10 + n) 0 = (s.wake d n false).quota := fset_same _ (by rw [w9]; exact t3)
  have a7 : fset (s.wake d n false).period (10 + n) 0 = (s.wake d n false).period := fset_same _ (by rw [w10]; exact t4)
  have a8 : fset (s.wake d n false).used (10 + n) 0 = (s.wake d n false).used := fset_same _ (by rw [w11]; exact t5)
  have a9 : fset (s.wake d n false).was (10 + n) false = (s.wake d n false).was := fset_same _ w2
  have a10 : fset (fset (s.wake d n false).awake (10 + n) false) (10 + n) (s.awake (10 + n)) = fset (s.wake d n false).awake (10 + n) (s.awake (10 + n)) := by
    funext i
    by_cases c : i = 10 + n
    · subst c; rw [fset_eq, fset_eq]
    · rw [fset_ne _ _ c, fset_ne _ _ c, fset_ne _ _ c]
  show SF.mk (fset (s.wake d n false).here (10 + n) true) (fset (s.wake d n false).par (10 + n) g) (fset (s.wake d n false).wt (10 + n) (s.wt (10 + n))) (fset (s.wake d n false).v (10 + n) 0) (fset (s.wake d n false).ran (10 + n) (s.ran (10 + n))) (fset (fset (s.wake d n false).awake (10 + n) false) (10 + n) (s.awake (10 + n))) (fset (s.wake d n false).floor (10 + n) 0) (fset (s.wake d n false).frz (10 + n) false) (fset (s.wake d n false).quota (10 + n) 0) (fset (s.wake d n false).period (10 + n) 0) (fset (s.wake d n false).used (10 + n) 0) (s.wake d n false).now (fset (s.wake d n false).was (10 + n) false) = _
  rw [a1, a2, a3, a4, a5, a6, a7, a8, a9, a10]
end SF

end Go.X
