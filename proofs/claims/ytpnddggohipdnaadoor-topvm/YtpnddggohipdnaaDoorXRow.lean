import Derived.Test.YtpnddggohipdnaaDoorXLay
import Derived.Laws.AppendOwn
namespace Go.X
open Go

/-! ### slices that the code itself has built: rows -/
def rowT (P : Program) (e : TypeId) (sz : Nat) : Bool := match P.info? e with
  | some i => Nat.beq i.size sz && Nat.ble i.bytes 1000 && Nat.blt 0 sz && (match i.zero with
    | some z => Nat.beq z.cells.size sz
    | none => false)
  | none => false
theorem rowT_spec {P : Program} {e : TypeId} {sz : Nat} (h : rowT P e sz = true) : ∃ i z, P.info? e = some i ∧ i.zero = some z ∧ i.size = sz ∧ i.bytes ≤ 1000 ∧ z.cells.size = sz ∧ 0 < sz := by
  unfold rowT at h
  cases hi : P.info? e with
  | none => simp [hi] at h
  | some i =>
    simp only [hi] at h
    cases hz : i.zero with
    | none => simp [hz] at h
    | some z =>
      simp only [hz, Bool.and_eq_true, Nat.beq_eq] at h
      obtain ⟨⟨⟨h1, h2⟩, h3⟩, h4⟩ := h
      exact ⟨i, z, rfl, hz, h1, Nat.le_of_ble_eq_true h2, h4, by simpa using h3⟩

def newsOf (C : Nat → Value) (m : Nat) : List Value := (List.range m).map C

/-- an empty row is always there -/
theorem XM.nilRow {W w : World} {S : Nat → Nat → Prop} {H : List Ent} (h : XM W S H w) (e : TypeId) (sz : Nat) : XM W S (.row (.slice none 0 0) e sz 0 [] :: H) w :=
  h.fresh (fun b o hb => by simp [Ent.area, Value.ownBlock] at hb) (Keep.refl _ _) (World.ownsRow_nil w 0 e sz)

theorem keep_alloc (w : World) (o : Obj) (S : Nat → Nat → Prop) : Keep w (w.alloc o) S :=
  ⟨rfl, rfl, rfl, by simp, fun b hb _ => heap_alloc_old w _ hb, fun b A' t' fz hA => ⟨A', by rw [heap_alloc_old w _ (lt_of_heap hA)]; exact hA, rfl, fun _ _ => rfl⟩⟩
theorem keep_drew {w w' : World} {S : Nat → Nat → Prop} (h : Keep w.drew w' S) : Keep w w' S := ⟨h.os, h.tape, h.output, h.size, h.same, h.part⟩
theorem keep_setRow {w : World} {g : Nat} {old cs : Array Value} {t : TypeId} {fz : Nat × Nat} (hg : w.heap[g]? = some (.cells old t fz)) (hs : cs.size = old.size) {S : Nat → Nat → Prop} (hS : ∀ o, S g o) : Keep w (w.setRow g cs) S := by
  refine ⟨rfl, rfl, rfl, by simp, fun k hk hn => setRow_other w g k _ (fun e => hn 0 (e ▸ hS 0)), fun k A' t' fz' hA => ?_⟩
  by_cases hk : k = g
  · subst hk
    rw [hg] at hA
    simp only [Option.some.injEq, Obj.cells.injEq] at hA
    obtain ⟨rfl, rfl, rfl⟩ := hA
    exact ⟨cs, setRow_heap w k old cs _ _ hg, hs, fun o ho => absurd (hS o) ho⟩
  · exact ⟨A', by rw [setRow_other w g k _ hk]; exact hA, rfl, fun _ _ => rfl⟩

theorem run_append_row {P : Program} {w : World} {t ty e : TypeId} {p : Option Addr} {k cap m c sz b : Nat} {xs news : List Value} (ht : P.underlying t = some (.slice e)) (hr : rowT P e sz = true)
    (hrow : (Ent.row (.slice p k cap) e sz k xs).holds w) (hm : 0 < m) (hl : news.length = m * sz) (hnews : ∀ j u, news[j]? = some u → w.cell? ((⟨b, 0, none⟩ : Addr).add j) = some u) (h1 : ∀ u ∈ news, u.oneCell' = true) (hk : k + m ≤ 100000000000) :
    ∃ p' cap' w', (Builtin.append_ #[t, t] ty #[.slice p k cap, .slice (some ⟨b, 0, none⟩) m c]).run P w = .ok (.slice p' (k + m) cap') w' ∧ (Ent.row (.slice p' (k + m) cap') e sz (k + m) (xs ++ news)).holds w' ∧
      Keep w w' (fun b o => (Ent.row (.slice p k cap) e sz k xs).area b o) ∧ (∀ b o, (Ent.row (.slice p' (k + m) cap') e sz (k + m) (xs ++ news)).area b o → (Ent.row (.slice p k cap) e sz k xs).area b o ∨ w.heap.size ≤ b) := by
  obtain ⟨i, z, hi, hz, hsize, hby, hzs, hsz⟩ := rowT_spec hr
  subst hsize
  have hmax : k + m ≤ maxLen := by simp only [maxLen]; omega
  have hlen : (xs ++ news).length = (k + m) * i.size := by rw [List.length_append, hrow.1, hl, Nat.add_mul]
  have hbytes : (k + m) * i.bytes ≤ 140737488355328 := Nat.le_trans (Nat.mul_le_mul hk hby) (by omega)
  have grown : ∀ (old : Nat), 
      (Ent.row (.slice (some ⟨w.heap.size, 0, none⟩) (k + m) (grownCap w (k + m) old e)) e i.size (k + m) (xs ++ news)).holds (w.drew.alloc (.cells (xs.toArray ++ news.toArray ++ Builtin.zeroCells z.cells (grownCap w (k + m) old e - (k + m))) e)) := by
    intro old
    have hge := grownCap_ge w (k + m) old e
    have hcm : grownCap w (k + m) old e ≤ maxLen := grownCap_le_maxLen w (k + m) old e hmax
    refine ⟨hlen, .inr ⟨w.heap.size, _, _, rfl, Nat.zero_le _, heap_alloc_new w.drew _, hge, hcm, ?_, ?_⟩⟩
    · simp only [Array.size_append, List.size_toArray, size_zeroCells, hzs, hrow.1, hl, ← Nat.add_mul]
      congr 1
      omega
    · simp only [Array.toList_append, List.append_assoc]
      rw [← List.append_assoc, ← hlen]
      exact List.take_left
  have gkeep : ∀ (o : Obj) S, Keep w (w.drew.alloc o) S := fun o S => keep_drew (keep_alloc w.drew o S)
  have hself := hrow
  rcases hrow.2 with ⟨hv, rfl⟩ | ⟨g, cap2, cur, hv, _, hg, hnc, hcm, hcs, htake⟩
  · simp only [Value.slice.injEq] at hv
    obtain ⟨rfl, _, rfl⟩ := hv
    have hx : xs = [] := List.eq_nil_of_length_eq_zero (by simpa using hrow.1)
    subst hx
    have hr := run_append_nil (P := P) w t ty e i z ht hi hz ⟨b, 0, none⟩ m c news hl hnews hm (by simp only [maxLen] at hmax; omega) (by simp only [Nat.zero_add] at hbytes; omega)
    have hgr := grown 0
    simp only [Nat.zero_add, List.nil_append, Array.empty_append] at hgr ⊢
    exact ⟨_, _, _, hr, hgr, gkeep _ _, fun b' o hb => .inr (by simp only [Ent.area, Value.ownBlock, Option.some.injEq] at hb; omega)⟩
  · simp only [Value.slice.injEq, true_and] at hv
    obtain ⟨rfl, rfl⟩ := hv
    by_cases hroom : k + m ≤ cap
    · have hfit : k * i.size + news.length ≤ cur.size := by rw [hl, hcs, ← Nat.add_mul]; exact Nat.mul_le_mul_right _ hroom
      have hr := run_append_room (P := P) w t ty e i ht hi g k cap cur hg ⟨b, 0, none⟩ m c news hl hnews h1 hroom hfit
      have hsz2 : (cur.toList.take (k * i.size) ++ news ++ cur.toList.drop (k * i.size + news.length)).toArray.size = cur.size := by
        simp only [List.size_toArray, List.length_append, List.length_take, List.length_drop, Array.length_toList]
        omega
      refine ⟨_, _, _, hr, ⟨hlen, .inr ⟨g, cap, _, rfl, Nat.zero_le _, setRow_heap w g cur _ e _ hg, hroom, hcm, hsz2.trans hcs, ?_⟩⟩, keep_setRow hg hsz2 (fun _ => rfl), fun b' o hb => .inl hb⟩
      rw [htake, ← hlen]
      exact List.take_left
    · have holds : ∀ j u, xs[j]? = some u → w.cell? ((⟨g, 0, none⟩ : Addr).add j) = some u := World.ownsRow.cells hself (g := g) rfl
      have hr := run_append_grow (P := P) w t ty e i z ht hi hz ⟨g, 0, none⟩ k cap xs hself.1 holds ⟨b, 0, none⟩ m c news hl hnews (by omega) (by simp only [maxLen] at hmax; omega) (growslice_fits (by omega) hbytes)
      exact ⟨_, _, _, hr, grown cap, gkeep _ _, fun b' o hb => .inr (by simp only [Ent.area, Value.ownBlock, Option.some.injEq] at hb; omega)⟩

section
variable {P : Program} {n : Fr} {Q : Exit → Act → World → Prop} {L : PF} {ops : Md} {rest : List Oper} {ty : TypeId} {pos : String} {af : Array Edge} {d : Nat}
variable {W : World} {S : Nat → Nat → Prop} {H H' : List Ent}
theorem mapM_parts {a : Act} (ha : Sat n L a) : ∀ (l : List (Nat × Operand)) (us : List (Nat × Value)), l.mapM (fun x => (ev L x.2).map fun u => (x.1, u)) = some us → l.map (fun x => (x.1, a.eval x.2)) = us
  | [], us, h => by simp at h; subst h; rfl
  | x :: r, us, h => by
    simp only [List.mapM_cons, Option.bind_eq_bind] at h
    cases he : ev L x.2 with
    | none => simp [he] at h
    | some u =>
      simp only [he, Option.map_some, Option.bind_some] at h
      cases hr : r.mapM (fun x => (ev L x.2).map fun u => (x.1, u)) with
      | none => simp [hr] at h
      | some us' =>
        simp [hr] at h
        subst h
        simp only [List.map_cons]
        rw [mapM_parts ha r us' hr, ev_eval ha he]
theorem XO.buildSlice {t e : TypeId} {parts : Array (Nat × Operand)} {vs : Array (Nat × Value)} {k m : Nat} {A : Array Value} (hp : parts.toList.mapM (fun x => (ev L x.2).map fun u => (x.1, u)) = some vs.toList)
    (hb : ∀ w, (Instr.buildSlice t k vs).run P w = .ok (.slice (some ⟨w.heap.size, 0, none⟩) k k) (w.alloc (.cells A e))) (hA : A.size = m) (hd : Nat.blt d n.sz = true)
    (h : ∀ b, XO P n ops Q rest ((d, .slice (some ⟨b, 0, none⟩) k k) :: L) (XM W S (.cells b 0 m (cellsOf A) :: H))) : XO P n ops Q (⟨some d, .buildSlice t k parts, ty, pos, af, none⟩ :: rest) L (XM W S H) :=
  XO.op rfl fun a w ha hw => by
    have hx' := hw.alloc A e (cellsOf A) (fun i hi => cellsOf_spec _ _ hi)
    rw [hA] at hx'
    unfold Oper.wp
    have hv : parts.map (fun (i, x) => (i, a.eval x)) = vs := by
      apply Array.toList_inj.1
      rw [Array.toList_map]
      exact mapM_parts ha _ _ hp
    have : (execOp a.eval ⟨some d, .buildSlice t k parts, ty, pos, af, none⟩).run P w = .ok (.value (.slice (some ⟨w.heap.size, 0, none⟩) k k)) (w.alloc (.cells A e)) := by
      simp only [execOp, hv, Sem.run_bind, hb, Result.andThen_ok, Sem.run_pure]
    rw [this]
    exact h _ _ _ (ha.put hd _) hx'
theorem XO.append {t e : TypeId} {x y : Operand} {p : Option Addr} {k cap m c sz b N : Nat} {xs : List Value} {C : Nat → Value} (hx : ev L x = some (.slice p k cap)) (hy : ev L y = some (.slice (some ⟨b, 0, none⟩) m c))
    (ht : P.underlying t = some (.slice e)) (hr : rowT P e sz = true) (hH : Del H (.row (.slice p k cap) e sz k xs) H') (hN : Has H (.cells b 0 N C)) (hNm : N = m * sz) (h1 : (newsOf C N).all one = true) (hm : 0 < m) (hk : k + m ≤ 100000000000) (hd : Nat.blt d n.sz = true)
    (h : ∀ p' cap', XO P n ops Q rest ((d, .slice p' (k + m) cap') :: L) (XM W S (.row (.slice p' (k + m) cap') e sz (k + m) (xs ++ newsOf C N) :: H'))) :
    XO P n ops Q (⟨some d, .call ⟨.builtin .append, #[x, y], #[t, t]⟩, ty, pos, af, none⟩ :: rest) L (XM W S H) :=
  XO.op rfl fun a w ha hw => by
    have hc : (Ent.cells b 0 N C).holds w := hw.good.1 _ hN.mem
    have hrow : (Ent.row (.slice p k cap) e sz k xs).holds w := hw.good.1 _ (hH.perm.mem_iff.2 (by simp))
    obtain ⟨p', cap', w', h3, h4, h5, h6⟩ := run_append_row (ty := ty) (c := c) (b := b) (news := newsOf C N) ht hr hrow hm (by simp [newsOf, hNm]) (fun j u hj => by
        simp only [newsOf, List.getElem?_map, Option.map_eq_some_iff] at hj
        obtain ⟨j', hj1, rfl⟩ := hj
        have hj2 : j < N := by
          have := (List.getElem?_eq_some_iff.1 hj1).1
          simpa using this
        have hj3 : j' = j := by
          have := (List.getElem?_eq_some_iff.1 hj1).2
          simpa using this.symm
        subst hj3
        have hcc := cell_of_holds hc hj2
        have e0 : (⟨b, 0, none⟩ : Addr).add j' = ⟨b, 0 + j', none⟩ := by
          cases j' <;> simp [Addr.add]
        rw [e0]; exact hcc) (fun u hu => oneCell_of (List.all_eq_true.1 h1 u hu)) hk
    have hx2 := hw.write hH rfl h6 h5 h4
    unfold Oper.wp
    have : (execOp a.eval ⟨some d, .call ⟨.builtin .append, #[x, y], #[t, t]⟩, ty, pos, af, none⟩).run P w = .ok (.value (.slice p' (k + m) cap')) w' := by
      simp [execOp, resolve, invoke, builtin, ev_eval ha hx, ev_eval ha hy, h3]
    rw [this]
    exact h _ _ _ _ (ha.put hd _) hx2
/-- a row that is not empty lies in memory -/
theorem XO.openRow {p : Option Addr} {k cap sz : Nat} {e : TypeId} {xs : List Value} {rest : List Oper} (hH : Has H (.row (.slice p k cap) e sz k xs)) (hk : 0 < k)
    (h : ∀ g, p = some ⟨g, 0, none⟩ → XO P n ops Q rest L (XM W S H)) : XO P n ops Q rest L (XM W S H) := by
  intro a w ha hw
  have hrow : (Ent.row (.slice p k cap) e sz k xs).holds w := hw.good.1 _ hH.mem
  rcases hrow.2 with ⟨hv, rfl⟩ | ⟨g, _, _, hv, _⟩
  · omega
  · simp only [Value.slice.injEq] at hv
    exact h g hv.1 a w ha hw
theorem XC.openRow {p : Option Addr} {k cap sz : Nat} {e : TypeId} {xs : List Value} {c : Code} (hH : Has H (.row (.slice p k cap) e sz k xs)) (hk : 0 < k)
    (h : ∀ g, p = some ⟨g, 0, none⟩ → XC P n c Q L (XM W S H)) : XC P n c Q L (XM W S H) := by
  intro a w ha hw
  have hrow : (Ent.row (.slice p k cap) e sz k xs).holds w := hw.good.1 _ hH.mem
  rcases hrow.2 with ⟨hv, rfl⟩ | ⟨g, _, _, hv, _⟩
  · omega
  · simp only [Value.slice.injEq] at hv
    exact h g hv.1 a w ha hw
theorem XC.nilRow {c : Code} (e : TypeId) (sz : Nat) (h : XC P n c Q L (XM W S (.row (.slice none 0 0) e sz 0 [] :: H))) : XC P n c Q L (XM W S H) :=
  fun a w ha hw => h a w ha (hw.nilRow e sz)
theorem XO.nilRow {rest : List Oper} (e : TypeId) (sz : Nat) (h : XO P n ops Q rest L (XM W S (.row (.slice none 0 0) e sz 0 [] :: H))) : XO P n ops Q rest L (XM W S H) :=
  fun a w ha hw => h a w ha (hw.nilRow e sz)
theorem XO.buildRow {t e : TypeId} {parts : Array (Nat × Operand)} {vs : Array (Nat × Value)} {k sz : Nat} {A : Array Value} (hp : parts.toList.mapM (fun x => (ev L x.2).map fun u => (x.1, u)) = some vs.toList)
    (hb : ∀ w, (Instr.buildSlice t k vs).run P w = .ok (.slice (some ⟨w.heap.size, 0, none⟩) k k) (w.alloc (.cells A e))) (hA : A.size = k * sz) (hk : k ≤ 1000000) (hd : Nat.blt d n.sz = true)
    (h : ∀ b, XO P n ops Q rest ((d, .slice (some ⟨b, 0, none⟩) k k) :: L) (XM W S (.row (.slice (some ⟨b, 0, none⟩) k k) e sz k A.toList :: H))) : XO P n ops Q (⟨some d, .buildSlice t k parts, ty, pos, af, none⟩ :: rest) L (XM W S H) :=
  XO.op rfl fun a w ha hw => by
    have hx' : XM W S (.row (.slice (some ⟨w.heap.size, 0, none⟩) k k) e sz k A.toList :: H) (w.alloc (.cells A e)) := by
      refine hw.fresh (fun b o hb => by simp only [Ent.area, Value.ownBlock, Option.some.injEq] at hb; omega) (keep_alloc w _ _) ⟨by simp [hA], .inr ⟨w.heap.size, k, A, rfl, Nat.zero_le _, heap_alloc_new w _, Nat.le_refl _, by simp only [maxLen]; omega, hA, ?_⟩⟩
      rw [← hA, ← Array.length_toList, List.take_length]
    unfold Oper.wp
    have hv : parts.map (fun (i, x) => (i, a.eval x)) = vs := by
      apply Array.toList_inj.1
      rw [Array.toList_map]
      exact mapM_parts ha _ _ hp
    have : (execOp a.eval ⟨some d, .buildSlice t k parts, ty, pos, af, none⟩).run P w = .ok (.value (.slice (some ⟨w.heap.size, 0, none⟩) k k)) (w.alloc (.cells A e)) := by
      simp only [execOp, hv, Sem.run_bind, hb, Result.andThen_ok, Sem.run_pure]
    rw [this]
    exact h _ _ _ (ha.put hd _) hx'
theorem cell_of_row {w : World} {g k cap sz j : Nat} {e : TypeId} {xs : List Value} {v : Value} (h : (Ent.row (.slice (some ⟨g, 0, none⟩) k cap) e sz k xs).holds w) (hj : xs[j]? = some v) : w.cell? ⟨g, 0 + j, none⟩ = some v := by
  have := World.ownsRow.cells h (g := g) rfl j v hj
  have e0 : (⟨g, 0, none⟩ : Addr).add j = ⟨g, 0 + j, none⟩ := by cases j <;> simp [Addr.add]
  rw [e0] at this; exact this
theorem V.loadRow {t : TypeId} {x : Operand} {g i k cap sz : Nat} {e : TypeId} {xs : List Value} {v : Value} {φ : World → Prop} {gd : Option (Nat × Bool)} (hx : ev L x = some (ptr g 0 i)) (hH : ∀ w, φ w → (Ent.row (.slice (some ⟨g, 0, none⟩) k cap) e sz k xs).holds w) (hv : xs[i]? = some v) (ht : scal P t = true) :
    RunsTo P n L φ (⟨some d, .load t x, ty, pos, af, gd⟩) v := fun a w ha hw => by
  have hc : w.cell? ⟨g, i, none⟩ = some v := by
    have := cell_of_row (hH w hw) hv
    rwa [Nat.zero_add] at this
  simp [execOp, ev_eval ha hx, Instr.loadAt, Instr.sureAddr, ptr, run_loadVar_scal ht hc]
end
def ints (zs : List Int) : List Value := zs.map (Value.int .i64)
def at0 (zs : List Int) (z : Int) : Int := zs.getD z.toNat 0
theorem ints_at {zs : List Int} {z : Int} (h : 0 ≤ z ∧ z < zs.length) : (ints zs)[0 + z.toNat * 1]? = some (.int .i64 (at0 zs z)) := by
  have h2 : z.toNat < zs.length := by omega
  simp [ints, at0, List.getD, h2]
theorem ints_eq {zs ws : List Int} (hl : zs.length = ws.length) (h : ∀ z : Int, 0 ≤ z → z < zs.length → at0 zs z = at0 ws z) : zs = ws := by
  apply List.ext_getElem hl
  intro i h1 h2
  have := h i (by omega) (by omega)
  simpa [at0, List.getD, h1, h2] using this
abbrev irow (p : Option Addr) (cap : Nat) (e : TypeId) (zs : List Int) : Ent := .row (.slice p zs.length cap) e 1 zs.length (ints zs)
theorem ints_append (zs : List Int) (z : Int) : ints zs ++ [.int .i64 z] = ints (zs ++ [z]) := by simp [ints]
section
variable {P : Program} {n : Fr} {Q : Exit → Act → World → Prop} {L : PF} {ops : Md} {rest : List Oper} {ty : TypeId} {pos : String} {af : Array Edge} {d : Nat}
variable {W : World} {S : Nat → Nat → Prop} {H H' : List Ent}
theorem XO.appendI {t e : TypeId} {x y : Operand} {p : Option Addr} {cap c b : Nat} {zs : List Int} {z : Int} (hx : ev L x = some (.slice p zs.length cap)) (hy : ev L y = some (.slice (some ⟨b, 0, none⟩) 1 c))
    (ht : P.underlying t = some (.slice e)) (hr : rowT P e 1 = true) (hH : Del H (irow p cap e zs) H') (hN : Has H (.cells b 0 1 (cellsOf #[.int .i64 z]))) (hk : zs.length + 1 ≤ 100000000000) (hd : Nat.blt d n.sz = true)
    (h : ∀ p' cap', XO P n ops Q rest ((d, .slice p' (zs ++ [z]).length cap') :: L) (XM W S (irow p' cap' e (zs ++ [z]) :: H'))) :
    XO P n ops Q (⟨some d, .call ⟨.builtin .append, #[x, y], #[t, t]⟩, ty, pos, af, none⟩ :: rest) L (XM W S H) :=
  XO.append hx hy ht hr hH hN rfl rfl (by omega) hk hd (fun p' cap' => by
    have e1 : zs.length + 1 = (zs ++ [z]).length := by simp
    have e2 : ints zs ++ newsOf (cellsOf #[.int .i64 z]) 1 = ints (zs ++ [z]) := ints_append zs z
    rw [e1, e2]
    exact h p' cap')
theorem XE.retC {k : Nat} {ps : List Nat} {cs : List (Nat × Nat)} {fn : Func} {R : Ending → World → Prop} {a b o i m sz : Nat} {t : TypeId} {C : Nat → Value} {v : Value} (hr : fn.results = #[.cell a t]) (hv : lk L a = some (ptr b o i)) (hH : Has H (.cells b o m C)) (hC : i + sz ≤ m ∧ aggOf C i sz = v) (ht : aggT P t = true) (hs : szOf P t = some sz)
    (h : ∀ w, XM W S H w → R (.returned v) w) : XE (fr k ps cs) (bodyPost P fn R) .ret L (XM W S H) := fun x w ha hw =>
  ⟨ha.1, v, by
    have hc : (Ent.cells b o m C).holds w := hw.good.1 _ hH.mem
    have hl := run_loadVar_agg (P := P) (w := w) (b := b) (o := o) (i := i) (C := C) ht hs (fun l hl => cell_of_holds hc (by omega))
    rw [hC.2] at hl
    have he : x.tmps.getD a undef = .pointer (some ⟨b, o + i, none⟩) := ha.2.2 a _ hv
    have he2 : x.tmps[a]?.getD undef = .pointer (some ⟨b, o + i, none⟩) := by simpa using he
    simp [results, hr, he2, asAddr, hl], h w hw⟩
def arrV (f : Int → Int) (m : Nat) : Array Value := ((List.range m).map fun (j : Nat) => Value.int .i64 (f (j : Int))).toArray
theorem V.indexArrV {t e : TypeId} {x y : Operand} {f : Int → Int} {m : Nat} {k : IntKind} {z : Int} {φ : World → Prop} {gd : Option (Nat × Bool)} (hx : ev L x = some (.agg (arrV f m))) (hy : ev L y = some (.int k z)) (ht : P.underlying t = some (.array m e)) (hs : szOf P e = some 1) (he : scal P e = true) (hz : 0 ≤ z ∧ z < m) :
    RunsTo P n L φ ⟨some d, .index t x y, ty, pos, af, gd⟩ (.int .i64 (f z)) := fun a w ha _ => by
  have h2 : z.toNat < m := by omega
  have h3 : ((z.toNat : Nat) : Int) = z := by omega
  have hp : (part e (arrV f m) (z.toNat * 1)).run P w = .ok (.int .i64 (f z)) w := by
    simp [part, run_isAgg_scal he, arrV, h2, h3]
  simp only [execOp, ev_eval ha hx, ev_eval ha hy, Instr.index, asIntOf, Sem.run_bind, Sem.run_pure, Result.andThen_ok, run_underlying ht, hz, run_sizeOf hs]
  simp only [Sem.run_bind, run_sizeOf hs, Result.andThen_ok, hp, true_and, and_self, if_true]
theorem V.indexAgg {t e : TypeId} {x y : Operand} {A : Array Value} {m : Nat} {k : IntKind} {z : Int} {v : Value} {φ : World → Prop} {gd : Option (Nat × Bool)} (hx : ev L x = some (.agg A)) (hy : ev L y = some (.int k z)) (ht : P.underlying t = some (.array m e)) (hs : szOf P e = some 1) (he : scal P e = true) (hz : 0 ≤ z ∧ z < m) (hv : A[z.toNat]? = some v) :
    RunsTo P n L φ ⟨some d, .index t x y, ty, pos, af, gd⟩ v := fun a w ha _ => by
  have hp : (part e A (z.toNat * 1)).run P w = .ok v w := by
    simp [part, run_isAgg_scal he, hv]
  simp only [execOp, ev_eval ha hx, ev_eval ha hy, Instr.index, asIntOf, Sem.run_bind, Sem.run_pure, Result.andThen_ok, run_underlying ht, hz, run_sizeOf hs]
  simp only [Sem.run_bind, run_sizeOf hs, Result.andThen_ok, hp, true_and, and_self, if_true]
end
/-! ### arrays of ints and of bools -/
def encI (f : Int → Int) (m : Nat) : Nat → Value := fun i => if i < m then .int .i64 (f i) else undef
def arrB (f : Int → Bool) (m : Nat) : Array Value := ((List.range m).map fun (j : Nat) => Value.bool (f (j : Int))).toArray
def encBl (f : Int → Bool) (m : Nat) : Nat → Value := fun i => if i < m then .bool (f i) else undef
theorem encI.ld (f : Int → Int) (m : Nat) (z : Int) (h : 0 ≤ z ∧ z < m) : 0 + z.toNat * 1 < m ∧ encI f m (0 + z.toNat * 1) = .int .i64 (f z) := by
  have h1 : 0 + z.toNat * 1 < m := by omega
  refine ⟨h1, ?_⟩
  unfold encI
  rw [if_pos h1, show ((0 + z.toNat * 1 : Nat) : Int) = z from by omega]
theorem encBl.ld (f : Int → Bool) (m : Nat) (z : Int) (h : 0 ≤ z ∧ z < m) : 0 + z.toNat * 1 < m ∧ encBl f m (0 + z.toNat * 1) = .bool (f z) := by
  have h1 : 0 + z.toNat * 1 < m := by omega
  refine ⟨h1, ?_⟩
  unfold encBl
  rw [if_pos h1, show ((0 + z.toNat * 1 : Nat) : Int) = z from by omega]
theorem encI.st (f : Int → Int) (m : Nat) (z v : Int) (h : 0 ≤ z ∧ z < m) : 0 + z.toNat * 1 < m ∧ upd (encI f m) (0 + z.toNat * 1) (.int .i64 v) = encI (fset f z v) m := by
  have h1 : 0 + z.toNat * 1 < m := by omega
  refine ⟨h1, ?_⟩
  funext i
  unfold upd encI fset
  by_cases h2 : i = 0 + z.toNat * 1
  · have h3 : (i : Int) = z := by omega
    have h4 : i < m := by omega
    simp only [if_pos h2, if_pos h3, if_pos h4]
  · have h3 : i < m → ¬ (i : Int) = z := by omega
    simp only [if_neg h2]
    by_cases h4 : i < m
    · simp only [if_pos h4, if_neg (h3 h4)]
    · simp only [if_neg h4]
theorem encBl.st (f : Int → Bool) (m : Nat) (z : Int) (v : Bool) (h : 0 ≤ z ∧ z < m) : 0 + z.toNat * 1 < m ∧ upd (encBl f m) (0 + z.toNat * 1) (.bool v) = encBl (fset f z v) m := by
  have h1 : 0 + z.toNat * 1 < m := by omega
  refine ⟨h1, ?_⟩
  funext i
  unfold upd encBl fset
  by_cases h2 : i = 0 + z.toNat * 1
  · have h3 : (i : Int) = z := by omega
    have h4 : i < m := by omega
    simp only [if_pos h2, if_pos h3, if_pos h4]
  · have h3 : i < m → ¬ (i : Int) = z := by omega
    simp only [if_neg h2]
    by_cases h4 : i < m
    · simp only [if_pos h4, if_neg (h3 h4)]
    · simp only [if_neg h4]
theorem encI.agg (f : Int → Int) (m : Nat) : 0 + m ≤ m ∧ aggOf (encI f m) 0 m = .agg (arrV f m) := by
  refine ⟨by omega, ?_⟩
  unfold aggOf arrV
  congr 2
  apply List.map_congr_left
  intro j hj
  have hj2 : j < m := by simpa using hj
  simp [encI, hj2]
theorem arrV_size (f : Int → Int) (m : Nat) : (arrV f m).size = m := by simp [arrV]
theorem arrB_size (f : Int → Bool) (m : Nat) : (arrB f m).size = m := by simp [arrB]
theorem encI.box (f : Int → Int) (m : Nat) : ∀ i, i < m → cellsOf (arrV f m) i = encI f m i := fun i hi => by simp [cellsOf, arrV, encI, hi]
theorem encBl.box (f : Int → Bool) (m : Nat) : ∀ i, i < m → cellsOf (arrB f m) i = encBl f m i := fun i hi => by simp [cellsOf, arrB, encBl, hi]
end Go.X
