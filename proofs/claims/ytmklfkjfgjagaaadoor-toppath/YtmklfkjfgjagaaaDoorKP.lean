import Derived.Test.YtmklfkjfgjagaaaDoorKT
namespace Go.X
open Go
/-! ### names of a path, and one behind them -/
def cut1 : List UInt8 → List (List UInt8)
  | [] => [[]]
  | b :: l => if b = 47 then [] :: cut1 l else match cut1 l with
    | [] => [[b]]
    | p :: r => (b :: p) :: r
theorem cut1_ne : ∀ l, cut1 l ≠ []
  | [] => by simp [cut1]
  | b :: l => by
    unfold cut1
    split
    · simp
    · split <;> simp
theorem splitK_ne (b : UInt8) (hb : b ≠ 47) (l : List UInt8) (k : Nat) : Lib.splitK [47] 0 k (b :: l) = match Lib.splitK [47] 0 k l with
    | [] => [[b]]
    | p :: r => (b :: p) :: r := by
  cases k with
  | zero => rfl
  | succ k =>
    have hp : ([47] : List UInt8).isPrefixOf (b :: l) = false := by simp [List.isPrefixOf, Ne.symm hb]
    have hix : Lib.index (b :: l) [47] = if Lib.index l [47] == -1 then -1 else Lib.index l [47] + 1 := by rw [Lib.index, hp]; simp
    have hge := Lib.index_ge l [47]
    by_cases hm : Lib.index l [47] = -1
    · unfold Lib.splitK
      rw [hix, if_pos (beq_iff_eq.2 hm)]
      simp [hm]
    · have hm' : ¬ (Lib.index l [47] == -1) = true := fun e => hm (beq_iff_eq.1 e)
      unfold Lib.splitK
      rw [hix, if_neg hm']
      have h2 : ¬ (Lib.index l [47] + 1 == -1) = true := fun e => by have := beq_iff_eq.1 e; omega
      rw [if_neg h2]
      obtain ⟨j, hj⟩ : ∃ j : Nat, Lib.index l [47] = j := ⟨(Lib.index l [47]).toNat, by omega⟩
      rw [hj, show ((j : Int) + 1).toNat = j + 1 from by omega, show ((j : Int)).toNat = j from by omega]
      simp
theorem splitK_cut : ∀ s : List UInt8, Lib.splitK [47] 0 (s.count 47) s = cut1 s
  | [] => rfl
  | b :: l => by
    have ih := splitK_cut l
    by_cases hb : b = 47
    · subst hb
      rw [List.count_cons_self]
      have hix : Lib.index (47 :: l) [47] = 0 := by rw [Lib.index]; simp [List.isPrefixOf]
      unfold Lib.splitK cut1
      rw [hix, if_pos rfl, ← ih]
      simp
    · rw [List.count_cons_of_ne (by simpa using hb), splitK_ne b hb, ih]
      conv => rhs; unfold cut1
      rw [if_neg hb]
theorem cut1_one : ∀ {y : List UInt8}, (∀ b ∈ y, b ≠ 47) → cut1 y = [y]
  | [], _ => rfl
  | b :: l, h => by
    unfold cut1
    rw [if_neg (h b (List.mem_cons_self ..)), cut1_one (y := l) (fun c hc => h c (List.mem_cons_of_mem _ hc))]
theorem cut1_app {y : List UInt8} (hy : ∀ b ∈ y, b ≠ 47) : ∀ x : List UInt8, cut1 (x ++ 47 :: y) = cut1 x ++ [y]
  | [] => by
    show cut1 (47 :: y) = _
    conv => lhs; unfold cut1
    rw [if_pos rfl, cut1_one hy]
    rfl
  | b :: l => by
    have ih := cut1_app hy l
    show cut1 (b :: (l ++ 47 :: y)) = _
    unfold cut1
    split
    · rw [ih]; rfl
    · rw [ih]
      cases hc : cut1 l with
      | nil => exact absurd hc (cut1_ne l)
      | cons p r => rfl
theorem toL_inj {a b : ByteArray} (h : a.data.toList = b.data.toList) : a = b := by
  cases a with
  | mk a => cases b with
    | mk b => congr 1; exact Array.toList_inj.1 h
theorem mapL_inj : ∀ {a b : List ByteArray}, a.map (·.data.toList) = b.map (·.data.toList) → a = b
  | [], [], _ => rfl
  | [], _ :: _, h => by simp at h
  | _ :: _, [], h => by simp at h
  | x :: a, y :: b, h => by
    simp only [List.map_cons, List.cons.injEq] at h
    rw [toL_inj h.1, mapL_inj h.2]
theorem pieces_cut (s : ByteArray) : (pieces s).map (·.data.toList) = cut1 s.data.toList := by
  unfold pieces
  rw [Lib.splitB_data]
  show Lib.splitK [47] 0 (Lib.count s.data.toList [47]) s.data.toList = _
  rw [Lib.count_one, splitK_cut]
def noSl (y : ByteArray) : Prop := ∀ b ∈ y.data.toList, b ≠ 47
theorem appL (x y : ByteArray) : (x ++ y).data.toList = x.data.toList ++ y.data.toList := by simp
theorem pieces_app (x : ByteArray) {y : ByteArray} (hy : noSl y) : pieces (x ++ slash ++ y) = pieces x ++ [y] := by
  apply mapL_inj
  rw [pieces_cut, List.map_append, pieces_cut, appL, appL]
  show cut1 (x.data.toList ++ [47] ++ y.data.toList) = _
  rw [List.append_assoc]
  exact cut1_app hy _
theorem pieces_one {y : ByteArray} (hy : noSl y) : pieces y = [y] := by
  apply mapL_inj
  rw [pieces_cut]
  exact cut1_one hy
theorem ext_app {a b : ByteArray} (h : 1 ≤ a.size) : (a ++ b).extract 1 (a ++ b).size = a.extract 1 a.size ++ b := by
  apply toL_inj
  have ha : a.data.toList.length = a.size := by simp
  rw [Lib.extract_to_end, appL, appL, Lib.extract_to_end, List.drop_append_of_le_length (by omega)]
theorem ext_one {b : ByteArray} : (slash ++ b).extract 1 (slash ++ b).size = b := by
  apply toL_inj
  rw [Lib.extract_to_end, appL]
  rfl
theorem noSl_dd : noSl dd := by
  intro b hb
  have : b = 46 := by simpa [dd] using hb
  subst this; decide
theorem noSl_name {y : ByteArray} (h : nameOk y = true) : noSl y := by
  intro b hb e
  obtain ⟨j, hj, hjb⟩ := List.mem_iff_getElem.1 hb
  have hj' : j < y.size := by simpa using hj
  have hg : y.get! j = 47 := by
    have := get_of (s := y) (j := j) (u := y[j]) (getElem?_pos y j hj')
    rw [this, ← e, ← hjb]
    simp [ByteArray.getElem_eq_getElem_data]
  have := nameOk_bad hj' (by rw [hg]; decide)
  rw [h] at this; cases this
theorem dd_name {y : ByteArray} (h : nameOk y = true) : ¬ y = dd := fun e => by
  have := nameOk_dot (.inr e)
  rw [h] at this; cases this
theorem get_app {a b : ByteArray} (h : 1 ≤ a.size) : (a ++ b).get! 0 = a.get! 0 := by
  have h1 : 0 < (a ++ b).size := by rw [ByteArray.size_append]; omega
  have e1 := get_of (s := a ++ b) (j := 0) (u := (a ++ b)[0]'h1) (getElem?_pos (a ++ b) 0 h1)
  have e2 := get_of (s := a) (j := 0) (u := a[0]'(by omega)) (getElem?_pos a 0 (by omega))
  rw [e1, e2]
  exact ByteArray.getElem_append_left (by omega)
/-- a path, and a name behind it -/
def whole (p y : ByteArray) : ByteArray := if p = slash then slash ++ y else p ++ slash ++ y
theorem splitE_0 {p : ByteArray} (h : splitE p = 0) : p.size ≤ 60 ∧ 1 ≤ p.size ∧ p.get! 0 = 47 ∧ (p ≠ slash → (pieces (p.extract 1 p.size)).all partOk = true ∧ splitV p = pieces (p.extract 1 p.size)) ∧ (p = slash → splitV p = []) := by
  have h0 := h
  unfold splitE at h
  by_cases c : 60 < p.size ∨ p = ⟨#[]⟩ ∨ p.get! 0 ≠ 47
  · rw [if_pos c] at h; cases h
  · rw [if_neg c] at h
    have hn : ¬ p.size = 0 := fun q => c (.inr (.inl (size_nil.2 q)))
    refine ⟨by omega, by omega, Decidable.byContradiction fun q => c (.inr (.inr q)), fun hs => ?_, fun hs => (splitE_slash hs).2⟩
    rw [if_neg hs] at h
    by_cases g : (pieces (p.extract 1 p.size)).all partOk = true
    · exact ⟨g, by unfold splitV; rw [if_pos ⟨h0, hs⟩]⟩
    · rw [if_neg g] at h; cases h
theorem splitE_app {p y : ByteArray} (hp : splitE p = 0) (hs : p ≠ slash) (hy : noSl y) (hk : partOk y = true) (hl : (p ++ slash ++ y).size ≤ 60) : splitE (p ++ slash ++ y) = 0 ∧ splitV (p ++ slash ++ y) = splitV p ++ [y] := by
  obtain ⟨h1, h2, h3, h4, _⟩ := splitE_0 hp
  obtain ⟨h4, h5⟩ := h4 hs
  have hw : (p ++ slash ++ y).extract 1 (p ++ slash ++ y).size = p.extract 1 p.size ++ slash ++ y := by
    rw [ByteArray.append_assoc, ext_app h2, ByteArray.append_assoc]
  have hsz : (p ++ slash ++ y).size = p.size + 1 + y.size := by rw [ByteArray.size_append, ByteArray.size_append]; rfl
  have hz : (p ++ slash ++ y) ≠ slash := fun e => by
    have e1 : (p ++ slash ++ y).size = 1 := by rw [e]; rfl
    omega
  have hall : (pieces ((p ++ slash ++ y).extract 1 (p ++ slash ++ y).size)).all partOk = true := by
    rw [hw, pieces_app _ hy, List.all_append, h4]
    simp [hk]
  have e : splitE (p ++ slash ++ y) = 0 := by
    unfold splitE
    rw [if_neg, if_neg hz, if_pos hall]
    rintro (a | a | a)
    · omega
    · have := size_nil.1 a; omega
    · exact a (by rw [ByteArray.append_assoc, get_app h2, h3])
  refine ⟨e, ?_⟩
  unfold splitV
  rw [if_pos ⟨e, hz⟩, hw, pieces_app _ hy, if_pos ⟨hp, hs⟩]
theorem splitE_one {y : ByteArray} (hy : noSl y) (hk : partOk y = true) (hn : 1 ≤ y.size) (hl : (slash ++ y).size ≤ 60) : splitE (slash ++ y) = 0 ∧ splitV (slash ++ y) = [y] := by
  have hsz : (slash ++ y).size = 1 + y.size := by rw [ByteArray.size_append]; rfl
  have hz : (slash ++ y) ≠ slash := fun e => by
    have e1 : (slash ++ y).size = 1 := by rw [e]; rfl
    omega
  have hall : (pieces ((slash ++ y).extract 1 (slash ++ y).size)).all partOk = true := by
    rw [ext_one, pieces_one hy]; simp [hk]
  have e : splitE (slash ++ y) = 0 := by
    unfold splitE
    rw [if_neg, if_neg hz, if_pos hall]
    rintro (a | a | a)
    · omega
    · have := size_nil.1 a; omega
    · exact a (by rw [get_app (by decide)]; rfl)
  refine ⟨e, ?_⟩
  unfold splitV
  rw [if_pos ⟨e, hz⟩, ext_one, pieces_one hy]
theorem whole_ok {p y : ByteArray} (hp : splitE p = 0) (hk : nameOk y = true) (hl : (whole p y).size ≤ 60) : splitE (whole p y) = 0 ∧ splitV (whole p y) = splitV p ++ [y] := by
  have hpk : partOk y = true := by unfold partOk; rw [hk]; simp
  have hn : 1 ≤ y.size := by
    by_cases c : 1 ≤ y.size ∧ y.size ≤ 8
    · exact c.1
    · rw [nameOk_len c] at hk; cases hk
  unfold whole at hl ⊢
  by_cases hs : p = slash
  · rw [if_pos hs] at hl ⊢
    have h := splitE_one (noSl_name hk) hpk hn hl
    exact ⟨h.1, by rw [h.2, (splitE_slash hs).2]; rfl⟩
  · rw [if_neg hs] at hl ⊢
    exact splitE_app hp hs (noSl_name hk) hpk hl
/-! ### the way, one step on and back -/
theorem wk_nil (F : FF) (l : List MT) : ∀ (ns : List ByteArray) (way : List WH), (wk F l way ns).1 ≠ 0 → (wk F l way ns).2 = WH.nil
  | [], way, h => absurd rfl h
  | s :: r, way, h => by
    unfold wk at h ⊢
    split
    · rename_i c; rw [if_pos c] at h; exact wk_nil F l r _ h
    · rename_i c
      rw [if_neg c] at h
      split
      · rfl
      · rename_i c2; rw [if_neg c2] at h; exact wk_nil F l r _ h
theorem wk_split (F : FF) (l : List MT) : ∀ (ns : List ByteArray) (way : List WH), 1 ≤ way.length → (wk F l way ns).1 = 0 → ∃ w2, 1 ≤ w2.length ∧ last w2 = (wk F l way ns).2 ∧ ∀ b, wk F l way (ns ++ b) = wk F l w2 b
  | [], way, h1, _ => ⟨way, h1, rfl, fun b => rfl⟩
  | s :: r, way, h1, h => by
    by_cases c : s = dd
    · have e : ∀ b, wk F l way (s :: b) = wk F l (if 1 < way.length then way.take (way.length - 1) else way) b := fun b => by
        conv => lhs; unfold wk
        rw [if_pos c]
      rw [e] at h ⊢
      obtain ⟨w2, a1, a2, a3⟩ := wk_split F l r _ (by split
                                                      · rw [List.length_take]; omega
                                                      · exact h1) h
      exact ⟨w2, a1, a2, fun b => by rw [List.cons_append, e, a3]⟩
    · by_cases c2 : F.findE (last way).node s ≠ 0
      · have e : wk F l way (s :: r) = (F.findE (last way).node s, WH.nil) := by
          unfold wk; rw [if_neg c, if_pos c2]
        rw [e] at h; exact absurd h c2
      · have e : ∀ b, wk F l way (s :: b) = wk F l (way ++ [over l ⟨(last way).tree, F.findV (last way).node s⟩]) b := fun b => by
          conv => lhs; unfold wk
          rw [if_neg c, if_neg c2]
        rw [e] at h ⊢
        obtain ⟨w2, a1, a2, a3⟩ := wk_split F l r _ (by simp) h
        exact ⟨w2, a1, a2, fun b => by rw [List.cons_append, e, a3]⟩
theorem last_app (w : List WH) (x : WH) : last (w ++ [x]) = x := by
  unfold last wat
  simp
theorem splitE_cases (p : ByteArray) : splitE p = 0 ∨ splitE p = 9 := by
  unfold splitE
  split
  · exact .inr rfl
  · split
    · exact .inl rfl
    · split
      · exact .inl rfl
      · exact .inr rfl
theorem walk_err {F : FF} {l : List MT} {r : WH} {p : ByteArray} (h : walkE F l r p ≠ 0) : walkV F l r p = WH.nil := by
  unfold walkV
  split
  · rfl
  · rename_i c
    unfold walkE at h
    rw [if_neg c] at h
    exact wk_nil F l _ _ h
theorem over_none {l : List MT} {w : WH} (h : hasAt l w = false) : over l w = w := by
  have h1 : ov1 l w = none := by
    unfold ov1
    rw [List.find?_eq_none.2 (fun m hm => by unfold hasAt at h; rw [List.any_eq_false] at h; simpa using h m hm)]
    rfl
  exact ovN_none h1 6
theorem nlast_app (a : List ByteArray) (y : ByteArray) : nlast (a ++ [y]) = y := by
  unfold nlast sat0
  simp
theorem ninit_app (a : List ByteArray) (y : ByteArray) : ninit (a ++ [y]) = a := by
  unfold ninit
  simp
/-- what TopPath says -/
structure PathOk (F : FF) (l : List MT) (r : WH) (p y : ByteArray) : Prop where
  lastE : lastE F l r (whole p y) = 0
  lastV : lastV F l r (whole p y) = walkV F l r p
  lastN : lastN F l r (whole p y) = y
  findE : F.findE (walkV F l r p).node y = 0
  rawE : rawE F l r (whole p y) = 0
  rawV : rawV F l r (whole p y) = ⟨(walkV F l r p).tree, F.findV (walkV F l r p).node y⟩
  deep : hasAt l ⟨(walkV F l r p).tree, F.findV (walkV F l r p).node y⟩ = false → walkV F l r (whole p y) = ⟨(walkV F l r p).tree, F.findV (walkV F l r p).node y⟩
  back : (whole p y).size + 3 ≤ 60 → walkE F l r (whole p y ++ ⟨#[47, 46, 46]⟩) = 0 ∧ walkV F l r (whole p y ++ ⟨#[47, 46, 46]⟩) = walkV F l r p
theorem path_ok {F : FF} {l : List MT} {r : WH} {p y : ByteArray} (h1 : walkE F l r p = 0) (h2 : walkE F l r (whole p y) = 0) (hy : nameOk y = true) : PathOk F l r p y := by
  have hp : splitE p = 0 := by
    rcases splitE_cases p with h | h
    · exact h
    · unfold walkE at h1; rw [if_pos (by omega), h] at h1; cases h1
  have hwl : splitE (whole p y) = 0 := by
    rcases splitE_cases (whole p y) with h | h
    · exact h
    · unfold walkE at h2; rw [if_pos (by omega), h] at h2; cases h2
  obtain ⟨hw, hV⟩ := whole_ok hp hy (splitE_0 hwl).1
  have hz : ¬ (splitE p ≠ 0) := fun q => q hp
  have hzw : ¬ (splitE (whole p y) ≠ 0) := fun q => q hw
  have e1 : (led F l r (splitV p)).1 = 0 := by unfold walkE at h1; rwa [if_neg hz] at h1
  have v1 : walkV F l r p = (led F l r (splitV p)).2 := by unfold walkV; rw [if_neg hz]
  have e2 : (led F l r (splitV p ++ [y])).1 = 0 := by unfold walkE at h2; rwa [if_neg hzw, hV] at h2
  have v2 : walkV F l r (whole p y) = (led F l r (splitV p ++ [y])).2 := by unfold walkV; rw [if_neg hzw, hV]
  obtain ⟨w2, a1, a2, a3⟩ := wk_split F l (splitV p) [over l r] (by simp) e1
  have ed := dd_name hy
  have hone : ∀ b, F.findE (last w2).node y = 0 → wk F l w2 (y :: b) = wk F l (w2 ++ [over l ⟨(last w2).tree, F.findV (last w2).node y⟩]) b := fun b hf => by
    conv => lhs; unfold wk
    rw [if_neg ed, if_neg (fun q => q hf)]
  have ev : walkV F l r p = last w2 := by rw [v1]; exact a2.symm
  have hf : F.findE (last w2).node y = 0 := by
    rw [show led F l r (splitV p ++ [y]) = wk F l w2 [y] from a3 [y]] at e2
    by_cases c : F.findE (last w2).node y ≠ 0
    · unfold wk at e2; rw [if_neg ed, if_pos c] at e2; exact absurd e2 c
    · omega
  have d2 : led F l r (splitV p ++ [y]) = (0, over l ⟨(last w2).tree, F.findV (last w2).node y⟩) := by
    rw [show led F l r (splitV p ++ [y]) = wk F l w2 [y] from a3 [y], hone [] hf]
    show (0, last _) = _
    rw [last_app]
  have hln : (splitV p ++ [y]).length ≠ 0 := by simp
  have hrE : rawE F l r (whole p y) = 0 := by
    unfold rawE
    rw [if_neg hzw, hV, if_neg hln, nlast_app, if_neg ed, ninit_app, if_neg (fun q => q e1), ← v1, ev, hf]
  have hlE : lastE F l r (whole p y) = 0 := by
    unfold lastE
    rw [if_neg hzw, hV, nlast_app, ninit_app, if_neg (by rintro (q | q); exact hln q; exact ed q), e1]
  refine ⟨hlE, ?_, ?_, by rw [ev]; exact hf, hrE, ?_, fun hn => ?_, fun hn => ?_⟩
  · unfold Go.X.lastV; rw [if_neg (fun q => q hlE), hV, ninit_app, v1]
  · unfold Go.X.lastN; rw [if_neg (fun q => q hlE), hV, nlast_app]
  · unfold Go.X.rawV; rw [if_neg (fun q => q hrE), hV, if_neg hln, nlast_app, ninit_app, ← v1]
  · rw [v2, d2]
    rw [ev] at hn ⊢
    exact over_none hn
  · have hsz : (whole p y ++ slash ++ dd).size = (whole p y).size + 3 := by rw [ByteArray.size_append, ByteArray.size_append]; rfl
    have hns : whole p y ≠ slash := fun e => by
      rw [(splitE_slash e).2] at hV
      simp at hV
    obtain ⟨g1, g2⟩ := splitE_app hw hns noSl_dd (by unfold partOk; simp) (by omega)
    have ew : whole p y ++ slash ++ dd = whole p y ++ ⟨#[47, 46, 46]⟩ := by rw [ByteArray.append_assoc]; rfl
    rw [ew] at g1 g2
    have d3 : led F l r (splitV p ++ [y] ++ [dd]) = (0, last w2) := by
      rw [List.append_assoc, show led F l r (splitV p ++ ([y] ++ [dd])) = wk F l w2 ([y] ++ [dd]) from a3 _, List.singleton_append, hone _ hf]
      conv => lhs; unfold wk
      rw [if_pos rfl, if_pos (by simp; omega)]
      simp [wk]
    have hz3 : ¬ (splitE (whole p y ++ ⟨#[47, 46, 46]⟩) ≠ 0) := fun q => q g1
    rw [hV] at g2
    unfold walkE
    rw [if_neg hz3, g2, d3]
    refine ⟨rfl, ?_⟩
    conv => lhs; unfold walkV
    rw [if_neg hz3, g2, d3, ev]
theorem back_bad {F : FF} {l : List MT} {r : WH} {q : ByteArray} (h : 60 < q.size) : walkE F l r q ≠ 0 := by
  have e : splitE q = 9 := splitE_cond (.inl h)
  unfold walkE
  rw [if_pos (by omega), e]; decide
theorem whole_size (p y : ByteArray) : (whole p y).size ≤ p.size + 1 + y.size := by
  unfold whole
  split
  · rw [ByteArray.size_append]; show 1 + y.size ≤ _; omega
  · rw [ByteArray.size_append, ByteArray.size_append]; show p.size + 1 + y.size ≤ _; omega
theorem hasAt_take {l : List MT} {w : WH} {i : Int} (h : 0 ≤ i ∧ i < l.length) : hasAt (l.take (i + 1).toNat) w = (hasAt (l.take i.toNat) w || decide ((mat l i).at_ = w)) := by
  unfold hasAt
  have e : (l.take (i + 1).toNat) = l.take i.toNat ++ [mat l i] := by
    rw [show (i + 1).toNat = i.toNat + 1 from by omega, List.take_add_one]
    unfold mat
    rw [List.getD_eq_getElem?_getD, List.getElem?_eq_getElem (by omega)]
    rfl
  rw [e, List.any_append]
  simp
theorem MC.ldA {C : Nat → Value} {l : List MT} (h : MC C l) {k : Nat} (hk : l.length ≤ k) (z : Int) (q : 0 ≤ z ∧ z < l.length) : 0 + z.toNat * 4 + 0 + 2 ≤ k * 4 ∧ aggOf C (0 + z.toNat * 4 + 0) 2 = .agg (WH.arr (mat l z).at_) := by
  refine ⟨by omega, ?_⟩
  have e := fun j (hj : j < 4) => (h (0 + z.toNat * 4 + j) (by omega)).trans (mC_at l z q.1 j hj)
  simp only [aggOf, List.range, List.range.loop, List.map_cons, List.map_nil, Nat.add_zero]
  have e0 := e 0 (by omega)
  rw [Nat.add_zero] at e0
  rw [e0, e 1 (by omega)]
  rfl
theorem hasAt_all (l : List MT) (w : WH) : hasAt (l.take ((l.length : Int)).toNat) w = hasAt l w := by
  rw [show ((l.length : Int)).toNat = l.length from by omega, List.take_length]
namespace MTop
/-- what is so between the acts of TopPath -/
def PSt (F : FF) (B : Int) : Prop := ∃ d, F.Ok d B
theorem PSt.ge {F : FF} {B B' : Int} (h : PSt F B) (hB : B ≤ B') : PSt F B' := by
  obtain ⟨d, o⟩ := h
  exact ⟨d, o.inv, fun n a b => Int.le_trans (o.held n a b) hB, Int.le_trans o.nn hB⟩
theorem PSt.make {F G : FF} {B : Int} (h : PSt F B) {n : Int} {y : ByteArray} {k : Int} (hG : G = F.make n y k) : PSt G (B + 14) := by
  obtain ⟨d, hO⟩ := h
  obtain ⟨d2, o2⟩ := hO.make n y k
  subst hG
  exact ⟨d2, o2.inv, fun n a b => Int.le_trans (o2.held n a b) (by omega), by have := o2.nn; omega⟩
theorem PSt.bind {F G : FF} {B : Int} (h : PSt F B) {l : List MT} {a z : WH} (hG : G = bindF F l a z) : PSt G (B + 14) := by
  obtain ⟨d, hO⟩ := h
  have o2 := hold_ok2 hO l a z
  subst hG
  exact ⟨d, o2.inv, fun n a b => Int.le_trans (o2.held n a b) (by omega), by have := o2.nn; omega⟩
end MTop

end Go.X
