import Derived.Test.YtpnddggohipdnaaDoorXMore
namespace Go.X
open Go
def outP (p : Nat → Bool) (i : Nat) : Nat → Bool := fun j => p j && !Nat.beq j i
def inP (p : Nat → Bool) (i : Nat) : Nat → Bool := fun j => p j || Nat.beq j i
def rset (r : Nat → RowD) (i : Nat) (x : RowD) : Nat → RowD := fun j => bif Nat.beq j i then x else r j
theorem nbeq {i j : Nat} (h : ¬ i = j) : Nat.beq i j = false := by
  cases hb : Nat.beq i j with
  | false => rfl
  | true => exact absurd (Nat.eq_of_beq_eq_true hb) h
theorem outP_at (p : Nat → Bool) (i : Nat) : outP p i i = false := by simp [outP]
theorem outP_iff {p : Nat → Bool} {i j : Nat} : outP p i j = true ↔ p j = true ∧ j ≠ i := by
  simp only [outP, Bool.and_eq_true, Bool.not_eq_true', ne_eq]
  constructor
  · rintro ⟨h1, h2⟩; exact ⟨h1, fun e => by subst e; simp at h2⟩
  · rintro ⟨h1, h2⟩; exact ⟨h1, nbeq h2⟩
theorem inP_iff {p : Nat → Bool} {i j : Nat} : inP p i j = true ↔ p j = true ∨ j = i := by
  simp only [inP, Bool.or_eq_true]
  constructor
  · rintro (h | h)
    · exact .inl h
    · exact .inr (by simpa using h)
  · rintro (h | h)
    · exact .inl h
    · exact .inr (by simpa using h)
theorem rset_eq (r : Nat → RowD) (i : Nat) (x : RowD) : rset r i x i = x := by simp [rset]
theorem rset_ne (r : Nat → RowD) {i j : Nat} (x : RowD) (h : j ≠ i) : rset r i x j = r j := by
  simp [rset, nbeq h]
theorem inout {p : Nat → Bool} {i : Nat} (h : p i = true) : inP (outP p i) i = p := by
  funext j
  rw [Bool.eq_iff_iff, inP_iff, outP_iff]
  constructor
  · rintro (h1 | rfl)
    · exact h1.1
    · exact h
  · intro hj
    by_cases c : j = i
    · exact .inr c
    · exact .inl ⟨hj, c⟩
abbrev RowD.ent (x : RowD) : Ent := .row x.v x.e x.sz x.k x.xs
section
variable {W w : World} {S : Nat → Nat → Prop} {H : List Ent}
theorem XM.famOut {p : Nat → Bool} {r : Nat → RowD} (i : Nat) (hp : p i = true) (h : XM W S (.fam p r :: H) w) : XM W S ((r i).ent :: .fam (outP p i) r :: H) w := by
  obtain ⟨⟨hh, hpw⟩, hk, hm⟩ := h
  rw [List.pairwise_cons] at hpw
  have hf : (Ent.fam p r).holds w := hh _ (by simp)
  have ha1 : ∀ b o, ((r i).ent).area b o → (Ent.fam p r).area b o := fun b o hb => ⟨i, hp, hb⟩
  have ha2 : ∀ b o, (Ent.fam (outP p i) r).area b o → (Ent.fam p r).area b o := fun b o ⟨j, hj, hb⟩ => ⟨j, (outP_iff.1 hj).1, hb⟩
  refine ⟨⟨fun e he => ?_, List.pairwise_cons.2 ⟨fun e he _ b o h1 h2 => ?_, List.pairwise_cons.2 ⟨fun e he hw b o h1 h2 => hpw.1 e he (by simp [Ent.wr]) b o (ha2 b o h1) h2, hpw.2⟩⟩⟩, hk, fun e he hw b o hb => ?_⟩
  · rcases List.mem_cons.1 he with rfl | he
    · exact hf.1 i hp
    · rcases List.mem_cons.1 he with rfl | he
      · exact ⟨fun j hj => hf.1 j (outP_iff.1 hj).1, fun j k b hj hk => hf.2 j k b (outP_iff.1 hj).1 (outP_iff.1 hk).1⟩
      · exact hh e (List.mem_cons_of_mem _ he)
  · rcases List.mem_cons.1 he with rfl | he
    · obtain ⟨j, hj, hb⟩ := h2
      have hj2 := outP_iff.1 hj
      exact hf.2 i j b hp hj2.1 (Ne.symm hj2.2) h1 hb
    · exact hpw.1 e he (by simp [Ent.wr]) b o (ha1 b o h1) h2
  · rcases List.mem_cons.1 he with rfl | he
    · exact hm _ (by simp) rfl b o (ha1 b o hb)
    · rcases List.mem_cons.1 he with rfl | he
      · exact hm _ (by simp) rfl b o (ha2 b o hb)
      · exact hm e (List.mem_cons_of_mem _ he) hw b o hb
theorem XM.famIn {p : Nat → Bool} {r : Nat → RowD} (i : Nat) {x : RowD} (hp : p i = false) (h : XM W S (x.ent :: .fam p r :: H) w) : XM W S (.fam (inP p i) (rset r i x) :: H) w := by
  obtain ⟨⟨hh, hpw⟩, hk, hm⟩ := h
  rw [List.pairwise_cons, List.pairwise_cons] at hpw
  obtain ⟨hx, hf2, hpw2⟩ := hpw
  have hf : (Ent.fam p r).holds w := hh _ (by simp)
  have hne : ∀ j, p j = true → j ≠ i := fun j hj e => by subst e; rw [hp] at hj; cases hj
  have har : ∀ b o, (Ent.fam (inP p i) (rset r i x)).area b o → x.ent.area b o ∨ (Ent.fam p r).area b o := fun b o ⟨j, hj, hb⟩ => by
    rcases inP_iff.1 hj with h1 | rfl
    · rw [rset_ne _ _ (hne j h1)] at hb; exact .inr ⟨j, h1, hb⟩
    · rw [rset_eq] at hb; exact .inl hb
  refine ⟨⟨fun e he => ?_, List.pairwise_cons.2 ⟨fun e he _ b o h1 h2 => ?_, hpw2⟩⟩, hk, fun e he hw b o hb => ?_⟩
  · rcases List.mem_cons.1 he with rfl | he
    · refine ⟨fun j hj => ?_, fun j k b hj hk2 hjk h1 h2 => ?_⟩
      · rcases inP_iff.1 hj with h1 | rfl
        · rw [rset_ne _ _ (hne j h1)]; exact hf.1 j h1
        · rw [rset_eq]; exact hh x.ent (by simp)
      · have hxf : ∀ l, p l = true → x.v.ownBlock = some b → (r l).v.ownBlock = some b → False := fun l hl e1 e2 => hx (.fam p r) (by simp) (by simp [Ent.wr]) b 0 e1 ⟨l, hl, e2⟩
        rcases inP_iff.1 hj with q1 | rfl
        · rw [rset_ne _ _ (hne j q1)] at h1
          rcases inP_iff.1 hk2 with q2 | rfl
          · rw [rset_ne _ _ (hne k q2)] at h2
            exact hf.2 j k b q1 q2 hjk h1 h2
          · rw [rset_eq] at h2; exact hxf j q1 h2 h1
        · rw [rset_eq] at h1
          rcases inP_iff.1 hk2 with q2 | rfl
          · rw [rset_ne _ _ (hne k q2)] at h2; exact hxf k q2 h1 h2
          · exact hjk rfl
    · exact hh e (by simp [he])
  · rcases har b o h1 with h3 | h3
    · exact hx e (by simp [he]) (by simp [Ent.wr]) b o h3 h2
    · exact hf2 e he (by simp [Ent.wr]) b o h3 h2
  · rcases List.mem_cons.1 he with rfl | he
    · rcases har b o hb with h3 | h3
      · exact hm x.ent (by simp) rfl b o h3
      · exact hm _ (by simp) rfl b o h3
    · exact hm e (by simp [he]) hw b o hb
/-- a run of cells, parted in three -/
theorem XM.part {b o n off m : Nat} {C : Nat → Value} (hn : off + m ≤ n) (h : XM W S (.cells b o n C :: H) w) :
    XM W S (.cells b (o + off) m (fun i => C (off + i)) :: .cells b o off C :: .cells b (o + off + m) (n - off - m) (fun i => C (off + m + i)) :: H) w := by
  obtain ⟨⟨hh, hpw⟩, hk, hm⟩ := h
  rw [List.pairwise_cons] at hpw
  obtain ⟨A, t, lo, hi, h1, h2⟩ := hh (.cells b o n C) (by simp)
  have sub : ∀ (o' n' : Nat) (C' : Nat → Value), o ≤ o' → o' + n' ≤ o + n → ∀ b' i, (Ent.cells b o' n' C').area b' i → (Ent.cells b o n C).area b' i := fun o' n' C' h3 h4 b' i ⟨e1, e2, e3⟩ => ⟨e1, by omega, by omega⟩
  have s1 := sub (o + off) m (fun i => C (off + i)) (by omega) (by omega)
  have s2 := sub o off C (by omega) (by omega)
  have s3 := sub (o + off + m) (n - off - m) (fun i => C (off + m + i)) (by omega) (by omega)
  refine ⟨⟨fun e he => ?_, ?_⟩, hk, fun e he hw b' i hb => ?_⟩
  · simp only [List.mem_cons] at he
    rcases he with rfl | rfl | rfl | he
    · refine ⟨A, t, lo, hi, h1, fun i hi' => ?_⟩
      have := h2 (off + i) (by omega)
      rw [show o + off + i = o + (off + i) from by omega]; exact this
    · exact ⟨A, t, lo, hi, h1, fun i hi' => h2 i (by omega)⟩
    · refine ⟨A, t, lo, hi, h1, fun i hi' => ?_⟩
      have := h2 (off + m + i) (by omega)
      rw [show o + off + m + i = o + (off + m + i) from by omega]; exact this
    · exact hh e (by simp [he])
  · refine List.pairwise_cons.2 ⟨fun e he _ b' i h3 h4 => ?_, List.pairwise_cons.2 ⟨fun e he _ b' i h3 h4 => ?_, List.pairwise_cons.2 ⟨fun e he _ b' i h3 h4 => hpw.1 e he (by simp [Ent.wr]) b' i (s3 b' i h3) h4, hpw.2⟩⟩⟩
    · simp only [List.mem_cons] at he
      rcases he with rfl | rfl | he
      · obtain ⟨_, a1, a2⟩ := h3; obtain ⟨_, a3, a4⟩ := h4; omega
      · obtain ⟨_, a1, a2⟩ := h3; obtain ⟨_, a3, a4⟩ := h4; omega
      · exact hpw.1 e he (by simp [Ent.wr]) b' i (s1 b' i h3) h4
    · simp only [List.mem_cons] at he
      rcases he with rfl | he
      · obtain ⟨_, a1, a2⟩ := h3; obtain ⟨_, a3, a4⟩ := h4; omega
      · exact hpw.1 e he (by simp [Ent.wr]) b' i (s2 b' i h3) h4
  · simp only [List.mem_cons] at he
    rcases he with rfl | rfl | rfl | he
    · exact hm (.cells b o n C) (by simp) rfl b' i (s1 b' i hb)
    · exact hm (.cells b o n C) (by simp) rfl b' i (s2 b' i hb)
    · exact hm (.cells b o n C) (by simp) rfl b' i (s3 b' i hb)
    · exact hm e (by simp [he]) hw b' i hb
/-- and joined again -/
theorem XM.join {b o n off m : Nat} {C C1 C2 C3 : Nat → Value} (hn : off + m ≤ n) (e1 : ∀ i, i < off → C i = C1 i) (e2 : ∀ i, i < m → C (off + i) = C2 i) (e3 : ∀ i, i < n - off - m → C (off + m + i) = C3 i)
    (h : XM W S (.cells b (o + off) m C2 :: .cells b o off C1 :: .cells b (o + off + m) (n - off - m) C3 :: H) w) (hm0 : 0 < m) : XM W S (.cells b o n C :: H) w := by
  obtain ⟨⟨hh, hpw⟩, hk, hm⟩ := h
  simp only [List.pairwise_cons] at hpw
  obtain ⟨p1, p2, p3, p4⟩ := hpw
  obtain ⟨A, t, lo, hi, h1, h2⟩ := hh (.cells b (o + off) m C2) (by simp)
  obtain ⟨A', t', lo', hi', h1', h2'⟩ := hh (.cells b o off C1) (by simp)
  obtain ⟨A'', t'', lo'', hi'', h1'', h2''⟩ := hh (.cells b (o + off + m) (n - off - m) C3) (by simp)
  rw [h1] at h1' h1''
  simp only [Option.some.injEq, Obj.cells.injEq, Prod.mk.injEq] at h1' h1''
  obtain ⟨rfl, rfl, rfl, rfl⟩ := h1'
  obtain ⟨rfl, rfl, rfl, rfl⟩ := h1''
  have cut : ∀ b' i, (Ent.cells b o n C).area b' i → (Ent.cells b (o + off) m C2).area b' i ∨ (Ent.cells b o off C1).area b' i ∨ (Ent.cells b (o + off + m) (n - off - m) C3).area b' i := fun b' i ⟨q1, q2, q3⟩ => by
    by_cases c1 : i < o + off
    · exact .inr (.inl ⟨q1, q2, c1⟩)
    · by_cases c2 : i < o + off + m
      · exact .inl ⟨q1, by omega, c2⟩
      · exact .inr (.inr ⟨q1, by omega, by omega⟩)
  refine ⟨⟨fun e he => ?_, List.pairwise_cons.2 ⟨fun e he _ b' i h3 h4 => ?_, p4⟩⟩, hk, fun e he hw b' i hb => ?_⟩
  · rcases List.mem_cons.1 he with rfl | he
    · refine ⟨A, t, lo, hi, h1, fun i hi2 => ?_⟩
      by_cases c1 : i < off
      · rw [e1 i c1]; exact h2' i c1
      · by_cases c2 : i < off + m
        · have := h2 (i - off) (by omega)
          have e := e2 (i - off) (by omega)
          rw [show off + (i - off) = i from by omega] at e
          rw [show o + off + (i - off) = o + i from by omega] at this
          rw [e]; exact this
        · have := h2'' (i - off - m) (by omega)
          have e := e3 (i - off - m) (by omega)
          rw [show off + m + (i - off - m) = i from by omega] at e
          rw [show o + off + m + (i - off - m) = o + i from by omega] at this
          rw [e]; exact this
    · exact hh e (by simp [he])
  · rcases cut b' i h3 with h | h | h
    · exact p1 e (by simp [he]) (by simp [Ent.wr]) b' i h h4
    · exact p2 e (by simp [he]) (by simp [Ent.wr]) b' i h h4
    · exact p3 e he (by simp [Ent.wr]) b' i h h4
  · rcases List.mem_cons.1 he with rfl | he
    · rcases cut b' i hb with h | h | h
      · exact hm _ (by simp) rfl b' i h
      · exact hm (.cells b o off C1) (by simp) rfl b' i h
      · exact hm (.cells b (o + off + m) (n - off - m) C3) (by simp) rfl b' i h
    · exact hm e (by simp [he]) hw b' i hb
/-- one object out of a family of objects -/
def cset (C : Nat → Nat → Value) (i : Nat) (x : Nat → Value) : Nat → Nat → Value := fun j => bif Nat.beq j i then x else C j
def bset (g : Nat → Nat) (i b : Nat) : Nat → Nat := fun j => bif Nat.beq j i then b else g j
theorem cset_eq (C : Nat → Nat → Value) (i : Nat) (x : Nat → Value) : cset C i x i = x := by simp [cset]
theorem cset_ne (C : Nat → Nat → Value) {i j : Nat} (x : Nat → Value) (h : j ≠ i) : cset C i x j = C j := by simp [cset, nbeq h]
theorem bset_eq (g : Nat → Nat) (i b : Nat) : bset g i b i = b := by simp [bset]
theorem bset_ne (g : Nat → Nat) {i j : Nat} (b : Nat) (h : j ≠ i) : bset g i b j = g j := by simp [bset, nbeq h]
theorem XM.cfamOut {p : Nat → Bool} {g : Nat → Nat} {n : Nat} {C : Nat → Nat → Value} (i : Nat) (hp : p i = true) (h : XM W S (.cfam p g n C :: H) w) : XM W S (.cells (g i) 0 n (C i) :: .cfam (outP p i) g n C :: H) w := by
  obtain ⟨⟨hh, hpw⟩, hk, hm⟩ := h
  rw [List.pairwise_cons] at hpw
  have hf : (Ent.cfam p g n C).holds w := hh _ (by simp)
  have ha1 : ∀ b o, (Ent.cells (g i) 0 n (C i)).area b o → (Ent.cfam p g n C).area b o := fun b o ⟨e1, e2, e3⟩ => ⟨i, hp, e1, by omega⟩
  have ha2 : ∀ b o, (Ent.cfam (outP p i) g n C).area b o → (Ent.cfam p g n C).area b o := fun b o ⟨j, hj, hb⟩ => ⟨j, (outP_iff.1 hj).1, hb⟩
  refine ⟨⟨fun e he => ?_, List.pairwise_cons.2 ⟨fun e he _ b o h1 h2 => ?_, List.pairwise_cons.2 ⟨fun e he hw b o h1 h2 => hpw.1 e he (by simp [Ent.wr]) b o (ha2 b o h1) h2, hpw.2⟩⟩⟩, hk, fun e he hw b o hb => ?_⟩
  · rcases List.mem_cons.1 he with rfl | he
    · obtain ⟨A, t, lo, hi, h1, h2⟩ := hf.1 i hp
      exact ⟨A, t, lo, hi, h1, fun j hj => by rw [Nat.zero_add]; exact h2 j hj⟩
    · rcases List.mem_cons.1 he with rfl | he
      · exact ⟨fun j hj => hf.1 j (outP_iff.1 hj).1, fun j k hj hk => hf.2 j k (outP_iff.1 hj).1 (outP_iff.1 hk).1⟩
      · exact hh e (List.mem_cons_of_mem _ he)
  · rcases List.mem_cons.1 he with rfl | he
    · obtain ⟨j, hj, hb, _⟩ := h2
      have hj2 := outP_iff.1 hj
      exact hf.2 i j hp hj2.1 (Ne.symm hj2.2) (h1.1.symm.trans hb)
    · exact hpw.1 e he (by simp [Ent.wr]) b o (ha1 b o h1) h2
  · rcases List.mem_cons.1 he with rfl | he
    · exact hm _ (by simp) rfl b o (ha1 b o hb)
    · rcases List.mem_cons.1 he with rfl | he
      · exact hm (.cfam p g n C) (by simp) rfl b o (ha2 b o hb)
      · exact hm e (List.mem_cons_of_mem _ he) hw b o hb
theorem XM.cfamIn {p : Nat → Bool} {g : Nat → Nat} {n b0 : Nat} {C : Nat → Nat → Value} {x : Nat → Value} (i : Nat) (hn : 0 < n) (hp : p i = false) (h : XM W S (.cells b0 0 n x :: .cfam p g n C :: H) w) : XM W S (.cfam (inP p i) (bset g i b0) n (cset C i x) :: H) w := by
  obtain ⟨⟨hh, hpw⟩, hk, hm⟩ := h
  rw [List.pairwise_cons, List.pairwise_cons] at hpw
  obtain ⟨hx, hf2, hpw2⟩ := hpw
  have hf : (Ent.cfam p g n C).holds w := hh _ (by simp)
  have hc : (Ent.cells b0 0 n x).holds w := hh _ (by simp)
  have hne : ∀ j, p j = true → j ≠ i := fun j hj e => by subst e; rw [hp] at hj; cases hj
  have hxb : ∀ j, p j = true → g j ≠ b0 := fun j hj e => hx (.cfam p g n C) (by simp) (by simp [Ent.wr]) b0 0 ⟨rfl, by omega, by omega⟩ ⟨j, hj, e.symm, hn⟩
  have har : ∀ b o, (Ent.cfam (inP p i) (bset g i b0) n (cset C i x)).area b o → (Ent.cells b0 0 n x).area b o ∨ (Ent.cfam p g n C).area b o := fun b o ⟨j, hj, hb, ho⟩ => by
    rcases inP_iff.1 hj with h1 | rfl
    · rw [bset_ne _ _ (hne j h1)] at hb; exact .inr ⟨j, h1, hb, ho⟩
    · rw [bset_eq] at hb; exact .inl ⟨hb, by omega, by omega⟩
  refine ⟨⟨fun e he => ?_, List.pairwise_cons.2 ⟨fun e he _ b o h1 h2 => ?_, hpw2⟩⟩, hk, fun e he hw b o hb => ?_⟩
  · rcases List.mem_cons.1 he with rfl | he
    · refine ⟨fun j hj => ?_, fun j k hj hk2 hjk => ?_⟩
      · rcases inP_iff.1 hj with h1 | rfl
        · rw [bset_ne _ _ (hne j h1), cset_ne _ _ (hne j h1)]; exact hf.1 j h1
        · rw [bset_eq, cset_eq]
          obtain ⟨A, t, lo, hi, h1, h2⟩ := hc
          exact ⟨A, t, lo, hi, h1, fun m hm2 => by have := h2 m hm2; rwa [Nat.zero_add] at this⟩
      · rcases inP_iff.1 hj with q1 | rfl
        · rw [bset_ne _ _ (hne j q1)]
          rcases inP_iff.1 hk2 with q2 | rfl
          · rw [bset_ne _ _ (hne k q2)]; exact hf.2 j k q1 q2 hjk
          · rw [bset_eq]; exact hxb j q1
        · rw [bset_eq]
          rcases inP_iff.1 hk2 with q2 | rfl
          · rw [bset_ne _ _ (hne k q2)]; exact fun e => hxb k q2 e.symm
          · exact absurd rfl hjk
    · exact hh e (by simp [he])
  · rcases har b o h1 with h3 | h3
    · exact hx e (by simp [he]) (by simp [Ent.wr]) b o h3 h2
    · exact hf2 e he (by simp [Ent.wr]) b o h3 h2
  · rcases List.mem_cons.1 he with rfl | he
    · rcases har b o hb with h3 | h3
      · exact hm (.cells b0 0 n x) (by simp) rfl b o h3
      · exact hm _ (by simp) rfl b o h3
    · exact hm e (by simp [he]) hw b o hb
/-- no object at all -/
theorem XM.cfamNil {g : Nat → Nat} {n : Nat} {C : Nat → Nat → Value} (h : XM W S H w) : XM W S (.cfam (fun _ => false) g n C :: H) w := by
  obtain ⟨⟨hh, hpw⟩, hk, hm⟩ := h
  refine ⟨⟨fun e he => ?_, List.pairwise_cons.2 ⟨fun e _ _ b o h1 _ => ?_, hpw⟩⟩, hk, fun e he hw b o hb => ?_⟩
  · rcases List.mem_cons.1 he with rfl | he
    · exact ⟨fun i hi => (by cases hi), fun i j hi => (by cases hi)⟩
    · exact hh e he
  · obtain ⟨i, hi, _⟩ := h1; cases hi
  · rcases List.mem_cons.1 he with rfl | he
    · obtain ⟨i, hi, _⟩ := hb; cases hi
    · exact hm e he hw b o hb
theorem XM.famNil {r : Nat → RowD} (h : XM W S H w) : XM W S (.fam (fun _ => false) r :: H) w := by
  obtain ⟨⟨hh, hpw⟩, hk, hm⟩ := h
  refine ⟨⟨fun e he => ?_, List.pairwise_cons.2 ⟨fun e _ _ b o h1 _ => ?_, hpw⟩⟩, hk, fun e he hw b o hb => ?_⟩
  · rcases List.mem_cons.1 he with rfl | he
    · exact ⟨fun i hi => (by cases hi), fun i j b hi => (by cases hi)⟩
    · exact hh e he
  · obtain ⟨i, hi, _⟩ := h1; cases hi
  · rcases List.mem_cons.1 he with rfl | he
    · obtain ⟨i, hi, _⟩ := hb; cases hi
    · exact hm e he hw b o hb
end
end Go.X
