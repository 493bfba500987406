import Derived.Test.YtpnddggohipdnaaDoorXFrow
namespace Go.X
open Go
section
variable {P : Program} {n : Fr} {Q : Exit → Act → World → Prop} {L : PF} {ops : Md} {rest : List Oper} {ty : TypeId} {pos : String} {af : Array Edge} {d : Nat}
variable {W : World} {S : Nat → Nat → Prop} {H H' : List Ent}
/-- one value put into a row -/
theorem XO.storeF {t : TypeId} {x y : Operand} {g cap sz k i : Nat} {e : TypeId} {C C' : Nat → Value} {v : Value} (hx : ev L x = some (ptr g 0 i)) (hy : ev L y = some v) (hH : Put H (frow (some ⟨g, 0, none⟩) cap e sz k C) (frow (some ⟨g, 0, none⟩) cap e sz k C') H')
    (hi : i < k * sz ∧ upd C i v = C') (hv : one v = true) (hs : szOf P t = some 1)
    (h : XO P n ops Q rest L (XM W S H')) : XO P n ops Q (⟨none, .store t x y, ty, pos, af, none⟩ :: rest) L (XM W S H) :=
  XO.op rfl fun a w ha hw => by
    obtain ⟨H1, hd, hp⟩ := hH.del
    have hw1 := hw.perm hd.perm
    have hr := run_store_frow (P := P) (show (frow (some ⟨g, 0, none⟩) cap e sz k C).holds w from hw1.good.1 _ (by simp)) hi.1 hv
    have hx' := hw1.setFrow .here hi.1 v
    rw [hi.2] at hx'
    have hst : (execOp a.eval ⟨none, .store t x y, ty, pos, af, none⟩).run P w = .ok .skip (w.setCell ⟨g, i, none⟩ v) := by
      have h0 : (⟨g, i, none⟩ : Addr).add 0 = ⟨g, i, none⟩ := rfl
      simp [execOp, ev_eval ha hx, ev_eval ha hy, Instr.storeAt, Instr.sureAddr, ptr, storeVar, one_cells hv, run_sizeOf hs, storeCells, h0, hr]
    unfold Oper.wp
    rw [hst]
    exact h _ _ ha (hx'.perm hp)
/-- a row put behind a row -/
theorem XO.appendRow {t e : TypeId} {x y : Operand} {p : Option Addr} {k cap m c sz g : Nat} {xs ys : List Value} (hx : ev L x = some (.slice p k cap)) (hy : ev L y = some (.slice (some ⟨g, 0, none⟩) m c))
    (ht : P.underlying t = some (.slice e)) (hr : rowT P e sz = true) (hH : Del H (.row (.slice p k cap) e sz k xs) H') (hN : Has H (.row (.slice (some ⟨g, 0, none⟩) m c) e sz m ys)) (h1 : ys.all one = true) (hk : k + m ≤ 100000000000) (hd : Nat.blt d n.sz = true)
    (h : ∀ p' cap', XO P n ops Q rest ((d, .slice p' (k + m) cap') :: L) (XM W S (.row (.slice p' (k + m) cap') e sz (k + m) (xs ++ ys) :: H'))) :
    XO P n ops Q (⟨some d, .call ⟨.builtin .append, #[x, y], #[t, t]⟩, ty, pos, af, none⟩ :: rest) L (XM W S H) :=
  XO.op rfl fun a w ha hw => by
    have hsrc : (Ent.row (.slice (some ⟨g, 0, none⟩) m c) e sz m ys).holds w := hw.good.1 _ hN.mem
    have hrow : (Ent.row (.slice p k cap) e sz k xs).holds w := hw.good.1 _ (hH.perm.mem_iff.2 (by simp))
    by_cases hm : 0 < m
    · obtain ⟨p', cap', w', h3, h4, h5, h6⟩ := run_append_row (ty := ty) (c := c) (b := g) (news := ys) ht hr hrow hm hsrc.1 (World.ownsRow.cells hsrc (g := g) rfl) (fun u hu => oneCell_of (List.all_eq_true.1 h1 u hu)) hk
      have hx2 := hw.write hH rfl h6 h5 h4
      unfold Oper.wp
      have : (execOp a.eval ⟨some d, .call ⟨.builtin .append, #[x, y], #[t, t]⟩, ty, pos, af, none⟩).run P w = .ok (.value (.slice p' (k + m) cap')) w' := by
        simp [execOp, resolve, invoke, builtin, ev_eval ha hx, ev_eval ha hy, h3]
      rw [this]
      exact h _ _ _ _ (ha.put hd _) hx2
    · have hm0 : m = 0 := by omega
      subst hm0
      have hys : ys = [] := List.eq_nil_of_length_eq_zero (by simpa using hsrc.1)
      subst hys
      have hkc : k ≤ cap := frow_len hrow
      obtain ⟨i, z, hi, hz, hsize, hby, hzs, hsz⟩ := rowT_spec hr
      have h3 : (Builtin.append_ #[t, t] ty #[.slice p k cap, .slice (some ⟨g, 0, none⟩) 0 c]).run P w = .ok (.slice p (k + 0) cap) w := by
        cases p with
        | none => simp [Builtin.append_, run_underlying ht, Builtin.lenOf, Builtin.firstCells, loadCells, loadCellsFrom, hkc, sizeOf, run_typeInfo hi, hi]
        | some q => simp [Builtin.append_, run_underlying ht, Builtin.lenOf, Builtin.firstCells, loadCells, loadCellsFrom, storeCells, hkc, sizeOf, run_typeInfo hi, hi]
      have hx2 : XM W S (.row (.slice p (k + 0) cap) e sz (k + 0) (xs ++ []) :: H') w := by
        simpa using hw.perm hH.perm
      unfold Oper.wp
      have : (execOp a.eval ⟨some d, .call ⟨.builtin .append, #[x, y], #[t, t]⟩, ty, pos, af, none⟩).run P w = .ok (.value (.slice p (k + 0) cap)) w := by
        simp only [Nat.add_zero] at h3 ⊢
        simp [execOp, resolve, invoke, builtin, ev_eval ha hx, ev_eval ha hy, h3]
      rw [this]
      exact h _ _ _ _ (ha.put hd _) hx2
theorem run_equalIn_sl_nil (k : Nat) {t e : TypeId} {w : World} {p : Option Addr} {l c : Nat} (ht : P.underlying t = some (.slice e)) : (Op.equalIn (k + 1) t (.slice p l c) (.slice none 0 0)).run P w = .ok p.isNone w := by
  cases p <;> simp only [Op.equalIn, Sem.run_bind, run_underlying ht, Result.andThen_ok, Sem.run_pure, Option.isNone]
theorem V.sliceNil {op : BinOp} {t t' e : TypeId} {x : Operand} {p : Option Addr} {l c : Nat} {r : Bool} {φ : World → Prop} {gd : Option (Nat × Bool)} (hx : ev L x = some (.slice p l c)) (ht : P.underlying t = some (.slice e))
    (hr : (match op with | .eql => some (decide (p = none)) | .neq => some (decide (p ≠ none)) | _ => none) = some r) :
    RunsTo P n L φ ⟨some d, .binOp op t x (.const (.slice none 0 0)) t', ty, pos, af, gd⟩ (.bool r) := fun a w ha _ => by
  have he : (Op.equal t (.slice p l c) (.slice none 0 0)).run P w = .ok p.isNone w := run_equalIn_sl_nil 9999 ht
  have hy : a.eval (.const (.slice none 0 0)) = .slice none 0 0 := rfl
  have b1 : binOp .eql t (.slice p l c) (.slice none 0 0) = (do pure (.bool (← Op.equal t (.slice p l c) (.slice none 0 0)))) := rfl
  have b2 : binOp .neq t (.slice p l c) (.slice none 0 0) = (do pure (.bool (!(← Op.equal t (.slice p l c) (.slice none 0 0))))) := rfl
  have g1 : eqGuard .eql t x (.const (.slice none 0 0)) (.slice p l c) (.slice none 0 0) = pure () := rfl
  have g2 : eqGuard .neq t x (.const (.slice none 0 0)) (.slice p l c) (.slice none 0 0) = pure () := rfl
  cases op <;> simp only [Option.some.injEq] at hr <;> (try cases hr) <;>
    simp only [execOp, ev_eval ha hx, hy, b1, b2, g1, g2] <;> cases p <;> simp [he]
theorem XC.rowNil {k cap sz : Nat} {e : TypeId} {xs : List Value} {c : Code} (hH : Has H (.row (.slice none k cap) e sz k xs))
    (h : k = 0 → XC P n c Q L (XM W S H)) : XC P n c Q L (XM W S H) := fun a w ha hw => by
  rcases (hw.good.1 _ hH.mem).2 with ⟨_, h0⟩ | ⟨g, cap', cur, hv, _⟩
  · exact h h0 a w ha hw
  · simp at hv
theorem XC.rowAt {p : Option Addr} {k cap sz : Nat} {e : TypeId} {xs : List Value} {c : Code} (hH : Has H (.row (.slice p k cap) e sz k xs)) (hp : ¬ p = none)
    (h : ∀ g, p = some ⟨g, 0, none⟩ → XC P n c Q L (XM W S H)) : XC P n c Q L (XM W S H) := fun a w ha hw => by
  rcases (hw.good.1 _ hH.mem).2 with ⟨hv, _⟩ | ⟨g, cap', cur, hv, _⟩
  · simp only [Value.slice.injEq] at hv
    exact absurd hv.1 hp
  · simp only [Value.slice.injEq] at hv
    exact h g hv.1 a w ha hw
end
end Go.X
