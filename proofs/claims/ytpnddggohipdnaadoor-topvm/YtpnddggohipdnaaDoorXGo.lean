import Derived.Test.YtpnddggohipdnaaDoorXMore
import Derived.Test.YtpnddggohipdnaaDoorXRun
namespace Go.X
open Go
/-! ### the forms of values, found by themselves -/
class Rf (v : Value) (s : outParam SV) : Prop where
  h : s.den = v
class RfW (v : Value) (s : outParam SW) : Prop where
  h : s.den = v
class RfA (l : List Value) (r : outParam (List SV)) : Prop where
  h : dens r = l
class RfL (L : PF) (r : outParam SF) : Prop where
  h : dn r = L
instance (priority := low) (v : Value) : Rf v (.val v) := ⟨rfl⟩
instance (k : IntKind) (z : Int) : Rf (.int k z) (.int k z) := ⟨rfl⟩
instance (s : ByteArray) : Rf (.string s) (.str s) := ⟨rfl⟩
instance (b o i : Nat) : Rf (ptr b o i) (.ptr b o i) := ⟨rfl⟩
instance : Rf .nilIface .nil := ⟨rfl⟩
instance (T : TypeId) (e : Int) : Rf (errv T e) (.err T e) := ⟨rfl⟩
instance (T : TypeId) (v : Value) : Rf (.iface T v) (.ifc T v) := ⟨rfl⟩
instance : Rf (.pointer none) .pn := ⟨rfl⟩
instance (priority := high) : Rf (.bool true) .tt := ⟨rfl⟩
instance (priority := high) : Rf (.bool false) .ff := ⟨rfl⟩
instance (p : Prop) (i : Decidable p) : Rf (.bool (@decide p i)) (@SV.dec p i) := ⟨rfl⟩
instance (priority := 900) (b : Bool) : Rf (.bool b) (.bool b) := ⟨rfl⟩
instance (p : Option Addr) (n c : Nat) : Rf (.slice p n c) (.slc p n c) := ⟨rfl⟩
instance : Rf undef .un := ⟨rfl⟩
instance (priority := high) (s : SV) : Rf s.den s := ⟨rfl⟩
instance (priority := low) (v : Value) (s : SV) [h : Rf v s] : RfW v (.one s) := ⟨h.h⟩
instance : RfA [] [] := ⟨rfl⟩
instance (v : Value) (s : SV) (l : List Value) (r : List SV) [h : Rf v s] [k : RfA l r] : RfA (v :: l) (s :: r) := ⟨by rw [dens, h.h, k.h]⟩
instance (l : List Value) (r : List SV) [h : RfA l r] : RfW (.tuple l.toArray) (.tup r) := ⟨by rw [SW.den, h.h]⟩
instance (priority := high) (s : SW) : RfW s.den s := ⟨rfl⟩
instance : RfL [] [] := ⟨rfl⟩
instance (i : Nat) (v : Value) (s : SW) (L : PF) (r : SF) [h : RfW v s] [k : RfL L r] : RfL ((i, v) :: L) ((i, s) :: r) := ⟨by rw [dn, h.h, k.h]⟩
instance (priority := high) (r : SF) : RfL (dn r) r := ⟨rfl⟩
instance (i : Nat) : RfL (ofArgs i []) [] := ⟨rfl⟩
instance (i : Nat) (v : Value) (s : SW) (l : List Value) (r : SF) [h : RfW v s] [k : RfL (ofArgs (i + 1) l) r] : RfL (ofArgs i (v :: l)) ((i, s) :: r) := ⟨by rw [dn, h.h, k.h]; rfl⟩
section
variable {P : Program} {n : Fr} {Q0 : Exit → Act → World → Prop} {M M' : World → Prop} {K : List Fm} {L : SF} {L' : PF} {md : Md} {l : List Oper} {c a b : Code}
/-- on from here -/
theorem gO [Tb P] [h : RfL L' L] (k : Run P n Q0 M 3000 K (.o md l) L) : XO P n md (den P Q0 K) l L' M := by
  rw [← h.h]; exact run_ok _ _ (.o _ _) _ k
theorem gC [Tb P] [h : RfL L' L] (k : Run P n Q0 M 3000 K (.c c) L) : XC P n c (den P Q0 K) L' M := by
  rw [← h.h]; exact run_ok _ _ (.c _) _ k
theorem gE [Tb P] {x : Exit} [h : RfL L' L] (k : Run P n Q0 M 3000 K (.e x) L) : XE n (den P Q0 K) x L' M := by
  rw [← h.h]; exact run_ok _ _ (.e _) _ k
theorem gS [Tb P] (k : Run P n Q0 M 3000 (.sq b :: K) (.c a) L) : XC P n (.seq a b) (den P Q0 K) (dn L) M := XC.seq (run_ok _ _ (.c _) _ k)
theorem Spec.go [Tb P] {f : FuncId} {fn : Func} {args : List Value} {pre : List Ent} {post : Value → List Ent → Prop} (k : Nat) (ps : List Nat) (cs : List (Nat × Nat)) (hf : P.funcs[f]? = some fn) (hb : fn.body = some c) (hk : fn.ntmps = k) (hn : Nat.ble args.length fn.ntmps = true)
    [r : RfL (ofArgs 0 args) L] (h : ∀ W, Run P (fr k ps cs) (bodyPost P fn fun e w' => ∃ v H', e = .returned v ∧ post v H' ∧ H'.all Ent.wr = true ∧ XM W (foot pre) H' w') (XM W (foot pre) pre) 3000 [] (.c c) L) : Spec P f args pre post := by
  subst hk
  intro w hg
  refine enter (ps := ps) (cs := cs) hf hb hn ?_ (XM.start hg)
  rw [← r.h]
  exact run_ok _ [] (.c _) _ (h w)
/-- a region whose order is open -/
theorem rq [Tb P] {i : Nat} {os : List Oper} {W : World} {S : Nat → Nat → Prop} {H : List Ent} (r : List Nat) (hm : P.follows .mixedOrders = true) (hz : (zOk os.toArray (Array.replicate os.length false) r && Nat.beq r.length os.length && r.all (Nat.blt · os.length)) = true)
    (k : Run P n Q0 (XM W S H) 3000 K (.o (.op os.toArray) (pickO os r)) L) : XC P n (.region i os.toArray true) (den P Q0 K) (dn L) (XM W S H) := XC.rq r hm hz (fun w k h => h.drawn k) (run_ok _ _ (.o _ _) _ k)
/-- a way that forks -/
theorem cd [Tb P] {x : Operand} {p : Prop} {i : Decidable p} (hc : ev (dn L) x = some (.bool (@decide p i))) (ht : p → Run P n Q0 M 3000 K (.c a) L) (hf : ¬ p → Run P n Q0 M 3000 K (.c b) L) : XC P n (.cond x a b) (den P Q0 K) (dn L) M :=
  XC.condP hc (fun h => run_ok _ _ (.c _) _ (ht h)) (fun h => run_ok _ _ (.c _) _ (hf h))
theorem cdB [Tb P] {x : Operand} {t : Bool} (hc : ev (dn L) x = some (.bool t)) (ht : t = true → Run P n Q0 M 3000 K (.c a) L) (hf : t = false → Run P n Q0 M 3000 K (.c b) L) : XC P n (.cond x a b) (den P Q0 K) (dn L) M :=
  XC.cond hc (fun h => run_ok _ _ (.c _) _ (ht h)) (fun h => run_ok _ _ (.c _) _ (hf h))
theorem cdT [Tb P] {x : Operand} {p : Prop} {i : Decidable p} (hc : ev (dn L) x = some (.bool (@decide p i))) (h : p) (ht : Run P n Q0 M 3000 K (.c a) L) : XC P n (.cond x a b) (den P Q0 K) (dn L) M := XC.condTP hc h (run_ok _ _ (.c _) _ ht)
theorem cdF [Tb P] {x : Operand} {p : Prop} {i : Decidable p} (hc : ev (dn L) x = some (.bool (@decide p i))) (h : ¬ p) (hf : Run P n Q0 M 3000 K (.c b) L) : XC P n (.cond x a b) (den P Q0 K) (dn L) M := XC.condFP hc h (run_ok _ _ (.c _) _ hf)
theorem cdBT [Tb P] {x : Operand} {t : Bool} (hc : ev (dn L) x = some (.bool t)) (h : t = true) (ht : Run P n Q0 M 3000 K (.c a) L) : XC P n (.cond x a b) (den P Q0 K) (dn L) M := XC.condT hc h (run_ok _ _ (.c _) _ ht)
theorem cdBF [Tb P] {x : Operand} {t : Bool} (hc : ev (dn L) x = some (.bool t)) (h : t = false) (hf : Run P n Q0 M 3000 K (.c b) L) : XC P n (.cond x a b) (den P Q0 K) (dn L) M := XC.condF hc h (run_ok _ _ (.c _) _ hf)
theorem sp [Tb P] (d : Nat) {p : Prop} {i : Decidable p} (hl : lk (dn L) d = some (.bool (@decide p i))) (ht : p → Run P n Q0 M 3000 K (.o md l) ((d, .one .tt) :: L)) (hf : ¬ p → Run P n Q0 M 3000 K (.o md l) ((d, .one .ff) :: L)) : XO P n md (den P Q0 K) l (dn L) M :=
  XO.splitP hl (fun h => run_ok _ _ (.o _ _) ((d, .one .tt) :: L) (ht h)) (fun h => run_ok _ _ (.o _ _) ((d, .one .ff) :: L) (hf h))
theorem spB [Tb P] (d : Nat) {t : Bool} (hl : lk (dn L) d = some (.bool t)) (ht : t = true → Run P n Q0 M 3000 K (.o md l) ((d, .one .tt) :: L)) (hf : t = false → Run P n Q0 M 3000 K (.o md l) ((d, .one .ff) :: L)) : XO P n md (den P Q0 K) l (dn L) M :=
  XO.split hl (fun h => run_ok _ _ (.o _ _) ((d, .one .tt) :: L) (ht h)) (fun h => run_ok _ _ (.o _ _) ((d, .one .ff) :: L) (hf h))
theorem spT [Tb P] (d : Nat) {p : Prop} {i : Decidable p} (hl : lk (dn L) d = some (.bool (@decide p i))) (h : p) (ht : Run P n Q0 M 3000 K (.o md l) ((d, .one .tt) :: L)) : XO P n md (den P Q0 K) l (dn L) M := XO.splitT hl h (run_ok _ _ (.o _ _) ((d, .one .tt) :: L) ht)
theorem spF [Tb P] (d : Nat) {p : Prop} {i : Decidable p} (hl : lk (dn L) d = some (.bool (@decide p i))) (h : ¬ p) (hf : Run P n Q0 M 3000 K (.o md l) ((d, .one .ff) :: L)) : XO P n md (den P Q0 K) l (dn L) M := XO.splitF hl h (run_ok _ _ (.o _ _) ((d, .one .ff) :: L) hf)
/-- a loop -/
theorem lp {σ : Type} (m : σ → Nat) (V : σ → Prop) (I : σ → PF) (J : σ → World → Prop) (x₀ : σ) (hv : V x₀) (h₀ : Sub (dn L) (I x₀)) (hj : ∀ w, M w → J x₀ w)
    (round : ∀ x, V x → XC P n c (den P Q0 (.th (fun a' w' => ∃ x', m x' < m x ∧ V x' ∧ Sat n (I x') a' ∧ J x' w') :: K)) (I x) (J x)) : XC P n (.loop c) (den P Q0 K) (dn L) M := XC.loop m V I J x₀ hv h₀ hj round
theorem ag {σ : Type} {m : σ → Nat} {V : σ → Prop} {I : σ → PF} {J : σ → World → Prop} {x : σ} (x' : σ) (hm : m x' < m x) (hv : V x') (hs : Sub L' (I x')) (hj : ∀ w, M w → J x' w) :
    XE n (den P Q0 (.th (fun a' w' => ∃ x', m x' < m x ∧ V x' ∧ Sat n (I x') a' ∧ J x' w') :: K)) .normal L' M := XE.again x' hm hv hs hj
/-- where ways meet -/
theorem ct (K' : PF) (M' : World → Prop) [Tb P] (hc : Run P n Q0 M 3000 (.th (fun a w => Sat n K' a ∧ M' w) :: K) (.c a) L) (hd : XC P n b (den P Q0 K) K' M') : XC P n (.seq a b) (den P Q0 K) (dn L) M := XC.cut K' M' (run_ok _ (_ :: K) (.c _) _ hc) hd
theorem mt {K' : PF} (hs : Sub L' K') (hm : ∀ w, M w → M' w) : XE n (den P Q0 (.th (fun a w => Sat n K' a ∧ M' w) :: K)) .normal L' M := XE.meet hs hm
theorem ctG {σ : Type} (V : σ → Prop) (I : σ → PF) (J : σ → World → Prop) [Tb P] (hc : Run P n Q0 M 3000 (.th (fun a w => ∃ x, V x ∧ Sat n (I x) a ∧ J x w) :: K) (.c a) L) (hd : ∀ x, V x → XC P n b (den P Q0 K) (I x) (J x)) : XC P n (.seq a b) (den P Q0 K) (dn L) M := XC.cutG V I J (run_ok _ (_ :: K) (.c _) _ hc) hd
theorem mtG {σ : Type} {V : σ → Prop} {I : σ → PF} {J : σ → World → Prop} (x : σ) (hv : V x) (hs : Sub L' (I x)) (hj : ∀ w, M w → J x w) : XE n (den P Q0 (.th (fun a w => ∃ x, V x ∧ Sat n (I x) a ∧ J x w) :: K)) .normal L' M := XE.meetG x hv hs hj
end
/-! ### memory underway -/
section
variable {P : Program} {n : Fr} {Q0 : Exit → Act → World → Prop} {M M' : World → Prop} {K : List Fm} {L : SF} {W : World} {S : Nat → Nat → Prop} {H : List Ent} {f : Nat} {s : St}
theorem XR.mono [Tb P] (hm : ∀ w, M w → M' w) (h : Run P n Q0 M' f K s L) : Run P n Q0 M f K s L := run_mono hm f K s L h
theorem XR.fact [Tb P] {φ : Prop} (hφ : ∀ w, M w → φ) (h : φ → Run P n Q0 M f K s L) : Run P n Q0 M f K s L := run_fact hφ h
theorem XR.openRow [Tb P] {p : Option Addr} {k cap sz : Nat} {e : TypeId} {xs : List Value} (hH : Has H (.row (.slice p k cap) e sz k xs)) (hk : 0 < k)
    (h : ∀ g, p = some ⟨g, 0, none⟩ → Run P n Q0 (XM W S H) f K s L) : Run P n Q0 (XM W S H) f K s L :=
  run_fact (φ := ∃ g, p = some ⟨g, 0, none⟩) (fun w hw => by
    rcases (hw.good.1 _ hH.mem).2 with ⟨_, h0⟩ | ⟨g, cap', cur, hv, _⟩
    · omega
    · simp only [Value.slice.injEq] at hv; exact ⟨g, hv.1⟩) (fun ⟨g, hg⟩ => h g hg)
theorem XR.rowLen [Tb P] {p : Option Addr} {k cap sz : Nat} {e : TypeId} {xs : List Value} (hH : Has H (.row (.slice p k cap) e sz k xs))
    (h : k ≤ cap → Run P n Q0 (XM W S H) f K s L) : Run P n Q0 (XM W S H) f K s L := run_fact (fun w hw => frow_len (hw.good.1 _ hH.mem)) h
theorem XR.nilRow [Tb P] (e : TypeId) (sz : Nat) (h : Run P n Q0 (XM W S (.row (.slice none 0 0) e sz 0 [] :: H)) f K s L) : Run P n Q0 (XM W S H) f K s L := run_mono (fun _ hw => hw.nilRow e sz) f K s L h
theorem XR.rowNil [Tb P] {k cap sz : Nat} {e : TypeId} {xs : List Value} (hH : Has H (.row (.slice none k cap) e sz k xs))
    (h : k = 0 → Run P n Q0 (XM W S H) f K s L) : Run P n Q0 (XM W S H) f K s L := run_fact (fun w hw => by
  rcases (hw.good.1 _ hH.mem).2 with ⟨_, h0⟩ | ⟨g, cap', cur, hv, _⟩
  · exact h0
  · simp at hv) h
theorem XR.rowAt [Tb P] {p : Option Addr} {k cap sz : Nat} {e : TypeId} {xs : List Value} (hH : Has H (.row (.slice p k cap) e sz k xs)) (hp : ¬ p = none)
    (h : ∀ g, p = some ⟨g, 0, none⟩ → Run P n Q0 (XM W S H) f K s L) : Run P n Q0 (XM W S H) f K s L :=
  run_fact (φ := ∃ g, p = some ⟨g, 0, none⟩) (fun w hw => by
    rcases (hw.good.1 _ hH.mem).2 with ⟨hv, _⟩ | ⟨g, cap', cur, hv, _⟩
    · simp only [Value.slice.injEq] at hv; exact absurd hv.1 hp
    · simp only [Value.slice.injEq] at hv; exact ⟨g, hv.1⟩) (fun ⟨g, hg⟩ => h g hg)
end
/-! ### rules at halts -/
section
variable {P : Program} {n : Fr} {Q0 : Exit → Act → World → Prop} {M : World → Prop} {K : List Fm} {md : Md} {r : List Oper} {L : SF} {W : World} {S : Nat → Nat → Prop} {H H' : List Ent}
variable {t : TypeId} {d : Nat} {x y : Operand} {ty : TypeId} {pos : String} {af : Array Edge} {b o i k m : Nat} {C C' : Nat → Value} {v : Value} {s : SV}
theorem sd {q R X : Prop} (h : q) (kk : R) : Sd q R X := .inl ⟨h, kk⟩
theorem oV {q R X : Prop} (h : X) : Sd q R X := .inr h
theorem hd3 {t : TypeId} (h : Nat.blt d n.sz = true) : (Nat.blt d n.sz && (!isE (.load t x) && isR (.load t x))) = true := by rw [h]; rfl
theorem oL (h : XO P n md (den P Q0 K) (⟨some d, .load t x, ty, pos, af, none⟩ :: r) (dn L) M) : LdG P n Q0 M K md r L t d x ty pos af b o i := fun _ _ _ => h
theorem oA (h : XO P n md (den P Q0 K) (⟨some d, .load t x, ty, pos, af, none⟩ :: r) (dn L) M) : LdA P n Q0 M K md r L t d x ty pos af b o i k := fun _ _ _ _ => h
theorem oS (h : XO P n md (den P Q0 K) (⟨none, .store t x y, ty, pos, af, none⟩ :: r) (dn L) M) : StG P n Q0 M K md r L t x y ty pos af b o i k s := fun _ _ _ => h
theorem oC {f : FuncId} {xs : List Operand} {ats : Array TypeId} {vs : List Value} (h : XO P n md (den P Q0 K) (⟨some d, .call ⟨.value (.func f), xs.toArray, ats⟩, ty, pos, af, none⟩ :: r) (dn L) M) : CaG P n Q0 M K md r L d f xs ats ty pos af vs := fun _ _ _ => h
theorem ldV [Tb P] [h : Rf v s] (hv : ∀ {t : TypeId}, ev (dn L) x = some (ptr b o i) → scal P t = true → RunsTo P n (dn L) M ⟨some d, .load t x, ty, pos, af, none⟩ v) (kk : Run P n Q0 M 3000 K (.o md r) ((d, .one s) :: L)) : LdG P n Q0 M K md r L t d x ty pos af b o i := fun hx ht hd =>
  XO.l (hv hx ht) (hd3 hd) (by have := run_ok _ _ (.o _ _) _ kk; rw [← h.h]; exact this)
theorem ldW [Tb P] [h : Rf v s] (hv : ∀ {t : TypeId}, ev (dn L) x = some (ptr b o i) → aggT P t = true → szOf P t = some k → RunsTo P n (dn L) M ⟨some d, .load t x, ty, pos, af, none⟩ v) (kk : Run P n Q0 M 3000 K (.o md r) ((d, .one s) :: L)) : LdA P n Q0 M K md r L t d x ty pos af b o i k := fun hx ht hs hd =>
  XO.l (hv hx ht hs) (hd3 hd) (by have := run_ok _ _ (.o _ _) _ kk; rw [← h.h]; exact this)
theorem ld [Tb P] [Rf v s] (hH : Has H (.cells b o m C)) (hv : i < m ∧ C i = v) (kk : Run P n Q0 (XM W S H) 3000 K (.o md r) ((d, .one s) :: L)) : LdG P n Q0 (XM W S H) K md r L t d x ty pos af b o i := ldV (fun hx ht => V.load hx (inXM hH) hv ht) kk
theorem ldRo [Tb P] [Rf v s] (hH : Has H (.ro b o m C)) (hv : i < m ∧ C i = v) (kk : Run P n Q0 (XM W S H) 3000 K (.o md r) ((d, .one s) :: L)) : LdG P n Q0 (XM W S H) K md r L t d x ty pos af b o i := ldV (fun hx ht => V.loadRo hx (inXM hH) hv ht) kk
theorem ldF [Tb P] [Rf v s] {cap sz : Nat} {e : TypeId} (hH : Has H (frow (some ⟨b, 0, none⟩) cap e sz k C)) (hv : i < k * sz ∧ C i = v) (kk : Run P n Q0 (XM W S H) 3000 K (.o md r) ((d, .one s) :: L)) : LdG P n Q0 (XM W S H) K md r L t d x ty pos af b 0 i := ldV (fun hx ht => V.loadF hx (inXM hH) hv ht) kk
theorem ldR [Tb P] [Rf v s] {cap sz : Nat} {e : TypeId} {xs : List Value} (hH : Has H (.row (.slice (some ⟨b, 0, none⟩) k cap) e sz k xs)) (hv : xs[i]? = some v) (kk : Run P n Q0 (XM W S H) 3000 K (.o md r) ((d, .one s) :: L)) : LdG P n Q0 (XM W S H) K md r L t d x ty pos af b 0 i := ldV (fun hx ht => V.loadRow hx (inXM hH) hv ht) kk
theorem ldA [Tb P] [Rf v s] (hH : Has H (.cells b o m C)) (hv : i + k ≤ m ∧ aggOf C i k = v) (kk : Run P n Q0 (XM W S H) 3000 K (.o md r) ((d, .one s) :: L)) : LdA P n Q0 (XM W S H) K md r L t d x ty pos af b o i k := ldW (fun hx ht hs => V.loadAgg hx (inXM hH) hv ht hs) kk
theorem ldARo [Tb P] [Rf v s] (hH : Has H (.ro b o m C)) (hv : i + k ≤ m ∧ aggOf C i k = v) (kk : Run P n Q0 (XM W S H) 3000 K (.o md r) ((d, .one s) :: L)) : LdA P n Q0 (XM W S H) K md r L t d x ty pos af b o i k := ldW (fun hx ht hs => V.loadAggRo hx (inXM hH) hv ht hs) kk
theorem ldAF [Tb P] [Rf v s] {cap sz l : Nat} {e : TypeId} (hH : Has H (frow (some ⟨b, 0, none⟩) cap e sz l C)) (hv : i + k ≤ l * sz ∧ aggOf C i k = v) (kk : Run P n Q0 (XM W S H) 3000 K (.o md r) ((d, .one s) :: L)) : LdA P n Q0 (XM W S H) K md r L t d x ty pos af b 0 i k := ldW (fun hx ht hs => V.loadFA hx (inXM hH) hv ht hs) kk
theorem st [Tb P] (hH : Put H (.cells b o m C) (.cells b o m C') H') (hi : i < m ∧ upd C i s.den = C') (hv : one s.den = true) (kk : Run P n Q0 (XM W S H') 3000 K (.o md r) L) : StG P n Q0 (XM W S H) K md r L t x y ty pos af b o i 1 s := fun hx hy hs => XO.store hx hy hH hi hv hs (run_ok _ _ (.o _ _) _ kk)
theorem stA [Tb P] {cs : Array Value} (hH : Put H (.cells b o m C) (.cells b o m C') H') (hi : i + k ≤ m ∧ updL C i cs.toList = C') (hs' : s.den = .agg cs) (hv : cs.toList.all one = true ∧ cs.size = k) (kk : Run P n Q0 (XM W S H') 3000 K (.o md r) L) : StG P n Q0 (XM W S H) K md r L t x y ty pos af b o i k s := fun hx hy hs => XO.storeAgg hx (hs' ▸ hy) hH hi hv hs (run_ok _ _ (.o _ _) _ kk)
theorem stF [Tb P] {cap sz l : Nat} {e : TypeId} (hH : Put H (frow (some ⟨b, 0, none⟩) cap e sz l C) (frow (some ⟨b, 0, none⟩) cap e sz l C') H') (hi : i < l * sz ∧ upd C i s.den = C') (hv : one s.den = true) (kk : Run P n Q0 (XM W S H') 3000 K (.o md r) L) : StG P n Q0 (XM W S H) K md r L t x y ty pos af b 0 i 1 s := fun hx hy hs => XO.storeF hx hy hH hi hv hs (run_ok _ _ (.o _ _) _ kk)
theorem stFA [Tb P] {cap sz l : Nat} {e : TypeId} {cs : Array Value} (hH : Put H (frow (some ⟨b, 0, none⟩) cap e sz l C) (frow (some ⟨b, 0, none⟩) cap e sz l C') H') (hi : i + k ≤ l * sz ∧ updL C i cs.toList = C') (hs' : s.den = .agg cs) (hv : cs.toList.all one = true ∧ cs.size = k) (kk : Run P n Q0 (XM W S H') 3000 K (.o md r) L) : StG P n Q0 (XM W S H) K md r L t x y ty pos af b 0 i k s := fun hx hy hs => XO.storeFA hx (hs' ▸ hy) hH hi hv hs (run_ok _ _ (.o _ _) _ kk)
theorem ca {f : FuncId} {xs : List Operand} {ats : Array TypeId} {vs : List Value} {pre F : List Ent} {post : Value → List Ent → Prop} (hs : Spec P f vs pre post) (hp : Pick H pre F) (kk : ∀ v H1, post v H1 → XO P n md (den P Q0 K) r ((d, v) :: dn L) (XM W S (H1 ++ F))) : CaG P n Q0 (XM W S H) K md r L d f xs ats ty pos af vs := fun he hc hd => XO.call he hs hp hc hd kk
theorem caR {f : FuncId} {xs : List Operand} {ats : Array TypeId} {vs : List Value} {pre F : List Ent} {post : Value → List Ent → Prop} (j : Nat) (hs : Spec P f vs pre post) (hp : Pick H pre F) (hR : (pre.drop j).all (fun e => !e.wr) = true) (kk : ∀ v H1, post v H1 → XO P n md (den P Q0 K) r ((d, v) :: dn L) (XM W S (H1 ++ (pre.drop j ++ F)))) : CaG P n Q0 (XM W S H) K md r L d f xs ats ty pos af vs := fun he hc hd => XO.callR j he hs hp hR hc hd kk
end
/-! ### what is known, shortened -/
section
variable {L : PF} {a1 a2 a3 a4 a5 a6 a7 a8 : Nat} {v1 v2 v3 v4 v5 v6 v7 v8 : Value} {R : PF}
theorem S1 (h1 : lk L a1 = some v1) : Sub L [(a1, v1)] := .cons h1 (.nil _)
theorem S2 (h1 : lk L a1 = some v1) (h2 : lk L a2 = some v2) : Sub L [(a1, v1), (a2, v2)] := .cons h1 (S1 h2)
theorem S3 (h1 : lk L a1 = some v1) (h2 : lk L a2 = some v2) (h3 : lk L a3 = some v3) : Sub L [(a1, v1), (a2, v2), (a3, v3)] := .cons h1 (S2 h2 h3)
theorem S4 (h1 : lk L a1 = some v1) (h2 : lk L a2 = some v2) (h3 : lk L a3 = some v3) (h4 : lk L a4 = some v4) : Sub L [(a1, v1), (a2, v2), (a3, v3), (a4, v4)] := .cons h1 (S3 h2 h3 h4)
theorem S5 (h1 : lk L a1 = some v1) (h2 : lk L a2 = some v2) (h3 : lk L a3 = some v3) (h4 : lk L a4 = some v4) (h5 : lk L a5 = some v5) : Sub L [(a1, v1), (a2, v2), (a3, v3), (a4, v4), (a5, v5)] := .cons h1 (S4 h2 h3 h4 h5)
theorem S6 (h1 : lk L a1 = some v1) (h2 : lk L a2 = some v2) (h3 : lk L a3 = some v3) (h4 : lk L a4 = some v4) (h5 : lk L a5 = some v5) (h6 : lk L a6 = some v6) : Sub L [(a1, v1), (a2, v2), (a3, v3), (a4, v4), (a5, v5), (a6, v6)] := .cons h1 (S5 h2 h3 h4 h5 h6)
end
/-! finding entries -/
theorem Has.t2 {H : List Ent} {e : Ent} {x0 x1 : Ent} (h : Has H e) : Has (x0 :: x1 :: H) e := .there (.there h)
theorem Has.t3 {H : List Ent} {e : Ent} {x0 x1 x2 : Ent} (h : Has H e) : Has (x0 :: x1 :: x2 :: H) e := .there (.t2 h)
theorem Has.t4 {H : List Ent} {e : Ent} {x0 x1 x2 x3 : Ent} (h : Has H e) : Has (x0 :: x1 :: x2 :: x3 :: H) e := .there (.t3 h)
theorem Has.t5 {H : List Ent} {e : Ent} {x0 x1 x2 x3 x4 : Ent} (h : Has H e) : Has (x0 :: x1 :: x2 :: x3 :: x4 :: H) e := .there (.t4 h)
theorem Has.t6 {H : List Ent} {e : Ent} {x0 x1 x2 x3 x4 x5 : Ent} (h : Has H e) : Has (x0 :: x1 :: x2 :: x3 :: x4 :: x5 :: H) e := .there (.t5 h)
theorem Has.t7 {H : List Ent} {e : Ent} {x0 x1 x2 x3 x4 x5 x6 : Ent} (h : Has H e) : Has (x0 :: x1 :: x2 :: x3 :: x4 :: x5 :: x6 :: H) e := .there (.t6 h)
theorem Has.t8 {H : List Ent} {e : Ent} {x0 x1 x2 x3 x4 x5 x6 x7 : Ent} (h : Has H e) : Has (x0 :: x1 :: x2 :: x3 :: x4 :: x5 :: x6 :: x7 :: H) e := .there (.t7 h)
theorem Has.t9 {H : List Ent} {e : Ent} {x0 x1 x2 x3 x4 x5 x6 x7 x8 : Ent} (h : Has H e) : Has (x0 :: x1 :: x2 :: x3 :: x4 :: x5 :: x6 :: x7 :: x8 :: H) e := .there (.t8 h)
theorem Has.t10 {H : List Ent} {e : Ent} {x0 x1 x2 x3 x4 x5 x6 x7 x8 x9 : Ent} (h : Has H e) : Has (x0 :: x1 :: x2 :: x3 :: x4 :: x5 :: x6 :: x7 :: x8 :: x9 :: H) e := .there (.t9 h)
theorem Has.t11 {H : List Ent} {e : Ent} {x0 x1 x2 x3 x4 x5 x6 x7 x8 x9 x10 : Ent} (h : Has H e) : Has (x0 :: x1 :: x2 :: x3 :: x4 :: x5 :: x6 :: x7 :: x8 :: x9 :: x10 :: H) e := .there (.t10 h)
theorem Has.t12 {H : List Ent} {e : Ent} {x0 x1 x2 x3 x4 x5 x6 x7 x8 x9 x10 x11 : Ent} (h : Has H e) : Has (x0 :: x1 :: x2 :: x3 :: x4 :: x5 :: x6 :: x7 :: x8 :: x9 :: x10 :: x11 :: H) e := .there (.t11 h)
theorem Del.t2 {H H2 : List Ent} {e : Ent} {x0 x1 : Ent} (h : Del H e H2) : Del (x0 :: x1 :: H) e (x0 :: x1 :: H2) := .there (.there h)
theorem Del.t3 {H H2 : List Ent} {e : Ent} {x0 x1 x2 : Ent} (h : Del H e H2) : Del (x0 :: x1 :: x2 :: H) e (x0 :: x1 :: x2 :: H2) := .there (.t2 h)
theorem Del.t4 {H H2 : List Ent} {e : Ent} {x0 x1 x2 x3 : Ent} (h : Del H e H2) : Del (x0 :: x1 :: x2 :: x3 :: H) e (x0 :: x1 :: x2 :: x3 :: H2) := .there (.t3 h)
theorem Del.t5 {H H2 : List Ent} {e : Ent} {x0 x1 x2 x3 x4 : Ent} (h : Del H e H2) : Del (x0 :: x1 :: x2 :: x3 :: x4 :: H) e (x0 :: x1 :: x2 :: x3 :: x4 :: H2) := .there (.t4 h)
theorem Del.t6 {H H2 : List Ent} {e : Ent} {x0 x1 x2 x3 x4 x5 : Ent} (h : Del H e H2) : Del (x0 :: x1 :: x2 :: x3 :: x4 :: x5 :: H) e (x0 :: x1 :: x2 :: x3 :: x4 :: x5 :: H2) := .there (.t5 h)
theorem Del.t7 {H H2 : List Ent} {e : Ent} {x0 x1 x2 x3 x4 x5 x6 : Ent} (h : Del H e H2) : Del (x0 :: x1 :: x2 :: x3 :: x4 :: x5 :: x6 :: H) e (x0 :: x1 :: x2 :: x3 :: x4 :: x5 :: x6 :: H2) := .there (.t6 h)
theorem Del.t8 {H H2 : List Ent} {e : Ent} {x0 x1 x2 x3 x4 x5 x6 x7 : Ent} (h : Del H e H2) : Del (x0 :: x1 :: x2 :: x3 :: x4 :: x5 :: x6 :: x7 :: H) e (x0 :: x1 :: x2 :: x3 :: x4 :: x5 :: x6 :: x7 :: H2) := .there (.t7 h)
theorem Del.t9 {H H2 : List Ent} {e : Ent} {x0 x1 x2 x3 x4 x5 x6 x7 x8 : Ent} (h : Del H e H2) : Del (x0 :: x1 :: x2 :: x3 :: x4 :: x5 :: x6 :: x7 :: x8 :: H) e (x0 :: x1 :: x2 :: x3 :: x4 :: x5 :: x6 :: x7 :: x8 :: H2) := .there (.t8 h)
theorem Del.t10 {H H2 : List Ent} {e : Ent} {x0 x1 x2 x3 x4 x5 x6 x7 x8 x9 : Ent} (h : Del H e H2) : Del (x0 :: x1 :: x2 :: x3 :: x4 :: x5 :: x6 :: x7 :: x8 :: x9 :: H) e (x0 :: x1 :: x2 :: x3 :: x4 :: x5 :: x6 :: x7 :: x8 :: x9 :: H2) := .there (.t9 h)
theorem Del.t11 {H H2 : List Ent} {e : Ent} {x0 x1 x2 x3 x4 x5 x6 x7 x8 x9 x10 : Ent} (h : Del H e H2) : Del (x0 :: x1 :: x2 :: x3 :: x4 :: x5 :: x6 :: x7 :: x8 :: x9 :: x10 :: H) e (x0 :: x1 :: x2 :: x3 :: x4 :: x5 :: x6 :: x7 :: x8 :: x9 :: x10 :: H2) := .there (.t10 h)
theorem Del.t12 {H H2 : List Ent} {e : Ent} {x0 x1 x2 x3 x4 x5 x6 x7 x8 x9 x10 x11 : Ent} (h : Del H e H2) : Del (x0 :: x1 :: x2 :: x3 :: x4 :: x5 :: x6 :: x7 :: x8 :: x9 :: x10 :: x11 :: H) e (x0 :: x1 :: x2 :: x3 :: x4 :: x5 :: x6 :: x7 :: x8 :: x9 :: x10 :: x11 :: H2) := .there (.t11 h)
theorem Put.t2 {H H2 : List Ent} {e e2 : Ent} {x0 x1 : Ent} (h : Put H e e2 H2) : Put (x0 :: x1 :: H) e e2 (x0 :: x1 :: H2) := .there (.there h)
theorem Put.t3 {H H2 : List Ent} {e e2 : Ent} {x0 x1 x2 : Ent} (h : Put H e e2 H2) : Put (x0 :: x1 :: x2 :: H) e e2 (x0 :: x1 :: x2 :: H2) := .there (.t2 h)
theorem Put.t4 {H H2 : List Ent} {e e2 : Ent} {x0 x1 x2 x3 : Ent} (h : Put H e e2 H2) : Put (x0 :: x1 :: x2 :: x3 :: H) e e2 (x0 :: x1 :: x2 :: x3 :: H2) := .there (.t3 h)
theorem Put.t5 {H H2 : List Ent} {e e2 : Ent} {x0 x1 x2 x3 x4 : Ent} (h : Put H e e2 H2) : Put (x0 :: x1 :: x2 :: x3 :: x4 :: H) e e2 (x0 :: x1 :: x2 :: x3 :: x4 :: H2) := .there (.t4 h)
theorem Put.t6 {H H2 : List Ent} {e e2 : Ent} {x0 x1 x2 x3 x4 x5 : Ent} (h : Put H e e2 H2) : Put (x0 :: x1 :: x2 :: x3 :: x4 :: x5 :: H) e e2 (x0 :: x1 :: x2 :: x3 :: x4 :: x5 :: H2) := .there (.t5 h)
theorem Put.t7 {H H2 : List Ent} {e e2 : Ent} {x0 x1 x2 x3 x4 x5 x6 : Ent} (h : Put H e e2 H2) : Put (x0 :: x1 :: x2 :: x3 :: x4 :: x5 :: x6 :: H) e e2 (x0 :: x1 :: x2 :: x3 :: x4 :: x5 :: x6 :: H2) := .there (.t6 h)
theorem Put.t8 {H H2 : List Ent} {e e2 : Ent} {x0 x1 x2 x3 x4 x5 x6 x7 : Ent} (h : Put H e e2 H2) : Put (x0 :: x1 :: x2 :: x3 :: x4 :: x5 :: x6 :: x7 :: H) e e2 (x0 :: x1 :: x2 :: x3 :: x4 :: x5 :: x6 :: x7 :: H2) := .there (.t7 h)
theorem Put.t9 {H H2 : List Ent} {e e2 : Ent} {x0 x1 x2 x3 x4 x5 x6 x7 x8 : Ent} (h : Put H e e2 H2) : Put (x0 :: x1 :: x2 :: x3 :: x4 :: x5 :: x6 :: x7 :: x8 :: H) e e2 (x0 :: x1 :: x2 :: x3 :: x4 :: x5 :: x6 :: x7 :: x8 :: H2) := .there (.t8 h)
theorem Put.t10 {H H2 : List Ent} {e e2 : Ent} {x0 x1 x2 x3 x4 x5 x6 x7 x8 x9 : Ent} (h : Put H e e2 H2) : Put (x0 :: x1 :: x2 :: x3 :: x4 :: x5 :: x6 :: x7 :: x8 :: x9 :: H) e e2 (x0 :: x1 :: x2 :: x3 :: x4 :: x5 :: x6 :: x7 :: x8 :: x9 :: H2) := .there (.t9 h)
theorem Put.t11 {H H2 : List Ent} {e e2 : Ent} {x0 x1 x2 x3 x4 x5 x6 x7 x8 x9 x10 : Ent} (h : Put H e e2 H2) : Put (x0 :: x1 :: x2 :: x3 :: x4 :: x5 :: x6 :: x7 :: x8 :: x9 :: x10 :: H) e e2 (x0 :: x1 :: x2 :: x3 :: x4 :: x5 :: x6 :: x7 :: x8 :: x9 :: x10 :: H2) := .there (.t10 h)
theorem Put.t12 {H H2 : List Ent} {e e2 : Ent} {x0 x1 x2 x3 x4 x5 x6 x7 x8 x9 x10 x11 : Ent} (h : Put H e e2 H2) : Put (x0 :: x1 :: x2 :: x3 :: x4 :: x5 :: x6 :: x7 :: x8 :: x9 :: x10 :: x11 :: H) e e2 (x0 :: x1 :: x2 :: x3 :: x4 :: x5 :: x6 :: x7 :: x8 :: x9 :: x10 :: x11 :: H2) := .there (.t11 h)
theorem Pick.h1 {H : List Ent} {x0 : Ent} : Pick (x0 :: H) [x0] H := .cons .here .nil
theorem Pick.h2 {H : List Ent} {x0 x1 : Ent} : Pick (x0 :: x1 :: H) [x0, x1] H := .cons .here .h1
theorem Pick.h3 {H : List Ent} {x0 x1 x2 : Ent} : Pick (x0 :: x1 :: x2 :: H) [x0, x1, x2] H := .cons .here .h2
theorem Pick.h4 {H : List Ent} {x0 x1 x2 x3 : Ent} : Pick (x0 :: x1 :: x2 :: x3 :: H) [x0, x1, x2, x3] H := .cons .here .h3
theorem Pick.h5 {H : List Ent} {x0 x1 x2 x3 x4 : Ent} : Pick (x0 :: x1 :: x2 :: x3 :: x4 :: H) [x0, x1, x2, x3, x4] H := .cons .here .h4
theorem Pick.h6 {H : List Ent} {x0 x1 x2 x3 x4 x5 : Ent} : Pick (x0 :: x1 :: x2 :: x3 :: x4 :: x5 :: H) [x0, x1, x2, x3, x4, x5] H := .cons .here .h5
theorem Pick.h7 {H : List Ent} {x0 x1 x2 x3 x4 x5 x6 : Ent} : Pick (x0 :: x1 :: x2 :: x3 :: x4 :: x5 :: x6 :: H) [x0, x1, x2, x3, x4, x5, x6] H := .cons .here .h6
theorem Pick.h8 {H : List Ent} {x0 x1 x2 x3 x4 x5 x6 x7 : Ent} : Pick (x0 :: x1 :: x2 :: x3 :: x4 :: x5 :: x6 :: x7 :: H) [x0, x1, x2, x3, x4, x5, x6, x7] H := .cons .here .h7
theorem Pick.h9 {H : List Ent} {x0 x1 x2 x3 x4 x5 x6 x7 x8 : Ent} : Pick (x0 :: x1 :: x2 :: x3 :: x4 :: x5 :: x6 :: x7 :: x8 :: H) [x0, x1, x2, x3, x4, x5, x6, x7, x8] H := .cons .here .h8
theorem Pick.h10 {H : List Ent} {x0 x1 x2 x3 x4 x5 x6 x7 x8 x9 : Ent} : Pick (x0 :: x1 :: x2 :: x3 :: x4 :: x5 :: x6 :: x7 :: x8 :: x9 :: H) [x0, x1, x2, x3, x4, x5, x6, x7, x8, x9] H := .cons .here .h9
theorem Pick.h11 {H : List Ent} {x0 x1 x2 x3 x4 x5 x6 x7 x8 x9 x10 : Ent} : Pick (x0 :: x1 :: x2 :: x3 :: x4 :: x5 :: x6 :: x7 :: x8 :: x9 :: x10 :: H) [x0, x1, x2, x3, x4, x5, x6, x7, x8, x9, x10] H := .cons .here .h10
theorem Pick.h12 {H : List Ent} {x0 x1 x2 x3 x4 x5 x6 x7 x8 x9 x10 x11 : Ent} : Pick (x0 :: x1 :: x2 :: x3 :: x4 :: x5 :: x6 :: x7 :: x8 :: x9 :: x10 :: x11 :: H) [x0, x1, x2, x3, x4, x5, x6, x7, x8, x9, x10, x11] H := .cons .here .h11
theorem Pick.h13 {H : List Ent} {x0 x1 x2 x3 x4 x5 x6 x7 x8 x9 x10 x11 x12 : Ent} : Pick (x0 :: x1 :: x2 :: x3 :: x4 :: x5 :: x6 :: x7 :: x8 :: x9 :: x10 :: x11 :: x12 :: H) [x0, x1, x2, x3, x4, x5, x6, x7, x8, x9, x10, x11, x12] H := .cons .here .h12
theorem Pick.h14 {H : List Ent} {x0 x1 x2 x3 x4 x5 x6 x7 x8 x9 x10 x11 x12 x13 : Ent} : Pick (x0 :: x1 :: x2 :: x3 :: x4 :: x5 :: x6 :: x7 :: x8 :: x9 :: x10 :: x11 :: x12 :: x13 :: H) [x0, x1, x2, x3, x4, x5, x6, x7, x8, x9, x10, x11, x12, x13] H := .cons .here .h13
end Go.X
