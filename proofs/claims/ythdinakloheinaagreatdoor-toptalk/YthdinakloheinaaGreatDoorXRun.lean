import Derived.Test.YthdinakloheinaaGreatDoorXMore
namespace Go.X
open Go
/-! ### walking by reckoning: values whose form is known; what needs no help is carried out -/
inductive SV where
  | int (k : IntKind) (z : Int)
  | str (s : ByteArray)
  | ptr (b o i : Nat)
  | nil
  | err (T : TypeId) (e : Int)
  | ifc (T : TypeId) (v : Value)
  | pn
  | tt
  | ff
  | dec (p : Prop) [inst : Decidable p]
  | bool (b : Bool)
  | slc (p : Option Addr) (n c : Nat)
  | un
  | val (v : Value)
def SV.den : SV → Value
  | .int k z => .int k z
  | .str s => .string s
  | .ptr b o i => Go.X.ptr b o i
  | .nil => .nilIface
  | .err T e => errv T e
  | .ifc T v => .iface T v
  | .pn => .pointer none
  | .tt => .bool true
  | .ff => .bool false
  | @SV.dec p i => .bool (@decide p i)
  | .bool b => .bool b
  | .slc p n c => .slice p n c
  | .un => undef
  | .val v => v
def dens : List SV → List Value
  | [] => []
  | s :: r => s.den :: dens r
inductive SW where
  | one (s : SV)
  | tup (l : List SV)
def SW.den : SW → Value
  | .one s => s.den
  | .tup l => .tuple (dens l).toArray
abbrev SF := List (Nat × SW)
def dn : SF → PF
  | [] => []
  | (i, s) :: r => (i, s.den) :: dn r
def sk : SF → Nat → Option SW
  | [], _ => none
  | (i, s) :: r, j => match Nat.beq i j with
    | true => some s
    | false => sk r j
theorem lk_dn : ∀ {L : SF} {j : Nat} {s : SW}, sk L j = some s → lk (dn L) j = some s.den
  | [], _, _, h => by simp [sk] at h
  | (i, t) :: r, j, s, h => by
    simp only [sk] at h
    simp only [dn, lk]
    cases hb : Nat.beq i j with
    | true => simp only [hb, Option.some.injEq] at h; subst h; rfl
    | false => simp only [hb] at h; exact lk_dn h
def ofC : Value → SV
  | .int k z => .int k z
  | .string s => .str s
  | .nilIface => .nil
  | .pointer none => .pn
  | .bool true => .tt
  | .bool false => .ff
  | .slice p n c => .slc p n c
  | v => .val v
theorem ofC_den (v : Value) : (ofC v).den = v := by
  unfold ofC; split <;> rfl
def sv (L : SF) : Operand → Option SW
  | .tmp t => sk L t
  | .const v => some (.one (ofC v))
  | .global g => some (.one (.val (.pointer (some ⟨g, 0, none⟩))))
  | .func f => some (.one (.val (.func (.func f) #[] #[])))
theorem sv_ev {L : SF} {x : Operand} {s : SW} (h : sv L x = some s) : ev (dn L) x = some s.den := by
  cases x with
  | tmp t => exact lk_dn h
  | const v => simp only [sv, Option.some.injEq] at h; subst h; exact congrArg some (ofC_den v).symm
  | global g => simp only [sv, Option.some.injEq] at h; subst h; rfl
  | func f => simp only [sv, Option.some.injEq] at h; subst h; rfl
/-! ### tables -/
inductive BT where
  | lf
  | nd (k v : Nat) (l r : BT)
def BT.get : BT → Nat → Option Nat
  | .lf, _ => none
  | .nd k v l r, j => match Nat.beq j k with
    | true => some v
    | false => match Nat.blt j k with
      | true => l.get j
      | false => r.get j
def BT.all (f : Nat → Nat → Bool) : BT → Bool
  | .lf => true
  | .nd k v l r => f k v && l.all f && r.all f
theorem BT.all_get {f : Nat → Nat → Bool} : ∀ {t : BT} {j v : Nat}, t.all f = true → t.get j = some v → f j v = true
  | .lf, _, _, _, h => by simp [BT.get] at h
  | .nd k u l r, j, v, ha, h => by
    simp only [BT.all, Bool.and_eq_true] at ha
    simp only [BT.get] at h
    cases hb : Nat.beq j k with
    | true => simp only [hb, Option.some.injEq] at h; subst h; rw [Nat.eq_of_beq_eq_true hb]; exact ha.1.1
    | false =>
      simp only [hb] at h
      cases hc : Nat.blt j k with
      | true => simp only [hc] at h; exact BT.all_get ha.1.2 h
      | false => simp only [hc] at h; exact BT.all_get ha.2 h
/-- fo: fields' places (by 64 times the struct and the field); un: kinds of types: 1 interface, 2 pointer, 3 string, 4 slice, 5 bool, 6 other, 7 struct or array; sz: sizes; an, as: an array's length, its elements' size; sl: the size of a slice's elements; fn: what may be called -/
structure Tab where
  fo : BT
  un : BT
  sz : BT
  an : BT
  as : BT
  sl : BT
  fn : BT
def unOk (P : Program) (t c : Nat) : Bool := match P.underlying t with
  | some (.interface _) => Nat.beq c 1
  | some (.pointer _) => Nat.beq c 2
  | some .string => Nat.beq c 3
  | some (.slice _) => Nat.beq c 4
  | some .bool => Nat.beq c 5
  | some (.struct _) => Nat.beq c 7
  | some (.array _ _) => Nat.beq c 7
  | some _ => Nat.beq c 6
  | none => false
def Tab.ok (P : Program) (t : Tab) : Bool := t.fo.all (fun k v => match fieldOff P (k / 64) (k % 64) with
  | some u => Nat.beq u v
  | none => false) && t.un.all (unOk P) && t.sz.all (fun k v => match szOf P k with
  | some u => Nat.beq u v
  | none => false) && t.an.all (fun k v => match arrOf P k with
  | some u => Nat.beq u.1 v
  | none => false) && t.as.all (fun k v => match arrOf P k with
  | some u => Nat.beq u.2 v
  | none => false) && t.sl.all (fun k v => match sliceOf P k with
  | some u => Nat.beq u.2 v
  | none => false) && t.fn.all (fun k _ => callable P k)
class Tb (P : Program) where
  t : Tab
  ok : t.ok P = true
theorem Tb.fo {P : Program} [h : Tb P] {s f k : Nat} (hf : f < 64) (hk : h.t.fo.get (s * 64 + f) = some k) : fieldOff P s f = some k := by
  have h1 := h.ok
  simp only [Tab.ok, Bool.and_eq_true] at h1
  have h2 := BT.all_get h1.1.1.1.1.1.1 hk
  rw [show (s * 64 + f) / 64 = s from by omega, show (s * 64 + f) % 64 = f from by omega] at h2
  cases hx : fieldOff P s f with
  | none => simp [hx] at h2
  | some u => simp only [hx] at h2; rw [Nat.eq_of_beq_eq_true h2]
theorem Tb.un {P : Program} [h : Tb P] {t c : Nat} (hk : h.t.un.get t = some c) : unOk P t c = true := by
  have h1 := h.ok
  simp only [Tab.ok, Bool.and_eq_true] at h1
  exact BT.all_get h1.1.1.1.1.1.2 hk
theorem Tb.sz {P : Program} [h : Tb P] {t c : Nat} (hk : h.t.sz.get t = some c) : szOf P t = some c := by
  have h1 := h.ok
  simp only [Tab.ok, Bool.and_eq_true] at h1
  have h2 := BT.all_get h1.1.1.1.1.2 hk
  cases hx : szOf P t with
  | none => simp [hx] at h2
  | some u => simp only [hx] at h2; rw [Nat.eq_of_beq_eq_true h2]
theorem Tb.ar {P : Program} [h : Tb P] {t c s : Nat} (hk : h.t.an.get t = some c) (hs : h.t.as.get t = some s) : arrOf P t = some (c, s) := by
  have h1 := h.ok
  simp only [Tab.ok, Bool.and_eq_true] at h1
  have h2 := BT.all_get h1.1.1.1.2 hk
  have h3 := BT.all_get h1.1.1.2 hs
  cases hx : arrOf P t with
  | none => simp [hx] at h2
  | some u => simp only [hx] at h2 h3; rw [← Nat.eq_of_beq_eq_true h2, ← Nat.eq_of_beq_eq_true h3]
theorem Tb.sl {P : Program} [h : Tb P] {t c : Nat} (hk : h.t.sl.get t = some c) : ∃ e, sliceOf P t = some (e, c) := by
  have h1 := h.ok
  simp only [Tab.ok, Bool.and_eq_true] at h1
  have h2 := BT.all_get h1.1.2 hk
  cases hx : sliceOf P t with
  | none => simp [hx] at h2
  | some u => simp only [hx] at h2; exact ⟨u.1, by rw [← Nat.eq_of_beq_eq_true h2]⟩
theorem Tb.fn {P : Program} [h : Tb P] {t c : Nat} (hk : h.t.fn.get t = some c) : callable P t = true := by
  have h1 := h.ok
  simp only [Tab.ok, Bool.and_eq_true] at h1
  exact BT.all_get h1.2 hk
theorem un_scal {P : Program} {t c : Nat} (h : unOk P t c = true) (hc : Nat.blt c 7 = true) : scal P t = true := by
  unfold unOk at h; unfold scal
  split at h <;> first | (rename_i e; rw [e]; done) | skip
  all_goals first | (have := Nat.eq_of_beq_eq_true h; subst this; simp at hc; done) | skip
  all_goals first | (rename_i e; rw [e]; split <;> simp_all; done) | (simp_all; done)
theorem un_agg {P : Program} {t : Nat} (h : unOk P t 7 = true) : aggT P t = true := by
  unfold unOk at h; unfold aggT
  split at h <;> first | (rename_i e; rw [e]; done) | (simp at h; done)
theorem un1 {P : Program} {t : Nat} (h : unOk P t 1 = true) : ∃ ms, P.underlying t = some (.interface ms) := by
  unfold unOk at h; split at h <;> first | exact ⟨_, by assumption⟩ | cases h
theorem un2 {P : Program} {t : Nat} (h : unOk P t 2 = true) : ∃ e, P.underlying t = some (.pointer e) := by
  unfold unOk at h; split at h <;> first | exact ⟨_, by assumption⟩ | cases h
theorem un3 {P : Program} {t : Nat} (h : unOk P t 3 = true) : P.underlying t = some .string := by
  unfold unOk at h; split at h <;> first | assumption | cases h
theorem un4 {P : Program} {t : Nat} (h : unOk P t 4 = true) : ∃ e, P.underlying t = some (.slice e) := by
  unfold unOk at h; split at h <;> first | exact ⟨_, by assumption⟩ | cases h
theorem unV {P : Program} {t c : Nat} (h : unOk P t c = true) (hc : Nat.beq c 1 = false) : ∃ ds, P.underlying t = some ds ∧ ∀ ms, ds ≠ .interface ms := by
  cases hu : P.underlying t with
  | none => simp [unOk, hu] at h
  | some ds =>
    refine ⟨ds, rfl, fun ms e => ?_⟩
    subst e
    simp only [unOk, hu] at h
    rw [hc] at h; cases h
/-! ### an operation that needs no help -/
def nthS : List SV → Nat → Option SW
  | [], _ => none
  | s :: _, 0 => some (.one s)
  | _ :: r, k + 1 => nthS r k
theorem nthS_den : ∀ {l : List SV} {k : Nat} {s : SW}, nthS l k = some s → nthL (dens l) k = some s.den
  | [], _, _, h => by simp [nthS] at h
  | _ :: _, 0, _, h => by simp only [nthS, Option.some.injEq] at h; subst h; rfl
  | _ :: r, k + 1, _, h => nthS_den (l := r) h
def cmpI (a b : Int) : BinOp → Option SW
  | .eql => some (.one (.dec (a = b)))
  | .neq => some (.one (.dec (a ≠ b)))
  | .lss => some (.one (.dec (a < b)))
  | .leq => some (.one (.dec (a ≤ b)))
  | .gtr => some (.one (.dec (a > b)))
  | .geq => some (.one (.dec (a ≥ b)))
  | _ => none
def cmpS (a b : ByteArray) : BinOp → Option SW
  | .eql => some (.one (.dec (a = b)))
  | .neq => some (.one (.dec (a ≠ b)))
  | .lss => some (.one (.bool (Op.bytesLess a.toList b.toList)))
  | _ => none
def cmpN (T : Tab) (t c : Nat) (r : SV) (r' : SV) : BinOp → Option SW
  | .eql => match T.un.get t with
    | some d => match Nat.beq d c with
      | true => some (.one r)
      | false => none
    | none => none
  | .neq => match T.un.get t with
    | some d => match Nat.beq d c with
      | true => some (.one r')
      | false => none
    | none => none
  | _ => none
def isNilC : Operand → Bool
  | .const .nilIface => true
  | _ => false
def isPnC : Operand → Bool
  | .const (.pointer none) => true
  | _ => false
def stepB (T : Tab) (L : SF) (op : BinOp) (t : TypeId) (x y : Operand) : Option SW := match sv L x with
  | some (.one (.int k a)) => match sv L y with
    | some (.one (.int k' b)) => match decEq k k' with
      | .isTrue _ => cmpI a b op
      | .isFalse _ => none
    | _ => none
  | some (.one (.str a)) => match sv L y with
    | some (.one (.str b)) => cmpS a b op
    | _ => none
  | some (.one (.err _ e)) => match isNilC y with
    | true => cmpN T t 1 (.dec (e = 0)) (.dec (e ≠ 0)) op
    | false => none
  | some (.one .nil) => match isNilC y with
    | true => cmpN T t 1 .tt .ff op
    | false => none
  | some (.one (.ifc _ _)) => match isNilC y with
    | true => cmpN T t 1 .ff .tt op
    | false => none
  | some (.one (.ptr _ _ _)) => match isPnC y with
    | true => cmpN T t 2 .ff .tt op
    | false => none
  | some (.one .pn) => match isPnC y with
    | true => cmpN T t 2 .tt .ff op
    | false => none
  | _ => none
def stepL (T : Tab) (L : SF) (b : Builtin) (xs : Array Operand) (ts : Array TypeId) : Option SW := match b with
  | .len => match xs.toList with
    | [x] => match ts.toList with
      | [t] => match T.un.get t with
        | some c => match sv L x with
          | some (.one (.str s)) => match Nat.beq c 3 with
            | true => some (.one (.int .i64 s.size))
            | false => none
          | some (.one (.slc _ n _)) => match Nat.beq c 4 with
            | true => some (.one (.int .i64 n))
            | false => none
          | _ => none
        | none => none
      | _ => none
    | _ => none
  | .min => match xs.toList with
    | [x, y] => match ts.toList with
      | [_, _] => match sv L x with
        | some (.one (.int k a)) => match sv L y with
          | some (.one (.int k' b)) => match decEq k k' with
            | .isTrue _ => some (.one (.int k (min a b)))
            | .isFalse _ => none
          | _ => none
        | _ => none
      | _ => none
    | _ => none
  | .max => match xs.toList with
    | [x, y] => match ts.toList with
      | [_, _] => match sv L x with
        | some (.one (.int k a)) => match sv L y with
          | some (.one (.int k' b)) => match decEq k k' with
            | .isTrue _ => some (.one (.int k (max a b)))
            | .isFalse _ => none
          | _ => none
        | _ => none
      | _ => none
    | _ => none
  | _ => none
def stepN : SW → Option SW
  | .one .tt => some (.one .ff)
  | .one .ff => some (.one .tt)
  | .one (@SV.dec p _) => some (.one (.dec (¬ p)))
  | .one (.bool b) => some (.one (.bool (!b)))
  | _ => none
def stepP (u v : SW) : SW → Option SW
  | .one .tt => some u
  | .one .ff => some v
  | _ => none
def stepV (T : Tab) (L : SF) : Op → Option SW
  | .move x => sv L x
  | .assign x => sv L x
  | .pick c x y => match sv L x with
    | some u => match sv L y with
      | some v => match sv L c with
        | some t => stepP u v t
        | none => none
      | none => none
    | none => none
  | .nilCheck x => match sv L x with
    | some (.one (.ptr b o i)) => some (.one (.ptr b o i))
    | _ => none
  | .extract x k => match sv L x with
    | some (.tup l) => nthS l k
    | _ => none
  | .fieldAddr s x f => match sv L x with
    | some (.one (.ptr b o i)) => match Nat.blt f 64 with
      | true => match T.fo.get (s * 64 + f) with
        | some k => some (.one (.ptr b o (i + k)))
        | none => none
      | false => none
    | _ => none
  | .binOp op t x y _ => stepB T L op t x y
  | .unOp op _ x => match op with
    | .not => match sv L x with
      | some s => stepN s
      | none => none
    | _ => none
  | .makeInterface t x => match sv L x with
    | some (.one s) => match T.un.get t with
      | some c => match Nat.beq c 1 with
        | true => none
        | false => some (.one (.ifc t s.den))
      | none => none
    | _ => none
  | .call c => match c with
    | ⟨.builtin b, xs, ts⟩ => stepL T L b xs ts
    | _ => none
  | _ => none
/-- an operation that asks something: what it asks, what comes of it -/
def slcS (s : ByteArray) : Option SW → Option SW → Option (Prop × SW)
  | some (.one (.int _ z)), some (.one (.int _ z')) => some (0 ≤ z ∧ z ≤ z' ∧ z' ≤ s.size, .one (.str (s.extract z.toNat z'.toNat)))
  | _, _ => none
def slcF (s : ByteArray) : Option SW → Option (Prop × SW)
  | some (.one (.int _ z)) => some (0 ≤ z ∧ z ≤ s.size, .one (.str (s.extract z.toNat s.size)))
  | _ => none
def slcT (s : ByteArray) : Option SW → Option (Prop × SW)
  | some (.one (.int _ z)) => some (0 ≤ z ∧ z ≤ s.size, .one (.str (s.extract 0 z.toNat)))
  | _ => none
def arI (a b : Int) : BinOp → Option (Prop × SW)
  | .add => some (-9223372036854775808 ≤ a + b ∧ a + b ≤ 9223372036854775807, .one (.int .i64 (a + b)))
  | .sub => some (-9223372036854775808 ≤ a - b ∧ a - b ≤ 9223372036854775807, .one (.int .i64 (a - b)))
  | .mul => some (-9223372036854775808 ≤ a * b ∧ a * b ≤ 9223372036854775807, .one (.int .i64 (a * b)))
  | _ => none
def stepS (T : Tab) (L : SF) : Op → Option (Prop × SW)
  | .binOp op _ x y _ => match sv L x with
    | some (.one (.int .i64 a)) => match sv L y with
      | some (.one (.int .i64 b)) => arI a b op
      | _ => none
    | some (.one (.str a)) => match sv L y with
      | some (.one (.str b)) => match op with
        | .add => some (a.size + b.size ≤ 9223372036854775807, .one (.str (a ++ b)))
        | _ => none
      | _ => none
    | _ => none
  | .unOp op _ x => match op with
    | .neg => match sv L x with
      | some (.one (.int .i64 a)) => some (-9223372036854775808 ≤ 0 - a ∧ 0 - a ≤ 9223372036854775807, .one (.int .i64 (0 - a)))
      | _ => none
    | _ => none
  | .indexAddr t x y => match sv L y with
    | some (.one (.int _ z)) => match sv L x with
      | some (.one (.ptr b o i)) => match T.an.get t with
        | some m => match T.as.get t with
          | some s => some (0 ≤ z ∧ z < m, .one (.ptr b o (i + z.toNat * s)))
          | none => none
        | none => none
      | some (.one (.slc (some ⟨b, o, none⟩) n _)) => match T.sl.get t with
        | some s => some (0 ≤ z ∧ z < n, .one (.ptr b o (0 + z.toNat * s)))
        | none => none
      | _ => none
    | _ => none
  | .slice t x lo hi mx => match mx with
    | none => match T.un.get t with
      | some c => match Nat.beq c 3 with
        | true => match sv L x with
          | some (.one (.str s)) => match lo with
            | none => match hi with
              | none => none
              | some y => slcT s (sv L y)
            | some y => match hi with
              | none => slcF s (sv L y)
              | some u => slcS s (sv L y) (sv L u)
          | _ => none
        | false => none
      | none => none
    | some _ => none
  | _ => none
/-- what a call is given -/
def svs (L : SF) : List Operand → Option (List SW)
  | [] => some []
  | x :: r => match sv L x with
    | some s => match svs L r with
      | some l => some (s :: l)
      | none => none
    | none => none
def wdens : List SW → List Value
  | [] => []
  | s :: r => s.den :: wdens r
theorem svs_evs {L : SF} : ∀ {xs : List Operand} {l : List SW}, svs L xs = some l → evs (dn L) xs = some (wdens l)
  | [], l, h => by simp only [svs, Option.some.injEq] at h; subst h; rfl
  | x :: r, l, h => by
    simp only [svs] at h
    split at h
    · rename_i s hx
      split at h
      · rename_i l' hr
        simp only [Option.some.injEq] at h; subst h
        simp only [evs, sv_ev hx, svs_evs hr, wdens]
      · cases h
    · cases h
section
variable {P : Program} {n : Fr} {L : SF} {ty : TypeId} {pos : String} {af : Array Edge} {d : Nat} {gd : Option (Nat × Bool)} {φ : World → Prop}
theorem beq_n {a b : Nat} (h : Nat.beq a b = true) : a = b := Nat.eq_of_beq_eq_true h
theorem stepB_ok [h : Tb P] {op : BinOp} {t t' : TypeId} {x y : Operand} {s : SW} (hs : stepB h.t L op t x y = some s) : RunsTo P n (dn L) φ ⟨some d, .binOp op t x y t', ty, pos, af, gd⟩ s.den := by
  unfold stepB at hs
  split at hs
  · rename_i k a hx
    split at hs
    · rename_i k' b hy
      split at hs
      · rename_i hk _
        subst hk
        cases op <;> simp only [cmpI, Option.some.injEq] at hs <;> first | cases hs; done | (subst hs; exact V.cmp (sv_ev hx) (sv_ev hy) rfl)
      · cases hs
    · cases hs
  · rename_i a hx
    split at hs
    · rename_i b hy
      cases op <;> simp only [cmpS, Option.some.injEq] at hs <;> first | cases hs; done | (subst hs; exact V.strCmp (sv_ev hx) (sv_ev hy) rfl)
    · cases hs
  · rename_i T e hx
    split at hs
    · rename_i hn
      have hy : y = .const .nilIface := by unfold isNilC at hn; split at hn <;> first | rfl | cases hn
      subst hy
      cases op <;> simp only [cmpN] at hs <;> first | cases hs; done | (split at hs <;> first | cases hs; done | (split at hs <;> first | cases hs; done | (
        rename_i hg _ hb
        obtain ⟨ms, hu⟩ := un1 (by rw [← beq_n hb]; exact Tb.un hg)
        simp only [Option.some.injEq] at hs
        subst hs
        exact V.errNil (sv_ev hx) hu rfl)))
    · cases hs
  · rename_i hx
    split at hs
    · rename_i hn
      have hy : y = .const .nilIface := by unfold isNilC at hn; split at hn <;> first | rfl | cases hn
      subst hy
      cases op <;> simp only [cmpN] at hs <;> first | cases hs; done | (split at hs <;> first | cases hs; done | (split at hs <;> first | cases hs; done | (
        rename_i hg _ hb
        obtain ⟨ms, hu⟩ := un1 (by rw [← beq_n hb]; exact Tb.un hg)
        simp only [Option.some.injEq] at hs
        subst hs
        exact V.nilNil (sv_ev hx) hu rfl)))
    · cases hs
  · rename_i T v hx
    split at hs
    · rename_i hn
      have hy : y = .const .nilIface := by unfold isNilC at hn; split at hn <;> first | rfl | cases hn
      subst hy
      cases op <;> simp only [cmpN] at hs <;> first | cases hs; done | (split at hs <;> first | cases hs; done | (split at hs <;> first | cases hs; done | (
        rename_i hg _ hb
        obtain ⟨ms, hu⟩ := un1 (by rw [← beq_n hb]; exact Tb.un hg)
        simp only [Option.some.injEq] at hs
        subst hs
        exact V.ifaceNil (sv_ev hx) hu rfl)))
    · cases hs
  · rename_i b o i hx
    split at hs
    · rename_i hn
      have hy : y = .const (.pointer none) := by unfold isPnC at hn; split at hn <;> first | rfl | cases hn
      subst hy
      cases op <;> simp only [cmpN] at hs <;> first | cases hs; done | (split at hs <;> first | cases hs; done | (split at hs <;> first | cases hs; done | (
        rename_i hg _ hb
        obtain ⟨ms, hu⟩ := un2 (by rw [← beq_n hb]; exact Tb.un hg)
        simp only [Option.some.injEq] at hs
        subst hs
        exact V.ptrNilP (sv_ev hx) hu rfl)))
    · cases hs
  · rename_i hx
    split at hs
    · rename_i hn
      have hy : y = .const (.pointer none) := by unfold isPnC at hn; split at hn <;> first | rfl | cases hn
      subst hy
      cases op <;> simp only [cmpN] at hs <;> first | cases hs; done | (split at hs <;> first | cases hs; done | (split at hs <;> first | cases hs; done | (
        rename_i hg _ hb
        obtain ⟨ms, hu⟩ := un2 (by rw [← beq_n hb]; exact Tb.un hg)
        simp only [Option.some.injEq] at hs
        subst hs
        exact V.ptrNone (sv_ev hx) hu rfl)))
    · cases hs
  · cases hs
theorem arr1 {α : Type} {xs : Array α} {l : List α} (h : xs.toList = l) : xs = l.toArray := by rw [← h]
theorem stepL_ok [h : Tb P] {b : Builtin} {xs : Array Operand} {ts : Array TypeId} {s : SW} (hs : stepL h.t L b xs ts = some s) : RunsTo P n (dn L) φ ⟨some d, .call ⟨.builtin b, xs, ts⟩, ty, pos, af, gd⟩ s.den ∧ isE (.call ⟨.builtin b, xs, ts⟩) = false := by
  unfold stepL at hs
  split at hs
  · refine ⟨?_, rfl⟩
    split at hs
    · rename_i x hxs
      split at hs
      · rename_i t hts
        split at hs
        · rename_i c hc
          split at hs
          · rename_i a hx
            split at hs
            · rename_i hb
              simp only [Option.some.injEq] at hs; subst hs
              rw [arr1 hxs, arr1 hts]
              exact V.lenStr (sv_ev hx) (un3 (by rw [← beq_n hb]; exact Tb.un hc))
            · cases hs
          · rename_i p k c2 hx
            split at hs
            · rename_i hb
              simp only [Option.some.injEq] at hs; subst hs
              rw [arr1 hxs, arr1 hts]
              obtain ⟨e, hu⟩ := un4 (by rw [← beq_n hb]; exact Tb.un hc)
              exact V.lenSl (sv_ev hx) hu
            · cases hs
          · cases hs
        · cases hs
      · cases hs
    · cases hs
  · refine ⟨?_, rfl⟩
    split at hs
    · rename_i x y hxs
      split at hs
      · rename_i t1 t2 hts
        split at hs
        · rename_i k a hx
          split at hs
          · rename_i k' b hy
            split at hs
            · rename_i hk _
              subst hk
              simp only [Option.some.injEq] at hs; subst hs
              rw [arr1 hxs, arr1 hts]
              exact V.min2 (sv_ev hx) (sv_ev hy)
            · cases hs
          · cases hs
        · cases hs
      · cases hs
    · cases hs
  · refine ⟨?_, rfl⟩
    split at hs
    · rename_i x y hxs
      split at hs
      · rename_i t1 t2 hts
        split at hs
        · rename_i k a hx
          split at hs
          · rename_i k' b hy
            split at hs
            · rename_i hk _
              subst hk
              simp only [Option.some.injEq] at hs; subst hs
              rw [arr1 hxs, arr1 hts]
              exact V.max2 (sv_ev hx) (sv_ev hy)
            · cases hs
          · cases hs
        · cases hs
      · cases hs
    · cases hs
  · cases hs
theorem stepV_ok [h : Tb P] {op : Op} {s : SW} (hs : stepV h.t L op = some s) : RunsTo P n (dn L) φ ⟨some d, op, ty, pos, af, gd⟩ s.den ∧ isE op = false := by
  unfold stepV at hs
  split at hs
  · exact ⟨V.move (sv_ev hs), rfl⟩
  · exact ⟨V.assign (sv_ev hs), rfl⟩
  · refine ⟨?_, rfl⟩
    split at hs
    · rename_i u hx
      split at hs
      · rename_i v hy
        split at hs
        · rename_i t hc
          unfold stepP at hs
          split at hs
          · simp only [Option.some.injEq] at hs; subst hs; exact V.pick (t := true) (sv_ev hc) (sv_ev hx) (sv_ev hy) rfl
          · simp only [Option.some.injEq] at hs; subst hs; exact V.pick (t := false) (sv_ev hc) (sv_ev hx) (sv_ev hy) rfl
          · cases hs
        · cases hs
      · cases hs
    · cases hs
  · refine ⟨?_, rfl⟩
    split at hs
    · rename_i b o i hx
      simp only [Option.some.injEq] at hs; subst hs; exact V.nilCheckP (sv_ev hx)
    · cases hs
  · refine ⟨?_, rfl⟩
    split at hs
    · rename_i l hx
      exact V.extract (sv_ev hx) (by simpa using nthS_den hs)
    · cases hs
  · refine ⟨?_, rfl⟩
    split at hs
    · rename_i b o i hx
      split at hs
      · rename_i hf
        split at hs
        · rename_i k hk
          simp only [Option.some.injEq] at hs; subst hs
          exact V.fieldAddr (sv_ev hx) (Tb.fo (by simpa using hf) hk)
        · cases hs
      · cases hs
    · cases hs
  · exact ⟨stepB_ok hs, rfl⟩
  · refine ⟨?_, rfl⟩
    split at hs
    · split at hs
      · rename_i t hx
        unfold stepN at hs
        split at hs
        · simp only [Option.some.injEq] at hs; subst hs; exact V.not (b := true) (sv_ev hx)
        · simp only [Option.some.injEq] at hs; subst hs; exact V.not (b := false) (sv_ev hx)
        · simp only [Option.some.injEq] at hs; subst hs; exact V.notP (sv_ev hx)
        · simp only [Option.some.injEq] at hs; subst hs; exact V.not (sv_ev hx)
        · cases hs
      · cases hs
    · cases hs
  · refine ⟨?_, rfl⟩
    split at hs
    · rename_i u hx
      split at hs
      · rename_i c hc
        split at hs
        · cases hs
        · rename_i hb
          simp only [Option.some.injEq] at hs; subst hs
          obtain ⟨ds, hu, hn⟩ := unV (Tb.un hc) hb
          exact V.makeIface (sv_ev hx) hu hn
      · cases hs
    · cases hs
  · split at hs
    · exact stepL_ok hs
    · cases hs
  · cases hs
theorem slcS_ok {s : ByteArray} {x y u : Operand} {t : TypeId} {q : Prop} {v : SW} (ht : P.underlying t = some .string) (hx : ev (dn L) x = some (.string s)) (h : slcS s (sv L y) (sv L u) = some (q, v)) (hq : q) : RunsTo P n (dn L) φ ⟨some d, .slice t x (some y) (some u) none, ty, pos, af, gd⟩ v.den := by
  unfold slcS at h
  split at h
  · rename_i k z k' z' hy hu
    simp only [Option.some.injEq, Prod.mk.injEq] at h
    obtain ⟨rfl, rfl⟩ := h
    exact V.slice2 hx (sv_ev hy) (sv_ev hu) ht hq
  · cases h
theorem slcF_ok {s : ByteArray} {x y : Operand} {t : TypeId} {q : Prop} {v : SW} (ht : P.underlying t = some .string) (hx : ev (dn L) x = some (.string s)) (h : slcF s (sv L y) = some (q, v)) (hq : q) : RunsTo P n (dn L) φ ⟨some d, .slice t x (some y) none none, ty, pos, af, gd⟩ v.den := by
  unfold slcF at h
  split at h
  · rename_i k z hy
    simp only [Option.some.injEq, Prod.mk.injEq] at h
    obtain ⟨rfl, rfl⟩ := h
    exact V.sliceFrom hx (sv_ev hy) ht hq
  · cases h
theorem slcT_ok {s : ByteArray} {x y : Operand} {t : TypeId} {q : Prop} {v : SW} (ht : P.underlying t = some .string) (hx : ev (dn L) x = some (.string s)) (h : slcT s (sv L y) = some (q, v)) (hq : q) : RunsTo P n (dn L) φ ⟨some d, .slice t x none (some y) none, ty, pos, af, gd⟩ v.den := by
  unfold slcT at h
  split at h
  · rename_i k z hy
    simp only [Option.some.injEq, Prod.mk.injEq] at h
    obtain ⟨rfl, rfl⟩ := h
    exact V.sliceTo hx (sv_ev hy) ht hq
  · cases h
theorem stepS_ok [h : Tb P] {op : Op} {q : Prop} {v : SW} (hs : stepS h.t L op = some (q, v)) (hq : q) : RunsTo P n (dn L) φ ⟨some d, op, ty, pos, af, gd⟩ v.den ∧ isE op = false := by
  unfold stepS at hs
  split at hs
  · refine ⟨?_, rfl⟩
    split at hs
    · rename_i a hx
      split at hs
      · rename_i b hy
        unfold arI at hs
        split at hs
        · simp only [Option.some.injEq, Prod.mk.injEq] at hs
          obtain ⟨rfl, rfl⟩ := hs
          exact V.add (sv_ev hx) (sv_ev hy) _ (IntWalk.i64_in _ hq)
        · simp only [Option.some.injEq, Prod.mk.injEq] at hs
          obtain ⟨rfl, rfl⟩ := hs
          exact V.sub (sv_ev hx) (sv_ev hy) _ (IntWalk.i64_in _ hq)
        · simp only [Option.some.injEq, Prod.mk.injEq] at hs
          obtain ⟨rfl, rfl⟩ := hs
          exact V.mul (sv_ev hx) (sv_ev hy) _ (IntWalk.i64_in _ hq)
        · cases hs
      · cases hs
    · rename_i a hx
      split at hs
      · rename_i b hy
        split at hs
        · simp only [Option.some.injEq, Prod.mk.injEq] at hs
          obtain ⟨rfl, rfl⟩ := hs
          exact V.concat (sv_ev hx) (sv_ev hy) hq
        · cases hs
      · cases hs
    · cases hs
  · refine ⟨?_, rfl⟩
    split at hs
    · split at hs
      · rename_i a hx
        simp only [Option.some.injEq, Prod.mk.injEq] at hs
        obtain ⟨rfl, rfl⟩ := hs
        exact V.neg (sv_ev hx) _ (IntWalk.i64_in _ hq)
      · cases hs
    · cases hs
  · refine ⟨?_, rfl⟩
    split at hs
    · rename_i k z hy
      split at hs
      · rename_i b o i hx
        split at hs
        · rename_i m hm
          split at hs
          · rename_i s hs'
            simp only [Option.some.injEq, Prod.mk.injEq] at hs
            obtain ⟨rfl, rfl⟩ := hs
            exact V.indexArr (sv_ev hx) (sv_ev hy) (Tb.ar hm hs') hq
          · cases hs
        · cases hs
      · rename_i b o m c hx
        split at hs
        · rename_i s hs'
          simp only [Option.some.injEq, Prod.mk.injEq] at hs
          obtain ⟨rfl, rfl⟩ := hs
          obtain ⟨e, he⟩ := Tb.sl hs'
          exact V.indexSl (sv_ev hx) (sv_ev hy) he hq
        · cases hs
      · cases hs
    · cases hs
  · refine ⟨?_, rfl⟩
    split at hs
    · split at hs
      · rename_i c hc
        split at hs
        · rename_i hb
          have ht := un3 (P := P) (by rw [← beq_n hb]; exact Tb.un hc)
          split at hs
          · rename_i s hx
            split at hs
            · split at hs
              · cases hs
              · exact slcT_ok ht (sv_ev hx) hs hq
            · split at hs
              · exact slcF_ok ht (sv_ev hx) hs hq
              · exact slcS_ok ht (sv_ev hx) hs hq
          · cases hs
        · cases hs
      · cases hs
    · cases hs
  · cases hs
end
/-! ### the walk -/
inductive Fm where
  | sq (c : Code)
  | blk (i : Nat)
  | th (T : Act → World → Prop)
def den (P : Program) (Q0 : Exit → Act → World → Prop) : List Fm → Exit → Act → World → Prop
  | [] => Q0
  | .sq y :: K => Exit.then (y.wp P (den P Q0 K)) (den P Q0 K)
  | .blk i :: K => Exit.inBlock i (den P Q0 K)
  | .th T :: K => Exit.then T (den P Q0 K)
inductive St where
  | c (x : Code)
  | o (md : Md) (l : List Oper)
  | e (x : Exit)
def memN : Nat → List Nat → Bool
  | _, [] => false
  | i, j :: r => match Nat.beq i j with
    | true => true
    | false => memN i r
/-- what outlives a region -/
def prune (ps : List Nat) : SF → SF → (SF → Prop) → Prop
  | [], acc, k => k acc
  | (i, s) :: r, acc, k => match memN i ps with
    | true => match sk acc i with
      | some _ => prune ps r acc k
      | none => prune ps r ((i, s) :: acc) k
    | false => prune ps r acc k
def dstAt : List Oper → Nat → Option Nat
  | [], _ => none
  | o :: _, 0 => o.dst
  | _ :: r, k + 1 => dstAt r k
theorem dstAt_ok : ∀ {l : List Oper} {j d : Nat}, dstAt l j = some d → (l[j]?).bind (·.dst) = some d
  | [], _, _, h => by simp [dstAt] at h
  | _ :: _, 0, _, h => by simpa [dstAt] using h
  | _ :: r, k + 1, _, h => by simpa using dstAt_ok (l := r) h
def fstReg : Code → Nat
  | .region i _ _ => i
  | .seq a _ => fstReg a
  | .block _ c => fstReg c
  | .loop c => fstReg c
  | .cond _ a _ => fstReg a
  | _ => 0
def kindC : Code → Nat
  | .region _ _ _ => 0
  | .seq _ _ => 1
  | .cond _ _ _ => 2
  | .block _ _ => 3
  | .loop _ => 4
  | _ => 5
def inCs (i k : Nat) : List (Nat × Nat) → Bool
  | [] => false
  | (j, l) :: r => match Nat.beq i j with
    | true => match Nat.beq k l with
      | true => true
      | false => inCs i k r
    | false => inCs i k r
/-! halts: what is known there -/
/-- it asks q; or else it is walked by hand -/
def Sd (q R X : Prop) : Prop := (q ∧ R) ∨ X
section
variable (P : Program) (n : Fr) (Q0 : Exit → Act → World → Prop) (M : World → Prop) (K : List Fm) (md : Md) (r : List Oper) (L : SF)
def LdG (t : TypeId) (d : Nat) (x : Operand) (ty : TypeId) (pos : String) (af : Array Edge) (b o i : Nat) : Prop :=
  ev (dn L) x = some (ptr b o i) → scal P t = true → Nat.blt d n.sz = true → XO P n md (den P Q0 K) (⟨some d, .load t x, ty, pos, af, none⟩ :: r) (dn L) M
def LdA (t : TypeId) (d : Nat) (x : Operand) (ty : TypeId) (pos : String) (af : Array Edge) (b o i k : Nat) : Prop :=
  ev (dn L) x = some (ptr b o i) → aggT P t = true → szOf P t = some k → Nat.blt d n.sz = true → XO P n md (den P Q0 K) (⟨some d, .load t x, ty, pos, af, none⟩ :: r) (dn L) M
def StG (t : TypeId) (x y : Operand) (ty : TypeId) (pos : String) (af : Array Edge) (b o i k : Nat) (s : SV) : Prop :=
  ev (dn L) x = some (ptr b o i) → ev (dn L) y = some s.den → szOf P t = some k → XO P n md (den P Q0 K) (⟨none, .store t x y, ty, pos, af, none⟩ :: r) (dn L) M
def CaG (d : Nat) (f : FuncId) (xs : List Operand) (ats : Array TypeId) (ty : TypeId) (pos : String) (af : Array Edge) (vs : List Value) : Prop :=
  evs (dn L) xs = some vs → callable P f = true → Nat.blt d n.sz = true → XO P n md (den P Q0 K) (⟨some d, .call ⟨.value (.func f), xs.toArray, ats⟩, ty, pos, af, none⟩ :: r) (dn L) M
def halt (T : Tab) (dst : Option Tmp) (op : Op) (ty : TypeId) (pos : String) (af : Array Edge) (ho : Prop) : Prop := match op with
      | .load t x => match dst with
        | some d => match sv L x with
          | some (.one (.ptr b o i)) => match T.un.get t with
            | some c => match Nat.blt c 7 with
              | true => LdG P n Q0 M K md r L t d x ty pos af b o i
              | false => match Nat.beq c 7 with
                | true => match T.sz.get t with
                  | some k => LdA P n Q0 M K md r L t d x ty pos af b o i k
                  | none => ho
                | false => ho
            | none => ho
          | _ => ho
        | none => ho
      | .store t x y => match dst with
        | none => match sv L x with
          | some (.one (.ptr b o i)) => match sv L y with
            | some (.one s) => match T.sz.get t with
              | some k => StG P n Q0 M K md r L t x y ty pos af b o i k s
              | none => ho
            | _ => ho
          | _ => ho
        | some _ => ho
      | .call c => match c with
        | ⟨.value (.func f), xs, ats⟩ => match dst with
          | some d => match T.fn.get f with
            | some _ => match svs L xs.toList with
              | some l => CaG P n Q0 M K md r L d f xs.toList ats ty pos af (wdens l)
              | none => ho
            | none => ho
          | none => ho
        | _ => ho
      | _ => ho
end
theorem halt_ok {P : Program} [h : Tb P] {n : Fr} {Q0 : Exit → Act → World → Prop} {M : World → Prop} {K : List Fm} {md : Md} {r : List Oper} {L : SF} {dst : Option Tmp} {op : Op} {ty : TypeId} {pos : String} {af : Array Edge} (hd : ∀ d, dst = some d → Nat.blt d n.sz = true)
    (hh : halt P n Q0 M K md r L h.t dst op ty pos af (XO P n md (den P Q0 K) (⟨dst, op, ty, pos, af, none⟩ :: r) (dn L) M)) : XO P n md (den P Q0 K) (⟨dst, op, ty, pos, af, none⟩ :: r) (dn L) M := by
  unfold halt at hh
  · split at hh
    · split at hh
      · split at hh
        · rename_i hx
          split at hh
          · rename_i hc
            split at hh
            · rename_i hb
              exact hh (sv_ev hx) (un_scal (Tb.un hc) hb) (hd _ rfl)
            · split at hh
              · rename_i hb
                split at hh
                · rename_i hk
                  exact hh (sv_ev hx) (un_agg (by rw [← beq_n hb]; exact Tb.un hc)) (Tb.sz hk) (hd _ rfl)
                · exact hh
              · exact hh
          · exact hh
        · exact hh
      · exact hh
    · split at hh
      · split at hh
        · rename_i hx
          split at hh
          · rename_i hy
            split at hh
            · rename_i hk
              exact hh (sv_ev hx) (sv_ev hy) (Tb.sz hk)
            · exact hh
          · exact hh
        · exact hh
      · exact hh
    · split at hh
      · split at hh
        · split at hh
          · rename_i hf
            split at hh
            · rename_i hl
              exact hh (svs_evs hl) (Tb.fn hf) (hd _ rfl)
            · exact hh
          · exact hh
        · exact hh
      · exact hh
    · exact hh
section
variable (P : Program) (n : Fr) (Q0 : Exit → Act → World → Prop) (M : World → Prop)
def Run [h : Tb P] : Nat → List Fm → St → SF → Prop
  | 0, K, .c x, L => XC P n x (den P Q0 K) (dn L) M
  | 0, K, .o md l, L => XO P n md (den P Q0 K) l (dn L) M
  | 0, K, .e x, L => XE n (den P Q0 K) x (dn L) M
  | f + 1, K, .c x, L => match x with
    | .seq a b => match n.cs with
      | [] => Run f (.sq b :: K) (.c a) L
      | c :: cs => match inCs (fstReg a) (kindC a) (c :: cs) with
        | true => XC P n (.seq a b) (den P Q0 K) (dn L) M
        | false => Run f (.sq b :: K) (.c a) L
    | .skip => Run f K (.e .normal) L
    | .ret => Run f K (.e .ret) L
    | .exit i => Run f K (.e (.exit i)) L
    | .block i c => Run f (.blk i :: K) (.c c) L
    | .region i ops dr => match dr with
      | false => Run f K (.o (.cl ops) ops.toList) L
      | true => XC P n (.region i ops true) (den P Q0 K) (dn L) M
    | .cond c a b => match sv L c with
      | some (.one .tt) => Run f K (.c a) L
      | some (.one .ff) => Run f K (.c b) L
      | _ => XC P n (.cond c a b) (den P Q0 K) (dn L) M
    | y => XC P n y (den P Q0 K) (dn L) M
  | f + 1, K, .e x, L => match K with
    | [] => XE n Q0 x (dn L) M
    | .sq y :: K' => match x with
      | .normal => prune n.ps L [] fun L' => Run f K' (.c y) L'
      | .ret => Run f K' (.e .ret) L
      | .exit i => Run f K' (.e (.exit i)) L
      | x => XE n (den P Q0 (.sq y :: K')) x (dn L) M
    | .blk i :: K' => match x with
      | .normal => Run f K' (.e .normal) L
      | .ret => Run f K' (.e .ret) L
      | .exit j => match Nat.beq j i with
        | true => Run f K' (.e .normal) L
        | false => Run f K' (.e (.exit j)) L
      | x => XE n (den P Q0 (.blk i :: K')) x (dn L) M
    | .th T :: K' => match x with
      | .ret => Run f K' (.e .ret) L
      | .exit i => Run f K' (.e (.exit i)) L
      | x => XE n (den P Q0 (.th T :: K')) x (dn L) M
  | f + 1, K, .o md l, L => match l with
    | [] => Run f K (.e .normal) L
    | ⟨dst, op, ty, pos, af, gd⟩ :: r => match gd with
      | some (j, want) => match dstAt md.a.toList j with
        | some dj => match sk L dj with
          | some (.one .tt) => match want with
            | true => Run f K (.o md (⟨dst, op, ty, pos, af, none⟩ :: r)) L
            | false => match dst with
              | some d => match Nat.blt d n.sz with
                | true => Run f K (.o md r) ((d, .one .un) :: L)
                | false => XO P n md (den P Q0 K) (⟨some d, op, ty, pos, af, some (j, false)⟩ :: r) (dn L) M
              | none => XO P n md (den P Q0 K) (⟨none, op, ty, pos, af, some (j, false)⟩ :: r) (dn L) M
          | some (.one .ff) => match want with
            | false => Run f K (.o md (⟨dst, op, ty, pos, af, none⟩ :: r)) L
            | true => match dst with
              | some d => match Nat.blt d n.sz with
                | true => Run f K (.o md r) ((d, .one .un) :: L)
                | false => XO P n md (den P Q0 K) (⟨some d, op, ty, pos, af, some (j, true)⟩ :: r) (dn L) M
              | none => XO P n md (den P Q0 K) (⟨none, op, ty, pos, af, some (j, true)⟩ :: r) (dn L) M
          | some (.one .un) => match dst with
              | some d => match Nat.blt d n.sz with
                | true => Run f K (.o md r) ((d, .one .un) :: L)
                | false => XO P n md (den P Q0 K) (⟨some d, op, ty, pos, af, some (j, want)⟩ :: r) (dn L) M
              | none => XO P n md (den P Q0 K) (⟨none, op, ty, pos, af, some (j, want)⟩ :: r) (dn L) M
          | _ => XO P n md (den P Q0 K) (⟨dst, op, ty, pos, af, some (j, want)⟩ :: r) (dn L) M
        | none => XO P n md (den P Q0 K) (⟨dst, op, ty, pos, af, some (j, want)⟩ :: r) (dn L) M
      | none => match dst with
        | some d => match Nat.blt d n.sz with
          | true => match stepV h.t L op with
            | some s => Run f K (.o md r) ((d, s) :: L)
            | none => match stepS h.t L op with
              | some (q, s) => Sd q (Run f K (.o md r) ((d, s) :: L)) (XO P n md (den P Q0 K) (⟨some d, op, ty, pos, af, none⟩ :: r) (dn L) M)
              | none => halt P n Q0 M K md r L h.t (some d) op ty pos af (XO P n md (den P Q0 K) (⟨some d, op, ty, pos, af, none⟩ :: r) (dn L) M)
          | false => XO P n md (den P Q0 K) (⟨some d, op, ty, pos, af, none⟩ :: r) (dn L) M
        | none => halt P n Q0 M K md r L h.t none op ty pos af (XO P n md (den P Q0 K) (⟨none, op, ty, pos, af, none⟩ :: r) (dn L) M)
end
def Sem1 (P : Program) (n : Fr) (Q0 : Exit → Act → World → Prop) (M : World → Prop) (K : List Fm) (L : PF) : St → Prop
  | .c x => XC P n x (den P Q0 K) L M
  | .o md l => XO P n md (den P Q0 K) l L M
  | .e x => XE n (den P Q0 K) x L M
theorem Sub.refl (L : PF) : Sub L L := fun _ _ h => h
theorem Sub.trans {A B C : PF} (h : Sub A B) (k : Sub B C) : Sub A C := fun i v q => h i v (k i v q)
theorem lk_dn_none : ∀ {L : SF} {j : Nat}, sk L j = none → lk (dn L) j = none
  | [], _, _ => rfl
  | (i, t) :: r, j, h => by
    simp only [sk] at h
    simp only [dn, lk]
    cases hb : Nat.beq i j with
    | true => simp [hb] at h
    | false => simp only [hb] at h; exact lk_dn_none h
/-- what is left is known -/
theorem prune_ok {ps : List Nat} : ∀ {L acc : SF} {k : SF → Prop}, prune ps L acc k → ∃ L', k L' ∧ ∀ i v, lk (dn L') i = some v → (match lk (dn acc) i with
  | some u => u = v
  | none => memN i ps = true ∧ lk (dn L) i = some v)
  | [], acc, k, h => ⟨acc, h, fun i v q => by rw [q]⟩
  | (j, s) :: r, acc, k, h => by
    simp only [prune] at h
    split at h
    · split at h
      · rename_i u hu
        obtain ⟨L', h1, h2⟩ := prune_ok h
        refine ⟨L', h1, fun i v q => ?_⟩
        have := h2 i v q
        cases ha : lk (dn acc) i with
        | some x => rw [ha] at this; exact this
        | none =>
          rw [ha] at this
          refine ⟨this.1, ?_⟩
          simp only [dn, lk]
          cases hb : Nat.beq j i with
          | true => have := beq_n hb; subst this; rw [lk_dn hu] at ha; cases ha
          | false => exact this.2
      · rename_i hm _ hu
        obtain ⟨L', h1, h2⟩ := prune_ok h
        refine ⟨L', h1, fun i v q => ?_⟩
        have := h2 i v q
        simp only [dn, lk] at this ⊢
        cases hb : Nat.beq j i with
        | true =>
          have e := beq_n hb; subst e
          simp only [hb, cond_true] at this ⊢
          rw [lk_dn_none hu]
          exact ⟨hm, congrArg some this⟩
        | false => simp only [hb, cond_false] at this ⊢; exact this
    · rename_i hm
      obtain ⟨L', h1, h2⟩ := prune_ok h
      refine ⟨L', h1, fun i v q => ?_⟩
      have := h2 i v q
      cases ha : lk (dn acc) i with
      | some x => rw [ha] at this; exact this
      | none =>
        rw [ha] at this
        refine ⟨this.1, ?_⟩
        simp only [dn, lk]
        cases hb : Nat.beq j i with
        | true => have e := beq_n hb; subst e; rw [hm] at this; cases this.1
        | false => exact this.2
section
variable {P : Program} {n : Fr} {Q0 : Exit → Act → World → Prop} {M : World → Prop}
theorem Sat.cons {L : PF} {a : Act} {d : Nat} {v : Value} (h : Sat n L a) (hv : a.tmps.getD d undef = v) : Sat n ((d, v) :: L) a := ⟨h.1, h.2.1, fun i u hi => by
  rw [lk_cons] at hi
  by_cases hid : d = i
  · subst hid; simp at hi; subst hi; exact hv
  · simp only [hid, if_false] at hi; exact h.2.2 i u hi⟩
theorem run_ok [Tb P] : ∀ (f : Nat) (K : List Fm) (s : St) (L : SF), Run P n Q0 M f K s L → Sem1 P n Q0 M K (dn L) s
  | 0, K, .c x, L, h => h
  | 0, K, .o md l, L, h => h
  | 0, K, .e x, L, h => h
  | f + 1, K, .c x, L, h => by
    simp only [Run] at h
    split at h
    · split at h
      · exact XC.seq (run_ok f _ (.c _) L h)
      · split at h
        · exact h
        · exact XC.seq (run_ok f _ (.c _) L h)
    · exact XC.skip (run_ok f _ (.e _) L h)
    · exact XC.ret (run_ok f _ (.e _) L h)
    · exact XC.exit (run_ok f _ (.e _) L h)
    · exact XC.block (run_ok f _ (.c _) L h)
    · split at h
      · rename_i ops _
        exact XC.region (l := ops.toList) (run_ok f _ (.o _ _) L h)
      · exact h
    · split at h
      · rename_i hc
        exact XC.condT (t := true) (sv_ev hc) rfl (run_ok f _ (.c _) L h)
      · rename_i hc
        exact XC.condF (t := false) (sv_ev hc) rfl (run_ok f _ (.c _) L h)
      · exact h
    · exact h
  | f + 1, K, .e x, L, h => by
    simp only [Run] at h
    split at h
    · exact h
    · rename_i K' y
      split at h
      · obtain ⟨L', h1, h2⟩ := prune_ok h
        refine XE.next (XC.keep (dn L') (fun i v q => ?_) (run_ok f _ (.c _) L' h1))
        exact (h2 i v q).2
      · exact XE.thenRet (run_ok f _ (.e _) L h)
      · exact XE.thenExit (run_ok f _ (.e _) L h)
      · exact h
    · rename_i K' i
      split at h
      · exact XE.blockNormal (run_ok f _ (.e _) L h)
      · exact XE.blockRet (run_ok f _ (.e _) L h)
      · split at h
        · rename_i hb
          have := beq_n hb; subst this
          exact XE.blockExit (run_ok f _ (.e _) L h)
        · rename_i hb
          exact XE.blockOther hb (run_ok f _ (.e _) L h)
      · exact h
    · rename_i K' T
      split at h
      · exact XE.thenRet (run_ok f _ (.e _) L h)
      · exact XE.thenExit (run_ok f _ (.e _) L h)
      · exact h
  | f + 1, K, .o md l, L, h => by
    simp only [Run] at h
    split at h
    · exact XO.nil (run_ok f _ (.e _) L h)
    · rename_i dst op ty pos af gd r
      split at h
      · rename_i j want
        split at h
        · rename_i dj hdj
          have hj : (md.a[j]?).bind (·.dst) = some dj := by
            have := dstAt_ok hdj
            simpa using this
          split at h
          · rename_i hs
            split at h
            · exact XO.guardRun rfl hj (lk_dn hs) (run_ok f _ (.o _ _) L h)
            · split at h
              · split at h
                · rename_i hd
                  exact XO.guardSkip rfl rfl hd hj (lk_dn hs) (run_ok f _ (.o _ _) ((_, .one .un) :: L) h)
                · exact h
              · exact h
          · rename_i hs
            split at h
            · exact XO.guardRun rfl hj (lk_dn hs) (run_ok f _ (.o _ _) L h)
            · split at h
              · split at h
                · rename_i hd
                  exact XO.guardSkip rfl rfl hd hj (lk_dn hs) (run_ok f _ (.o _ _) ((_, .one .un) :: L) h)
                · exact h
              · exact h
          · rename_i hs
            split at h
            · split at h
              · rename_i hd
                exact XO.guardSkipU rfl rfl hd hj (lk_dn hs) (run_ok f _ (.o _ _) ((_, .one .un) :: L) h)
              · exact h
            · exact h
          · exact h
        · exact h
      · split at h
        · split at h
          · rename_i hd
            split at h
            · rename_i s hs
              obtain ⟨h1, h2⟩ := stepV_ok (P := P) (n := n) (φ := fun _ => True) (d := _) (ty := ty) (pos := pos) (af := af) (gd := none) hs
              exact XO.v h1 (by rw [hd, h2]; rfl) (run_ok f _ (.o _ _) ((_, s) :: L) h)
            · split at h
              · rename_i q s hs
                rcases h with h | h
                · obtain ⟨h1, h2⟩ := stepS_ok (P := P) (n := n) (φ := fun _ => True) (d := _) (ty := ty) (pos := pos) (af := af) (gd := none) hs h.1
                  exact XO.v h1 (by rw [hd, h2]; rfl) (run_ok f _ (.o _ _) ((_, s) :: L) h.2)
                · exact h
              · exact halt_ok (fun x hx => by cases hx; exact hd) h
          · exact h
        · exact halt_ok (fun x hx => by cases hx) h
/-! what is known of memory, changed underway -/
theorem prune_imp {ps : List Nat} {k k' : SF → Prop} (h : ∀ L, k L → k' L) : ∀ {L acc : SF}, prune ps L acc k → prune ps L acc k'
  | [], _, q => h _ q
  | (i, s) :: r, acc, q => by
    simp only [prune] at q ⊢
    split at q
    · split at q
      · exact prune_imp h q
      · exact prune_imp h q
    · exact prune_imp h q
theorem prune_all {ps : List Nat} {k : SF → Prop} (h : ∀ L, k L) : ∀ {L acc : SF}, prune ps L acc k
  | [], _ => h _
  | (i, s) :: r, acc => by
    simp only [prune]
    split
    · split
      · exact prune_all h
      · exact prune_all h
    · exact prune_all h
theorem halt_mono {M' : World → Prop} (hm : ∀ w, M w → M' w) {K : List Fm} {md : Md} {r : List Oper} {L : SF} {T : Tab} {dst : Option Tmp} {op : Op} {ty : TypeId} {pos : String} {af : Array Edge}
    (h : halt P n Q0 M' K md r L T dst op ty pos af (XO P n md (den P Q0 K) (⟨dst, op, ty, pos, af, none⟩ :: r) (dn L) M')) : halt P n Q0 M K md r L T dst op ty pos af (XO P n md (den P Q0 K) (⟨dst, op, ty, pos, af, none⟩ :: r) (dn L) M) := by
  unfold halt at h ⊢
  repeat' (split at h)
  all_goals first
    | exact XO.mono hm h
    | exact fun a b c => XO.mono hm (h a b c)
    | exact fun a b c d => XO.mono hm (h a b c d)
theorem halt_vac (hm : ∀ w, ¬ M w) {K : List Fm} {md : Md} {r : List Oper} {L : SF} {T : Tab} {dst : Option Tmp} {op : Op} {ty : TypeId} {pos : String} {af : Array Edge} :
    halt P n Q0 M K md r L T dst op ty pos af (XO P n md (den P Q0 K) (⟨dst, op, ty, pos, af, none⟩ :: r) (dn L) M) := by
  unfold halt
  repeat' split
  all_goals first
    | exact fun a w _ hw => absurd hw (hm w)
    | exact fun _ _ _ a w _ hw => absurd hw (hm w)
    | exact fun _ _ _ _ a w _ hw => absurd hw (hm w)
theorem run_mono [Tb P] {M' : World → Prop} (hm : ∀ w, M w → M' w) : ∀ (f : Nat) (K : List Fm) (s : St) (L : SF), Run P n Q0 M' f K s L → Run P n Q0 M f K s L
  | 0, K, .c x, L, h => XC.mono hm h
  | 0, K, .o md l, L, h => XO.mono hm h
  | 0, K, .e x, L, h => XE.mono hm h
  | f + 1, K, .c x, L, h => by
    simp only [Run] at h ⊢
    repeat' (split at h)
    all_goals first
      | exact XC.mono hm h
      | exact run_mono hm f _ _ _ h
  | f + 1, K, .e x, L, h => by
    simp only [Run] at h ⊢
    repeat' (split at h)
    all_goals first
      | exact XE.mono hm h
      | exact run_mono hm f _ _ _ h
      | exact prune_imp (fun L' => run_mono hm f _ _ _) h
  | f + 1, K, .o md l, L, h => by
    simp only [Run] at h ⊢
    repeat' (split at h)
    all_goals first
      | exact XO.mono hm h
      | exact run_mono hm f _ _ _ h
      | exact halt_mono hm h
      | exact h.imp (fun q => ⟨q.1, run_mono hm f _ _ _ q.2⟩) (XO.mono hm)
theorem run_vac [Tb P] (hm : ∀ w, ¬ M w) : ∀ (f : Nat) (K : List Fm) (s : St) (L : SF), Run P n Q0 M f K s L
  | 0, K, .c x, L => fun a w _ hw => absurd hw (hm w)
  | 0, K, .o md l, L => fun a w _ hw => absurd hw (hm w)
  | 0, K, .e x, L => fun a w _ hw => absurd hw (hm w)
  | f + 1, K, .c x, L => by
    simp only [Run]
    repeat' split
    all_goals first
      | exact run_vac hm f _ _ _
      | exact fun a w _ hw => absurd hw (hm w)
  | f + 1, K, .e x, L => by
    simp only [Run]
    repeat' split
    all_goals first
      | exact run_vac hm f _ _ _
      | exact prune_all (fun L' => run_vac hm f _ _ _)
      | exact fun a w _ hw => absurd hw (hm w)
  | f + 1, K, .o md l, L => by
    simp only [Run]
    repeat' split
    all_goals first
      | exact run_vac hm f _ _ _
      | exact halt_vac hm
      | exact .inr (fun a w _ hw => absurd hw (hm w))
      | exact fun a w _ hw => absurd hw (hm w)
theorem run_fact [Tb P] {φ : Prop} (hφ : ∀ w, M w → φ) {f : Nat} {K : List Fm} {s : St} {L : SF} (h : φ → Run P n Q0 M f K s L) : Run P n Q0 M f K s L := by
  by_cases c : ∃ w, M w
  · obtain ⟨w, hw⟩ := c
    exact h (hφ w hw)
  · exact run_vac (fun w hw => c ⟨w, hw⟩) f K s L
end
end Go.X
