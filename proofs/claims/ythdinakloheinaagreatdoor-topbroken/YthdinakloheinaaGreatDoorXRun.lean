import Derived.Test.YthdinakloheinaaGreatDoorXBits
namespace Go.X
open Go
inductive SV where
 | int (k:IntKind) (z:Int)
 | str (s:ByteArray)
 | ptr (b o i:Nat)
 | nil
 | err (T:TypeId) (e:Int)
 | ifc (T:TypeId) (v:Value)
 | pn
 | tt
 | ff
 | dec (p:Prop) [inst:Decidable p]
 | bool (b:Bool)
 | slc (p:Option Addr) (n c:Nat)
 | un
 | val (v:Value)
def SV.den:SV→Value
 | .int k z=>.int k z
 | .str s=>.string s
 | .ptr b o i=>Go.X.ptr b o i
 | .nil=>.nilIface
 | .err T e=>bM T e
 | .ifc T v=>.iface T v
 | .pn=>.pointer none
 | .tt=>.bool true
 | .ff=>.bool false
 | @SV.dec p i=>.bool (@decide p i)
 | .bool b=>.bool b
 | .slc p n c=>.slice p n c
 | .un=>undef
 | .val v=>v
def aj:List SV→List Value
 | []=>[]
 | s::r=>s.den::aj r
inductive SW where
 | one (s:SV)
 | tup (l:List SV)
def SW.den:SW→Value
 | .one s=>s.den
 | .tup l=>.tuple (aj l).toArray
abbrev SF:=List (Nat×SW)
def dn:SF→PF
 | []=>[]
 | (i,s)::r=>(i,s.den)::dn r
def sk:SF→Nat→Option SW
 | [],_=>none
 | (i,s)::r,j=>match Nat.beq i j with
  | true=>some s
  | false=>sk r j
theorem pJ:∀ {L:SF} {j:Nat} {s:SW},sk L j=some s→lk (dn L) j=some s.den
 | [],_,_,h=>by simp[sk]at h
 | (i,t)::r,j,s,h=>by
  simp only[sk]at h
  simp only[dn,lk]
  cases hb:Nat.beq i j with
  | true=>simp only[hb,Option.some.injEq]at h;subst h;rfl
  | false=>simp only[hb]at h;exact pJ h
def aZ:Value→SV
 | .int k z=>.int k z
 | .string s=>.str s
 | .nilIface=>.nil
 | .pointer none=>.pn
 | .bool true=>.tt
 | .bool false=>.ff
 | .slice p n c=>.slc p n c
 | v=>.val v
theorem IN(v:Value):(aZ v).den=v:=by
 unfold aZ;split<;>rfl
def sv(L:SF):Operand→Option SW
 | .tmp t=>sk L t
 | .const v=>some (.one (aZ v))
 | .global g=>some (.one (.val (.pointer (some ⟨g,0,none⟩))))
 | .func f=>some (.one (.val (.func (.func f) #[] #[])))
theorem bY{L:SF}{x:Operand}{s:SW}(h:sv L x=some s):ev (dn L) x=some s.den:=by
 cases x with
 | tmp t=>exact pJ h
 | const v=>simp only[sv,Option.some.injEq]at h;subst h;exact congrArg some (IN v).symm
 | global g=>simp only[sv,Option.some.injEq]at h;subst h;rfl
 | func f=>simp only[sv,Option.some.injEq]at h;subst h;rfl
inductive BT where
 | lf
 | nd (k v:Nat) (l r:BT)
def BT.get:BT→Nat→Option Nat
 | .lf,_=>none
 | .nd k v l r,j=>match Nat.beq j k with
  | true=>some v
  | false=>match Nat.blt j k with
   | true=>l.get j
   | false=>r.get j
def BT.all(f:Nat→Nat→Bool):BT→Bool
 | .lf=>true
 | .nd k v l r=>f k v&&l.all f&&r.all f
theorem BT.ix{f:Nat→Nat→Bool} :∀ {t:BT} {j v:Nat},t.all f=true→t.get j=some v→f j v=true
 | .lf,_,_,_,h=>by simp[BT.get]at h
 | .nd k u l r,j,v,ha,h=>by
  simp only[BT.all,Bool.and_eq_true]at ha
  simp only[BT.get]at h
  cases hb:Nat.beq j k with
  | true=>simp only[hb,Option.some.injEq]at h;subst h;rw[Nat.eq_of_beq_eq_true hb];exact ha.1.1
  | false=>
   simp only[hb]at h
   cases hc:Nat.blt j k with
   | true=>simp only[hc]at h;exact BT.ix ha.1.2 h
   | false=>simp only[hc]at h;exact BT.ix ha.2 h
structure yh where
 fo:BT
 un:BT
 sz:BT
 an:BT
 as:BT
 sl:BT
 fn:BT
def lA(P:Program)(t c:Nat):Bool:=match P.underlying t with
 | some (.interface _)=>Nat.beq c 1
 | some (.pointer _)=>Nat.beq c 2
 | some .string=>Nat.beq c 3
 | some (.slice _)=>Nat.beq c 4
 | some .bool=>Nat.beq c 5
 | some (.struct _)=>Nat.beq c 7
 | some (.array _ _)=>Nat.beq c 7
 | some _=>Nat.beq c 6
 | none=>false
def yh.ok(P:Program)(t:yh):Bool:=t.fo.all (fun k v=>match cR P (k/64) (k%64)with
 | some u=>Nat.beq u v
 | none=>false)&&t.un.all (lA P)&&t.sz.all (fun k v=>match dx P k with
 | some u=>Nat.beq u v
 | none=>false)&&t.an.all (fun k v=>match n5 P k with
 | some u=>Nat.beq u.1 v
 | none=>false)&&t.as.all (fun k v=>match n5 P k with
 | some u=>Nat.beq u.2 v
 | none=>false)&&t.sl.all (fun k v=>match nV P k with
 | some u=>Nat.beq u.2 v
 | none=>false)&&t.fn.all (fun k _=>cX P k)
class Tb (P:Program) where
 t:yh
 ok:t.ok P=true
theorem Tb.fo{P:Program}[h:Tb P]{s f k:Nat}(hf:f<64)(hk:h.t.fo.get (s*64+f)=some k):cR P s f=some k:=by
 have h1:=h.ok
 simp only[yh.ok,Bool.and_eq_true]at h1
 have h2:=BT.ix h1.1.1.1.1.1.1 hk
 rw[show(s*64+f)/64=s from by omega,show(s*64+f)%64=f from by omega]at h2
 cases hx:cR P s f with
 | none=>simp[hx]at h2
 | some u=>simp only[hx]at h2;rw[Nat.eq_of_beq_eq_true h2]
theorem Tb.un{P:Program}[h:Tb P]{t c:Nat}(hk:h.t.un.get t=some c):lA P t c=true:=by
 have h1:=h.ok
 simp only[yh.ok,Bool.and_eq_true]at h1
 exact BT.ix h1.1.1.1.1.1.2 hk
theorem Tb.sz{P:Program}[h:Tb P]{t c:Nat}(hk:h.t.sz.get t=some c):dx P t=some c:=by
 have h1:=h.ok
 simp only[yh.ok,Bool.and_eq_true]at h1
 have h2:=BT.ix h1.1.1.1.1.2 hk
 cases hx:dx P t with
 | none=>simp[hx]at h2
 | some u=>simp only[hx]at h2;rw[Nat.eq_of_beq_eq_true h2]
theorem Tb.ar{P:Program}[h:Tb P]{t c s:Nat}(hk:h.t.an.get t=some c)(hs:h.t.as.get t=some s):n5 P t=some (c,s):=by
 have h1:=h.ok
 simp only[yh.ok,Bool.and_eq_true]at h1
 have h2:=BT.ix h1.1.1.1.2 hk
 have h3:=BT.ix h1.1.1.2 hs
 cases hx:n5 P t with
 | none=>simp[hx]at h2
 | some u=>simp only[hx]at h2 h3;rw[←Nat.eq_of_beq_eq_true h2,←Nat.eq_of_beq_eq_true h3]
theorem Tb.sl{P:Program}[h:Tb P]{t c:Nat}(hk:h.t.sl.get t=some c):∃ e,nV P t=some (e,c):=by
 have h1:=h.ok
 simp only[yh.ok,Bool.and_eq_true]at h1
 have h2:=BT.ix h1.1.2 hk
 cases hx:nV P t with
 | none=>simp[hx]at h2
 | some u=>simp only[hx]at h2;exact⟨u.1,by rw[←Nat.eq_of_beq_eq_true h2]⟩
theorem Tb.fn{P:Program}[h:Tb P]{t c:Nat}(hk:h.t.fn.get t=some c):cX P t=true:=by
 have h1:=h.ok
 simp only[yh.ok,Bool.and_eq_true]at h1
 exact BT.ix h1.2 hk
theorem H8{P:Program}{t c:Nat}(h:lA P t c=true)(hc:Nat.blt c 7=true):fT P t=true:=by
 unfold lA at h;unfold fT
 split at h<;>first | (rename_i e;rw[e];done) | skip
 all_goals first | (have:=Nat.eq_of_beq_eq_true h;subst this;simp at hc;done) | skip
 all_goals first | (rename_i e;rw[e];split<;>simp_all;done) | (simp_all;done)
theorem yM{P:Program}{t:Nat}(h:lA P t 7=true):jW P t=true:=by
 unfold lA at h;unfold jW
 split at h<;>first | (rename_i e;rw[e];done) | (simp at h;done)
theorem NI{P:Program}{t:Nat}(h:lA P t 1=true):∃ ms,P.underlying t=some (.interface ms):=by
 unfold lA at h;split at h<;>first | exact⟨_,by assumption⟩ | cases h
theorem Oe{P:Program}{t:Nat}(h:lA P t 2=true):∃ e,P.underlying t=some (.pointer e):=by
 unfold lA at h;split at h<;>first | exact⟨_,by assumption⟩ | cases h
theorem Oc{P:Program}{t:Nat}(h:lA P t 3=true):P.underlying t=some .string:=by
 unfold lA at h;split at h<;>first | assumption | cases h
theorem Oq{P:Program}{t:Nat}(h:lA P t 4=true):∃ e,P.underlying t=some (.slice e):=by
 unfold lA at h;split at h<;>first | exact⟨_,by assumption⟩ | cases h
theorem Ov{P:Program}{t c:Nat}(h:lA P t c=true)(hc:Nat.beq c 1=false):∃ ds,P.underlying t=some ds∧∀ ms,ds≠ .interface ms:=by
 cases hu:P.underlying t with
 | none=>simp[lA,hu]at h
 | some ds=>
  refine⟨ds,rfl,fun ms e=> ?_⟩
  subst e
  simp only[lA,hu]at h
  rw[hc]at h;cases h
def Fw:List SV→Nat→Option SW
 | [],_=>none
 | s::_,0=>some (.one s)
 | _::r,k+1=>Fw r k
theorem wQ:∀ {l:List SV} {k:Nat} {s:SW},Fw l k=some s→yO (aj l) k=some s.den
 | [],_,_,h=>by simp[Fw]at h
 | _::_,0,_,h=>by simp only[Fw,Option.some.injEq]at h;subst h;rfl
 | _::r,k+1,_,h=>wQ (l:=r) h
def Mt(a b:Int):BinOp→Option SW
 | .eql=>some (.one (.dec (a=b)))
 | .neq=>some (.one (.dec (a≠b)))
 | .lss=>some (.one (.dec (a<b)))
 | .leq=>some (.one (.dec (a≤b)))
 | .gtr=>some (.one (.dec (a>b)))
 | .geq=>some (.one (.dec (a≥b)))
 | _=>none
def MG(a b:ByteArray):BinOp→Option SW
 | .eql=>some (.one (.dec (a=b)))
 | .neq=>some (.one (.dec (a≠b)))
 | .lss=>some (.one (.bool (Op.bytesLess a.toList b.toList)))
 | _=>none
def td(T:yh)(t c:Nat)(r:SV)(r':SV):BinOp→Option SW
 | .eql=>match T.un.get t with
  | some d=>match Nat.beq d c with
   | true=>some (.one r)
   | false=>none
  | none=>none
 | .neq=>match T.un.get t with
  | some d=>match Nat.beq d c with
   | true=>some (.one r')
   | false=>none
  | none=>none
 | _=>none
def o7:Operand→Bool
 | .const .nilIface=>true
 | _=>false
def A5:Operand→Bool
 | .const (.pointer none)=>true
 | _=>false
def F4(T:yh)(L:SF)(op:BinOp)(t:TypeId)(x y:Operand):Option SW:=match sv L x with
 | some (.one (.int k a))=>match sv L y with
  | some (.one (.int k' b))=>match decEq k k' with
   | .isTrue _=>Mt a b op
   | .isFalse _=>none
  | _=>none
 | some (.one (.str a))=>match sv L y with
  | some (.one (.str b))=>MG a b op
  | _=>none
 | some (.one (.err _ e))=>match o7 y with
  | true=>td T t 1 (.dec (e=0)) (.dec (e≠0)) op
  | false=>none
 | some (.one .nil)=>match o7 y with
  | true=>td T t 1 .tt .ff op
  | false=>none
 | some (.one (.ifc _ _))=>match o7 y with
  | true=>td T t 1 .ff .tt op
  | false=>none
 | some (.one (.ptr _ _ _))=>match A5 y with
  | true=>td T t 2 .ff .tt op
  | false=>none
 | some (.one .pn)=>match A5 y with
  | true=>td T t 2 .tt .ff op
  | false=>none
 | _=>none
def E5(T:yh)(L:SF)(b:Builtin)(xs:Array Operand)(ts:Array TypeId):Option SW:=match b with
 | .len=>match xs.toList with
  | [x]=>match ts.toList with
   | [t]=>match T.un.get t with
    | some c=>match sv L x with
     | some (.one (.str s))=>match Nat.beq c 3 with
      | true=>some (.one (.int .i64 s.size))
      | false=>none
     | some (.one (.slc _ n _))=>match Nat.beq c 4 with
      | true=>some (.one (.int .i64 n))
      | false=>none
     | _=>none
    | none=>none
   | _=>none
  | _=>none
 | .min=>match xs.toList with
  | [x,y]=>match ts.toList with
   | [_,_]=>match sv L x with
    | some (.one (.int k a))=>match sv L y with
     | some (.one (.int k' b))=>match decEq k k' with
      | .isTrue _=>some (.one (.int k (min a b)))
      | .isFalse _=>none
     | _=>none
    | _=>none
   | _=>none
  | _=>none
 | .max=>match xs.toList with
  | [x,y]=>match ts.toList with
   | [_,_]=>match sv L x with
    | some (.one (.int k a))=>match sv L y with
     | some (.one (.int k' b))=>match decEq k k' with
      | .isTrue _=>some (.one (.int k (max a b)))
      | .isFalse _=>none
     | _=>none
    | _=>none
   | _=>none
  | _=>none
 | _=>none
def J1:SW→Option SW
 | .one .tt=>some (.one .ff)
 | .one .ff=>some (.one .tt)
 | .one (@SV.dec p _)=>some (.one (.dec (¬p)))
 | .one (.bool b)=>some (.one (.bool (!b)))
 | _=>none
def Jt(u v:SW):SW→Option SW
 | .one .tt=>some u
 | .one .ff=>some v
 | _=>none
def Er(T:yh)(L:SF):Op→Option SW
 | .move x=>sv L x
 | .assign x=>sv L x
 | .pick c x y=>match sv L x with
  | some u=>match sv L y with
   | some v=>match sv L c with
    | some t=>Jt u v t
    | none=>none
   | none=>none
  | none=>none
 | .nilCheck x=>match sv L x with
  | some (.one (.ptr b o i))=>some (.one (.ptr b o i))
  | _=>none
 | .extract x k=>match sv L x with
  | some (.tup l)=>Fw l k
  | _=>none
 | .fieldAddr s x f=>match sv L x with
  | some (.one (.ptr b o i))=>match Nat.blt f 64 with
   | true=>match T.fo.get (s*64+f)with
    | some k=>some (.one (.ptr b o (i+k)))
    | none=>none
   | false=>none
  | _=>none
 | .binOp op t x y _=>F4 T L op t x y
 | .unOp op _ x=>match op with
  | .not=>match sv L x with
   | some s=>J1 s
   | none=>none
  | _=>none
 | .makeInterface t x=>match sv L x with
  | some (.one s)=>match T.un.get t with
   | some c=>match Nat.beq c 1 with
    | true=>none
    | false=>some (.one (.ifc t s.den))
   | none=>none
  | _=>none
 | .call c=>match c with
  | ⟨.builtin b,xs,ts⟩=>E5 T L b xs ts
  | _=>none
 | _=>none
def Lh(s:ByteArray):Option SW→Option SW→Option (Prop×SW)
 | some (.one (.int _ z)),some (.one (.int _ z'))=>some (0≤z∧z≤z'∧z'≤s.size,.one (.str (s.extract z.toNat z'.toNat)))
 | _,_=>none
def Mf(s:ByteArray):Option SW→Option (Prop×SW)
 | some (.one (.int _ z))=>some (0≤z∧z≤s.size,.one (.str (s.extract z.toNat s.size)))
 | _=>none
def Ka(s:ByteArray):Option SW→Option (Prop×SW)
 | some (.one (.int _ z))=>some (0≤z∧z≤s.size,.one (.str (s.extract 0 z.toNat)))
 | _=>none
def N7(a b:Int):BinOp→Option (Prop×SW)
 | .add=>some (-9223372036854775808≤a+b∧a+b≤9223372036854775807,.one (.int .i64 (a+b)))
 | .sub=>some (-9223372036854775808≤a-b∧a-b≤9223372036854775807,.one (.int .i64 (a-b)))
 | .mul=>some (-9223372036854775808≤a*b∧a*b≤9223372036854775807,.one (.int .i64 (a*b)))
 | _=>none
def EE(T:yh)(L:SF):Op→Option (Prop×SW)
 | .binOp op _ x y _=>match sv L x with
  | some (.one (.int .i64 a))=>match sv L y with
   | some (.one (.int .i64 b))=>N7 a b op
   | _=>none
  | some (.one (.str a))=>match sv L y with
   | some (.one (.str b))=>match op with
    | .add=>some (a.size+b.size≤9223372036854775807,.one (.str (a++b)))
    | _=>none
   | _=>none
  | _=>none
 | .unOp op _ x=>match op with
  | .neg=>match sv L x with
   | some (.one (.int .i64 a))=>some (-9223372036854775808≤0-a∧0-a≤9223372036854775807,.one (.int .i64 (0-a)))
   | _=>none
  | _=>none
 | .indexAddr t x y=>match sv L y with
  | some (.one (.int _ z))=>match sv L x with
   | some (.one (.ptr b o i))=>match T.an.get t with
    | some m=>match T.as.get t with
     | some s=>some (0≤z∧z<m,.one (.ptr b o (i+z.toNat*s)))
     | none=>none
    | none=>none
   | some (.one (.slc (some ⟨b,o,none⟩) n _))=>match T.sl.get t with
    | some s=>some (0≤z∧z<n,.one (.ptr b o (0+z.toNat*s)))
    | none=>none
   | _=>none
  | _=>none
 | .slice t x lo hi mx=>match mx with
  | none=>match T.un.get t with
   | some c=>match Nat.beq c 3 with
    | true=>match sv L x with
     | some (.one (.str s))=>match lo with
      | none=>match hi with
       | none=>none
       | some y=>Ka s (sv L y)
      | some y=>match hi with
       | none=>Mf s (sv L y)
       | some u=>Lh s (sv L y) (sv L u)
     | _=>none
    | false=>none
   | none=>none
  | some _=>none
 | _=>none
def Nn(L:SF):List Operand→Option (List SW)
 | []=>some []
 | x::r=>match sv L x with
  | some s=>match Nn L r with
   | some l=>some (s::l)
   | none=>none
  | none=>none
def AL:List SW→List Value
 | []=>[]
 | s::r=>s.den::AL r
theorem Ax{L:SF} :∀ {xs:List Operand} {l:List SW},Nn L xs=some l→Dt (dn L) xs=some (AL l)
 | [],l,h=>by simp only[Nn,Option.some.injEq]at h;subst h;rfl
 | x::r,l,h=>by
  simp only[Nn]at h
  split at h
  ·rename_i s hx
   split at h
   ·rename_i l' hr
    simp only[Option.some.injEq]at h;subst h
    simp only[Dt,bY hx,Ax hr,AL]
   ·cases h
  ·cases h
section
variable {P:Program} {n:Fr} {L:SF} {ty:TypeId} {pos:String} {af:Array Edge} {d:Nat} {gd:Option (Nat×Bool)} {φ:World→Prop}
theorem jN{a b:Nat}(h:Nat.beq a b=true):a=b:=Nat.eq_of_beq_eq_true h
theorem Eb[h:Tb P]{op:BinOp}{t t':TypeId}{x y:Operand}{s:SW}(hs:F4 h.t L op t x y=some s):bh P n (dn L) φ ⟨some d,.binOp op t x y t',ty,pos,af,gd⟩ s.den:=by
 unfold F4 at hs
 split at hs
 ·rename_i k a hx
  split at hs
  ·rename_i k' b hy
   split at hs
   ·rename_i hk _
    subst hk
    cases op<;>simp only[Mt,Option.some.injEq]at hs<;>first | cases hs;done | (subst hs;exact V.cmp (bY hx) (bY hy) rfl)
   ·cases hs
  ·cases hs
 ·rename_i a hx
  split at hs
  ·rename_i b hy
   cases op<;>simp only[MG,Option.some.injEq]at hs<;>first | cases hs;done | (subst hs;exact V.Ma (bY hx) (bY hy) rfl)
  ·cases hs
 ·rename_i T e hx
  split at hs
  ·rename_i hn
   have hy:y= .const .nilIface:=by unfold o7 at hn;split at hn<;>first | rfl | cases hn
   subst hy
   cases op<;>simp only[td]at hs<;>first | cases hs;done | (split at hs<;>first | cases hs;done | (split at hs<;>first | cases hs;done | (
    rename_i hg _ hb
    obtain⟨ms,hu⟩:=NI (by rw[←jN hb];exact Tb.un hg)
    simp only[Option.some.injEq]at hs
    subst hs
    exact V.K4 (bY hx) hu rfl)))
  ·cases hs
 ·rename_i hx
  split at hs
  ·rename_i hn
   have hy:y= .const .nilIface:=by unfold o7 at hn;split at hn<;>first | rfl | cases hn
   subst hy
   cases op<;>simp only[td]at hs<;>first | cases hs;done | (split at hs<;>first | cases hs;done | (split at hs<;>first | cases hs;done | (
    rename_i hg _ hb
    obtain⟨ms,hu⟩:=NI (by rw[←jN hb];exact Tb.un hg)
    simp only[Option.some.injEq]at hs
    subst hs
    exact V.EP (bY hx) hu rfl)))
  ·cases hs
 ·rename_i T v hx
  split at hs
  ·rename_i hn
   have hy:y= .const .nilIface:=by unfold o7 at hn;split at hn<;>first | rfl | cases hn
   subst hy
   cases op<;>simp only[td]at hs<;>first | cases hs;done | (split at hs<;>first | cases hs;done | (split at hs<;>first | cases hs;done | (
    rename_i hg _ hb
    obtain⟨ms,hu⟩:=NI (by rw[←jN hb];exact Tb.un hg)
    simp only[Option.some.injEq]at hs
    subst hs
    exact V.xx (bY hx) hu rfl)))
  ·cases hs
 ·rename_i b o i hx
  split at hs
  ·rename_i hn
   have hy:y= .const (.pointer none):=by unfold A5 at hn;split at hn<;>first | rfl | cases hn
   subst hy
   cases op<;>simp only[td]at hs<;>first | cases hs;done | (split at hs<;>first | cases hs;done | (split at hs<;>first | cases hs;done | (
    rename_i hg _ hb
    obtain⟨ms,hu⟩:=Oe (by rw[←jN hb];exact Tb.un hg)
    simp only[Option.some.injEq]at hs
    subst hs
    exact V.I7 (bY hx) hu rfl)))
  ·cases hs
 ·rename_i hx
  split at hs
  ·rename_i hn
   have hy:y= .const (.pointer none):=by unfold A5 at hn;split at hn<;>first | rfl | cases hn
   subst hy
   cases op<;>simp only[td]at hs<;>first | cases hs;done | (split at hs<;>first | cases hs;done | (split at hs<;>first | cases hs;done | (
    rename_i hg _ hb
    obtain⟨ms,hu⟩:=Oe (by rw[←jN hb];exact Tb.un hg)
    simp only[Option.some.injEq]at hs
    subst hs
    exact V.Ig (bY hx) hu rfl)))
  ·cases hs
 ·cases hs
theorem yo{α:Type}{xs:Array α}{l:List α}(h:xs.toList=l):xs=l.toArray:=by rw[←h]
theorem F3[h:Tb P]{b:Builtin}{xs:Array Operand}{ts:Array TypeId}{s:SW}(hs:E5 h.t L b xs ts=some s):bh P n (dn L) φ ⟨some d,.call ⟨.builtin b,xs,ts⟩,ty,pos,af,gd⟩ s.den∧cI (.call ⟨.builtin b,xs,ts⟩)=false:=by
 unfold E5 at hs
 split at hs
 ·refine⟨?_,rfl⟩
  split at hs
  ·rename_i x hxs
   split at hs
   ·rename_i t hts
    split at hs
    ·rename_i c hc
     split at hs
     ·rename_i a hx
      split at hs
      ·rename_i hb
       simp only[Option.some.injEq]at hs;subst hs
       rw[yo hxs,yo hts]
       exact V.Ly (bY hx) (Oc (by rw[←jN hb];exact Tb.un hc))
      ·cases hs
     ·rename_i p k c2 hx
      split at hs
      ·rename_i hb
       simp only[Option.some.injEq]at hs;subst hs
       rw[yo hxs,yo hts]
       obtain⟨e,hu⟩:=Oq (by rw[←jN hb];exact Tb.un hc)
       exact V.Nt (bY hx) hu
      ·cases hs
     ·cases hs
    ·cases hs
   ·cases hs
  ·cases hs
 ·refine⟨?_,rfl⟩
  split at hs
  ·rename_i x y hxs
   split at hs
   ·rename_i t1 t2 hts
    split at hs
    ·rename_i k a hx
     split at hs
     ·rename_i k' b hy
      split at hs
      ·rename_i hk _
       subst hk
       simp only[Option.some.injEq]at hs;subst hs
       rw[yo hxs,yo hts]
       exact V.min2 (bY hx) (bY hy)
      ·cases hs
     ·cases hs
    ·cases hs
   ·cases hs
  ·cases hs
 ·refine⟨?_,rfl⟩
  split at hs
  ·rename_i x y hxs
   split at hs
   ·rename_i t1 t2 hts
    split at hs
    ·rename_i k a hx
     split at hs
     ·rename_i k' b hy
      split at hs
      ·rename_i hk _
       subst hk
       simp only[Option.some.injEq]at hs;subst hs
       rw[yo hxs,yo hts]
       exact V.max2 (bY hx) (bY hy)
      ·cases hs
     ·cases hs
    ·cases hs
   ·cases hs
  ·cases hs
 ·cases hs
theorem FM[h:Tb P]{op:Op}{s:SW}(hs:Er h.t L op=some s):bh P n (dn L) φ ⟨some d,op,ty,pos,af,gd⟩ s.den∧cI op=false:=by
 unfold Er at hs
 split at hs
 ·exact⟨V.move (bY hs),rfl⟩
 ·exact⟨V.assign (bY hs),rfl⟩
 ·refine⟨?_,rfl⟩
  split at hs
  ·rename_i u hx
   split at hs
   ·rename_i v hy
    split at hs
    ·rename_i t hc
     unfold Jt at hs
     split at hs
     ·simp only[Option.some.injEq]at hs;subst hs;exact V.pick (t:=true) (bY hc) (bY hx) (bY hy) rfl
     ·simp only[Option.some.injEq]at hs;subst hs;exact V.pick (t:=false) (bY hc) (bY hx) (bY hy) rfl
     ·cases hs
    ·cases hs
   ·cases hs
  ·cases hs
 ·refine⟨?_,rfl⟩
  split at hs
  ·rename_i b o i hx
   simp only[Option.some.injEq]at hs;subst hs;exact V.bL (bY hx)
  ·cases hs
 ·refine⟨?_,rfl⟩
  split at hs
  ·rename_i l hx
   exact V.extract (bY hx) (by simpa using wQ hs)
  ·cases hs
 ·refine⟨?_,rfl⟩
  split at hs
  ·rename_i b o i hx
   split at hs
   ·rename_i hf
    split at hs
    ·rename_i k hk
     simp only[Option.some.injEq]at hs;subst hs
     exact V.fieldAddr (bY hx) (Tb.fo (by simpa using hf) hk)
    ·cases hs
   ·cases hs
  ·cases hs
 ·exact⟨Eb hs,rfl⟩
 ·refine⟨?_,rfl⟩
  split at hs
  ·split at hs
   ·rename_i t hx
    unfold J1 at hs
    split at hs
    ·simp only[Option.some.injEq]at hs;subst hs;exact V.not (b:=true) (bY hx)
    ·simp only[Option.some.injEq]at hs;subst hs;exact V.not (b:=false) (bY hx)
    ·simp only[Option.some.injEq]at hs;subst hs;exact V.NY (bY hx)
    ·simp only[Option.some.injEq]at hs;subst hs;exact V.not (bY hx)
    ·cases hs
   ·cases hs
  ·cases hs
 ·refine⟨?_,rfl⟩
  split at hs
  ·rename_i u hx
   split at hs
   ·rename_i c hc
    split at hs
    ·cases hs
    ·rename_i hb
     simp only[Option.some.injEq]at hs;subst hs
     obtain⟨ds,hu,hn⟩:=Ov (Tb.un hc) hb
     exact V.ud (bY hx) hu hn
   ·cases hs
  ·cases hs
 ·split at hs
  ·exact F3 hs
  ·cases hs
 ·cases hs
theorem Jh{s:ByteArray}{x y u:Operand}{t:TypeId}{q:Prop}{v:SW}(ht:P.underlying t=some .string)(hx:ev (dn L) x=some (.string s))(h:Lh s (sv L y) (sv L u)=some (q,v))(hq:q):bh P n (dn L) φ ⟨some d,.slice t x (some y) (some u) none,ty,pos,af,gd⟩ v.den:=by
 unfold Lh at h
 split at h
 ·rename_i k z k' z' hy hu
  simp only[Option.some.injEq,Prod.mk.injEq]at h
  obtain⟨rfl,rfl⟩:=h
  exact V.K0 hx (bY hy) (bY hu) ht hq
 ·cases h
theorem Iq{s:ByteArray}{x y:Operand}{t:TypeId}{q:Prop}{v:SW}(ht:P.underlying t=some .string)(hx:ev (dn L) x=some (.string s))(h:Mf s (sv L y)=some (q,v))(hq:q):bh P n (dn L) φ ⟨some d,.slice t x (some y) none none,ty,pos,af,gd⟩ v.den:=by
 unfold Mf at h
 split at h
 ·rename_i k z hy
  simp only[Option.some.injEq,Prod.mk.injEq]at h
  obtain⟨rfl,rfl⟩:=h
  exact V.sliceFrom hx (bY hy) ht hq
 ·cases h
theorem I9{s:ByteArray}{x y:Operand}{t:TypeId}{q:Prop}{v:SW}(ht:P.underlying t=some .string)(hx:ev (dn L) x=some (.string s))(h:Ka s (sv L y)=some (q,v))(hq:q):bh P n (dn L) φ ⟨some d,.slice t x none (some y) none,ty,pos,af,gd⟩ v.den:=by
 unfold Ka at h
 split at h
 ·rename_i k z hy
  simp only[Option.some.injEq,Prod.mk.injEq]at h
  obtain⟨rfl,rfl⟩:=h
  exact V.sliceTo hx (bY hy) ht hq
 ·cases h
theorem Gf[h:Tb P]{op:Op}{q:Prop}{v:SW}(hs:EE h.t L op=some (q,v))(hq:q):bh P n (dn L) φ ⟨some d,op,ty,pos,af,gd⟩ v.den∧cI op=false:=by
 unfold EE at hs
 split at hs
 ·refine⟨?_,rfl⟩
  split at hs
  ·rename_i a hx
   split at hs
   ·rename_i b hy
    unfold N7 at hs
    split at hs
    ·simp only[Option.some.injEq,Prod.mk.injEq]at hs
     obtain⟨rfl,rfl⟩:=hs
     exact V.add (bY hx) (bY hy) _ (IntWalk.i64_in _ hq)
    ·simp only[Option.some.injEq,Prod.mk.injEq]at hs
     obtain⟨rfl,rfl⟩:=hs
     exact V.sub (bY hx) (bY hy) _ (IntWalk.i64_in _ hq)
    ·simp only[Option.some.injEq,Prod.mk.injEq]at hs
     obtain⟨rfl,rfl⟩:=hs
     exact V.mul (bY hx) (bY hy) _ (IntWalk.i64_in _ hq)
    ·cases hs
   ·cases hs
  ·rename_i a hx
   split at hs
   ·rename_i b hy
    split at hs
    ·simp only[Option.some.injEq,Prod.mk.injEq]at hs
     obtain⟨rfl,rfl⟩:=hs
     exact V.concat (bY hx) (bY hy) hq
    ·cases hs
   ·cases hs
  ·cases hs
 ·refine⟨?_,rfl⟩
  split at hs
  ·split at hs
   ·rename_i a hx
    simp only[Option.some.injEq,Prod.mk.injEq]at hs
    obtain⟨rfl,rfl⟩:=hs
    exact V.neg (bY hx) _ (IntWalk.i64_in _ hq)
   ·cases hs
  ·cases hs
 ·refine⟨?_,rfl⟩
  split at hs
  ·rename_i k z hy
   split at hs
   ·rename_i b o i hx
    split at hs
    ·rename_i m hm
     split at hs
     ·rename_i s hs'
      simp only[Option.some.injEq,Prod.mk.injEq]at hs
      obtain⟨rfl,rfl⟩:=hs
      exact V.gT (bY hx) (bY hy) (Tb.ar hm hs') hq
     ·cases hs
    ·cases hs
   ·rename_i b o m c hx
    split at hs
    ·rename_i s hs'
     simp only[Option.some.injEq,Prod.mk.injEq]at hs
     obtain⟨rfl,rfl⟩:=hs
     obtain⟨e,he⟩:=Tb.sl hs'
     exact V.HA (bY hx) (bY hy) he hq
    ·cases hs
   ·cases hs
  ·cases hs
 ·refine⟨?_,rfl⟩
  split at hs
  ·split at hs
   ·rename_i c hc
    split at hs
    ·rename_i hb
     have ht:=Oc (P:=P) (by rw[←jN hb];exact Tb.un hc)
     split at hs
     ·rename_i s hx
      split at hs
      ·split at hs
       ·cases hs
       ·exact I9 ht (bY hx) hs hq
      ·split at hs
       ·exact Iq ht (bY hx) hs hq
       ·exact Jh ht (bY hx) hs hq
     ·cases hs
    ·cases hs
   ·cases hs
  ·cases hs
 ·cases hs
end
inductive Fm where
 | sq (c:Code)
 | blk (i:Nat)
 | th (T:Act→World→Prop)
def den(P:Program)(Q0:Exit→Act→World→Prop):List Fm→Exit→Act→World→Prop
 | []=>Q0
 | .sq y::K=>Exit.then (y.wp P (den P Q0 K)) (den P Q0 K)
 | .blk i::K=>Exit.inBlock i (den P Q0 K)
 | .th T::K=>Exit.then T (den P Q0 K)
inductive St where
 | c (x:Code)
 | o (md:Md) (l:List Oper)
 | e (x:Exit)
def KD:Nat→List Nat→Bool
 | _,[]=>false
 | i,j::r=>match Nat.beq i j with
  | true=>true
  | false=>KD i r
def prune(ps:List Nat):SF→SF→(SF→Prop)→Prop
 | [],acc,k=>k acc
 | (i,s)::r,acc,k=>match KD i ps with
  | true=>match sk acc i with
   | some _=>prune ps r acc k
   | none=>prune ps r ((i,s)::acc) k
  | false=>prune ps r acc k
def wz:List Oper→Nat→Option Nat
 | [],_=>none
 | o::_,0=>o.dst
 | _::r,k+1=>wz r k
theorem wR:∀ {l:List Oper} {j d:Nat},wz l j=some d→(l[j]?).bind (·.dst)=some d
 | [],_,_,h=>by simp[wz]at h
 | _::_,0,_,h=>by simpa [wz]using h
 | _::r,k+1,_,h=>by simpa using wR (l:=r) h
def ru:Code→Nat
 | .region i _ _=>i
 | .seq a _=>ru a
 | .block _ c=>ru c
 | .loop c=>ru c
 | .cond _ a _=>ru a
 | _=>0
def MK:Code→Nat
 | .region _ _ _=>0
 | .seq _ _=>1
 | .cond _ _ _=>2
 | .block _ _=>3
 | .loop _=>4
 | _=>5
def Kd(i k:Nat):List (Nat×Nat)→Bool
 | []=>false
 | (j,l)::r=>match Nat.beq i j with
  | true=>match Nat.beq k l with
   | true=>true
   | false=>Kd i k r
  | false=>Kd i k r
def Sd(q R X:Prop):Prop:=(q∧R)∨X
section
variable (P:Program) (n:Fr) (Q0:Exit→Act→World→Prop) (M:World→Prop) (K:List Fm) (md:Md) (r:List Oper) (L:SF)
def K2(t:TypeId)(d:Nat)(x:Operand)(ty:TypeId)(pos:String)(af:Array Edge)(b o i:Nat):Prop:=
 ev (dn L) x=some (ptr b o i)→fT P t=true→Nat.blt d n.sz=true→XO P n md (den P Q0 K) (⟨some d,.load t x,ty,pos,af,none⟩::r) (dn L) M
def NC(t:TypeId)(d:Nat)(x:Operand)(ty:TypeId)(pos:String)(af:Array Edge)(b o i k:Nat):Prop:=
 ev (dn L) x=some (ptr b o i)→jW P t=true→dx P t=some k→Nat.blt d n.sz=true→XO P n md (den P Q0 K) (⟨some d,.load t x,ty,pos,af,none⟩::r) (dn L) M
def Mj(t:TypeId)(x y:Operand)(ty:TypeId)(pos:String)(af:Array Edge)(b o i k:Nat)(s:SV):Prop:=
 ev (dn L) x=some (ptr b o i)→ev (dn L) y=some s.den→dx P t=some k→XO P n md (den P Q0 K) (⟨none,.store t x y,ty,pos,af,none⟩::r) (dn L) M
def NN(d:Nat)(f:FuncId)(xs:List Operand)(ji:Array TypeId)(ty:TypeId)(pos:String)(af:Array Edge)(vs:List Value):Prop:=
 Dt (dn L) xs=some vs→cX P f=true→Nat.blt d n.sz=true→XO P n md (den P Q0 K) (⟨some d,.call ⟨.value (.func f),xs.toArray,ji⟩,ty,pos,af,none⟩::r) (dn L) M
def halt(T:yh)(dst:Option Tmp)(op:Op)(ty:TypeId)(pos:String)(af:Array Edge)(ho:Prop):Prop:=match op with
   | .load t x=>match dst with
    | some d=>match sv L x with
     | some (.one (.ptr b o i))=>match T.un.get t with
      | some c=>match Nat.blt c 7 with
       | true=>K2 P n Q0 M K md r L t d x ty pos af b o i
       | false=>match Nat.beq c 7 with
        | true=>match T.sz.get t with
         | some k=>NC P n Q0 M K md r L t d x ty pos af b o i k
         | none=>ho
        | false=>ho
      | none=>ho
     | _=>ho
    | none=>ho
   | .store t x y=>match dst with
    | none=>match sv L x with
     | some (.one (.ptr b o i))=>match sv L y with
      | some (.one s)=>match T.sz.get t with
       | some k=>Mj P n Q0 M K md r L t x y ty pos af b o i k s
       | none=>ho
      | _=>ho
     | _=>ho
    | some _=>ho
   | .call c=>match c with
    | ⟨.value (.func f),xs,ji⟩=>match dst with
     | some d=>match T.fn.get f with
      | some _=>match Nn L xs.toList with
       | some l=>NN P n Q0 M K md r L d f xs.toList ji ty pos af (AL l)
       | none=>ho
      | none=>ho
     | none=>ho
    | _=>ho
   | _=>ho
end
theorem AK{P:Program}[h:Tb P]{n:Fr}{Q0:Exit→Act→World→Prop}{M:World→Prop}{K:List Fm}{md:Md}{r:List Oper}{L:SF}{dst:Option Tmp}{op:Op}{ty:TypeId}{pos:String}{af:Array Edge}(hd:∀ d,dst=some d→Nat.blt d n.sz=true)(hh:halt P n Q0 M K md r L h.t dst op ty pos af (XO P n md (den P Q0 K) (⟨dst,op,ty,pos,af,none⟩::r) (dn L) M)):XO P n md (den P Q0 K) (⟨dst,op,ty,pos,af,none⟩::r) (dn L) M:=by
 unfold halt at hh
 ·split at hh
  ·split at hh
   ·split at hh
    ·rename_i hx
     split at hh
     ·rename_i hc
      split at hh
      ·rename_i hb
       exact hh (bY hx) (H8 (Tb.un hc) hb) (hd _ rfl)
      ·split at hh
       ·rename_i hb
        split at hh
        ·rename_i hk
         exact hh (bY hx) (yM (by rw[←jN hb];exact Tb.un hc)) (Tb.sz hk) (hd _ rfl)
        ·exact hh
       ·exact hh
     ·exact hh
    ·exact hh
   ·exact hh
  ·split at hh
   ·split at hh
    ·rename_i hx
     split at hh
     ·rename_i hy
      split at hh
      ·rename_i hk
       exact hh (bY hx) (bY hy) (Tb.sz hk)
      ·exact hh
     ·exact hh
    ·exact hh
   ·exact hh
  ·split at hh
   ·split at hh
    ·split at hh
     ·rename_i hf
      split at hh
      ·rename_i hl
       exact hh (Ax hl) (Tb.fn hf) (hd _ rfl)
      ·exact hh
     ·exact hh
    ·exact hh
   ·exact hh
  ·exact hh
section
variable (P:Program) (n:Fr) (Q0:Exit→Act→World→Prop) (M:World→Prop)
def ef[h:Tb P]:Nat→List Fm→St→SF→Prop
 | 0,K,.c x,L=>XC P n x (den P Q0 K) (dn L) M
 | 0,K,.o md l,L=>XO P n md (den P Q0 K) l (dn L) M
 | 0,K,.e x,L=>XE n (den P Q0 K) x (dn L) M
 | f+1,K,.c x,L=>match x with
  | .seq a b=>match n.cs with
   | []=>ef f (.sq b::K) (.c a) L
   | c::cs=>match Kd (ru a) (MK a) (c::cs)with
    | true=>XC P n (.seq a b) (den P Q0 K) (dn L) M
    | false=>ef f (.sq b::K) (.c a) L
  | .skip=>ef f K (.e .normal) L
  | .ret=>ef f K (.e .ret) L
  | .exit i=>ef f K (.e (.exit i)) L
  | .block i c=>ef f (.blk i::K) (.c c) L
  | .region i ops dr=>match dr with
   | false=>ef f K (.o (.cl ops) ops.toList) L
   | true=>XC P n (.region i ops true) (den P Q0 K) (dn L) M
  | .cond c a b=>match sv L c with
   | some (.one .tt)=>ef f K (.c a) L
   | some (.one .ff)=>ef f K (.c b) L
   | _=>XC P n (.cond c a b) (den P Q0 K) (dn L) M
  | y=>XC P n y (den P Q0 K) (dn L) M
 | f+1,K,.e x,L=>match K with
  | []=>XE n Q0 x (dn L) M
  | .sq y::K'=>match x with
   | .normal=>prune n.ps L [] fun L'=>ef f K' (.c y) L'
   | .ret=>ef f K' (.e .ret) L
   | .exit i=>ef f K' (.e (.exit i)) L
   | x=>XE n (den P Q0 (.sq y::K')) x (dn L) M
  | .blk i::K'=>match x with
   | .normal=>ef f K' (.e .normal) L
   | .ret=>ef f K' (.e .ret) L
   | .exit j=>match Nat.beq j i with
    | true=>ef f K' (.e .normal) L
    | false=>ef f K' (.e (.exit j)) L
   | x=>XE n (den P Q0 (.blk i::K')) x (dn L) M
  | .th T::K'=>match x with
   | .ret=>ef f K' (.e .ret) L
   | .exit i=>ef f K' (.e (.exit i)) L
   | x=>XE n (den P Q0 (.th T::K')) x (dn L) M
 | f+1,K,.o md l,L=>match l with
  | []=>ef f K (.e .normal) L
  | ⟨dst,op,ty,pos,af,gd⟩::r=>match gd with
   | some (j,want)=>match wz md.a.toList j with
    | some dj=>match sk L dj with
     | some (.one .tt)=>match want with
      | true=>ef f K (.o md (⟨dst,op,ty,pos,af,none⟩::r)) L
      | false=>match dst with
       | some d=>match Nat.blt d n.sz with
        | true=>ef f K (.o md r) ((d,.one .un)::L)
        | false=>XO P n md (den P Q0 K) (⟨some d,op,ty,pos,af,some (j,false)⟩::r) (dn L) M
       | none=>XO P n md (den P Q0 K) (⟨none,op,ty,pos,af,some (j,false)⟩::r) (dn L) M
     | some (.one .ff)=>match want with
      | false=>ef f K (.o md (⟨dst,op,ty,pos,af,none⟩::r)) L
      | true=>match dst with
       | some d=>match Nat.blt d n.sz with
        | true=>ef f K (.o md r) ((d,.one .un)::L)
        | false=>XO P n md (den P Q0 K) (⟨some d,op,ty,pos,af,some (j,true)⟩::r) (dn L) M
       | none=>XO P n md (den P Q0 K) (⟨none,op,ty,pos,af,some (j,true)⟩::r) (dn L) M
     | some (.one .un)=>match dst with
       | some d=>match Nat.blt d n.sz with
        | true=>ef f K (.o md r) ((d,.one .un)::L)
        | false=>XO P n md (den P Q0 K) (⟨some d,op,ty,pos,af,some (j,want)⟩::r) (dn L) M
       | none=>XO P n md (den P Q0 K) (⟨none,op,ty,pos,af,some (j,want)⟩::r) (dn L) M
     | _=>XO P n md (den P Q0 K) (⟨dst,op,ty,pos,af,some (j,want)⟩::r) (dn L) M
    | none=>XO P n md (den P Q0 K) (⟨dst,op,ty,pos,af,some (j,want)⟩::r) (dn L) M
   | none=>match dst with
    | some d=>match Nat.blt d n.sz with
     | true=>match Er h.t L op with
      | some s=>ef f K (.o md r) ((d,s)::L)
      | none=>match EE h.t L op with
       | some (q,s)=>Sd q (ef f K (.o md r) ((d,s)::L)) (XO P n md (den P Q0 K) (⟨some d,op,ty,pos,af,none⟩::r) (dn L) M)
       | none=>halt P n Q0 M K md r L h.t (some d) op ty pos af (XO P n md (den P Q0 K) (⟨some d,op,ty,pos,af,none⟩::r) (dn L) M)
     | false=>XO P n md (den P Q0 K) (⟨some d,op,ty,pos,af,none⟩::r) (dn L) M
    | none=>halt P n Q0 M K md r L h.t none op ty pos af (XO P n md (den P Q0 K) (⟨none,op,ty,pos,af,none⟩::r) (dn L) M)
end
def NZ(P:Program)(n:Fr)(Q0:Exit→Act→World→Prop)(M:World→Prop)(K:List Fm)(L:PF):St→Prop
 | .c x=>XC P n x (den P Q0 K) L M
 | .o md l=>XO P n md (den P Q0 K) l L M
 | .e x=>XE n (den P Q0 K) x L M
theorem Sub.trans{A B C:PF}(h:Sub A B)(k:Sub B C):Sub A C:=fun i v q=>h i v (k i v q)
theorem qP:∀ {L:SF} {j:Nat},sk L j=none→lk (dn L) j=none
 | [],_,_=>rfl
 | (i,t)::r,j,h=>by
  simp only[sk]at h
  simp only[dn,lk]
  cases hb:Nat.beq i j with
  | true=>simp[hb]at h
  | false=>simp only[hb]at h;exact qP h
theorem nq{ps:List Nat} :∀ {L acc:SF} {k:SF→Prop},prune ps L acc k→∃ L',k L'∧∀ i v,lk (dn L') i=some v→(match lk (dn acc) i with
 | some u=>u=v
 | none=>KD i ps=true∧lk (dn L) i=some v)
 | [],acc,k,h=>⟨acc,h,fun i v q=>by rw[q]⟩
 | (j,s)::r,acc,k,h=>by
  simp only[prune]at h
  split at h
  ·split at h
   ·rename_i u hu
    obtain⟨L',h1,h2⟩:=nq h
    refine⟨L',h1,fun i v q=> ?_⟩
    have:=h2 i v q
    cases ha:lk (dn acc) i with
    | some x=>rw[ha]at this;exact this
    | none=>
     rw[ha]at this
     refine⟨this.1,?_⟩
     simp only[dn,lk]
     cases hb:Nat.beq j i with
     | true=>have:=jN hb;subst this;rw[pJ hu]at ha;cases ha
     | false=>exact this.2
   ·rename_i hm _ hu
    obtain⟨L',h1,h2⟩:=nq h
    refine⟨L',h1,fun i v q=> ?_⟩
    have:=h2 i v q
    simp only[dn,lk]at this ⊢
    cases hb:Nat.beq j i with
    | true=>
     have e:=jN hb;subst e
     simp only[hb,cond_true]at this ⊢
     rw[qP hu]
     exact⟨hm,congrArg some this⟩
    | false=>simp only[hb,cond_false]at this ⊢;exact this
  ·rename_i hm
   obtain⟨L',h1,h2⟩:=nq h
   refine⟨L',h1,fun i v q=> ?_⟩
   have:=h2 i v q
   cases ha:lk (dn acc) i with
   | some x=>rw[ha]at this;exact this
   | none=>
    rw[ha]at this
    refine⟨this.1,?_⟩
    simp only[dn,lk]
    cases hb:Nat.beq j i with
    | true=>have e:=jN hb;subst e;rw[hm]at this;cases this.1
    | false=>exact this.2
section
variable {P:Program} {n:Fr} {Q0:Exit→Act→World→Prop} {M:World→Prop}
theorem Sat.cons{L:PF}{a:Act}{d:Nat}{v:Value}(h:Sat n L a)(hv:a.tmps.getD d undef=v):Sat n ((d,v)::L) a:=⟨h.1,h.2.1,fun i u hi=>by
 rw[qn]at hi
 by_cases hid:d=i
 ·subst hid;simp at hi;subst hi;exact hv
 ·simp only[hid,if_false]at hi;exact h.2.2 i u hi⟩
theorem bG[Tb P]:∀ (f:Nat) (K:List Fm) (s:St) (L:SF),ef P n Q0 M f K s L→NZ P n Q0 M K (dn L) s
 | 0,K,.c x,L,h=>h
 | 0,K,.o md l,L,h=>h
 | 0,K,.e x,L,h=>h
 | f+1,K,.c x,L,h=>by
  simp only[ef]at h
  split at h
  ·split at h
   ·exact XC.seq (bG f _ (.c _) L h)
   ·split at h
    ·exact h
    ·exact XC.seq (bG f _ (.c _) L h)
  ·exact XC.skip (bG f _ (.e _) L h)
  ·exact XC.ret (bG f _ (.e _) L h)
  ·exact XC.exit (bG f _ (.e _) L h)
  ·exact XC.block (bG f _ (.c _) L h)
  ·split at h
   ·rename_i ops _
    exact XC.region (l:=ops.toList) (bG f _ (.o _ _) L h)
   ·exact h
  ·split at h
   ·rename_i hc
    exact XC.JS (t:=true) (bY hc) rfl (bG f _ (.c _) L h)
   ·rename_i hc
    exact XC.JJ (t:=false) (bY hc) rfl (bG f _ (.c _) L h)
   ·exact h
  ·exact h
 | f+1,K,.e x,L,h=>by
  simp only[ef]at h
  split at h
  ·exact h
  ·rename_i K' y
   split at h
   ·obtain⟨L',h1,h2⟩:=nq h
    refine XE.next (XC.keep (dn L') (fun i v q=> ?_) (bG f _ (.c _) L' h1))
    exact(h2 i v q).2
   ·exact XE.qe (bG f _ (.e _) L h)
   ·exact XE.nW (bG f _ (.e _) L h)
   ·exact h
  ·rename_i K' i
   split at h
   ·exact XE.jc (bG f _ (.e _) L h)
   ·exact XE.nZ (bG f _ (.e _) L h)
   ·split at h
    ·rename_i hb
     have:=jN hb;subst this
     exact XE.uk (bG f _ (.e _) L h)
    ·rename_i hb
     exact XE.zC hb (bG f _ (.e _) L h)
   ·exact h
  ·rename_i K' T
   split at h
   ·exact XE.qe (bG f _ (.e _) L h)
   ·exact XE.nW (bG f _ (.e _) L h)
   ·exact h
 | f+1,K,.o md l,L,h=>by
  simp only[ef]at h
  split at h
  ·exact XO.nil (bG f _ (.e _) L h)
  ·rename_i dst op ty pos af gd r
   split at h
   ·rename_i j want
    split at h
    ·rename_i dj hdj
     have hj:(md.a[j]?).bind (·.dst)=some dj:=by
      have:=wR hdj
      simpa using this
     split at h
     ·rename_i hs
      split at h
      ·exact XO.nv rfl hj (pJ hs) (bG f _ (.o _ _) L h)
      ·split at h
       ·split at h
        ·rename_i hd
         exact XO.jC rfl rfl hd hj (pJ hs) (bG f _ (.o _ _) ((_,.one .un)::L) h)
        ·exact h
       ·exact h
     ·rename_i hs
      split at h
      ·exact XO.nv rfl hj (pJ hs) (bG f _ (.o _ _) L h)
      ·split at h
       ·split at h
        ·rename_i hd
         exact XO.jC rfl rfl hd hj (pJ hs) (bG f _ (.o _ _) ((_,.one .un)::L) h)
        ·exact h
       ·exact h
     ·rename_i hs
      split at h
      ·split at h
       ·rename_i hd
        exact XO.yA rfl rfl hd hj (pJ hs) (bG f _ (.o _ _) ((_,.one .un)::L) h)
       ·exact h
      ·exact h
     ·exact h
    ·exact h
   ·split at h
    ·split at h
     ·rename_i hd
      split at h
      ·rename_i s hs
       obtain⟨h1,h2⟩:=FM (P:=P) (n:=n) (φ:=fun _=>True) (d:=_) (ty:=ty) (pos:=pos) (af:=af) (gd:=none) hs
       exact XO.v h1 (by rw[hd,h2];rfl) (bG f _ (.o _ _) ((_,s)::L) h)
      ·split at h
       ·rename_i q s hs
        rcases h with h | h
        ·obtain⟨h1,h2⟩:=Gf (P:=P) (n:=n) (φ:=fun _=>True) (d:=_) (ty:=ty) (pos:=pos) (af:=af) (gd:=none) hs h.1
         exact XO.v h1 (by rw[hd,h2];rfl) (bG f _ (.o _ _) ((_,s)::L) h.2)
        ·exact h
       ·exact AK (fun x hx=>by cases hx;exact hd) h
     ·exact h
    ·exact AK (fun x hx=>by cases hx) h
theorem lK{ps:List Nat}{k k':SF→Prop}(h:∀ L,k L→k' L):∀ {L acc:SF},prune ps L acc k→prune ps L acc k'
 | [],_,q=>h _ q
 | (i,s)::r,acc,q=>by
  simp only[prune]at q ⊢
  split at q
  ·split at q
   ·exact lK h q
   ·exact lK h q
  ·exact lK h q
theorem me{ps:List Nat}{k:SF→Prop}(h:∀ L,k L):∀ {L acc:SF},prune ps L acc k
 | [],_=>h _
 | (i,s)::r,acc=>by
  simp only[prune]
  split
  ·split
   ·exact me h
   ·exact me h
  ·exact me h
theorem BF{M':World→Prop}(hm:∀ w,M w→M' w){K:List Fm}{md:Md}{r:List Oper}{L:SF}{T:yh}{dst:Option Tmp}{op:Op}{ty:TypeId}{pos:String}{af:Array Edge}(h:halt P n Q0 M' K md r L T dst op ty pos af (XO P n md (den P Q0 K) (⟨dst,op,ty,pos,af,none⟩::r) (dn L) M')):halt P n Q0 M K md r L T dst op ty pos af (XO P n md (den P Q0 K) (⟨dst,op,ty,pos,af,none⟩::r) (dn L) M):=by
 unfold halt at h ⊢
 repeat' (split at h)
 all_goals first
  | exact XO.mono hm h
  | exact fun a b c=>XO.mono hm (h a b c)
  | exact fun a b c d=>XO.mono hm (h a b c d)
theorem EM(hm:∀ w,¬M w){K:List Fm}{md:Md}{r:List Oper}{L:SF}{T:yh}{dst:Option Tmp}{op:Op}{ty:TypeId}{pos:String}{af:Array Edge} :halt P n Q0 M K md r L T dst op ty pos af (XO P n md (den P Q0 K) (⟨dst,op,ty,pos,af,none⟩::r) (dn L) M):=by
 unfold halt
 repeat' split
 all_goals first
  | exact fun a w _ hw=>absurd hw (hm w)
  | exact fun _ _ _ a w _ hw=>absurd hw (hm w)
  | exact fun _ _ _ _ a w _ hw=>absurd hw (hm w)
theorem iR[Tb P]{M':World→Prop}(hm:∀ w,M w→M' w):∀ (f:Nat) (K:List Fm) (s:St) (L:SF),ef P n Q0 M' f K s L→ef P n Q0 M f K s L
 | 0,K,.c x,L,h=>XC.mono hm h
 | 0,K,.o md l,L,h=>XO.mono hm h
 | 0,K,.e x,L,h=>XE.mono hm h
 | f+1,K,.c x,L,h=>by
  simp only[ef]at h ⊢
  repeat' (split at h)
  all_goals first
   | exact XC.mono hm h
   | exact iR hm f _ _ _ h
 | f+1,K,.e x,L,h=>by
  simp only[ef]at h ⊢
  repeat' (split at h)
  all_goals first
   | exact XE.mono hm h
   | exact iR hm f _ _ _ h
   | exact lK (fun L'=>iR hm f _ _ _) h
 | f+1,K,.o md l,L,h=>by
  simp only[ef]at h ⊢
  repeat' (split at h)
  all_goals first
   | exact XO.mono hm h
   | exact iR hm f _ _ _ h
   | exact BF hm h
   | exact h.imp (fun q=>⟨q.1,iR hm f _ _ _ q.2⟩) (XO.mono hm)
theorem n3[Tb P](hm:∀ w,¬M w):∀ (f:Nat) (K:List Fm) (s:St) (L:SF),ef P n Q0 M f K s L
 | 0,K,.c x,L=>fun a w _ hw=>absurd hw (hm w)
 | 0,K,.o md l,L=>fun a w _ hw=>absurd hw (hm w)
 | 0,K,.e x,L=>fun a w _ hw=>absurd hw (hm w)
 | f+1,K,.c x,L=>by
  simp only[ef]
  repeat' split
  all_goals first
   | exact n3 hm f _ _ _
   | exact fun a w _ hw=>absurd hw (hm w)
 | f+1,K,.e x,L=>by
  simp only[ef]
  repeat' split
  all_goals first
   | exact n3 hm f _ _ _
   | exact me (fun L'=>n3 hm f _ _ _)
   | exact fun a w _ hw=>absurd hw (hm w)
 | f+1,K,.o md l,L=>by
  simp only[ef]
  repeat' split
  all_goals first
   | exact n3 hm f _ _ _
   | exact EM hm
   | exact .inr (fun a w _ hw=>absurd hw (hm w))
   | exact fun a w _ hw=>absurd hw (hm w)
theorem nE[Tb P]{φ:Prop}(hφ:∀ w,M w→φ){f:Nat}{K:List Fm}{s:St}{L:SF}(h:φ→ef P n Q0 M f K s L):ef P n Q0 M f K s L:=by
 by_cases c:∃ w,M w
 ·obtain⟨w,hw⟩:=c
  exact h (hφ w hw)
 ·exact n3 (fun w hw=>c ⟨w,hw⟩) f K s L
end
end Go.X
