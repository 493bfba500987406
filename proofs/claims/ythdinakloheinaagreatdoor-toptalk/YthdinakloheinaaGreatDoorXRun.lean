import Derived.Test.YthdinakloheinaaGreatDoorXMore
namespace Go.X
open Go
inductive SV where
 | int (k:IntKind) (z:Int)
 | str (s:ByteArray)
 | ptr (b o i:Nat)
 | nil
 | err (T:TypeId) (e:Int)
 | ifc (T:TypeId) (v:Value)
 | pn
 | tt
 | ff
 | dec (p:Prop) [inst:Decidable p]
 | bool (b:Bool)
 | slc (p:Option Addr) (n c:Nat)
 | un
 | val (v:Value)
def SV.den:SV→Value
 | .int k z=>.int k z
 | .str s=>.string s
 | .ptr b o i=>Go.X.ptr b o i
 | .nil=>.nilIface
 | .err T e=>bH T e
 | .ifc T v=>.iface T v
 | .pn=>.pointer none
 | .tt=>.bool true
 | .ff=>.bool false
 | @SV.dec p i=>.bool (@decide p i)
 | .bool b=>.bool b
 | .slc p n c=>.slice p n c
 | .un=>undef
 | .val v=>v
def aj:List SV→List Value
 | []=>[]
 | s::r=>s.den::aj r
inductive SW where
 | one (s:SV)
 | tup (l:List SV)
def SW.den:SW→Value
 | .one s=>s.den
 | .tup l=>.tuple (aj l).toArray
abbrev SF:=List (Nat×SW)
def dn:SF→PF
 | []=>[]
 | (i,s)::r=>(i,s.den)::dn r
def sk:SF→Nat→Option SW
 | [],_=>none
 | (i,s)::r,j=>match Nat.beq i j with
  | true=>some s
  | false=>sk r j
theorem pf:∀ {L:SF} {j:Nat} {s:SW},sk L j=some s→lk (dn L) j=some s.den
 | [],_,_,h=>by simp[sk]at h
 | (i,t)::r,j,s,h=>by
  simp only[sk]at h
  simp only[dn,lk]
  cases hb:Nat.beq i j with
  | true=>simp only[hb,Option.some.injEq]at h;subst h;rfl
  | false=>simp only[hb]at h;exact pf h
def aL:Value→SV
 | .int k z=>.int k z
 | .string s=>.str s
 | .nilIface=>.nil
 | .pointer none=>.pn
 | .bool true=>.tt
 | .bool false=>.ff
 | .slice p n c=>.slc p n c
 | v=>.val v
theorem IH(v:Value):(aL v).den=v:=by
 unfold aL;split<;>rfl
def sv(L:SF):Operand→Option SW
 | .tmp t=>sk L t
 | .const v=>some (.one (aL v))
 | .global g=>some (.one (.val (.pointer (some ⟨g,0,none⟩))))
 | .func f=>some (.one (.val (.func (.func f) #[] #[])))
theorem bP{L:SF}{x:Operand}{s:SW}(h:sv L x=some s):ev (dn L) x=some s.den:=by
 cases x with
 | tmp t=>exact pf h
 | const v=>simp only[sv,Option.some.injEq]at h;subst h;exact congrArg some (IH v).symm
 | global g=>simp only[sv,Option.some.injEq]at h;subst h;rfl
 | func f=>simp only[sv,Option.some.injEq]at h;subst h;rfl
inductive BT where
 | lf
 | nd (k v:Nat) (l r:BT)
def BT.get:BT→Nat→Option Nat
 | .lf,_=>none
 | .nd k v l r,j=>match Nat.beq j k with
  | true=>some v
  | false=>match Nat.blt j k with
   | true=>l.get j
   | false=>r.get j
def BT.all(f:Nat→Nat→Bool):BT→Bool
 | .lf=>true
 | .nd k v l r=>f k v&&l.all f&&r.all f
theorem BT.ix{f:Nat→Nat→Bool} :∀ {t:BT} {j v:Nat},t.all f=true→t.get j=some v→f j v=true
 | .lf,_,_,_,h=>by simp[BT.get]at h
 | .nd k u l r,j,v,ha,h=>by
  simp only[BT.all,Bool.and_eq_true]at ha
  simp only[BT.get]at h
  cases hb:Nat.beq j k with
  | true=>simp only[hb,Option.some.injEq]at h;subst h;rw[Nat.eq_of_beq_eq_true hb];exact ha.1.1
  | false=>
   simp only[hb]at h
   cases hc:Nat.blt j k with
   | true=>simp only[hc]at h;exact BT.ix ha.1.2 h
   | false=>simp only[hc]at h;exact BT.ix ha.2 h
structure vH where
 fo:BT
 un:BT
 sz:BT
 an:BT
 as:BT
 sl:BT
 fn:BT
def k6(P:Program)(t c:Nat):Bool:=match P.underlying t with
 | some (.interface _)=>Nat.beq c 1
 | some (.pointer _)=>Nat.beq c 2
 | some .string=>Nat.beq c 3
 | some (.slice _)=>Nat.beq c 4
 | some .bool=>Nat.beq c 5
 | some (.struct _)=>Nat.beq c 7
 | some (.array _ _)=>Nat.beq c 7
 | some _=>Nat.beq c 6
 | none=>false
def vH.ok(P:Program)(t:vH):Bool:=t.fo.all (fun k v=>match cO P (k/64) (k%64)with
 | some u=>Nat.beq u v
 | none=>false)&&t.un.all (k6 P)&&t.sz.all (fun k v=>match de P k with
 | some u=>Nat.beq u v
 | none=>false)&&t.an.all (fun k v=>match nv P k with
 | some u=>Nat.beq u.1 v
 | none=>false)&&t.as.all (fun k v=>match nv P k with
 | some u=>Nat.beq u.2 v
 | none=>false)&&t.sl.all (fun k v=>match ny P k with
 | some u=>Nat.beq u.2 v
 | none=>false)&&t.fn.all (fun k _=>cR P k)
class Tb (P:Program) where
 t:vH
 ok:t.ok P=true
theorem Tb.fo{P:Program}[h:Tb P]{s f k:Nat}(hf:f<64)(hk:h.t.fo.get (s*64+f)=some k):cO P s f=some k:=by
 have h1:=h.ok
 simp only[vH.ok,Bool.and_eq_true]at h1
 have h2:=BT.ix h1.1.1.1.1.1.1 hk
 rw[show(s*64+f)/64=s from by omega,show(s*64+f)%64=f from by omega]at h2
 cases hx:cO P s f with
 | none=>simp[hx]at h2
 | some u=>simp only[hx]at h2;rw[Nat.eq_of_beq_eq_true h2]
theorem Tb.un{P:Program}[h:Tb P]{t c:Nat}(hk:h.t.un.get t=some c):k6 P t c=true:=by
 have h1:=h.ok
 simp only[vH.ok,Bool.and_eq_true]at h1
 exact BT.ix h1.1.1.1.1.1.2 hk
theorem Tb.sz{P:Program}[h:Tb P]{t c:Nat}(hk:h.t.sz.get t=some c):de P t=some c:=by
 have h1:=h.ok
 simp only[vH.ok,Bool.and_eq_true]at h1
 have h2:=BT.ix h1.1.1.1.1.2 hk
 cases hx:de P t with
 | none=>simp[hx]at h2
 | some u=>simp only[hx]at h2;rw[Nat.eq_of_beq_eq_true h2]
theorem Tb.ar{P:Program}[h:Tb P]{t c s:Nat}(hk:h.t.an.get t=some c)(hs:h.t.as.get t=some s):nv P t=some (c,s):=by
 have h1:=h.ok
 simp only[vH.ok,Bool.and_eq_true]at h1
 have h2:=BT.ix h1.1.1.1.2 hk
 have h3:=BT.ix h1.1.1.2 hs
 cases hx:nv P t with
 | none=>simp[hx]at h2
 | some u=>simp only[hx]at h2 h3;rw[←Nat.eq_of_beq_eq_true h2,←Nat.eq_of_beq_eq_true h3]
theorem Tb.sl{P:Program}[h:Tb P]{t c:Nat}(hk:h.t.sl.get t=some c):∃ e,ny P t=some (e,c):=by
 have h1:=h.ok
 simp only[vH.ok,Bool.and_eq_true]at h1
 have h2:=BT.ix h1.1.2 hk
 cases hx:ny P t with
 | none=>simp[hx]at h2
 | some u=>simp only[hx]at h2;exact⟨u.1,by rw[←Nat.eq_of_beq_eq_true h2]⟩
theorem Tb.fn{P:Program}[h:Tb P]{t c:Nat}(hk:h.t.fn.get t=some c):cR P t=true:=by
 have h1:=h.ok
 simp only[vH.ok,Bool.and_eq_true]at h1
 exact BT.ix h1.2 hk
theorem G9{P:Program}{t c:Nat}(h:k6 P t c=true)(hc:Nat.blt c 7=true):fY P t=true:=by
 unfold k6 at h;unfold fY
 split at h<;>first | (rename_i e;rw[e];done) | skip
 all_goals first | (have:=Nat.eq_of_beq_eq_true h;subst this;simp at hc;done) | skip
 all_goals first | (rename_i e;rw[e];split<;>simp_all;done) | (simp_all;done)
theorem xZ{P:Program}{t:Nat}(h:k6 P t 7=true):jF P t=true:=by
 unfold k6 at h;unfold jF
 split at h<;>first | (rename_i e;rw[e];done) | (simp at h;done)
theorem NZ{P:Program}{t:Nat}(h:k6 P t 1=true):∃ ms,P.underlying t=some (.interface ms):=by
 unfold k6 at h;split at h<;>first | exact⟨_,by assumption⟩ | cases h
theorem Ob{P:Program}{t:Nat}(h:k6 P t 2=true):∃ e,P.underlying t=some (.pointer e):=by
 unfold k6 at h;split at h<;>first | exact⟨_,by assumption⟩ | cases h
theorem Oe{P:Program}{t:Nat}(h:k6 P t 3=true):P.underlying t=some .string:=by
 unfold k6 at h;split at h<;>first | assumption | cases h
theorem OC{P:Program}{t:Nat}(h:k6 P t 4=true):∃ e,P.underlying t=some (.slice e):=by
 unfold k6 at h;split at h<;>first | exact⟨_,by assumption⟩ | cases h
theorem OE{P:Program}{t c:Nat}(h:k6 P t c=true)(hc:Nat.beq c 1=false):∃ ds,P.underlying t=some ds∧∀ ms,ds≠ .interface ms:=by
 cases hu:P.underlying t with
 | none=>simp[k6,hu]at h
 | some ds=>
  refine⟨ds,rfl,fun ms e=> ?_⟩
  subst e
  simp only[k6,hu]at h
  rw[hc]at h;cases h
def FT:List SV→Nat→Option SW
 | [],_=>none
 | s::_,0=>some (.one s)
 | _::r,k+1=>FT r k
theorem wo:∀ {l:List SV} {k:Nat} {s:SW},FT l k=some s→yv (aj l) k=some s.den
 | [],_,_,h=>by simp[FT]at h
 | _::_,0,_,h=>by simp only[FT,Option.some.injEq]at h;subst h;rfl
 | _::r,k+1,_,h=>wo (l:=r) h
def MP(a b:Int):BinOp→Option SW
 | .eql=>some (.one (.dec (a=b)))
 | .neq=>some (.one (.dec (a≠b)))
 | .lss=>some (.one (.dec (a<b)))
 | .leq=>some (.one (.dec (a≤b)))
 | .gtr=>some (.one (.dec (a>b)))
 | .geq=>some (.one (.dec (a≥b)))
 | _=>none
def Nr(a b:ByteArray):BinOp→Option SW
 | .eql=>some (.one (.dec (a=b)))
 | .neq=>some (.one (.dec (a≠b)))
 | .lss=>some (.one (.bool (Op.bytesLess a.toList b.toList)))
 | _=>none
def sS(T:vH)(t c:Nat)(r:SV)(r':SV):BinOp→Option SW
 | .eql=>match T.un.get t with
  | some d=>match Nat.beq d c with
   | true=>some (.one r)
   | false=>none
  | none=>none
 | .neq=>match T.un.get t with
  | some d=>match Nat.beq d c with
   | true=>some (.one r')
   | false=>none
  | none=>none
 | _=>none
def ot:Operand→Bool
 | .const .nilIface=>true
 | _=>false
def A4:Operand→Bool
 | .const (.pointer none)=>true
 | _=>false
def DX(T:vH)(L:SF)(op:BinOp)(t:TypeId)(x y:Operand):Option SW:=match sv L x with
 | some (.one (.int k a))=>match sv L y with
  | some (.one (.int k' b))=>match decEq k k' with
   | .isTrue _=>MP a b op
   | .isFalse _=>none
  | _=>none
 | some (.one (.str a))=>match sv L y with
  | some (.one (.str b))=>Nr a b op
  | _=>none
 | some (.one (.err _ e))=>match ot y with
  | true=>sS T t 1 (.dec (e=0)) (.dec (e≠0)) op
  | false=>none
 | some (.one .nil)=>match ot y with
  | true=>sS T t 1 .tt .ff op
  | false=>none
 | some (.one (.ifc _ _))=>match ot y with
  | true=>sS T t 1 .ff .tt op
  | false=>none
 | some (.one (.ptr _ _ _))=>match A4 y with
  | true=>sS T t 2 .ff .tt op
  | false=>none
 | some (.one .pn)=>match A4 y with
  | true=>sS T t 2 .tt .ff op
  | false=>none
 | _=>none
def Gz(T:vH)(L:SF)(b:Builtin)(xs:Array Operand)(ts:Array TypeId):Option SW:=match b with
 | .len=>match xs.toList with
  | [x]=>match ts.toList with
   | [t]=>match T.un.get t with
    | some c=>match sv L x with
     | some (.one (.str s))=>match Nat.beq c 3 with
      | true=>some (.one (.int .i64 s.size))
      | false=>none
     | some (.one (.slc _ n _))=>match Nat.beq c 4 with
      | true=>some (.one (.int .i64 n))
      | false=>none
     | _=>none
    | none=>none
   | _=>none
  | _=>none
 | .min=>match xs.toList with
  | [x,y]=>match ts.toList with
   | [_,_]=>match sv L x with
    | some (.one (.int k a))=>match sv L y with
     | some (.one (.int k' b))=>match decEq k k' with
      | .isTrue _=>some (.one (.int k (min a b)))
      | .isFalse _=>none
     | _=>none
    | _=>none
   | _=>none
  | _=>none
 | .max=>match xs.toList with
  | [x,y]=>match ts.toList with
   | [_,_]=>match sv L x with
    | some (.one (.int k a))=>match sv L y with
     | some (.one (.int k' b))=>match decEq k k' with
      | .isTrue _=>some (.one (.int k (max a b)))
      | .isFalse _=>none
     | _=>none
    | _=>none
   | _=>none
  | _=>none
 | _=>none
def Jb:SW→Option SW
 | .one .tt=>some (.one .ff)
 | .one .ff=>some (.one .tt)
 | .one (@SV.dec p _)=>some (.one (.dec (¬p)))
 | .one (.bool b)=>some (.one (.bool (!b)))
 | _=>none
def JF(u v:SW):SW→Option SW
 | .one .tt=>some u
 | .one .ff=>some v
 | _=>none
def FA(T:vH)(L:SF):Op→Option SW
 | .move x=>sv L x
 | .assign x=>sv L x
 | .pick c x y=>match sv L x with
  | some u=>match sv L y with
   | some v=>match sv L c with
    | some t=>JF u v t
    | none=>none
   | none=>none
  | none=>none
 | .nilCheck x=>match sv L x with
  | some (.one (.ptr b o i))=>some (.one (.ptr b o i))
  | _=>none
 | .extract x k=>match sv L x with
  | some (.tup l)=>FT l k
  | _=>none
 | .fieldAddr s x f=>match sv L x with
  | some (.one (.ptr b o i))=>match Nat.blt f 64 with
   | true=>match T.fo.get (s*64+f)with
    | some k=>some (.one (.ptr b o (i+k)))
    | none=>none
   | false=>none
  | _=>none
 | .binOp op t x y _=>DX T L op t x y
 | .unOp op _ x=>match op with
  | .not=>match sv L x with
   | some s=>Jb s
   | none=>none
  | _=>none
 | .makeInterface t x=>match sv L x with
  | some (.one s)=>match T.un.get t with
   | some c=>match Nat.beq c 1 with
    | true=>none
    | false=>some (.one (.ifc t s.den))
   | none=>none
  | _=>none
 | .call c=>match c with
  | ⟨.builtin b,xs,ts⟩=>Gz T L b xs ts
  | _=>none
 | _=>none
def JU(s:ByteArray):Option SW→Option SW→Option (Prop×SW)
 | some (.one (.int _ z)),some (.one (.int _ z'))=>some (0≤z∧z≤z'∧z'≤s.size,.one (.str (s.extract z.toNat z'.toNat)))
 | _,_=>none
def J6(s:ByteArray):Option SW→Option (Prop×SW)
 | some (.one (.int _ z))=>some (0≤z∧z≤s.size,.one (.str (s.extract z.toNat s.size)))
 | _=>none
def J7(s:ByteArray):Option SW→Option (Prop×SW)
 | some (.one (.int _ z))=>some (0≤z∧z≤s.size,.one (.str (s.extract 0 z.toNat)))
 | _=>none
def Oc(a b:Int):BinOp→Option (Prop×SW)
 | .add=>some (-9223372036854775808≤a+b∧a+b≤9223372036854775807,.one (.int .i64 (a+b)))
 | .sub=>some (-9223372036854775808≤a-b∧a-b≤9223372036854775807,.one (.int .i64 (a-b)))
 | .mul=>some (-9223372036854775808≤a*b∧a*b≤9223372036854775807,.one (.int .i64 (a*b)))
 | _=>none
def Fs(T:vH)(L:SF):Op→Option (Prop×SW)
 | .binOp op _ x y _=>match sv L x with
  | some (.one (.int .i64 a))=>match sv L y with
   | some (.one (.int .i64 b))=>Oc a b op
   | _=>none
  | some (.one (.str a))=>match sv L y with
   | some (.one (.str b))=>match op with
    | .add=>some (a.size+b.size≤9223372036854775807,.one (.str (a++b)))
    | _=>none
   | _=>none
  | _=>none
 | .unOp op _ x=>match op with
  | .neg=>match sv L x with
   | some (.one (.int .i64 a))=>some (-9223372036854775808≤0-a∧0-a≤9223372036854775807,.one (.int .i64 (0-a)))
   | _=>none
  | _=>none
 | .indexAddr t x y=>match sv L y with
  | some (.one (.int _ z))=>match sv L x with
   | some (.one (.ptr b o i))=>match T.an.get t with
    | some m=>match T.as.get t with
     | some s=>some (0≤z∧z<m,.one (.ptr b o (i+z.toNat*s)))
     | none=>none
    | none=>none
   | some (.one (.slc (some ⟨b,o,none⟩) n _))=>match T.sl.get t with
    | some s=>some (0≤z∧z<n,.one (.ptr b o (0+z.toNat*s)))
    | none=>none
   | _=>none
  | _=>none
 | .slice t x lo hi mx=>match mx with
  | none=>match T.un.get t with
   | some c=>match Nat.beq c 3 with
    | true=>match sv L x with
     | some (.one (.str s))=>match lo with
      | none=>match hi with
       | none=>none
       | some y=>J7 s (sv L y)
      | some y=>match hi with
       | none=>J6 s (sv L y)
       | some u=>JU s (sv L y) (sv L u)
     | _=>none
    | false=>none
   | none=>none
  | some _=>none
 | _=>none
def MI(L:SF):List Operand→Option (List SW)
 | []=>some []
 | x::r=>match sv L x with
  | some s=>match MI L r with
   | some l=>some (s::l)
   | none=>none
  | none=>none
def zZ:List SW→List Value
 | []=>[]
 | s::r=>s.den::zZ r
theorem AB{L:SF} :∀ {xs:List Operand} {l:List SW},MI L xs=some l→Dh (dn L) xs=some (zZ l)
 | [],l,h=>by simp only[MI,Option.some.injEq]at h;subst h;rfl
 | x::r,l,h=>by
  simp only[MI]at h
  split at h
  ·rename_i s hx
   split at h
   ·rename_i l' hr
    simp only[Option.some.injEq]at h;subst h
    simp only[Dh,bP hx,AB hr,zZ]
   ·cases h
  ·cases h
section
variable {P:Program} {n:Fr} {L:SF} {ty:TypeId} {pos:String} {af:Array Edge} {d:Nat} {gd:Option (Nat×Bool)} {φ:World→Prop}
theorem jS{a b:Nat}(h:Nat.beq a b=true):a=b:=Nat.eq_of_beq_eq_true h
theorem Fh[h:Tb P]{op:BinOp}{t t':TypeId}{x y:Operand}{s:SW}(hs:DX h.t L op t x y=some s):aM P n (dn L) φ ⟨some d,.binOp op t x y t',ty,pos,af,gd⟩ s.den:=by
 unfold DX at hs
 split at hs
 ·rename_i k a hx
  split at hs
  ·rename_i k' b hy
   split at hs
   ·rename_i hk _
    subst hk
    cases op<;>simp only[MP,Option.some.injEq]at hs<;>first | cases hs;done | (subst hs;exact V.cmp (bP hx) (bP hy) rfl)
   ·cases hs
  ·cases hs
 ·rename_i a hx
  split at hs
  ·rename_i b hy
   cases op<;>simp only[Nr,Option.some.injEq]at hs<;>first | cases hs;done | (subst hs;exact V.J2 (bP hx) (bP hy) rfl)
  ·cases hs
 ·rename_i T e hx
  split at hs
  ·rename_i hn
   have hy:y= .const .nilIface:=by unfold ot at hn;split at hn<;>first | rfl | cases hn
   subst hy
   cases op<;>simp only[sS]at hs<;>first | cases hs;done | (split at hs<;>first | cases hs;done | (split at hs<;>first | cases hs;done | (
    rename_i hg _ hb
    obtain⟨ms,hu⟩:=NZ (by rw[←jS hb];exact Tb.un hg)
    simp only[Option.some.injEq]at hs
    subst hs
    exact V.Ke (bP hx) hu rfl)))
  ·cases hs
 ·rename_i hx
  split at hs
  ·rename_i hn
   have hy:y= .const .nilIface:=by unfold ot at hn;split at hn<;>first | rfl | cases hn
   subst hy
   cases op<;>simp only[sS]at hs<;>first | cases hs;done | (split at hs<;>first | cases hs;done | (split at hs<;>first | cases hs;done | (
    rename_i hg _ hb
    obtain⟨ms,hu⟩:=NZ (by rw[←jS hb];exact Tb.un hg)
    simp only[Option.some.injEq]at hs
    subst hs
    exact V.Ga (bP hx) hu rfl)))
  ·cases hs
 ·rename_i T v hx
  split at hs
  ·rename_i hn
   have hy:y= .const .nilIface:=by unfold ot at hn;split at hn<;>first | rfl | cases hn
   subst hy
   cases op<;>simp only[sS]at hs<;>first | cases hs;done | (split at hs<;>first | cases hs;done | (split at hs<;>first | cases hs;done | (
    rename_i hg _ hb
    obtain⟨ms,hu⟩:=NZ (by rw[←jS hb];exact Tb.un hg)
    simp only[Option.some.injEq]at hs
    subst hs
    exact V.xf (bP hx) hu rfl)))
  ·cases hs
 ·rename_i b o i hx
  split at hs
  ·rename_i hn
   have hy:y= .const (.pointer none):=by unfold A4 at hn;split at hn<;>first | rfl | cases hn
   subst hy
   cases op<;>simp only[sS]at hs<;>first | cases hs;done | (split at hs<;>first | cases hs;done | (split at hs<;>first | cases hs;done | (
    rename_i hg _ hb
    obtain⟨ms,hu⟩:=Ob (by rw[←jS hb];exact Tb.un hg)
    simp only[Option.some.injEq]at hs
    subst hs
    exact V.HO (bP hx) hu rfl)))
  ·cases hs
 ·rename_i hx
  split at hs
  ·rename_i hn
   have hy:y= .const (.pointer none):=by unfold A4 at hn;split at hn<;>first | rfl | cases hn
   subst hy
   cases op<;>simp only[sS]at hs<;>first | cases hs;done | (split at hs<;>first | cases hs;done | (split at hs<;>first | cases hs;done | (
    rename_i hg _ hb
    obtain⟨ms,hu⟩:=Ob (by rw[←jS hb];exact Tb.un hg)
    simp only[Option.some.injEq]at hs
    subst hs
    exact V.H4 (bP hx) hu rfl)))
  ·cases hs
 ·cases hs
theorem xL{α:Type}{xs:Array α}{l:List α}(h:xs.toList=l):xs=l.toArray:=by rw[←h]
theorem FP[h:Tb P]{b:Builtin}{xs:Array Operand}{ts:Array TypeId}{s:SW}(hs:Gz h.t L b xs ts=some s):aM P n (dn L) φ ⟨some d,.call ⟨.builtin b,xs,ts⟩,ty,pos,af,gd⟩ s.den∧cx (.call ⟨.builtin b,xs,ts⟩)=false:=by
 unfold Gz at hs
 split at hs
 ·refine⟨?_,rfl⟩
  split at hs
  ·rename_i x hxs
   split at hs
   ·rename_i t hts
    split at hs
    ·rename_i c hc
     split at hs
     ·rename_i a hx
      split at hs
      ·rename_i hb
       simp only[Option.some.injEq]at hs;subst hs
       rw[xL hxs,xL hts]
       exact V.Ls (bP hx) (Oe (by rw[←jS hb];exact Tb.un hc))
      ·cases hs
     ·rename_i p k c2 hx
      split at hs
      ·rename_i hb
       simp only[Option.some.injEq]at hs;subst hs
       rw[xL hxs,xL hts]
       obtain⟨e,hu⟩:=OC (by rw[←jS hb];exact Tb.un hc)
       exact V.M0 (bP hx) hu
      ·cases hs
     ·cases hs
    ·cases hs
   ·cases hs
  ·cases hs
 ·refine⟨?_,rfl⟩
  split at hs
  ·rename_i x y hxs
   split at hs
   ·rename_i t1 t2 hts
    split at hs
    ·rename_i k a hx
     split at hs
     ·rename_i k' b hy
      split at hs
      ·rename_i hk _
       subst hk
       simp only[Option.some.injEq]at hs;subst hs
       rw[xL hxs,xL hts]
       exact V.min2 (bP hx) (bP hy)
      ·cases hs
     ·cases hs
    ·cases hs
   ·cases hs
  ·cases hs
 ·refine⟨?_,rfl⟩
  split at hs
  ·rename_i x y hxs
   split at hs
   ·rename_i t1 t2 hts
    split at hs
    ·rename_i k a hx
     split at hs
     ·rename_i k' b hy
      split at hs
      ·rename_i hk _
       subst hk
       simp only[Option.some.injEq]at hs;subst hs
       rw[xL hxs,xL hts]
       exact V.max2 (bP hx) (bP hy)
      ·cases hs
     ·cases hs
    ·cases hs
   ·cases hs
  ·cases hs
 ·cases hs
theorem FE[h:Tb P]{op:Op}{s:SW}(hs:FA h.t L op=some s):aM P n (dn L) φ ⟨some d,op,ty,pos,af,gd⟩ s.den∧cx op=false:=by
 unfold FA at hs
 split at hs
 ·exact⟨V.move (bP hs),rfl⟩
 ·exact⟨V.assign (bP hs),rfl⟩
 ·refine⟨?_,rfl⟩
  split at hs
  ·rename_i u hx
   split at hs
   ·rename_i v hy
    split at hs
    ·rename_i t hc
     unfold JF at hs
     split at hs
     ·simp only[Option.some.injEq]at hs;subst hs;exact V.pick (t:=true) (bP hc) (bP hx) (bP hy) rfl
     ·simp only[Option.some.injEq]at hs;subst hs;exact V.pick (t:=false) (bP hc) (bP hx) (bP hy) rfl
     ·cases hs
    ·cases hs
   ·cases hs
  ·cases hs
 ·refine⟨?_,rfl⟩
  split at hs
  ·rename_i b o i hx
   simp only[Option.some.injEq]at hs;subst hs;exact V.bI (bP hx)
  ·cases hs
 ·refine⟨?_,rfl⟩
  split at hs
  ·rename_i l hx
   exact V.extract (bP hx) (by simpa using wo hs)
  ·cases hs
 ·refine⟨?_,rfl⟩
  split at hs
  ·rename_i b o i hx
   split at hs
   ·rename_i hf
    split at hs
    ·rename_i k hk
     simp only[Option.some.injEq]at hs;subst hs
     exact V.fieldAddr (bP hx) (Tb.fo (by simpa using hf) hk)
    ·cases hs
   ·cases hs
  ·cases hs
 ·exact⟨Fh hs,rfl⟩
 ·refine⟨?_,rfl⟩
  split at hs
  ·split at hs
   ·rename_i t hx
    unfold Jb at hs
    split at hs
    ·simp only[Option.some.injEq]at hs;subst hs;exact V.not (b:=true) (bP hx)
    ·simp only[Option.some.injEq]at hs;subst hs;exact V.not (b:=false) (bP hx)
    ·simp only[Option.some.injEq]at hs;subst hs;exact V.NJ (bP hx)
    ·simp only[Option.some.injEq]at hs;subst hs;exact V.not (bP hx)
    ·cases hs
   ·cases hs
  ·cases hs
 ·refine⟨?_,rfl⟩
  split at hs
  ·rename_i u hx
   split at hs
   ·rename_i c hc
    split at hs
    ·cases hs
    ·rename_i hb
     simp only[Option.some.injEq]at hs;subst hs
     obtain⟨ds,hu,hn⟩:=OE (Tb.un hc) hb
     exact V.tz (bP hx) hu hn
   ·cases hs
  ·cases hs
 ·split at hs
  ·exact FP hs
  ·cases hs
 ·cases hs
theorem Il{s:ByteArray}{x y u:Operand}{t:TypeId}{q:Prop}{v:SW}(ht:P.underlying t=some .string)(hx:ev (dn L) x=some (.string s))(h:JU s (sv L y) (sv L u)=some (q,v))(hq:q):aM P n (dn L) φ ⟨some d,.slice t x (some y) (some u) none,ty,pos,af,gd⟩ v.den:=by
 unfold JU at h
 split at h
 ·rename_i k z k' z' hy hu
  simp only[Option.some.injEq,Prod.mk.injEq]at h
  obtain⟨rfl,rfl⟩:=h
  exact V.Kj hx (bP hy) (bP hu) ht hq
 ·cases h
theorem Hz{s:ByteArray}{x y:Operand}{t:TypeId}{q:Prop}{v:SW}(ht:P.underlying t=some .string)(hx:ev (dn L) x=some (.string s))(h:J6 s (sv L y)=some (q,v))(hq:q):aM P n (dn L) φ ⟨some d,.slice t x (some y) none none,ty,pos,af,gd⟩ v.den:=by
 unfold J6 at h
 split at h
 ·rename_i k z hy
  simp only[Option.some.injEq,Prod.mk.injEq]at h
  obtain⟨rfl,rfl⟩:=h
  exact V.sliceFrom hx (bP hy) ht hq
 ·cases h
theorem G7{s:ByteArray}{x y:Operand}{t:TypeId}{q:Prop}{v:SW}(ht:P.underlying t=some .string)(hx:ev (dn L) x=some (.string s))(h:J7 s (sv L y)=some (q,v))(hq:q):aM P n (dn L) φ ⟨some d,.slice t x none (some y) none,ty,pos,af,gd⟩ v.den:=by
 unfold J7 at h
 split at h
 ·rename_i k z hy
  simp only[Option.some.injEq,Prod.mk.injEq]at h
  obtain⟨rfl,rfl⟩:=h
  exact V.sliceTo hx (bP hy) ht hq
 ·cases h
theorem F9[h:Tb P]{op:Op}{q:Prop}{v:SW}(hs:Fs h.t L op=some (q,v))(hq:q):aM P n (dn L) φ ⟨some d,op,ty,pos,af,gd⟩ v.den∧cx op=false:=by
 unfold Fs at hs
 split at hs
 ·refine⟨?_,rfl⟩
  split at hs
  ·rename_i a hx
   split at hs
   ·rename_i b hy
    unfold Oc at hs
    split at hs
    ·simp only[Option.some.injEq,Prod.mk.injEq]at hs
     obtain⟨rfl,rfl⟩:=hs
     exact V.add (bP hx) (bP hy) _ (IntWalk.i64_in _ hq)
    ·simp only[Option.some.injEq,Prod.mk.injEq]at hs
     obtain⟨rfl,rfl⟩:=hs
     exact V.sub (bP hx) (bP hy) _ (IntWalk.i64_in _ hq)
    ·simp only[Option.some.injEq,Prod.mk.injEq]at hs
     obtain⟨rfl,rfl⟩:=hs
     exact V.mul (bP hx) (bP hy) _ (IntWalk.i64_in _ hq)
    ·cases hs
   ·cases hs
  ·rename_i a hx
   split at hs
   ·rename_i b hy
    split at hs
    ·simp only[Option.some.injEq,Prod.mk.injEq]at hs
     obtain⟨rfl,rfl⟩:=hs
     exact V.concat (bP hx) (bP hy) hq
    ·cases hs
   ·cases hs
  ·cases hs
 ·refine⟨?_,rfl⟩
  split at hs
  ·split at hs
   ·rename_i a hx
    simp only[Option.some.injEq,Prod.mk.injEq]at hs
    obtain⟨rfl,rfl⟩:=hs
    exact V.neg (bP hx) _ (IntWalk.i64_in _ hq)
   ·cases hs
  ·cases hs
 ·refine⟨?_,rfl⟩
  split at hs
  ·rename_i k z hy
   split at hs
   ·rename_i b o i hx
    split at hs
    ·rename_i m hm
     split at hs
     ·rename_i s hs'
      simp only[Option.some.injEq,Prod.mk.injEq]at hs
      obtain⟨rfl,rfl⟩:=hs
      exact V.hG (bP hx) (bP hy) (Tb.ar hm hs') hq
     ·cases hs
    ·cases hs
   ·rename_i b o m c hx
    split at hs
    ·rename_i s hs'
     simp only[Option.some.injEq,Prod.mk.injEq]at hs
     obtain⟨rfl,rfl⟩:=hs
     obtain⟨e,he⟩:=Tb.sl hs'
     exact V.G3 (bP hx) (bP hy) he hq
    ·cases hs
   ·cases hs
  ·cases hs
 ·refine⟨?_,rfl⟩
  split at hs
  ·split at hs
   ·rename_i c hc
    split at hs
    ·rename_i hb
     have ht:=Oe (P:=P) (by rw[←jS hb];exact Tb.un hc)
     split at hs
     ·rename_i s hx
      split at hs
      ·split at hs
       ·cases hs
       ·exact G7 ht (bP hx) hs hq
      ·split at hs
       ·exact Hz ht (bP hx) hs hq
       ·exact Il ht (bP hx) hs hq
     ·cases hs
    ·cases hs
   ·cases hs
  ·cases hs
 ·cases hs
end
inductive Fm where
 | sq (c:Code)
 | blk (i:Nat)
 | th (T:Act→World→Prop)
def den(P:Program)(Q0:Exit→Act→World→Prop):List Fm→Exit→Act→World→Prop
 | []=>Q0
 | .sq y::K=>Exit.then (y.wp P (den P Q0 K)) (den P Q0 K)
 | .blk i::K=>Exit.inBlock i (den P Q0 K)
 | .th T::K=>Exit.then T (den P Q0 K)
inductive St where
 | c (x:Code)
 | o (md:Md) (l:List Oper)
 | e (x:Exit)
def LS:Nat→List Nat→Bool
 | _,[]=>false
 | i,j::r=>match Nat.beq i j with
  | true=>true
  | false=>LS i r
def prune(ps:List Nat):SF→SF→(SF→Prop)→Prop
 | [],acc,k=>k acc
 | (i,s)::r,acc,k=>match LS i ps with
  | true=>match sk acc i with
   | some _=>prune ps r acc k
   | none=>prune ps r ((i,s)::acc) k
  | false=>prune ps r acc k
def vZ:List Oper→Nat→Option Nat
 | [],_=>none
 | o::_,0=>o.dst
 | _::r,k+1=>vZ r k
theorem xD:∀ {l:List Oper} {j d:Nat},vZ l j=some d→(l[j]?).bind (·.dst)=some d
 | [],_,_,h=>by simp[vZ]at h
 | _::_,0,_,h=>by simpa [vZ]using h
 | _::r,k+1,_,h=>by simpa using xD (l:=r) h
def rr:Code→Nat
 | .region i _ _=>i
 | .seq a _=>rr a
 | .block _ c=>rr c
 | .loop c=>rr c
 | .cond _ a _=>rr a
 | _=>0
def MR:Code→Nat
 | .region _ _ _=>0
 | .seq _ _=>1
 | .cond _ _ _=>2
 | .block _ _=>3
 | .loop _=>4
 | _=>5
def LU(i k:Nat):List (Nat×Nat)→Bool
 | []=>false
 | (j,l)::r=>match Nat.beq i j with
  | true=>match Nat.beq k l with
   | true=>true
   | false=>LU i k r
  | false=>LU i k r
def Sd(q R X:Prop):Prop:=(q∧R)∨X
section
variable (P:Program) (n:Fr) (Q0:Exit→Act→World→Prop) (M:World→Prop) (K:List Fm) (md:Md) (r:List Oper) (L:SF)
def Kk(t:TypeId)(d:Nat)(x:Operand)(ty:TypeId)(pos:String)(af:Array Edge)(b o i:Nat):Prop:=
 ev (dn L) x=some (ptr b o i)→fY P t=true→Nat.blt d n.sz=true→XO P n md (den P Q0 K) (⟨some d,.load t x,ty,pos,af,none⟩::r) (dn L) M
def Mx(t:TypeId)(d:Nat)(x:Operand)(ty:TypeId)(pos:String)(af:Array Edge)(b o i k:Nat):Prop:=
 ev (dn L) x=some (ptr b o i)→jF P t=true→de P t=some k→Nat.blt d n.sz=true→XO P n md (den P Q0 K) (⟨some d,.load t x,ty,pos,af,none⟩::r) (dn L) M
def L5(t:TypeId)(x y:Operand)(ty:TypeId)(pos:String)(af:Array Edge)(b o i k:Nat)(s:SV):Prop:=
 ev (dn L) x=some (ptr b o i)→ev (dn L) y=some s.den→de P t=some k→XO P n md (den P Q0 K) (⟨none,.store t x y,ty,pos,af,none⟩::r) (dn L) M
def N5(d:Nat)(f:FuncId)(xs:List Operand)(jf:Array TypeId)(ty:TypeId)(pos:String)(af:Array Edge)(vs:List Value):Prop:=
 Dh (dn L) xs=some vs→cR P f=true→Nat.blt d n.sz=true→XO P n md (den P Q0 K) (⟨some d,.call ⟨.value (.func f),xs.toArray,jf⟩,ty,pos,af,none⟩::r) (dn L) M
def halt(T:vH)(dst:Option Tmp)(op:Op)(ty:TypeId)(pos:String)(af:Array Edge)(ho:Prop):Prop:=match op with
   | .load t x=>match dst with
    | some d=>match sv L x with
     | some (.one (.ptr b o i))=>match T.un.get t with
      | some c=>match Nat.blt c 7 with
       | true=>Kk P n Q0 M K md r L t d x ty pos af b o i
       | false=>match Nat.beq c 7 with
        | true=>match T.sz.get t with
         | some k=>Mx P n Q0 M K md r L t d x ty pos af b o i k
         | none=>ho
        | false=>ho
      | none=>ho
     | _=>ho
    | none=>ho
   | .store t x y=>match dst with
    | none=>match sv L x with
     | some (.one (.ptr b o i))=>match sv L y with
      | some (.one s)=>match T.sz.get t with
       | some k=>L5 P n Q0 M K md r L t x y ty pos af b o i k s
       | none=>ho
      | _=>ho
     | _=>ho
    | some _=>ho
   | .call c=>match c with
    | ⟨.value (.func f),xs,jf⟩=>match dst with
     | some d=>match T.fn.get f with
      | some _=>match MI L xs.toList with
       | some l=>N5 P n Q0 M K md r L d f xs.toList jf ty pos af (zZ l)
       | none=>ho
      | none=>ho
     | none=>ho
    | _=>ho
   | _=>ho
end
theorem Ao{P:Program}[h:Tb P]{n:Fr}{Q0:Exit→Act→World→Prop}{M:World→Prop}{K:List Fm}{md:Md}{r:List Oper}{L:SF}{dst:Option Tmp}{op:Op}{ty:TypeId}{pos:String}{af:Array Edge}(hd:∀ d,dst=some d→Nat.blt d n.sz=true)(hh:halt P n Q0 M K md r L h.t dst op ty pos af (XO P n md (den P Q0 K) (⟨dst,op,ty,pos,af,none⟩::r) (dn L) M)):XO P n md (den P Q0 K) (⟨dst,op,ty,pos,af,none⟩::r) (dn L) M:=by
 unfold halt at hh
 ·split at hh
  ·split at hh
   ·split at hh
    ·rename_i hx
     split at hh
     ·rename_i hc
      split at hh
      ·rename_i hb
       exact hh (bP hx) (G9 (Tb.un hc) hb) (hd _ rfl)
      ·split at hh
       ·rename_i hb
        split at hh
        ·rename_i hk
         exact hh (bP hx) (xZ (by rw[←jS hb];exact Tb.un hc)) (Tb.sz hk) (hd _ rfl)
        ·exact hh
       ·exact hh
     ·exact hh
    ·exact hh
   ·exact hh
  ·split at hh
   ·split at hh
    ·rename_i hx
     split at hh
     ·rename_i hy
      split at hh
      ·rename_i hk
       exact hh (bP hx) (bP hy) (Tb.sz hk)
      ·exact hh
     ·exact hh
    ·exact hh
   ·exact hh
  ·split at hh
   ·split at hh
    ·split at hh
     ·rename_i hf
      split at hh
      ·rename_i hl
       exact hh (AB hl) (Tb.fn hf) (hd _ rfl)
      ·exact hh
     ·exact hh
    ·exact hh
   ·exact hh
  ·exact hh
section
variable (P:Program) (n:Fr) (Q0:Exit→Act→World→Prop) (M:World→Prop)
def dW[h:Tb P]:Nat→List Fm→St→SF→Prop
 | 0,K,.c x,L=>XC P n x (den P Q0 K) (dn L) M
 | 0,K,.o md l,L=>XO P n md (den P Q0 K) l (dn L) M
 | 0,K,.e x,L=>XE n (den P Q0 K) x (dn L) M
 | f+1,K,.c x,L=>match x with
  | .seq a b=>match n.cs with
   | []=>dW f (.sq b::K) (.c a) L
   | c::cs=>match LU (rr a) (MR a) (c::cs)with
    | true=>XC P n (.seq a b) (den P Q0 K) (dn L) M
    | false=>dW f (.sq b::K) (.c a) L
  | .skip=>dW f K (.e .normal) L
  | .ret=>dW f K (.e .ret) L
  | .exit i=>dW f K (.e (.exit i)) L
  | .block i c=>dW f (.blk i::K) (.c c) L
  | .region i ops dr=>match dr with
   | false=>dW f K (.o (.cl ops) ops.toList) L
   | true=>XC P n (.region i ops true) (den P Q0 K) (dn L) M
  | .cond c a b=>match sv L c with
   | some (.one .tt)=>dW f K (.c a) L
   | some (.one .ff)=>dW f K (.c b) L
   | _=>XC P n (.cond c a b) (den P Q0 K) (dn L) M
  | y=>XC P n y (den P Q0 K) (dn L) M
 | f+1,K,.e x,L=>match K with
  | []=>XE n Q0 x (dn L) M
  | .sq y::K'=>match x with
   | .normal=>prune n.ps L [] fun L'=>dW f K' (.c y) L'
   | .ret=>dW f K' (.e .ret) L
   | .exit i=>dW f K' (.e (.exit i)) L
   | x=>XE n (den P Q0 (.sq y::K')) x (dn L) M
  | .blk i::K'=>match x with
   | .normal=>dW f K' (.e .normal) L
   | .ret=>dW f K' (.e .ret) L
   | .exit j=>match Nat.beq j i with
    | true=>dW f K' (.e .normal) L
    | false=>dW f K' (.e (.exit j)) L
   | x=>XE n (den P Q0 (.blk i::K')) x (dn L) M
  | .th T::K'=>match x with
   | .ret=>dW f K' (.e .ret) L
   | .exit i=>dW f K' (.e (.exit i)) L
   | x=>XE n (den P Q0 (.th T::K')) x (dn L) M
 | f+1,K,.o md l,L=>match l with
  | []=>dW f K (.e .normal) L
  | ⟨dst,op,ty,pos,af,gd⟩::r=>match gd with
   | some (j,want)=>match vZ md.a.toList j with
    | some dj=>match sk L dj with
     | some (.one .tt)=>match want with
      | true=>dW f K (.o md (⟨dst,op,ty,pos,af,none⟩::r)) L
      | false=>match dst with
       | some d=>match Nat.blt d n.sz with
        | true=>dW f K (.o md r) ((d,.one .un)::L)
        | false=>XO P n md (den P Q0 K) (⟨some d,op,ty,pos,af,some (j,false)⟩::r) (dn L) M
       | none=>XO P n md (den P Q0 K) (⟨none,op,ty,pos,af,some (j,false)⟩::r) (dn L) M
     | some (.one .ff)=>match want with
      | false=>dW f K (.o md (⟨dst,op,ty,pos,af,none⟩::r)) L
      | true=>match dst with
       | some d=>match Nat.blt d n.sz with
        | true=>dW f K (.o md r) ((d,.one .un)::L)
        | false=>XO P n md (den P Q0 K) (⟨some d,op,ty,pos,af,some (j,true)⟩::r) (dn L) M
       | none=>XO P n md (den P Q0 K) (⟨none,op,ty,pos,af,some (j,true)⟩::r) (dn L) M
     | some (.one .un)=>match dst with
       | some d=>match Nat.blt d n.sz with
        | true=>dW f K (.o md r) ((d,.one .un)::L)
        | false=>XO P n md (den P Q0 K) (⟨some d,op,ty,pos,af,some (j,want)⟩::r) (dn L) M
       | none=>XO P n md (den P Q0 K) (⟨none,op,ty,pos,af,some (j,want)⟩::r) (dn L) M
     | _=>XO P n md (den P Q0 K) (⟨dst,op,ty,pos,af,some (j,want)⟩::r) (dn L) M
    | none=>XO P n md (den P Q0 K) (⟨dst,op,ty,pos,af,some (j,want)⟩::r) (dn L) M
   | none=>match dst with
    | some d=>match Nat.blt d n.sz with
     | true=>match FA h.t L op with
      | some s=>dW f K (.o md r) ((d,s)::L)
      | none=>match Fs h.t L op with
       | some (q,s)=>Sd q (dW f K (.o md r) ((d,s)::L)) (XO P n md (den P Q0 K) (⟨some d,op,ty,pos,af,none⟩::r) (dn L) M)
       | none=>halt P n Q0 M K md r L h.t (some d) op ty pos af (XO P n md (den P Q0 K) (⟨some d,op,ty,pos,af,none⟩::r) (dn L) M)
     | false=>XO P n md (den P Q0 K) (⟨some d,op,ty,pos,af,none⟩::r) (dn L) M
    | none=>halt P n Q0 M K md r L h.t none op ty pos af (XO P n md (den P Q0 K) (⟨none,op,ty,pos,af,none⟩::r) (dn L) M)
end
def N4(P:Program)(n:Fr)(Q0:Exit→Act→World→Prop)(M:World→Prop)(K:List Fm)(L:PF):St→Prop
 | .c x=>XC P n x (den P Q0 K) L M
 | .o md l=>XO P n md (den P Q0 K) l L M
 | .e x=>XE n (den P Q0 K) x L M
theorem Sub.trans{A B C:PF}(h:Sub A B)(k:Sub B C):Sub A C:=fun i v q=>h i v (k i v q)
theorem qp:∀ {L:SF} {j:Nat},sk L j=none→lk (dn L) j=none
 | [],_,_=>rfl
 | (i,t)::r,j,h=>by
  simp only[sk]at h
  simp only[dn,lk]
  cases hb:Nat.beq i j with
  | true=>simp[hb]at h
  | false=>simp only[hb]at h;exact qp h
theorem mX{ps:List Nat} :∀ {L acc:SF} {k:SF→Prop},prune ps L acc k→∃ L',k L'∧∀ i v,lk (dn L') i=some v→(match lk (dn acc) i with
 | some u=>u=v
 | none=>LS i ps=true∧lk (dn L) i=some v)
 | [],acc,k,h=>⟨acc,h,fun i v q=>by rw[q]⟩
 | (j,s)::r,acc,k,h=>by
  simp only[prune]at h
  split at h
  ·split at h
   ·rename_i u hu
    obtain⟨L',h1,h2⟩:=mX h
    refine⟨L',h1,fun i v q=> ?_⟩
    have:=h2 i v q
    cases ha:lk (dn acc) i with
    | some x=>rw[ha]at this;exact this
    | none=>
     rw[ha]at this
     refine⟨this.1,?_⟩
     simp only[dn,lk]
     cases hb:Nat.beq j i with
     | true=>have:=jS hb;subst this;rw[pf hu]at ha;cases ha
     | false=>exact this.2
   ·rename_i hm _ hu
    obtain⟨L',h1,h2⟩:=mX h
    refine⟨L',h1,fun i v q=> ?_⟩
    have:=h2 i v q
    simp only[dn,lk]at this ⊢
    cases hb:Nat.beq j i with
    | true=>
     have e:=jS hb;subst e
     simp only[hb,cond_true]at this ⊢
     rw[qp hu]
     exact⟨hm,congrArg some this⟩
    | false=>simp only[hb,cond_false]at this ⊢;exact this
  ·rename_i hm
   obtain⟨L',h1,h2⟩:=mX h
   refine⟨L',h1,fun i v q=> ?_⟩
   have:=h2 i v q
   cases ha:lk (dn acc) i with
   | some x=>rw[ha]at this;exact this
   | none=>
    rw[ha]at this
    refine⟨this.1,?_⟩
    simp only[dn,lk]
    cases hb:Nat.beq j i with
    | true=>have e:=jS hb;subst e;rw[hm]at this;cases this.1
    | false=>exact this.2
section
variable {P:Program} {n:Fr} {Q0:Exit→Act→World→Prop} {M:World→Prop}
theorem Sat.cons{L:PF}{a:Act}{d:Nat}{v:Value}(h:Sat n L a)(hv:a.tmps.getD d undef=v):Sat n ((d,v)::L) a:=⟨h.1,h.2.1,fun i u hi=>by
 rw[pZ]at hi
 by_cases hid:d=i
 ·subst hid;simp at hi;subst hi;exact hv
 ·simp only[hid,if_false]at hi;exact h.2.2 i u hi⟩
theorem bC[Tb P]:∀ (f:Nat) (K:List Fm) (s:St) (L:SF),dW P n Q0 M f K s L→N4 P n Q0 M K (dn L) s
 | 0,K,.c x,L,h=>h
 | 0,K,.o md l,L,h=>h
 | 0,K,.e x,L,h=>h
 | f+1,K,.c x,L,h=>by
  simp only[dW]at h
  split at h
  ·split at h
   ·exact XC.seq (bC f _ (.c _) L h)
   ·split at h
    ·exact h
    ·exact XC.seq (bC f _ (.c _) L h)
  ·exact XC.skip (bC f _ (.e _) L h)
  ·exact XC.ret (bC f _ (.e _) L h)
  ·exact XC.exit (bC f _ (.e _) L h)
  ·exact XC.block (bC f _ (.c _) L h)
  ·split at h
   ·rename_i ops _
    exact XC.region (l:=ops.toList) (bC f _ (.o _ _) L h)
   ·exact h
  ·split at h
   ·rename_i hc
    exact XC.Jy (t:=true) (bP hc) rfl (bC f _ (.c _) L h)
   ·rename_i hc
    exact XC.JD (t:=false) (bP hc) rfl (bC f _ (.c _) L h)
   ·exact h
  ·exact h
 | f+1,K,.e x,L,h=>by
  simp only[dW]at h
  split at h
  ·exact h
  ·rename_i K' y
   split at h
   ·obtain⟨L',h1,h2⟩:=mX h
    refine XE.next (XC.keep (dn L') (fun i v q=> ?_) (bC f _ (.c _) L' h1))
    exact(h2 i v q).2
   ·exact XE.pX (bC f _ (.e _) L h)
   ·exact XE.nG (bC f _ (.e _) L h)
   ·exact h
  ·rename_i K' i
   split at h
   ·exact XE.js (bC f _ (.e _) L h)
   ·exact XE.ni (bC f _ (.e _) L h)
   ·split at h
    ·rename_i hb
     have:=jS hb;subst this
     exact XE.tL (bC f _ (.e _) L h)
    ·rename_i hb
     exact XE.yN hb (bC f _ (.e _) L h)
   ·exact h
  ·rename_i K' T
   split at h
   ·exact XE.pX (bC f _ (.e _) L h)
   ·exact XE.nG (bC f _ (.e _) L h)
   ·exact h
 | f+1,K,.o md l,L,h=>by
  simp only[dW]at h
  split at h
  ·exact XO.nil (bC f _ (.e _) L h)
  ·rename_i dst op ty pos af gd r
   split at h
   ·rename_i j want
    split at h
    ·rename_i dj hdj
     have hj:(md.a[j]?).bind (·.dst)=some dj:=by
      have:=xD hdj
      simpa using this
     split at h
     ·rename_i hs
      split at h
      ·exact XO.mY rfl hj (pf hs) (bC f _ (.o _ _) L h)
      ·split at h
       ·split at h
        ·rename_i hd
         exact XO.jW rfl rfl hd hj (pf hs) (bC f _ (.o _ _) ((_,.one .un)::L) h)
        ·exact h
       ·exact h
     ·rename_i hs
      split at h
      ·exact XO.mY rfl hj (pf hs) (bC f _ (.o _ _) L h)
      ·split at h
       ·split at h
        ·rename_i hd
         exact XO.jW rfl rfl hd hj (pf hs) (bC f _ (.o _ _) ((_,.one .un)::L) h)
        ·exact h
       ·exact h
     ·rename_i hs
      split at h
      ·split at h
       ·rename_i hd
        exact XO.yx rfl rfl hd hj (pf hs) (bC f _ (.o _ _) ((_,.one .un)::L) h)
       ·exact h
      ·exact h
     ·exact h
    ·exact h
   ·split at h
    ·split at h
     ·rename_i hd
      split at h
      ·rename_i s hs
       obtain⟨h1,h2⟩:=FE (P:=P) (n:=n) (φ:=fun _=>True) (d:=_) (ty:=ty) (pos:=pos) (af:=af) (gd:=none) hs
       exact XO.v h1 (by rw[hd,h2];rfl) (bC f _ (.o _ _) ((_,s)::L) h)
      ·split at h
       ·rename_i q s hs
        rcases h with h | h
        ·obtain⟨h1,h2⟩:=F9 (P:=P) (n:=n) (φ:=fun _=>True) (d:=_) (ty:=ty) (pos:=pos) (af:=af) (gd:=none) hs h.1
         exact XO.v h1 (by rw[hd,h2];rfl) (bC f _ (.o _ _) ((_,s)::L) h.2)
        ·exact h
       ·exact Ao (fun x hx=>by cases hx;exact hd) h
     ·exact h
    ·exact Ao (fun x hx=>by cases hx) h
theorem lR{ps:List Nat}{k k':SF→Prop}(h:∀ L,k L→k' L):∀ {L acc:SF},prune ps L acc k→prune ps L acc k'
 | [],_,q=>h _ q
 | (i,s)::r,acc,q=>by
  simp only[prune]at q ⊢
  split at q
  ·split at q
   ·exact lR h q
   ·exact lR h q
  ·exact lR h q
theorem l6{ps:List Nat}{k:SF→Prop}(h:∀ L,k L):∀ {L acc:SF},prune ps L acc k
 | [],_=>h _
 | (i,s)::r,acc=>by
  simp only[prune]
  split
  ·split
   ·exact l6 h
   ·exact l6 h
  ·exact l6 h
theorem CO{M':World→Prop}(hm:∀ w,M w→M' w){K:List Fm}{md:Md}{r:List Oper}{L:SF}{T:vH}{dst:Option Tmp}{op:Op}{ty:TypeId}{pos:String}{af:Array Edge}(h:halt P n Q0 M' K md r L T dst op ty pos af (XO P n md (den P Q0 K) (⟨dst,op,ty,pos,af,none⟩::r) (dn L) M')):halt P n Q0 M K md r L T dst op ty pos af (XO P n md (den P Q0 K) (⟨dst,op,ty,pos,af,none⟩::r) (dn L) M):=by
 unfold halt at h ⊢
 repeat' (split at h)
 all_goals first
  | exact XO.mono hm h
  | exact fun a b c=>XO.mono hm (h a b c)
  | exact fun a b c d=>XO.mono hm (h a b c d)
theorem F7(hm:∀ w,¬M w){K:List Fm}{md:Md}{r:List Oper}{L:SF}{T:vH}{dst:Option Tmp}{op:Op}{ty:TypeId}{pos:String}{af:Array Edge} :halt P n Q0 M K md r L T dst op ty pos af (XO P n md (den P Q0 K) (⟨dst,op,ty,pos,af,none⟩::r) (dn L) M):=by
 unfold halt
 repeat' split
 all_goals first
  | exact fun a w _ hw=>absurd hw (hm w)
  | exact fun _ _ _ a w _ hw=>absurd hw (hm w)
  | exact fun _ _ _ _ a w _ hw=>absurd hw (hm w)
theorem iS[Tb P]{M':World→Prop}(hm:∀ w,M w→M' w):∀ (f:Nat) (K:List Fm) (s:St) (L:SF),dW P n Q0 M' f K s L→dW P n Q0 M f K s L
 | 0,K,.c x,L,h=>XC.mono hm h
 | 0,K,.o md l,L,h=>XO.mono hm h
 | 0,K,.e x,L,h=>XE.mono hm h
 | f+1,K,.c x,L,h=>by
  simp only[dW]at h ⊢
  repeat' (split at h)
  all_goals first
   | exact XC.mono hm h
   | exact iS hm f _ _ _ h
 | f+1,K,.e x,L,h=>by
  simp only[dW]at h ⊢
  repeat' (split at h)
  all_goals first
   | exact XE.mono hm h
   | exact iS hm f _ _ _ h
   | exact lR (fun L'=>iS hm f _ _ _) h
 | f+1,K,.o md l,L,h=>by
  simp only[dW]at h ⊢
  repeat' (split at h)
  all_goals first
   | exact XO.mono hm h
   | exact iS hm f _ _ _ h
   | exact CO hm h
   | exact h.imp (fun q=>⟨q.1,iS hm f _ _ _ q.2⟩) (XO.mono hm)
theorem nD[Tb P](hm:∀ w,¬M w):∀ (f:Nat) (K:List Fm) (s:St) (L:SF),dW P n Q0 M f K s L
 | 0,K,.c x,L=>fun a w _ hw=>absurd hw (hm w)
 | 0,K,.o md l,L=>fun a w _ hw=>absurd hw (hm w)
 | 0,K,.e x,L=>fun a w _ hw=>absurd hw (hm w)
 | f+1,K,.c x,L=>by
  simp only[dW]
  repeat' split
  all_goals first
   | exact nD hm f _ _ _
   | exact fun a w _ hw=>absurd hw (hm w)
 | f+1,K,.e x,L=>by
  simp only[dW]
  repeat' split
  all_goals first
   | exact nD hm f _ _ _
   | exact l6 (fun L'=>nD hm f _ _ _)
   | exact fun a w _ hw=>absurd hw (hm w)
 | f+1,K,.o md l,L=>by
  simp only[dW]
  repeat' split
  all_goals first
   | exact nD hm f _ _ _
   | exact F7 hm
   | exact .inr (fun a w _ hw=>absurd hw (hm w))
   | exact fun a w _ hw=>absurd hw (hm w)
theorem nx[Tb P]{φ:Prop}(hφ:∀ w,M w→φ){f:Nat}{K:List Fm}{s:St}{L:SF}(h:φ→dW P n Q0 M f K s L):dW P n Q0 M f K s L:=by
 by_cases c:∃ w,M w
 ·obtain⟨w,hw⟩:=c
  exact h (hφ w hw)
 ·exact nD (fun w hw=>c ⟨w,hw⟩) f K s L
end
end Go.X
