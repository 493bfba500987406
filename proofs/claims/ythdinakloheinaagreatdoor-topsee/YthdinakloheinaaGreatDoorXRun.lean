import Derived.Test.YthdinakloheinaaGreatDoorXMore
set_option linter.all false
namespace Go.X
open Go
variable{s:ByteArray}{op:Op}{x y:Operand}
inductive SV where
 | int (k:IntKind) (z:Int)
 | str (s:ByteArray)
 | aC (b o i:Nat)
 | nil
 | err (T:TypeId) (e:Int)
 | ifc (T:TypeId) (v:Value)
 | pn
 | tt
 | ff
 | Ny (p:Prop) [inst:Decidable p]
 | bool (b:Bool)
 | slc (p:Option Addr) (n c:Nat)
 | un
 | val (v:Value)
def aJ:SV->Value
 | .int k z=>.int k z
 | .str s=>.string s
 | .aC b o i=>Go.X.aC b o i
 | .nil=>.nilIface
 | .err T e=>az T e
 | .ifc T v=>.iface T v
 | .pn=>.pointer none
 | .tt=>.bool true
 | .ff=>.bool false
 | @SV.Ny p i=>.bool (@decide p i)
 | .bool b=>.bool b
 | .slc p n c=>.slice p n c
 | .un=>undef
 | .val v=>v
def aD:List SV->List Value
 | []=>[]
 | s::r=>(aJ s)::aD r
inductive SW where
 | one (s:SV)
 | tup (l:List SV)
def aL:SW->Value
 | .one s=>(aJ s)
 | .tup l=>.tuple (aD l).toArray
abbrev SF:=List (Nat×SW)
def dn:SF->PF
 | []=>[]
 | (i,s)::r=>(i,(aL s))::dn r
def sk:SF->Nat->Option SW
 | [],_=>none
 | (i,s)::r,j=>match Nat.beq i j with
  | true=>some s
  | false=>sk r j
theorem AD:∀ {L:SF} {j:Nat} {s:SW},sk L j=some s->lk (dn L) j=some (aL s)
 | [],_,_,h=>by simp[sk]at h
 | (i,t)::r,j,s,h=>by
  simp only[sk]at h;simp only[dn,lk];cases hb:Nat.beq i j with
  | true=>simp only[hb,Option.some.injEq]at h;subst h;rfl
  | false=>simp only[hb]at h;exact AD h
def aR:Value->SV
 | .int k z=>.int k z
 | .string s=>.str s
 | .nilIface=>.nil
 | .pointer none=>.pn
 | .bool true=>.tt
 | .bool false=>.ff
 | .slice p n c=>.slc p n c
 | v=>.val v
def WW(v:Value):aJ (aR v)=v:=by
 unfold aR;split<;>rfl
def sv(L:SF):Operand->Option SW
 | .tmp t=>sk L t
 | .const v=>some (.one (aR v))
 | .global g=>some (.one (.val (.pointer (some ⟨g,0,none⟩))))
 | .func f=>some (.one (.val (.func (.func f) #[] #[])))
theorem c9{L:SF}{s:SW}(h:sv L x=some s):ev (dn L) x=some (aL s):=by
 cases x with
 | tmp t=>exact AD h
 | const v=>simp only[sv,Option.some.injEq]at h;subst h;exact congrArg some (WW v).symm
 | global g=>simp only[sv,Option.some.injEq]at h;subst h;rfl
 | func f=>simp only[sv,Option.some.injEq]at h;subst h;rfl
inductive BT where
 | lf
 | nd (k:Nat) (vs:List Nat) (l r:BT)
def BT.nth:List Nat->Nat->Option Nat
 | [],_=>none
 | v::_,0=>some v
 | _::r,j+1=>BT.nth r j
def BT.get:BT->Nat->Option Nat
 | .lf,_=>none
 | .nd k vs l r,j=>match Nat.blt j k with
  | true=>l.get j
  | false=>match BT.nth vs (Nat.sub j k)with
   | some v=>some v
   | none=>r.get j
def BT.fl(f:Nat->Nat->Bool):Nat->List Nat->Bool
 | _,[]=>true
 | k,v::r=>f k v&&BT.fl f (k+1) r
def BT.all(f:Nat->Nat->Bool):BT->Bool
 | .lf=>true
 | .nd k vs l r=>BT.fl f k vs&&l.all f&&r.all f
def AE{f:Nat->Nat->Bool} :∀ {vs:List Nat} {k i v:Nat},BT.fl f k vs=true->BT.nth vs i=some v->f (k+i) v=true
 | [],_,_,_,_,h=>by simp[BT.nth]at h
 | u::r,k,0,v,ha,h=>by
  simp only[BT.nth,Option.some.injEq]at h;subst h;simp only[BT.fl,Bool.and_eq_true]at ha;exact ha.1
 | u::r,k,i+1,v,ha,h=>by
  simp only[BT.nth]at h;simp only[BT.fl,Bool.and_eq_true]at ha;have:=AE ha.2 h;rwa[Nat.add_right_comm]at this
def iX{f:Nat->Nat->Bool} :∀ {t:BT} {j v:Nat},t.all f=true->t.get j=some v->f j v=true
 | .lf,_,_,_,h=>by simp[BT.get]at h
 | .nd k vs l r,j,v,ha,h=>by
  simp only[BT.all,Bool.and_eq_true]at ha;simp only[BT.get]at h;cases hc:Nat.blt j k with
  | true=>simp only[hc]at h;exact iX ha.1.2 h
  | false=>
   simp only[hc]at h;cases hn:BT.nth vs (Nat.sub j k)with
   | none=>simp only[hn]at h;exact iX ha.2 h
   | some u=>
    simp only[hn,Option.some.injEq]at h;subst h;have h1:=AE ha.1.1 hn;have h2:¬j<k:=fun q=>by rw[show Nat.blt j k=true from Nat.ble_eq_true_of_le q]at hc;cases hc
    rwa[show k+Nat.sub j k=j from by show k+(j-k)=j;omega]at h1
structure IQ where
 fo:BT
 un:BT
 sz:BT
 an:BT
 as:BT
 sl:BT
 fn:BT
def vm(P:Program)(t c:Nat):Bool:=match P.underlying t with
 | some (.interface _)=>Nat.beq c 1
 | some (.pointer _)=>Nat.beq c 2
 | some .string=>Nat.beq c 3
 | some (.slice _)=>Nat.beq c 4
 | some .bool=>Nat.beq c 5
 | some (.struct _)=>Nat.beq c 7
 | some (.array _ _)=>Nat.beq c 7
 | some _=>Nat.beq c 6
 | none=>false
def IQ.ok(P:Program)(t:IQ):Bool:=t.fo.all (fun k v=>match eC P (k/64) (k%64)with
 | some u=>Nat.beq u v
 | none=>false)&&t.un.all (vm P)&&t.sz.all (fun k v=>match fk P k with
 | some u=>Nat.beq u v
 | none=>false)&&t.an.all (fun k v=>match vv P k with
 | some u=>Nat.beq u.1 v
 | none=>false)&&t.as.all (fun k v=>match vv P k with
 | some u=>Nat.beq u.2 v
 | none=>false)&&t.sl.all (fun k v=>match w8 P k with
 | some u=>Nat.beq u.2 v
 | none=>false)&&t.fn.all fun k _=>cV P k
class Tb (P:Program) where
 t:IQ
 ok:t.ok P=true
def Tb.fo{P:Program}[h:Tb P]{s f k:Nat}(hf:f<64)(hk:h.t.fo.get (s*64+f)=some k):eC P s f=some k:=by
 have h1:=h.ok;simp only[IQ.ok,Bool.and_eq_true]at h1;have h2:=iX h1.1.1.1.1.1.1 hk;grind [Nat.eq_of_beq_eq_true]
theorem Tb.un{P:Program}[h:Tb P]{t c:Nat}(hk:h.t.un.get t=some c):vm P t c=true:=by
 have h1:=h.ok;simp only[IQ.ok,Bool.and_eq_true]at h1;exact iX h1.1.1.1.1.1.2 hk
def Tb.sz{P:Program}[h:Tb P]{t c:Nat}(hk:h.t.sz.get t=some c):fk P t=some c:=by
 have h1:=h.ok;simp only[IQ.ok,Bool.and_eq_true]at h1;have h2:=iX h1.1.1.1.1.2 hk;grind [Nat.eq_of_beq_eq_true]
def Tb.ar{P:Program}[h:Tb P]{t c s:Nat}(hk:h.t.an.get t=some c)(hs:h.t.as.get t=some s):vv P t=some (c,s):=by
 have h1:=h.ok;simp only[IQ.ok,Bool.and_eq_true]at h1;have h2:=iX h1.1.1.1.2 hk;have h3:=iX h1.1.1.2 hs;cases hx:vv P t with
 | none=>simp[hx]at h2
 | some u=>simp only[hx]at h2 h3;rw[<-Nat.eq_of_beq_eq_true h2,<-Nat.eq_of_beq_eq_true h3]
def Tb.sl{P:Program}[h:Tb P]{t c:Nat}(hk:h.t.sl.get t=some c):∃ e,w8 P t=some (e,c):=by
 have h1:=h.ok;simp only[IQ.ok,Bool.and_eq_true]at h1;have h2:=iX h1.1.2 hk;grind [Nat.eq_of_beq_eq_true]
def Tb.fn{P:Program}[h:Tb P]{t c:Nat}(hk:h.t.fn.get t=some c):cV P t=true:=by
 have h1:=h.ok;simp only[IQ.ok,Bool.and_eq_true]at h1;exact iX h1.2 hk
def WX{P:Program}{t c:Nat}(h:vm P t c=true)(hc:Nat.blt c 7=true):jw P t=true:=by
 unfold vm at h;unfold jw;split at h<;>first | (rename_i e;rw[e];done) | skip
 all_goals simp_all
def Ly{P:Program}{t:Nat}(h:vm P t 7=true):nq P t=true:=by
 unfold vm at h;unfold nq;split at h<;>first | (rename_i e;rw[e];done) | (simp at h;done)
def un1{P:Program}{t:Nat}(h:vm P t 1=true):∃ ms,P.underlying t=some (.interface ms):=by
 unfold vm at h;split at h<;>first | exact⟨_,aq⟩ | cases h
def un2{P:Program}{t:Nat}(h:vm P t 2=true):∃ e,P.underlying t=some (.pointer e):=by
 unfold vm at h;split at h<;>first | exact⟨_,aq⟩ | cases h
def un3{P:Program}{t:Nat}(h:vm P t 3=true):P.underlying t=some .string:=by
 unfold vm at h;split at h<;>first | assumption | cases h
def un4{P:Program}{t:Nat}(h:vm P t 4=true):∃ e,P.underlying t=some (.slice e):=by
 unfold vm at h;split at h<;>first | exact⟨_,aq⟩ | cases h
def unV{P:Program}{t c:Nat}(h:vm P t c=true)(hc:Nat.beq c 1=false):∃ ds,P.underlying t=some ds/\∀ ms,ds≠ .interface ms:=by
 grind [vm]
def Sl:List SV->Nat->Option SW
 | [],_=>none
 | s::_,0=>some (.one s)
 | _::r,k+1=>Sl r k
def IS:∀ {l:List SV} {k:Nat} {s:SW},Sl l k=some s->Lp (aD l) k=some (aL s)
 | [],_,_,h=>by simp[Sl]at h
 | _::_,0,_,h=>by simp only[Sl,Option.some.injEq]at h;subst h;rfl
 | _::r,k+1,_,h=>IS (l:=r) h
def aeg(a b:Int):BinOp->Option SW
 | .eql=>some (.one (.Ny (a=b)))
 | .neq=>some (.one (.Ny (a≠b)))
 | .lss=>some (.one (.Ny (a<b)))
 | .leq=>some (.one (.Ny (a<=b)))
 | .gtr=>some (.one (.Ny (a>b)))
 | .geq=>some (.one (.Ny (a>=b)))
 | _=>none
def aeh(a b:ByteArray):BinOp->Option SW
 | .eql=>some (.one (.Ny (a=b)))
 | .neq=>some (.one (.Ny (a≠b)))
 | .lss=>some (.one (.bool (Op.bytesLess a.toList b.toList)))
 | _=>none
def Er(T:IQ)(t c:Nat)(r:SV)(r':SV):BinOp->Option SW
 | .eql=>match T.un.get t with
  | some d=>match Nat.beq d c with
   | true=>some (.one r)
   | false=>none
  | none=>none
 | .neq=>match T.un.get t with
  | some d=>match Nat.beq d c with
   | true=>some (.one r')
   | false=>none
  | none=>none
 | _=>none
def zi:Operand->Bool
 | .const .nilIface=>true
 | _=>false
def Nz:Operand->Bool
 | .const (.pointer none)=>true
 | _=>false
def Sm(T:IQ)(L:SF)(op:BinOp)(t:TypeId)(x y:Operand):Option SW:=match sv L x with
 | some (.one (.int k a))=>match sv L y with
  | some (.one (.int k' b))=>match decEq k k' with
   | .isTrue _=>aeg a b op
   | .isFalse _=>none
  | _=>none
 | some (.one (.str a))=>match sv L y with
  | some (.one (.str b))=>aeh a b op
  | _=>none
 | some (.one (.err _ e))=>match zi y with
  | true=>Er T t 1 (.Ny (e=0)) (.Ny (e≠0)) op
  | false=>none
 | some (.one .nil)=>match zi y with
  | true=>Er T t 1 .tt .ff op
  | false=>none
 | some (.one (.ifc _ _))=>match zi y with
  | true=>Er T t 1 .ff .tt op
  | false=>none
 | some (.one (.aC _ _ _))=>match Nz y with
  | true=>Er T t 2 .ff .tt op
  | false=>none
 | some (.one .pn)=>match Nz y with
  | true=>Er T t 2 .tt .ff op
  | false=>none
 | _=>none
def Sn(T:IQ)(L:SF)(b:Builtin)(xs:Array Operand)(ts:Array TypeId):Option SW:=match b with
 | .len=>match xs.toList with
  | [x]=>match ts.toList with
   | [t]=>match T.un.get t with
    | some c=>match sv L x with
     | some (.one (.str s))=>match Nat.beq c 3 with
      | true=>some (.one (.int .i64 s.size))
      | false=>none
     | some (.one (.slc _ n _))=>match Nat.beq c 4 with
      | true=>some (.one (.int .i64 n))
      | false=>none
     | _=>none
    | none=>none
   | _=>none
  | _=>none
 | .min=>match xs.toList with
  | [x,y]=>match ts.toList with
   | [_,_]=>match sv L x with
    | some (.one (.int k a))=>match sv L y with
     | some (.one (.int k' b))=>match decEq k k' with
      | .isTrue _=>some (.one (.int k (min a b)))
      | .isFalse _=>none
     | _=>none
    | _=>none
   | _=>none
  | _=>none
 | .max=>match xs.toList with
  | [x,y]=>match ts.toList with
   | [_,_]=>match sv L x with
    | some (.one (.int k a))=>match sv L y with
     | some (.one (.int k' b))=>match decEq k k' with
      | .isTrue _=>some (.one (.int k (max a b)))
      | .isFalse _=>none
     | _=>none
    | _=>none
   | _=>none
  | _=>none
 | _=>none
def ZT:SW->Option SW
 | .one .tt=>some (.one .ff)
 | .one .ff=>some (.one .tt)
 | .one (@SV.Ny p _)=>some (.one (.Ny (¬p)))
 | .one (.bool b)=>some (.one (.bool (!b)))
 | _=>none
def ZU(u v:SW):SW->Option SW
 | .one .tt=>some u
 | .one .ff=>some v
 | _=>none
def Sq(T:IQ)(L:SF):Op->Option SW
 | .move x=>sv L x
 | .assign x=>sv L x
 | .pick c x y=>match sv L x with
  | some u=>match sv L y with
   | some v=>match sv L c with
    | some t=>ZU u v t
    | none=>none
   | none=>none
  | none=>none
 | .nilCheck x=>match sv L x with
  | some (.one (.aC b o i))=>some (.one (.aC b o i))
  | _=>none
 | .extract x k=>match sv L x with
  | some (.tup l)=>Sl l k
  | _=>none
 | .fieldAddr s x f=>match sv L x with
  | some (.one (.aC b o i))=>match Nat.blt f 64 with
   | true=>match T.fo.get (s*64+f)with
    | some k=>some (.one (.aC b o (i+k)))
    | none=>none
   | false=>none
  | _=>none
 | .binOp op t x y _=>Sm T L op t x y
 | .unOp op _ x=>match op with
  | .not=>match sv L x with
   | some s=>ZT s
   | none=>none
  | _=>none
 | .makeInterface t x=>match sv L x with
  | some (.one s)=>match T.un.get t with
   | some c=>match Nat.beq c 1 with
    | true=>none
    | false=>some (.one (.ifc t (aJ s)))
   | none=>none
  | _=>none
 | .call c=>match c with
  | ⟨.builtin b,xs,ts⟩=>Sn T L b xs ts
  | _=>none
 | _=>none
def aaT(s:ByteArray):Option SW->Option SW->Option (Prop×SW)
 | some (.one (.int _ z)),some (.one (.int _ z'))=>some (0<=z/\z<=z'/\z'<=s.size,.one (.str (s.extract z.toNat z'.toNat)))
 | _,_=>none
def aaU(s:ByteArray):Option SW->Option (Prop×SW)
 | some (.one (.int _ z))=>some (0<=z/\z<=s.size,.one (.str (s.extract z.toNat s.size)))
 | _=>none
def aaV(s:ByteArray):Option SW->Option (Prop×SW)
 | some (.one (.int _ z))=>some (0<=z/\z<=s.size,.one (.str (s.extract 0 z.toNat)))
 | _=>none
def arI(a b:Int):BinOp->Option (Prop×SW)
 | .add=>some (-9223372036854775808<=a+b/\a+b<=9223372036854775807,.one (.int .i64 (a+b)))
 | .sub=>some (-9223372036854775808<=a-b/\a-b<=9223372036854775807,.one (.int .i64 (a-b)))
 | .mul=>some (-9223372036854775808<=a*b/\a*b<=9223372036854775807,.one (.int .i64 (a*b)))
 | _=>none
def Sr(T:IQ)(L:SF):Op->Option (Prop×SW)
 | .binOp op _ x y _=>match sv L x with
  | some (.one (.int .i64 a))=>match sv L y with
   | some (.one (.int .i64 b))=>arI a b op
   | _=>none
  | some (.one (.str a))=>match sv L y with
   | some (.one (.str b))=>match op with
    | .add=>some (a.size+b.size<=9223372036854775807,.one (.str (a++b)))
    | _=>none
   | _=>none
  | _=>none
 | .unOp op _ x=>match op with
  | .neg=>match sv L x with
   | some (.one (.int .i64 a))=>some (-9223372036854775808<=0-a/\0-a<=9223372036854775807,.one (.int .i64 (0-a)))
   | _=>none
  | _=>none
 | .indexAddr t x y=>match sv L y with
  | some (.one (.int _ z))=>match sv L x with
   | some (.one (.aC b o i))=>match T.an.get t with
    | some m=>match T.as.get t with
     | some s=>some (0<=z/\z<m,.one (.aC b o (i+z.toNat*s)))
     | none=>none
    | none=>none
   | some (.one (.slc (some ⟨b,o,none⟩) n _))=>match T.sl.get t with
    | some s=>some (0<=z/\z<n,.one (.aC b o (0+z.toNat*s)))
    | none=>none
   | _=>none
  | _=>none
 | .slice t x lo hi mx=>match mx with
  | none=>match T.un.get t with
   | some c=>match Nat.beq c 3 with
    | true=>match sv L x with
     | some (.one (.str s))=>match lo with
      | none=>match hi with
       | none=>none
       | some y=>aaV s (sv L y)
      | some y=>match hi with
       | none=>aaU s (sv L y)
       | some u=>aaT s (sv L y) (sv L u)
     | _=>none
    | false=>none
   | none=>none
  | some _=>none
 | _=>none
def svs(L:SF):List Operand->Option (List SW)
 | []=>some []
 | x::r=>match sv L x with
  | some s=>match svs L r with
   | some l=>some (s::l)
   | none=>none
  | none=>none
def NA:List SW->List Value
 | []=>[]
 | s::r=>(aL s)::NA r
theorem NB{L:SF} :∀ {xs:List Operand} {l:List SW},svs L xs=some l->Pd (dn L) xs=some (NA l)
 | [],l,h=>by simp only[svs,Option.some.injEq]at h;subst h;rfl
 | x::r,l,h=>by
  simp only[svs]at h;split at h
  ·rename_i s hx;split at h
   ·rename_i l' hr;simp only[Option.some.injEq]at h;subst h;simp only[Pd,c9 hx,NB hr,NA]
   ·cases h
  ·cases h
section
variable {P:Program} {n:Fr} {L:SF} {ty:TypeId} {pos:String} {af:Array Edge} {d:Nat} {gd:Option (Nat×Bool)} {φ:World->Prop}
theorem ql{a b:Nat}(h:Nat.beq a b=true):a=b:=Nat.eq_of_beq_eq_true h
theorem Ss[h:Tb P]{op:BinOp}{t t':TypeId}{s:SW}(hs:Sm h.t L op t x y=some s):bd P n (dn L) φ ⟨some d,.binOp op t x y t',ty,pos,af,gd⟩ (aL s):=by
 unfold Sm at hs;split at hs
 ·rename_i k a hx;split at hs
  ·rename_i k' b hy;split at hs
   ·rename_i hk _;subst hk;cases op<;>simp only[aeg,Option.some.injEq]at hs<;>first | cases hs;done | (subst hs;exact RY (c9 hx) (c9 hy) rfl)
   simp_all
  simp_all
 ·rename_i a hx;split at hs
  ·rename_i b hy;cases op<;>simp only[aeh,Option.some.injEq]at hs<;>first | cases hs;done | (subst hs;exact R4 (c9 hx) (c9 hy) rfl)
  simp_all
 ·rename_i T e hx;split at hs
  ·rename_i hn;have hy:y= .const .nilIface:=by unfold zi at hn;split at hn<;>first | rfl | cases hn
   subst hy;cases op<;>simp only[Er]at hs<;>first | cases hs;done | (split at hs<;>first | cases hs;done | (split at hs<;>first | cases hs;done | (
    rename_i hg _ hb
    obtain⟨ms,hu⟩:=un1 (by rw[<-ql hb];exact Tb.un hg)
    simp only[Option.some.injEq]at hs
    subst hs
    exact R7 (c9 hx) hu rfl)))
  simp_all
 ·rename_i hx;split at hs
  ·rename_i hn;have hy:y= .const .nilIface:=by unfold zi at hn;split at hn<;>first | rfl | cases hn
   subst hy;cases op<;>simp only[Er]at hs<;>first | cases hs;done | (split at hs<;>first | cases hs;done | (split at hs<;>first | cases hs;done | (
    rename_i hg _ hb
    obtain⟨ms,hu⟩:=un1 (by rw[<-ql hb];exact Tb.un hg)
    simp only[Option.some.injEq]at hs
    subst hs
    exact IC (c9 hx) hu rfl)))
  simp_all
 ·rename_i T v hx;split at hs
  ·rename_i hn;have hy:y= .const .nilIface:=by unfold zi at hn;split at hn<;>first | rfl | cases hn
   subst hy;cases op<;>simp only[Er]at hs<;>first | cases hs;done | (split at hs<;>first | cases hs;done | (split at hs<;>first | cases hs;done | (
    rename_i hg _ hb
    obtain⟨ms,hu⟩:=un1 (by rw[<-ql hb];exact Tb.un hg)
    simp only[Option.some.injEq]at hs
    subst hs
    exact B7 (c9 hx) hu rfl)))
  simp_all
 ·rename_i b o i hx;split at hs
  ·rename_i hn;have hy:y= .const (.pointer none):=by unfold Nz at hn;split at hn<;>first | rfl | cases hn
   subst hy;cases op<;>simp only[Er]at hs<;>first | cases hs;done | (split at hs<;>first | cases hs;done | (split at hs<;>first | cases hs;done | (
    rename_i hg _ hb
    obtain⟨ms,hu⟩:=un2 (by rw[<-ql hb];exact Tb.un hg)
    simp only[Option.some.injEq]at hs
    subst hs
    exact Pg (c9 hx) hu rfl)))
  simp_all
 ·rename_i hx;split at hs
  ·rename_i hn;have hy:y= .const (.pointer none):=by unfold Nz at hn;split at hn<;>first | rfl | cases hn
   subst hy;cases op<;>simp only[Er]at hs<;>first | cases hs;done | (split at hs<;>first | cases hs;done | (split at hs<;>first | cases hs;done | (
    rename_i hg _ hb
    obtain⟨ms,hu⟩:=un2 (by rw[<-ql hb];exact Tb.un hg)
    simp only[Option.some.injEq]at hs
    subst hs
    exact Ph (c9 hx) hu rfl)))
  simp_all
 simp_all
theorem IT{α:Type}{xs:Array α}{l:List α}(h:xs.toList=l):xs=l.toArray:=by rw[<-h]
theorem Su[h:Tb P]{b:Builtin}{xs:Array Operand}{ts:Array TypeId}{s:SW}(hs:Sn h.t L b xs ts=some s):bd P n (dn L) φ ⟨some d,.call ⟨.builtin b,xs,ts⟩,ty,pos,af,gd⟩ (aL s)/\cx (.call ⟨.builtin b,xs,ts⟩)=false:=by
 unfold Sn at hs;split at hs
 ·refine⟨?_,rfl⟩;split at hs
  ·rename_i x Ld;split at hs
   ·rename_i t hts;split at hs
    ·rename_i c hc;split at hs
     ·rename_i a hx;split at hs
      ·rename_i hb;simp only[Option.some.injEq]at hs;subst hs;rw[IT Ld,IT hts];exact R3 (c9 hx) (un3 (by rw[<-ql hb];exact Tb.un hc))
      simp_all
     ·rename_i p k c2 hx;split at hs
      ·rename_i hb;simp only[Option.some.injEq]at hs;subst hs;rw[IT Ld,IT hts];obtain⟨e,hu⟩:=un4 (by rw[<-ql hb];exact Tb.un hc);exact WN (c9 hx) hu
      simp_all
     simp_all
    simp_all
   simp_all
  simp_all
 ·refine⟨?_,rfl⟩;split at hs
  ·rename_i x y Ld;split at hs
   ·rename_i t1 t2 hts;split at hs
    ·rename_i k a hx;split at hs
     ·rename_i k' b hy;split at hs
      ·rename_i hk _;subst hk;simp only[Option.some.injEq]at hs;subst hs;rw[IT Ld,IT hts];exact V.min2 (c9 hx) (c9 hy)
      simp_all
     simp_all
    simp_all
   simp_all
  simp_all
 ·refine⟨?_,rfl⟩;split at hs
  ·rename_i x y Ld;split at hs
   ·rename_i t1 t2 hts;split at hs
    ·rename_i k a hx;split at hs
     ·rename_i k' b hy;split at hs
      ·rename_i hk _;subst hk;simp only[Option.some.injEq]at hs;subst hs;rw[IT Ld,IT hts];exact V.max2 (c9 hx) (c9 hy)
      simp_all
     simp_all
    simp_all
   simp_all
  simp_all
 simp_all
def Sv[h:Tb P]{s:SW}(hs:Sq h.t L op=some s):bd P n (dn L) φ ⟨some d,op,ty,pos,af,gd⟩ (aL s)/\cx op=false:=by
 unfold Sq at hs;split at hs
 ·grind [V.move,c9,cx]
 ·grind [V.assign,c9,cx]
 ·refine⟨?_,rfl⟩;split at hs
  ·rename_i u hx;split at hs
   ·rename_i v hy;split at hs
    ·rename_i t hc;unfold ZU at hs;split at hs
     ·simp only[Option.some.injEq]at hs;subst hs;exact V.pick (t:=true) (c9 hc) (c9 hx) (c9 hy) rfl
     ·simp only[Option.some.injEq]at hs;subst hs;exact V.pick (t:=false) (c9 hc) (c9 hx) (c9 hy) rfl
     simp_all
    simp_all
   simp_all
  simp_all
 ·grind [aW,c9,aJ,aL,cx]
 ·refine⟨?_,rfl⟩;split at hs
  ·rename_i l hx;exact V.extract (c9 hx) (by simpa using IS hs)
  simp_all
 ·refine⟨?_,rfl⟩;split at hs
  ·rename_i b o i hx;split at hs
   ·rename_i hf;split at hs
    ·rename_i k hk;simp only[Option.some.injEq]at hs;subst hs;exact V.fieldAddr (c9 hx) (Tb.fo (by simpa using hf) hk)
    simp_all
   simp_all
  simp_all
 ·grind [Ss,cx]
 ·refine⟨?_,rfl⟩;split at hs
  ·split at hs
   ·rename_i t hx;unfold ZT at hs;split at hs
    ·simp only[Option.some.injEq]at hs;subst hs;exact V.not (b:=true) (c9 hx)
    ·simp only[Option.some.injEq]at hs;subst hs;exact V.not (b:=false) (c9 hx)
    ·simp only[Option.some.injEq]at hs;subst hs;exact aaJ (c9 hx)
    ·simp only[Option.some.injEq]at hs;subst hs;exact V.not (c9 hx)
    simp_all
   simp_all
  simp_all
 ·refine⟨?_,rfl⟩;split at hs
  ·rename_i u hx;split at hs
   ·rename_i c hc;split at hs
    ·cases hs
    ·rename_i hb;simp only[Option.some.injEq]at hs;subst hs;obtain⟨ds,hu,hn⟩:=unV (Tb.un hc) hb;exact Az (c9 hx) hu hn
   simp_all
  simp_all
 all_goals grind [Su]
def WY{u:Operand}{t:TypeId}{q:Prop}{v:SW}(ht:P.underlying t=some .string)(hx:ev (dn L) x=some (.string s))(h:aaT s (sv L y) (sv L u)=some (q,v))(hq:q):bd P n (dn L) φ ⟨some d,.slice t x (some y) (some u) none,ty,pos,af,gd⟩ (aL v):=by
 unfold aaT at h;split at h
 ·rename_i k z k' z' hy hu;simp only[Option.some.injEq,Prod.mk.injEq]at h;obtain⟨rfl,rfl⟩:=h;exact R6 hx (c9 hy) (c9 hu) ht hq
 ·cases h
def WZ{t:TypeId}{q:Prop}{v:SW}(ht:P.underlying t=some .string)(hx:ev (dn L) x=some (.string s))(h:aaU s (sv L y)=some (q,v))(hq:q):bd P n (dn L) φ ⟨some d,.slice t x (some y) none none,ty,pos,af,gd⟩ (aL v):=by
 unfold aaU at h;split at h
 ·rename_i k z hy;simp only[Option.some.injEq,Prod.mk.injEq]at h;obtain⟨rfl,rfl⟩:=h;exact IB hx (c9 hy) ht hq
 ·cases h
def W0{t:TypeId}{q:Prop}{v:SW}(ht:P.underlying t=some .string)(hx:ev (dn L) x=some (.string s))(h:aaV s (sv L y)=some (q,v))(hq:q):bd P n (dn L) φ ⟨some d,.slice t x none (some y) none,ty,pos,af,gd⟩ (aL v):=by
 unfold aaV at h;split at h
 ·rename_i k z hy;simp only[Option.some.injEq,Prod.mk.injEq]at h;obtain⟨rfl,rfl⟩:=h;exact Pf hx (c9 hy) ht hq
 ·cases h
def Sw[h:Tb P]{q:Prop}{v:SW}(hs:Sr h.t L op=some (q,v))(hq:q):bd P n (dn L) φ ⟨some d,op,ty,pos,af,gd⟩ (aL v)/\cx op=false:=by
 unfold Sr at hs;split at hs
 ·refine⟨?_,rfl⟩;split at hs
  ·rename_i a hx;split at hs
   ·rename_i b hy;unfold arI at hs;split at hs
    ·simp only[Option.some.injEq,Prod.mk.injEq]at hs;obtain⟨rfl,rfl⟩:=hs;exact V.add (c9 hx) (c9 hy) _ (IntWalk.i64_in _ hq)
    ·simp only[Option.some.injEq,Prod.mk.injEq]at hs;obtain⟨rfl,rfl⟩:=hs;exact V.sub (c9 hx) (c9 hy) _ (IntWalk.i64_in _ hq)
    ·simp only[Option.some.injEq,Prod.mk.injEq]at hs;obtain⟨rfl,rfl⟩:=hs;exact V.mul (c9 hx) (c9 hy) _ (IntWalk.i64_in _ hq)
    simp_all
   simp_all
  ·rename_i a hx;split at hs
   ·rename_i b hy;split at hs
    ·simp only[Option.some.injEq,Prod.mk.injEq]at hs;obtain⟨rfl,rfl⟩:=hs;exact R5 (c9 hx) (c9 hy) hq
    simp_all
   simp_all
  simp_all
 ·refine⟨?_,rfl⟩;split at hs
  ·split at hs
   ·rename_i a hx;simp only[Option.some.injEq,Prod.mk.injEq]at hs;obtain⟨rfl,rfl⟩:=hs;exact V.neg (c9 hx) _ (IntWalk.i64_in _ hq)
   simp_all
  simp_all
 ·refine⟨?_,rfl⟩;split at hs
  ·rename_i k z hy;split at hs
   ·rename_i b o i hx;split at hs
    ·rename_i m hm;split at hs
     ·rename_i s hs';simp only[Option.some.injEq,Prod.mk.injEq]at hs;obtain⟨rfl,rfl⟩:=hs;exact iW (c9 hx) (c9 hy) (Tb.ar hm hs') hq
     simp_all
    simp_all
   ·rename_i b o m c hx;split at hs
    ·rename_i s hs';simp only[Option.some.injEq,Prod.mk.injEq]at hs;obtain⟨rfl,rfl⟩:=hs;obtain⟨e,he⟩:=Tb.sl hs';exact E6 (c9 hx) (c9 hy) he hq
    simp_all
   simp_all
  simp_all
 ·refine⟨?_,rfl⟩;split at hs
  ·split at hs
   ·rename_i c hc;split at hs
    ·rename_i hb;have ht:=un3 (P:=P) (by rw[<-ql hb];exact Tb.un hc);split at hs
     ·rename_i s hx;split at hs
      ·split at hs
       ·cases hs
       ·exact W0 ht (c9 hx) hs hq
      ·split at hs
       ·exact WZ ht (c9 hx) hs hq
       ·exact WY ht (c9 hx) hs hq
     simp_all
    simp_all
   simp_all
  simp_all
 simp_all
end
inductive Fm where
 | sq (c:Code)
 | blk (i:Nat)
 | th (T:Act->World->Prop)
def kF(P:Program)(Q0:Exit->Act->World->Prop):List Fm->Exit->Act->World->Prop
 | []=>Q0
 | .sq y::K=>Exit.then (y.wp P (kF P Q0 K)) (kF P Q0 K)
 | .blk i::K=>Exit.inBlock i (kF P Q0 K)
 | .th T::K=>Exit.then T (kF P Q0 K)
inductive St where
 | c (x:Code)
 | o (md:Md) (l:List Oper)
 | e (x:Exit)
def aaX:Nat->List Nat->Bool
 | _,[]=>false
 | i,j::r=>match Nat.beq i j with
  | true=>true
  | false=>aaX i r
def sX(ps:List Nat):SF->SF->(SF->Prop)->Prop
 | [],jI,k=>k jI
 | (i,s)::r,jI,k=>match aaX i ps with
  | true=>match sk jI i with
   | some _=>sX ps r jI k
   | none=>sX ps r ((i,s)::jI) k
  | false=>sX ps r jI k
def IU:List Oper->Nat->Option Nat
 | [],_=>none
 | o::_,0=>o.dst
 | _::r,k+1=>IU r k
def IV:∀ {l:List Oper} {j d:Nat},IU l j=some d->(l[j]?).bind (·.dst)=some d
 | [],_,_,h=>by simp[IU]at h
 | _::_,0,_,h=>by simpa [IU]using h
 | _::r,k+1,_,h=>by simpa using IV (l:=r) h
def Ci:Code->Nat
 | .region i _ _=>i
 | .seq a _=>Ci a
 | .block _ c=>Ci c
 | .loop c=>Ci c
 | .cond _ a _=>Ci a
 | _=>0
def aej:Code->Nat
 | .region _ _ _=>0
 | .seq _ _=>1
 | .cond _ _ _=>2
 | .block _ _=>3
 | .loop _=>4
 | _=>5
def aaY(i k:Nat):List (Nat×Nat)->Bool
 | []=>false
 | (j,l)::r=>match Nat.beq i j with
  | true=>match Nat.beq k l with
   | true=>true
   | false=>aaY i k r
  | false=>aaY i k r
def Sd(q R X:Prop):Prop:=(q/\R)\/X
section
variable (P:Program) (n:Fr) (Q0:Exit->Act->World->Prop) (M:World->Prop) (K:List Fm) (md:Md) (r:List Oper) (L:SF)
def LdG(t:TypeId)(d:Nat)(x:Operand)(ty:TypeId)(pos:String)(af:Array Edge)(b o i:Nat):Prop:=
 ev (dn L) x=some (aC b o i)->jw P t=true->Nat.blt d n.sz=true->XO P n md (kF P Q0 K) (⟨some d,.load t x,ty,pos,af,none⟩::r) (dn L) M
def LdA(t:TypeId)(d:Nat)(x:Operand)(ty:TypeId)(pos:String)(af:Array Edge)(b o i k:Nat):Prop:=
 ev (dn L) x=some (aC b o i)->nq P t=true->fk P t=some k->Nat.blt d n.sz=true->XO P n md (kF P Q0 K) (⟨some d,.load t x,ty,pos,af,none⟩::r) (dn L) M
def StG(t:TypeId)(x y:Operand)(ty:TypeId)(pos:String)(af:Array Edge)(b o i k:Nat)(s:SV):Prop:=
 ev (dn L) x=some (aC b o i)->ev (dn L) y=some (aJ s)->fk P t=some k->XO P n md (kF P Q0 K) (⟨none,.store t x y,ty,pos,af,none⟩::r) (dn L) M
def CaG(d:Nat)(f:FuncId)(xs:List Operand)(n9:Array TypeId)(ty:TypeId)(pos:String)(af:Array Edge)(vs:List Value):Prop:=
 Pd (dn L) xs=some vs->cV P f=true->Nat.blt d n.sz=true->XO P n md (kF P Q0 K) (⟨some d,.call ⟨.value (.func f),xs.toArray,n9⟩,ty,pos,af,none⟩::r) (dn L) M
def halt(T:IQ)(dst:Option Tmp)(op:Op)(ty:TypeId)(pos:String)(af:Array Edge)(ho:Prop):Prop:=match op with
   | .load t x=>match dst with
    | some d=>match sv L x with
     | some (.one (.aC b o i))=>match T.un.get t with
      | some c=>match Nat.blt c 7 with
       | true=>LdG P n Q0 M K md r L t d x ty pos af b o i
       | false=>match Nat.beq c 7 with
        | true=>match T.sz.get t with
         | some k=>LdA P n Q0 M K md r L t d x ty pos af b o i k
         | none=>ho
        | false=>ho
      | none=>ho
     | _=>ho
    | none=>ho
   | .store t x y=>match dst with
    | none=>match sv L x with
     | some (.one (.aC b o i))=>match sv L y with
      | some (.one s)=>match T.sz.get t with
       | some k=>StG P n Q0 M K md r L t x y ty pos af b o i k s
       | none=>ho
      | _=>ho
     | _=>ho
    | some _=>ho
   | .call c=>match c with
    | ⟨.value (.func f),xs,n9⟩=>match dst with
     | some d=>match T.fn.get f with
      | some _=>match svs L xs.toList with
       | some l=>CaG P n Q0 M K md r L d f xs.toList n9 ty pos af (NA l)
       | none=>ho
      | none=>ho
     | none=>ho
    | _=>ho
   | _=>ho
end
theorem NC{P:Program}[h:Tb P]{n:Fr}{Q0:Exit->Act->World->Prop}{M:World->Prop}{K:List Fm}{md:Md}{r:List Oper}{L:SF}{dst:Option Tmp}{ty:TypeId}{pos:String}{af:Array Edge}(hd:∀ d,dst=some d->Nat.blt d n.sz=true)(hh:halt P n Q0 M K md r L h.t dst op ty pos af (XO P n md (kF P Q0 K) (⟨dst,op,ty,pos,af,none⟩::r) (dn L) M)):XO P n md (kF P Q0 K) (⟨dst,op,ty,pos,af,none⟩::r) (dn L) M:=by
 unfold halt at hh
 ·split at hh
  ·split at hh
   ·split at hh
    ·rename_i hx;split at hh
     ·rename_i hc;split at hh
      ·rename_i hb;exact hh (c9 hx) (WX (Tb.un hc) hb) (hd _ rfl)
      ·split at hh
       ·rename_i hb;split at hh
        ·rename_i hk;exact hh (c9 hx) (Ly (by rw[<-ql hb];exact Tb.un hc)) (Tb.sz hk) (hd _ rfl)
        ·exact hh
       ·exact hh
     ·exact hh
    ·exact hh
   ·exact hh
  ·split at hh
   ·split at hh
    ·rename_i hx;split at hh
     ·rename_i hy;split at hh
      ·rename_i hk;exact hh (c9 hx) (c9 hy) (Tb.sz hk)
      ·exact hh
     ·exact hh
    ·exact hh
   ·exact hh
  ·split at hh
   ·split at hh
    ·split at hh
     ·rename_i hf;split at hh
      ·rename_i hl;exact hh (NB hl) (Tb.fn hf) (hd _ rfl)
      ·exact hh
     ·exact hh
    ·exact hh
   ·exact hh
  ·exact hh
section
variable (P:Program) (n:Fr) (Q0:Exit->Act->World->Prop) (M:World->Prop)
def gM[h:Tb P]:Nat->List Fm->St->SF->Prop
 | 0,K,.c x,L=>XC P n x (kF P Q0 K) (dn L) M
 | 0,K,.o md l,L=>XO P n md (kF P Q0 K) l (dn L) M
 | 0,K,.e x,L=>XE n (kF P Q0 K) x (dn L) M
 | f+1,K,.c x,L=>match x with
  | .seq a b=>match n.cs with
   | []=>gM f (.sq b::K) (.c a) L
   | c::cs=>match aaY (Ci a) (aej a) (c::cs)with
    | true=>XC P n (.seq a b) (kF P Q0 K) (dn L) M
    | false=>gM f (.sq b::K) (.c a) L
  | .skip=>gM f K (.e .normal) L
  | .ret=>gM f K (.e .ret) L
  | .exit i=>gM f K (.e (.exit i)) L
  | .block i c=>gM f (.blk i::K) (.c c) L
  | .region i ops dr=>match dr with
   | false=>gM f K (.o (.cl ops) ops.toList) L
   | true=>XC P n (.region i ops true) (kF P Q0 K) (dn L) M
  | .cond c a b=>match sv L c with
   | some (.one .tt)=>gM f K (.c a) L
   | some (.one .ff)=>gM f K (.c b) L
   | _=>XC P n (.cond c a b) (kF P Q0 K) (dn L) M
  | y=>XC P n y (kF P Q0 K) (dn L) M
 | f+1,K,.e x,L=>match K with
  | []=>XE n Q0 x (dn L) M
  | .sq y::K'=>match x with
   | .normal=>sX n.ps L [] fun L'=>gM f K' (.c y) L'
   | .ret=>gM f K' (.e .ret) L
   | .exit i=>gM f K' (.e (.exit i)) L
   | x=>XE n (kF P Q0 (.sq y::K')) x (dn L) M
  | .blk i::K'=>match x with
   | .normal=>gM f K' (.e .normal) L
   | .ret=>gM f K' (.e .ret) L
   | .exit j=>match Nat.beq j i with
    | true=>gM f K' (.e .normal) L
    | false=>gM f K' (.e (.exit j)) L
   | x=>XE n (kF P Q0 (.blk i::K')) x (dn L) M
  | .th T::K'=>match x with
   | .ret=>gM f K' (.e .ret) L
   | .exit i=>gM f K' (.e (.exit i)) L
   | x=>XE n (kF P Q0 (.th T::K')) x (dn L) M
 | f+1,K,.o md l,L=>match l with
  | []=>gM f K (.e .normal) L
  | ⟨dst,op,ty,pos,af,gd⟩::r=>match gd with
   | some (j,want)=>match IU md.a.toList j with
    | some dj=>match sk L dj with
     | some (.one .tt)=>match want with
      | true=>gM f K (.o md (⟨dst,op,ty,pos,af,none⟩::r)) L
      | false=>match dst with
       | some d=>match Nat.blt d n.sz with
        | true=>gM f K (.o md r) ((d,.one .un)::L)
        | false=>XO P n md (kF P Q0 K) (⟨some d,op,ty,pos,af,some (j,false)⟩::r) (dn L) M
       | none=>XO P n md (kF P Q0 K) (⟨none,op,ty,pos,af,some (j,false)⟩::r) (dn L) M
     | some (.one .ff)=>match want with
      | false=>gM f K (.o md (⟨dst,op,ty,pos,af,none⟩::r)) L
      | true=>match dst with
       | some d=>match Nat.blt d n.sz with
        | true=>gM f K (.o md r) ((d,.one .un)::L)
        | false=>XO P n md (kF P Q0 K) (⟨some d,op,ty,pos,af,some (j,true)⟩::r) (dn L) M
       | none=>XO P n md (kF P Q0 K) (⟨none,op,ty,pos,af,some (j,true)⟩::r) (dn L) M
     | some (.one .un)=>match dst with
       | some d=>match Nat.blt d n.sz with
        | true=>gM f K (.o md r) ((d,.one .un)::L)
        | false=>XO P n md (kF P Q0 K) (⟨some d,op,ty,pos,af,some (j,want)⟩::r) (dn L) M
       | none=>XO P n md (kF P Q0 K) (⟨none,op,ty,pos,af,some (j,want)⟩::r) (dn L) M
     | _=>XO P n md (kF P Q0 K) (⟨dst,op,ty,pos,af,some (j,want)⟩::r) (dn L) M
    | none=>XO P n md (kF P Q0 K) (⟨dst,op,ty,pos,af,some (j,want)⟩::r) (dn L) M
   | none=>match dst with
    | some d=>match Nat.blt d n.sz with
     | true=>match Sq h.t L op with
      | some s=>gM f K (.o md r) ((d,s)::L)
      | none=>match Sr h.t L op with
       | some (q,s)=>Sd q (gM f K (.o md r) ((d,s)::L)) (XO P n md (kF P Q0 K) (⟨some d,op,ty,pos,af,none⟩::r) (dn L) M)
       | none=>halt P n Q0 M K md r L h.t (some d) op ty pos af (XO P n md (kF P Q0 K) (⟨some d,op,ty,pos,af,none⟩::r) (dn L) M)
     | false=>XO P n md (kF P Q0 K) (⟨some d,op,ty,pos,af,none⟩::r) (dn L) M
    | none=>halt P n Q0 M K md r L h.t none op ty pos af (XO P n md (kF P Q0 K) (⟨none,op,ty,pos,af,none⟩::r) (dn L) M)
end
def aa0(P:Program)(n:Fr)(Q0:Exit->Act->World->Prop)(M:World->Prop)(K:List Fm)(L:PF):St->Prop
 | .c x=>XC P n x (kF P Q0 K) L M
 | .o md l=>XO P n md (kF P Q0 K) l L M
 | .e x=>XE n (kF P Q0 K) x L M
theorem Cj:∀ {L:SF} {j:Nat},sk L j=none->lk (dn L) j=none
 | [],_,_=>rfl
 | (i,t)::r,j,h=>by
  simp only[sk]at h;simp only[dn,lk];cases hb:Nat.beq i j with
  | true=>simp[hb]at h
  | false=>simp only[hb]at h;exact Cj h
def xf{ps:List Nat} :∀ {L jI:SF} {k:SF->Prop},sX ps L jI k->∃ L',k L'/\∀ i v,lk (dn L') i=some v->(match lk (dn jI) i with
 | some u=>u=v
 | none=>aaX i ps=true/\lk (dn L) i=some v)
 | [],jI,k,h=>⟨jI,h,fun i v q=>by rw[q]⟩
 | (j,s)::r,jI,k,h=>by
  simp only[sX]at h;split at h
  ·split at h
   ·rename_i u hu;obtain⟨L',h1,h2⟩:=xf h;refine⟨L',h1,fun i v q=> ?_⟩;have:=h2 i v q;cases ha:lk (dn jI) i with
    | some x=>rw[ha]at this;exact this
    | none=>
     rw[ha]at this;refine⟨this.1,?_⟩;simp only[dn,lk];cases hb:Nat.beq j i with
     | true=>have:=ql hb;subst this;rw[AD hu]at ha;cases ha
     | false=>exact this.2
   ·rename_i hm _ hu;obtain⟨L',h1,h2⟩:=xf h;refine⟨L',h1,fun i v q=> ?_⟩;have:=h2 i v q;simp only[dn,lk]at this ⊢;cases hb:Nat.beq j i with
    | true=>
     have e:=ql hb;subst e;simp only[hb,cond_true]at this ⊢;rw[Cj hu];exact⟨hm,congrArg some this⟩
    | false=>simp only[hb,cond_false]at this ⊢;exact this
  ·rename_i hm;obtain⟨L',h1,h2⟩:=xf h;grind [lk,dn,ql]
section
variable {P:Program} {n:Fr} {Q0:Exit->Act->World->Prop} {M:World->Prop}
def nR.cons{L:PF}{a:Act}{d:Nat}{v:Value}(h:nR n L a)(hv:a.tmps.getD d undef=v):nR n ((d,v)::L) a:=by grind [Bv,nR]
def cm[Tb P]:∀ (f:Nat) (K:List Fm) (s:St) (L:SF),gM P n Q0 M f K s L->aa0 P n Q0 M K (dn L) s
 | 0,K,.c x,L,h=>h
 | 0,K,.o md l,L,h=>h
 | 0,K,.e x,L,h=>h
 | f+1,K,.c x,L,h=>by
  simp only[gM]at h;split at h
  ·split at h
   ·exact XC.seq (cm f _ (.c _) L h)
   ·split at h
    ·exact h
    ·exact XC.seq (cm f _ (.c _) L h)
  ·exact XC.skip (cm f _ (.e _) L h)
  ·exact XC.ret (cm f _ (.e _) L h)
  ·exact XC.exit (cm f _ (.e _) L h)
  ·exact XC.block (cm f _ (.c _) L h)
  ·split at h
   ·rename_i ops _;exact XC.region (l:=ops.toList) (cm f _ (.o _ _) L h)
   ·exact h
  ·split at h
   ·rename_i hc;exact B1 (t:=true) (c9 hc) rfl (cm f _ (.c _) L h)
   ·rename_i hc;exact B2 (t:=false) (c9 hc) rfl (cm f _ (.c _) L h)
   ·exact h
  ·exact h
 | f+1,K,.e x,L,h=>by
  simp only[gM]at h;split at h
  ·exact h
  ·rename_i K' y;split at h
   ·obtain⟨L',h1,h2⟩:=xf h;refine XE.next (XC.eK (dn L') (fun i v q=> ?_) (cm f _ (.c _) L' h1));exact(h2 i v q).2
   ·exact ra (cm f _ (.e _) L h)
   ·exact pj (cm f _ (.e _) L h)
   ·exact h
  ·rename_i K' i;split at h
   ·exact gn (cm f _ (.e _) L h)
   ·exact lj (cm f _ (.e _) L h)
   ·split at h
    ·rename_i hb;have:=ql hb;subst this;exact w6 (cm f _ (.e _) L h)
    ·rename_i hb;exact Ek hb (cm f _ (.e _) L h)
   ·exact h
  ·rename_i K' T;split at h
   ·exact ra (cm f _ (.e _) L h)
   ·exact pj (cm f _ (.e _) L h)
   ·exact h
 | f+1,K,.o md l,L,h=>by
  simp only[gM]at h;split at h
  ·exact XO.nil (cm f _ (.e _) L h)
  ·rename_i dst op ty pos af gd r;split at h
   ·rename_i j want;split at h
    ·rename_i dj hdj;have hj:(md.a[j]?).bind (·.dst)=some dj:=by
      have:=IV hdj;simp_all
     split at h
     ·rename_i hs;split at h
      ·exact XO.w7 rfl hj (AD hs) (cm f _ (.o _ _) L h)
      ·split at h
       ·split at h
        ·rename_i hd;exact XO.qf rfl rfl hd hj (AD hs) (cm f _ (.o _ _) ((_,.one .un)::L) h)
        ·exact h
       ·exact h
     ·rename_i hs;split at h
      ·exact XO.w7 rfl hj (AD hs) (cm f _ (.o _ _) L h)
      ·split at h
       ·split at h
        ·rename_i hd;exact XO.qf rfl rfl hd hj (AD hs) (cm f _ (.o _ _) ((_,.one .un)::L) h)
        ·exact h
       ·exact h
     ·rename_i hs;split at h
      ·split at h
       ·rename_i hd;exact El rfl rfl hd hj (AD hs) (cm f _ (.o _ _) ((_,.one .un)::L) h)
       ·exact h
      ·exact h
     ·exact h
    ·exact h
   ·split at h
    ·split at h
     ·rename_i hd;split at h
      ·rename_i s hs;obtain⟨h1,h2⟩:=Sv (P:=P) (n:=n) (φ:=fun _=>True) (d:=_) (ty:=ty) (pos:=pos) (af:=af) (gd:=none) hs;exact XO.v h1 (by rw[hd,h2];rfl) (cm f _ (.o _ _) ((_,s)::L) h)
      ·split at h
       ·rename_i q s hs;rcases h with h | h
        ·obtain⟨h1,h2⟩:=Sw (P:=P) (n:=n) (φ:=fun _=>True) (d:=_) (ty:=ty) (pos:=pos) (af:=af) (gd:=none) hs h.1;exact XO.v h1 (by rw[hd,h2];rfl) (cm f _ (.o _ _) ((_,s)::L) h.2)
        ·exact h
       grind [NC,aa0]
     ·exact h
    grind [NC,aa0]
def uC{ps:List Nat}{k k':SF->Prop}(h:∀ L,k L->k' L):∀ {L jI:SF},sX ps L jI k->sX ps L jI k'
 | [],_,q=>h _ q
 | (i,s)::r,jI,q=>by
  simp only[sX]at q ⊢;split at q
  ·split at q
   ·exact uC h q
   ·exact uC h q
  ·exact uC h q
def uD{ps:List Nat}{k:SF->Prop}(h:∀ L,k L):∀ {L jI:SF},sX ps L jI k
 | [],_=>h _
 | (i,s)::r,jI=>by
  simp only[sX];split
  ·split
   ·exact uD h
   ·exact uD h
  ·exact uD h
def Ps{M':World->Prop}(hm:∀ w,M w->M' w){K:List Fm}{md:Md}{r:List Oper}{L:SF}{T:IQ}{dst:Option Tmp}{ty:TypeId}{pos:String}{af:Array Edge}(h:halt P n Q0 M' K md r L T dst op ty pos af (XO P n md (kF P Q0 K) (⟨dst,op,ty,pos,af,none⟩::r) (dn L) M')):halt P n Q0 M K md r L T dst op ty pos af (XO P n md (kF P Q0 K) (⟨dst,op,ty,pos,af,none⟩::r) (dn L) M):=by
 unfold halt at h ⊢;repeat' (split at h)
 all_goals first
  | exact XO.mono hm h
  | exact fun a b c=>XO.mono hm (h a b c)
  | exact fun a b c d=>XO.mono hm (h a b c d)
def Sx(hm:∀ w,¬M w){K:List Fm}{md:Md}{r:List Oper}{L:SF}{T:IQ}{dst:Option Tmp}{ty:TypeId}{pos:String}{af:Array Edge} :halt P n Q0 M K md r L T dst op ty pos af (XO P n md (kF P Q0 K) (⟨dst,op,ty,pos,af,none⟩::r) (dn L) M):=by
 unfold halt;repeat' split
 all_goals first
  | exact fun a w _ hw=>absurd hw (hm w)
  | exact fun _ _ _ a w _ hw=>absurd hw (hm w)
  | exact fun _ _ _ _ a w _ hw=>absurd hw (hm w)
def oI[Tb P]{M':World->Prop}(hm:∀ w,M w->M' w):∀ (f:Nat) (K:List Fm) (s:St) (L:SF),gM P n Q0 M' f K s L->gM P n Q0 M f K s L
 | 0,K,.c x,L,h=>XC.mono hm h
 | 0,K,.o md l,L,h=>XO.mono hm h
 | 0,K,.e x,L,h=>XE.mono hm h
 | f+1,K,.c x,L,h=>by
  simp only[gM]at h ⊢;repeat' (split at h)
  all_goals first
   | exact XC.mono hm h
   | exact oI hm f _ _ _ h
 | f+1,K,.e x,L,h=>by
  simp only[gM]at h ⊢;repeat' (split at h)
  all_goals first
   | exact XE.mono hm h
   | exact oI hm f _ _ _ h
   | exact uC (fun L'=>oI hm f _ _ _) h
 | f+1,K,.o md l,L,h=>by
  simp only[gM]at h ⊢;repeat' (split at h)
  all_goals first
   | exact XO.mono hm h
   | exact oI hm f _ _ _ h
   | exact Ps hm h
   | exact h.imp (fun q=>⟨q.1,oI hm f _ _ _ q.2⟩) (XO.mono hm)
def xg[Tb P](hm:∀ w,¬M w):∀ (f:Nat) (K:List Fm) (s:St) (L:SF),gM P n Q0 M f K s L
 | 0,K,.c x,L=>fun a w _ hw=>absurd hw (hm w)
 | 0,K,.o md l,L=>fun a w _ hw=>absurd hw (hm w)
 | 0,K,.e x,L=>fun a w _ hw=>absurd hw (hm w)
 | f+1,K,.c x,L=>by
  simp only[gM];repeat' split
  all_goals first
   | exact xg hm f _ _ _
   | exact fun a w _ hw=>absurd hw (hm w)
 | f+1,K,.e x,L=>by
  simp only[gM];repeat' split
  all_goals first
   | exact xg hm f _ _ _
   | exact uD fun L'=>xg hm f _ _ _
   | exact fun a w _ hw=>absurd hw (hm w)
 | f+1,K,.o md l,L=>by
  simp only[gM];repeat' split
  all_goals first
   | exact xg hm f _ _ _
   | exact Sx hm
   | exact .inr fun a w _ hw=>absurd hw (hm w)
   | exact fun a w _ hw=>absurd hw (hm w)
def xh[Tb P]{φ:Prop}(hφ:∀ w,M w->φ){f:Nat}{K:List Fm}{s:St}{L:SF}(h:φ->gM P n Q0 M f K s L):gM P n Q0 M f K s L:=by
 by_cases c:∃ w,M w
 ·obtain⟨w,hw⟩:=c;exact h (hφ w hw)
 ·exact xg (fun w hw=>c ⟨w,hw⟩) f K s L
end
end Go.X
