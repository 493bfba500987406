import Derived.Test.YthdinakloheinaaGreatDoorXBits
set_option linter.all false
namespace Go.X
open Go
variable{s:ByteArray}{op:Op}{x y:Operand}
inductive SV where
 | int (k:IntKind) (z:Int)
 | str (s:ByteArray)
 | aA (b o i:Nat)
 | nil
 | err (T:TypeId) (e:Int)
 | ifc (T:TypeId) (v:Value)
 | pn
 | tt
 | ff
 | M2 (p:Prop) [inst:Decidable p]
 | bool (b:Bool)
 | slc (p:Option Addr) (n c:Nat)
 | un
 | val (v:Value)
def aJ:SV->Value
 | .int k z=>.int k z
 | .str s=>.string s
 | .aA b o i=>Go.X.aA b o i
 | .nil=>.nilIface
 | .err T e=>az T e
 | .ifc T v=>.iface T v
 | .pn=>.pointer none
 | .tt=>.bool true
 | .ff=>.bool false
 | @SV.M2 p i=>.bool (@decide p i)
 | .bool b=>.bool b
 | .slc p n c=>.slice p n c
 | .un=>undef
 | .val v=>v
def aG:List SV->List Value
 | []=>[]
 | s::r=>(aJ s)::aG r
inductive SW where
 | one (s:SV)
 | tup (l:List SV)
def aK:SW->Value
 | .one s=>(aJ s)
 | .tup l=>.tuple (aG l).toArray
abbrev SF:=List (Nat×SW)
def dn:SF->PF
 | []=>[]
 | (i,s)::r=>(i,(aK s))::dn r
def sk:SF->Nat->Option SW
 | [],_=>none
 | (i,s)::r,j=>match Nat.beq i j with
  | true=>some s
  | false=>sk r j
theorem Ai:∀ {L:SF} {j:Nat} {s:SW},sk L j=some s->lk (dn L) j=some (aK s)
 | [],_,_,h=>by simp[sk]at h
 | (i,t)::r,j,s,h=>by
  simp only[sk]at h;simp only[dn,lk];cases hb:Nat.beq i j with
  | true=>simp only[hb,Option.some.injEq]at h;subst h;rfl
  | false=>simp only[hb]at h;exact Ai h
def aR:Value->SV
 | .int k z=>.int k z
 | .string s=>.str s
 | .nilIface=>.nil
 | .pointer none=>.pn
 | .bool true=>.tt
 | .bool false=>.ff
 | .slice p n c=>.slc p n c
 | v=>.val v
def WB(v:Value):aJ (aR v)=v:=by
 unfold aR;split<;>rfl
def sv(L:SF):Operand->Option SW
 | .tmp t=>sk L t
 | .const v=>some (.one (aR v))
 | .global g=>some (.one (.val (.pointer (some ⟨g,0,none⟩))))
 | .func f=>some (.one (.val (.func (.func f) #[] #[])))
theorem cX{L:SF}{s:SW}(h:sv L x=some s):ev (dn L) x=some (aK s):=by
 cases x with
 | tmp t=>exact Ai h
 | const v=>simp only[sv,Option.some.injEq]at h;subst h;exact congrArg some (WB v).symm
 | global g=>simp only[sv,Option.some.injEq]at h;subst h;rfl
 | func f=>simp only[sv,Option.some.injEq]at h;subst h;rfl
inductive BT where
 | lf
 | nd (k:Nat) (vs:List Nat) (l r:BT)
def BT.nth:List Nat->Nat->Option Nat
 | [],_=>none
 | v::_,0=>some v
 | _::r,j+1=>BT.nth r j
def BT.get:BT->Nat->Option Nat
 | .lf,_=>none
 | .nd k vs l r,j=>match Nat.blt j k with
  | true=>l.get j
  | false=>match BT.nth vs (Nat.sub j k)with
   | some v=>some v
   | none=>r.get j
def BT.eM(f:Nat->Nat->Bool):Nat->List Nat->Bool
 | _,[]=>true
 | k,v::r=>f k v&&BT.eM f (k+1) r
def BT.all(f:Nat->Nat->Bool):BT->Bool
 | .lf=>true
 | .nd k vs l r=>BT.eM f k vs&&l.all f&&r.all f
def Aj{f:Nat->Nat->Bool} :∀ {vs:List Nat} {k i v:Nat},BT.eM f k vs=true->BT.nth vs i=some v->f (k+i) v=true
 | [],_,_,_,_,h=>by simp[BT.nth]at h
 | u::r,k,0,v,ha,h=>by
  simp only[BT.nth,Option.some.injEq]at h;subst h;simp only[BT.eM,Bool.and_eq_true]at ha;exact ha.1
 | u::r,k,i+1,v,ha,h=>by
  simp only[BT.nth]at h;simp only[BT.eM,Bool.and_eq_true]at ha;have:=Aj ha.2 h;rwa[Nat.add_right_comm]at this
def jd{f:Nat->Nat->Bool} :∀ {t:BT} {j v:Nat},t.all f=true->t.get j=some v->f j v=true
 | .lf,_,_,_,h=>by simp[BT.get]at h
 | .nd k vs l r,j,v,ha,h=>by
  simp only[BT.all,Bool.and_eq_true]at ha;simp only[BT.get]at h;cases hc:Nat.blt j k with
  | true=>simp only[hc]at h;exact jd ha.1.2 h
  | false=>
   simp only[hc]at h;cases hn:BT.nth vs (Nat.sub j k)with
   | none=>simp only[hn]at h;exact jd ha.2 h
   | some u=>
    simp only[hn,Option.some.injEq]at h;subst h;have h1:=Aj ha.1.1 hn;have h2:¬j<k:=fun q=>by rw[show Nat.blt j k=true from Nat.ble_eq_true_of_le q]at hc;cases hc
    rwa[show k+Nat.sub j k=j from by show k+(j-k)=j;omega]at h1
structure Il where
 fo:BT
 un:BT
 sz:BT
 an:BT
 as:BT
 sl:BT
 fn:BT
def sW(P:Program)(t c:Nat):Bool:=match P.underlying t with
 | some (.interface _)=>Nat.beq c 1
 | some (.pointer _)=>Nat.beq c 2
 | some .string=>Nat.beq c 3
 | some (.slice _)=>Nat.beq c 4
 | some .bool=>Nat.beq c 5
 | some (.struct _)=>Nat.beq c 7
 | some (.array _ _)=>Nat.beq c 7
 | some _=>Nat.beq c 6
 | none=>false
def Il.ok(P:Program)(t:Il):Bool:=t.fo.all (fun k v=>match eK P (k/64) (k%64)with
 | some u=>Nat.beq u v
 | none=>false)&&t.un.all (sW P)&&t.sz.all (fun k v=>match fb P k with
 | some u=>Nat.beq u v
 | none=>false)&&t.an.all (fun k v=>match vh P k with
 | some u=>Nat.beq u.1 v
 | none=>false)&&t.as.all (fun k v=>match vh P k with
 | some u=>Nat.beq u.2 v
 | none=>false)&&t.sl.all (fun k v=>match uj P k with
 | some u=>Nat.beq u.2 v
 | none=>false)&&t.fn.all fun k _=>c9 P k
class Tb (P:Program) where
 t:Il
 ok:t.ok P=true
def Tb.fo{P:Program}[h:Tb P]{s f k:Nat}(hf:f<64)(hk:h.t.fo.get (s*64+f)=some k):eK P s f=some k:=by
 have h1:=h.ok;simp only[Il.ok,Bool.and_eq_true]at h1;have h2:=jd h1.1.1.1.1.1.1 hk;rw[show(s*64+f)/64=s from og,show(s*64+f)%64=f from og]at h2;cases hx:eK P s f with
 | none=>simp[hx]at h2
 | some u=>simp only[hx]at h2;rw[Nat.eq_of_beq_eq_true h2]
theorem Tb.un{P:Program}[h:Tb P]{t c:Nat}(hk:h.t.un.get t=some c):sW P t c=true:=by
 have h1:=h.ok;simp only[Il.ok,Bool.and_eq_true]at h1;exact jd h1.1.1.1.1.1.2 hk
theorem Tb.sz{P:Program}[h:Tb P]{t c:Nat}(hk:h.t.sz.get t=some c):fb P t=some c:=by
 have h1:=h.ok;simp only[Il.ok,Bool.and_eq_true]at h1;have h2:=jd h1.1.1.1.1.2 hk;cases hx:fb P t with
 | none=>simp[hx]at h2
 | some u=>simp only[hx]at h2;rw[Nat.eq_of_beq_eq_true h2]
def Tb.ar{P:Program}[h:Tb P]{t c s:Nat}(hk:h.t.an.get t=some c)(hs:h.t.as.get t=some s):vh P t=some (c,s):=by
 have h1:=h.ok;simp only[Il.ok,Bool.and_eq_true]at h1;have h2:=jd h1.1.1.1.2 hk;have h3:=jd h1.1.1.2 hs;cases hx:vh P t with
 | none=>simp[hx]at h2
 | some u=>simp only[hx]at h2 h3;rw[<-Nat.eq_of_beq_eq_true h2,<-Nat.eq_of_beq_eq_true h3]
def Tb.sl{P:Program}[h:Tb P]{t c:Nat}(hk:h.t.sl.get t=some c):∃ e,uj P t=some (e,c):=by
 have h1:=h.ok;simp only[Il.ok,Bool.and_eq_true]at h1;have h2:=jd h1.1.2 hk;cases hx:uj P t with
 | none=>simp[hx]at h2
 | some u=>simp only[hx]at h2;exact⟨u.1,by rw[<-Nat.eq_of_beq_eq_true h2]⟩
def Tb.fn{P:Program}[h:Tb P]{t c:Nat}(hk:h.t.fn.get t=some c):c9 P t=true:=by
 have h1:=h.ok;simp only[Il.ok,Bool.and_eq_true]at h1;exact jd h1.2 hk
def WC{P:Program}{t c:Nat}(h:sW P t c=true)(hc:Nat.blt c 7=true):jD P t=true:=by
 unfold sW at h;unfold jD;split at h<;>first | (rename_i e;rw[e];done) | skip
 all_goals first | (have:=Nat.eq_of_beq_eq_true h;subst this;simp at hc;done) | skip
 all_goals first | (rename_i e;rw[e];split<;>simp_all;done) | (simp_all;done)
def K8{P:Program}{t:Nat}(h:sW P t 7=true):ny P t=true:=by
 unfold sW at h;unfold ny;split at h<;>first | (rename_i e;rw[e];done) | (simp at h;done)
def un1{P:Program}{t:Nat}(h:sW P t 1=true):∃ ms,P.underlying t=some (.interface ms):=by
 unfold sW at h;split at h<;>first | exact⟨_,aq⟩ | cases h
def un2{P:Program}{t:Nat}(h:sW P t 2=true):∃ e,P.underlying t=some (.pointer e):=by
 unfold sW at h;split at h<;>first | exact⟨_,aq⟩ | cases h
def un3{P:Program}{t:Nat}(h:sW P t 3=true):P.underlying t=some .string:=by
 unfold sW at h;split at h<;>first | assumption | cases h
def un4{P:Program}{t:Nat}(h:sW P t 4=true):∃ e,P.underlying t=some (.slice e):=by
 unfold sW at h;split at h<;>first | exact⟨_,aq⟩ | cases h
def unV{P:Program}{t c:Nat}(h:sW P t c=true)(hc:Nat.beq c 1=false):∃ ds,P.underlying t=some ds/\∀ ms,ds≠ .interface ms:=by
 cases hu:P.underlying t with
 | none=>simp[sW,hu]at h
 | some ds=>
  refine⟨ds,rfl,fun ms e=> ?_⟩;subst e;simp only[sW,hu]at h;rw[hc]at h;cases h
def RX:List SV->Nat->Option SW
 | [],_=>none
 | s::_,0=>some (.one s)
 | _::r,k+1=>RX r k
def Im:∀ {l:List SV} {k:Nat} {s:SW},RX l k=some s->KY (aG l) k=some (aK s)
 | [],_,_,h=>by simp[RX]at h
 | _::_,0,_,h=>by simp only[RX,Option.some.injEq]at h;subst h;rfl
 | _::r,k+1,_,h=>Im (l:=r) h
def ad4(a b:Int):BinOp->Option SW
 | .eql=>some (.one (.M2 (a=b)))
 | .neq=>some (.one (.M2 (a≠b)))
 | .lss=>some (.one (.M2 (a<b)))
 | .leq=>some (.one (.M2 (a<=b)))
 | .gtr=>some (.one (.M2 (a>b)))
 | .geq=>some (.one (.M2 (a>=b)))
 | _=>none
def ad5(a b:ByteArray):BinOp->Option SW
 | .eql=>some (.one (.M2 (a=b)))
 | .neq=>some (.one (.M2 (a≠b)))
 | .lss=>some (.one (.bool (Op.bytesLess a.toList b.toList)))
 | _=>none
def Ea(T:Il)(t c:Nat)(r:SV)(r':SV):BinOp->Option SW
 | .eql=>match T.un.get t with
  | some d=>match Nat.beq d c with
   | true=>some (.one r)
   | false=>none
  | none=>none
 | .neq=>match T.un.get t with
  | some d=>match Nat.beq d c with
   | true=>some (.one r')
   | false=>none
  | none=>none
 | _=>none
def yV:Operand->Bool
 | .const .nilIface=>true
 | _=>false
def M3:Operand->Bool
 | .const (.pointer none)=>true
 | _=>false
def RY(T:Il)(L:SF)(op:BinOp)(t:TypeId)(x y:Operand):Option SW:=match sv L x with
 | some (.one (.int k a))=>match sv L y with
  | some (.one (.int k' b))=>match decEq k k' with
   | .isTrue _=>ad4 a b op
   | .isFalse _=>none
  | _=>none
 | some (.one (.str a))=>match sv L y with
  | some (.one (.str b))=>ad5 a b op
  | _=>none
 | some (.one (.err _ e))=>match yV y with
  | true=>Ea T t 1 (.M2 (e=0)) (.M2 (e≠0)) op
  | false=>none
 | some (.one .nil)=>match yV y with
  | true=>Ea T t 1 .tt .ff op
  | false=>none
 | some (.one (.ifc _ _))=>match yV y with
  | true=>Ea T t 1 .ff .tt op
  | false=>none
 | some (.one (.aA _ _ _))=>match M3 y with
  | true=>Ea T t 2 .ff .tt op
  | false=>none
 | some (.one .pn)=>match M3 y with
  | true=>Ea T t 2 .tt .ff op
  | false=>none
 | _=>none
def RZ(T:Il)(L:SF)(b:Builtin)(xs:Array Operand)(ts:Array TypeId):Option SW:=match b with
 | .len=>match xs.toList with
  | [x]=>match ts.toList with
   | [t]=>match T.un.get t with
    | some c=>match sv L x with
     | some (.one (.str s))=>match Nat.beq c 3 with
      | true=>some (.one (.int .i64 s.size))
      | false=>none
     | some (.one (.slc _ n _))=>match Nat.beq c 4 with
      | true=>some (.one (.int .i64 n))
      | false=>none
     | _=>none
    | none=>none
   | _=>none
  | _=>none
 | .min=>match xs.toList with
  | [x,y]=>match ts.toList with
   | [_,_]=>match sv L x with
    | some (.one (.int k a))=>match sv L y with
     | some (.one (.int k' b))=>match decEq k k' with
      | .isTrue _=>some (.one (.int k (min a b)))
      | .isFalse _=>none
     | _=>none
    | _=>none
   | _=>none
  | _=>none
 | .max=>match xs.toList with
  | [x,y]=>match ts.toList with
   | [_,_]=>match sv L x with
    | some (.one (.int k a))=>match sv L y with
     | some (.one (.int k' b))=>match decEq k k' with
      | .isTrue _=>some (.one (.int k (max a b)))
      | .isFalse _=>none
     | _=>none
    | _=>none
   | _=>none
  | _=>none
 | _=>none
def Zr:SW->Option SW
 | .one .tt=>some (.one .ff)
 | .one .ff=>some (.one .tt)
 | .one (@SV.M2 p _)=>some (.one (.M2 (¬p)))
 | .one (.bool b)=>some (.one (.bool (!b)))
 | _=>none
def Zs(u v:SW):SW->Option SW
 | .one .tt=>some u
 | .one .ff=>some v
 | _=>none
def R1(T:Il)(L:SF):Op->Option SW
 | .move x=>sv L x
 | .assign x=>sv L x
 | .pick c x y=>match sv L x with
  | some u=>match sv L y with
   | some v=>match sv L c with
    | some t=>Zs u v t
    | none=>none
   | none=>none
  | none=>none
 | .nilCheck x=>match sv L x with
  | some (.one (.aA b o i))=>some (.one (.aA b o i))
  | _=>none
 | .extract x k=>match sv L x with
  | some (.tup l)=>RX l k
  | _=>none
 | .fieldAddr s x f=>match sv L x with
  | some (.one (.aA b o i))=>match Nat.blt f 64 with
   | true=>match T.fo.get (s*64+f)with
    | some k=>some (.one (.aA b o (i+k)))
    | none=>none
   | false=>none
  | _=>none
 | .binOp op t x y _=>RY T L op t x y
 | .unOp op _ x=>match op with
  | .not=>match sv L x with
   | some s=>Zr s
   | none=>none
  | _=>none
 | .makeInterface t x=>match sv L x with
  | some (.one s)=>match T.un.get t with
   | some c=>match Nat.beq c 1 with
    | true=>none
    | false=>some (.one (.ifc t (aJ s)))
   | none=>none
  | _=>none
 | .call c=>match c with
  | ⟨.builtin b,xs,ts⟩=>RZ T L b xs ts
  | _=>none
 | _=>none
def aaw(s:ByteArray):Option SW->Option SW->Option (Prop×SW)
 | some (.one (.int _ z)),some (.one (.int _ z'))=>some (0<=z/\z<=z'/\z'<=s.size,.one (.str (s.extract z.toNat z'.toNat)))
 | _,_=>none
def aax(s:ByteArray):Option SW->Option (Prop×SW)
 | some (.one (.int _ z))=>some (0<=z/\z<=s.size,.one (.str (s.extract z.toNat s.size)))
 | _=>none
def aay(s:ByteArray):Option SW->Option (Prop×SW)
 | some (.one (.int _ z))=>some (0<=z/\z<=s.size,.one (.str (s.extract 0 z.toNat)))
 | _=>none
def arI(a b:Int):BinOp->Option (Prop×SW)
 | .add=>some (-9223372036854775808<=a+b/\a+b<=9223372036854775807,.one (.int .i64 (a+b)))
 | .sub=>some (-9223372036854775808<=a-b/\a-b<=9223372036854775807,.one (.int .i64 (a-b)))
 | .mul=>some (-9223372036854775808<=a*b/\a*b<=9223372036854775807,.one (.int .i64 (a*b)))
 | _=>none
def R2(T:Il)(L:SF):Op->Option (Prop×SW)
 | .binOp op _ x y _=>match sv L x with
  | some (.one (.int .i64 a))=>match sv L y with
   | some (.one (.int .i64 b))=>arI a b op
   | _=>none
  | some (.one (.str a))=>match sv L y with
   | some (.one (.str b))=>match op with
    | .add=>some (a.size+b.size<=9223372036854775807,.one (.str (a++b)))
    | _=>none
   | _=>none
  | _=>none
 | .unOp op _ x=>match op with
  | .neg=>match sv L x with
   | some (.one (.int .i64 a))=>some (-9223372036854775808<=0-a/\0-a<=9223372036854775807,.one (.int .i64 (0-a)))
   | _=>none
  | _=>none
 | .indexAddr t x y=>match sv L y with
  | some (.one (.int _ z))=>match sv L x with
   | some (.one (.aA b o i))=>match T.an.get t with
    | some m=>match T.as.get t with
     | some s=>some (0<=z/\z<m,.one (.aA b o (i+z.toNat*s)))
     | none=>none
    | none=>none
   | some (.one (.slc (some ⟨b,o,none⟩) n _))=>match T.sl.get t with
    | some s=>some (0<=z/\z<n,.one (.aA b o (0+z.toNat*s)))
    | none=>none
   | _=>none
  | _=>none
 | .slice t x lo hi mx=>match mx with
  | none=>match T.un.get t with
   | some c=>match Nat.beq c 3 with
    | true=>match sv L x with
     | some (.one (.str s))=>match lo with
      | none=>match hi with
       | none=>none
       | some y=>aay s (sv L y)
      | some y=>match hi with
       | none=>aax s (sv L y)
       | some u=>aaw s (sv L y) (sv L u)
     | _=>none
    | false=>none
   | none=>none
  | some _=>none
 | _=>none
def svs(L:SF):List Operand->Option (List SW)
 | []=>some []
 | x::r=>match sv L x with
  | some s=>match svs L r with
   | some l=>some (s::l)
   | none=>none
  | none=>none
def M4:List SW->List Value
 | []=>[]
 | s::r=>(aK s)::M4 r
theorem M5{L:SF} :∀ {xs:List Operand} {l:List SW},svs L xs=some l->OK (dn L) xs=some (M4 l)
 | [],l,h=>by simp only[svs,Option.some.injEq]at h;subst h;rfl
 | x::r,l,h=>by
  simp only[svs]at h;split at h
  ·rename_i s hx;split at h
   ·rename_i l' hr;simp only[Option.some.injEq]at h;subst h;simp only[OK,cX hx,M5 hr,M4]
   ·cases h
  ·cases h
section
variable {P:Program} {n:Fr} {L:SF} {ty:TypeId} {pos:String} {af:Array Edge} {d:Nat} {gd:Option (Nat×Bool)} {φ:World->Prop}
theorem qp{a b:Nat}(h:Nat.beq a b=true):a=b:=Nat.eq_of_beq_eq_true h
def R3[h:Tb P]{op:BinOp}{t t':TypeId}{s:SW}(hs:RY h.t L op t x y=some s):aZ P n (dn L) φ ⟨some d,.binOp op t x y t',ty,pos,af,gd⟩ (aK s):=by
 unfold RY at hs;split at hs
 ·rename_i k a hx;split at hs
  ·rename_i k' b hy;split at hs
   ·rename_i hk _;subst hk;cases op<;>simp only[ad4,Option.some.injEq]at hs<;>first | cases hs;done | (subst hs;exact Ru (cX hx) (cX hy) rfl)
   ·cases hs
  ·cases hs
 ·rename_i a hx;split at hs
  ·rename_i b hy;cases op<;>simp only[ad5,Option.some.injEq]at hs<;>first | cases hs;done | (subst hs;exact Rz (cX hx) (cX hy) rfl)
  ·cases hs
 ·rename_i T e hx;split at hs
  ·rename_i hn;have hy:y= .const .nilIface:=by unfold yV at hn;split at hn<;>first | rfl | cases hn
   subst hy;cases op<;>simp only[Ea]at hs<;>first | cases hs;done | (split at hs<;>first | cases hs;done | (split at hs<;>first | cases hs;done | (
    rename_i hg _ hb
    obtain⟨ms,hu⟩:=un1 (by rw[<-qp hb];exact Tb.un hg)
    simp only[Option.some.injEq]at hs
    subst hs
    exact RD (cX hx) hu rfl)))
  ·cases hs
 ·rename_i hx;split at hs
  ·rename_i hn;have hy:y= .const .nilIface:=by unfold yV at hn;split at hn<;>first | rfl | cases hn
   subst hy;cases op<;>simp only[Ea]at hs<;>first | cases hs;done | (split at hs<;>first | cases hs;done | (split at hs<;>first | cases hs;done | (
    rename_i hg _ hb
    obtain⟨ms,hu⟩:=un1 (by rw[<-qp hb];exact Tb.un hg)
    simp only[Option.some.injEq]at hs
    subst hs
    exact H7 (cX hx) hu rfl)))
  ·cases hs
 ·rename_i T v hx;split at hs
  ·rename_i hn;have hy:y= .const .nilIface:=by unfold yV at hn;split at hn<;>first | rfl | cases hn
   subst hy;cases op<;>simp only[Ea]at hs<;>first | cases hs;done | (split at hs<;>first | cases hs;done | (split at hs<;>first | cases hs;done | (
    rename_i hg _ hb
    obtain⟨ms,hu⟩:=un1 (by rw[<-qp hb];exact Tb.un hg)
    simp only[Option.some.injEq]at hs
    subst hs
    exact BM (cX hx) hu rfl)))
  ·cases hs
 ·rename_i b o i hx;split at hs
  ·rename_i hn;have hy:y= .const (.pointer none):=by unfold M3 at hn;split at hn<;>first | rfl | cases hn
   subst hy;cases op<;>simp only[Ea]at hs<;>first | cases hs;done | (split at hs<;>first | cases hs;done | (split at hs<;>first | cases hs;done | (
    rename_i hg _ hb
    obtain⟨ms,hu⟩:=un2 (by rw[<-qp hb];exact Tb.un hg)
    simp only[Option.some.injEq]at hs
    subst hs
    exact ON (cX hx) hu rfl)))
  ·cases hs
 ·rename_i hx;split at hs
  ·rename_i hn;have hy:y= .const (.pointer none):=by unfold M3 at hn;split at hn<;>first | rfl | cases hn
   subst hy;cases op<;>simp only[Ea]at hs<;>first | cases hs;done | (split at hs<;>first | cases hs;done | (split at hs<;>first | cases hs;done | (
    rename_i hg _ hb
    obtain⟨ms,hu⟩:=un2 (by rw[<-qp hb];exact Tb.un hg)
    simp only[Option.some.injEq]at hs
    subst hs
    exact OO (cX hx) hu rfl)))
  ·cases hs
 ·cases hs
theorem Io{α:Type}{xs:Array α}{l:List α}(h:xs.toList=l):xs=l.toArray:=by rw[<-h]
def R4[h:Tb P]{b:Builtin}{xs:Array Operand}{ts:Array TypeId}{s:SW}(hs:RZ h.t L b xs ts=some s):aZ P n (dn L) φ ⟨some d,.call ⟨.builtin b,xs,ts⟩,ty,pos,af,gd⟩ (aK s)/\cI (.call ⟨.builtin b,xs,ts⟩)=false:=by
 unfold RZ at hs;split at hs
 ·refine⟨?_,rfl⟩;split at hs
  ·rename_i x M6;split at hs
   ·rename_i t hts;split at hs
    ·rename_i c hc;split at hs
     ·rename_i a hx;split at hs
      ·rename_i hb;simp only[Option.some.injEq]at hs;subst hs;rw[Io M6,Io hts];exact Ry (cX hx) (un3 (by rw[<-qp hb];exact Tb.un hc))
      ·cases hs
     ·rename_i p k c2 hx;split at hs
      ·rename_i hb;simp only[Option.some.injEq]at hs;subst hs;rw[Io M6,Io hts];obtain⟨e,hu⟩:=un4 (by rw[<-qp hb];exact Tb.un hc);exact Wp (cX hx) hu
      ·cases hs
     ·cases hs
    ·cases hs
   ·cases hs
  ·cases hs
 ·refine⟨?_,rfl⟩;split at hs
  ·rename_i x y M6;split at hs
   ·rename_i t1 t2 hts;split at hs
    ·rename_i k a hx;split at hs
     ·rename_i k' b hy;split at hs
      ·rename_i hk _;subst hk;simp only[Option.some.injEq]at hs;subst hs;rw[Io M6,Io hts];exact V.min2 (cX hx) (cX hy)
      ·cases hs
     ·cases hs
    ·cases hs
   ·cases hs
  ·cases hs
 ·refine⟨?_,rfl⟩;split at hs
  ·rename_i x y M6;split at hs
   ·rename_i t1 t2 hts;split at hs
    ·rename_i k a hx;split at hs
     ·rename_i k' b hy;split at hs
      ·rename_i hk _;subst hk;simp only[Option.some.injEq]at hs;subst hs;rw[Io M6,Io hts];exact V.max2 (cX hx) (cX hy)
      ·cases hs
     ·cases hs
    ·cases hs
   ·cases hs
  ·cases hs
 ·cases hs
def R5[h:Tb P]{s:SW}(hs:R1 h.t L op=some s):aZ P n (dn L) φ ⟨some d,op,ty,pos,af,gd⟩ (aK s)/\cI op=false:=by
 unfold R1 at hs;split at hs
 ·exact⟨V.move (cX hs),rfl⟩
 ·exact⟨V.assign (cX hs),rfl⟩
 ·refine⟨?_,rfl⟩;split at hs
  ·rename_i u hx;split at hs
   ·rename_i v hy;split at hs
    ·rename_i t hc;unfold Zs at hs;split at hs
     ·simp only[Option.some.injEq]at hs;subst hs;exact V.pick (t:=true) (cX hc) (cX hx) (cX hy) rfl
     ·simp only[Option.some.injEq]at hs;subst hs;exact V.pick (t:=false) (cX hc) (cX hx) (cX hy) rfl
     ·cases hs
    ·cases hs
   ·cases hs
  ·cases hs
 ·refine⟨?_,rfl⟩;split at hs
  ·rename_i b o i hx;simp only[Option.some.injEq]at hs;subst hs;exact bD (cX hx)
  ·cases hs
 ·refine⟨?_,rfl⟩;split at hs
  ·rename_i l hx;exact V.extract (cX hx) (by simpa using Im hs)
  ·cases hs
 ·refine⟨?_,rfl⟩;split at hs
  ·rename_i b o i hx;split at hs
   ·rename_i hf;split at hs
    ·rename_i k hk;simp only[Option.some.injEq]at hs;subst hs;exact V.fieldAddr (cX hx) (Tb.fo (by simpa using hf) hk)
    ·cases hs
   ·cases hs
  ·cases hs
 ·exact⟨R3 hs,rfl⟩
 ·refine⟨?_,rfl⟩;split at hs
  ·split at hs
   ·rename_i t hx;unfold Zr at hs;split at hs
    ·simp only[Option.some.injEq]at hs;subst hs;exact V.not (b:=true) (cX hx)
    ·simp only[Option.some.injEq]at hs;subst hs;exact V.not (b:=false) (cX hx)
    ·simp only[Option.some.injEq]at hs;subst hs;exact aam (cX hx)
    ·simp only[Option.some.injEq]at hs;subst hs;exact V.not (cX hx)
    ·cases hs
   ·cases hs
  ·cases hs
 ·refine⟨?_,rfl⟩;split at hs
  ·rename_i u hx;split at hs
   ·rename_i c hc;split at hs
    ·cases hs
    ·rename_i hb;simp only[Option.some.injEq]at hs;subst hs;obtain⟨ds,hu,hn⟩:=unV (Tb.un hc) hb;exact Ag (cX hx) hu hn
   ·cases hs
  ·cases hs
 ·split at hs
  ·exact R4 hs
  ·cases hs
 ·cases hs
def WD{u:Operand}{t:TypeId}{q:Prop}{v:SW}(ht:P.underlying t=some .string)(hx:ev (dn L) x=some (.string s))(h:aaw s (sv L y) (sv L u)=some (q,v))(hq:q):aZ P n (dn L) φ ⟨some d,.slice t x (some y) (some u) none,ty,pos,af,gd⟩ (aK v):=by
 unfold aaw at h;split at h
 ·rename_i k z k' z' hy hu;simp only[Option.some.injEq,Prod.mk.injEq]at h;obtain⟨rfl,rfl⟩:=h;exact RC hx (cX hy) (cX hu) ht hq
 ·cases h
def WE{t:TypeId}{q:Prop}{v:SW}(ht:P.underlying t=some .string)(hx:ev (dn L) x=some (.string s))(h:aax s (sv L y)=some (q,v))(hq:q):aZ P n (dn L) φ ⟨some d,.slice t x (some y) none none,ty,pos,af,gd⟩ (aK v):=by
 unfold aax at h;split at h
 ·rename_i k z hy;simp only[Option.some.injEq,Prod.mk.injEq]at h;obtain⟨rfl,rfl⟩:=h;exact H6 hx (cX hy) ht hq
 ·cases h
def WG{t:TypeId}{q:Prop}{v:SW}(ht:P.underlying t=some .string)(hx:ev (dn L) x=some (.string s))(h:aay s (sv L y)=some (q,v))(hq:q):aZ P n (dn L) φ ⟨some d,.slice t x none (some y) none,ty,pos,af,gd⟩ (aK v):=by
 unfold aay at h;split at h
 ·rename_i k z hy;simp only[Option.some.injEq,Prod.mk.injEq]at h;obtain⟨rfl,rfl⟩:=h;exact OM hx (cX hy) ht hq
 ·cases h
def R6[h:Tb P]{q:Prop}{v:SW}(hs:R2 h.t L op=some (q,v))(hq:q):aZ P n (dn L) φ ⟨some d,op,ty,pos,af,gd⟩ (aK v)/\cI op=false:=by
 unfold R2 at hs;split at hs
 ·refine⟨?_,rfl⟩;split at hs
  ·rename_i a hx;split at hs
   ·rename_i b hy;unfold arI at hs;split at hs
    ·simp only[Option.some.injEq,Prod.mk.injEq]at hs;obtain⟨rfl,rfl⟩:=hs;exact V.add (cX hx) (cX hy) _ (IntWalk.i64_in _ hq)
    ·simp only[Option.some.injEq,Prod.mk.injEq]at hs;obtain⟨rfl,rfl⟩:=hs;exact V.sub (cX hx) (cX hy) _ (IntWalk.i64_in _ hq)
    ·simp only[Option.some.injEq,Prod.mk.injEq]at hs;obtain⟨rfl,rfl⟩:=hs;exact V.mul (cX hx) (cX hy) _ (IntWalk.i64_in _ hq)
    ·cases hs
   ·cases hs
  ·rename_i a hx;split at hs
   ·rename_i b hy;split at hs
    ·simp only[Option.some.injEq,Prod.mk.injEq]at hs;obtain⟨rfl,rfl⟩:=hs;exact RA (cX hx) (cX hy) hq
    ·cases hs
   ·cases hs
  ·cases hs
 ·refine⟨?_,rfl⟩;split at hs
  ·split at hs
   ·rename_i a hx;simp only[Option.some.injEq,Prod.mk.injEq]at hs;obtain⟨rfl,rfl⟩:=hs;exact V.neg (cX hx) _ (IntWalk.i64_in _ hq)
   ·cases hs
  ·cases hs
 ·refine⟨?_,rfl⟩;split at hs
  ·rename_i k z hy;split at hs
   ·rename_i b o i hx;split at hs
    ·rename_i m hm;split at hs
     ·rename_i s hs';simp only[Option.some.injEq,Prod.mk.injEq]at hs;obtain⟨rfl,rfl⟩:=hs;exact ja (cX hx) (cX hy) (Tb.ar hm hs') hq
     ·cases hs
    ·cases hs
   ·rename_i b o m c hx;split at hs
    ·rename_i s hs';simp only[Option.some.injEq,Prod.mk.injEq]at hs;obtain⟨rfl,rfl⟩:=hs;obtain⟨e,he⟩:=Tb.sl hs';exact EP (cX hx) (cX hy) he hq
    ·cases hs
   ·cases hs
  ·cases hs
 ·refine⟨?_,rfl⟩;split at hs
  ·split at hs
   ·rename_i c hc;split at hs
    ·rename_i hb;have ht:=un3 (P:=P) (by rw[<-qp hb];exact Tb.un hc);split at hs
     ·rename_i s hx;split at hs
      ·split at hs
       ·cases hs
       ·exact WG ht (cX hx) hs hq
      ·split at hs
       ·exact WE ht (cX hx) hs hq
       ·exact WD ht (cX hx) hs hq
     ·cases hs
    ·cases hs
   ·cases hs
  ·cases hs
 ·cases hs
end
inductive Fm where
 | sq (c:Code)
 | blk (i:Nat)
 | th (T:Act->World->Prop)
def kI(P:Program)(Q0:Exit->Act->World->Prop):List Fm->Exit->Act->World->Prop
 | []=>Q0
 | .sq y::K=>Exit.then (y.wp P (kI P Q0 K)) (kI P Q0 K)
 | .blk i::K=>Exit.inBlock i (kI P Q0 K)
 | .th T::K=>Exit.then T (kI P Q0 K)
inductive St where
 | c (x:Code)
 | o (md:Md) (l:List Oper)
 | e (x:Exit)
def aaA:Nat->List Nat->Bool
 | _,[]=>false
 | i,j::r=>match Nat.beq i j with
  | true=>true
  | false=>aaA i r
def sX(ps:List Nat):SF->SF->(SF->Prop)->Prop
 | [],jL,k=>k jL
 | (i,s)::r,jL,k=>match aaA i ps with
  | true=>match sk jL i with
   | some _=>sX ps r jL k
   | none=>sX ps r ((i,s)::jL) k
  | false=>sX ps r jL k
def Ip:List Oper->Nat->Option Nat
 | [],_=>none
 | o::_,0=>o.dst
 | _::r,k+1=>Ip r k
def Iq:∀ {l:List Oper} {j d:Nat},Ip l j=some d->(l[j]?).bind (·.dst)=some d
 | [],_,_,h=>by simp[Ip]at h
 | _::_,0,_,h=>by simpa [Ip]using h
 | _::r,k+1,_,h=>by simpa using Iq (l:=r) h
def BX:Code->Nat
 | .region i _ _=>i
 | .seq a _=>BX a
 | .block _ c=>BX c
 | .loop c=>BX c
 | .cond _ a _=>BX a
 | _=>0
def ad7:Code->Nat
 | .region _ _ _=>0
 | .seq _ _=>1
 | .cond _ _ _=>2
 | .block _ _=>3
 | .loop _=>4
 | _=>5
def aaB(i k:Nat):List (Nat×Nat)->Bool
 | []=>false
 | (j,l)::r=>match Nat.beq i j with
  | true=>match Nat.beq k l with
   | true=>true
   | false=>aaB i k r
  | false=>aaB i k r
def Sd(q R X:Prop):Prop:=(q/\R)\/X
section
variable (P:Program) (n:Fr) (Q0:Exit->Act->World->Prop) (M:World->Prop) (K:List Fm) (md:Md) (r:List Oper) (L:SF)
def LdG(t:TypeId)(d:Nat)(x:Operand)(ty:TypeId)(pos:String)(af:Array Edge)(b o i:Nat):Prop:=
 ev (dn L) x=some (aA b o i)->jD P t=true->Nat.blt d n.sz=true->XO P n md (kI P Q0 K) (⟨some d,.load t x,ty,pos,af,none⟩::r) (dn L) M
def LdA(t:TypeId)(d:Nat)(x:Operand)(ty:TypeId)(pos:String)(af:Array Edge)(b o i k:Nat):Prop:=
 ev (dn L) x=some (aA b o i)->ny P t=true->fb P t=some k->Nat.blt d n.sz=true->XO P n md (kI P Q0 K) (⟨some d,.load t x,ty,pos,af,none⟩::r) (dn L) M
def StG(t:TypeId)(x y:Operand)(ty:TypeId)(pos:String)(af:Array Edge)(b o i k:Nat)(s:SV):Prop:=
 ev (dn L) x=some (aA b o i)->ev (dn L) y=some (aJ s)->fb P t=some k->XO P n md (kI P Q0 K) (⟨none,.store t x y,ty,pos,af,none⟩::r) (dn L) M
def CaG(d:Nat)(f:FuncId)(xs:List Operand)(oc:Array TypeId)(ty:TypeId)(pos:String)(af:Array Edge)(vs:List Value):Prop:=
 OK (dn L) xs=some vs->c9 P f=true->Nat.blt d n.sz=true->XO P n md (kI P Q0 K) (⟨some d,.call ⟨.value (.func f),xs.toArray,oc⟩,ty,pos,af,none⟩::r) (dn L) M
def halt(T:Il)(dst:Option Tmp)(op:Op)(ty:TypeId)(pos:String)(af:Array Edge)(ho:Prop):Prop:=match op with
   | .load t x=>match dst with
    | some d=>match sv L x with
     | some (.one (.aA b o i))=>match T.un.get t with
      | some c=>match Nat.blt c 7 with
       | true=>LdG P n Q0 M K md r L t d x ty pos af b o i
       | false=>match Nat.beq c 7 with
        | true=>match T.sz.get t with
         | some k=>LdA P n Q0 M K md r L t d x ty pos af b o i k
         | none=>ho
        | false=>ho
      | none=>ho
     | _=>ho
    | none=>ho
   | .store t x y=>match dst with
    | none=>match sv L x with
     | some (.one (.aA b o i))=>match sv L y with
      | some (.one s)=>match T.sz.get t with
       | some k=>StG P n Q0 M K md r L t x y ty pos af b o i k s
       | none=>ho
      | _=>ho
     | _=>ho
    | some _=>ho
   | .call c=>match c with
    | ⟨.value (.func f),xs,oc⟩=>match dst with
     | some d=>match T.fn.get f with
      | some _=>match svs L xs.toList with
       | some l=>CaG P n Q0 M K md r L d f xs.toList oc ty pos af (M4 l)
       | none=>ho
      | none=>ho
     | none=>ho
    | _=>ho
   | _=>ho
end
def M7{P:Program}[h:Tb P]{n:Fr}{Q0:Exit->Act->World->Prop}{M:World->Prop}{K:List Fm}{md:Md}{r:List Oper}{L:SF}{dst:Option Tmp}{ty:TypeId}{pos:String}{af:Array Edge}(hd:∀ d,dst=some d->Nat.blt d n.sz=true)(hh:halt P n Q0 M K md r L h.t dst op ty pos af (XO P n md (kI P Q0 K) (⟨dst,op,ty,pos,af,none⟩::r) (dn L) M)):XO P n md (kI P Q0 K) (⟨dst,op,ty,pos,af,none⟩::r) (dn L) M:=by
 unfold halt at hh
 ·split at hh
  ·split at hh
   ·split at hh
    ·rename_i hx;split at hh
     ·rename_i hc;split at hh
      ·rename_i hb;exact hh (cX hx) (WC (Tb.un hc) hb) (hd _ rfl)
      ·split at hh
       ·rename_i hb;split at hh
        ·rename_i hk;exact hh (cX hx) (K8 (by rw[<-qp hb];exact Tb.un hc)) (Tb.sz hk) (hd _ rfl)
        ·exact hh
       ·exact hh
     ·exact hh
    ·exact hh
   ·exact hh
  ·split at hh
   ·split at hh
    ·rename_i hx;split at hh
     ·rename_i hy;split at hh
      ·rename_i hk;exact hh (cX hx) (cX hy) (Tb.sz hk)
      ·exact hh
     ·exact hh
    ·exact hh
   ·exact hh
  ·split at hh
   ·split at hh
    ·split at hh
     ·rename_i hf;split at hh
      ·rename_i hl;exact hh (M5 hl) (Tb.fn hf) (hd _ rfl)
      ·exact hh
     ·exact hh
    ·exact hh
   ·exact hh
  ·exact hh
section
variable (P:Program) (n:Fr) (Q0:Exit->Act->World->Prop) (M:World->Prop)
def gD[h:Tb P]:Nat->List Fm->St->SF->Prop
 | 0,K,.c x,L=>XC P n x (kI P Q0 K) (dn L) M
 | 0,K,.o md l,L=>XO P n md (kI P Q0 K) l (dn L) M
 | 0,K,.e x,L=>XE n (kI P Q0 K) x (dn L) M
 | f+1,K,.c x,L=>match x with
  | .seq a b=>match n.cs with
   | []=>gD f (.sq b::K) (.c a) L
   | c::cs=>match aaB (BX a) (ad7 a) (c::cs)with
    | true=>XC P n (.seq a b) (kI P Q0 K) (dn L) M
    | false=>gD f (.sq b::K) (.c a) L
  | .skip=>gD f K (.e .normal) L
  | .ret=>gD f K (.e .ret) L
  | .exit i=>gD f K (.e (.exit i)) L
  | .block i c=>gD f (.blk i::K) (.c c) L
  | .region i ops dr=>match dr with
   | false=>gD f K (.o (.cl ops) ops.toList) L
   | true=>XC P n (.region i ops true) (kI P Q0 K) (dn L) M
  | .cond c a b=>match sv L c with
   | some (.one .tt)=>gD f K (.c a) L
   | some (.one .ff)=>gD f K (.c b) L
   | _=>XC P n (.cond c a b) (kI P Q0 K) (dn L) M
  | y=>XC P n y (kI P Q0 K) (dn L) M
 | f+1,K,.e x,L=>match K with
  | []=>XE n Q0 x (dn L) M
  | .sq y::K'=>match x with
   | .normal=>sX n.ps L [] fun L'=>gD f K' (.c y) L'
   | .ret=>gD f K' (.e .ret) L
   | .exit i=>gD f K' (.e (.exit i)) L
   | x=>XE n (kI P Q0 (.sq y::K')) x (dn L) M
  | .blk i::K'=>match x with
   | .normal=>gD f K' (.e .normal) L
   | .ret=>gD f K' (.e .ret) L
   | .exit j=>match Nat.beq j i with
    | true=>gD f K' (.e .normal) L
    | false=>gD f K' (.e (.exit j)) L
   | x=>XE n (kI P Q0 (.blk i::K')) x (dn L) M
  | .th T::K'=>match x with
   | .ret=>gD f K' (.e .ret) L
   | .exit i=>gD f K' (.e (.exit i)) L
   | x=>XE n (kI P Q0 (.th T::K')) x (dn L) M
 | f+1,K,.o md l,L=>match l with
  | []=>gD f K (.e .normal) L
  | ⟨dst,op,ty,pos,af,gd⟩::r=>match gd with
   | some (j,want)=>match Ip md.a.toList j with
    | some dj=>match sk L dj with
     | some (.one .tt)=>match want with
      | true=>gD f K (.o md (⟨dst,op,ty,pos,af,none⟩::r)) L
      | false=>match dst with
       | some d=>match Nat.blt d n.sz with
        | true=>gD f K (.o md r) ((d,.one .un)::L)
        | false=>XO P n md (kI P Q0 K) (⟨some d,op,ty,pos,af,some (j,false)⟩::r) (dn L) M
       | none=>XO P n md (kI P Q0 K) (⟨none,op,ty,pos,af,some (j,false)⟩::r) (dn L) M
     | some (.one .ff)=>match want with
      | false=>gD f K (.o md (⟨dst,op,ty,pos,af,none⟩::r)) L
      | true=>match dst with
       | some d=>match Nat.blt d n.sz with
        | true=>gD f K (.o md r) ((d,.one .un)::L)
        | false=>XO P n md (kI P Q0 K) (⟨some d,op,ty,pos,af,some (j,true)⟩::r) (dn L) M
       | none=>XO P n md (kI P Q0 K) (⟨none,op,ty,pos,af,some (j,true)⟩::r) (dn L) M
     | some (.one .un)=>match dst with
       | some d=>match Nat.blt d n.sz with
        | true=>gD f K (.o md r) ((d,.one .un)::L)
        | false=>XO P n md (kI P Q0 K) (⟨some d,op,ty,pos,af,some (j,want)⟩::r) (dn L) M
       | none=>XO P n md (kI P Q0 K) (⟨none,op,ty,pos,af,some (j,want)⟩::r) (dn L) M
     | _=>XO P n md (kI P Q0 K) (⟨dst,op,ty,pos,af,some (j,want)⟩::r) (dn L) M
    | none=>XO P n md (kI P Q0 K) (⟨dst,op,ty,pos,af,some (j,want)⟩::r) (dn L) M
   | none=>match dst with
    | some d=>match Nat.blt d n.sz with
     | true=>match R1 h.t L op with
      | some s=>gD f K (.o md r) ((d,s)::L)
      | none=>match R2 h.t L op with
       | some (q,s)=>Sd q (gD f K (.o md r) ((d,s)::L)) (XO P n md (kI P Q0 K) (⟨some d,op,ty,pos,af,none⟩::r) (dn L) M)
       | none=>halt P n Q0 M K md r L h.t (some d) op ty pos af (XO P n md (kI P Q0 K) (⟨some d,op,ty,pos,af,none⟩::r) (dn L) M)
     | false=>XO P n md (kI P Q0 K) (⟨some d,op,ty,pos,af,none⟩::r) (dn L) M
    | none=>halt P n Q0 M K md r L h.t none op ty pos af (XO P n md (kI P Q0 K) (⟨none,op,ty,pos,af,none⟩::r) (dn L) M)
end
def agG(P:Program)(n:Fr)(Q0:Exit->Act->World->Prop)(M:World->Prop)(K:List Fm)(L:PF):St->Prop
 | .c x=>XC P n x (kI P Q0 K) L M
 | .o md l=>XO P n md (kI P Q0 K) l L M
 | .e x=>XE n (kI P Q0 K) x L M
theorem BZ:∀ {L:SF} {j:Nat},sk L j=none->lk (dn L) j=none
 | [],_,_=>rfl
 | (i,t)::r,j,h=>by
  simp only[sk]at h;simp only[dn,lk];cases hb:Nat.beq i j with
  | true=>simp[hb]at h
  | false=>simp only[hb]at h;exact BZ h
def wN{ps:List Nat} :∀ {L jL:SF} {k:SF->Prop},sX ps L jL k->∃ L',k L'/\∀ i v,lk (dn L') i=some v->(match lk (dn jL) i with
 | some u=>u=v
 | none=>aaA i ps=true/\lk (dn L) i=some v)
 | [],jL,k,h=>⟨jL,h,fun i v q=>by rw[q]⟩
 | (j,s)::r,jL,k,h=>by
  simp only[sX]at h;split at h
  ·split at h
   ·rename_i u hu;obtain⟨L',h1,h2⟩:=wN h;refine⟨L',h1,fun i v q=> ?_⟩;have:=h2 i v q;cases ha:lk (dn jL) i with
    | some x=>rw[ha]at this;exact this
    | none=>
     rw[ha]at this;refine⟨this.1,?_⟩;simp only[dn,lk];cases hb:Nat.beq j i with
     | true=>have:=qp hb;subst this;rw[Ai hu]at ha;cases ha
     | false=>exact this.2
   ·rename_i hm _ hu;obtain⟨L',h1,h2⟩:=wN h;refine⟨L',h1,fun i v q=> ?_⟩;have:=h2 i v q;simp only[dn,lk]at this ⊢;cases hb:Nat.beq j i with
    | true=>
     have e:=qp hb;subst e;simp only[hb,cond_true]at this ⊢;rw[BZ hu];exact⟨hm,congrArg some this⟩
    | false=>simp only[hb,cond_false]at this ⊢;exact this
  ·rename_i hm;obtain⟨L',h1,h2⟩:=wN h;refine⟨L',h1,fun i v q=> ?_⟩;have:=h2 i v q;cases ha:lk (dn jL) i with
   | some x=>rw[ha]at this;exact this
   | none=>
    rw[ha]at this;refine⟨this.1,?_⟩;simp only[dn,lk];cases hb:Nat.beq j i with
    | true=>have e:=qp hb;subst e;rw[hm]at this;cases this.1
    | false=>exact this.2
section
variable {P:Program} {n:Fr} {Q0:Exit->Act->World->Prop} {M:World->Prop}
def pd.cons{L:PF}{a:Act}{d:Nat}{v:Value}(h:pd n L a)(hv:a.tmps.getD d undef=v):pd n ((d,v)::L) a:=⟨h.1,h.2.1,fun i u hi=>by
 rw[Bh]at hi
 by_cases hid:d=i
 ·subst hid;simp at hi;subst hi;exact hv
 ·simp only[hid,if_false]at hi;exact h.2.2 i u hi⟩
def cg[Tb P]:∀ (f:Nat) (K:List Fm) (s:St) (L:SF),gD P n Q0 M f K s L->agG P n Q0 M K (dn L) s
 | 0,K,.c x,L,h=>h
 | 0,K,.o md l,L,h=>h
 | 0,K,.e x,L,h=>h
 | f+1,K,.c x,L,h=>by
  simp only[gD]at h;split at h
  ·split at h
   ·exact XC.seq (cg f _ (.c _) L h)
   ·split at h
    ·exact h
    ·exact XC.seq (cg f _ (.c _) L h)
  ·exact XC.skip (cg f _ (.e _) L h)
  ·exact XC.ret (cg f _ (.e _) L h)
  ·exact XC.exit (cg f _ (.e _) L h)
  ·exact XC.block (cg f _ (.c _) L h)
  ·split at h
   ·rename_i ops _;exact XC.region (l:=ops.toList) (cg f _ (.o _ _) L h)
   ·exact h
  ·split at h
   ·rename_i hc;exact BG (t:=true) (cX hc) rfl (cg f _ (.c _) L h)
   ·rename_i hc;exact BH (t:=false) (cX hc) rfl (cg f _ (.c _) L h)
   ·exact h
  ·exact h
 | f+1,K,.e x,L,h=>by
  simp only[gD]at h;split at h
  ·exact h
  ·rename_i K' y;split at h
   ·obtain⟨L',h1,h2⟩:=wN h;refine XE.next (XC.eG (dn L') (fun i v q=> ?_) (cg f _ (.c _) L' h1));exact(h2 i v q).2
   ·exact ra (cg f _ (.e _) L h)
   ·exact pj (cg f _ (.e _) L h)
   ·exact h
  ·rename_i K' i;split at h
   ·exact iH (cg f _ (.e _) L h)
   ·exact ll (cg f _ (.e _) L h)
   ·split at h
    ·rename_i hb;have:=qp hb;subst this;exact wI (cg f _ (.e _) L h)
    ·rename_i hb;exact D6 hb (cg f _ (.e _) L h)
   ·exact h
  ·rename_i K' T;split at h
   ·exact ra (cg f _ (.e _) L h)
   ·exact pj (cg f _ (.e _) L h)
   ·exact h
 | f+1,K,.o md l,L,h=>by
  simp only[gD]at h;split at h
  ·exact XO.nil (cg f _ (.e _) L h)
  ·rename_i dst op ty pos af gd r;split at h
   ·rename_i j want;split at h
    ·rename_i dj hdj;have hj:(md.a[j]?).bind (·.dst)=some dj:=by
      have:=Iq hdj;simpa using this
     split at h
     ·rename_i hs;split at h
      ·exact XO.wL rfl hj (Ai hs) (cg f _ (.o _ _) L h)
      ·split at h
       ·split at h
        ·rename_i hd;exact XO.qj rfl rfl hd hj (Ai hs) (cg f _ (.o _ _) ((_,.one .un)::L) h)
        ·exact h
       ·exact h
     ·rename_i hs;split at h
      ·exact XO.wL rfl hj (Ai hs) (cg f _ (.o _ _) L h)
      ·split at h
       ·split at h
        ·rename_i hd;exact XO.qj rfl rfl hd hj (Ai hs) (cg f _ (.o _ _) ((_,.one .un)::L) h)
        ·exact h
       ·exact h
     ·rename_i hs;split at h
      ·split at h
       ·rename_i hd;exact D7 rfl rfl hd hj (Ai hs) (cg f _ (.o _ _) ((_,.one .un)::L) h)
       ·exact h
      ·exact h
     ·exact h
    ·exact h
   ·split at h
    ·split at h
     ·rename_i hd;split at h
      ·rename_i s hs;obtain⟨h1,h2⟩:=R5 (P:=P) (n:=n) (φ:=fun _=>True) (d:=_) (ty:=ty) (pos:=pos) (af:=af) (gd:=none) hs;exact XO.v h1 (by rw[hd,h2];rfl) (cg f _ (.o _ _) ((_,s)::L) h)
      ·split at h
       ·rename_i q s hs;rcases h with h | h
        ·obtain⟨h1,h2⟩:=R6 (P:=P) (n:=n) (φ:=fun _=>True) (d:=_) (ty:=ty) (pos:=pos) (af:=af) (gd:=none) hs h.1;exact XO.v h1 (by rw[hd,h2];rfl) (cg f _ (.o _ _) ((_,s)::L) h.2)
        ·exact h
       ·exact M7 (fun x hx=>by cases hx;exact hd) h
     ·exact h
    ·exact M7 (fun x hx=>by cases hx) h
def uu{ps:List Nat}{k k':SF->Prop}(h:∀ L,k L->k' L):∀ {L jL:SF},sX ps L jL k->sX ps L jL k'
 | [],_,q=>h _ q
 | (i,s)::r,jL,q=>by
  simp only[sX]at q ⊢;split at q
  ·split at q
   ·exact uu h q
   ·exact uu h q
  ·exact uu h q
def uv{ps:List Nat}{k:SF->Prop}(h:∀ L,k L):∀ {L jL:SF},sX ps L jL k
 | [],_=>h _
 | (i,s)::r,jL=>by
  simp only[sX];split
  ·split
   ·exact uv h
   ·exact uv h
  ·exact uv h
def OY{M':World->Prop}(hm:∀ w,M w->M' w){K:List Fm}{md:Md}{r:List Oper}{L:SF}{T:Il}{dst:Option Tmp}{ty:TypeId}{pos:String}{af:Array Edge}(h:halt P n Q0 M' K md r L T dst op ty pos af (XO P n md (kI P Q0 K) (⟨dst,op,ty,pos,af,none⟩::r) (dn L) M')):halt P n Q0 M K md r L T dst op ty pos af (XO P n md (kI P Q0 K) (⟨dst,op,ty,pos,af,none⟩::r) (dn L) M):=by
 unfold halt at h ⊢;repeat' (split at h)
 all_goals first
  | exact XO.mono hm h
  | exact fun a b c=>XO.mono hm (h a b c)
  | exact fun a b c d=>XO.mono hm (h a b c d)
def R7(hm:∀ w,¬M w){K:List Fm}{md:Md}{r:List Oper}{L:SF}{T:Il}{dst:Option Tmp}{ty:TypeId}{pos:String}{af:Array Edge} :halt P n Q0 M K md r L T dst op ty pos af (XO P n md (kI P Q0 K) (⟨dst,op,ty,pos,af,none⟩::r) (dn L) M):=by
 unfold halt;repeat' split
 all_goals first
  | exact fun a w _ hw=>absurd hw (hm w)
  | exact fun _ _ _ a w _ hw=>absurd hw (hm w)
  | exact fun _ _ _ _ a w _ hw=>absurd hw (hm w)
def oJ[Tb P]{M':World->Prop}(hm:∀ w,M w->M' w):∀ (f:Nat) (K:List Fm) (s:St) (L:SF),gD P n Q0 M' f K s L->gD P n Q0 M f K s L
 | 0,K,.c x,L,h=>XC.mono hm h
 | 0,K,.o md l,L,h=>XO.mono hm h
 | 0,K,.e x,L,h=>XE.mono hm h
 | f+1,K,.c x,L,h=>by
  simp only[gD]at h ⊢;repeat' (split at h)
  all_goals first
   | exact XC.mono hm h
   | exact oJ hm f _ _ _ h
 | f+1,K,.e x,L,h=>by
  simp only[gD]at h ⊢;repeat' (split at h)
  all_goals first
   | exact XE.mono hm h
   | exact oJ hm f _ _ _ h
   | exact uu (fun L'=>oJ hm f _ _ _) h
 | f+1,K,.o md l,L,h=>by
  simp only[gD]at h ⊢;repeat' (split at h)
  all_goals first
   | exact XO.mono hm h
   | exact oJ hm f _ _ _ h
   | exact OY hm h
   | exact h.imp (fun q=>⟨q.1,oJ hm f _ _ _ q.2⟩) (XO.mono hm)
def wO[Tb P](hm:∀ w,¬M w):∀ (f:Nat) (K:List Fm) (s:St) (L:SF),gD P n Q0 M f K s L
 | 0,K,.c x,L=>fun a w _ hw=>absurd hw (hm w)
 | 0,K,.o md l,L=>fun a w _ hw=>absurd hw (hm w)
 | 0,K,.e x,L=>fun a w _ hw=>absurd hw (hm w)
 | f+1,K,.c x,L=>by
  simp only[gD];repeat' split
  all_goals first
   | exact wO hm f _ _ _
   | exact fun a w _ hw=>absurd hw (hm w)
 | f+1,K,.e x,L=>by
  simp only[gD];repeat' split
  all_goals first
   | exact wO hm f _ _ _
   | exact uv fun L'=>wO hm f _ _ _
   | exact fun a w _ hw=>absurd hw (hm w)
 | f+1,K,.o md l,L=>by
  simp only[gD];repeat' split
  all_goals first
   | exact wO hm f _ _ _
   | exact R7 hm
   | exact .inr fun a w _ hw=>absurd hw (hm w)
   | exact fun a w _ hw=>absurd hw (hm w)
def wP[Tb P]{φ:Prop}(hφ:∀ w,M w->φ){f:Nat}{K:List Fm}{s:St}{L:SF}(h:φ->gD P n Q0 M f K s L):gD P n Q0 M f K s L:=by
 by_cases c:∃ w,M w
 ·obtain⟨w,hw⟩:=c;exact h (hφ w hw)
 ·exact wO (fun w hw=>c ⟨w,hw⟩) f K s L
end
end Go.X
