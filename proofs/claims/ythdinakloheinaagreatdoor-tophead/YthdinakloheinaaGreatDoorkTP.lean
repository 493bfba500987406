import Derived.Test.YthdinakloheinaaGreatDoorXBits
set_option linter.all false
namespace Go.X.Sg
open Go Go.X
variable{on:Bool}{h n:Int}{x:Nat}
def mn(f:Int->Bool):Nat->Nat
 | 0=>0
 | n+1=>mn f n|||(if f n then 2^n else 0)
theorem iu(f:Int->Bool)(n j:Nat):(mn f n).testBit j=(decide (j<n)&&f j):=by
 induction n with
 | zero=>simp[mn]
 | succ n ih=>
  simp only[mn,Nat.testBit_or,ih];by_cases h:j=n
  ·grind
  ·grind
def ph(f:Int->Bool):Nat:=mn f 9
theorem lQ(f:Int->Bool)(j:Nat):(ph f).testBit j=(decide (j<9)&&f j):=iu f 9 j
def jG(f:Int->Bool):ph f<2^IntKind.u16.bits:=by
 refine Nat.lt_of_lt_of_le (m:=2^9) ?_ dq;apply Nat.lt_pow_two_of_testBit;grind [lQ]
def iO(h:1<=n/\n<=8):2^n.toNat<2^IntKind.u16.bits:=Nat.pow_lt_pow_right og (by show n.toNat<16;omega)
def uD(h:1<=n/\n<=8:=by omega):IntKind.u16.wrap (1*2^(min n.toNat IntKind.u16.bits))=((2^n.toNat:Nat):Int):=by
 have:n=1\/n=2\/n=3\/n=4\/n=5\/n=6\/n=7\/n=8:=og;rcases this with rfl | rfl | rfl | rfl | rfl | rfl | rfl | rfl<;>decide
def IL(f:Int->Bool)(h:1<=n/\n<=8:=by omega):ph f|||2^n.toNat=ph (ad f n true):=by
 apply Nat.eq_of_testBit_eq;grind [lQ,ad]
def rA(f:Int->Bool)(h:1<=n/\n<=8:=by omega):lK (ph f) (2^n.toNat)=ph (ad f n false):=by
 apply Nat.eq_of_testBit_eq;grind [lQ,ad,lK]
structure BS where
 db:Int->Bool
 aX:Int->Bool
 jN:Int->Int
def BS.cK:BS:=⟨fun _=>false,fun _=>false,fun _=>0⟩
def BS.zg(s:BS)(n:Int):Int:=if n=3/\s.jN n=0 then 1 else s.jN n
def BS.num(n:Int):Bool:=decide (1<=n/\n<=8)
def BS.send(s:BS)(n:Int):Int×BS:=if BS.num n then(0,if s.zg n=1 then s else {s with db:=ad s.db n true})else(1,s)
def BS.dy(s:BS)(n:Int)(on:Bool):Int×BS:=if BS.num n then(if n=1 then(8,s)else(0,{s with aX:=ad s.aX n on}))else(1,s)
def BS.set(s:BS)(n h:Int):Int×BS:=
 if BS.num n=true/\0<=h/\h<=2 then(if n=1 then(8,s)else
  (0,if({s with jN:=ad s.jN n h} :BS).zg n=1 then {db:=ad s.db n false,aX:=s.aX,jN:=ad s.jN n h} else {s with jN:=ad s.jN n h}))else(1,s)
def BS.first(s:BS)(h:Int):Int:=match dv (fun k=>s.db k&&(!s.aX k&&decide (s.jN k=h))) 9 with
 | some k=>k
 | none=>0
def BS.take(s:BS):Int×BS:=(s.first 2,{s with db:=ad s.db (s.first 2) false})
def BS.aW(s:BS):BS:= {s with db:=fun _=>false}
def dD(i:Nat):Value:=.int .u8 ((([0,1,28,2,29,14,24,3,30,22,20,15,25,17,4,8,31,27,13,23,21,19,16,7,26,12,18,6,11,5,10,9]:List Int)[i]?).getD 0)
def fm(s:BS)(i:Nat):Value:=
 if i=0 then .int .u16 (((ph s.db):Nat):Int)else
 if i=1 then .int .u16 (((ph s.aX):Nat):Int)else
 if 2<=i/\(i-2)%1=0/\(i-2)/1<9 then iI (s.jN (((i-2)/1:Nat):Int))else
 undef
def nS(s:BS):(0+0)<11/\fm s (0+0)= .int .u16 (((ph s.db):Nat):Int):=by
 grind [fm]
def nT(s:BS):(0+1)<11/\fm s (0+1)= .int .u16 (((ph s.aX):Nat):Int):=by
 grind [fm]
def mV(s:BS)(z0:Int)(q0:0<=z0/\z0<9:=by omega):((0+2)+z0.toNat*1)<11/\fm s ((0+2)+z0.toNat*1)=iI (s.jN z0):=by
 grind [fm]
def Ej(s:BS)(z0:Int)(q0:0<=z0/\z0<9)(v:Int):((0+2)+z0.toNat*1)<11/\dL (fm s) ((0+2)+z0.toNat*1) (iI (v))=fm ({s with jN:=ad s.jN z0 v}):=by
 grind [dL,ad,fm]
theorem gg(n:Int):BS.num n=true↔1<=n/\n<=8:=by simp[BS.num]
theorem Ek{s:BS}{k:Int}(h0:0<=k/\k<9)(hw:s.db k=true)(hh:s.aX k=false)(he:s.jN k=h)(hn:∀ j:Int,0<=j->j<k->¬(s.db j=true/\s.aX j=false/\s.jN j=h)):s.first h=k:=by
 unfold BS.first
 rw[eo (k:=k) h0.1 og (by simp[hw,hh,he]) (fun j h1 h2=>by
  have:=hn j h1 h2
  simp only[not_and]at this
  cases q1:s.db j<;>cases q2:s.aX j<;>simp
  exact this q1 q2)]
 show((k.toNat:Nat):Int)=k;omega
theorem El{s:BS}(hn:∀ j:Int,0<=j->j<9->¬(s.db j=true/\s.aX j=false/\s.jN j=h)):s.first h=0:=by
 grind [BS.first,dC]
def BS.tm(s:BS)(h:Int)(h0:s.db 0=false):s.first h=0\/(1<=s.first h/\s.first h<=8):=by
 grind [BS.first,dv]
def aes{t:Nat}(ht:t<16):IntKind.u32.wrap (((2^t:Nat):Int))=((2^t:Nat):Int)/\IntKind.u32.wrap (((2^t:Nat):Int)*125613361)=((2^t*125613361%4294967296:Nat):Int)/\(((2^t*125613361%4294967296:Nat):Int)).fdiv (2^(min (27:Int).toNat IntKind.u32.bits))=((2^t*125613361%4294967296/134217728:Nat):Int)/\(2^t*125613361%4294967296/134217728)<32/\IntKind.i64.wrap (t:Int)=t:=by
 have:t=0\/t=1\/t=2\/t=3\/t=4\/t=5\/t=6\/t=7\/t=8\/t=9\/t=10\/t=11\/t=12\/t=13\/t=14\/t=15:=og;rcases this with rfl | rfl | rfl | rfl | rfl | rfl | rfl | rfl | rfl | rfl | rfl | rfl | rfl | rfl | rfl | rfl<;>decide
def Lo{t:Nat}(ht:t<16):0+(((2^t*125613361%4294967296/134217728:Nat):Int)).toNat*1<32/\dD (0+(((2^t*125613361%4294967296/134217728:Nat):Int)).toNat*1)= .int .u8 (t:Int):=by
 have:t=0\/t=1\/t=2\/t=3\/t=4\/t=5\/t=6\/t=7\/t=8\/t=9\/t=10\/t=11\/t=12\/t=13\/t=14\/t=15:=og;rcases this with rfl | rfl | rfl | rfl | rfl | rfl | rfl | rfl | rfl | rfl | rfl | rfl | rfl | rfl | rfl | rfl<;>exact⟨dq,rfl⟩
def W7(h:0<x/\x<65536):IntKind.u16.wrap (0-(x:Int))=((2^16-x:Nat):Int):=by
 have:((0-(x:Int))%(2^16:Int))=((2^16-x:Nat):Int):=by
  omega
 simpa [IntKind.wrap,IntKind.signed,IntKind.bits]using this
def W8(h:0<x/\x<65536):IntKind.u16.wrap ((x:Int)-1)=((x-1:Nat):Int):=by
 rw[show(x:Int)-1=((x-1:Nat):Int)from og];exact Ie rfl (Nat.lt_of_le_of_lt (Nat.sub_le _ _) h.2)
def Cf(x:Nat)(k:Nat):(((x >>> k)&&&1:Nat):Int)=if x.testBit k then 1 else 0:=by
 grind [Nat.shiftRight_eq_div_pow]
def uE(s:BS){w':Int->Bool}(h:x=ph w'):(0+0)<11/\dL (fm s) (0+0) (.int .u16 (x:Int))=fm {s with db:=w'} :=by
 grind [dL,fm]
def zh(s:BS){w':Int->Bool}(h:x=ph w'):(0+1)<11/\dL (fm s) (0+1) (.int .u16 (x:Int))=fm {s with aX:=w'} :=by
 grind [dL,fm]
def mE(s:BS):0+11<=11/\cZ (fm s) 0 11= .agg #[.int .u16 ((ph s.db:Nat):Int),.int .u16 ((ph s.aX:Nat):Int),iI (s.jN 0),iI (s.jN 1),iI (s.jN 2),iI (s.jN 3),iI (s.jN 4),iI (s.jN 5),iI (s.jN 6),iI (s.jN 7),iI (s.jN 8)]:=⟨og,rfl⟩
def SN{C:Nat->Value}(hC:∀ i,11<=i->C i=undef)(s:BS):0+11<=11/\cC C 0 [.int .u16 ((ph s.db:Nat):Int),.int .u16 ((ph s.aX:Nat):Int),iI (s.jN 0),iI (s.jN 1),iI (s.jN 2),iI (s.jN 3),iI (s.jN 4),iI (s.jN 5),iI (s.jN 6),iI (s.jN 7),iI (s.jN 8)]=fm s:=by
 refine⟨og,?_⟩;funext i;match i with
 | 0=>rfl
 | 1=>rfl
 | 2=>rfl
 | 3=>rfl
 | 4=>rfl
 | 5=>rfl
 | 6=>rfl
 | 7=>rfl
 | 8=>rfl
 | 9=>rfl
 | 10=>rfl
 | k+11=>
  have e2:fm s (k+11)=undef:=by
   grind [fm]
  rw[e2];have:=hC (k+11) og;simp[cC,dL,this]
def Pg:∀ i,i<11->cellsOf (Value.agg #[.int .u16 0,.int .u16 0,iI 0,iI 0,iI 0,iI 0,iI 0,iI 0,iI 0,iI 0,iI 0]).cells i=fm BS.cK i:=fun i hi=>match i,hi with
 | 0,_=>rfl
 | 1,_=>rfl
 | 2,_=>rfl
 | 3,_=>rfl
 | 4,_=>rfl
 | 5,_=>rfl
 | 6,_=>rfl
 | 7,_=>rfl
 | 8,_=>rfl
 | 9,_=>rfl
 | 10,_=>rfl
 | k+11,h=>absurd h og
theorem Lp{s:BS}(h:n<1\/n>8):s.send n=(1,s):=by
 grind [BS.send,gg]
theorem IM{s:BS}(h:1<=n/\n<=8)(hd:s.zg n=1):s.send n=(0,s):=by
 grind [BS.send,gg]
theorem BS.W9{s:BS}(h:1<=n/\n<=8)(hd:¬s.zg n=1):s.send n=(0,{s with db:=ad s.db n true}):=by
 grind [BS.send,gg]
theorem vV{s:BS}(h:n<1\/n>8):s.dy n on=(1,s):=by
 grind [BS.dy,gg]
theorem tq{s:BS}(h:n=1):s.dy n on=(8,s):=by
 subst h;rfl
theorem BS.No{s:BS}(h:1<=n/\n<=8)(h1:¬n=1):s.dy n on=(0,{s with aX:=ad s.aX n on}):=by
 grind [BS.dy,gg]
theorem Ph{s:BS}(q:n<1\/n>8\/h<0\/h>2):s.set n h=(1,s):=by
 grind [BS.set,gg]
theorem Lq{s:BS}(q:n=1)(q2:0<=h/\h<=2):s.set n h=(8,s):=by
 grind [BS.set,gg]
theorem BS.Xa{s:BS}(q:1<=n/\n<=8)(q2:0<=h/\h<=2)(q1:¬n=1)(hd:({s with jN:=ad s.jN n h} :BS).zg n=1):s.set n h=(0,{db:=ad s.db n false,aX:=s.aX,jN:=ad s.jN n h}):=by
 grind [BS.set,gg]
theorem BS.aa8{s:BS}(q:1<=n/\n<=8)(q2:0<=h/\h<=2)(q1:¬n=1)(hd:¬({s with jN:=ad s.jN n h} :BS).zg n=1):s.set n h=(0,{s with jN:=ad s.jN n h}):=by
 grind [BS.set,gg]
theorem Lr{f:Int->Bool}(h:f n=false):ad f n false=f:=cB f h
theorem Gw{s:BS}(h:s.first 2=0)(h0:s.db 0=false):s.take=(0,s):=by
 simp_all[BS.take,Lr]
theorem SO(f:Int->Bool):ph f<512:=by
 have:ph f<2^9:=by
  apply Nat.lt_pow_two_of_testBit;grind [lQ]
 omega
def IP{s:BS} :∀ i,11<=i->fm s i=undef:=by
 grind [fm]
end Go.X.Sg

namespace Go.X.Sp
open Go Go.X
variable{a k n p q z:Int}{w:Int->Int->Int}{aL:Int->Nat}
structure SS where
 aa:Int->Bool
 ax:Int->Int
 bG:Int->Int->Int
 loc:Int->Int
structure FrS where
 p:Int
 f:Int->Int
def Em(k:Int):Int->Int:=fun q=>if 0<=q/\q<k then-1 else 0
theorem IQ(k:Int)(h:0<=k:=by omega):ad (Em k) k (-1)=Em (k+1):=by
 grind [ad,Em]
def Pj(p:Int):Array Value:= #[.bool true,iI p,iI (-1),iI (-1),iI (-1),iI (-1),iI (-1),iI (-1),iI (-1),iI (-1),iI (-1),iI (-1),iI (-1),iI (-1),iI (-1),iI (-1),iI (-1),iI (-1),iI (-1),iI (-1),iI (-1),iI (-1),iI (-1)]
def SS.is(s:SS)(n:Int):Int:=if n<0\/6<=n then 1 else if s.aa n then 0 else 2
def SS.je(s:SS):Nat->Int->List Int
 | 0,_=>[]
 | k+1,n=>n::s.je k (s.ax n)
structure SS.Deep (s:SS) (aL:Int->Nat):Prop where
 d:∀ n,0<=n->n<6->s.aa n=true->1<=aL n/\aL n<=4/\((s.ax n= -1/\aL n=1)\/(0<=s.ax n/\s.ax n<6/\s.aa (s.ax n)=true/\aL n=aL (s.ax n)+1))
def SS.cF(s:SS)(aL:Int->Nat)(n:Int):List Int:=s.je (aL n) n
theorem SS.pB(s:SS):∀ (k:Nat) (n:Int),(s.je k n).length=k
 | 0,_=>rfl
 | k+1,n=>by simp only[SS.je,List.length_cons,s.pB k]
def dH(f:Int->Int):Nat->List Int
 | 0=>[]
 | k+1=>dH f k++(if f k>=0 then [f k]else [])
def SS.cU(s:SS)(n:Int):List Int:=dH (s.bG n) 21
def nD(f:Int->Int):∀ k,(dH f k).length<=k
 | 0=>by simp[dH]
 | k+1=>by
  have:=nD f k;grind [dH]
def eM(f:Int->Bool):Nat->List Int
 | 0=>[]
 | k+1=>eM f k++(if f k then [(k:Int)]else [])
def lq(f:Int->Bool):∀ k,(eM f k).length<=k
 | 0=>by simp[eM]
 | k+1=>by
  have:=lq f k;grind [eM]
def SS.bM(s:SS)(p:Int):Int×Int:=if p<0\/20<=p then(0,1)else if s.loc p<0 then(0,2)else(s.loc p,0)
def SS.add(s:SS)(aL:Int->Nat)(p:Int):Int×Int×SS:=
 if s.is p≠0 then(0,s.is p,s)else if aL p=4 then(0,7,s)else
 match dv (fun k=> !s.aa k) 6 with
 | some k=>(k,0,{s with aa:=ad s.aa k true,ax:=ad s.ax k p})
 | none=>(0,4,s)
def SS.kids(s:SS)(n:Int):Option Nat:=dv (fun k=>s.aa k&&(s.ax k==n)) 6
def SS.drop(s:SS)(n:Int):Int×SS:=
 if s.is n≠0 then(s.is n,s)else if n=0\/(s.cU n).length>0 then(5,s)else
 match s.kids n with
 | some _=>(5,s)
 | none=>(0,{s with aa:=ad s.aa n false,ax:=ad s.ax n 0})
def SS.zero:SS:=⟨fun _=>false,fun _=>0,fun _ _=> -1,fun _=>0⟩
def SS.nU:SS:= {SS.zero with aa:=ad SS.zero.aa 0 true,ax:=ad SS.zero.ax 0 (-1)}
def SS.cK:SS:= {SS.nU with loc:=Em 20}
def tr(w:Int->Int->Int)(a p:Int):Int->Int->Int:=match dv (fun q=>decide (w a (q+1)<0)) 20 with
 | some q=>cv w a ((q:Int)+1) p
 | none=>w
def iv(w:Int->Int->Int)(p:Int):List Int->(Int->Int->Int)
 | []=>w
 | a::r=>iv (tr w a p) p r
def SS.mem(s:SS)(n:Int):List Int×Int:=if s.is n≠0 then([],s.is n)else(s.cU n,0)
def SS.gh(s:SS)(p n:Int):Int×Int:=if s.is n≠0 then(0,s.is n)else if p<0\/20<=p then(0,1)else
 match dv (fun q=>s.bG n q==p) 21 with
 | some q=>(q,0)
 | none=>(0,2)
def SS.eR(s:SS)(aL:Int->Nat)(n p:Int):SS:= {s with loc:=ad s.loc p n,bG:=iv s.bG p (s.cF aL n)}
def SS.enter(s:SS)(aL:Int->Nat)(n p:Int):Int×Int×SS:=
 if s.is n≠0 then(0,s.is n,s)else if p<0\/20<=p then(0,1,s)else if 0<=s.loc p then(0,3,s)else
 (((s.eR aL n p).gh p n).1,((s.eR aL n p).gh p n).2,s.eR aL n p)
def SS.left(s:SS)(p:Int):SS:= {s with bG:=fun n q=>if s.bG n q=p then-1 else s.bG n q,loc:=ad s.loc p (-1)}
def SS.fi(s:SS)(p:Int):Int×SS:=if(s.bM p).2≠0 then((s.bM p).2,s)else(0,s.left p)
def SS.find(s:SS)(n q:Int):Int×Int:=if s.is n≠0 then(0,s.is n)else if q<1\/20<q then(0,2)else if s.bG n q<0 then(0,2)else(s.bG n q,0)
def aO(s:SS)(i:Nat):Value:=
 if i%23=0/\i/23<6 then .bool (s.aa ((i/23:Nat):Int))else
 if 1<=i/\(i-1)%23=0/\(i-1)/23<6 then iI (s.ax (((i-1)/23:Nat):Int))else
 if 2<=i/\(i-2)/23<6/\((i-2)%23)%1=0/\((i-2)%23)/1<21 then iI (if s.aa (((i-2)/23:Nat):Int)then s.bG (((i-2)/23:Nat):Int) ((((i-2)%23)/1:Nat):Int)else 0)else
 if 138<=i/\(i-138)%1=0/\(i-138)/1<20 then iI (s.loc (((i-138)/1:Nat):Int))else
 undef
def ko(s:SS)(z0:Int)(q0:0<=z0/\z0<6:=by omega):(((0+0)+z0.toNat*23)+0)<158/\aO s (((0+0)+z0.toNat*23)+0)= .bool (s.aa z0):=by
 grind [aO]
def kY(s:SS)(z0:Int)(q0:0<=z0/\z0<6:=by omega):(((0+0)+z0.toNat*23)+1)<158/\aO s (((0+0)+z0.toNat*23)+1)=iI (s.ax z0):=by
 grind [aO]
def w8(s:SS)(z0:Int)(z1:Int)(q0:0<=z0/\z0<6)(q1:0<=z1/\z1<21):((((0+0)+z0.toNat*23)+2)+z1.toNat*1)<158/\aO s ((((0+0)+z0.toNat*23)+2)+z1.toNat*1)=iI (if s.aa z0 then s.bG z0 z1 else 0):=by
 grind [aO]
def kZ(s:SS)(z0:Int)(z1:Int)(q0:0<=z0/\z0<6)(q1:0<=z1/\z1<21)(hc:s.aa z0=true):((((0+0)+z0.toNat*23)+2)+z1.toNat*1)<158/\aO s ((((0+0)+z0.toNat*23)+2)+z1.toNat*1)=iI (s.bG z0 z1):=by
 grind [aO]
def pC(s:SS)(z0:Int)(z1:Int)(q0:0<=z0/\z0<6)(q1:0<=z1/\z1<21)(hc:s.aa z0=true)(v:Int):((((0+0)+z0.toNat*23)+2)+z1.toNat*1)<158/\dL (aO s) ((((0+0)+z0.toNat*23)+2)+z1.toNat*1) (iI (v))=aO ({s with bG:=cv s.bG z0 z1 v}):=by
 refine⟨og,?_⟩;funext j;unfold dL;grind [cv,aO]
def rB(s:SS)(z0:Int)(q0:0<=z0/\z0<20:=by omega):((0+138)+z0.toNat*1)<158/\aO s ((0+138)+z0.toNat*1)=iI (s.loc z0):=by
 grind [aO]
def rD(s:SS)(z0:Int)(q0:0<=z0/\z0<20)(v:Int):((0+138)+z0.toNat*1)<158/\dL (aO s) ((0+138)+z0.toNat*1) (iI (v))=aO ({s with loc:=ad s.loc z0 v}):=by
 grind [dL,ad,aO]
def vu(s:FrS)(i:Nat):Value:=
 if i=0 then .bool (true)else
 if i=1 then iI (s.p)else
 if 2<=i/\(i-2)%1=0/\(i-2)/1<21 then iI (s.f (((i-2)/1:Nat):Int))else
 undef
def Cg(s:FrS)(z0:Int)(q0:0<=z0/\z0<21)(v:Int):((0+2)+z0.toNat*1)<23/\dL (vu s) ((0+2)+z0.toNat*1) (iI (v))=vu ({s with f:=ad s.f z0 v}):=by
 grind [dL,ad,vu]
def rE:Array Value:= #[.bool false,iI 0,iI 0,iI 0,iI 0,iI 0,iI 0,iI 0,iI 0,iI 0,iI 0,iI 0,iI 0,iI 0,iI 0,iI 0,iI 0,iI 0,iI 0,iI 0,iI 0,iI 0,iI 0]
theorem SS.jx(s:SS)(n:Int):(s.is n=0/\0<=n/\n<6/\s.aa n=true)\/(s.is n=1/\(n<0\/6<=n))\/(s.is n=2/\0<=n/\n<6/\s.aa n=false):=by
 grind [SS.is]
def SP(p:Int):0+23<=23/\cZ (vu ⟨p,Em 21⟩) 0 23= .agg (Pj p):=⟨og,rfl⟩
theorem SQ(s:FrS):∀ i,23<=i->vu s i=undef:=by
 grind [vu]
theorem Np(C:Nat->Value):∀ (vs:List Value) (o i:Nat),i<o->cC C o vs i=C i:=by
 intro vs;induction vs generalizing C with
 | nil=>intro o i _;rfl
 | cons v r ih=>
  intro o i h;rw[cC,ih _ _ _ og];simp[dL];omega
theorem Gx(C:Nat->Value):∀ (vs:List Value) (o i:Nat),o+vs.length<=i->cC C o vs i=C i:=by
 intro vs;induction vs generalizing C with
 | nil=>intro o i _;rfl
 | cons v r ih=>
  intro o i h;simp only[List.length_cons]at h;rw[cC,ih _ _ _ og];simp[dL];omega
def Nq(C:Nat->Value):∀ (vs:List Value) (o j:Nat) (v:Value),vs[j]? =some v->cC C o vs (o+j)=v:=by
 intro vs;induction vs generalizing C with
 | nil=>intro o j v h;simp at h
 | cons u r ih=>
  intro o j v h;cases j with
  | zero=>
   simp at h;rw[cC,Np _ _ _ _ og];simp[dL,h]
  | succ j=>
   simp at h;rw[cC,show o+(j+1)=o+1+j from og];exact ih _ _ _ _ h
def aa9(C:Nat->Value)(hC:∀ i,23<=i->C i=undef)(p:Int):0+23<=23/\cC C 0 (Pj p).toList=vu ⟨p,Em 21⟩:=by
 refine⟨og,?_⟩;funext i;by_cases h:i<23
 ·have e:(Pj p).toList[i]? =some (vu ⟨p,Em 21⟩ i):=by
   have:i=0\/i=1\/i=2\/i=3\/i=4\/i=5\/i=6\/i=7\/i=8\/i=9\/i=10\/i=11\/i=12\/i=13\/i=14\/i=15\/i=16\/i=17\/i=18\/i=19\/i=20\/i=21\/i=22:=og;rcases this with rfl | rfl | rfl | rfl | rfl | rfl | rfl | rfl | rfl | rfl | rfl | rfl | rfl | rfl | rfl | rfl | rfl | rfl | rfl | rfl | rfl | rfl | rfl<;>rfl
  have:=Nq C (Pj p).toList 0 i _ e;simp_all
 ·rw[Gx _ _ _ _ (by show 0+23<=i;omega),hC i og,SQ _ i og]
def SR(p:Int)(C:Nat->Value)(hC:∀ i,23<=i->C i=undef):0+23<=23/\cC C 0 [.bool true,iI p,iI 0,iI 0,iI 0,iI 0,iI 0,iI 0,iI 0,iI 0,iI 0,iI 0,iI 0,iI 0,iI 0,iI 0,iI 0,iI 0,iI 0,iI 0,iI 0,iI 0,iI 0]=vu ⟨p,Em 0⟩:=by
 refine⟨og,?_⟩;funext i;by_cases h:i<23
 ·have:i=0\/i=1\/i=2\/i=3\/i=4\/i=5\/i=6\/i=7\/i=8\/i=9\/i=10\/i=11\/i=12\/i=13\/i=14\/i=15\/i=16\/i=17\/i=18\/i=19\/i=20\/i=21\/i=22:=og;rcases this with rfl | rfl | rfl | rfl | rfl | rfl | rfl | rfl | rfl | rfl | rfl | rfl | rfl | rfl | rfl | rfl | rfl | rfl | rfl | rfl | rfl | rfl | rfl<;>rfl
 ·rw[Gx _ _ _ _ (by show 0+23<=i;omega),hC i og,SQ _ i og]
def IS:∀ i,23<=i->cellsOf rE i=undef:=by
 simp_all[rE,cellsOf]
def Ci(s:SS)(n:Int)(q:0<=n/\n<6)(hc:s.aa n=true):(((0+0)+n.toNat*23)+2)+21<=158/\cZ (aO s) (((0+0)+n.toNat*23)+2) 21= .agg (Gd (s.bG n) 21):=by
 refine⟨og,?_⟩;unfold cZ Gd;congr 2;apply List.map_congr_left;grind [aO]
def En(f:Int->Int)(k:Nat):(f k>=0->dH f (k+1)=dH f k++[f k])/\(¬f k>=0->dH f (k+1)=dH f k):=by
 grind [dH]
def Eo(f:Int->Int)(h:0<=k):(f k>=0->dH f (k+1).toNat=dH f k.toNat++[f k])/\(¬f k>=0->dH f (k+1).toNat=dH f k.toNat):=by
 have:=En f k.toNat;grind
theorem SS.Cj{s:SS}(hi:s.is n=0)(hp:¬(p<0\/20<=p))(hq:0<=q/\q<21)(h:s.bG n q=p)(hn:∀ j:Int,0<=j->j<q->s.bG n j≠p):s.gh p n=(q,0):=by
 unfold SS.gh;rw[if_neg (by simp[hi]),if_neg hp,eo (k:=q) hq.1 og (by simpa using h) fun j h1 h2=>by simpa using hn j h1 h2];grind
theorem Aw{s:SS}(hi:s.is n=0)(hp:¬(p<0\/20<=p))(hn:∀ j:Int,0<=j->j<21->s.bG n j≠p):s.gh p n=(0,2):=by
 grind [SS.gh,dC]
theorem Ck{s:SS}(h:s.is n≠0):s.gh p n=(0,s.is n):=by grind [SS.gh]
theorem rF{s:SS}(h:s.is n=0)(hp:p<0\/20<=p):s.gh p n=(0,1):=by grind [SS.gh]
theorem IT{s:SS}(h:s.is n≠0):s.find n q=(0,s.is n):=by grind [SS.find]
theorem rG{s:SS}(h:s.is n=0)(hq:q<1\/20<q\/s.bG n q<0):s.find n q=(0,2):=by
 grind [SS.find]
theorem Ls{s:SS}(h:s.is n=0)(hq:¬(q<1\/20<q))(hw:¬s.bG n q<0):s.find n q=(s.bG n q,0):=by
 grind [SS.find]
theorem IU{s:SS}(h:p<0\/20<=p):s.bM p=(0,1):=by unfold SS.bM;rw[if_pos h]
theorem SS.Xb{s:SS}(hD:s.Deep aL)(h:0<=n/\n<6/\s.aa n=true)(hp:s.ax n= -1):s.je (aL n) n=[n]:=by
 obtain⟨h1,_,h3⟩:=hD.d n h.1 h.2.1 h.2.2;grind [je]
theorem SS.IV{s:SS}(hD:s.Deep aL)(h:0<=n/\n<6/\s.aa n=true)(hp:¬s.ax n= -1):s.je (aL n) n=n::s.je (aL (s.ax n)) (s.ax n)/\0<=s.ax n/\s.ax n<6/\s.aa (s.ax n)=true/\aL (s.ax n)<aL n:=by
 obtain⟨h1,_,h3⟩:=hD.d n h.1 h.2.1 h.2.2;grind [je]
def SS.Bm(s:SS)(aL:Int->Nat)(n:Int):(s.cF aL n).length=aL n:=s.pB _ _
theorem Lt{s:SS}(h:s.is p≠0):s.add aL p=(0,s.is p,s):=by grind [SS.add]
theorem IW{s:SS}(h:s.is p=0)(h2:aL p=4):s.add aL p=(0,7,s):=by grind [SS.add]
theorem SS.SU{s:SS}(h:s.is p=0)(h2:¬aL p=4)(hk:0<=k/\k<6)(hh:s.aa k=false)(hn:∀ j:Int,0<=j->j<k->s.aa j=true):s.add aL p=(k,0,{s with aa:=ad s.aa k true,ax:=ad s.ax k p}):=by
 unfold SS.add;rw[if_neg (by simp[h]),if_neg h2,eo (k:=k) hk.1 og (by simp[hh]) fun j h1 h2=>by simp[hn j h1 h2]];grind
theorem IX{s:SS}(h:s.is p=0)(h2:¬aL p=4)(hn:∀ j:Int,0<=j->j<6->s.aa j=true):s.add aL p=(0,4,s):=by
 grind [SS.add,dC]
theorem IY{s:SS}(h:s.is n≠0):s.drop n=(s.is n,s):=by grind [SS.drop]
theorem xa{s:SS}(h:s.is n=0)(h2:n=0\/(s.cU n).length>0):s.drop n=(5,s):=by grind [SS.drop]
theorem IZ{s:SS}(h:s.is n=0)(h2:¬(n=0\/(s.cU n).length>0))(hk:0<=k/\k<6)(hh:s.aa k=true)(hp:s.ax k=n)(hn:∀ j:Int,0<=j->j<k->¬(s.aa j=true/\s.ax j=n)):s.drop n=(5,s):=by
 unfold SS.drop SS.kids;rw[if_neg (by simp[h]),if_neg h2,eo (k:=k) hk.1 og (by simp[hh,hp]) (fun j h1 h2=>by have:=hn j h1 h2;simp only[not_and]at this;cases q:s.aa j<;>simp;exact this q)]
theorem SS.Xc{s:SS}(h:s.is n=0)(h2:¬(n=0\/(s.cU n).length>0))(hn:∀ j:Int,0<=j->j<6->¬(s.aa j=true/\s.ax j=n)):s.drop n=(0,{s with aa:=ad s.aa n false,ax:=ad s.ax n 0}):=by
 grind [SS.drop,SS.kids,dC]
def zi(f:Int->Bool)(h:0<=k):(f k=true->eM f (k+1).toNat=eM f k.toNat++[k])/\(f k=false->eM f (k+1).toNat=eM f k.toNat):=by
 have e:((k.toNat:Nat):Int)=k:=og;rw[show(k+1).toNat=k.toNat+1 from og];grind [eM]
def I0(s s':SS)(k:Int)(q:0<=k/\k<6)(vs:List Value)(hl:vs.length=23)(h0:vs[0]? =some (.bool (s'.aa k)))(h1:vs[1]? =some (iI (s'.ax k)))(h2:∀ j:Nat,j<21->vs[j+2]? =some (iI (if s'.aa k then s'.bG k j else 0)))(hh:∀ n,¬n=k->s'.aa n=s.aa n)(hp:∀ n,¬n=k->s'.ax n=s.ax n)(hw:s'.bG=s.bG)(ho:s'.loc=s.loc):0+0+k.toNat*23+23<=158/\cC (aO s) (0+0+k.toNat*23) vs=aO s':=by
 refine⟨og,?_⟩;funext i;by_cases ha:i<0+0+k.toNat*23
 ·rw[Np _ _ _ _ ha];grind [aO]
 ·by_cases hb:i<0+0+k.toNat*23+23
  ·obtain⟨j,rfl⟩:∃ j,i=0+0+k.toNat*23+j:=⟨i-(0+0+k.toNat*23),og⟩;have hj:j<23:=og;apply Nq _ _ _ _ _;by_cases j0:j=0
   ·grind [aO]
   ·by_cases j1:j=1
    ·subst j1;rw[h1];exact congrArg some (kY s' k q).2.symm
    ·have h3:=(w8 s' k ((j-2:Nat):Int) q og).2;have h4:=h2 (j-2) og;rw[show j-2+2=j from og]at h4;rw[h4,<-h3];congr 2;omega
  grind [Gx,aO]
def Cl(s:SS)(k p:Int)(q:0<=k/\k<6)(hw:∀ j,s.bG k j= -1):0+0+k.toNat*23+23<=158/\cC (aO s) (0+0+k.toNat*23) (Pj p).toList=aO {s with aa:=ad s.aa k true,ax:=ad s.ax k p} :=by
 refine I0 s _ k q _ rfl (by simp[ad];rfl) (by simp[ad];rfl) (fun j hj=> ?_) (fun n hn=>by simp[ad,hn]) (fun n hn=>by simp[ad,hn]) rfl rfl;simp only[ad,if_true,hw];have:j=0\/j=1\/j=2\/j=3\/j=4\/j=5\/j=6\/j=7\/j=8\/j=9\/j=10\/j=11\/j=12\/j=13\/j=14\/j=15\/j=16\/j=17\/j=18\/j=19\/j=20:=og;rcases this with rfl | rfl | rfl | rfl | rfl | rfl | rfl | rfl | rfl | rfl | rfl | rfl | rfl | rfl | rfl | rfl | rfl | rfl | rfl | rfl | rfl<;>rfl
def Lu(s:SS)(k:Int)(q:0<=k/\k<6):0+0+k.toNat*23+23<=158/\cC (aO s) (0+0+k.toNat*23) rE.toList=aO {s with aa:=ad s.aa k false,ax:=ad s.ax k 0} :=by
 refine I0 s _ k q _ rfl (by simp[ad];rfl) (by simp[ad];rfl) (fun j hj=> ?_) (fun n hn=>by simp[ad,hn]) (fun n hn=>by simp[ad,hn]) rfl rfl;simp only[ad,if_true];have:j=0\/j=1\/j=2\/j=3\/j=4\/j=5\/j=6\/j=7\/j=8\/j=9\/j=10\/j=11\/j=12\/j=13\/j=14\/j=15\/j=16\/j=17\/j=18\/j=19\/j=20:=og;rcases this with rfl | rfl | rfl | rfl | rfl | rfl | rfl | rfl | rfl | rfl | rfl | rfl | rfl | rfl | rfl | rfl | rfl | rfl | rfl | rfl | rfl<;>rfl
def ZC:Array Value:= #[.bool false,iI 0,iI 0,iI 0,iI 0,iI 0,iI 0,iI 0,iI 0,iI 0,iI 0,iI 0,iI 0,iI 0,iI 0,iI 0,iI 0,iI 0,iI 0,iI 0,iI 0,iI 0,iI 0,.bool false,iI 0,iI 0,iI 0,iI 0,iI 0,iI 0,iI 0,iI 0,iI 0,iI 0,iI 0,iI 0,iI 0,iI 0,iI 0,iI 0,iI 0,iI 0,iI 0,iI 0,iI 0,iI 0,.bool false,iI 0,iI 0,iI 0,iI 0,iI 0,iI 0,iI 0,iI 0,iI 0,iI 0,iI 0,iI 0,iI 0,iI 0,iI 0,iI 0,iI 0,iI 0,iI 0,iI 0,iI 0,iI 0,.bool false,iI 0,iI 0,iI 0,iI 0,iI 0,iI 0,iI 0,iI 0,iI 0,iI 0,iI 0,iI 0,iI 0,iI 0,iI 0,iI 0,iI 0,iI 0,iI 0,iI 0,iI 0,iI 0,.bool false,iI 0,iI 0,iI 0,iI 0,iI 0,iI 0,iI 0,iI 0,iI 0,iI 0,iI 0,iI 0,iI 0,iI 0,iI 0,iI 0,iI 0,iI 0,iI 0,iI 0,iI 0,iI 0,.bool false,iI 0,iI 0,iI 0,iI 0,iI 0,iI 0,iI 0,iI 0,iI 0,iI 0,iI 0,iI 0,iI 0,iI 0,iI 0,iI 0,iI 0,iI 0,iI 0,iI 0,iI 0,iI 0,iI 0,iI 0,iI 0,iI 0,iI 0,iI 0,iI 0,iI 0,iI 0,iI 0,iI 0,iI 0,iI 0,iI 0,iI 0,iI 0,iI 0,iI 0,iI 0,iI 0]
set_option maxRecDepth 20000 in def Pm:∀ i,i<158->cellsOf ZC i=aO SS.zero i:=fun i hi=>match i,hi with
 | 0,_=>rfl
 | 1,_=>rfl
 | 2,_=>rfl
 | 3,_=>rfl
 | 4,_=>rfl
 | 5,_=>rfl
 | 6,_=>rfl
 | 7,_=>rfl
 | 8,_=>rfl
 | 9,_=>rfl
 | 10,_=>rfl
 | 11,_=>rfl
 | 12,_=>rfl
 | 13,_=>rfl
 | 14,_=>rfl
 | 15,_=>rfl
 | 16,_=>rfl
 | 17,_=>rfl
 | 18,_=>rfl
 | 19,_=>rfl
 | 20,_=>rfl
 | 21,_=>rfl
 | 22,_=>rfl
 | 23,_=>rfl
 | 24,_=>rfl
 | 25,_=>rfl
 | 26,_=>rfl
 | 27,_=>rfl
 | 28,_=>rfl
 | 29,_=>rfl
 | 30,_=>rfl
 | 31,_=>rfl
 | 32,_=>rfl
 | 33,_=>rfl
 | 34,_=>rfl
 | 35,_=>rfl
 | 36,_=>rfl
 | 37,_=>rfl
 | 38,_=>rfl
 | 39,_=>rfl
 | 40,_=>rfl
 | 41,_=>rfl
 | 42,_=>rfl
 | 43,_=>rfl
 | 44,_=>rfl
 | 45,_=>rfl
 | 46,_=>rfl
 | 47,_=>rfl
 | 48,_=>rfl
 | 49,_=>rfl
 | 50,_=>rfl
 | 51,_=>rfl
 | 52,_=>rfl
 | 53,_=>rfl
 | 54,_=>rfl
 | 55,_=>rfl
 | 56,_=>rfl
 | 57,_=>rfl
 | 58,_=>rfl
 | 59,_=>rfl
 | 60,_=>rfl
 | 61,_=>rfl
 | 62,_=>rfl
 | 63,_=>rfl
 | 64,_=>rfl
 | 65,_=>rfl
 | 66,_=>rfl
 | 67,_=>rfl
 | 68,_=>rfl
 | 69,_=>rfl
 | 70,_=>rfl
 | 71,_=>rfl
 | 72,_=>rfl
 | 73,_=>rfl
 | 74,_=>rfl
 | 75,_=>rfl
 | 76,_=>rfl
 | 77,_=>rfl
 | 78,_=>rfl
 | 79,_=>rfl
 | 80,_=>rfl
 | 81,_=>rfl
 | 82,_=>rfl
 | 83,_=>rfl
 | 84,_=>rfl
 | 85,_=>rfl
 | 86,_=>rfl
 | 87,_=>rfl
 | 88,_=>rfl
 | 89,_=>rfl
 | 90,_=>rfl
 | 91,_=>rfl
 | 92,_=>rfl
 | 93,_=>rfl
 | 94,_=>rfl
 | 95,_=>rfl
 | 96,_=>rfl
 | 97,_=>rfl
 | 98,_=>rfl
 | 99,_=>rfl
 | 100,_=>rfl
 | 101,_=>rfl
 | 102,_=>rfl
 | 103,_=>rfl
 | 104,_=>rfl
 | 105,_=>rfl
 | 106,_=>rfl
 | 107,_=>rfl
 | 108,_=>rfl
 | 109,_=>rfl
 | 110,_=>rfl
 | 111,_=>rfl
 | 112,_=>rfl
 | 113,_=>rfl
 | 114,_=>rfl
 | 115,_=>rfl
 | 116,_=>rfl
 | 117,_=>rfl
 | 118,_=>rfl
 | 119,_=>rfl
 | 120,_=>rfl
 | 121,_=>rfl
 | 122,_=>rfl
 | 123,_=>rfl
 | 124,_=>rfl
 | 125,_=>rfl
 | 126,_=>rfl
 | 127,_=>rfl
 | 128,_=>rfl
 | 129,_=>rfl
 | 130,_=>rfl
 | 131,_=>rfl
 | 132,_=>rfl
 | 133,_=>rfl
 | 134,_=>rfl
 | 135,_=>rfl
 | 136,_=>rfl
 | 137,_=>rfl
 | 138,_=>rfl
 | 139,_=>rfl
 | 140,_=>rfl
 | 141,_=>rfl
 | 142,_=>rfl
 | 143,_=>rfl
 | 144,_=>rfl
 | 145,_=>rfl
 | 146,_=>rfl
 | 147,_=>rfl
 | 148,_=>rfl
 | 149,_=>rfl
 | 150,_=>rfl
 | 151,_=>rfl
 | 152,_=>rfl
 | 153,_=>rfl
 | 154,_=>rfl
 | 155,_=>rfl
 | 156,_=>rfl
 | 157,_=>rfl
 | k+158,h=>absurd h og
theorem SX:Em 0=fun _=>0:=by
 funext q;simp only[Em];rw[if_neg og]
theorem SS.la{s s':SS}(h:s'.ax=s.ax):∀ (k:Nat) (n:Int),s'.je k n=s.je k n
 | 0,_=>rfl
 | k+1,n=>by simp only[SS.je,h,SS.la h k]
def SS.Gy{s:SS}{aL:Int->Nat}(hD:s.Deep aL):∀ (k:Nat) (n:Int),aL n=k->0<=n->n<6->s.aa n=true->∀ a∈s.je k n,0<=a/\a<6/\s.aa a=true
 | 0,n,hk,h0,h6,hh,a,ha=>by have:=(hD.d n h0 h6 hh).1;omega
 | k+1,n,hk,h0,h6,hh,a,ha=>by
  obtain⟨_,_,h3⟩:=hD.d n h0 h6 hh;simp only[SS.je,List.mem_cons]at ha;rcases ha with rfl | ha
  ·simp_all
  ·rcases h3 with⟨_,h4⟩ | ⟨h4,h5,ZD,h7⟩
   ·simp_all[je]
   ·exact SS.Gy hD k _ og h4 h5 ZD a ha
def rH{zs:List Int}(h:0<=z/\z<zs.length):il zs z∈zs:=by
 grind [il]
def Fc{s:SS}(hD:s.Deep aL)(h:0<=n/\n<6/\s.aa n=true)(hz:0<=z/\z<(s.cF aL n).length):0<=il (s.cF aL n) z/\il (s.cF aL n) z<6/\s.aa (il (s.cF aL n) z)=true:=
 SS.Gy hD _ n rfl h.1 h.2.1 h.2.2 _ (rH hz)
theorem I1{zs:List Int}(h:0<=z/\z<zs.length):zs.drop z.toNat=il zs z::zs.drop (z+1).toNat:=by
 grind [List.drop_eq_getElem_cons,il]
theorem Pn(hk:1<=k/\k<=20)(h:w a k<0)(hn:∀ j:Int,1<=j->j<k->¬w a j<0):tr w a p=cv w a k p:=by
 unfold tr;rw[eo (k:=k-1) og og (by rw[show k-1+1=k from og];simpa using h) fun j h1 h2=>by simpa using hn (j+1) og og];grind
theorem Po(hn:∀ j:Int,1<=j->j<21->¬w a j<0):tr w a p=w:=by
 grind [tr,dC]
theorem xc{s:SS}(h:s.is n≠0):s.enter aL n p=(0,s.is n,s):=by grind [SS.enter]
theorem oN{s:SS}(h:s.is n=0)(h2:p<0\/20<=p):s.enter aL n p=(0,1,s):=by grind [SS.enter]
theorem tu{s:SS}(h:s.is n=0)(h2:¬(p<0\/20<=p))(h3:0<=s.loc p):s.enter aL n p=(0,3,s):=by grind [SS.enter]
theorem SS.xd{s:SS}(h:s.is n=0)(h2:¬(p<0\/20<=p))(h3:¬ 0<=s.loc p):s.enter aL n p=(((s.eR aL n p).gh p n).1,((s.eR aL n p).gh p n).2,s.eR aL n p):=by grind [SS.enter]
def A4(w:Int->Int->Int)(a p k:Int):Int->Int->Int:=fun m q=>if m=a/\0<=q/\q<k/\w m q=p then-1 else w m q
theorem Pp(w:Int->Int->Int)(a p:Int):A4 w a p 0=w:=by
 grind [A4]
theorem I2(hk:0<=k)(h:w a k=p):cv (A4 w a p k) a k (-1)=A4 w a p (k+1):=by
 grind [cv,A4]
theorem Fe(h:¬w a k=p):A4 w a p k=A4 w a p (k+1):=by
 grind [A4]
def Lv(w:Int->Int->Int)(l:List Int)(p:Int):Int->Int->Int:=fun m q=>if m∈l/\0<=q/\q<21/\w m q=p then-1 else w m q
theorem SY(w:Int->Int->Int)(p:Int):Lv w [] p=w:=by
 rfl
theorem Pq{l:List Int}(hp:0<=p)(hz:0<=z/\z<l.length):A4 (Lv w (l.take z.toNat) p) (il l z) p 21=Lv w (l.take (z+1).toNat) p:=by
 have h2:z.toNat<l.length:=og;have ht:l.take (z+1).toNat=l.take z.toNat++[il l z]:=by
  rw[show(z+1).toNat=z.toNat+1 from og,List.take_add_one];grind [il]
 grind [A4,Lv]
theorem SZ{s:SS}{l:List Int}(hW:∀ n q,s.bG n q=p->n∈l/\0<=q/\q<21):Lv s.bG l p=fun n q=>if s.bG n q=p then-1 else s.bG n q:=by
 grind [Lv]
structure SS.Inv (s:SS) (aL:Int->Nat):Prop where
 D:s.Deep aL
 A:∀ k,s.aa k=false->∀ j,s.bG k j= -1
 z:∀ n,s.bG n 0= -1
 lo:∀ n q,-1<=s.bG n q
 loc:∀ p,-1<=s.loc p/\s.loc p<6
 at_:∀ p,0<=p->p<20->0<=s.loc p->s.aa (s.loc p)=true
 mem:∀ n q p,0<=p->s.bG n q=p->p<20/\0<q/\q<21/\0<=s.loc p/\n∈s.cF aL (s.loc p)
 inj:∀ n q q',0<=s.bG n q->s.bG n q'=s.bG n q->q'=q
 has:∀ p,0<=p->p<20->0<=s.loc p->∀ n∈s.cF aL (s.loc p),∃ q,s.bG n q=p
theorem SS.Inv.cK:SS.cK.Inv (fun _=>1) where
 D:=⟨fun n h0 h6 hh=>by
  have hn:n=0:=by
   by_cases q:n=0
   ·exact q
   ·simp[SS.cK,SS.nU,SS.zero,ad,q]at hh
  subst hn
  exact⟨og,og,.inl ⟨by simp[SS.cK,SS.nU,ad],rfl⟩⟩⟩
 A:=fun _ _ _=>rfl
 z:=fun _=>rfl
 lo:=fun _ _=>by show(-1:Int)<= -1;omega
 loc:=fun p=>by
  show-1<=Em 20 p/\Em 20 p<6
  unfold Em;split<;>omega
 at_:=fun p h0 h1 h2=>by
  have:SS.cK.loc p= -1:=by show Em 20 p= -1;unfold Em;rw[if_pos ⟨h0,h1⟩]
  omega
 mem:=fun n q p h0 h1=>by
  have:SS.cK.bG n q= -1:=rfl
  omega
 inj:=fun n q q' h0 _=>by
  have:SS.cK.bG n q= -1:=rfl
  omega
 has:=fun p h0 h1 h2=>by
  have:SS.cK.loc p= -1:=by show Em 20 p= -1;unfold Em;rw[if_pos ⟨h0,h1⟩]
  omega
def SS.Nr{s:SS}{aL:Int->Nat}(hD:s.Deep aL):∀ (k:Nat) (n:Int),aL n=k->0<=n->n<6->s.aa n=true->∀ a∈s.je k n,aL a<=k
 | 0,n,hk,h0,h6,hh,a,ha=>by have:=(hD.d n h0 h6 hh).1;omega
 | k+1,n,hk,h0,h6,hh,a,ha=>by
  obtain⟨_,_,h3⟩:=hD.d n h0 h6 hh;simp only[SS.je,List.mem_cons]at ha;rcases ha with rfl | ha
  ·omega
  ·rcases h3 with⟨_,h4⟩ | ⟨h4,h5,ZD,h7⟩
   ·simp_all[je]
   ·have:=SS.Nr hD k _ og h4 h5 ZD a ha;omega
def SS.uF{s:SS}{aL:Int->Nat}(hD:s.Deep aL):∀ (k:Nat) (n:Int),aL n=k->0<=n->n<6->s.aa n=true->(s.je k n).Nodup
 | 0,n,_,_,_,_=>List.nodup_nil
 | k+1,n,hk,h0,h6,hh=>by
  obtain⟨_,_,h3⟩:=hD.d n h0 h6 hh;rw[SS.je,List.nodup_cons];rcases h3 with⟨_,h4⟩ | ⟨h4,h5,ZD,h7⟩
  ·simp_all[je]
  ·refine⟨fun hm=> ?_,SS.uF hD k _ og h4 h5 ZD⟩;have:=SS.Nr hD k _ og h4 h5 ZD n hm;omega
def Xd(h:∃ q,1<=q/\q<=20/\w a q<0):∃ k,1<=k/\k<=20/\w a k<0/\tr w a p=cv w a k p:=by
 unfold tr;cases hf:dv (fun q=>decide (w a (q+1)<0)) 20 with
 | none=>
  exfalso;obtain⟨q,h1,h2,h3⟩:=h;unfold dv at hf;have:=List.find?_eq_none.1 hf (q-1).toNat (List.mem_range.2 og);simp only[show(((q-1).toNat:Nat):Int)+1=q from og]at this;simp[h3]at this
 | some k=>
  unfold dv at hf;have h1:=List.find?_some hf;have h2:=List.mem_range.1 (List.mem_of_find?_eq_some hf);exact⟨(k:Int)+1,og,og,by simpa using h1,rfl⟩
def uG(p:Int):∀ (l:List Int) (w:Int->Int->Int),l.Nodup->(∀ a∈l,∃ q,1<=q/\q<=20/\w a q<0)->
  (∀ a,¬a∈l->∀ q,iv w p l a q=w a q)/\(∀ a∈l,∃ k,1<=k/\k<=20/\w a k<0/\∀ q,iv w p l a q=if q=k then p else w a q)
 | [],w,_,_=>⟨fun _ _ _=>rfl,fun a ha=>by cases ha⟩
 | b::r,w,hn,hf=>by
  obtain⟨hb,hr⟩:=List.nodup_cons.1 hn;obtain⟨k,k1,k2,k3,k4⟩:=Xd (p:=p) (hf b sq);have fM:∀ a,¬a=b->∀ q,tr w b p a q=w a q:=fun a ha q=>by rw[k4];simp[cv,ha]
  obtain⟨i1,i2⟩:=uG p r (tr w b p) hr (fun a ha=>by
   have S7:¬a=b:=by rintro rfl;exact hb ha
   obtain⟨q,q1,q2,q3⟩:=hf a (by simp[ha])
   exact⟨q,q1,q2,by rw[fM a S7];exact q3⟩)
  refine⟨fun a ha q=> ?_,fun a ha=> ?_⟩
  ·simp only[List.mem_cons,not_or]at ha;rw[iv,i1 a ha.2,fM a ha.1]
  ·by_cases S7:a=b
   ·subst S7;refine⟨k,k1,k2,k3,fun q=> ?_⟩;rw[iv,i1 a hb,k4];simp[cv]
   ·have har:a∈r:=by simpa [S7]using ha
    obtain⟨j,j1,j2,j3,j4⟩:=i2 a har;refine⟨j,j1,j2,by rw[<-fM a S7];exact j3,fun q=> ?_⟩;rw[iv,j4,fM a S7]
def B7:∀ (n m:Nat) (f:Nat->Nat),n<m->(∀ i,i<m->f i<n)->∃ i j,i<j/\j<m/\f i=f j
 | 0,m,f,h,hf=>absurd (hf 0 h) og
 | n+1,m,f,h,hf=>by
  by_cases he:∃ i,i<m-1/\f i=f (m-1)
  ·obtain⟨i,h1,h2⟩:=he;exact⟨i,m-1,h1,og,h2⟩
  ·have fM:∀ i,i<m-1->¬f i=f (m-1):=fun i hi e=>he ⟨i,hi,e⟩;have hv:=hf (m-1) og;obtain⟨i,j,h1,h2,h3⟩:=B7 n (m-1) (fun i=>if f i=n then f (m-1)else f i) og (fun i hi=>by
    have a1:=hf i og
    have a2:=fM i hi
    show(if f i=n then f (m-1)else f i)<n
    split<;>omega)
   refine⟨i,j,h1,og,?_⟩;have a1:=fM i og;have a2:=fM j og;split at h3<;>split at h3<;>omega
def SS.Inv.aba{s:SS}(h:s.Inv aL)(hp:0<=p)(hl:¬ 0<=s.loc p)(n q:Int):¬s.bG n q=p:=fun e=>hl (h.mem n q p hp e).2.2.2.1
theorem SS.Inv.free{s:SS}(h:s.Inv aL)(hp:0<=p/\p<20)(hl:¬ 0<=s.loc p)(a:Int):∃ q,1<=q/\q<=20/\s.bG a q<0:=by
 apply Classical.byContradiction;intro hc;have hg:∀ q:Int,1<=q->q<=20->0<=s.bG a q:=fun q h1 h2=>by
  simp_all
 have hx:∀ i:Nat,i<20->0<=s.bG a (i+1)/\s.bG a (i+1)<20/\¬s.bG a (i+1)=p:=fun i hi=>by
  have h0:=hg (i+1) og og;exact⟨h0,(h.mem a _ _ h0 rfl).1,h.aba hp.1 hl _ _⟩
 obtain⟨i,j,h1,h2,h3⟩:=B7 19 20 (fun i=>if s.bG a (i+1)>p then(s.bG a (i+1)-1).toNat else(s.bG a (i+1)).toNat) og (fun i hi=>by
  obtain⟨a1,a2,a3⟩:=hx i hi
  show(if s.bG a (i+1)>p then(s.bG a (i+1)-1).toNat else(s.bG a (i+1)).toNat)<19
  split<;>omega)
 obtain⟨a1,a2,a3⟩:=hx i og;obtain⟨b1,b2,b3⟩:=hx j h2;have he:s.bG a (i+1)=s.bG a (j+1):=by split at h3<;>split at h3<;>omega
 grind [SS.Inv.inj]
theorem SS.Inv.eR{s:SS}{aL:Int->Nat}(h:s.Inv aL){n p:Int}(hn:0<=n/\n<6/\s.aa n=true)(hp:0<=p/\p<20)(hl:¬ 0<=s.loc p):(s.eR aL n p).Inv aL:=by
 have lE:∀ m,(s.eR aL n p).cF aL m=s.cF aL m:=fun m=>SS.la (s:=s) (s':=s.eR aL n p) rfl _ _;obtain⟨e1,e2⟩:=uG p (s.cF aL n) s.bG (SS.uF h.D _ n rfl hn.1 hn.2.1 hn.2.2) fun a _=>h.free hp hl a;have vm:∀ a∈s.cF aL n,0<=a/\a<6/\s.aa a=true:=SS.Gy h.D _ n rfl hn.1 hn.2.1 hn.2.2;have hw:(s.eR aL n p).bG=iv s.bG p (s.cF aL n):=rfl;have I3:(s.eR aL n p).loc=ad s.loc p n:=rfl;have hq:∀ m q,(s.eR aL n p).bG m q=s.bG m q\/((s.eR aL n p).bG m q=p/\m∈s.cF aL n/\1<=q/\q<=20):=fun m q=>by
  rw[hw];grind
 refine⟨⟨h.D.d⟩,fun k hk j=> ?_,fun m=> ?_,fun m q=> ?_,fun x=> ?_,fun x x0 x1 x2=> ?_,fun m q x x0 hx=> ?_,fun m q q' h0 he=> ?_,fun x x0 x1 x2 m hm=> ?_⟩
 ·grind [SS.eR,Inv]
 ·grind [Inv]
 ·grind [Inv]
 ·rw[I3];unfold ad;split;all_goals grind [Inv]
 ·rw[I3]at x2 ⊢;grind [ad,SS.eR,Inv]
 ·rw[I3,lE];grind [ae,aj,Inv]
 ·rw[hw]at h0 he;by_cases hm:m∈s.cF aL n
  ·obtain⟨k,k1,k2,k3,k4⟩:=e2 m hm;grind [Inv]
  grind [Inv]
 ·rw[hw];rw[I3]at x2 hm;rw[lE]at hm;by_cases Ns:x=p
  ·grind [aj]
  ·rw[ae _ _ Ns]at x2 hm;obtain⟨q,hq⟩:=h.has x x0 x1 x2 m hm;grind
theorem SS.Inv.enter{s:SS}{aL:Int->Nat}(h:s.Inv aL)(n p:Int):(s.enter aL n p).2.2.Inv aL:=by
 by_cases h1:s.is n=0
 ·by_cases h2:p<0\/20<=p
  ·grind [oN]
  ·by_cases h3:0<=s.loc p
   ·grind [tu]
   ·rw[SS.xd h1 h2 h3];rcases s.jx n with⟨_,q1,q2,q3⟩ | ⟨q,_⟩ | ⟨q,_⟩
    ·exact h.eR ⟨q1,q2,q3⟩ og h3
    all_goals omega
 grind [xc]
theorem SS.Inv.left{s:SS}{aL:Int->Nat}(h:s.Inv aL){p:Int}(hp:0<=p):(s.left p).Inv aL:=by
 have lE:∀ m,(s.left p).cF aL m=s.cF aL m:=fun m=>SS.la (s:=s) (s':=s.left p) rfl _ _;have hw:∀ n q,(s.left p).bG n q=if s.bG n q=p then-1 else s.bG n q:=fun _ _=>rfl
 have I3:(s.left p).loc=ad s.loc p (-1):=rfl;refine⟨⟨h.D.d⟩,fun k hk j=> ?_,fun m=> ?_,fun m q=> ?_,fun x=> ?_,fun x x0 x1 x2=> ?_,fun m q x x0 hx=> ?_,fun m q q' h0 he=> ?_,fun x x0 x1 x2 m hm=> ?_⟩
 ·rw[hw];split
  ·rfl
  ·exact h.A k hk j
 ·rw[hw];split
  ·rfl
  ·exact h.z m
 ·rw[hw];split
  ·omega
  ·exact h.lo m q
 ·rw[I3];unfold ad;split
  ·omega
  ·exact h.loc x
 ·rw[I3]at x2 ⊢;show s.aa _=true;by_cases Ns:x=p
  ·rw[Ns,aj]at x2;omega
  ·rw[ae _ _ Ns]at x2 ⊢;exact h.at_ x x0 x1 x2
 ·rw[hw]at hx;rw[I3,lE];split at hx
  ·omega
  ·rename_i fM;rw[ae _ _ (by omega:¬x=p)];exact h.mem m q x x0 hx
 ·rw[hw]at h0 he;rw[hw m q]at he;by_cases c1:s.bG m q=p
  ·rw[if_pos c1]at h0;omega
  ·rw[if_neg c1]at h0 he;by_cases c2:s.bG m q'=p
   ·rw[if_pos c2]at he;omega
   ·rw[if_neg c2]at he;exact h.inj m q q' h0 he
 ·rw[I3]at x2 hm;rw[lE]at hm;by_cases Ns:x=p
  ·rw[Ns,aj]at x2;omega
  ·rw[ae _ _ Ns]at x2 hm;obtain⟨q,hq⟩:=h.has x x0 x1 x2 m hm;exact⟨q,by rw[hw,hq,if_neg Ns]⟩
theorem SS.Inv.fi{s:SS}{aL:Int->Nat}(h:s.Inv aL)(p:Int):(s.fi p).2.Inv aL:=by
 unfold SS.fi;by_cases h1:(s.bM p).2=0
 ·rw[if_neg (by simp[h1])];apply h.left;grind [IU]
 simp_all
theorem SS.oO{s s':SS}{aL Xe:Int->Nat}(hD:s.Deep aL)(hs:∀ n,0<=n->n<6->s.aa n=true->s'.ax n=s.ax n):∀ (k:Nat) (n:Int),aL n=k->0<=n->n<6->s.aa n=true->s'.je k n=s.je k n
 | 0,_,_,_,_,_=>rfl
 | k+1,n,hk,h0,h6,hh=>by
  obtain⟨_,_,h3⟩:=hD.d n h0 h6 hh;rw[SS.je,SS.je,hs n h0 h6 hh];rcases h3 with⟨_,h4⟩ | ⟨h4,h5,ZD,h7⟩
  ·simp_all[je]
  ·rw[SS.oO (Xe:=Xe) hD hs k _ og h4 h5 ZD]
def SS.Pr(s:SS)(aL:Int->Nat)(p:Int):Int->Nat:=if(s.add aL p).2.1=0 then ad aL (s.add aL p).1 (aL p+1)else aL
theorem SS.Inv.aet{s:SS}(h:s.Inv aL)(hp:0<=p/\p<6/\s.aa p=true)(hd:¬aL p=4)(hk:0<=k/\k<6)(hh:s.aa k=false):({s with aa:=ad s.aa k true,ax:=ad s.ax k p} :SS).Inv (ad aL k (aL p+1)):=by
 have fM:∀ n,s.aa n=true->¬n=k:=by rintro n hn rfl;rw[hh]at hn;cases hn
 have lE:∀ n,0<=n->n<6->s.aa n=true->({s with aa:=ad s.aa k true,ax:=ad s.ax k p} :SS).cF (ad aL k (aL p+1)) n=s.cF aL n:=fun n h0 h6 hn=>by
  unfold SS.cF;rw[ae _ _ (fM n hn)];exact SS.oO (Xe:=aL) h.D (fun m _ _ hm=>ae _ _ (fM m hm)) _ n rfl h0 h6 hn
 have Ep:∀ x,0<=x->x<20->0<=s.loc x->s.loc x<6/\s.aa (s.loc x)=true:=fun x x0 x1 x2=>⟨(h.loc x).2,h.at_ x x0 x1 x2⟩;refine⟨⟨fun n h0 h6 hn=> ?_⟩,fun m hm j=> ?_,h.z,h.lo,h.loc,fun x x0 x1 x2=> ?_,fun m q x x0 hx=> ?_,h.inj,fun x x0 x1 x2 m hm=> ?_⟩
 ·by_cases hnk:n=k
  ·subst hnk;show 1<=ad aL n (aL p+1) n/\ad aL n (aL p+1) n<=4/\((ad s.ax n p n= -1/\_)\/(0<=ad s.ax n p n/\ad s.ax n p n<6/\ad s.aa n true (ad s.ax n p n)=true/\ad aL n (aL p+1) n=ad aL n (aL p+1) (ad s.ax n p n)+1));rw[aj,aj,ae _ _ (fM p hp.2.2),ae _ _ (fM p hp.2.2)];have:=(h.D.d p hp.1 hp.2.1 hp.2.2).2.1;grind
  ·have hn':s.aa n=true:=by
    grind [ae]
   show 1<=ad aL k (aL p+1) n/\ad aL k (aL p+1) n<=4/\((ad s.ax k p n= -1/\ad aL k (aL p+1) n=1)\/(0<=ad s.ax k p n/\ad s.ax k p n<6/\ad s.aa k true (ad s.ax k p n)=true/\ad aL k (aL p+1) n=ad aL k (aL p+1) (ad s.ax k p n)+1));rw[ae _ _ hnk,ae _ _ hnk];obtain⟨a1,a2,a3⟩:=h.D.d n h0 h6 hn';grind [ad]
 ·grind [ae,Inv]
 all_goals grind [ae,Inv]
def SS.mF(s:SS)(aL:Int->Nat)(p:Int):((s.add aL p).2.1≠0/\(s.add aL p).1=0/\(s.add aL p).2.2=s)\/(∃ k,s.is p=0/\¬aL p=4/\(0<=k/\k<6)/\s.aa k=false/\s.add aL p=(k,0,{s with aa:=ad s.aa k true,ax:=ad s.ax k p})):=by
 grind [SS.add,dv]
theorem SS.Inv.add{s:SS}{aL:Int->Nat}(h:s.Inv aL)(p:Int):(s.add aL p).2.2.Inv (s.Pr aL p):=by
 unfold SS.Pr;rcases s.mF aL p with⟨h1,_,h2⟩ | ⟨k,h1,h2,h3,h4,h5⟩
 ·simp_all
 ·rw[h5,if_pos rfl];rcases s.jx p with⟨_,q1,q2,q3⟩ | ⟨q,_⟩ | ⟨q,_⟩;all_goals grind [SS.Inv.aet]
def vv{f:Int->Int} :∀ {k:Nat},¬(dH f k).length>0->∀ j:Nat,j<k->f j<0
 | 0,_,j,hj=>og
 | k+1,h,j,hj=>by
  simp only[dH,List.length_append]at h;by_cases hk:j=k
  ·subst hk;by_cases hf:f j>=0
   ·rw[if_pos hf]at h;simp at h
   ·omega
  ·exact vv (k:=k) og j og
def SS.Inv.Xf{s:SS}(h:s.Inv aL)(hm:¬(s.cU n).length>0)(j:Int):s.bG n j= -1:=by
 have h0:=h.lo n j;by_cases hj:0<=s.bG n j
 ·obtain⟨_,a2,a3,_⟩:=h.mem n j _ hj rfl;have:=vv hm j.toNat og;grind
 omega
def SS.Inv.Xg{s:SS}(h:s.Inv aL)(hm:¬(s.cU n).length>0)(hk:∀ j:Int,0<=j->j<6->¬(s.aa j=true/\s.ax j=n)):({s with aa:=ad s.aa n false,ax:=ad s.ax n 0} :SS).Inv aL:=by
 have hh:∀ m,ad s.aa n false m=true->¬m=n/\s.aa m=true:=fun m hm=>by
  by_cases q:m=n
  ·rw[q,aj]at hm;cases hm
  ·rw[ae _ _ q]at hm;exact⟨q,hm⟩
 have hD:({s with aa:=ad s.aa n false,ax:=ad s.ax n 0} :SS).Deep aL:=⟨fun m h0 h6 VZ=>by
  obtain⟨q1,q2⟩:=hh m VZ
  obtain⟨a1,a2,a3⟩:=h.D.d m h0 h6 q2
  refine⟨a1,a2,?_⟩
  show(ad s.ax n 0 m= -1/\_)\/(0<=ad s.ax n 0 m/\ad s.ax n 0 m<6/\ad s.aa n false (ad s.ax n 0 m)=true/\aL m=aL (ad s.ax n 0 m)+1)
  rw[ae _ _ q1]
  rcases a3 with a3 | ⟨b1,b2,b3,b4⟩
  ·exact .inl a3
  ·refine .inr ⟨b1,b2,?_,b4⟩
   rw[ae _ _ fun e=>hk m h0 h6 ⟨q2,e⟩]
   exact b3⟩
 have wK:=h.Xf hm;have ZE:∀ x,0<=x->x<20->0<=s.loc x->¬s.loc x=n:=by
  intro x x0 x1 x2 e;have b1:=(h.D.d _ x2 (h.loc x).2 (h.at_ x x0 x1 x2)).1;have vm:n∈s.cF aL (s.loc x):=by
   unfold SS.cF;obtain⟨d,hd⟩:∃ d,aL (s.loc x)=d+1:=⟨aL (s.loc x)-1,og⟩;rw[hd,SS.je,e];simp
  obtain⟨q,hq⟩:=h.has x x0 x1 x2 n vm;have:=wK q;omega
 have lE:∀ m,0<=m->m<6->ad s.aa n false m=true->({s with aa:=ad s.aa n false,ax:=ad s.ax n 0} :SS).cF aL m=s.cF aL m:=fun m h0 h6 VZ=>by
  unfold SS.cF;exact(SS.oO (s:=({s with aa:=ad s.aa n false,ax:=ad s.ax n 0} :SS)) (s':=s) (Xe:=aL) hD (fun m' _ _ hm'=>(ae s.ax 0 (hh m' hm').1).symm) _ m rfl h0 h6 VZ).symm
 have Ep:∀ x,0<=x->x<20->0<=s.loc x->s.loc x<6/\ad s.aa n false (s.loc x)=true:=fun x x0 x1 x2=>⟨(h.loc x).2,by rw[ae _ _ (ZE x x0 x1 x2)];exact h.at_ x x0 x1 x2⟩;refine⟨hD,fun m VZ j=> ?_,h.z,h.lo,h.loc,fun x x0 x1 x2=>(Ep x x0 x1 x2).2,fun m q x x0 hx=> ?_,h.inj,fun x x0 x1 x2 m VZ=> ?_⟩
 ·by_cases q:m=n
  ·subst q;exact wK j
  ·have:ad s.aa n false m=false:=VZ;rw[ae _ _ q]at this;exact h.A m this j
 ·obtain⟨a1,a2,a3,a4,a5⟩:=h.mem m q x x0 hx;obtain⟨b1,b2⟩:=Ep x x0 a1 a4;exact⟨a1,a2,a3,a4,by rw[lE _ a4 b1 b2];exact a5⟩
 ·obtain⟨b1,b2⟩:=Ep x x0 x1 x2;rw[lE _ x2 b1 b2]at VZ;exact h.has x x0 x1 x2 m VZ
theorem SS.Inv.drop{s:SS}{aL:Int->Nat}(h:s.Inv aL)(n:Int):(s.drop n).2.Inv aL:=by
 unfold SS.drop;by_cases h1:s.is n≠0
 ·simp_all
 ·rw[if_neg h1];by_cases h2:n=0\/(s.cU n).length>0
  ·simp_all
  ·rw[if_neg h2];cases hf:s.kids n with
   | some k=>exact h
   | none=>
    refine h.Xg og fun j h3 h4=> ?_;unfold SS.kids dv at hf;have:=List.find?_eq_none.1 hf j.toNat (List.mem_range.2 og);rw[show((j.toNat:Nat):Int)=j from og]at this;simp at this;rintro⟨e1,e2⟩;exact this e1 e2
theorem SS.Inv.V6{s:SS}(h:s.Inv aL)(n q:Int): -1<=s.bG n q/\s.bG n q<20:=by
 grind [Inv]
def SS.Xh(s:SS)(n:Int):(s.mem n).1.length<=21:=by
 unfold SS.mem;split
 ·simp
 ·exact nD _ _
structure TS (s:SS) (aL:Int->Nat) (f:Int->Int):Prop where
 ec:s.Inv aL
 nU:s.aa 0=true
 ax:∀ n,s.aa n=true->f n=s.ax n
theorem TS.add{s:SS}{aL:Int->Nat}{f:Int->Int}(h:TS s aL f){p:Int}(he:(s.add aL p).2.1=0):1<=(s.add aL p).1/\(s.add aL p).1<=5/\TS (s.add aL p).2.2 (s.Pr aL p) (ad f (s.add aL p).1 p):=by
 have hi:=h.ec.add p;rcases s.mF aL p with⟨h1,_,h2⟩ | ⟨k,h1,h2,h3,h4,h5⟩
 ·omega
 ·rw[h5]at hi ⊢;have hk:¬k=0:=by rintro rfl;rw[h.nU]at h4;cases h4
  refine⟨by simp only[];omega,by simp only[];omega,hi,?_,fun n hn=> ?_⟩
  ·grind [ae,TS.nU]
  ·have hn':ad s.aa k true n=true:=hn;show ad f k p n=ad s.ax k p n;by_cases q:n=k
   ·grind [ad]
   ·rw[ae _ _ q,ae _ _ q];rw[ae _ _ q]at hn';exact h.ax n hn'
theorem TS.drop{s:SS}{aL:Int->Nat}{f:Int->Int}(h:TS s aL f)(n:Int):TS (s.drop n).2 aL f:=by
 refine⟨h.ec.drop n,?_,fun m hm=> ?_⟩
 ·unfold SS.drop;split
  ·exact h.nU
  ·split
   ·exact h.nU
   ·rename_i q;split;all_goals grind [TS.nU,ae]
 ·unfold SS.drop at hm ⊢;split
  ·rename_i q;rw[if_pos q]at hm;exact h.ax m hm
  ·rename_i q;rw[if_neg q]at hm;split
   ·rename_i q2;rw[if_pos q2]at hm;exact h.ax m hm
   ·rename_i q2;rw[if_neg q2]at hm;cases hk:s.kids n with
    | some k=>rw[hk]at hm;exact h.ax m hm
    | none=>
     rw[hk]at hm;have hm':ad s.aa n false m=true:=hm;show f m=ad s.ax n 0 m;by_cases c:m=n
     ·grind [aj]
     ·rw[ae _ _ c]at hm' ⊢;exact h.ax m hm'
end Go.X.Sp
