import Derived.Test.YthdinakloheinaaGreatDoorXMore
set_option linter.all false
namespace Go.X.Sg
open Go Go.X
variable{on:Bool}{h n:Int}{x:Nat}
def ma(f:Int->Bool):Nat->Nat
 | 0=>0
 | n+1=>ma f n|||(if f n then 2^n else 0)
theorem iw(f:Int->Bool)(n j:Nat):(ma f n).testBit j=(decide (j<n)&&f j):=by
 induction n with
 | zero=>simp[ma]
 | succ n ih=>
  simp only[ma,Nat.testBit_or,ih];by_cases h:j=n
  ·grind
  ·grind
def ph(f:Int->Bool):Nat:=ma f 9
theorem lI(f:Int->Bool)(j:Nat):(ph f).testBit j=(decide (j<9)&&f j):=iw f 9 j
def jB(f:Int->Bool):ph f<2^IntKind.u16.bits:=by
 refine Nat.lt_of_lt_of_le (m:=2^9) ?_ dq;apply Nat.lt_pow_two_of_testBit;grind [lI]
def iO(h:1<=n/\n<=8):2^n.toNat<2^IntKind.u16.bits:=Nat.pow_lt_pow_right og (by show n.toNat<16;omega)
def uM(h:1<=n/\n<=8:=by omega):IntKind.u16.wrap (1*2^(min n.toNat IntKind.u16.bits))=((2^n.toNat:Nat):Int):=by
 have:n=1\/n=2\/n=3\/n=4\/n=5\/n=6\/n=7\/n=8:=og;rcases this with rfl | rfl | rfl | rfl | rfl | rfl | rfl | rfl<;>decide
def Jh(f:Int->Bool)(h:1<=n/\n<=8:=by omega):ph f|||2^n.toNat=ph (ae f n true):=by
 apply Nat.eq_of_testBit_eq;grind [lI,ae]
def rA(f:Int->Bool)(h:1<=n/\n<=8:=by omega):kI (ph f) (2^n.toNat)=ph (ae f n false):=by
 apply Nat.eq_of_testBit_eq;grind [lI,ae,kI]
structure BS where
 dY:Int->Bool
 bj:Int->Bool
 kg:Int->Int
def BS.cP:BS:=⟨fun _=>false,fun _=>false,fun _=>0⟩
def BS.zz(s:BS)(n:Int):Int:=if n=3/\s.kg n=0 then 1 else s.kg n
def BS.num(n:Int):Bool:=decide (1<=n/\n<=8)
def BS.send(s:BS)(n:Int):Int×BS:=if BS.num n then(0,if s.zz n=1 then s else {s with dY:=ae s.dY n true})else(1,s)
def BS.dP(s:BS)(n:Int)(on:Bool):Int×BS:=if BS.num n then(if n=1 then(8,s)else(0,{s with bj:=ae s.bj n on}))else(1,s)
def BS.set(s:BS)(n h:Int):Int×BS:=
 if BS.num n=true/\0<=h/\h<=2 then(if n=1 then(8,s)else
  (0,if({s with kg:=ae s.kg n h} :BS).zz n=1 then {dY:=ae s.dY n false,bj:=s.bj,kg:=ae s.kg n h} else {s with kg:=ae s.kg n h}))else(1,s)
def BS.first(s:BS)(h:Int):Int:=match dv (fun k=>s.dY k&&(!s.bj k&&decide (s.kg k=h))) 9 with
 | some k=>k
 | none=>0
def BS.take(s:BS):Int×BS:=(s.first 2,{s with dY:=ae s.dY (s.first 2) false})
def BS.bA(s:BS):BS:= {s with dY:=fun _=>false}
def cW(i:Nat):Value:=.int .u8 ((([0,1,28,2,29,14,24,3,30,22,20,15,25,17,4,8,31,27,13,23,21,19,16,7,26,12,18,6,11,5,10,9]:List Int)[i]?).getD 0)
def fu(s:BS)(i:Nat):Value:=
 if i=0 then .int .u16 (((ph s.dY):Nat):Int)else
 if i=1 then .int .u16 (((ph s.bj):Nat):Int)else
 if 2<=i/\(i-2)%1=0/\(i-2)/1<9 then iI (s.kg (((i-2)/1:Nat):Int))else
 undef
def nU(s:BS):(0+0)<11/\fu s (0+0)= .int .u16 (((ph s.dY):Nat):Int):=by
 grind [fu]
def nV(s:BS):(0+1)<11/\fu s (0+1)= .int .u16 (((ph s.bj):Nat):Int):=by
 grind [fu]
def mN(s:BS)(z0:Int)(q0:0<=z0/\z0<9:=by omega):((0+2)+z0.toNat*1)<11/\fu s ((0+2)+z0.toNat*1)=iI (s.kg z0):=by
 grind [fu]
def EA(s:BS)(z0:Int)(q0:0<=z0/\z0<9)(v:Int):((0+2)+z0.toNat*1)<11/\dE (fu s) ((0+2)+z0.toNat*1) (iI (v))=fu ({s with kg:=ae s.kg z0 v}):=by
 grind [dE,ae,fu]
theorem gr(n:Int):BS.num n=true↔1<=n/\n<=8:=by simp[BS.num]
theorem EB{s:BS}{k:Int}(h0:0<=k/\k<9)(hw:s.dY k=true)(hh:s.bj k=false)(he:s.kg k=h)(hn:∀ j:Int,0<=j->j<k->¬(s.dY j=true/\s.bj j=false/\s.kg j=h)):s.first h=k:=by
 unfold BS.first
 rw[dW (k:=k) h0.1 og (by simp[hw,hh,he]) (fun j h1 h2=>by
  have:=hn j h1 h2
  simp only[not_and]at this
  cases q1:s.dY j<;>cases q2:s.bj j<;>simp
  exact this q1 q2)]
 show((k.toNat:Nat):Int)=k;omega
theorem EC{s:BS}(hn:∀ j:Int,0<=j->j<9->¬(s.dY j=true/\s.bj j=false/\s.kg j=h)):s.first h=0:=by
 grind [BS.first,dL]
def BS.tu(s:BS)(h:Int)(h0:s.dY 0=false):s.first h=0\/(1<=s.first h/\s.first h<=8):=by
 grind [BS.first,dv]
def aeF{t:Nat}(ht:t<16):IntKind.u32.wrap (((2^t:Nat):Int))=((2^t:Nat):Int)/\IntKind.u32.wrap (((2^t:Nat):Int)*125613361)=((2^t*125613361%4294967296:Nat):Int)/\(((2^t*125613361%4294967296:Nat):Int)).fdiv (2^(min (27:Int).toNat IntKind.u32.bits))=((2^t*125613361%4294967296/134217728:Nat):Int)/\(2^t*125613361%4294967296/134217728)<32/\IntKind.i64.wrap (t:Int)=t:=by
 have:t=0\/t=1\/t=2\/t=3\/t=4\/t=5\/t=6\/t=7\/t=8\/t=9\/t=10\/t=11\/t=12\/t=13\/t=14\/t=15:=og;rcases this with rfl | rfl | rfl | rfl | rfl | rfl | rfl | rfl | rfl | rfl | rfl | rfl | rfl | rfl | rfl | rfl<;>decide
def LR{t:Nat}(ht:t<16):0+(((2^t*125613361%4294967296/134217728:Nat):Int)).toNat*1<32/\cW (0+(((2^t*125613361%4294967296/134217728:Nat):Int)).toNat*1)= .int .u8 (t:Int):=by
 have:t=0\/t=1\/t=2\/t=3\/t=4\/t=5\/t=6\/t=7\/t=8\/t=9\/t=10\/t=11\/t=12\/t=13\/t=14\/t=15:=og;rcases this with rfl | rfl | rfl | rfl | rfl | rfl | rfl | rfl | rfl | rfl | rfl | rfl | rfl | rfl | rfl | rfl<;>exact⟨dq,rfl⟩
def Xn(h:0<x/\x<65536):IntKind.u16.wrap (0-(x:Int))=((2^16-x:Nat):Int):=by
 have:((0-(x:Int))%(2^16:Int))=((2^16-x:Nat):Int):=by
  omega
 simpa [IntKind.wrap,IntKind.signed,IntKind.bits]using this
def Xo(h:0<x/\x<65536):IntKind.u16.wrap ((x:Int)-1)=((x-1:Nat):Int):=by
 rw[show(x:Int)-1=((x-1:Nat):Int)from og];exact IH rfl (Nat.lt_of_le_of_lt (Nat.sub_le _ _) h.2)
def Cx(x:Nat)(k:Nat):(((x >>> k)&&&1:Nat):Int)=if x.testBit k then 1 else 0:=by
 grind [Nat.shiftRight_eq_div_pow]
def uN(s:BS){w':Int->Bool}(h:x=ph w'):(0+0)<11/\dE (fu s) (0+0) (.int .u16 (x:Int))=fu {s with dY:=w'} :=by
 grind [dE,fu]
def zA(s:BS){w':Int->Bool}(h:x=ph w'):(0+1)<11/\dE (fu s) (0+1) (.int .u16 (x:Int))=fu {s with bj:=w'} :=by
 grind [dE,fu]
def mw(s:BS):0+11<=11/\dc (fu s) 0 11= .agg #[.int .u16 ((ph s.dY:Nat):Int),.int .u16 ((ph s.bj:Nat):Int),iI (s.kg 0),iI (s.kg 1),iI (s.kg 2),iI (s.kg 3),iI (s.kg 4),iI (s.kg 5),iI (s.kg 6),iI (s.kg 7),iI (s.kg 8)]:=⟨og,rfl⟩
def Th{C:Nat->Value}(hC:∀ i,11<=i->C i=undef)(s:BS):0+11<=11/\cB C 0 [.int .u16 ((ph s.dY:Nat):Int),.int .u16 ((ph s.bj:Nat):Int),iI (s.kg 0),iI (s.kg 1),iI (s.kg 2),iI (s.kg 3),iI (s.kg 4),iI (s.kg 5),iI (s.kg 6),iI (s.kg 7),iI (s.kg 8)]=fu s:=by
 refine⟨og,?_⟩;funext i;match i with
 | 0=>rfl
 | 1=>rfl
 | 2=>rfl
 | 3=>rfl
 | 4=>rfl
 | 5=>rfl
 | 6=>rfl
 | 7=>rfl
 | 8=>rfl
 | 9=>rfl
 | 10=>rfl
 | k+11=>
  have e2:fu s (k+11)=undef:=by
   grind [fu]
  rw[e2];have:=hC (k+11) og;simp[cB,dE,this]
def PT:∀ i,i<11->cellsOf (Value.agg #[.int .u16 0,.int .u16 0,iI 0,iI 0,iI 0,iI 0,iI 0,iI 0,iI 0,iI 0,iI 0]).cells i=fu BS.cP i:=fun i hi=>match i,hi with
 | 0,_=>rfl
 | 1,_=>rfl
 | 2,_=>rfl
 | 3,_=>rfl
 | 4,_=>rfl
 | 5,_=>rfl
 | 6,_=>rfl
 | 7,_=>rfl
 | 8,_=>rfl
 | 9,_=>rfl
 | 10,_=>rfl
 | k+11,h=>absurd h og
theorem LS{s:BS}(h:n<1\/n>8):s.send n=(1,s):=by
 grind [BS.send,gr]
theorem Ji{s:BS}(h:1<=n/\n<=8)(hd:s.zz n=1):s.send n=(0,s):=by
 grind [BS.send,gr]
theorem BS.Xp{s:BS}(h:1<=n/\n<=8)(hd:¬s.zz n=1):s.send n=(0,{s with dY:=ae s.dY n true}):=by
 grind [BS.send,gr]
theorem wo{s:BS}(h:n<1\/n>8):s.dP n on=(1,s):=by
 grind [BS.dP,gr]
theorem tv{s:BS}(h:n=1):s.dP n on=(8,s):=by
 subst h;rfl
theorem BS.NR{s:BS}(h:1<=n/\n<=8)(h1:¬n=1):s.dP n on=(0,{s with bj:=ae s.bj n on}):=by
 grind [BS.dP,gr]
theorem PV{s:BS}(q:n<1\/n>8\/h<0\/h>2):s.set n h=(1,s):=by
 grind [BS.set,gr]
theorem LU{s:BS}(q:n=1)(q2:0<=h/\h<=2):s.set n h=(8,s):=by
 grind [BS.set,gr]
theorem BS.Xq{s:BS}(q:1<=n/\n<=8)(q2:0<=h/\h<=2)(q1:¬n=1)(hd:({s with kg:=ae s.kg n h} :BS).zz n=1):s.set n h=(0,{dY:=ae s.dY n false,bj:=s.bj,kg:=ae s.kg n h}):=by
 grind [BS.set,gr]
theorem BS.abx{s:BS}(q:1<=n/\n<=8)(q2:0<=h/\h<=2)(q1:¬n=1)(hd:¬({s with kg:=ae s.kg n h} :BS).zz n=1):s.set n h=(0,{s with kg:=ae s.kg n h}):=by
 grind [BS.set,gr]
theorem LV{f:Int->Bool}(h:f n=false):ae f n false=f:=cy f h
theorem G9{s:BS}(h:s.first 2=0)(h0:s.dY 0=false):s.take=(0,s):=by
 simp_all[BS.take,LV]
theorem Ti(f:Int->Bool):ph f<512:=by
 have:ph f<2^9:=by
  apply Nat.lt_pow_two_of_testBit;grind [lI]
 omega
def Jj{s:BS} :∀ i,11<=i->fu s i=undef:=by
 grind [fu]
end Go.X.Sg

namespace Go.X.Sp
open Go Go.X
variable{a k n p q z:Int}{w:Int->Int->Int}{aO:Int->Nat}
structure SS where
 aa:Int->Bool
 aA:Int->Int
 bR:Int->Int->Int
 loc:Int->Int
structure FrS where
 p:Int
 f:Int->Int
def ED(k:Int):Int->Int:=fun q=>if 0<=q/\q<k then-1 else 0
theorem Jk(k:Int)(h:0<=k:=by omega):ae (ED k) k (-1)=ED (k+1):=by
 grind [ae,ED]
def PW(p:Int):Array Value:= #[.bool true,iI p,iI (-1),iI (-1),iI (-1),iI (-1),iI (-1),iI (-1),iI (-1),iI (-1),iI (-1),iI (-1),iI (-1),iI (-1),iI (-1),iI (-1),iI (-1),iI (-1),iI (-1),iI (-1),iI (-1),iI (-1),iI (-1)]
def SS.is(s:SS)(n:Int):Int:=if n<0\/6<=n then 1 else if s.aa n then 0 else 2
def SS.ja(s:SS):Nat->Int->List Int
 | 0,_=>[]
 | k+1,n=>n::s.ja k (s.aA n)
structure SS.Deep (s:SS) (aO:Int->Nat):Prop where
 d:∀ n,0<=n->n<6->s.aa n=true->1<=aO n/\aO n<=4/\((s.aA n= -1/\aO n=1)\/(0<=s.aA n/\s.aA n<6/\s.aa (s.aA n)=true/\aO n=aO (s.aA n)+1))
def SS.cC(s:SS)(aO:Int->Nat)(n:Int):List Int:=s.ja (aO n) n
theorem SS.pA(s:SS):∀ (k:Nat) (n:Int),(s.ja k n).length=k
 | 0,_=>rfl
 | k+1,n=>by simp only[SS.ja,List.length_cons,s.pA k]
def dQ(f:Int->Int):Nat->List Int
 | 0=>[]
 | k+1=>dQ f k++(if f k>=0 then [f k]else [])
def SS.dw(s:SS)(n:Int):List Int:=dQ (s.bR n) 21
def nw(f:Int->Int):∀ k,(dQ f k).length<=k
 | 0=>by simp[dQ]
 | k+1=>by
  have:=nw f k;grind [dQ]
def fl(f:Int->Bool):Nat->List Int
 | 0=>[]
 | k+1=>fl f k++(if f k then [(k:Int)]else [])
def ia(f:Int->Bool):∀ k,(fl f k).length<=k
 | 0=>by simp[fl]
 | k+1=>by
  have:=ia f k;grind [fl]
def SS.bI(s:SS)(p:Int):Int×Int:=if p<0\/20<=p then(0,1)else if s.loc p<0 then(0,2)else(s.loc p,0)
def SS.add(s:SS)(aO:Int->Nat)(p:Int):Int×Int×SS:=
 if s.is p≠0 then(0,s.is p,s)else if aO p=4 then(0,7,s)else
 match dv (fun k=> !s.aa k) 6 with
 | some k=>(k,0,{s with aa:=ae s.aa k true,aA:=ae s.aA k p})
 | none=>(0,4,s)
def SS.kids(s:SS)(n:Int):Option Nat:=dv (fun k=>s.aa k&&(s.aA k==n)) 6
def SS.drop(s:SS)(n:Int):Int×SS:=
 if s.is n≠0 then(s.is n,s)else if n=0\/(s.dw n).length>0 then(5,s)else
 match s.kids n with
 | some _=>(5,s)
 | none=>(0,{s with aa:=ae s.aa n false,aA:=ae s.aA n 0})
def SS.zero:SS:=⟨fun _=>false,fun _=>0,fun _ _=> -1,fun _=>0⟩
def SS.rB:SS:= {SS.zero with aa:=ae SS.zero.aa 0 true,aA:=ae SS.zero.aA 0 (-1)}
def SS.cP:SS:= {SS.rB with loc:=ED 20}
def tA(w:Int->Int->Int)(a p:Int):Int->Int->Int:=match dv (fun q=>decide (w a (q+1)<0)) 20 with
 | some q=>cr w a ((q:Int)+1) p
 | none=>w
def ix(w:Int->Int->Int)(p:Int):List Int->(Int->Int->Int)
 | []=>w
 | a::r=>ix (tA w a p) p r
def SS.mem(s:SS)(n:Int):List Int×Int:=if s.is n≠0 then([],s.is n)else(s.dw n,0)
def SS.fS(s:SS)(p n:Int):Int×Int:=if s.is n≠0 then(0,s.is n)else if p<0\/20<=p then(0,1)else
 match dv (fun q=>s.bR n q==p) 21 with
 | some q=>(q,0)
 | none=>(0,2)
def SS.fh(s:SS)(aO:Int->Nat)(n p:Int):SS:= {s with loc:=ae s.loc p n,bR:=ix s.bR p (s.cC aO n)}
def SS.enter(s:SS)(aO:Int->Nat)(n p:Int):Int×Int×SS:=
 if s.is n≠0 then(0,s.is n,s)else if p<0\/20<=p then(0,1,s)else if 0<=s.loc p then(0,3,s)else
 (((s.fh aO n p).fS p n).1,((s.fh aO n p).fS p n).2,s.fh aO n p)
def SS.left(s:SS)(p:Int):SS:= {s with bR:=fun n q=>if s.bR n q=p then-1 else s.bR n q,loc:=ae s.loc p (-1)}
def SS.fB(s:SS)(p:Int):Int×SS:=if(s.bI p).2≠0 then((s.bI p).2,s)else(0,s.left p)
def SS.find(s:SS)(n q:Int):Int×Int:=if s.is n≠0 then(0,s.is n)else if q<1\/20<q then(0,2)else if s.bR n q<0 then(0,2)else(s.bR n q,0)
def aP(s:SS)(i:Nat):Value:=
 if i%23=0/\i/23<6 then .bool (s.aa ((i/23:Nat):Int))else
 if 1<=i/\(i-1)%23=0/\(i-1)/23<6 then iI (s.aA (((i-1)/23:Nat):Int))else
 if 2<=i/\(i-2)/23<6/\((i-2)%23)%1=0/\((i-2)%23)/1<21 then iI (if s.aa (((i-2)/23:Nat):Int)then s.bR (((i-2)/23:Nat):Int) ((((i-2)%23)/1:Nat):Int)else 0)else
 if 138<=i/\(i-138)%1=0/\(i-138)/1<20 then iI (s.loc (((i-138)/1:Nat):Int))else
 undef
def kh(s:SS)(z0:Int)(q0:0<=z0/\z0<6:=by omega):(((0+0)+z0.toNat*23)+0)<158/\aP s (((0+0)+z0.toNat*23)+0)= .bool (s.aa z0):=by
 grind [aP]
def kX(s:SS)(z0:Int)(q0:0<=z0/\z0<6:=by omega):(((0+0)+z0.toNat*23)+1)<158/\aP s (((0+0)+z0.toNat*23)+1)=iI (s.aA z0):=by
 grind [aP]
def xD(s:SS)(z0:Int)(z1:Int)(q0:0<=z0/\z0<6)(q1:0<=z1/\z1<21):((((0+0)+z0.toNat*23)+2)+z1.toNat*1)<158/\aP s ((((0+0)+z0.toNat*23)+2)+z1.toNat*1)=iI (if s.aa z0 then s.bR z0 z1 else 0):=by
 grind [aP]
def kY(s:SS)(z0:Int)(z1:Int)(q0:0<=z0/\z0<6)(q1:0<=z1/\z1<21)(hc:s.aa z0=true):((((0+0)+z0.toNat*23)+2)+z1.toNat*1)<158/\aP s ((((0+0)+z0.toNat*23)+2)+z1.toNat*1)=iI (s.bR z0 z1):=by
 grind [aP]
def pB(s:SS)(z0:Int)(z1:Int)(q0:0<=z0/\z0<6)(q1:0<=z1/\z1<21)(hc:s.aa z0=true)(v:Int):((((0+0)+z0.toNat*23)+2)+z1.toNat*1)<158/\dE (aP s) ((((0+0)+z0.toNat*23)+2)+z1.toNat*1) (iI (v))=aP ({s with bR:=cr s.bR z0 z1 v}):=by
 refine⟨og,?_⟩;funext j;unfold dE;grind [cr,aP]
def rD(s:SS)(z0:Int)(q0:0<=z0/\z0<20:=by omega):((0+138)+z0.toNat*1)<158/\aP s ((0+138)+z0.toNat*1)=iI (s.loc z0):=by
 grind [aP]
def rE(s:SS)(z0:Int)(q0:0<=z0/\z0<20)(v:Int):((0+138)+z0.toNat*1)<158/\dE (aP s) ((0+138)+z0.toNat*1) (iI (v))=aP ({s with loc:=ae s.loc z0 v}):=by
 grind [dE,ae,aP]
def vE(s:FrS)(i:Nat):Value:=
 if i=0 then .bool (true)else
 if i=1 then iI (s.p)else
 if 2<=i/\(i-2)%1=0/\(i-2)/1<21 then iI (s.f (((i-2)/1:Nat):Int))else
 undef
def Cy(s:FrS)(z0:Int)(q0:0<=z0/\z0<21)(v:Int):((0+2)+z0.toNat*1)<23/\dE (vE s) ((0+2)+z0.toNat*1) (iI (v))=vE ({s with f:=ae s.f z0 v}):=by
 grind [dE,ae,vE]
def rF:Array Value:= #[.bool false,iI 0,iI 0,iI 0,iI 0,iI 0,iI 0,iI 0,iI 0,iI 0,iI 0,iI 0,iI 0,iI 0,iI 0,iI 0,iI 0,iI 0,iI 0,iI 0,iI 0,iI 0,iI 0]
theorem SS.jo(s:SS)(n:Int):(s.is n=0/\0<=n/\n<6/\s.aa n=true)\/(s.is n=1/\(n<0\/6<=n))\/(s.is n=2/\0<=n/\n<6/\s.aa n=false):=by
 grind [SS.is]
def Tj(p:Int):0+23<=23/\dc (vE ⟨p,ED 21⟩) 0 23= .agg (PW p):=⟨og,rfl⟩
theorem Tl(s:FrS):∀ i,23<=i->vE s i=undef:=by
 grind [vE]
theorem NS(C:Nat->Value):∀ (vs:List Value) (o i:Nat),i<o->cB C o vs i=C i:=by
 intro vs;induction vs generalizing C with
 | nil=>intro o i _;rfl
 | cons v r ih=>
  intro o i h;rw[cB,ih _ _ _ og];simp[dE];omega
theorem Ha(C:Nat->Value):∀ (vs:List Value) (o i:Nat),o+vs.length<=i->cB C o vs i=C i:=by
 intro vs;induction vs generalizing C with
 | nil=>intro o i _;rfl
 | cons v r ih=>
  intro o i h;simp only[List.length_cons]at h;rw[cB,ih _ _ _ og];simp[dE];omega
def NT(C:Nat->Value):∀ (vs:List Value) (o j:Nat) (v:Value),vs[j]? =some v->cB C o vs (o+j)=v:=by
 intro vs;induction vs generalizing C with
 | nil=>intro o j v h;simp at h
 | cons u r ih=>
  intro o j v h;cases j with
  | zero=>
   simp at h;rw[cB,NS _ _ _ _ og];simp[dE,h]
  | succ j=>
   simp at h;rw[cB,show o+(j+1)=o+1+j from og];exact ih _ _ _ _ h
def aby(C:Nat->Value)(hC:∀ i,23<=i->C i=undef)(p:Int):0+23<=23/\cB C 0 (PW p).toList=vE ⟨p,ED 21⟩:=by
 refine⟨og,?_⟩;funext i;by_cases h:i<23
 ·have e:(PW p).toList[i]? =some (vE ⟨p,ED 21⟩ i):=by
   have:i=0\/i=1\/i=2\/i=3\/i=4\/i=5\/i=6\/i=7\/i=8\/i=9\/i=10\/i=11\/i=12\/i=13\/i=14\/i=15\/i=16\/i=17\/i=18\/i=19\/i=20\/i=21\/i=22:=og;rcases this with rfl | rfl | rfl | rfl | rfl | rfl | rfl | rfl | rfl | rfl | rfl | rfl | rfl | rfl | rfl | rfl | rfl | rfl | rfl | rfl | rfl | rfl | rfl<;>rfl
  have:=NT C (PW p).toList 0 i _ e;simp_all
 ·rw[Ha _ _ _ _ (by show 0+23<=i;omega),hC i og,Tl _ i og]
def Tm(p:Int)(C:Nat->Value)(hC:∀ i,23<=i->C i=undef):0+23<=23/\cB C 0 [.bool true,iI p,iI 0,iI 0,iI 0,iI 0,iI 0,iI 0,iI 0,iI 0,iI 0,iI 0,iI 0,iI 0,iI 0,iI 0,iI 0,iI 0,iI 0,iI 0,iI 0,iI 0,iI 0]=vE ⟨p,ED 0⟩:=by
 refine⟨og,?_⟩;funext i;by_cases h:i<23
 ·have:i=0\/i=1\/i=2\/i=3\/i=4\/i=5\/i=6\/i=7\/i=8\/i=9\/i=10\/i=11\/i=12\/i=13\/i=14\/i=15\/i=16\/i=17\/i=18\/i=19\/i=20\/i=21\/i=22:=og;rcases this with rfl | rfl | rfl | rfl | rfl | rfl | rfl | rfl | rfl | rfl | rfl | rfl | rfl | rfl | rfl | rfl | rfl | rfl | rfl | rfl | rfl | rfl | rfl<;>rfl
 ·rw[Ha _ _ _ _ (by show 0+23<=i;omega),hC i og,Tl _ i og]
def Jl:∀ i,23<=i->cellsOf rF i=undef:=by
 simp_all[rF,cellsOf]
def Cz(s:SS)(n:Int)(q:0<=n/\n<6)(hc:s.aa n=true):(((0+0)+n.toNat*23)+2)+21<=158/\dc (aP s) (((0+0)+n.toNat*23)+2) 21= .agg (GN (s.bR n) 21):=by
 refine⟨og,?_⟩;unfold dc GN;congr 2;apply List.map_congr_left;grind [aP]
def EE(f:Int->Int)(k:Nat):(f k>=0->dQ f (k+1)=dQ f k++[f k])/\(¬f k>=0->dQ f (k+1)=dQ f k):=by
 grind [dQ]
def EF(f:Int->Int)(h:0<=k):(f k>=0->dQ f (k+1).toNat=dQ f k.toNat++[f k])/\(¬f k>=0->dQ f (k+1).toNat=dQ f k.toNat):=by
 have:=EE f k.toNat;grind
theorem SS.CA{s:SS}(hi:s.is n=0)(hp:¬(p<0\/20<=p))(hq:0<=q/\q<21)(h:s.bR n q=p)(hn:∀ j:Int,0<=j->j<q->s.bR n j≠p):s.fS p n=(q,0):=by
 unfold SS.fS;rw[if_neg (by simp[hi]),if_neg hp,dW (k:=q) hq.1 og (by simpa using h) fun j h1 h2=>by simpa using hn j h1 h2];grind
theorem AO{s:SS}(hi:s.is n=0)(hp:¬(p<0\/20<=p))(hn:∀ j:Int,0<=j->j<21->s.bR n j≠p):s.fS p n=(0,2):=by
 grind [SS.fS,dL]
theorem CB{s:SS}(h:s.is n≠0):s.fS p n=(0,s.is n):=by grind [SS.fS]
theorem SS.uO{s:SS}(h:s.is n=0)(hp:p<0\/20<=p):s.fS p n=(0,1):=by grind [SS.fS]
theorem Jm{s:SS}(h:s.is n≠0):s.find n q=(0,s.is n):=by grind [SS.find]
theorem rG{s:SS}(h:s.is n=0)(hq:q<1\/20<q\/s.bR n q<0):s.find n q=(0,2):=by
 grind [SS.find]
theorem SS.BC{s:SS}(h:s.is n=0)(hq:¬(q<1\/20<q))(hw:¬s.bR n q<0):s.find n q=(s.bR n q,0):=by
 grind [SS.find]
theorem Jn{s:SS}(h:p<0\/20<=p):s.bI p=(0,1):=by unfold SS.bI;rw[if_pos h]
theorem SS.Xr{s:SS}(hD:s.Deep aO)(h:0<=n/\n<6/\s.aa n=true)(hp:s.aA n= -1):s.ja (aO n) n=[n]:=by
 obtain⟨h1,_,h3⟩:=hD.d n h.1 h.2.1 h.2.2;grind [ja]
theorem SS.Jo{s:SS}(hD:s.Deep aO)(h:0<=n/\n<6/\s.aa n=true)(hp:¬s.aA n= -1):s.ja (aO n) n=n::s.ja (aO (s.aA n)) (s.aA n)/\0<=s.aA n/\s.aA n<6/\s.aa (s.aA n)=true/\aO (s.aA n)<aO n:=by
 obtain⟨h1,_,h3⟩:=hD.d n h.1 h.2.1 h.2.2;grind [ja]
def SS.BD(s:SS)(aO:Int->Nat)(n:Int):(s.cC aO n).length=aO n:=s.pA _ _
theorem SS.Hb{s:SS}(h:s.is p≠0):s.add aO p=(0,s.is p,s):=by grind [SS.add]
theorem SS.CC{s:SS}(h:s.is p=0)(h2:aO p=4):s.add aO p=(0,7,s):=by grind [SS.add]
theorem SS.CD{s:SS}(h:s.is p=0)(h2:¬aO p=4)(hk:0<=k/\k<6)(hh:s.aa k=false)(hn:∀ j:Int,0<=j->j<k->s.aa j=true):s.add aO p=(k,0,{s with aa:=ae s.aa k true,aA:=ae s.aA k p}):=by
 unfold SS.add;rw[if_neg (by simp[h]),if_neg h2,dW (k:=k) hk.1 og (by simp[hh]) fun j h1 h2=>by simp[hn j h1 h2]];grind
theorem Jp{s:SS}(h:s.is p=0)(h2:¬aO p=4)(hn:∀ j:Int,0<=j->j<6->s.aa j=true):s.add aO p=(0,4,s):=by
 grind [SS.add,dL]
theorem Jq{s:SS}(h:s.is n≠0):s.drop n=(s.is n,s):=by grind [SS.drop]
theorem xE{s:SS}(h:s.is n=0)(h2:n=0\/(s.dw n).length>0):s.drop n=(5,s):=by grind [SS.drop]
theorem Jr{s:SS}(h:s.is n=0)(h2:¬(n=0\/(s.dw n).length>0))(hk:0<=k/\k<6)(hh:s.aa k=true)(hp:s.aA k=n)(hn:∀ j:Int,0<=j->j<k->¬(s.aa j=true/\s.aA j=n)):s.drop n=(5,s):=by
 unfold SS.drop SS.kids;rw[if_neg (by simp[h]),if_neg h2,dW (k:=k) hk.1 og (by simp[hh,hp]) (fun j h1 h2=>by have:=hn j h1 h2;simp only[not_and]at this;cases q:s.aa j<;>simp;exact this q)]
theorem SS.Xs{s:SS}(h:s.is n=0)(h2:¬(n=0\/(s.dw n).length>0))(hn:∀ j:Int,0<=j->j<6->¬(s.aa j=true/\s.aA j=n)):s.drop n=(0,{s with aa:=ae s.aa n false,aA:=ae s.aA n 0}):=by
 grind [SS.drop,SS.kids,dL]
def uP(f:Int->Bool)(h:0<=k):(f k=true->fl f (k+1).toNat=fl f k.toNat++[k])/\(f k=false->fl f (k+1).toNat=fl f k.toNat):=by
 have e:((k.toNat:Nat):Int)=k:=og;rw[show(k+1).toNat=k.toNat+1 from og];grind [fl]
def Js(s s':SS)(k:Int)(q:0<=k/\k<6)(vs:List Value)(hl:vs.length=23)(h0:vs[0]? =some (.bool (s'.aa k)))(h1:vs[1]? =some (iI (s'.aA k)))(h2:∀ j:Nat,j<21->vs[j+2]? =some (iI (if s'.aa k then s'.bR k j else 0)))(hh:∀ n,¬n=k->s'.aa n=s.aa n)(hp:∀ n,¬n=k->s'.aA n=s.aA n)(hw:s'.bR=s.bR)(ho:s'.loc=s.loc):0+0+k.toNat*23+23<=158/\cB (aP s) (0+0+k.toNat*23) vs=aP s':=by
 refine⟨og,?_⟩;funext i;by_cases ha:i<0+0+k.toNat*23
 ·rw[NS _ _ _ _ ha];grind [aP]
 ·by_cases hb:i<0+0+k.toNat*23+23
  ·obtain⟨j,rfl⟩:∃ j,i=0+0+k.toNat*23+j:=⟨i-(0+0+k.toNat*23),og⟩;have hj:j<23:=og;apply NT _ _ _ _ _;by_cases j0:j=0
   ·grind [aP]
   ·by_cases j1:j=1
    ·subst j1;rw[h1];exact congrArg some (kX s' k q).2.symm
    ·have h3:=(xD s' k ((j-2:Nat):Int) q og).2;have h4:=h2 (j-2) og;rw[show j-2+2=j from og]at h4;rw[h4,<-h3];congr 2;omega
  grind [Ha,aP]
def CE(s:SS)(k p:Int)(q:0<=k/\k<6)(hw:∀ j,s.bR k j= -1):0+0+k.toNat*23+23<=158/\cB (aP s) (0+0+k.toNat*23) (PW p).toList=aP {s with aa:=ae s.aa k true,aA:=ae s.aA k p} :=by
 refine Js s _ k q _ rfl (by simp[ae];rfl) (by simp[ae];rfl) (fun j hj=> ?_) (fun n hn=>by simp[ae,hn]) (fun n hn=>by simp[ae,hn]) rfl rfl;simp only[ae,if_true,hw];have:j=0\/j=1\/j=2\/j=3\/j=4\/j=5\/j=6\/j=7\/j=8\/j=9\/j=10\/j=11\/j=12\/j=13\/j=14\/j=15\/j=16\/j=17\/j=18\/j=19\/j=20:=og;rcases this with rfl | rfl | rfl | rfl | rfl | rfl | rfl | rfl | rfl | rfl | rfl | rfl | rfl | rfl | rfl | rfl | rfl | rfl | rfl | rfl | rfl<;>rfl
def LW(s:SS)(k:Int)(q:0<=k/\k<6):0+0+k.toNat*23+23<=158/\cB (aP s) (0+0+k.toNat*23) rF.toList=aP {s with aa:=ae s.aa k false,aA:=ae s.aA k 0} :=by
 refine Js s _ k q _ rfl (by simp[ae];rfl) (by simp[ae];rfl) (fun j hj=> ?_) (fun n hn=>by simp[ae,hn]) (fun n hn=>by simp[ae,hn]) rfl rfl;simp only[ae,if_true];have:j=0\/j=1\/j=2\/j=3\/j=4\/j=5\/j=6\/j=7\/j=8\/j=9\/j=10\/j=11\/j=12\/j=13\/j=14\/j=15\/j=16\/j=17\/j=18\/j=19\/j=20:=og;rcases this with rfl | rfl | rfl | rfl | rfl | rfl | rfl | rfl | rfl | rfl | rfl | rfl | rfl | rfl | rfl | rfl | rfl | rfl | rfl | rfl | rfl<;>rfl
def Z6:Array Value:= #[.bool false,iI 0,iI 0,iI 0,iI 0,iI 0,iI 0,iI 0,iI 0,iI 0,iI 0,iI 0,iI 0,iI 0,iI 0,iI 0,iI 0,iI 0,iI 0,iI 0,iI 0,iI 0,iI 0,.bool false,iI 0,iI 0,iI 0,iI 0,iI 0,iI 0,iI 0,iI 0,iI 0,iI 0,iI 0,iI 0,iI 0,iI 0,iI 0,iI 0,iI 0,iI 0,iI 0,iI 0,iI 0,iI 0,.bool false,iI 0,iI 0,iI 0,iI 0,iI 0,iI 0,iI 0,iI 0,iI 0,iI 0,iI 0,iI 0,iI 0,iI 0,iI 0,iI 0,iI 0,iI 0,iI 0,iI 0,iI 0,iI 0,.bool false,iI 0,iI 0,iI 0,iI 0,iI 0,iI 0,iI 0,iI 0,iI 0,iI 0,iI 0,iI 0,iI 0,iI 0,iI 0,iI 0,iI 0,iI 0,iI 0,iI 0,iI 0,iI 0,.bool false,iI 0,iI 0,iI 0,iI 0,iI 0,iI 0,iI 0,iI 0,iI 0,iI 0,iI 0,iI 0,iI 0,iI 0,iI 0,iI 0,iI 0,iI 0,iI 0,iI 0,iI 0,iI 0,.bool false,iI 0,iI 0,iI 0,iI 0,iI 0,iI 0,iI 0,iI 0,iI 0,iI 0,iI 0,iI 0,iI 0,iI 0,iI 0,iI 0,iI 0,iI 0,iI 0,iI 0,iI 0,iI 0,iI 0,iI 0,iI 0,iI 0,iI 0,iI 0,iI 0,iI 0,iI 0,iI 0,iI 0,iI 0,iI 0,iI 0,iI 0,iI 0,iI 0,iI 0,iI 0,iI 0]
set_option maxRecDepth 20000 in def PX:∀ i,i<158->cellsOf Z6 i=aP SS.zero i:=fun i hi=>match i,hi with
 | 0,_=>rfl
 | 1,_=>rfl
 | 2,_=>rfl
 | 3,_=>rfl
 | 4,_=>rfl
 | 5,_=>rfl
 | 6,_=>rfl
 | 7,_=>rfl
 | 8,_=>rfl
 | 9,_=>rfl
 | 10,_=>rfl
 | 11,_=>rfl
 | 12,_=>rfl
 | 13,_=>rfl
 | 14,_=>rfl
 | 15,_=>rfl
 | 16,_=>rfl
 | 17,_=>rfl
 | 18,_=>rfl
 | 19,_=>rfl
 | 20,_=>rfl
 | 21,_=>rfl
 | 22,_=>rfl
 | 23,_=>rfl
 | 24,_=>rfl
 | 25,_=>rfl
 | 26,_=>rfl
 | 27,_=>rfl
 | 28,_=>rfl
 | 29,_=>rfl
 | 30,_=>rfl
 | 31,_=>rfl
 | 32,_=>rfl
 | 33,_=>rfl
 | 34,_=>rfl
 | 35,_=>rfl
 | 36,_=>rfl
 | 37,_=>rfl
 | 38,_=>rfl
 | 39,_=>rfl
 | 40,_=>rfl
 | 41,_=>rfl
 | 42,_=>rfl
 | 43,_=>rfl
 | 44,_=>rfl
 | 45,_=>rfl
 | 46,_=>rfl
 | 47,_=>rfl
 | 48,_=>rfl
 | 49,_=>rfl
 | 50,_=>rfl
 | 51,_=>rfl
 | 52,_=>rfl
 | 53,_=>rfl
 | 54,_=>rfl
 | 55,_=>rfl
 | 56,_=>rfl
 | 57,_=>rfl
 | 58,_=>rfl
 | 59,_=>rfl
 | 60,_=>rfl
 | 61,_=>rfl
 | 62,_=>rfl
 | 63,_=>rfl
 | 64,_=>rfl
 | 65,_=>rfl
 | 66,_=>rfl
 | 67,_=>rfl
 | 68,_=>rfl
 | 69,_=>rfl
 | 70,_=>rfl
 | 71,_=>rfl
 | 72,_=>rfl
 | 73,_=>rfl
 | 74,_=>rfl
 | 75,_=>rfl
 | 76,_=>rfl
 | 77,_=>rfl
 | 78,_=>rfl
 | 79,_=>rfl
 | 80,_=>rfl
 | 81,_=>rfl
 | 82,_=>rfl
 | 83,_=>rfl
 | 84,_=>rfl
 | 85,_=>rfl
 | 86,_=>rfl
 | 87,_=>rfl
 | 88,_=>rfl
 | 89,_=>rfl
 | 90,_=>rfl
 | 91,_=>rfl
 | 92,_=>rfl
 | 93,_=>rfl
 | 94,_=>rfl
 | 95,_=>rfl
 | 96,_=>rfl
 | 97,_=>rfl
 | 98,_=>rfl
 | 99,_=>rfl
 | 100,_=>rfl
 | 101,_=>rfl
 | 102,_=>rfl
 | 103,_=>rfl
 | 104,_=>rfl
 | 105,_=>rfl
 | 106,_=>rfl
 | 107,_=>rfl
 | 108,_=>rfl
 | 109,_=>rfl
 | 110,_=>rfl
 | 111,_=>rfl
 | 112,_=>rfl
 | 113,_=>rfl
 | 114,_=>rfl
 | 115,_=>rfl
 | 116,_=>rfl
 | 117,_=>rfl
 | 118,_=>rfl
 | 119,_=>rfl
 | 120,_=>rfl
 | 121,_=>rfl
 | 122,_=>rfl
 | 123,_=>rfl
 | 124,_=>rfl
 | 125,_=>rfl
 | 126,_=>rfl
 | 127,_=>rfl
 | 128,_=>rfl
 | 129,_=>rfl
 | 130,_=>rfl
 | 131,_=>rfl
 | 132,_=>rfl
 | 133,_=>rfl
 | 134,_=>rfl
 | 135,_=>rfl
 | 136,_=>rfl
 | 137,_=>rfl
 | 138,_=>rfl
 | 139,_=>rfl
 | 140,_=>rfl
 | 141,_=>rfl
 | 142,_=>rfl
 | 143,_=>rfl
 | 144,_=>rfl
 | 145,_=>rfl
 | 146,_=>rfl
 | 147,_=>rfl
 | 148,_=>rfl
 | 149,_=>rfl
 | 150,_=>rfl
 | 151,_=>rfl
 | 152,_=>rfl
 | 153,_=>rfl
 | 154,_=>rfl
 | 155,_=>rfl
 | 156,_=>rfl
 | 157,_=>rfl
 | k+158,h=>absurd h og
theorem Tn:ED 0=fun _=>0:=by
 funext q;simp only[ED];rw[if_neg og]
theorem SS.my{s s':SS}(h:s'.aA=s.aA):∀ (k:Nat) (n:Int),s'.ja k n=s.ja k n
 | 0,_=>rfl
 | k+1,n=>by simp only[SS.ja,h,SS.my h k]
def SS.Hc{s:SS}{aO:Int->Nat}(hD:s.Deep aO):∀ (k:Nat) (n:Int),aO n=k->0<=n->n<6->s.aa n=true->∀ a∈s.ja k n,0<=a/\a<6/\s.aa a=true
 | 0,n,hk,h0,h6,hh,a,ha=>by have:=(hD.d n h0 h6 hh).1;omega
 | k+1,n,hk,h0,h6,hh,a,ha=>by
  obtain⟨_,_,h3⟩:=hD.d n h0 h6 hh;simp only[SS.ja,List.mem_cons]at ha;rcases ha with rfl | ha
  ·simp_all
  ·rcases h3 with⟨_,h4⟩ | ⟨h4,h5,Z7,h7⟩
   ·simp_all[ja]
   ·exact SS.Hc hD k _ og h4 h5 Z7 a ha
def rH{zs:List Int}(h:0<=z/\z<zs.length):dg zs z∈zs:=by
 grind [dg]
def Fz{s:SS}(hD:s.Deep aO)(h:0<=n/\n<6/\s.aa n=true)(hz:0<=z/\z<(s.cC aO n).length):0<=dg (s.cC aO n) z/\dg (s.cC aO n) z<6/\s.aa (dg (s.cC aO n) z)=true:=
 SS.Hc hD _ n rfl h.1 h.2.1 h.2.2 _ (rH hz)
theorem Jt{zs:List Int}(h:0<=z/\z<zs.length):zs.drop z.toNat=dg zs z::zs.drop (z+1).toNat:=by
 grind [List.drop_eq_getElem_cons,dg]
theorem PY(hk:1<=k/\k<=20)(h:w a k<0)(hn:∀ j:Int,1<=j->j<k->¬w a j<0):tA w a p=cr w a k p:=by
 unfold tA;rw[dW (k:=k-1) og og (by rw[show k-1+1=k from og];simpa using h) fun j h1 h2=>by simpa using hn (j+1) og og];grind
theorem PZ(hn:∀ j:Int,1<=j->j<21->¬w a j<0):tA w a p=w:=by
 grind [tA,dL]
theorem xF{s:SS}(h:s.is n≠0):s.enter aO n p=(0,s.is n,s):=by grind [SS.enter]
theorem oP{s:SS}(h:s.is n=0)(h2:p<0\/20<=p):s.enter aO n p=(0,1,s):=by grind [SS.enter]
theorem tB{s:SS}(h:s.is n=0)(h2:¬(p<0\/20<=p))(h3:0<=s.loc p):s.enter aO n p=(0,3,s):=by grind [SS.enter]
theorem SS.xG{s:SS}(h:s.is n=0)(h2:¬(p<0\/20<=p))(h3:¬ 0<=s.loc p):s.enter aO n p=(((s.fh aO n p).fS p n).1,((s.fh aO n p).fS p n).2,s.fh aO n p):=by grind [SS.enter]
def Bk(w:Int->Int->Int)(a p k:Int):Int->Int->Int:=fun m q=>if m=a/\0<=q/\q<k/\w m q=p then-1 else w m q
theorem P0(w:Int->Int->Int)(a p:Int):Bk w a p 0=w:=by
 grind [Bk]
theorem Ju(hk:0<=k)(h:w a k=p):cr (Bk w a p k) a k (-1)=Bk w a p (k+1):=by
 grind [cr,Bk]
theorem FA(h:¬w a k=p):Bk w a p k=Bk w a p (k+1):=by
 grind [Bk]
def LX(w:Int->Int->Int)(l:List Int)(p:Int):Int->Int->Int:=fun m q=>if m∈l/\0<=q/\q<21/\w m q=p then-1 else w m q
theorem To(w:Int->Int->Int)(p:Int):LX w [] p=w:=by
 rfl
theorem P1{l:List Int}(hp:0<=p)(hz:0<=z/\z<l.length):Bk (LX w (l.take z.toNat) p) (dg l z) p 21=LX w (l.take (z+1).toNat) p:=by
 have h2:z.toNat<l.length:=og;have ht:l.take (z+1).toNat=l.take z.toNat++[dg l z]:=by
  rw[show(z+1).toNat=z.toNat+1 from og,List.take_add_one];grind [dg]
 grind [Bk,LX]
theorem Tp{s:SS}{l:List Int}(hW:∀ n q,s.bR n q=p->n∈l/\0<=q/\q<21):LX s.bR l p=fun n q=>if s.bR n q=p then-1 else s.bR n q:=by
 grind [LX]
structure SS.Inv (s:SS) (aO:Int->Nat):Prop where
 D:s.Deep aO
 A:∀ k,s.aa k=false->∀ j,s.bR k j= -1
 z:∀ n,s.bR n 0= -1
 lo:∀ n q,-1<=s.bR n q
 loc:∀ p,-1<=s.loc p/\s.loc p<6
 at_:∀ p,0<=p->p<20->0<=s.loc p->s.aa (s.loc p)=true
 mem:∀ n q p,0<=p->s.bR n q=p->p<20/\0<q/\q<21/\0<=s.loc p/\n∈s.cC aO (s.loc p)
 inj:∀ n q q',0<=s.bR n q->s.bR n q'=s.bR n q->q'=q
 has:∀ p,0<=p->p<20->0<=s.loc p->∀ n∈s.cC aO (s.loc p),∃ q,s.bR n q=p
theorem SS.Inv.cP:SS.cP.Inv (fun _=>1) where
 D:=⟨fun n h0 h6 hh=>by
  have hn:n=0:=by
   by_cases q:n=0
   ·exact q
   ·simp[SS.cP,SS.rB,SS.zero,ae,q]at hh
  subst hn
  exact⟨og,og,.inl ⟨by simp[SS.cP,SS.rB,ae],rfl⟩⟩⟩
 A:=fun _ _ _=>rfl
 z:=fun _=>rfl
 lo:=fun _ _=>by show(-1:Int)<= -1;omega
 loc:=fun p=>by
  show-1<=ED 20 p/\ED 20 p<6
  unfold ED;split<;>omega
 at_:=fun p h0 h1 h2=>by
  have:SS.cP.loc p= -1:=by show ED 20 p= -1;unfold ED;rw[if_pos ⟨h0,h1⟩]
  omega
 mem:=fun n q p h0 h1=>by
  have:SS.cP.bR n q= -1:=rfl
  omega
 inj:=fun n q q' h0 _=>by
  have:SS.cP.bR n q= -1:=rfl
  omega
 has:=fun p h0 h1 h2=>by
  have:SS.cP.loc p= -1:=by show ED 20 p= -1;unfold ED;rw[if_pos ⟨h0,h1⟩]
  omega
def SS.NU{s:SS}{aO:Int->Nat}(hD:s.Deep aO):∀ (k:Nat) (n:Int),aO n=k->0<=n->n<6->s.aa n=true->∀ a∈s.ja k n,aO a<=k
 | 0,n,hk,h0,h6,hh,a,ha=>by have:=(hD.d n h0 h6 hh).1;omega
 | k+1,n,hk,h0,h6,hh,a,ha=>by
  obtain⟨_,_,h3⟩:=hD.d n h0 h6 hh;simp only[SS.ja,List.mem_cons]at ha;rcases ha with rfl | ha
  ·omega
  ·rcases h3 with⟨_,h4⟩ | ⟨h4,h5,Z7,h7⟩
   ·simp_all[ja]
   ·have:=SS.NU hD k _ og h4 h5 Z7 a ha;omega
def SS.uQ{s:SS}{aO:Int->Nat}(hD:s.Deep aO):∀ (k:Nat) (n:Int),aO n=k->0<=n->n<6->s.aa n=true->(s.ja k n).Nodup
 | 0,n,_,_,_,_=>List.nodup_nil
 | k+1,n,hk,h0,h6,hh=>by
  obtain⟨_,_,h3⟩:=hD.d n h0 h6 hh;rw[SS.ja,List.nodup_cons];rcases h3 with⟨_,h4⟩ | ⟨h4,h5,Z7,h7⟩
  ·simp_all[ja]
  ·refine⟨fun hm=> ?_,SS.uQ hD k _ og h4 h5 Z7⟩;have:=SS.NU hD k _ og h4 h5 Z7 n hm;omega
def Xt(h:∃ q,1<=q/\q<=20/\w a q<0):∃ k,1<=k/\k<=20/\w a k<0/\tA w a p=cr w a k p:=by
 unfold tA;cases hf:dv (fun q=>decide (w a (q+1)<0)) 20 with
 | none=>
  exfalso;obtain⟨q,h1,h2,h3⟩:=h;unfold dv at hf;have:=List.find?_eq_none.1 hf (q-1).toNat (List.mem_range.2 og);simp only[show(((q-1).toNat:Nat):Int)+1=q from og]at this;simp[h3]at this
 | some k=>
  unfold dv at hf;have h1:=List.find?_some hf;have h2:=List.mem_range.1 (List.mem_of_find?_eq_some hf);exact⟨(k:Int)+1,og,og,by simpa using h1,rfl⟩
def uR(p:Int):∀ (l:List Int) (w:Int->Int->Int),l.Nodup->(∀ a∈l,∃ q,1<=q/\q<=20/\w a q<0)->
  (∀ a,¬a∈l->∀ q,ix w p l a q=w a q)/\(∀ a∈l,∃ k,1<=k/\k<=20/\w a k<0/\∀ q,ix w p l a q=if q=k then p else w a q)
 | [],w,_,_=>⟨fun _ _ _=>rfl,fun a ha=>by cases ha⟩
 | b::r,w,hn,hf=>by
  obtain⟨hb,hr⟩:=List.nodup_cons.1 hn;obtain⟨k,k1,k2,k3,k4⟩:=Xt (p:=p) (hf b sq);have gK:∀ a,¬a=b->∀ q,tA w b p a q=w a q:=fun a ha q=>by rw[k4];simp[cr,ha]
  obtain⟨i1,i2⟩:=uR p r (tA w b p) hr (fun a ha=>by
   have Tq:¬a=b:=by rintro rfl;exact hb ha
   obtain⟨q,q1,q2,q3⟩:=hf a (by simp[ha])
   exact⟨q,q1,q2,by rw[gK a Tq];exact q3⟩)
  refine⟨fun a ha q=> ?_,fun a ha=> ?_⟩
  ·simp only[List.mem_cons,not_or]at ha;rw[ix,i1 a ha.2,gK a ha.1]
  ·by_cases Tq:a=b
   ·subst Tq;refine⟨k,k1,k2,k3,fun q=> ?_⟩;rw[ix,i1 a hb,k4];simp[cr]
   ·have har:a∈r:=by simpa [Tq]using ha
    obtain⟨j,j1,j2,j3,j4⟩:=i2 a har;refine⟨j,j1,j2,by rw[<-gK a Tq];exact j3,fun q=> ?_⟩;rw[ix,j4,gK a Tq]
def Cr:∀ (n m:Nat) (f:Nat->Nat),n<m->(∀ i,i<m->f i<n)->∃ i j,i<j/\j<m/\f i=f j
 | 0,m,f,h,hf=>absurd (hf 0 h) og
 | n+1,m,f,h,hf=>by
  by_cases he:∃ i,i<m-1/\f i=f (m-1)
  ·obtain⟨i,h1,h2⟩:=he;exact⟨i,m-1,h1,og,h2⟩
  ·have gK:∀ i,i<m-1->¬f i=f (m-1):=fun i hi e=>he ⟨i,hi,e⟩;have hv:=hf (m-1) og;obtain⟨i,j,h1,h2,h3⟩:=Cr n (m-1) (fun i=>if f i=n then f (m-1)else f i) og (fun i hi=>by
    have a1:=hf i og
    have a2:=gK i hi
    show(if f i=n then f (m-1)else f i)<n
    split<;>omega)
   refine⟨i,j,h1,og,?_⟩;have a1:=gK i og;have a2:=gK j og;split at h3<;>split at h3<;>omega
def SS.Inv.abz{s:SS}(h:s.Inv aO)(hp:0<=p)(hl:¬ 0<=s.loc p)(n q:Int):¬s.bR n q=p:=fun e=>hl (h.mem n q p hp e).2.2.2.1
theorem SS.Inv.free{s:SS}(h:s.Inv aO)(hp:0<=p/\p<20)(hl:¬ 0<=s.loc p)(a:Int):∃ q,1<=q/\q<=20/\s.bR a q<0:=by
 apply Classical.byContradiction;intro hc;have hg:∀ q:Int,1<=q->q<=20->0<=s.bR a q:=fun q h1 h2=>by
  simp_all
 have hx:∀ i:Nat,i<20->0<=s.bR a (i+1)/\s.bR a (i+1)<20/\¬s.bR a (i+1)=p:=fun i hi=>by
  have h0:=hg (i+1) og og;exact⟨h0,(h.mem a _ _ h0 rfl).1,h.abz hp.1 hl _ _⟩
 obtain⟨i,j,h1,h2,h3⟩:=Cr 19 20 (fun i=>if s.bR a (i+1)>p then(s.bR a (i+1)-1).toNat else(s.bR a (i+1)).toNat) og (fun i hi=>by
  obtain⟨a1,a2,a3⟩:=hx i hi
  show(if s.bR a (i+1)>p then(s.bR a (i+1)-1).toNat else(s.bR a (i+1)).toNat)<19
  split<;>omega)
 obtain⟨a1,a2,a3⟩:=hx i og;obtain⟨b1,b2,b3⟩:=hx j h2;have he:s.bR a (i+1)=s.bR a (j+1):=by split at h3<;>split at h3<;>omega
 grind [SS.Inv.inj]
theorem SS.Inv.fh{s:SS}{aO:Int->Nat}(h:s.Inv aO){n p:Int}(hn:0<=n/\n<6/\s.aa n=true)(hp:0<=p/\p<20)(hl:¬ 0<=s.loc p):(s.fh aO n p).Inv aO:=by
 have kZ:∀ m,(s.fh aO n p).cC aO m=s.cC aO m:=fun m=>SS.my (s:=s) (s':=s.fh aO n p) rfl _ _;obtain⟨e1,e2⟩:=uR p (s.cC aO n) s.bR (SS.uQ h.D _ n rfl hn.1 hn.2.1 hn.2.2) fun a _=>h.free hp hl a;have vy:∀ a∈s.cC aO n,0<=a/\a<6/\s.aa a=true:=SS.Hc h.D _ n rfl hn.1 hn.2.1 hn.2.2;have hw:(s.fh aO n p).bR=ix s.bR p (s.cC aO n):=rfl;have Jv:(s.fh aO n p).loc=ae s.loc p n:=rfl;have hq:∀ m q,(s.fh aO n p).bR m q=s.bR m q\/((s.fh aO n p).bR m q=p/\m∈s.cC aO n/\1<=q/\q<=20):=fun m q=>by
  rw[hw];grind
 refine⟨⟨h.D.d⟩,fun k hk j=> ?_,fun m=> ?_,fun m q=> ?_,fun x=> ?_,fun x x0 x1 x2=> ?_,fun m q x x0 hx=> ?_,fun m q q' h0 he=> ?_,fun x x0 x1 x2 m hm=> ?_⟩
 ·grind [SS.fh,Inv]
 ·grind [Inv]
 ·grind [Inv]
 ·rw[Jv];unfold ae;split;all_goals grind [Inv]
 ·rw[Jv]at x2 ⊢;grind [ae,SS.fh,Inv]
 ·rw[Jv,kZ];grind [ai,au,Inv]
 ·rw[hw]at h0 he;by_cases hm:m∈s.cC aO n
  ·obtain⟨k,k1,k2,k3,k4⟩:=e2 m hm;grind [Inv]
  grind [Inv]
 ·rw[hw];rw[Jv]at x2 hm;rw[kZ]at hm;by_cases NW:x=p
  ·grind [au]
  ·rw[ai _ _ NW]at x2 hm;obtain⟨q,hq⟩:=h.has x x0 x1 x2 m hm;grind
theorem SS.Inv.enter{s:SS}{aO:Int->Nat}(h:s.Inv aO)(n p:Int):(s.enter aO n p).2.2.Inv aO:=by
 by_cases h1:s.is n=0
 ·by_cases h2:p<0\/20<=p
  ·grind [oP]
  ·by_cases h3:0<=s.loc p
   ·grind [tB]
   ·rw[SS.xG h1 h2 h3];rcases s.jo n with⟨_,q1,q2,q3⟩ | ⟨q,_⟩ | ⟨q,_⟩
    ·exact h.fh ⟨q1,q2,q3⟩ og h3
    all_goals omega
 grind [xF]
theorem SS.Inv.left{s:SS}{aO:Int->Nat}(h:s.Inv aO){p:Int}(hp:0<=p):(s.left p).Inv aO:=by
 have kZ:∀ m,(s.left p).cC aO m=s.cC aO m:=fun m=>SS.my (s:=s) (s':=s.left p) rfl _ _;have hw:∀ n q,(s.left p).bR n q=if s.bR n q=p then-1 else s.bR n q:=fun _ _=>rfl
 have Jv:(s.left p).loc=ae s.loc p (-1):=rfl;refine⟨⟨h.D.d⟩,fun k hk j=> ?_,fun m=> ?_,fun m q=> ?_,fun x=> ?_,fun x x0 x1 x2=> ?_,fun m q x x0 hx=> ?_,fun m q q' h0 he=> ?_,fun x x0 x1 x2 m hm=> ?_⟩
 ·rw[hw];split
  ·rfl
  ·exact h.A k hk j
 ·rw[hw];split
  ·rfl
  ·exact h.z m
 ·rw[hw];split
  ·omega
  ·exact h.lo m q
 ·rw[Jv];unfold ae;split
  ·omega
  ·exact h.loc x
 ·rw[Jv]at x2 ⊢;show s.aa _=true;by_cases NW:x=p
  ·rw[NW,au]at x2;omega
  ·rw[ai _ _ NW]at x2 ⊢;exact h.at_ x x0 x1 x2
 ·rw[hw]at hx;rw[Jv,kZ];split at hx
  ·omega
  ·rename_i gK;rw[ai _ _ (by omega:¬x=p)];exact h.mem m q x x0 hx
 ·rw[hw]at h0 he;rw[hw m q]at he;by_cases c1:s.bR m q=p
  ·rw[if_pos c1]at h0;omega
  ·rw[if_neg c1]at h0 he;by_cases c2:s.bR m q'=p
   ·rw[if_pos c2]at he;omega
   ·rw[if_neg c2]at he;exact h.inj m q q' h0 he
 ·rw[Jv]at x2 hm;rw[kZ]at hm;by_cases NW:x=p
  ·rw[NW,au]at x2;omega
  ·rw[ai _ _ NW]at x2 hm;obtain⟨q,hq⟩:=h.has x x0 x1 x2 m hm;exact⟨q,by rw[hw,hq,if_neg NW]⟩
theorem SS.Inv.fB{s:SS}{aO:Int->Nat}(h:s.Inv aO)(p:Int):(s.fB p).2.Inv aO:=by
 unfold SS.fB;by_cases h1:(s.bI p).2=0
 ·rw[if_neg (by simp[h1])];apply h.left;grind [Jn]
 simp_all
theorem SS.pU{s s':SS}{aO Xu:Int->Nat}(hD:s.Deep aO)(hs:∀ n,0<=n->n<6->s.aa n=true->s'.aA n=s.aA n):∀ (k:Nat) (n:Int),aO n=k->0<=n->n<6->s.aa n=true->s'.ja k n=s.ja k n
 | 0,_,_,_,_,_=>rfl
 | k+1,n,hk,h0,h6,hh=>by
  obtain⟨_,_,h3⟩:=hD.d n h0 h6 hh;rw[SS.ja,SS.ja,hs n h0 h6 hh];rcases h3 with⟨_,h4⟩ | ⟨h4,h5,Z7,h7⟩
  ·simp_all[ja]
  ·rw[SS.pU (Xu:=Xu) hD hs k _ og h4 h5 Z7]
def SS.Ts(s:SS)(aO:Int->Nat)(p:Int):Int->Nat:=if(s.add aO p).2.1=0 then ae aO (s.add aO p).1 (aO p+1)else aO
theorem SS.Inv.aeG{s:SS}(h:s.Inv aO)(hp:0<=p/\p<6/\s.aa p=true)(hd:¬aO p=4)(hk:0<=k/\k<6)(hh:s.aa k=false):({s with aa:=ae s.aa k true,aA:=ae s.aA k p} :SS).Inv (ae aO k (aO p+1)):=by
 have gK:∀ n,s.aa n=true->¬n=k:=by rintro n hn rfl;rw[hh]at hn;cases hn
 have kZ:∀ n,0<=n->n<6->s.aa n=true->({s with aa:=ae s.aa k true,aA:=ae s.aA k p} :SS).cC (ae aO k (aO p+1)) n=s.cC aO n:=fun n h0 h6 hn=>by
  unfold SS.cC;rw[ai _ _ (gK n hn)];exact SS.pU (Xu:=aO) h.D (fun m _ _ hm=>ai _ _ (gK m hm)) _ n rfl h0 h6 hn
 have EG:∀ x,0<=x->x<20->0<=s.loc x->s.loc x<6/\s.aa (s.loc x)=true:=fun x x0 x1 x2=>⟨(h.loc x).2,h.at_ x x0 x1 x2⟩;refine⟨⟨fun n h0 h6 hn=> ?_⟩,fun m hm j=> ?_,h.z,h.lo,h.loc,fun x x0 x1 x2=> ?_,fun m q x x0 hx=> ?_,h.inj,fun x x0 x1 x2 m hm=> ?_⟩
 ·by_cases hnk:n=k
  ·subst hnk;show 1<=ae aO n (aO p+1) n/\ae aO n (aO p+1) n<=4/\((ae s.aA n p n= -1/\_)\/(0<=ae s.aA n p n/\ae s.aA n p n<6/\ae s.aa n true (ae s.aA n p n)=true/\ae aO n (aO p+1) n=ae aO n (aO p+1) (ae s.aA n p n)+1));rw[au,au,ai _ _ (gK p hp.2.2),ai _ _ (gK p hp.2.2)];have:=(h.D.d p hp.1 hp.2.1 hp.2.2).2.1;grind
  ·have hn':s.aa n=true:=by
    grind [ai]
   show 1<=ae aO k (aO p+1) n/\ae aO k (aO p+1) n<=4/\((ae s.aA k p n= -1/\ae aO k (aO p+1) n=1)\/(0<=ae s.aA k p n/\ae s.aA k p n<6/\ae s.aa k true (ae s.aA k p n)=true/\ae aO k (aO p+1) n=ae aO k (aO p+1) (ae s.aA k p n)+1));rw[ai _ _ hnk,ai _ _ hnk];obtain⟨a1,a2,a3⟩:=h.D.d n h0 h6 hn';grind [ae]
 ·grind [ai,Inv]
 all_goals grind [ai,Inv]
def SS.om(s:SS)(aO:Int->Nat)(p:Int):((s.add aO p).2.1≠0/\(s.add aO p).1=0/\(s.add aO p).2.2=s)\/(∃ k,s.is p=0/\¬aO p=4/\(0<=k/\k<6)/\s.aa k=false/\s.add aO p=(k,0,{s with aa:=ae s.aa k true,aA:=ae s.aA k p})):=by
 grind [SS.add,dv]
theorem SS.Inv.add{s:SS}{aO:Int->Nat}(h:s.Inv aO)(p:Int):(s.add aO p).2.2.Inv (s.Ts aO p):=by
 unfold SS.Ts;rcases s.om aO p with⟨h1,_,h2⟩ | ⟨k,h1,h2,h3,h4,h5⟩
 ·simp_all
 ·rw[h5,if_pos rfl];rcases s.jo p with⟨_,q1,q2,q3⟩ | ⟨q,_⟩ | ⟨q,_⟩;all_goals grind [SS.Inv.aeG]
def vF{f:Int->Int} :∀ {k:Nat},¬(dQ f k).length>0->∀ j:Nat,j<k->f j<0
 | 0,_,j,hj=>og
 | k+1,h,j,hj=>by
  simp only[dQ,List.length_append]at h;by_cases hk:j=k
  ·subst hk;by_cases hf:f j>=0
   ·rw[if_pos hf]at h;simp at h
   ·omega
  ·exact vF (k:=k) og j og
def SS.Inv.Xv{s:SS}(h:s.Inv aO)(hm:¬(s.dw n).length>0)(j:Int):s.bR n j= -1:=by
 have h0:=h.lo n j;by_cases hj:0<=s.bR n j
 ·obtain⟨_,a2,a3,_⟩:=h.mem n j _ hj rfl;have:=vF hm j.toNat og;grind
 omega
def SS.Inv.Xw{s:SS}(h:s.Inv aO)(hm:¬(s.dw n).length>0)(hk:∀ j:Int,0<=j->j<6->¬(s.aa j=true/\s.aA j=n)):({s with aa:=ae s.aa n false,aA:=ae s.aA n 0} :SS).Inv aO:=by
 have hh:∀ m,ae s.aa n false m=true->¬m=n/\s.aa m=true:=fun m hm=>by
  by_cases q:m=n
  ·rw[q,au]at hm;cases hm
  ·rw[ai _ _ q]at hm;exact⟨q,hm⟩
 have hD:({s with aa:=ae s.aa n false,aA:=ae s.aA n 0} :SS).Deep aO:=⟨fun m h0 h6 Z8=>by
  obtain⟨q1,q2⟩:=hh m Z8
  obtain⟨a1,a2,a3⟩:=h.D.d m h0 h6 q2
  refine⟨a1,a2,?_⟩
  show(ae s.aA n 0 m= -1/\_)\/(0<=ae s.aA n 0 m/\ae s.aA n 0 m<6/\ae s.aa n false (ae s.aA n 0 m)=true/\aO m=aO (ae s.aA n 0 m)+1)
  rw[ai _ _ q1]
  rcases a3 with a3 | ⟨b1,b2,b3,b4⟩
  ·exact .inl a3
  ·refine .inr ⟨b1,b2,?_,b4⟩
   rw[ai _ _ fun e=>hk m h0 h6 ⟨q2,e⟩]
   exact b3⟩
 have vt:=h.Xv hm;have Z9:∀ x,0<=x->x<20->0<=s.loc x->¬s.loc x=n:=by
  intro x x0 x1 x2 e;have b1:=(h.D.d _ x2 (h.loc x).2 (h.at_ x x0 x1 x2)).1;have vy:n∈s.cC aO (s.loc x):=by
   unfold SS.cC;obtain⟨d,hd⟩:∃ d,aO (s.loc x)=d+1:=⟨aO (s.loc x)-1,og⟩;rw[hd,SS.ja,e];simp
  obtain⟨q,hq⟩:=h.has x x0 x1 x2 n vy;have:=vt q;omega
 have kZ:∀ m,0<=m->m<6->ae s.aa n false m=true->({s with aa:=ae s.aa n false,aA:=ae s.aA n 0} :SS).cC aO m=s.cC aO m:=fun m h0 h6 Z8=>by
  unfold SS.cC;exact(SS.pU (s:=({s with aa:=ae s.aa n false,aA:=ae s.aA n 0} :SS)) (s':=s) (Xu:=aO) hD (fun m' _ _ hm'=>(ai s.aA 0 (hh m' hm').1).symm) _ m rfl h0 h6 Z8).symm
 have EG:∀ x,0<=x->x<20->0<=s.loc x->s.loc x<6/\ae s.aa n false (s.loc x)=true:=fun x x0 x1 x2=>⟨(h.loc x).2,by rw[ai _ _ (Z9 x x0 x1 x2)];exact h.at_ x x0 x1 x2⟩;refine⟨hD,fun m Z8 j=> ?_,h.z,h.lo,h.loc,fun x x0 x1 x2=>(EG x x0 x1 x2).2,fun m q x x0 hx=> ?_,h.inj,fun x x0 x1 x2 m Z8=> ?_⟩
 ·by_cases q:m=n
  ·subst q;exact vt j
  ·have:ae s.aa n false m=false:=Z8;rw[ai _ _ q]at this;exact h.A m this j
 ·obtain⟨a1,a2,a3,a4,a5⟩:=h.mem m q x x0 hx;obtain⟨b1,b2⟩:=EG x x0 a1 a4;exact⟨a1,a2,a3,a4,by rw[kZ _ a4 b1 b2];exact a5⟩
 ·obtain⟨b1,b2⟩:=EG x x0 x1 x2;rw[kZ _ x2 b1 b2]at Z8;exact h.has x x0 x1 x2 m Z8
theorem SS.Inv.drop{s:SS}{aO:Int->Nat}(h:s.Inv aO)(n:Int):(s.drop n).2.Inv aO:=by
 unfold SS.drop;by_cases h1:s.is n≠0
 ·simp_all
 ·rw[if_neg h1];by_cases h2:n=0\/(s.dw n).length>0
  ·simp_all
  ·rw[if_neg h2];cases hf:s.kids n with
   | some k=>exact h
   | none=>
    refine h.Xw og fun j h3 h4=> ?_;unfold SS.kids dv at hf;have:=List.find?_eq_none.1 hf j.toNat (List.mem_range.2 og);rw[show((j.toNat:Nat):Int)=j from og]at this;simp at this;rintro⟨e1,e2⟩;exact this e1 e2
theorem SS.Inv.Wt{s:SS}(h:s.Inv aO)(n q:Int): -1<=s.bR n q/\s.bR n q<20:=by
 grind [Inv]
def SS.Xx(s:SS)(n:Int):(s.mem n).1.length<=21:=by
 unfold SS.mem;split
 ·simp
 ·exact nw _ _
structure TS (s:SS) (aO:Int->Nat) (f:Int->Int):Prop where
 dS:s.Inv aO
 rB:s.aa 0=true
 aA:∀ n,s.aa n=true->f n=s.aA n
theorem qB{f:Int->Bool} :∀ {k:Nat} {a:Int},a∈fl f k->0<=a/\a<k/\f a=true
 | 0,a,h=>by simp[fl]at h
 | k+1,a,h=>by
  simp only[fl,List.mem_append]at h;rcases h with h | h
  ·have:=qB h;exact⟨this.1,og,this.2.2⟩
  grind
end Go.X.Sp
