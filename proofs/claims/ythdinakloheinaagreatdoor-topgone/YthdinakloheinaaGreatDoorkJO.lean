import Derived.Test.YthdinakloheinaaGreatDoorkNOM
import Derived.Lib.SplitLaws
import Derived.Test.YthdinakloheinaaGreatDoorkVS
set_option linter.all false
namespace Go.X.Tr
open Go Go.X
variable{J K i n:Int}{bf:Nat}{C D:Nat->Value}
theorem PS.XK{s:PS}(h:s.Inv K)(hK:0<=K):(s.make).2.2.Inv (K+1):=by
 unfold PS.make;cases hf:dW (fun k=>s.e k 0+s.e k 1==0) 8 with
 | none=>exact h.mono og
 | some k=>
  have hz:s.e k 0+s.e k 1=0:=by
   grind [dW]
  refine⟨fun n=> ?_,fun n=> ?_,fun n hn=> ?_,h.len⟩
  ·grind [bW,Inv]
  ·grind [bW,Inv]
  ·grind [bW,Inv]
def PS.XL{s:PS}{d:Int}{w:Bool}(h:s.Inv K)(hd:d=1\/d= -1):(s.l7 n w d).2.Inv (K+1):=by
 unfold PS.l7;by_cases h1:s.is n≠0
 ·grind [PS.Inv.mono]
 rw[if_neg h1];by_cases h2:s.e n (HW w)=0
 ·grind [PS.Inv.mono]
 rw[if_neg h2];have b0:=h.e0;have b1:=h.e1;have hw:HW w=0\/HW w=1:=by cases w<;>simp[HW]
 refine⟨fun m=> ?_,fun m=> ?_,fun m hm=> ?_,fun m=> ?_⟩;all_goals grind [bW,ad,ByteArray.size,Inv]
theorem PS.XN{s:PS}{m:Int}(h:s.Inv K):(s.mh n m).2.2.Inv (K+1):=by
 have hh:=h.mono (show K<=K+1 by omega);unfold PS.mh;split
 ·omega
 ·split
  ·omega
  ·split
   ·omega
   ·split;all_goals grind [ad,ByteArray.size_extract,Inv]
theorem PS.T3{s:PS}{t:ByteArray}(h:s.Inv K):(s.cC n t).2.2.Inv (K+1):=by
 have hh:=h.mono (show K<=K+1 by omega);unfold PS.cC;split
 ·omega
 ·split
  ·omega
  ·rename_i h1;split
   ·omega
   ·split;all_goals grind [ad,ByteArray.size_extract,Inv]
theorem OS.Inv.mono{s:OS}{J':Int}(h:s.Inv J)(hJ:J<=J'):s.Inv J':=
 ⟨fun n a b=>⟨(h.aY n a b).1,Int.le_trans (h.aY n a b).2 hJ⟩,h.at_,h.aI,h.cC⟩
theorem OS.Inv.dR:OS.dR.Inv 1:=
 ⟨fun _ _ _=>by simp[OS.dR],fun _ _ _=>by simp[OS.dR],fun n _ _ h=>absurd rfl h,fun _ _ _ _=>rfl⟩
theorem OS.Inv.lay{s:OS}{J:Int}(h:s.Inv J)(hJ:1<=J)(z k n:Int)(w:Bool)(hk:k=1\/k=2\/k=3)(hw:k≠1->w=false):(s.lay z k n w).Inv J:=by
 refine⟨fun y a b=> ?_,fun y a b=> ?_,fun y a b c=> ?_,fun y a b c=> ?_⟩
 ·show 0<=ad s.aY z 1 y/\ad s.aY z 1 y<=J;by_cases q:y=z;all_goals grind [ah,ae,Inv]
 ·show 0<=ad s.at_ z 0 y/\ad s.at_ z 0 y<=40;by_cases q:y=z;all_goals grind [ah,ae,Inv]
 ·show ad s.aI z k y=1\/ad s.aI z k y=2\/ad s.aI z k y=3;by_cases q:y=z
  ·grind [ah]
  ·rw[ae _ _ q];refine h.aI y a b ?_;have c':ad s.aY z 1 y≠0:=c;grind [ae]
 ·show ad s.cC z w y=false;have c':ad s.aI z k y≠1:=c;by_cases q:y=z;all_goals grind [ah,ae,Inv]
theorem OS.Inv.adP{s:OS}{J':Int}(h:s.Inv J)(hJ:J<=J')(n r:Int)(hr:0<=r/\r<=J')(hn:s.aY n≠0):({s with aY:=ad s.aY n r} :OS).Inv J':=by
 refine⟨fun y a b=> ?_,h.at_,fun y a b c=> ?_,h.cC⟩
 ·show 0<=ad s.aY n r y/\ad s.aY n r y<=J';by_cases q:y=n;all_goals grind [Inv,ad]
 grind [ae,Inv]
theorem OS.Inv.atI{s:OS}(h:s.Inv J)(n r:Int)(hr:0<=r/\r<=40):({s with at_:=ad s.at_ n r} :OS).Inv J:=by
 refine⟨h.aY,fun y a b=> ?_,h.aI,h.cC⟩;show 0<=ad s.at_ n r y/\ad s.at_ n r y<=40;by_cases q:y=n;all_goals grind [Inv,ad]
def OS.Inv.yF{s:OS}{J:Int}(h:s.Inv J)(hJ:0<=J)(z:Int):(s.yF z).Inv J:=by
 refine⟨fun y a b=> ?_,fun y a b=> ?_,fun y a b c=> ?_,fun y a b c=> ?_⟩
 ·show 0<=ad s.aY z 0 y/\ad s.aY z 0 y<=J;by_cases q:y=z;all_goals grind [ah,ae,Inv]
 ·show 0<=ad s.at_ z 0 y/\ad s.at_ z 0 y<=40;by_cases q:y=z;all_goals grind [ah,ae,Inv]
 ·show ad s.aI z 0 y=1\/ad s.aI z 0 y=2\/ad s.aI z 0 y=3;have c':ad s.aY z 0 y≠0:=c;by_cases q:y=z;all_goals grind [ah,ae,Inv]
 ·show ad s.cC z false y=false;have c':ad s.aI z 0 y≠1:=c;by_cases q:y=z;all_goals grind [ah,ae,Inv]
def OS.Inv.Aw{O:OS}(h:O.Inv J)(hJ:1<=J)(P:PS):(jl P O).Inv (J+1):=by
 grind [jl,lay,OS.Inv.mono]
def OS.Inv.MK{O:OS}(h:O.Inv J)(n:Int):(mj O n).Inv (J+1):=by
 grind [mj,GX,OS.Inv.adP,OS.Inv.mono,Inv]
def OS.Inv.close{O:OS}(h:O.Inv J)(n:Int):(iH O n).Inv (J+1):=by
 have h0:=h.aY 0 og og;unfold iH;split
 ·grind [OS.Inv.mono]
 ·rename_i c;obtain⟨i1,i2,i3⟩:=OS.GX (Decidable.not_not.1 c);have:=h.aY n i1 i2;split
  ·exact h.adP og n _ og i3
  ·exact(h.yF og n).mono og
theorem OS.Inv.mh{O:OS}(h:O.Inv J){F:FF}(hF:F.Sh)(n m:Int):(oZ F O n m).Inv (J+1):=by
 unfold oZ;split
 ·rename_i c;obtain⟨i1,i2,i3⟩:=OS.GX c.1;have h2:=h.at_ n i1 i2;have h3:=(FF.MI hF (O.n n) (O.at_ n) m).2 h2.1 h2.2;exact(h.atI n _ og).mono og
 grind [OS.Inv.mono]
def FF.T4{F:FF}{a:Int}{x:ByteArray}(h:F.fC n a x=0):0<=a/\a+x.size<=40:=by
 grind [fC]
def OS.Inv.afC{O:OS}(h:O.Inv J)(F:FF)(n:Int)(x:ByteArray):(gT F O n x).Inv (J+1):=by
 unfold gT;split
 ·rename_i c;obtain⟨i1,i2,i3⟩:=OS.GX c.1.1;have h2:=h.at_ n i1 i2;have h3:=FF.T4 c.2;exact(h.atI n _ og).mono og
 grind [OS.Inv.mono]
def OS.Inv.GY{O:OS}(h:O.Inv J)(n a:Int):(uD O n a).Inv (J+1):=by
 grind [uD,oF,OS.Inv.atI,OS.Inv.mono]
def O3{P:PS}(h:P.Inv K)(hK:0<=K)(O:OS):(kA P O).Inv (K+1):=by
 grind [kA,PS.Inv.mono,PS.XK]
def O4{P:PS}(h:P.Inv K)(O:OS)(n m:Int):(oY P O n m).Inv (K+1):=by
 grind [oY,PS.XN,PS.Inv.mono]
def ML{P:PS}(h:P.Inv K)(O:OS)(n:Int)(x:ByteArray):(lB P O n x).Inv (K+1):=by
 grind [lB,PS.T3,PS.Inv.mono]
theorem Ax(F:FF)(O:OS)(n:Int):(nU F O n).roots=F.roots:=by
 grind [nU,FF.nS]
theorem GZ(F:FF)(O:OS)(n:Int)(x:ByteArray):(iV F O n x).roots=F.roots:=by
 unfold iV;split
 ·exact FF.ME _ _ _ _
 rfl
structure WH where
 ed:Int
 node:Int
instance:DecidableEq WH:=fun a b=>if h:a.ed=b.ed/\a.node=b.node then isTrue (by cases a;cases b;simp only at h;rw[h.1,h.2])else isFalse fun e=>h (by rw[e];exact⟨rfl,rfl⟩)
theorem T5{a b:WH} :(a.ed=b.ed/\a.node=b.node)↔a=b:=⟨fun h=>by cases a;cases b;simp only at h;rw[h.1,h.2],fun e=>by rw[e];exact⟨rfl,rfl⟩⟩
def WH.nil:WH:=⟨0,0⟩
abbrev WH.c9(w:WH):Array Value:= #[iI w.ed,iI w.node]
def bd(w:WH)(i:Nat):Value:=if i=0 then iI w.ed else if i=1 then iI w.node else undef
abbrev f8(b0:Nat)(w:WH):aG:=.cells b0 0 2 (bd w)
structure MT where
 at_:WH
 to:WH
def MT.nil:MT:=⟨WH.nil,WH.nil⟩
abbrev MT.c9(m:MT):Array Value:= #[iI m.at_.ed,iI m.at_.node,iI m.to.ed,iI m.to.node]
def fT(m:MT)(i:Nat):Value:=if i=0 then iI m.at_.ed else if i=1 then iI m.at_.node else if i=2 then iI m.to.ed else if i=3 then iI m.to.node else undef
def rD(l:List MT)(z:Int):MT:=l.getD z.toNat MT.nil
def NO(l:List WH)(z:Int):WH:=l.getD z.toNat WH.nil
def mC(l:List MT)(i:Nat):Value:=fT (rD l ((i/4:Nat):Int)) (i%4)
def wC(l:List WH)(i:Nat):Value:=bd (NO l ((i/2:Nat):Int)) (i%2)
def MC(C:Nat->Value)(l:List MT):Prop:=∀ i,i<l.length*4->C i=mC l i
theorem bd.box(w:WH):∀ i,i<2->cellsOf (WH.c9 w) i=bd w i:=fun i h=>match i,h with
 | 0,_=>rfl
 | 1,_=>rfl
 | j+2,h=>absurd h og
def bd.agg(w:WH):0+2<=2/\dB (bd w) 0 2= .agg (WH.c9 w):=⟨og,rfl⟩
def bd.Dy(w:WH):0+0<2/\bd w (0+0)=iI w.ed:=⟨og,rfl⟩
def bd.Gg(w:WH):0+1<2/\bd w (0+1)=iI w.node:=⟨og,rfl⟩
theorem bd.st(w u:WH):0+2<=2/\cY (bd w) 0 (WH.c9 u).toList=bd u:=by
 refine⟨og,?_⟩;funext i;match i with
 | 0=>rfl
 | 1=>rfl
 | k+2=>
  have e1:∀ w:WH,bd w (k+2)=undef:=fun w=>by unfold bd;rw[if_neg og,if_neg og]
  have e2:cY (bd w) 0 (WH.c9 u).toList (k+2)=bd w (k+2):=by simp[cY,ep]
  rw[e2,e1,e1]
theorem fT.box(m:MT):∀ i,i<4->cellsOf (MT.c9 m) i=fT m i:=fun i h=>match i,h with
 | 0,_=>rfl
 | 1,_=>rfl
 | 2,_=>rfl
 | 3,_=>rfl
 | j+4,h=>absurd h og
def fT.mP(m:MT):0+0+2<=4/\dB (fT m) (0+0) 2= .agg (WH.c9 m.at_):=⟨og,rfl⟩
def T6(m:MT):0+2+2<=4/\dB (fT m) (0+2) 2= .agg (WH.c9 m.to):=⟨og,rfl⟩
def yW(m:MT):0+0+1<4/\fT m (0+0+1)=iI m.at_.node:=⟨og,rfl⟩
def yX(m:MT):0+2+1<4/\fT m (0+2+1)=iI m.to.node:=⟨og,rfl⟩
theorem fT.st(m u:MT):0+4<=4/\cY (fT m) 0 (MT.c9 u).toList=fT u:=by
 refine⟨og,?_⟩;funext i;match i with
 | 0=>rfl
 | 1=>rfl
 | 2=>rfl
 | 3=>rfl
 | k+4=>
  have e1:∀ w:MT,fT w (k+4)=undef:=fun w=>by unfold fT;rw[if_neg og,if_neg og,if_neg og,if_neg og]
  have e2:cY (fT m) 0 (MT.c9 u).toList (k+4)=fT m (k+4):=by simp[cY,ep]
  rw[e2,e1,e1]
def aM(bf:Nat)(r:WH)(v:Value)(i:Nat):Value:=if i=0 then ay bf 0 0 else if i=1 then iI r.ed else if i=2 then iI r.node else if i=3 then v else undef
abbrev f4(b0:Nat)(bf:Nat)(r:WH)(v:Value):aG:=.cells b0 0 4 (aM bf r v)
def aM.Dy(r:WH)(v:Value):0+0<4/\aM bf r v (0+0)=ay bf 0 0:=⟨og,rfl⟩
def aM.Gg(r:WH)(v:Value):0+1+2<=4/\dB (aM bf r v) (0+1) 2= .agg (WH.c9 r):=⟨og,rfl⟩
def H7(r:WH)(v:Value):0+1+1<4/\aM bf r v (0+1+1)=iI r.node:=⟨og,rfl⟩
def lO(r:WH)(v:Value):0+3<4/\aM bf r v (0+3)=v:=⟨og,rfl⟩
def XP(r u:WH)(v:Value):0+1+2<=4/\cY (aM bf r v) (0+1) (WH.c9 u).toList=aM bf u v:=by
 refine⟨og,?_⟩;funext i;match i with
 | 0=>rfl
 | 1=>rfl
 | 2=>rfl
 | 3=>rfl
 | k+4=>
  have e1:∀ r v,aM bf r v (k+4)=undef:=fun r v=>by unfold aM;rw[if_neg og,if_neg og,if_neg og,if_neg og]
  have e2:cY (aM bf r v) (0+1) (WH.c9 u).toList (k+4)=aM bf r v (k+4):=by simp[cY,ep]
  rw[e2,e1,e1]
def E6(r:WH)(v u:Value):0+3<4/\ep (aM bf r v) (0+3) u=aM bf r u:=by
 grind [aM,ep]
abbrev afD(bf:Nat)(r:WH)(v:Value):Array Value:= #[ay bf 0 0,iI r.ed,iI r.node,v]
theorem aM.box(bf:Nat)(r:WH)(v:Value):∀ i,i<4->cellsOf (afD bf r v) i=aM bf r v i:=fun i h=>match i,h with
 | 0,_=>rfl
 | 1,_=>rfl
 | 2,_=>rfl
 | 3,_=>rfl
 | j+4,h=>absurd h og
def aiM(l:List MT)(z:Int)(hz:0<=z)(j:Nat)(hj:j<4):mC l (0+z.toNat*4+j)=fT (rD l z) j:=by
 unfold mC;grind
def MC.ld{l:List MT}(h:MC C l){k:Nat}(hk:l.length<=k)(z:Int)(q:0<=z/\z<l.length):0+z.toNat*4+4<=k*4/\dB C (0+z.toNat*4) 4= .agg (MT.c9 (rD l z)):=by
 refine⟨og,?_⟩;have e:=fun j (hj:j<4)=>(h (0+z.toNat*4+j) og).trans (aiM l z q.1 j hj);simp only[dB,List.range,List.range.loop,List.map_cons,List.map_nil];rw[e 0 og,e 1 og,e 2 og,e 3 og];rfl
def aiN(l:List WH)(z:Int)(hz:0<=z)(j:Nat)(hj:j<2):wC l (0+z.toNat*2+j)=bd (NO l z) j:=by
 grind [wC]
def XT(l:List WH)(z:Int)(q:0<=z/\z<l.length):0+z.toNat*2+2<=l.length*2/\dB (wC l) (0+z.toNat*2) 2= .agg (WH.c9 (NO l z)):=by
 refine⟨og,?_⟩;have e:=fun j (hj:j<2)=>aiN l z q.1 j hj;simp only[dB,List.range,List.range.loop,List.map_cons,List.map_nil];rw[e 0 og,e 1 og];rfl
def abL(l:List WH)(n:Nat)(i:Nat)(h:i<n*2):wC (l.take n) i=wC l i:=by
 grind [wC,NO]
def afE(l:List WH)(w:WH)(A:Nat->Value)(hA:∀ i,i<2->A i=bd w i)(i:Nat)(h:i<(l.length+1)*2):wC (l++[w]) i=if i<l.length*2 then wC l i else A (i-l.length*2):=by
 grind [wC,NO]
def MC.app{l:List MT}(h:MC C l)(m:MT)(h1:∀ i,i<l.length*4->D i=C i)(h2:∀ i,i<1*4->D (l.length*4+i)=fT m i):MC D (l++[m]):=fun i hi=>by
 grind [mC,rD,MC]
def MC.copy{l:List MT}(h:MC C l)(h1:∀ i,i<l.length*4->D i=C i):MC D l:=fun i hi=>(h1 i hi).trans (h i hi)
theorem MC.Q9{l:List MT}(h:MC C l)(n:Nat)(hn:n<l.length)(h1:∀ j,j<n*4->D j=C j)(h2:∀ j,n*4<=j->j<(l.length-1)*4->D j=C (j+4)):MC D (l.eraseIdx n):=fun i hi=>by
 rw[List.length_eraseIdx_of_lt hn]at hi;by_cases c:i<n*4
 ·grind [mC,rD,MC]
 ·rw[h2 i og hi,h (i+4) og];grind [mC,rD]
def afF(m:MT):∀ i,i<4->cellsOf (MT.c9 m) i=fT m i:=fT.box m
def T7(l:List MT)(w:WH):Option WH:=(l.find? fun m=>decide (m.at_=w)).map (·.to)
def ovN(l:List MT):Nat->WH->WH
 | 0,w=>w
 | n+1,w=>match T7 l w with
  | some u=>ovN l n u
  | none=>w
def nw(l:List MT)(w:WH):WH:=ovN l 6 w
def DE{l:List MT}{z:Int}(h:0<=z/\z<l.length):l[z.toNat]? =some (rD l z):=by
 grind [rD]
def XU{l:List MT}{w:WH}(h:∀ i:Int,0<=i->i<l.length->(rD l i).at_≠w):T7 l w=none:=by
 unfold T7;rw[List.find?_eq_none.2 fun m hm=> ?_]
 ·rfl
 ·obtain⟨i,hi,rfl⟩:=List.mem_iff_getElem.1 hm;have:=h (i:Int) og og;grind [rD]
def XV{l:List MT}{w:WH}(h0:0<=i/\i<l.length)(h:∀ j:Int,0<=j->j<i->(rD l j).at_≠w)(he:(rD l i).at_=w):T7 l w=some (rD l i).to:=by
 unfold T7;have e:l.find? (fun m=>decide (m.at_=w))=some (rD l i):=by
  rw[List.find?_eq_some_iff_getElem];have e:=DE h0;refine⟨by simpa using he,i.toNat,og,?_,fun j hj=> ?_⟩
  ·simp_all
  ·have e2:=DE (l:=l) (z:=(j:Int)) ⟨og,og⟩;grind
 simp_all
theorem XW{l:List MT}{w:WH}(h:T7 l w=none):∀ n,ovN l n w=w
 | 0=>rfl
 | n+1=>by unfold ovN;rw[h]
theorem XX{l:List MT}{w u:WH}(h:T7 l w=some u)(n:Nat):ovN l (n+1) w=ovN l n u:=by
 grind [ovN]
def dd:ByteArray:=⟨#[46,46]⟩
def iW:ByteArray:=⟨#[47]⟩
def eM(s:ByteArray):List ByteArray:=Lib.splitB iW 0 (Lib.countB s iW) s
def yY(s:ByteArray):Bool:=decide (s=dd)||kZ s
def jH(p:ByteArray):Int:=if 60<p.size\/p=⟨#[]⟩\/p.get! 0≠47 then 9 else if p=iW then 0 else if(eM (p.extract 1 p.size)).all yY=true then 0 else 9
def cB(p:ByteArray):List ByteArray:=if jH p=0/\p≠iW then eM (p.extract 1 p.size)else []
def lh(l:List WH):WH:=NO l ((l.length:Int)-1)
def wk(F:FF)(l:List MT):List WH->List ByteArray->Int×WH
 | cU,[]=>(0,lh cU)
 | cU,s::r=>if s=dd then wk F l (if 1<cU.length then cU.take (cU.length-1)else cU) r else if F.fX (lh cU).node s≠0 then(F.fX (lh cU).node s,WH.nil)else
   wk F l (cU++[nw l ⟨(lh cU).ed,F.bS (lh cU).node s⟩]) r
def BX(F:FF)(l:List MT)(r:WH)(ns:List ByteArray):Int×WH:=wk F l [nw l r] ns
def XY(F:FF)(l:List MT)(r:WH)(p:ByteArray):Int:=if jH p≠0 then jH p else(BX F l r (cB p)).1
def MM(F:FF)(l:List MT)(r:WH)(p:ByteArray):WH:=if jH p≠0 then WH.nil else(BX F l r (cB p)).2
def oG(ns:List ByteArray):ByteArray:=lr ns ((ns.length:Int)-1)
def lj(ns:List ByteArray):List ByteArray:=ns.take (ns.length-1)
def JT(F:FF)(l:List MT)(r:WH)(p:ByteArray):Int:=if jH p≠0 then jH p else if(cB p).length=0 then 0 else if oG (cB p)=dd then 9 else if(BX F l r (lj (cB p))).1≠0 then(BX F l r (lj (cB p))).1 else F.fX (BX F l r (lj (cB p))).2.node (oG (cB p))
def Di(F:FF)(l:List MT)(r:WH)(p:ByteArray):WH:=if JT F l r p≠0 then WH.nil else if(cB p).length=0 then r else⟨(BX F l r (lj (cB p))).2.ed,F.bS (BX F l r (lj (cB p))).2.node (oG (cB p))⟩
def Ay(F:FF)(l:List MT)(r:WH)(p:ByteArray):Int:=if jH p≠0 then jH p else if(cB p).length=0\/oG (cB p)=dd then 9 else(BX F l r (lj (cB p))).1
def vQ(F:FF)(l:List MT)(r:WH)(p:ByteArray):WH:=if Ay F l r p≠0 then WH.nil else(BX F l r (lj (cB p))).2
def sF(F:FF)(l:List MT)(r:WH)(p:ByteArray):ByteArray:=if Ay F l r p≠0 then⟨#[]⟩else oG (cB p)
def yZ(F:FF)(w:WH):Int:=if F.cQ w.node 0≠0 then F.cQ w.node 0 else if F.aI w.node≠2\/F.ed w.node≠w.ed then 11 else 0
def MN(l:List MT)(w:WH):Bool:=l.any fun m=>decide (m.at_=w)
def vR(F:FF)(l:List MT)(at_ to:WH):Int:=if yZ F at_≠0 then yZ F at_ else if yZ F to≠0 then yZ F to else if at_=to then 8 else if MN l at_=true then 3 else if l.length=6 then 4 else 0
def qn(F:FF)(l:List MT)(at_ to:WH):List MT:=if vR F l at_ to=0 then l++[⟨at_,to⟩]else l
def sG(F:FF)(l:List MT)(at_ to:WH):FF:=if vR F l at_ to=0 then(F.dX at_.node).dX to.node else F
def vS(l:List MT)(w:WH):Nat:=l.findIdx fun m=>decide (m.at_=w)
def Az(l:List MT)(w:WH):Int:=if vS l w<l.length then 0 else 2
def om(l:List MT)(w:WH):List MT:=l.eraseIdx (vS l w)
def qX(F:FF)(l:List MT)(w:WH):FF:=if vS l w<l.length then(F.lI (rD l (vS l w)).at_.node).lI (rD l (vS l w)).to.node else F
def AB(F:FF):List MT->FF
 | []=>F
 | m::r=>AB ((F.dX m.at_.node).dX m.to.node) r
def E7(F:FF):List MT->FF
 | []=>F
 | m::r=>E7 ((F.lI m.at_.node).lI m.to.node) r
def Rk(F:FF)(l:List MT)(r:WH):FF:=AB (F.dX r.node) l
def DF(F:FF)(l:List MT)(r:WH):FF:=(E7 F l).lI r.node
def Rl{P:Program}{n:Fr}{L:PF}{ty:TypeId}{pos:String}{af:Array Edge}{d:Nat}{t t':TypeId}{x y:Operand}{a b:WH}{φ:World->Prop}{gd:Option (Nat×Bool)}(hx:ev L x=some (.agg (WH.c9 a)))(hy:ev L y=some (.agg (WH.c9 b)))
  (hP:(P.underlying t=some (.struct (P.fieldsOf t))/\P.stoodInHeld t=false)/\P.eqGuardType P.depth t=false/\two P t=true):bj P n L φ ⟨some d,.binOp .eql t x y t',ty,pos,af,gd⟩ (.bool (decide (a=b))):=by grind [aif,T5]
def MO{x:ByteArray}(h:60<x.size\/x=⟨#[]⟩\/x.get! 0≠47):jH x=9:=by grind [jH]
def JU{x:ByteArray}(h:x=iW):jH x=0/\cB x=[]:=by
 subst h;have e:jH iW=0:=by
  rfl
 grind [cB]
theorem abM{l:List ByteArray}{y:ByteArray}(h:y∈l):∃ i:Int,0<=i/\i<l.length/\lr l i=y:=by
 obtain⟨i,hi,rfl⟩:=List.mem_iff_getElem.1 h;exact⟨(i:Int),og,og,by unfold lr;simp[hi]⟩
theorem O5{x:ByteArray}(hc:¬(60<x.size\/x=⟨#[]⟩\/x.get! 0≠47))(hs:¬x=iW)(hi:0<=i/\i<(eM (x.extract 1 x.size)).length)(h:yY (lr (eM (x.extract 1 x.size)) i)=false):jH x=9:=by
 grind [jH,lr]
def MP{x:ByteArray}(hc:¬(60<x.size\/x=⟨#[]⟩\/x.get! 0≠47))(hs:¬x=iW)(h:∀ i:Int,0<=i->i<(eM (x.extract 1 x.size)).length->yY (lr (eM (x.extract 1 x.size)) i)=true):jH x=0/\cB x=eM (x.extract 1 x.size):=by
 grind [jH,abM,cB]
def T8{ns:List ByteArray}{n:Nat}(hn:n<=ns.length)(h:0<=i/\i<n):(ns.take n).drop i.toNat=lr ns i::(ns.take n).drop (i+1).toNat:=by
 grind [List.drop_eq_getElem_cons,lr]
section
variable{F:FF}{l:List MT}{cU:List WH}{s:ByteArray}{r a:List ByteArray}
theorem aiO(h:a=s::r)(hd:s=dd)(hl:1<cU.length):wk F l cU a=wk F l (cU.take (cU.length-1)) r:=by
 grind [wk]
theorem abN(h:a=s::r)(hd:s=dd)(hl:¬ 1<cU.length):wk F l cU a=wk F l cU r:=by
 grind [wk]
theorem abO(h:a=s::r)(hd:¬s=dd)(he:F.fX (lh cU).node s=0):wk F l cU a=wk F l (cU++[nw l ⟨(lh cU).ed,F.bS (lh cU).node s⟩]) r:=by
 grind [wk]
theorem afG(h:a=s::r)(hd:¬s=dd)(he:¬F.fX (lh cU).node s=0):wk F l cU a=(F.fX (lh cU).node s,WH.nil):=by
 grind [wk]
def afH{ns:List ByteArray}{n:Nat}(hn:n<=ns.length):wk F l cU ((ns.take n).drop ((n:Int)).toNat)=(0,lh cU):=by
 grind [List.drop_of_length_le,wk]
end
theorem alC(b:Nat)(e:TypeId)(w:WH):aG.row (.slice (some ⟨b,0,none⟩) 1 1) e 2 1 #[Value.int .i64 w.ed,iI w.node].toList=aN (some ⟨b,0,none⟩) 1 e 2 1 (wC [w]):=by
 rfl
theorem alD(g:Nat)(e:TypeId)(a b:WH):aG.row (.slice (some ⟨g,0,none⟩) 2 2) e 2 2 #[Value.int .i64 a.ed,iI a.node,iI b.ed,iI b.node].toList=aN (some ⟨g,0,none⟩) 2 e 2 2 (wC [a,b]):=by
 rfl
theorem adR{l:List MT}(h:0<=i/\i<l.length):l.drop i.toNat=rD l i::l.drop (i+1).toNat:=by
 grind [List.drop_eq_getElem_cons,rD]
theorem O6{F:FF}{l:List MT}(h:0<=i/\i<l.length):AB F (l.drop i.toNat)=AB ((F.dX (rD l i).at_.node).dX (rD l i).to.node) (l.drop (i+1).toNat):=by
 rw[adR h];rfl
theorem T9{F:FF}{l:List MT}(h:0<=i/\i<l.length):E7 F (l.drop i.toNat)=E7 ((F.lI (rD l i).at_.node).lI (rD l i).to.node) (l.drop (i+1).toNat):=by
 rw[adR h];rfl
theorem Ua{F:FF}{l:List MT} :AB F (l.drop ((l.length:Int)).toNat)=F:=by
 grind [List.drop_of_length_le,AB]
theorem XZ{F:FF}{l:List MT} :E7 F (l.drop ((l.length:Int)).toNat)=F:=by
 grind [List.drop_of_length_le,E7]
theorem CU{l:List MT}{w:WH}(h:∀ i:Int,0<=i->i<l.length->(rD l i).at_≠w):MN l w=false:=by
 unfold MN;rw[List.any_eq_false];intro m hm;obtain⟨i,hi,rfl⟩:=List.mem_iff_getElem.1 hm;have:=h (i:Int) og og;grind [rD]
theorem O7{l:List MT}{w:WH}(h0:0<=i/\i<l.length)(he:(rD l i).at_=w):MN l w=true:=by
 grind [MN,rD]
def O8{l:List MT}{w:WH}(h0:0<=i/\i<l.length)(h:∀ j:Int,0<=j->j<i->(rD l j).at_≠w)(he:(rD l i).at_=w):vS l w=i.toNat:=by
 unfold vS;rw[List.findIdx_eq og];have e:=DE h0;rw[List.getElem?_eq_getElem og,Option.some.injEq]at e;refine⟨by rw[e];simpa using he,fun j hj=> ?_⟩;have e2:=DE (l:=l) (z:=(j:Int)) ⟨og,og⟩;grind
def O9{l:List MT}{w:WH}(h:∀ i:Int,0<=i->i<l.length->(rD l i).at_≠w):vS l w=l.length:=by
 unfold vS;rw[List.findIdx_eq_length];intro m hm;obtain⟨i,hi,rfl⟩:=List.mem_iff_getElem.1 hm;have:=h (i:Int) og og;grind [rD]
def C0:Nat->Value:=fun _=>undef
def aiP:RV.ok ⟨none,0,0,([]:List MT).length,0,C0⟩:=.inl ⟨rfl,rfl⟩
theorem BZ{F:FF}{l:List MT}{a z:WH}(hi:0<=i/\i<2)(hda:1<=i->yZ F a=0)(h:yZ F (NO [a,z] i)≠0):vR F l a z=yZ F (NO [a,z] i):=by
 grind [vR,NO]
def X0{F:FF}{d:Int->Nat}{B:Int}(h:F.Ok d B)(l:List MT)(a z:WH):(sG F l a z).Ok d (B+2):=by
 unfold sG;split
 ·have:=(h.dX a.node).dX z.node;grind
 ·exact⟨h.inv,fun n a b=>Int.le_trans (h.bu n a b) og,by have:=h.nn;omega⟩
def abP{F:FF}{d:Int->Nat}{B:Int}(h:F.Ok d B)(l:List MT)(w:WH):(qX F l w).Ok d (B+2):=by
 unfold qX;split
 ·have:=(h.lI (rD l (vS l w)).at_.node).lI (rD l (vS l w)).to.node;grind
 ·exact⟨h.inv,fun n a b=>Int.le_trans (h.bu n a b) og,by have:=h.nn;omega⟩
end Go.X.Tr

namespace Go.X.Kn
open Go Go.X Go.X.Fa Go.X.Sg Go.X.Sp Go.X.Tr Go.X.Vm
variable{B T co i m n p z:Int}{f:Int->Int}
structure PA where
 st:Int
 aA:Int
 cO:Int
 kJ:Int
 fd:Int->Int
 bx:BS
def PA.nil:PA:=⟨0,0,0,0,fun _=>0,BS.cR⟩
structure KA where
 u:Int->PA
 g:Gr.TG
 s:Sp.SS
 aK:Int->Nat
 v:VB
 f:Nat->Vm.MS
 P:Tr.PS
 O:Tr.OS
structure TB where
 b:Nat
 r:WH
 l:List MT
 p:Option Addr
 cap:Nat
 k:Nat
 c:Nat
 C:Nat->Value
structure TB.Ok (t:TB):Prop where
 rv:RV.ok ⟨t.p,t.cap,t.k,t.l.length,t.c,t.C⟩
 mc:MC t.C t.l
 len:t.l.length<=6
structure KZ where
 kb:Nat
 gb:Nat
 sb:Nat
 qb:Nat
 bb:Nat
 tb:Nat
 pi:Nat
 ob:Nat
 vp:Nat
structure KC where
 mb:Nat->Nat
 pp:Nat->Option Addr
 cc:Nat->Nat
 q:SC
 d:Int->Nat
 F:FC
 dF:Int->Nat
 rp:Option Addr
 rc:Nat
 rl:List Int
 t:Nat->TB
def PA.pu(p:PA)(b:Nat):PU:=⟨p.st,p.aA,p.cO,p.kJ,if p.st=0 then .pointer none else ay b 0 0,p.fd,p.bx⟩
def kp(a:KA)(b:KZ)(c:KC):KP:=⟨fun n=>(a.u n).pu (c.mb n.toNat),b.gb,b.sb,b.qb,b.bb,b.tb,b.pi,b.ob,fun z=>if a.s.aa z then ay (c.t z.toNat).b 0 0 else .pointer none⟩
def qo(a:KA)(b:KZ)(c:KC)(h:(a.u n).st≠0:=by omega):((kp a b c).u n).mem=ay (c.mb n.toNat) 0 0:=by
 show(if(a.u n).st=0 then Value.pointer none else ay (c.mb n.toNat) 0 0)=_;simp_all
def KP.ext{k k':KP}(hu:∀ n,k.u n=k'.u n)(hm:k.ms=k'.ms)(h:(k.gb=k'.gb/\k.sb=k'.sb/\k.qb=k'.qb/\k.bb=k'.bb)/\k.tb=k'.tb/\k.pi=k'.pi/\k.ob=k'.ob):k=k':=by
 cases k;cases k';obtain⟨⟨h1,h2,h3,h4⟩,h5,h6,h7⟩:=h;simp only at hm h1 h2 h3 h4 h5 h6 h7 hu;have e:=funext hu;simp_all
theorem X1(a:KA)(b:KZ)(c:KC)(n:Int)(p:PA):(kp a b c).put n (p.pu (c.mb n.toNat))=kp {a with u:=ad a.u n p} b c:=by
 refine KP.ext (fun m=> ?_) rfl ⟨⟨rfl,rfl,rfl,rfl⟩,rfl,rfl,rfl⟩;grind [KP.uB,ah,KP.BN,ae,kp]
def JV(a:KA)(b:KZ)(c:KC)(n:Int)(p:PA)(u:PU)(h:u=p.pu (c.mb n.toNat)):(kp a b c).put n u=kp {a with u:=ad a.u n p} b c:=by rw[h,X1]
def ka(a:KA):Nat->Bool:=fun j=>decide (j<20/\(a.u (j:Int)).st≠0)
def fS{a:KA}(h:0<=n/\n<20)(hs:(a.u n).st≠0:=by omega):ka a n.toNat=true:=by
 grind [ka]
def xd{a a':KA}(h:∀ n,0<=n->n<20->((a.u n).st=0↔(a'.u n).st=0)):ka a=ka a':=by
 grind [ka]
def X2{a:KA}{p:PA}(h:0<=n/\n<20)(hp:p.st=0):ka {a with u:=ad a.u n p} =jS (ka a) n.toNat:=by
 grind [jx,ka,ah,ae]
def Rm{a:KA}{p:PA}(h:0<=n/\n<20)(hp:p.st≠0):ka {a with u:=ad a.u n p} =He (ka a) n.toNat:=by
 grind [kB,ka,ah,ae]
def mF(a:KA):Nat->Bool:=fun j=>decide (j<6)&&a.s.aa (j:Int)
theorem DG{a:KA}{j:Nat} :mF a j=true↔j<6/\a.s.aa (j:Int)=true:=by simp[mF]
def eG{a:KA}(h:0<=z/\z<6)(hs:a.s.aa z=true):mF a z.toNat=true:=by grind [mF]
abbrev cT(tb:Nat)(t:Nat->TB):Nat->Nat->Value:=fun z=>Tr.aM tb (t z).r (.slice (t z).p (t z).l.length (t z).c)
abbrev rT(e:TypeId)(t:Nat->TB):Nat->re:=fun z=>⟨.slice (t z).p (t z).k (t z).cap,e,4,(t z).k,cE (t z).C ((t z).k*4)⟩
abbrev MQ(P:Nat->Bool)(tb:Nat)(e:TypeId)(t:Nat->TB):List aG:=[.eJ P (fun z=>(t z).b) 4 (cT tb t),.aV P (rT e t)]
abbrev X3(tb:Nat)(e:TypeId)(t:TB):List aG:=[Tr.f4 t.b tb t.r (.slice t.p t.l.length t.c),aN t.p t.cap e 4 t.k t.C]
theorem afI(tb:Nat)(t:Nat->TB)(z:Nat)(m:TB):Lb (cT tb t) z (Tr.aM tb m.r (.slice m.p m.l.length m.c))=cT tb (bD t z m):=by
 grind [I3,I4,bD]
theorem afJ(e:TypeId)(t:Nat->TB)(z:Nat)(m:TB):Da (rT e t) z ⟨.slice m.p m.k m.cap,e,4,m.k,cE m.C (m.k*4)⟩=rT e (bD t z m):=by
 grind [n9,mO,bD]
theorem afK(t:Nat->TB)(z:Nat)(m:TB):Lc (fun z=>(t z).b) z m.b=fun j=>(bD t z m j).b:=by
 grind [wE,td,bD]
section
variable{W w:World}{S:Nat->Nat->Prop}{H H0:List aG}{tb:Nat}{e:TypeId}{t:Nat->TB}{P:Nat->Bool}
def iv{z:Nat}(hz:P z=true)(hp:cX H0 (MQ P tb e t) H)(h:XM W S H0 w):XM W S (.cells (t z).b 0 4 (Tr.aM tb (t z).r (.slice (t z).p (t z).l.length (t z).c))::aN (t z).p (t z).cap e 4 (t z).k (t z).C:: .eJ (jS P z) (fun z=>(t z).b) 4 (cT tb t):: .aV (jS P z) (rT e t)::H) w:=by
 have h0:XM W S (.eJ P (fun z=>(t z).b) 4 (cT tb t):: .aV P (rT e t)::H) w:=h.cG hp.cG;have h1:=D4 z hz h0;have h2:=h1.cG (pk [2]).cG;simp only[List.cons_append,List.nil_append]at h2;have h3:=pI z hz h2;have h4:=h3.cG (pk [2,0,1,0]).cG;simp_all
def JW{z:Nat}(m:TB)(hz:P z=false)(hp:cX H0 (X3 tb e m++MQ P tb e t) H)(h:XM W S H0 w):XM W S (MQ (He P z) tb e (bD t z m)++H) w:=by
 have h:XM W S (.cells m.b 0 4 (Tr.aM tb m.r (.slice m.p m.l.length m.c))::aN m.p m.cap e 4 m.k m.C:: .eJ P (fun z=>(t z).b) 4 (cT tb t):: .aV P (rT e t)::H) w:=h.cG hp.cG;have h0:=h.cG (pk [0,1]).cG;simp only[List.cons_append,List.nil_append]at h0;have h1:=Hg z og hz h0;have h2:=h1.cG (pk [1,1]).cG;simp only[List.cons_append,List.nil_append]at h2;have h3:=rU (x:=⟨.slice m.p m.k m.cap,e,4,m.k,cE m.C (m.k*4)⟩) z hz h2;have h4:=h3.cG (pk [1,0]).cG;simp_all[afI,afJ,afK]
def AD{z:Nat}(m:TB)(hz:P z=true)(hp:cX H0 (X3 tb e m++MQ (jS P z) tb e t) H)(h:XM W S H0 w):XM W S (MQ P tb e (bD t z m)++H) w:=by
 have h1:=JW m (wD _ _) hp h;grind [Hf]
def iq{z:Nat}(hz:P z=true)(hp:cX H0 (X3 tb e (t z)++MQ (jS P z) tb e t) H)(h:XM W S H0 w):XM W S (MQ P tb e t++H) w:=by
 have h1:=AD (t z) hz hp h;rwa[ku]at h1
def Ub{z:Nat}(m:TB)(hp:cX H0 (X3 tb e m) H)(h:XM W S H0 w):XM W S (MQ (He (fun _=>false) z) tb e (bD (fun _=>m) z m)++H) w:=by
 have h0:XM W S (X3 tb e m++H) w:=h.cG hp.cG;have h1:XM W S (.eJ (fun _=>false) (fun _=>m.b) 4 (cT tb fun _=>m):: .aV (fun _=>false) (rT e fun _=>m):: .cells m.b 0 4 (Tr.aM tb m.r (.slice m.p m.l.length m.c))::aN m.p m.cap e 4 m.k m.C::H) w:=D5 (Hh h0);exact JW m rfl (pk [2,2,0,0]) h1
end
structure KA.Wk (a:KA) (T:Int):Prop where
 T0:0<=T/\T<=1000000
 gI:a.g.Inv
 gS:a.g.cb (1000*T)
 sI:a.s.Inv a.aK
 sys:Vm.Sys a.v a.f 20
 ud:∀ n,0<=n->n<20->(a.u n).st≠1->a.f n.toNat=Vm.MS.nil
 PI:a.P.Inv T
 OI:a.O.Inv T
 lc:∀ n,0<=n->n<20->((a.u n).st≠0↔0<=a.s.loc n)
 st:∀ n,(a.u n).st=0\/(a.u n).st=1\/(a.u n).st=2
 out:∀ n,(n<0\/20<=n)->a.u n=PA.nil
 fd:∀ n i,0<=(a.u n).fd i/\(a.u n).fd i<=24
 bx:∀ n,(a.u n).bx.dc 0=false
structure cP(a:KA)(c:KC)(N:Nat)(T:Int):Prop where
 qO:c.q.toSF.Ok c.d N N
 qR:c.q.nt
 F:c.F.toFF.Ok c.dF T
 rp:c.F.rP=c.rp
 rc:c.F.rC=c.rc
 rl:c.F.roots=c.rl
 tb:∀ z,0<=z->z<6->a.s.aa z=true->(c.t z.toNat).Ok
 tk:∀ n,0<=n->n<20->c.q.aa (10+n)=true->(a.u n).st=1
theorem FF.Ok.up{s:Tr.FF}{d:Int->Nat}{B':Int}(h:s.Ok d B)(hB:B<=B'):s.Ok d B':=⟨h.inv,fun n a b=>Int.le_trans (h.bu n a b) hB,Int.le_trans h.nn hB⟩
theorem KA.Wk.up{a:KA}{T':Int}(h:a.Wk T)(hT:T<=T')(Uc:T'<=1000000):a.Wk T':=⟨⟨by have:=h.T0;omega,Uc⟩,h.gI,h.gS.mono og,h.sI,h.sys,h.ud,h.PI.mono hT,h.OI.mono hT,h.lc,h.st,h.out,h.fd,h.bx⟩
theorem cP.up{a:KA}{c:KC}{N N':Nat}{T T':Int}(h:cP a c N T)(hN:N<=N')(hT:T<=T'):cP a c N' T':=⟨h.qO.mono hN og,h.qR,FF.Ok.up h.F hT,h.rp,h.rc,h.rl,h.tb,h.tk⟩
def cP.sh{a:KA}{c:KC}{N:Nat}{T:Int}(h:cP a c N T)(hT:T<=1000000):c.F.toFF.Sh:=h.F.sh hT
def Ud(s:Tr.FF)(n m:Int):(s.lI n).bu m<=s.bu m\/(s.lI n).bu m=0:=by
 unfold Tr.FF.lI;split
 ·have e:ad s.bu n (s.bu n-1) m<=s.bu m:=by
   grind [ah,ae]
  unfold Tr.FF.sD;split
  ·by_cases c:m=n
   ·right;subst c;exact ah _ _ _
   ·left;exact Int.le_trans (Int.le_of_eq (ae _ _ c)) e
  simp_all
 omega
theorem FF.Ok.abQ{s:Tr.FF}{d:Int->Nat}(h:s.Ok d B)(n:Int):(s.lI n).Ok d B:=
 ⟨(h.lI n).inv,fun m a b=>by
  have h1:=h.bu m a b
  have h2:=h.nn
  rcases Ud s n m with q | q<;>omega,h.nn⟩
def FF.Ok.adS:∀ (l:List MT) {s:Tr.FF} {d:Int->Nat} {B:Int},s.Ok d B->(E7 s l).Ok d B
 | [],_,_,_,h=>h
 | m::r,_,_,_,h=>FF.Ok.adS r (FF.Ok.abQ (FF.Ok.abQ h _) _)
def FF.Ok.abR{s:Tr.FF}{d:Int->Nat}(h:s.Ok d B)(l:List MT)(r:WH):(DF s l r).Ok d B:=FF.Ok.abQ (FF.Ok.adS l h) _
theorem FF.Ok.vT{s:Tr.FF}{d:Int->Nat}(h:s.Ok d B)(O:Tr.OS)(n:Int):(nU s O n).Ok d B:=by
 unfold nU;split;all_goals grind [FF.Ok.abQ]
theorem OS.Inv.vT{O:Tr.OS}{J:Int}(h:O.Inv J)(n:Int):(iH O n).Inv J:=by
 have hm:=h.close n;refine⟨fun m a b=> ?_,hm.at_,hm.aI,hm.cC⟩;have h1:=(hm.aY m a b).1;have h2:=(h.aY m a b);refine⟨h1,?_⟩;unfold iH;split
 ·omega
 ·split
  ·show ad O.aY n (O.aY n-1) m<=J;grind [ah,ae]
  ·show ad O.aY n 0 m<=J;grind [ah,ae]
theorem X4{P:Tr.PS}{K:Int}(h:P.Inv K)(n:Int)(w:Bool):(P.l7 n w (-1)).2.Inv K:=by
 have hm:=Tr.PS.XL (n:=n) (w:=w) h (.inr rfl);have iZ:∀ m k,(P.l7 n w (-1)).2.e m k<=P.e m k:=fun m k=>by
  unfold Tr.PS.l7;split
  ·simp_all
  ·split;all_goals grind [bW]
 exact⟨fun m=>⟨(hm.e0 m).1,Int.le_trans (iZ m 0) (h.e0 m).2⟩,fun m=>⟨(hm.e1 m).1,Int.le_trans (iZ m 1) (h.e1 m).2⟩,hm.cl,hm.len⟩
theorem PS.vT{P:Tr.PS}{K:Int}(h:P.Inv K)(O:Tr.OS)(n:Int):(j7 P O n).Inv K:=by
 unfold j7;split;all_goals grind [X4]
theorem vU{g:Gr.TG}(h:g.Inv)(hS:g.cb B)(n p m:Int):(g.eb n p m).cb B:=by
 have hI:=h.eb n p m;intro y y0 y1;have h1:=hS y y0 y1;unfold Gr.TG.eb at hI ⊢;split
 ·rename_i c;rw[if_pos c]at hI;obtain⟨⟨n0,n1,n2⟩,p0,p1,m0,m1⟩:=Gr.TG.zN c;have hw:=h.ok.cU n0 n1 n2;show-B<=g.pr y+ -p*((g.cU n).count y:Int)/\g.pr y+ -p*((g.cU n).count y:Int)<=B/\ -B<=g.pg y+ -m*((g.cU n).count y:Int)/\g.pg y+ -m*((g.cU n).count y:Int)<=B;have k0:(0:Int)<=((g.cU n).count y:Int):=og;have e1:0<=p*((g.cU n).count y:Int):=Int.mul_nonneg og k0;have e2:0<=m*((g.cU n).count y:Int):=Int.mul_nonneg og k0;have e3: -p*((g.cU n).count y:Int)= -(p*((g.cU n).count y:Int)):=Int.neg_mul _ _;have e4: -m*((g.cU n).count y:Int)= -(m*((g.cU n).count y:Int)):=Int.neg_mul _ _;by_cases q:y∈g.cU n
  ·have hn:=hI.nn y0 y1 (hw.2.2 y q);have hn1:0<=g.pr y+ -p*((g.cU n).count y:Int)/\0<=g.pg y+ -m*((g.cU n).count y:Int):=hn;omega
  grind
 omega
theorem lC{f:Int->Int}{x:Int} :∀ {k:Nat},x∈eB f k↔∃ j:Int,0<=j/\j<k/\0<=f j/\f j=x
 | 0=>by simp[eB];omega
 | k+1=>by
  rw[eB,List.mem_append,lC];constructor
  ·rintro(⟨j,a,b,c,d⟩ | h)
   ·exact⟨j,a,og,c,d⟩
   ·split at h
    ·rename_i q;exact⟨k,og,og,q,(List.mem_singleton.1 h).symm⟩
    ·cases h
  ·rintro⟨j,a,b,c,d⟩;by_cases e:j=(k:Int)
   ·subst e;right;rw[if_pos c];exact List.mem_singleton.2 d.symm
   ·exact .inl ⟨j,a,og,c,d⟩
def qp{f:Int->Int}(hi:∀ q q',0<=f q->f q'=f q->q'=q):∀ k:Nat,(eB f k).Nodup
 | 0=>List.nodup_nil
 | k+1=>by
  rw[eB];split
  ·rename_i c;refine List.nodup_append.2 ⟨qp hi k,List.nodup_cons.2 ⟨sq,List.nodup_nil⟩,fun x hx y hy=> ?_⟩;rw[List.mem_singleton.1 hy];rintro rfl;obtain⟨j,a,b,_,d⟩:=lC.1 hx;grind
  ·rw[List.append_nil];exact qp hi k
theorem pA{s:Sp.SS}{aK:Int->Nat}(h:s.Inv aK)(z:Int):(s.mem z).1.Nodup:=by
 unfold Sp.SS.mem;split
 ·simp_all
 ·exact qp (fun q q' a b=>h.inj z q q' a b) 21
theorem qY(s:Sp.SS)(z:Int):(s.drop z).2.loc=s.loc:=by
 unfold Sp.SS.drop;grind
def JX{s:Sp.SS}(hp:0<=p/\p<20):(s.fL p).2.loc p<0:=by
 unfold Sp.SS.fL;split
 ·rename_i c;unfold Sp.SS.bZ at c;grind
 ·show ad s.loc p (-1) p<0;grind [ah]
theorem vV(s:Sp.SS)(h:m≠p):(s.fL p).2.loc m=s.loc m:=by
 unfold Sp.SS.fL;split
 ·rfl
 ·exact ae _ _ h
theorem SS.uf(s:Sp.SS)(z:Int):((s.drop z).1≠0/\(s.drop z).2=s)\/((s.drop z).1=0/\(0<=z/\z<6)/\z≠0/\s.aa z=true/\(s.drop z).2= {s with aa:=ad s.aa z false,aA:=ad s.aA z 0} /\(∀ j,s.b8 z j<0\/¬(0<=j/\j<21))/\∀ j:Int,0<=j->j<6->¬(s.aa j=true/\s.aA j=z)):=by
 by_cases h:(s.drop z).1=0
 ·right;refine⟨h,?_⟩;unfold Sp.SS.drop at h ⊢;split at h
  ·omega
  ·rename_i c;have hi:(0<=z/\z<6)/\s.aa z=true:=by
    have c:s.is z=0:=og;unfold Sp.SS.is at c;grind
   rw[if_neg c];split at h
   ·omega
   ·rename_i d;rw[if_neg d];split at h
    ·omega
    ·rename_i e;refine⟨hi.1,fun q=>d (.inl q),hi.2,rfl,fun j=> ?_,fun j j0 j1 q=> ?_⟩
     ·by_cases q:0<=j/\j<21
      ·left;refine Decidable.byContradiction fun r=>d (.inr ?_);have:s.b8 z j∈s.dY z:=lC.2 ⟨j,og,og,og,rfl⟩;simp_all
      omega
     ·unfold Sp.SS.kids at e;have:=ss e j j0 og;simp_all
 grind [OF]
def Dj(f:Int->Int)(i:Int):Int->Int:=fun j=>if 0<=j/\j<i/\f j>0 then 0 else f j
theorem aiQ(f:Int->Int):Dj f 0=f:=by funext j;unfold Dj;rw[if_neg og]
theorem abS(f:Int->Int)(hi:0<=i)(h:f i>0):ad (Dj f i) i 0=Dj f (i+1):=by
 grind [Dj,ad]
theorem X5(f:Int->Int)(h:¬f i>0):Dj f i=Dj f (i+1):=by
 grind [Dj]
def zj(f:Int->Int)(O:Tr.OS)(P:Tr.PS):Nat->Tr.OS×Tr.PS
 | 0=>(O,P)
 | k+1=>if f (k:Int)>0 then(iH (zj f O P k).1 (f (k:Int)-1),j7 (zj f O P k).2 (zj f O P k).1 (f (k:Int)-1))else zj f O P k
theorem abT(O:Tr.OS)(P:Tr.PS)(hi:0<=i)(h:f i>0):zj f O P (i+1).toNat=(iH (zj f O P i.toNat).1 (f i-1),j7 (zj f O P i.toNat).2 (zj f O P i.toNat).1 (f i-1)):=by
 rw[show(i+1).toNat=i.toNat+1 by omega];grind [zj]
theorem X6(O:Tr.OS)(P:Tr.PS)(hi:0<=i)(h:¬f i>0):zj f O P (i+1).toNat=zj f O P i.toNat:=by
 rw[show(i+1).toNat=i.toNat+1 by omega];grind [zj]
theorem ug{f:Int->Int}{O:Tr.OS}{P:Tr.PS}{T:Int}(hO:O.Inv T)(hP:P.Inv T):∀ k:Nat,(zj f O P k).1.Inv T/\(zj f O P k).2.Inv T
 | 0=>⟨hO,hP⟩
 | k+1=>by
  obtain⟨h1,h2⟩:=ug (f:=f) hO hP k;grind [zj,OS.Inv.vT,PS.vT]
abbrev KA.um(a:KA)(n:Int):Int×Int×VB×Vm.MS:=(a.f n.toNat).dM a.v 0 16
def Ue{m:Vm.MS}(h:m.Ok)(v:VB):(m.dM v 0 16).2.2.2=Vm.MS.nil:=by
 unfold Vm.MS.dM;rw[if_neg dq];have e:∀ {α:Type} (f:Int->α) (v:α),(∀ i,i<0\/16<=i->f i=v)->fR f 0 16 v=fun _=>v:=fun f v h=>by
  funext i;unfold fR;split;all_goals grind
 have h1:∀ i,i<0\/16<=i->m.fr i=0:=fun i hi=>h.un i (h.f.out i hi);show Vm.MS.mk _ _ _=_;rw[e m.az 0 h.f.out,e m.fr 0 h1,e m.aU false fun i hi=>h.ow i (h1 i hi)];rfl
def KA.cH(a:KA)(n co:Int):KA:=
 {a with u:=ad a.u n {a.u n with st:=2,kJ:=co,fd:=Dj (a.u n).fd 6},g:=a.g.eb (a.u n).cO 0 (a.um n).1,v:=(a.um n).2.2.1,f:=(bD a.f n.toNat (a.um n).2.2.2),O:=(zj (a.u n).fd a.O a.P 6).1,P:=(zj (a.u n).fd a.O a.P 6).2}
def oq{α:Type}(f:Int->α)(n m:Int)(x:α){Q:α->Prop}(h1:m=n->Q x)(h2:m≠n->Q (f m)):Q (ad f n x m):=by
 grind [ad]
theorem KA.Wk.cH{a:KA}{T:Int}(h:a.Wk T){n:Int}(hn:0<=n/\n<20)(hl:(a.u n).st=1)(co:Int):(a.cH n co).Wk T where
 T0:=h.T0
 gI:=h.gI.eb _ _ _
 gS:=vU h.gI h.gS _ _ _
 sI:=h.sI
 sys:=h.sys.dM (z:=n.toNat) og 0 16
 ud:=fun m h0 h1 h2=>by
  show bD a.f n.toNat (a.um n).2.2.2 m.toNat=_
  by_cases e:m=n
  ·subst e;rw[ly];exact Ue (h.sys.mo _ og) _
  ·rw[iu _ _ og]
   refine h.ud m h0 h1 fun q=>h2 ?_
   show(ad a.u n _ m).st=1
   rw[ae _ _ e];exact q
 PI:=(ug (f:=(a.u n).fd) h.OI h.PI 6).2
 OI:=(ug (f:=(a.u n).fd) h.OI h.PI 6).1
 lc:=fun m a0 a1=>oq a.u n m _ (Q:=fun x=>x.st≠0↔0<=a.s.loc m) (fun e=>by
  subst e;exact⟨fun _=>(h.lc m a0 a1).1 og,fun _=>(by decide:(2:Int)≠0)⟩) fun _=>h.lc m a0 a1
 st:=fun m=>oq a.u n m _ (Q:=fun x=>x.st=0\/x.st=1\/x.st=2) (fun _=>.inr (.inr rfl)) fun _=>h.st m
 out:=fun m hm=>by
  show ad a.u n _ m=_
  rw[ae _ _ og];exact h.out m hm
 fd:=fun m i=>oq a.u n m _ (Q:=fun x=>0<=x.fd i/\x.fd i<=24) (fun _=>by
  have:=h.fd n i
  show 0<=Dj _ 6 i/\Dj _ 6 i<=24
  unfold Dj;split<;>omega) fun _=>h.fd m i
 bx:=fun m=>oq a.u n m _ (Q:=fun x=>x.bx.dc 0=false) (fun _=>h.bx n) fun _=>h.bx m
def KA.dD(a:KA)(n:Int):KA:= {a with u:=ad a.u n PA.nil,g:=a.g.eb (a.u n).cO 1 0,s:=(a.s.fL n).2}
theorem KA.Wk.dD{a:KA}{T:Int}(h:a.Wk T){n:Int}(hn:0<=n/\n<20)(hs:(a.u n).st≠1):(a.dD n).Wk T where
 T0:=h.T0
 gI:=h.gI.eb _ _ _
 gS:=vU h.gI h.gS _ _ _
 sI:=h.sI.fL _
 sys:=h.sys
 ud:=fun m h0 h1 h2=>by
  by_cases e:m=n
  ·subst e;exact h.ud m h0 h1 hs
  ·refine h.ud m h0 h1 (fun q=>h2 ?_)
   show(ad a.u n _ m).st=1
   rw[ae _ _ e];exact q
 PI:=h.PI
 OI:=h.OI
 lc:=fun m a0 a1=>by
  show(ad a.u n PA.nil m).st≠0↔0<=(a.s.fL n).2.loc m
  by_cases e:m=n
  ·subst e
   rw[ah]
   exact⟨fun q=>absurd rfl q,fun q=>absurd q (by have:=JX (s:=a.s) (p:=m) hn;omega)⟩
  ·rw[ae _ _ e,vV _ e];exact h.lc m a0 a1
 st:=fun m=>oq a.u n m _ (Q:=fun x=>x.st=0\/x.st=1\/x.st=2) (fun _=>.inl rfl) fun _=>h.st m
 out:=fun m hm=>oq a.u n m _ (Q:=fun x=>x=PA.nil) (fun _=>rfl) fun _=>h.out m hm
 fd:=fun m i=>oq a.u n m _ (Q:=fun x=>0<=x.fd i/\x.fd i<=24) (fun _=>by simp[PA.nil]) fun _=>h.fd m i
 bx:=fun m=>oq a.u n m _ (Q:=fun x=>x.bx.dc 0=false) (fun _=>rfl) fun _=>h.bx m
def KA.ea(a:KA)(z:Int):KA:= {a with s:=(a.s.drop z).2}
theorem KA.Wk.ea{a:KA}{T:Int}(h:a.Wk T)(z:Int):(a.ea z).Wk T:=⟨h.T0,h.gI,h.gS,h.sI.drop z,h.sys,h.ud,h.PI,h.OI,(fun n a0 a1=>by rw[show(a.ea z).s.loc=a.s.loc from qY _ _];exact h.lc n a0 a1),h.st,h.out,h.fd,h.bx⟩
def jQ(f:Int->Int)(a:Int):Int:=match dW (fun k=>decide (a<=k)&&(f k==0)) 6 with
 | some k=>k
 | none=> -1
theorem Uf{a:Int}(h0:0<=i/\a<=i/\i<6)(h1:f i=0)(hn:∀ j:Int,0<=j->a<=j->j<i->f j≠0):jQ f a=i:=by
 unfold jQ;have e:dW (fun k=>decide (a<=k)&&(f k==0)) 6=some i.toNat:=by
  grind [fw]
 grind
theorem Pb{a:Int}(hn:∀ j:Int,0<=j->a<=j->j<6->f j≠0):jQ f a= -1:=by
 grind [jQ,fx]
def KP.eY(k:KP)(n i:Int):Int:=if k.aF n≠0 then k.aF n else if i<0\/6<=i then 1 else if(k.u n).fd i=0 then 2 else 0
def KP.cW(k:KP)(n i:Int):Int:=if k.eY n i=0 then(k.u n).fd i-1 else 0
theorem KP.rE{k:KP}(h:k.eY n i=0):(0<=n/\n<20)/\(k.u n).st=1/\(0<=i/\i<6)/\(k.u n).fd i≠0/\k.cW n i=(k.u n).fd i-1:=by
 have hv:k.cW n i=(k.u n).fd i-1:=by unfold KP.cW;rw[if_pos h]
 unfold KP.eY at h;split at h
 ·omega
 ·split at h
  ·omega
  ·split at h
   ·omega
   ·have:=bM (k:=k) (n:=n) og;omega
theorem afM(a:KA)(b:KZ)(c:KC)(n:Int):(kp a b c).put n {(kp a b c).u n with fd:=Dj (a.u n).fd 0} =kp a b c:=by
 rw[aiQ];exact CP _ _
theorem afN(a:KA)(b:KZ)(c:KC)(hi:0<=i)(h:(a.u n).fd i>0):((kp a b c).put n {(kp a b c).u n with fd:=Dj (a.u n).fd i}).put n {((kp a b c).put n {(kp a b c).u n with fd:=Dj (a.u n).fd i}).u n with fd:=ad (((kp a b c).put n {(kp a b c).u n with fd:=Dj (a.u n).fd i}).u n).fd i 0} =(kp a b c).put n {(kp a b c).u n with fd:=Dj (a.u n).fd (i+1)} :=by
 grind [KP.JB,KP.uB,abS]
theorem afO(a:KA)(b:KZ)(c:KC)(hl:(a.u n).st=1)(hn:0<=n/\n<20)(K:KP)(hK:K=(kp a b c).put n {(kp a b c).u n with fd:=Dj (a.u n).fd 6}):(K.put n {K.u n with st:=2}).put n {(K.put n {K.u n with st:=2}).u n with kJ:=co} =kp (a.cH n co) b c:=by
 subst hK;rw[KP.uB,KP.JB,KP.JB,KP.uB];refine(JV a b c n {a.u n with st:=2,kJ:=co,fd:=Dj (a.u n).fd 6} _ ?_).trans rfl;show PU.mk 2 (a.u n).aA (a.u n).cO co (if(a.u n).st=0 then _ else _) _ _=PU.mk 2 (a.u n).aA (a.u n).cO co (if(2:Int)=0 then _ else _) _ _;rw[if_neg og,if_neg og];rfl
theorem abU(a:KA)(hl:(a.u n).st=1):ka (a.cH n co)=ka a:=by
 refine(xd fun m _ _=> ?_).symm;show(a.u m).st=0↔(ad a.u n _ m).st=0;grind [ah,ae]
theorem abV(a:KA)(b:KZ)(c:KC)(n:Int):(kp a b c).put n PU.nil=kp (a.dD n) b c:=by
 refine KP.ext (fun m=> ?_) ?_ ⟨⟨rfl,rfl,rfl,rfl⟩,rfl,rfl,rfl⟩
 ·by_cases e:m=n
  ·subst e;rw[KP.uB];show _=(ad a.u m PA.nil m).pu _;rw[ah];rfl
  ·rw[KP.BN _ _ e];show(a.u m).pu _=(ad a.u n PA.nil m).pu _;grind [ae]
 ·have e:(a.s.fL n).2.aa=a.s.aa:=by unfold Sp.SS.fL;split<;>rfl
  show _=fun z=>if(a.s.fL n).2.aa z then _ else _
  rw[e];rfl
theorem yf(s:Sp.SS)(n:Int):(s.fL n).2.aa=s.aa:=by unfold Sp.SS.fL;split<;>rfl
theorem X7(a:KA)(n:Int):mF (a.dD n)=mF a:=by
 grind [mF,KA.dD,yf]
theorem X8(a:KA)(hn:0<=n/\n<20):ka (a.dD n)=jS (ka a) n.toNat:=(xd fun _ _ _=>Iff.rfl).trans (X2 (p:=PA.nil) hn rfl)
theorem X9{a:KA}(hz:0<=z/\z<6)(h:(a.s.drop z).2= {a.s with aa:=ad a.s.aa z false,aA:=ad a.s.aA z 0}):mF (a.ea z)=jS (mF a) z.toNat:=by
 funext j;rw[Bool.eq_iff_iff,jx,DG,DG];show j<6/\(a.s.drop z).2.aa j=true↔_;rw[h];grind [ah,ae]
def Ya(a:KA)(b:KZ)(c:KC)(h:a.s.aa z=true):(kp a b c).ms z=ay (c.t z.toNat).b 0 0:=if_pos h
theorem abW(a:KA)(b:KZ)(c:KC)(h:(a.s.drop z).2= {a.s with aa:=ad a.s.aa z false,aA:=ad a.s.aA z 0}):({kp a b c with ms:=ad (kp a b c).ms z (.pointer none)} :KP)=kp (a.ea z) b c:=by
 refine KP.ext (fun m=>rfl) ?_ ⟨⟨rfl,rfl,rfl,rfl⟩,rfl,rfl,rfl⟩;show ad (kp a b c).ms z (.pointer none)=fun y=>if(a.s.drop z).2.aa y then ay (c.t y.toNat).b 0 0 else .pointer none
 rw[h];grind [ad,kp]
def KA.eN(h:Int)(a:KA)(m:Int):KA:=if m=h then a else(if(a.u m).st=1 then a.cH m 0 else a).dD m
def KA.round(a:KA):KA:=(Sp.fF a.s.aa 6).foldl KA.ea a
def KA.dY(a:KA)(z h:Int):KA:=(a.s.mem z).1.foldl (KA.eN h) a
def KA.dS(a:KA):Nat->KA
 | 0=>a
 | k+1=>(a.dS k).round
def KA.eH(a:KA)(z h:Int):KA:=(a.dY z h).dS 4
theorem Pc{α β:Type}(f:α->β->α)(a:α)(l:List β)(x:β):(l++[x]).foldl f a=f (l.foldl f a) x:=jw
theorem ni(a:KA)(co:Int)(h:m≠n):(a.cH n co).u m=a.u m:=ae _ _ h
theorem ll(a:KA)(h:m≠n):(a.dD n).u m=a.u m:=ae _ _ h
theorem vW(a:KA)(h:Int)(e:m≠n):(a.eN h n).u m=a.u m:=by
 grind [KA.eN,ll,ni]
theorem lX(a:KA)(n co:Int):((a.cH n co).u n).st=2:=by
 show(ad a.u n _ n).st=2;rw[ah]
theorem y8{s:Sp.SS}(h:p∈(s.mem z).1):∃ q:Int,0<=q/\q<21/\s.b8 z q=p/\0<=p:=by
 unfold Sp.SS.mem at h;split at h
 ·cases h
 ·obtain⟨j,h0,h1,h2,h3⟩:=lC.1 h;grind
theorem H8(a:KA)(h:Int){m:Int} :∀ {l:List Int},m∉l->(l.foldl (KA.eN h) a).u m=a.u m
 | [],_=>rfl
 | x::r,hm=>by
  rw[List.foldl_cons,H8 (a.eN h x) h fun q=>hm (.tail _ q),vW _ _ (by rintro rfl;exact hm (.head _))]
theorem KA.Wk.eN{a:KA}{T:Int}(w:a.Wk T)(h:Int){m:Int}(hm:0<=m/\m<20):(a.eN h m).Wk T:=by
 grind [KA.eN,KA.Wk.cH,lX,KA.Wk.dD]
theorem SS.mem_range{s:Sp.SS}{aK:Int->Nat}(h:s.Inv aK)(hp:p∈(s.mem z).1):(0<=p/\p<20)/\0<=s.loc p:=by
 obtain⟨q,_,_,e,p0⟩:=y8 hp;have:=h.mem z q p p0 e;omega
def KA.Wk.y9{a:KA}(w:a.Wk T)(z:Int)(hp:p∈(a.s.mem z).1):(0<=p/\p<20)/\(a.u p).st≠0:=by
 grind [SS.mem_range,KA.Wk.sI,KA.Wk.lc]
def KA.Wk.Vh{T:Int}(h:Int):∀ {l:List Int} {a:KA},a.Wk T->(∀ m∈l,0<=m/\m<20)->(l.foldl (KA.eN h) a).Wk T
 | [],_,w,_=>w
 | x::r,_,w,hl=>KA.Wk.Vh (l:=r) h (w.eN h (hl x (.head _))) fun m hm=>hl m (.tail _ hm)
theorem KA.Wk.dY{a:KA}{T:Int}(w:a.Wk T)(z h:Int):(a.dY z h).Wk T:=KA.Wk.Vh h w fun _ hm=>(SS.mem_range w.sI hm).1
def KA.Wk.vX{T:Int} :∀ {l:List Int} {a:KA},a.Wk T->(l.foldl KA.ea a).Wk T
 | [],_,w=>w
 | x::r,_,w=>KA.Wk.vX (l:=r) (w.ea x)
def KA.Wk.round{a:KA}{T:Int}(w:a.Wk T):a.round.Wk T:=KA.Wk.vX w
def KA.Wk.dS{a:KA}{T:Int}(w:a.Wk T):∀ k,(a.dS k).Wk T
 | 0=>w
 | k+1=>(w.dS k).round
theorem KA.Wk.eH{a:KA}{T:Int}(w:a.Wk T)(z h:Int):(a.eH z h).Wk T:=(w.dY z h).dS 4
theorem E8(a:KA)(h:0<=i):a.dS (i+1).toNat=(a.dS i.toNat).round:=by
 rw[show(i+1).toNat=i.toNat+1 by omega];rfl
theorem xe{l:List Int}(h:0<=i/\i<l.length):l.take (i+1).toNat=l.take i.toNat++[jK l i]:=adK h
theorem Yb{l:List Int}(hn:l.Nodup)(h:0<=i/\i<l.length):jK l i∉l.take i.toNat:=by
 intro q;have h1:(l.take i.toNat++l.drop i.toNat).Nodup:=by rwa[List.take_append_drop]
 grind [jK,List.drop_eq_getElem_cons]
theorem FF.nS(s:Tr.FF)(n:Int):(s.lI n).roots=s.roots:=by
 unfold Tr.FF.lI Tr.FF.sD;split
 ·split<;>rfl
 rfl
def yg:∀ (l:List MT) (s:Tr.FF),(E7 s l).roots=s.roots
 | [],_=>rfl
 | m::r,s=>(yg r _).trans ((FF.nS _ _).trans (FF.nS _ _))
theorem uE(s:Tr.FF)(l:List MT)(r:WH):(DF s l r).roots=s.roots:=(FF.nS _ _).trans (yg _ _)
def AE{s:Sp.SS}{y:Int}(h:(s.drop z).2.aa y=true):s.aa y=true:=by
 rcases SS.uf s z with⟨_,e⟩ | ⟨_,_,_,_,e,_⟩;all_goals simp_all[ad]
def uh(k:KP)(h:0<=z/\z<6){v:Value}(e:k.ms z=v):0+447+z.toNat*1<453/\aB k (0+447+z.toNat*1)=v:=by grind [aB]
theorem cP.Yc{a:KA}{c:KC}{N:Nat}(h:cP a c N T)(hs:(a.u n).st≠1):cP (a.dD n) c N T:=⟨h.qO,h.qR,h.F,h.rp,h.rc,h.rl,fun z h0 h1 h2=>h.tb z h0 h1 (by rwa[show(a.dD n).s.aa=a.s.aa from yf _ _]at h2),fun m m0 m1 hm=>by
 have h1:=h.tk m m0 m1 hm
 have:m≠n:=by rintro rfl;exact hs h1
 rw[ll _ this];exact h1⟩
theorem nW(x:BS)(n:Int)(h:x.dc 0=false):(x.send n).2.dc 0=false:=by
 unfold BS.send;split
 ·rename_i c;have:=(ig n).1 c;show(if x.Bu n=1 then x else _).dc 0=false;split;all_goals grind [ae]
 omega
def CV{x y:BS}{h:Int}(e:∀ k:Int,0<=k->k<9->(x.dc k&&(!x.bu k&&decide (x.kt k=h)))=(y.dc k&&(!y.bu k&&decide (y.kt k=h)))):x.first h=y.first h:=by
 unfold BS.first
 have e2:dW (fun k=>x.dc k&&(!x.bu k&&decide (x.kt k=h))) 9=dW (fun k=>y.dc k&&(!y.bu k&&decide (y.kt k=h))) 9:=by
  cases hy:dW (fun k=>y.dc k&&(!y.bu k&&decide (y.kt k=h))) 9 with
  | none=>exact fx fun j j0 j1=>(e j j0 og).trans (ss hy j j0 j1)
  | some m=>
   obtain⟨h1,h2,h3⟩:=CJ hy;have:=fw (p:=fun k=>x.dc k&&(!x.bu k&&decide (x.kt k=h))) (m:=9) (k:=(m:Int)) og og ((e m og og).trans h2) fun j j0 j1=>(e j j0 og).trans (h3 j j0 j1);rw[this];rfl
 rw[e2]
theorem H9(x:BS):(x.send 3).2.first 0=x.first 0:=by
 unfold BS.send;rw[if_pos dq];show(if x.Bu 3=1 then x else _).first 0=_
 split
 ·rfl
 ·rename_i c;refine CV fun k k0 k1=> ?_;show(ad x.dc 3 true k&&_)=_;by_cases e:k=3
  ·subst e;have h0:¬x.kt 3=0:=fun q=>c (by unfold BS.Bu;rw[if_pos ⟨rfl,q⟩]);simp_all
  grind [ae]
def KA.jr(a:KA)(n:Int)(x:BS):KA:= {a with u:=ad a.u n {a.u n with bx:=x}}
def KA.aF(a:KA)(n:Int):Int:=if n<0\/20<=n then 1 else if(a.u n).st=1 then 0 else 2
theorem abX(a:KA)(b:KZ)(c:KC)(n:Int):(kp a b c).aF n=a.aF n:=rfl
theorem bE{a:KA}(h:a.aF n=0):(0<=n/\n<20)/\(a.u n).st=1:=by
 grind [KA.aF]
theorem KA.tX{a:KA}(h:0<=n/\n<20)(e:(a.u n).st=1):a.aF n=0:=by grind [KA.aF]
theorem B0(a:KA)(b:KZ)(c:KC)(n:Int)(x:BS):(kp a b c).box n x=kp (a.jr n x) b c:=JV a b c n {a.u n with bx:=x} _ rfl
theorem xf(a:KA)(x:BS)(h:m≠n):(a.jr n x).u m=a.u m:=ae _ _ h
theorem DH(a:KA)(n:Int)(x:BS):(a.jr n x).u n= {a.u n with bx:=x} :=ah _ _ _
theorem gp(a:KA)(n m:Int)(x:BS):((a.jr n x).u m).st=(a.u m).st:=by
 grind [DH,xf]
theorem xg(a:KA)(n:Int)(x:BS):ka (a.jr n x)=ka a:=xd fun m _ _=>by rw[gp]
theorem KA.Wk.jr{a:KA}{T:Int}(h:a.Wk T){n:Int}(hn:0<=n/\n<20){x:BS}(hx:x.dc 0=false):(a.jr n x).Wk T where
 T0:=h.T0
 gI:=h.gI
 gS:=h.gS
 sI:=h.sI
 sys:=h.sys
 ud:=fun m a0 a1 q=>h.ud m a0 a1 (by rwa[gp]at q)
 PI:=h.PI
 OI:=h.OI
 lc:=fun m a0 a1=>by rw[gp];exact h.lc m a0 a1
 st:=fun m=>by rw[gp];exact h.st m
 out:=fun m hm=>by rw[xf _ _ og];exact h.out m hm
 fd:=fun m i=>oq a.u n m _ (Q:=fun z=>0<=z.fd i/\z.fd i<=24) (fun _=>h.fd n i) fun _=>h.fd m i
 bx:=fun m=>oq a.u n m _ (Q:=fun z=>z.bx.dc 0=false) (fun _=>hx) fun _=>h.bx m
def KA.head(a:KA)(n:Int):Int:=(a.s.find (a.s.bZ n).1 1).1
def KA.de(a:KA)(n h:Int):KA:= {a with u:=fun j=>if 0<=j/\j<20/\(a.u j).st≠0/\(a.u j).aA=n then {a.u j with aA:=h} else a.u j}
theorem dE(a:KA)(n h j:Int):((a.de n h).u j).st=(a.u j).st/\((a.de n h).u j).bx=(a.u j).bx/\((a.de n h).u j).cO=(a.u j).cO/\((a.de n h).u j).kJ=(a.u j).kJ/\((a.de n h).u j).fd=(a.u j).fd:=by
 show((if 0<=j/\j<20/\(a.u j).st≠0/\(a.u j).aA=n then {a.u j with aA:=h} else a.u j):PA).st=_/\((if 0<=j/\j<20/\(a.u j).st≠0/\(a.u j).aA=n then {a.u j with aA:=h} else a.u j):PA).bx=_/\((if 0<=j/\j<20/\(a.u j).st≠0/\(a.u j).aA=n then {a.u j with aA:=h} else a.u j):PA).cO=_/\((if 0<=j/\j<20/\(a.u j).st≠0/\(a.u j).aA=n then {a.u j with aA:=h} else a.u j):PA).kJ=_/\((if 0<=j/\j<20/\(a.u j).st≠0/\(a.u j).aA=n then {a.u j with aA:=h} else a.u j):PA).fd=_;grind
theorem MR(a:KA)(b:KZ)(c:KC)(n h:Int):(kp a b c).kY n h 20=kp (a.de n h) b c:=by
 refine KP.ext (fun m=> ?_) rfl ⟨⟨rfl,rfl,rfl,rfl⟩,rfl,rfl,rfl⟩;show(if 0<=m/\m<20/\(a.u m).st≠0/\(a.u m).aA=n then {(a.u m).pu _ with aA:=h} else(a.u m).pu _)=PA.pu (if 0<=m/\m<20/\(a.u m).st≠0/\(a.u m).aA=n then {a.u m with aA:=h} else a.u m) _;split<;>rfl
theorem Ia(a:KA)(n h:Int):ka (a.de n h)=ka a:=by grind [dE,ka]
def KA.Wk.de{a:KA}{T:Int}(w:a.Wk T)(n h:Int):(a.de n h).Wk T where
 T0:=w.T0
 gI:=w.gI
 gS:=w.gS
 sI:=w.sI
 sys:=w.sys
 ud:=fun m a0 a1 q=>w.ud m a0 a1 (by rwa[(dE _ _ _ _).1]at q)
 PI:=w.PI
 OI:=w.OI
 lc:=fun m a0 a1=>by rw[(dE _ _ _ _).1];exact w.lc m a0 a1
 st:=fun m=>by rw[(dE _ _ _ _).1];exact w.st m
 out:=fun m hm=>by
  show(if 0<=m/\m<20/\(a.u m).st≠0/\(a.u m).aA=n then {a.u m with aA:=h} else a.u m)=PA.nil
  rw[if_neg og];exact w.out m hm
 fd:=fun m i=>by rw[(dE _ _ _ _).2.2.2.2];exact w.fd m i
 bx:=fun m=>by rw[(dE _ _ _ _).2.1];exact w.bx m
def KA.ko(a:KA)(p:Int):KA:=if a.aF p=0 then a.jr p ((a.u p).bx.send 3).2 else a
theorem KA.Wk.ko{a:KA}{T:Int}(w:a.Wk T)(p:Int):(a.ko p).Wk T:=by
 grind [KA.ko,KA.Wk.jr,bE,nW,KA.Wk.bx]
def KA.gG(a:KA)(n co:Int):KA:=if a.head n=n then(a.cH n co).eH (a.s.bZ n).1 n else a.cH n co
def KA.db(a:KA)(n co:Int):KA:=((a.gG n co).de n (a.head n)).ko (((a.gG n co).de n (a.head n)).u n).aA
theorem KA.Wk.gG{a:KA}{T:Int}(w:a.Wk T){n:Int}(hn:0<=n/\n<20)(hl:(a.u n).st=1)(co:Int):(a.gG n co).Wk T:=by
 unfold KA.gG;split
 ·exact(w.cH hn hl co).eH _ _
 grind [KA.Wk.cH]
theorem KA.Wk.db{a:KA}{T:Int}(w:a.Wk T){n:Int}(hn:0<=n/\n<20)(hl:(a.u n).st=1)(co:Int):(a.db n co).Wk T:=((w.gG hn hl co).de _ _).ko _
def KA.Hx(a:KA)(n:Int):Prop:=∀ p,0<=p->p<20->p≠n->(a.u p).st=1->(a.u p).bx.first 0=0\/a.s.b8 (a.s.loc p) 1=p
theorem KA.Hx.cH{a:KA}{n:Int}(h:a.Hx n)(co:Int):(a.cH n co).Hx n:=fun p h0 h1 h2 h3=>by
 rw[ni _ _ h2]at h3 ⊢;exact h p h0 h1 h2 h3
def KA.Hx.alE{a:KA}(h:a.Hx n)(co:Int):(a.cH m co).Hx n:=fun p h0 h1 h2 h3=>by
 by_cases e:p=m
 ·grind [lX]
 ·rw[ni _ _ e]at h3 ⊢;exact h p h0 h1 h2 h3
def AF{s:Sp.SS}{q:Int}(e:p≠n)(h:s.b8 z q=p):(s.fL n).2.b8 z q=p:=by
 unfold Sp.SS.fL;split
 ·omega
 ·show(if s.b8 z q=n then-1 else s.b8 z q)=p;omega
theorem KA.Hx.dD{a:KA}{n m:Int}(h:a.Hx n):(a.dD m).Hx n:=fun p h0 h1 h2 h3=>by
 by_cases e:p=m
 ·simp_all[KA.dD,PA.nil,ah]
 ·rw[ll _ e]at h3 ⊢;rcases h p h0 h1 h2 h3 with q | q
  ·omega
  ·right;show(a.s.fL m).2.b8 ((a.s.fL m).2.loc p) 1=p;rw[vV _ e];exact AF e q
theorem vY(s:Sp.SS)(z:Int):(s.drop z).2.b8=s.b8:=by
 grind [SS.uf]
theorem KA.Hx.ea{a:KA}{n:Int}(h:a.Hx n)(z:Int):(a.ea z).Hx n:=fun p h0 h1 h2 h3=>by
 show _\/(a.s.drop z).2.b8 ((a.s.drop z).2.loc p) 1=p;rw[vY,qY];exact h p h0 h1 h2 h3
def KA.Hx.Vh{n:Int}(k:Int):∀ {l:List Int} {a:KA},a.Hx n->(l.foldl (KA.eN k) a).Hx n
 | [],_,w=>w
 | x::r,a,w=>KA.Hx.Vh k (l:=r) (by
   unfold KA.eN
   split
   ·exact w
   ·refine KA.Hx.dD ?_
    split
    ·exact w.alE 0
    ·exact w)
def KA.Hx.vX{n:Int} :∀ {l:List Int} {a:KA},a.Hx n->(l.foldl KA.ea a).Hx n
 | [],_,w=>w
 | x::r,_,w=>KA.Hx.vX (l:=r) (w.ea x)
def KA.Hx.dS{a:KA}{n:Int}(w:a.Hx n):∀ k,(a.dS k).Hx n
 | 0=>w
 | k+1=>KA.Hx.vX (w.dS k)
theorem KA.Hx.gG{a:KA}{n:Int}(w:a.Hx n)(co:Int):(a.gG n co).Hx n:=by
 unfold KA.gG;split
 ·exact KA.Hx.dS (KA.Hx.Vh n (w.cH co)) 4
 grind [KA.Hx.cH]
def KA.Hx.de{a:KA}{n:Int}(w:a.Hx n)(m h:Int):(a.de m h).Hx n:=fun p h0 h1 h2 h3=>by
 rw[(dE _ _ _ _).1]at h3;rw[(dE _ _ _ _).2.1];exact w p h0 h1 h2 h3
theorem KA.Hx.ko{a:KA}{n:Int}(w:a.Hx n)(m:Int):(a.ko m).Hx n:=fun p h0 h1 h2 h3=>by
 unfold KA.ko at h3 ⊢;split
 ·rename_i c;rw[if_pos c,gp]at h3;by_cases e:p=m
  ·subst e;rw[DH];show((a.u p).bx.send 3).2.first 0=0\/_
   rw[H9];exact w p h0 h1 h2 h3
  ·rw[xf _ _ e];exact w p h0 h1 h2 h3
 grind [KA.Hx]
theorem KA.Wk.MU{a:KA}(w:a.Wk T)(h0:0<=p/\p<20)(hs:(a.u p).st≠0)(h:a.s.b8 (a.s.loc p) 1=p):a.head p=p:=by
 have h1:=(w.lc p h0.1 h0.2).1 hs;have h2:=w.sI.loc p;have h3:=w.sI.at_ p h0.1 h0.2 h1;have e1:a.s.bZ p=(a.s.loc p,0):=by unfold Sp.SS.bZ;rw[if_neg og,if_neg og]
 unfold KA.head;rw[e1];have e2:a.s.is (a.s.loc p)=0:=by unfold Sp.SS.is;rw[if_neg og,if_pos h3]
 show(a.s.find (a.s.loc p) 1).1=p;unfold Sp.SS.find;grind
def KA.JY(a:KA)(n:Int)(o:Bool):Prop:=(a.u n).bx.first 0≠0/\(o=true\/a.head n≠n)
instance(a:KA)(n:Int)(o:Bool):Decidable (a.JY n o):=by unfold KA.JY;infer_instance
def KA.cL(a:KA)(n:Int)(o:Bool):KA:=if a.JY n o then a.db n (128+(a.u n).bx.first 0)else a
def KA.uF(a:KA)(n sig:Int)(o:Bool):KA:=if a.aF n=0 then(a.jr n ((a.u n).bx.send sig).2).cL n o else a
theorem E9(a:KA):∀ k,(a.dS k).u=a.u
 | 0=>rfl
 | k+1=>by
  show((Sp.fF (a.dS k).s.aa 6).foldl KA.ea (a.dS k)).u=a.u;have e:∀ (l:List Int) (x:KA),(l.foldl KA.ea x).u=x.u:=fun l=>by
   induction l with
   | nil=>intro x;rfl
   | cons y r ih=>intro x;rw[List.foldl_cons,ih];rfl
  rw[e];exact E9 a k
theorem MV(h:Int):∀ (l:List Int) (a:KA),(l.foldl (KA.eN h) a).u h=a.u h
 | [],_=>rfl
 | x::r,a=>by
  rw[List.foldl_cons,MV h r];by_cases e:h=x
  ·unfold KA.eN;rw[if_pos e.symm]
  ·exact vW a h e
theorem MW(a:KA)(z h:Int):(a.eH z h).u h=a.u h:=by
 unfold KA.eH;rw[E9];unfold KA.dY;exact MV h _ a
theorem Fb(a:KA)(n co:Int):((a.gG n co).u n).st≠1:=by
 grind [lX,KA.gG,MW]
def Ib{a:KA}{b:KZ}{c:KC}(w:a.Wk T)(hx:a.Hx n)(hs:(a.u n).st≠1)(q:(kp a b c).aF p=0):(((kp a b c).u p).bx.send 3).2.first 0=0\/(false=false/\(a.s.find (a.s.bZ p).1 1).1=p):=by
 obtain⟨h1,h2⟩:=bE (a:=a) (n:=p) q;have gJ:p≠n:=by rintro rfl;exact hs h2
 rcases hx p h1.1 h1.2 gJ h2 with e | e
 ·left;rw[H9];exact e
 ·exact .inr ⟨rfl,w.MU h1 og e⟩
def afP(a:KA)(b:KZ)(c:KC)(p:Int):(if(kp a b c).aF p=0 then(kp a b c).box p (((kp a b c).u p).bx.send 3).2 else kp a b c)=kp (a.ko p) b c:=by
 unfold KA.ko;rw[abX];split
 ·exact B0 a b c p _
 rfl
theorem abY(a:KA)(p:Int):ka (a.ko p)=ka a:=by
 grind [KA.ko,xg]
theorem vZ(a:KA)(p:Int):(a.ko p).s=a.s/\(a.ko p).g=a.g/\(a.ko p).v=a.v/\(a.ko p).f=a.f/\(a.ko p).P=a.P/\(a.ko p).O=a.O:=by
 unfold KA.ko;split<;>exact⟨rfl,rfl,rfl,rfl,rfl,rfl⟩
theorem cP.gK{a:KA}{c:KC}{N:Nat}(h:cP a c N T)(n m p:Int):cP ((a.de n m).ko p) c N T:=⟨h.qO,h.qR,h.F,h.rp,h.rc,h.rl,fun z h0 h1 h2=>h.tb z h0 h1 (by rwa[(vZ _ _).1]at h2),fun j j0 j1 hj=>by
 have h1:=h.tk j j0 j1 hj
 unfold KA.ko;split
 ·rw[gp,(dE _ _ _ _).1];exact h1
 ·rw[(dE _ _ _ _).1];exact h1⟩
def cP.aiR{a:KA}{c:KC}{N:Nat}(h:cP a c N T){t:SC}(ht:t.toSF=c.q.toSF.xW c.d n):∀ m,0<=m->m<20->t.aa (10+m)=true->((a.cH n co).u m).st=1:=fun m m0 m1 hm=>by
 have hm:t.toSF.aa (10+m)=true:=hm;rw[ht]at hm;obtain⟨h1,h2⟩:=Fa.SF.Oh m0 m1 hm;rw[ni _ _ h1];exact h.tk m m0 m1 h2
end Go.X.Kn

namespace Go.X.Kn
open Go Go.X Go.X.Sg
variable{x:BS}{T n v:Int}{u:Int->PA}
theorem Ic(a:KA)(n h:Int):mF (a.de n h)=mF a:=rfl
theorem cP.box{a:KA}{c:KC}{N:Nat}(h:cP a c N T)(n:Int)(x:BS):cP (a.jr n x) c N T:=⟨h.qO,h.qR,h.F,h.rp,h.rc,h.rl,h.tb,fun m m0 m1 hm=>by rw[gp];exact h.tk m m0 m1 hm⟩
theorem AG(a:KA)(n:Int)(x:BS):mF (a.jr n x)=mF a:=rfl
def KA.Hx.any{a:KA}(h:a.Hx (-1))(n:Int):a.Hx n:=fun p h0 h1 _ h3=>h p h0 h1 og h3
theorem KA.Hx.box{a:KA}(h:a.Hx n)(x:BS):(a.jr n x).Hx n:=fun p h0 h1 h2 h3=>by
 grind [xf,KA.Hx,KA.jr]
theorem KA.Wk.jV{a:KA}(w:a.Wk T)(h:(a.u n).st≠0):0<=n/\n<20:=by
 by_cases e:n<0\/20<=n
 ·rw[w.out n e]at h;exact absurd rfl h
 omega
structure KA.R0 (a:KA):Prop where
 st:(a.u 0).st=1
 loc:a.s.loc 0=0
 b8:a.s.b8 0 1=0
structure KA.Ok (a:KA) (T:Int):Prop where
 wk:a.Wk T
 hx:a.Hx (-1)
 r0:a.R0
 d0:a.aK 0=1
def Ie:∀ (l:List Int) (x:KA),(l.foldl KA.ea x).aK=x.aK
 | [],_=>rfl
 | _::r,x=>Ie r (x.ea _)
def Fc(a:KA):∀ k,(a.dS k).aK=a.aK
 | 0=>rfl
 | k+1=>(Ie _ _).trans (Fc a k)
def JZ(h:Int):∀ (l:List Int) (x:KA),(l.foldl (KA.eN h) x).aK=x.aK
 | [],_=>rfl
 | y::r,x=>(JZ h r (KA.eN h x y)).trans (by
  unfold KA.eN;split
  ·rfl
  ·show(if(x.u y).st=1 then x.cH y 0 else x).aK=_
   split<;>rfl)
def Ug(a:KA)(n co:Int):(a.db n co).aK=a.aK:=by
 have e1:(a.gG n co).aK=a.aK:=by
  unfold KA.gG;split
  ·exact(Fc _ 4).trans (JZ n _ _)
  rfl
 unfold KA.db KA.ko;split
 ·exact e1
 ·exact e1
theorem KA.R0.end_{a:KA}(h:a.R0)(hn:n≠0)(co:Int):(a.cH n co).R0:=⟨by rw[ni _ _ fun e=>hn e.symm];exact h.st,h.loc,h.b8⟩
def KA.R0.za{a:KA}(h:a.R0)(hn:n≠0):(a.dD n).R0:=
 ⟨by rw[ll _ fun e=>hn e.symm];exact h.st,by show(a.s.fL n).2.loc 0=0;rw[vV _ fun e=>hn e.symm];exact h.loc,AF (fun e=>hn e.symm) h.b8⟩
def KA.R0.Pd{a:KA}(h:a.R0)(z:Int):(a.ea z).R0:=⟨h.st,by show(a.s.drop z).2.loc 0=0;rw[qY];exact h.loc,by show(a.s.drop z).2.b8 0 1=0;rw[vY];exact h.b8⟩
def KA.R0.Vh(k:Int):∀ {l:List Int} {a:KA},a.R0->(0∉l)->(l.foldl (KA.eN k) a).R0
 | [],_,w,_=>w
 | x::r,a,w,hl=>KA.R0.Vh k (l:=r) (by
   have hx:x≠0:=by rintro rfl;exact hl (.head _)
   unfold KA.eN
   split
   ·exact w
   ·refine KA.R0.za ?_ hx
    split
    ·exact w.end_ hx 0
    ·exact w) fun q=>hl (.tail _ q)
def KA.R0.vX:∀ {l:List Int} {a:KA},a.R0->(l.foldl KA.ea a).R0
 | [],_,w=>w
 | x::r,_,w=>KA.R0.vX (l:=r) (w.Pd x)
def KA.R0.dS{a:KA}(w:a.R0):∀ k,(a.dS k).R0
 | 0=>w
 | k+1=>KA.R0.vX (w.dS k)
theorem SS.Inv.jK{s:Sp.SS}{aK:Int->Nat}(h:s.Inv aK)(hl:s.loc 0=0):s.aa 0=true:=by
 have:=h.at_ 0 og og og;simp_all
def SS.Inv.in0{s:Sp.SS}{aK:Int->Nat}(h:s.Inv aK)(hl:s.loc 0=0)(hd:aK 0=1){z q:Int}(e:s.b8 z q=0):z=0:=by
 have:=(h.mem z q 0 og e).2.2.2.2;rw[hl]at this;unfold Sp.SS.cU at this;rw[hd]at this;simpa [Sp.SS.jW]using this
def MX{a:KA}(w:a.Wk T)(r:a.R0)(hn:(a.u n).st≠0)(h:a.head n=n):a.s.b8 (a.s.loc n) 1=n:=by
 have hr:=w.jV hn;have h1:=(w.lc n hr.1 hr.2).1 hn;by_cases e:n=0
 ·subst e;rw[r.loc];exact r.b8
 ·unfold KA.head at h;have e1:a.s.bZ n=(a.s.loc n,0):=by unfold Sp.SS.bZ;rw[if_neg og,if_neg og]
  rw[e1]at h;have h:(a.s.find (a.s.loc n) 1).1=n:=h;unfold Sp.SS.find at h;grind
def KA.Wk.B1{a:KA}(w:a.Wk T)(r0:a.R0)(hd:a.aK 0=1)(hn:n≠0)(hl:(a.u n).st=1)(hx:a.Hx n)(co:Int):(a.db n co).Ok T:=by
 have hr:=w.jV (n:=n) og;have yp:=((hx.gG co).de n (a.head n)).ko (((a.gG n co).de n (a.head n)).u n).aA;refine⟨w.db hr hl co,fun p h0 h1 _ h3=> ?_,?_,(congrFun (Ug _ _ _) 0).trans hd⟩
 ·grind [KA.db,KA.ko,gp,dE,Fb,KA.Hx]
 ·have r1:(a.gG n co).R0:=by
   unfold KA.gG;split
   ·rename_i hh;unfold KA.eH;refine KA.R0.dS (KA.R0.Vh n (r0.end_ hn co) fun q=> ?_) 4;obtain⟨j,_,_,e,_⟩:=y8 q;have hz:=SS.Inv.in0 w.sI r0.loc hd e;have hw:=MX w r0 (n:=n) og hh;have h1:=(w.lc n hr.1 hr.2).1 og;have e1:a.s.bZ n=(a.s.loc n,0):=by unfold Sp.SS.bZ;rw[if_neg og,if_neg og]
    rw[e1]at hz;have hz:a.s.loc n=0:=hz;rw[hz,r0.b8]at hw;omega
   grind [KA.R0.end_]
  unfold KA.db;have r2:((a.gG n co).de n (a.head n)).R0:=⟨by rw[(dE _ _ _ _).1];exact r1.st,r1.loc,r1.b8⟩;refine⟨?_,by rw[(vZ _ _).1];exact r2.loc,by rw[(vZ _ _).1];exact r2.b8⟩;grind [KA.ko,gp,KA.R0.st]
theorem AH{a:KA}{o:Bool}(h:¬a.JY n o):a.cL n o=a:=if_neg h
theorem rF{a:KA}{o:Bool}(h:a.JY n o):a.cL n o=a.db n (128+(a.u n).bx.first 0):=if_pos h
open Go.X.Tr
theorem KA.Hx.same{a a':KA}(h:a.Hx n)(hu:∀ p,(a'.u p).st=(a.u p).st/\(a'.u p).bx=(a.u p).bx)(hs:a'.s=a.s):a'.Hx n:=fun p h0 h1 h2 h3=>by
 grind [KA.Hx]
theorem KA.R0.same{a a':KA}(h:a.R0)(hu:(a'.u 0).st=(a.u 0).st)(hs:a'.s=a.s):a'.R0:=⟨by rw[hu];exact h.st,by rw[hs];exact h.loc,by rw[hs];exact h.b8⟩
theorem adT{a:KA}(w:a.Wk T)(r:a.R0):a.head 0=0:=by grind [KA.Wk.MU,KA.R0.st,KA.R0.loc,KA.R0.b8]
def KA.Wk.Yd{a:KA}(w:a.Wk T)(r:a.R0)(hd:a.aK 0=1)(hl:(a.u n).st=1)(hx:a.Hx n)(o:Bool)(ho:o=true->n≠0):(a.cL n o).Ok T:=by
 by_cases he:a.JY n o
 ·rw[rF he];refine w.B1 r hd (fun e=> ?_) hl hx _;subst e;rcases he.2 with q | q;all_goals grind [adT]
 ·rw[AH he];refine⟨w,fun p h0 h1 h2 h3=> ?_,r,hd⟩;by_cases e:p=n
  ·subst e;by_cases f:(a.u p).bx.first 0=0
   ·omega
   ·right;exact MX w r og (Decidable.byContradiction fun q=>he ⟨f,.inr q⟩)
  grind [KA.Hx]
theorem KA.R0.box{a:KA}(h:a.R0)(n:Int)(x:BS):(a.jr n x).R0:=h.same (gp _ _ _ _) rfl
def KA.Ok.Fe{a:KA}(h:a.Ok T)(c:a.aF n=0)(hx:x.dc 0=false)(o:Bool)(ho:o=true->n≠0):((a.jr n x).cL n o).Ok T:=by
 obtain⟨hr,hl⟩:=bE c;exact(h.wk.jr hr hx).Yd (h.r0.box _ _) h.d0 (by rw[gp];exact hl) ((h.hx.any n).box _) o ho
def KA.Ok.alF{a:KA}(h:a.Ok T)(c:a.aF n=0)(hx:x.dc 0=false)(hf:x.first 0=(a.u n).bx.first 0):(a.jr n x).Ok T:=by
 obtain⟨hr,hl⟩:=bE c;refine⟨h.wk.jr hr hx,fun p h0 h1 h2 h3=> ?_,h.r0.box _ _,h.d0⟩;rw[gp]at h3;by_cases e:p=n
 ·subst e;rw[DH];show x.first 0=0\/_
  rw[hf];exact h.hx p h0 h1 og h3
 ·rw[xf _ _ e];exact h.hx p h0 h1 og h3
theorem KA.Ok.send{a:KA}(h:a.Ok T)(n sig:Int)(o:Bool)(ho:o=true->n≠0):(a.uF n sig o).Ok T:=by
 unfold KA.uF;split
 ·rename_i c;exact h.Fe c (nW _ _ (h.wk.bx n)) o ho
 omega
def qq(x:BS)(n:Int)(on:Bool)(h:x.dc 0=false):(x.dX n on).2.dc 0=false:=by
 unfold BS.dX;split;all_goals grind
def xh(x:BS)(n v:Int)(h:x.dc 0=false):(x.set n v).2.dc 0=false:=by
 unfold BS.set;split
 ·rename_i c;have:=(ig n).1 c.1;split
  ·omega
  ·show(if _ then _ else _:BS).dc 0=false;split;all_goals grind [ae]
 omega
def Pe(x:BS)(h:x.dc 0=false):x.take.2.dc 0=false:=by
 show ad x.dc (x.first 2) false 0=false;grind [ah,ae]
theorem Uh(h:x.first v≠0):x.kt (x.first v)=v:=by
 unfold BS.first at h ⊢
 grind [dW]
def Pf(x:BS)(h:x.dc 0=false):x.take.2.first 0=x.first 0:=by
 refine CV fun k k0 k1=> ?_;show(ad x.dc (x.first 2) false k&&(!x.bu k&&decide (x.kt k=0)))=_;grind [ah,Uh,ae]
def KA.GQ(a:KA)(n q:Int):Int×Int:=
 if a.aF n≠0 then(0,a.aF n)else if(a.s.find (a.s.bZ n).1 q).2≠0 then(0,(a.s.find (a.s.bZ n).1 q).2)else
 if(a.u (a.s.find (a.s.bZ n).1 q).1).st=1 then((a.s.find (a.s.bZ n).1 q).1,0)else(0,8)
def KA.uG(a:KA)(n c:Int):Int:=if a.aF n≠0 then a.aF n else if c<0\/255<c then 1 else if n=0 then 8 else 0
def KA.fA(a:KA)(n co:Int):KA:=if a.uG n co=0 then a.db n co else a
def ui{a:KA}{c:Int}(h:a.uG n c=0):a.aF n=0/\n≠0:=by
 grind [KA.uG]
theorem KA.Ok.fA{a:KA}{T:Int}(h:a.Ok T)(n co:Int):(a.fA n co).Ok T:=by
 unfold KA.fA;split
 ·rename_i c;obtain⟨h1,h2⟩:=ui c;exact h.wk.B1 h.r0 h.d0 h2 (bE h1).2 (h.hx.any n) co
 omega
def KA.yh(a:KA)(n sig:Int)(on:Bool):Int:=if a.aF n≠0 then a.aF n else((a.u n).bx.dX sig on).1
def KA.mG(a:KA)(n sig:Int)(on:Bool):KA:=if a.aF n≠0 then a else if((a.u n).bx.dX sig on).1=0 then(a.jr n ((a.u n).bx.dX sig on).2).cL n false else a
theorem KA.Ok.dX{a:KA}(h:a.Ok T)(n sig:Int)(on:Bool):(a.mG n sig on).Ok T:=by
 unfold KA.mG;split
 ·omega
 ·rename_i c;split
  ·exact h.Fe og (qq _ _ _ (h.wk.bx n)) false sq
  omega
def KA.Ye(a:KA)(n sig v:Int):Int:=if a.aF n≠0 then a.aF n else((a.u n).bx.set sig v).1
def KA.B2(a:KA)(n sig v:Int):KA:=if a.aF n≠0 then a else if((a.u n).bx.set sig v).1=0 then(a.jr n ((a.u n).bx.set sig v).2).cL n false else a
def KA.Ok.kt{a:KA}(h:a.Ok T)(n sig v:Int):(a.B2 n sig v).Ok T:=by
 unfold KA.B2;split
 ·omega
 ·rename_i c;split
  ·exact h.Fe og (xh _ _ _ (h.wk.bx n)) false sq
  omega
theorem MY{on:Bool}(h:(x.dX n on).1≠0):(x.dX n on).2=x:=by
 unfold BS.dX at h ⊢;grind
theorem abZ(h:(x.set n v).1≠0):(x.set n v).2=x:=by
 unfold BS.set at h ⊢;grind
def KA.Ff(a:KA)(n:Int):Int:=if a.aF n≠0 then a.aF n else if(a.u n).bx.take.1=0 then 2 else 0
def KA.Fg(a:KA)(n:Int):Int:=if a.aF n≠0 then 0 else(a.u n).bx.take.1
def KA.qs(a:KA)(n:Int):KA:=if a.aF n≠0 then a else a.jr n (a.u n).bx.take.2
theorem KA.Ok.take{a:KA}(h:a.Ok T)(n:Int):(a.qs n).Ok T:=by
 unfold KA.qs;split
 ·exact h
 ·exact h.alF og (Pe _ (h.wk.bx n)) (Pf _ (h.wk.bx n))
def KA.ot(a:KA)(n js sig:Int):Int:=if(a.GQ n js).2≠0 then(a.GQ n js).2 else if sig<1\/8<sig then 1 else if js=1 then 8 else 0
def KA.j9(a:KA)(n js sig:Int):KA:=if a.ot n js sig=0 then a.uF (a.GQ n js).1 sig (decide ((a.s.bZ (a.GQ n js).1).1≠(a.s.bZ n).1))else a
def MZ{a:KA}{q:Int}(h:(a.GQ n q).2=0):a.aF n=0/\(a.s.find (a.s.bZ n).1 q).2=0/\(a.GQ n q).1=(a.s.find (a.s.bZ n).1 q).1/\(a.u (a.GQ n q).1).st=1:=by
 grind [KA.GQ]
def KA.Ok.nj{a:KA}(h:a.Ok T)(n js sig:Int):(a.j9 n js sig).Ok T:=by
 unfold KA.j9;split
 ·rename_i c;refine h.send _ _ _ fun _ e=> ?_;unfold KA.ot at c;split at c
  ·omega
  ·rename_i c1;split at c
   ·omega
   ·split at c
    ·omega
    ·rename_i c2;obtain⟨s1,s2,s3,_⟩:=MZ (show(a.GQ n js).2=0 by omega);obtain⟨_,f2,_⟩:=vF h.wk.sI s2;rw[<-s3,e]at f2;have hz:=SS.Inv.in0 h.wk.sI h.r0.loc h.d0 f2;rw[hz]at f2;exact c2 (h.wk.sI.inj 0 1 js (by rw[h.r0.b8];omega) (by rw[f2,h.r0.b8]))
 omega
def KA.Wk.io{a:KA}{T':Int}(h:a.Wk T)(hT:T<=T')(Uc:T'<=1000000){O:Tr.OS}{P:Tr.PS}(pf:∀ p,(u p).st=(a.u p).st)(hbx:∀ p,(u p).bx=(a.u p).bx)(K6:∀ p,(p<0\/20<=p)->u p=PA.nil)(hfd:∀ p i,0<=(u p).fd i/\(u p).fd i<=24)(hO:O.Inv T')(hP:P.Inv T'):({a with u:=u,O:=O,P:=P} :KA).Wk T' where
 T0:=⟨by have:=h.T0;omega,Uc⟩
 gI:=h.gI
 gS:=h.gS.mono og
 sI:=h.sI
 sys:=h.sys
 ud:=fun m a0 a1 q=>h.ud m a0 a1 (by rw[<-pf];exact q)
 PI:=hP
 OI:=hO
 lc:=fun m a0 a1=>by rw[show(({a with u:=u,O:=O,P:=P} :KA).u m).st=(a.u m).st from pf m];exact h.lc m a0 a1
 st:=fun m=>by rw[show(({a with u:=u,O:=O,P:=P} :KA).u m).st=(a.u m).st from pf m];exact h.st m
 out:=K6
 fd:=hfd
 bx:=fun m=>by rw[show(({a with u:=u,O:=O,P:=P} :KA).u m).bx=(a.u m).bx from hbx m];exact h.bx m
def KA.Ok.io{a:KA}{T T':Int}(h:a.Ok T)(hT:T<=T')(Uc:T'<=1000000){u:Int->PA}{O:Tr.OS}{P:Tr.PS}(pf:∀ p,(u p).st=(a.u p).st)(hbx:∀ p,(u p).bx=(a.u p).bx)(K6:∀ p,(p<0\/20<=p)->u p=PA.nil)(hfd:∀ p i,0<=(u p).fd i/\(u p).fd i<=24)(hO:O.Inv T')(hP:P.Inv T'):({a with u:=u,O:=O,P:=P} :KA).Ok T':=
 ⟨h.wk.io hT Uc pf hbx K6 hfd hO hP,h.hx.same (fun p=>⟨pf p,hbx p⟩) rfl,h.r0.same (pf 0) rfl,h.d0⟩
theorem KA.Ok.up{a:KA}{T T':Int}(h:a.Ok T)(hT:T<=T')(Uc:T'<=1000000):a.Ok T':=⟨h.wk.up hT Uc,h.hx,h.r0,h.d0⟩
theorem KA.Ok.io0{a:KA}{T':Int}(h:a.Ok T)(hT:T<=T')(Uc:T'<=1000000){O:Tr.OS}{P:Tr.PS}(hO:O.Inv T')(hP:P.Inv T'):({a with O:=O,P:=P} :KA).Ok T':=
 h.io hT Uc (fun _=>rfl) (fun _=>rfl) h.wk.out h.wk.fd hO hP
def rG(u:Int->PA)(n i v:Int):Int->PA:=ad u n {u n with fd:=ad (u n).fd i v}
theorem jI(u:Int->PA)(n i v p:Int):(rG u n i v p).st=(u p).st/\(rG u n i v p).bx=(u p).bx:=by
 unfold rG;grind [ah,ae]
def AI(hn:0<=n/\n<20)(i v:Int)(h:∀ p,(p<0\/20<=p)->u p=PA.nil):∀ p,(p<0\/20<=p)->rG u n i v p=PA.nil:=fun p hp=>by
 unfold rG;rw[ae _ _ og];exact h p hp
def Fh{i:Int}(hv:0<=v/\v<=24)(h:∀ p j,0<=(u p).fd j/\(u p).fd j<=24):∀ p j,0<=(rG u n i v p).fd j/\(rG u n i v p).fd j<=24:=fun p j=>by
 unfold rG;by_cases e:p=n
 ·subst e;rw[ah];grind [ah,ae]
 grind [ae]
theorem Fi(a:KA)(b:KZ)(c:KC)(n i v:Int)(O:Tr.OS)(P:Tr.PS):(kp a b c).put n {(kp a b c).u n with fd:=ad ((kp a b c).u n).fd i v} =kp {a with u:=rG a.u n i v,O:=O,P:=P} b c:=(JV a b c n {a.u n with fd:=ad (a.u n).fd i v} _ rfl).trans rfl
theorem J0(a:KA)(n i v:Int)(O:Tr.OS)(P:Tr.PS):ka {a with u:=rG a.u n i v,O:=O,P:=P} =ka a:=by grind [jI,ka]
def KA.eY(a:KA)(n i:Int):Int:=if a.aF n≠0 then a.aF n else if i<0\/6<=i then 1 else if(a.u n).fd i=0 then 2 else 0
def KA.cW(a:KA)(n i:Int):Int:=if a.eY n i=0 then(a.u n).fd i-1 else 0
theorem KA.rE{a:KA}{i:Int}(h:a.eY n i=0):(0<=n/\n<20)/\(a.u n).st=1/\(0<=i/\i<6)/\(a.u n).fd i≠0/\a.cW n i=(a.u n).fd i-1:=by
 have hv:a.cW n i=(a.u n).fd i-1:=by unfold KA.cW;rw[if_pos h]
 unfold KA.eY at h;split at h
 ·omega
 ·split at h
  ·omega
  ·split at h
   ·omega
   ·have:=bE (a:=a) (n:=n) og;omega
def KA.lg(a:KA)(F:Tr.FF)(n i:Int):Int:=if a.eY n i≠0 then a.eY n i else Tr.lg F a.P a.O (a.cW n i)
def KA.gh(a:KA)(n i:Int):KA:=if a.eY n i≠0 then a else {a with u:=rG a.u n i 0,O:=iH a.O (a.cW n i),P:=j7 a.P a.O (a.cW n i)}
def KA.Ok.close{a:KA}(h:a.Ok T)(n i:Int):(a.gh n i).Ok T:=by
 unfold KA.gh;split
 ·exact h
 ·rename_i c;obtain⟨hn,_,_,_,_⟩:=KA.rE (show a.eY n i=0 by omega);exact h.io (Int.le_refl _) h.wk.T0.2 (fun p=>(jI _ _ _ _ p).1) (fun p=>(jI _ _ _ _ p).2) (AI hn _ _ h.wk.out) (Fh og h.wk.fd) (OS.Inv.vT h.wk.OI _) (PS.vT h.wk.PI _ _)
def KA.jN(a:KA)(n:Int):Int:=jQ (a.u n).fd 0
def pP(f:Int->Int)(x:Int)(h:¬jQ f x<0:=by omega):0<=jQ f x/\jQ f x<6/\x<=jQ f x/\f (jQ f x)=0:=by
 grind [jQ,dW]
def KA.M0(a:KA)(n i:Int):Int:=if a.eY n i≠0 then a.eY n i else if a.jN n<0 then 4 else a.O.is (a.cW n i)
def KA.M1(a:KA)(n i:Int):Int:=if a.eY n i≠0\/a.jN n<0 then 0 else a.jN n
def KA.zb(a:KA)(n i:Int):KA:=if a.eY n i≠0\/a.jN n<0 then a else {a with u:=rG a.u n (a.jN n) (a.cW n i+1),O:=mj a.O (a.cW n i),P:=a.P}
def KA.Ok.Z4{a:KA}(h:a.Ok T)(hT:T<=900000)(n i:Int):(a.zb n i).Ok (T+1):=by
 unfold KA.zb;split
 ·grind [KA.Ok.up]
 ·rename_i c;obtain⟨hn,_,_,h4,h5⟩:=KA.rE (show a.eY n i=0 by omega);have:=h.wk.fd n i;exact h.io og og (fun p=>(jI _ _ _ _ p).1) (fun p=>(jI _ _ _ _ p).2) (AI hn _ _ h.wk.out) (Fh og h.wk.fd) (h.wk.OI.MK _) (h.wk.PI.mono og)
def KA.qZ(a:KA)(n:Int):Int:=jQ (a.u n).fd (a.jN n+1)
def KA.wb(a:KA)(n:Int):Int:=if a.aF n≠0 then a.aF n else if a.jN n<0\/a.qZ n<0 then 4 else im a.P a.O
def KA.AJ(a:KA)(n:Int):Int:=if a.wb n=0 then a.jN n else 0
def KA.AK(a:KA)(n:Int):Int:=if a.wb n=0 then a.qZ n else 0
def KA.o9(a:KA)(n:Int):KA:=if a.aF n≠0\/a.jN n<0\/a.qZ n<0 then a else
 if im a.P a.O=0 then {a with u:=rG (rG a.u n (a.jN n) (ml a.P a.O+1)) n (a.qZ n) (nV a.P a.O+1),O:=jl a.P a.O,P:=kA a.P a.O} else {a with O:=jl a.P a.O,P:=kA a.P a.O}
def Ig(P:Tr.PS)(O:Tr.OS):(0<=ml P O/\ml P O<24)/\0<=nV P O/\nV P O<24:=by
 unfold ml nV;by_cases h:im P O=0
 ·rw[if_pos h,if_pos h];unfold im at h;split at h
  ·omega
  ·rename_i c;have h1:=Tr.OS.jG (s:=O) fun q=>c (.inl q);have h2:=Tr.OS.jG (s:=O.lay O.first 2 0 false) fun q=>c (.inr q);exact⟨⟨h1.1,h1.2.1⟩,h2.1,h2.2.1⟩
 omega
def KA.Ok.Aw{a:KA}{T:Int}(h:a.Ok T)(hT:T<=900000)(Yf:1<=T)(n:Int):(a.o9 n).Ok (T+1):=by
 have h2:=Ig a.P a.O;have hO:=h.wk.OI.Aw Yf a.P;have hP:=O3 h.wk.PI og a.O;unfold KA.o9;split
 ·grind [KA.Ok.up]
 ·rename_i c;have hn:=(bE (show a.aF n=0 by omega)).1;split
  ·exact h.io og og (fun p=>((jI _ _ _ _ p).1).trans (jI _ _ _ _ p).1) (fun p=>((jI _ _ _ _ p).2).trans (jI _ _ _ _ p).2) (AI hn _ _ (AI hn _ _ h.wk.out)) (Fh og (Fh og h.wk.fd)) hO hP
  grind [KA.Ok.io0]
def KA.nf(a:KA)(F:Tr.FF)(n i m:Int):Int:=if a.eY n i≠0 then a.eY n i else vO F a.P a.O (a.cW n i) m
def KA.lH(a:KA)(F:Tr.FF)(n i m:Int):ByteArray:=if a.eY n i≠0 then⟨#[]⟩else vP F a.P a.O (a.cW n i) m
def KA.yi(a:KA)(F:Tr.FF)(n i m:Int):KA:=if a.eY n i≠0 then a else {a with O:=oZ F a.O (a.cW n i) m,P:=oY a.P a.O (a.cW n i) m}
theorem KA.Ok.mh{a:KA}{T:Int}(h:a.Ok T)(hT:T<=900000){F:Tr.FF}(hF:F.Sh)(n i m:Int):(a.yi F n i m).Ok (T+1):=by
 unfold KA.yi;split
 ·grind [KA.Ok.up]
 ·exact h.io0 og og (h.wk.OI.mh hF _ _) (O4 h.wk.PI _ _ _)
def KA.rH(a:KA)(F:Tr.FF)(n i:Int)(x:ByteArray):KA:= {a with O:=gT F a.O (a.cW n i) x,P:=lB a.P a.O (a.cW n i) x}
def KA.fC(a:KA)(F:Tr.FF)(n i:Int)(x:ByteArray):Int:=if a.eY n i≠0 then a.eY n i else jt F a.P a.O (a.cW n i) x
def KA.B3(a:KA)(F:Tr.FF)(n i:Int)(x:ByteArray):Int:=if a.eY n i≠0 then 0 else j8 F a.P a.O (a.cW n i) x
def KA.nX(a:KA)(F:Tr.FF)(n i:Int)(x:ByteArray):KA:=if a.eY n i≠0 then a else if jt F a.P a.O (a.cW n i) x=12 then(a.rH F n i x).uF n 2 false else a.rH F n i x
theorem KA.Ok.yj{a:KA}(h:a.Ok T)(hT:T<=900000)(F:Tr.FF)(n i:Int)(x:ByteArray):(a.rH F n i x).Ok (T+1):=
 h.io0 og og (h.wk.OI.afC F _ _) (ML h.wk.PI _ _ _)
theorem KA.Ok.cC{a:KA}(h:a.Ok T)(hT:T<=900000)(F:Tr.FF)(n i:Int)(x:ByteArray):(a.nX F n i x).Ok (T+1):=by
 unfold KA.nX;split
 ·grind [KA.Ok.up]
 ·split
  ·exact(h.yj hT F n i x).send n 2 false sq
  grind [KA.Ok.yj]
def KA.oF(a:KA)(n i z:Int):Int:=if a.eY n i≠0 then a.eY n i else Tr.oF a.O (a.cW n i) z
def KA.wc(a:KA)(n i z:Int):KA:=if a.eY n i≠0 then a else {a with O:=uD a.O (a.cW n i) z,P:=a.P}
def KA.Ok.GY{a:KA}{T:Int}(h:a.Ok T)(hT:T<=900000)(n i z:Int):(a.wc n i z).Ok (T+1):=by
 unfold KA.wc;split
 ·grind [KA.Ok.up]
 ·exact h.io0 og og (h.wk.OI.GY _ _) (h.wk.PI.mono og)
end Go.X.Kn
