import Derived.Test.YthdinakloheinaaGreatDoorkNFP
import Derived.Lib.SplitLaws
set_option linter.all false
namespace Go.X.Tr
open Go Go.X
variable{i:Int}{bf:Nat}{C D:Nat->Value}
structure WH where
 du:Int
 node:Int
instance:DecidableEq WH:=fun a b=>if h:a.du=b.du/\a.node=b.node then isTrue (by cases a;cases b;simp only at h;rw[h.1,h.2])else isFalse fun e=>h (by rw[e];exact⟨rfl,rfl⟩)
theorem Qe{a b:WH} :(a.du=b.du/\a.node=b.node)↔a=b:=⟨fun h=>by cases a;cases b;simp only at h;rw[h.1,h.2],fun e=>by rw[e];exact⟨rfl,rfl⟩⟩
def WH.nil:WH:=⟨0,0⟩
abbrev WH.cQ(w:WH):Array Value:= #[iI w.du,iI w.node]
def aY(w:WH)(i:Nat):Value:=if i=0 then iI w.du else if i=1 then iI w.node else undef
structure MT where
 at_:WH
 to:WH
def MT.nil:MT:=⟨WH.nil,WH.nil⟩
abbrev MT.cQ(m:MT):Array Value:= #[iI m.at_.du,iI m.at_.node,iI m.to.du,iI m.to.node]
def fq(m:MT)(i:Nat):Value:=if i=0 then iI m.at_.du else if i=1 then iI m.at_.node else if i=2 then iI m.to.du else if i=3 then iI m.to.node else undef
def qc(l:List MT)(z:Int):MT:=l.getD z.toNat MT.nil
def KR(l:List WH)(z:Int):WH:=l.getD z.toNat WH.nil
def mC(l:List MT)(i:Nat):Value:=fq (qc l ((i/4:Nat):Int)) (i%4)
def wC(l:List WH)(i:Nat):Value:=aY (KR l ((i/2:Nat):Int)) (i%2)
def MC(C:Nat->Value)(l:List MT):Prop:=∀ i,i<l.length*4->C i=mC l i
theorem aY.box(w:WH):∀ i,i<2->cellsOf (WH.cQ w) i=aY w i:=fun i h=>match i,h with
 | 0,_=>rfl
 | 1,_=>rfl
 | j+2,h=>absurd h og
def aY.agg(w:WH):0+2<=2/\cZ (aY w) 0 2= .agg (WH.cQ w):=⟨og,rfl⟩
def aY.D4(w:WH):0+0<2/\aY w (0+0)=iI w.du:=⟨og,rfl⟩
def aY.D5(w:WH):0+1<2/\aY w (0+1)=iI w.node:=⟨og,rfl⟩
theorem aY.st(w u:WH):0+2<=2/\cC (aY w) 0 (WH.cQ u).toList=aY u:=by
 refine⟨og,?_⟩;funext i;match i with
 | 0=>rfl
 | 1=>rfl
 | k+2=>
  have e1:∀ w:WH,aY w (k+2)=undef:=fun w=>by unfold aY;rw[if_neg og,if_neg og]
  have e2:cC (aY w) 0 (WH.cQ u).toList (k+2)=aY w (k+2):=by simp[cC,dL]
  rw[e2,e1,e1]
theorem fq.box(m:MT):∀ i,i<4->cellsOf (MT.cQ m) i=fq m i:=fun i h=>match i,h with
 | 0,_=>rfl
 | 1,_=>rfl
 | 2,_=>rfl
 | 3,_=>rfl
 | j+4,h=>absurd h og
def fq.lM(m:MT):0+0+2<=4/\cZ (fq m) (0+0) 2= .agg (WH.cQ m.at_):=⟨og,rfl⟩
def Qf(m:MT):0+2+2<=4/\cZ (fq m) (0+2) 2= .agg (WH.cQ m.to):=⟨og,rfl⟩
def wv(m:MT):0+0+1<4/\fq m (0+0+1)=iI m.at_.node:=⟨og,rfl⟩
def wx(m:MT):0+2+1<4/\fq m (0+2+1)=iI m.to.node:=⟨og,rfl⟩
theorem fq.st(m u:MT):0+4<=4/\cC (fq m) 0 (MT.cQ u).toList=fq u:=by
 refine⟨og,?_⟩;funext i;match i with
 | 0=>rfl
 | 1=>rfl
 | 2=>rfl
 | 3=>rfl
 | k+4=>
  have e1:∀ w:MT,fq w (k+4)=undef:=fun w=>by unfold fq;rw[if_neg og,if_neg og,if_neg og,if_neg og]
  have e2:cC (fq m) 0 (MT.cQ u).toList (k+4)=fq m (k+4):=by simp[cC,dL]
  rw[e2,e1,e1]
def aO(bf:Nat)(r:WH)(v:Value)(i:Nat):Value:=if i=0 then aA bf 0 0 else if i=1 then iI r.du else if i=2 then iI r.node else if i=3 then v else undef
def aO.D4(r:WH)(v:Value):0+0<4/\aO bf r v (0+0)=aA bf 0 0:=⟨og,rfl⟩
def aO.D5(r:WH)(v:Value):0+1+2<=4/\cZ (aO bf r v) (0+1) 2= .agg (WH.cQ r):=⟨og,rfl⟩
def FL(r:WH)(v:Value):0+1+1<4/\aO bf r v (0+1+1)=iI r.node:=⟨og,rfl⟩
def kO(r:WH)(v:Value):0+3<4/\aO bf r v (0+3)=v:=⟨og,rfl⟩
def C8(r:WH)(v u:Value):0+3<4/\dL (aO bf r v) (0+3) u=aO bf r u:=by
 grind [aO,dL]
abbrev abD(bf:Nat)(r:WH)(v:Value):Array Value:= #[aA bf 0 0,iI r.du,iI r.node,v]
theorem aO.box(bf:Nat)(r:WH)(v:Value):∀ i,i<4->cellsOf (abD bf r v) i=aO bf r v i:=fun i h=>match i,h with
 | 0,_=>rfl
 | 1,_=>rfl
 | 2,_=>rfl
 | 3,_=>rfl
 | j+4,h=>absurd h og
def aeO(l:List MT)(z:Int)(hz:0<=z)(j:Nat)(hj:j<4):mC l (0+z.toNat*4+j)=fq (qc l z) j:=by
 unfold mC;grind
def MC.ld{l:List MT}(h:MC C l){k:Nat}(hk:l.length<=k)(z:Int)(q:0<=z/\z<l.length):0+z.toNat*4+4<=k*4/\cZ C (0+z.toNat*4) 4= .agg (MT.cQ (qc l z)):=by
 refine⟨og,?_⟩;have e:=fun j (hj:j<4)=>(h (0+z.toNat*4+j) og).trans (aeO l z q.1 j hj);simp only[cZ,List.range,List.range.loop,List.map_cons,List.map_nil];rw[e 0 og,e 1 og,e 2 og,e 3 og];rfl
def aeP(l:List WH)(z:Int)(hz:0<=z)(j:Nat)(hj:j<2):wC l (0+z.toNat*2+j)=aY (KR l z) j:=by
 grind [wC]
def T6(l:List WH)(z:Int)(q:0<=z/\z<l.length):0+z.toNat*2+2<=l.length*2/\cZ (wC l) (0+z.toNat*2) 2= .agg (WH.cQ (KR l z)):=by
 refine⟨og,?_⟩;have e:=fun j (hj:j<2)=>aeP l z q.1 j hj;simp only[cZ,List.range,List.range.loop,List.map_cons,List.map_nil];rw[e 0 og,e 1 og];rfl
def X1(l:List WH)(n:Nat)(i:Nat)(h:i<n*2):wC (l.take n) i=wC l i:=by
 grind [wC,KR]
def abE(l:List WH)(w:WH)(A:Nat->Value)(hA:∀ i,i<2->A i=aY w i)(i:Nat)(h:i<(l.length+1)*2):wC (l++[w]) i=if i<l.length*2 then wC l i else A (i-l.length*2):=by
 grind [wC,KR]
def MC.app{l:List MT}(h:MC C l)(m:MT)(h1:∀ i,i<l.length*4->D i=C i)(h2:∀ i,i<1*4->D (l.length*4+i)=fq m i):MC D (l++[m]):=fun i hi=>by
 grind [mC,qc,MC]
def MC.copy{l:List MT}(h:MC C l)(h1:∀ i,i<l.length*4->D i=C i):MC D l:=fun i hi=>(h1 i hi).trans (h i hi)
theorem MC.NH{l:List MT}(h:MC C l)(n:Nat)(hn:n<l.length)(h1:∀ j,j<n*4->D j=C j)(h2:∀ j,n*4<=j->j<(l.length-1)*4->D j=C (j+4)):MC D (l.eraseIdx n):=fun i hi=>by
 rw[List.length_eraseIdx_of_lt hn]at hi;by_cases c:i<n*4
 ·grind [mC,qc,MC]
 ·rw[h2 i og hi,h (i+4) og];grind [mC,qc]
def abF(m:MT):∀ i,i<4->cellsOf (MT.cQ m) i=fq m i:=fq.box m
def Qg(l:List MT)(w:WH):Option WH:=(l.find? fun m=>decide (m.at_=w)).map (·.to)
def ZO(l:List MT):Nat->WH->WH
 | 0,w=>w
 | n+1,w=>match Qg l w with
  | some u=>ZO l n u
  | none=>w
def sO(l:List MT)(w:WH):WH:=ZO l 6 w
def Bv{l:List MT}{z:Int}(h:0<=z/\z<l.length):l[z.toNat]? =some (qc l z):=by
 grind [qc]
def T7{l:List MT}{w:WH}(h:∀ i:Int,0<=i->i<l.length->(qc l i).at_≠w):Qg l w=none:=by
 unfold Qg;rw[List.find?_eq_none.2 fun m hm=> ?_]
 ·rfl
 ·obtain⟨i,hi,rfl⟩:=List.mem_iff_getElem.1 hm;have:=h (i:Int) og og;grind [qc]
def T8{l:List MT}{w:WH}(h0:0<=i/\i<l.length)(h:∀ j:Int,0<=j->j<i->(qc l j).at_≠w)(he:(qc l i).at_=w):Qg l w=some (qc l i).to:=by
 unfold Qg;have e:l.find? (fun m=>decide (m.at_=w))=some (qc l i):=by
  rw[List.find?_eq_some_iff_getElem];have e:=Bv h0;refine⟨by simpa using he,i.toNat,og,?_,fun j hj=> ?_⟩
  ·simp_all
  ·have e2:=Bv (l:=l) (z:=(j:Int)) ⟨og,og⟩;grind
 simp_all
theorem T9{l:List MT}{w:WH}(h:Qg l w=none):∀ n,ZO l n w=w
 | 0=>rfl
 | n+1=>by unfold ZO;rw[h]
theorem Ua{l:List MT}{w u:WH}(h:Qg l w=some u)(n:Nat):ZO l (n+1) w=ZO l n u:=by
 grind [ZO]
def dd:ByteArray:=⟨#[46,46]⟩
def hQ:ByteArray:=⟨#[47]⟩
def dV(s:ByteArray):List ByteArray:=Lib.splitB hQ 0 (Lib.countB s hQ) s
def wy(s:ByteArray):Bool:=decide (s=dd)||jY s
def iR(p:ByteArray):Int:=if 60<p.size\/p=⟨#[]⟩\/p.get! 0≠47 then 9 else if p=hQ then 0 else if(dV (p.extract 1 p.size)).all wy=true then 0 else 9
def bW(p:ByteArray):List ByteArray:=if iR p=0/\p≠hQ then dV (p.extract 1 p.size)else []
def j8(l:List WH):WH:=KR l ((l.length:Int)-1)
def wk(F:FF)(l:List MT):List WH->List ByteArray->Int×WH
 | cF,[]=>(0,j8 cF)
 | cF,s::r=>if s=dd then wk F l (if 1<cF.length then cF.take (cF.length-1)else cF) r else if F.fx (j8 cF).node s≠0 then(F.fx (j8 cF).node s,WH.nil)else
   wk F l (cF++[sO l ⟨(j8 cF).du,F.bH (j8 cF).node s⟩]) r
def zJ(F:FF)(l:List MT)(r:WH)(ns:List ByteArray):Int×WH:=wk F l [sO l r] ns
def Ub(F:FF)(l:List MT)(r:WH)(p:ByteArray):Int:=if iR p≠0 then iR p else(zJ F l r (bW p)).1
def JU(F:FF)(l:List MT)(r:WH)(p:ByteArray):WH:=if iR p≠0 then WH.nil else(zJ F l r (bW p)).2
def nm(ns:List ByteArray):ByteArray:=ki ns ((ns.length:Int)-1)
def j9(ns:List ByteArray):List ByteArray:=ns.take (ns.length-1)
def G8(F:FF)(l:List MT)(r:WH)(p:ByteArray):Int:=if iR p≠0 then iR p else if(bW p).length=0 then 0 else if nm (bW p)=dd then 9 else if(zJ F l r (j9 (bW p))).1≠0 then(zJ F l r (j9 (bW p))).1 else F.fx (zJ F l r (j9 (bW p))).2.node (nm (bW p))
def A9(F:FF)(l:List MT)(r:WH)(p:ByteArray):WH:=if G8 F l r p≠0 then WH.nil else if(bW p).length=0 then r else⟨(zJ F l r (j9 (bW p))).2.du,F.bH (zJ F l r (j9 (bW p))).2.node (nm (bW p))⟩
def xV(F:FF)(l:List MT)(r:WH)(p:ByteArray):Int:=if iR p≠0 then iR p else if(bW p).length=0\/nm (bW p)=dd then 9 else(zJ F l r (j9 (bW p))).1
def tQ(F:FF)(l:List MT)(r:WH)(p:ByteArray):WH:=if xV F l r p≠0 then WH.nil else(zJ F l r (j9 (bW p))).2
def qS(F:FF)(l:List MT)(r:WH)(p:ByteArray):ByteArray:=if xV F l r p≠0 then⟨#[]⟩else nm (bW p)
def wz(F:FF)(w:WH):Int:=if F.cI w.node 0≠0 then F.cI w.node 0 else if F.aN w.node≠2\/F.du w.node≠w.du then 11 else 0
def JV(l:List MT)(w:WH):Bool:=l.any fun m=>decide (m.at_=w)
def tS(F:FF)(l:List MT)(at_ to:WH):Int:=if wz F at_≠0 then wz F at_ else if wz F to≠0 then wz F to else if at_=to then 8 else if JV l at_=true then 3 else if l.length=6 then 4 else 0
def oZ(F:FF)(l:List MT)(at_ to:WH):List MT:=if tS F l at_ to=0 then l++[⟨at_,to⟩]else l
def qU(F:FF)(l:List MT)(at_ to:WH):FF:=if tS F l at_ to=0 then(F.dy at_.node).dy to.node else F
def tT(l:List MT)(w:WH):Nat:=l.findIdx fun m=>decide (m.at_=w)
def xW(l:List MT)(w:WH):Int:=if tT l w<l.length then 0 else 2
def mX(l:List MT)(w:WH):List MT:=l.eraseIdx (tT l w)
def pM(F:FF)(l:List MT)(w:WH):FF:=if tT l w<l.length then(F.kE (qc l (tT l w)).at_.node).kE (qc l (tT l w)).to.node else F
def xX(F:FF):List MT->FF
 | []=>F
 | m::r=>xX ((F.dy m.at_.node).dy m.to.node) r
def C9(F:FF):List MT->FF
 | []=>F
 | m::r=>C9 ((F.kE m.at_.node).kE m.to.node) r
def NR(F:FF)(l:List MT)(r:WH):FF:=xX (F.dy r.node) l
def G9(F:FF)(l:List MT)(r:WH):FF:=(C9 F l).kE r.node
def NS{P:Program}{n:Fr}{L:PF}{ty:TypeId}{pos:String}{af:Array Edge}{d:Nat}{t t':TypeId}{x y:Operand}{a b:WH}{φ:World->Prop}{gd:Option (Nat×Bool)}(hx:ev L x=some (.agg (WH.cQ a)))(hy:ev L y=some (.agg (WH.cQ b)))
  (hP:(P.underlying t=some (.struct (P.fieldsOf t))/\P.stoodInHeld t=false)/\P.eqGuardType P.depth t=false/\two P t=true):aZ P n L φ ⟨some d,.binOp .eql t x y t',ty,pos,af,gd⟩ (.bool (decide (a=b))):=by grind [Si,Qe]
def JW{x:ByteArray}(h:60<x.size\/x=⟨#[]⟩\/x.get! 0≠47):iR x=9:=by grind [iR]
def Ha{x:ByteArray}(h:x=hQ):iR x=0/\bW x=[]:=by
 subst h;have e:iR hQ=0:=by
  rfl
 grind [bW]
theorem X2{l:List ByteArray}{y:ByteArray}(h:y∈l):∃ i:Int,0<=i/\i<l.length/\ki l i=y:=by
 obtain⟨i,hi,rfl⟩:=List.mem_iff_getElem.1 h;exact⟨(i:Int),og,og,by unfold ki;simp[hi]⟩
theorem L8{x:ByteArray}(hc:¬(60<x.size\/x=⟨#[]⟩\/x.get! 0≠47))(hs:¬x=hQ)(hi:0<=i/\i<(dV (x.extract 1 x.size)).length)(h:wy (ki (dV (x.extract 1 x.size)) i)=false):iR x=9:=by
 grind [iR,ki]
def JX{x:ByteArray}(hc:¬(60<x.size\/x=⟨#[]⟩\/x.get! 0≠47))(hs:¬x=hQ)(h:∀ i:Int,0<=i->i<(dV (x.extract 1 x.size)).length->wy (ki (dV (x.extract 1 x.size)) i)=true):iR x=0/\bW x=dV (x.extract 1 x.size):=by
 grind [iR,X2,bW]
def Qh{ns:List ByteArray}{n:Nat}(hn:n<=ns.length)(h:0<=i/\i<n):(ns.take n).drop i.toNat=ki ns i::(ns.take n).drop (i+1).toNat:=by
 grind [List.drop_eq_getElem_cons,ki]
section
variable {F:FF} {l:List MT} {cF:List WH} {s:ByteArray} {r a:List ByteArray}
theorem aeQ(h:a=s::r)(hd:s=dd)(hl:1<cF.length):wk F l cF a=wk F l (cF.take (cF.length-1)) r:=by
 grind [wk]
theorem X3(h:a=s::r)(hd:s=dd)(hl:¬ 1<cF.length):wk F l cF a=wk F l cF r:=by
 grind [wk]
theorem X4(h:a=s::r)(hd:¬s=dd)(he:F.fx (j8 cF).node s=0):wk F l cF a=wk F l (cF++[sO l ⟨(j8 cF).du,F.bH (j8 cF).node s⟩]) r:=by
 grind [wk]
theorem abG(h:a=s::r)(hd:¬s=dd)(he:¬F.fx (j8 cF).node s=0):wk F l cF a=(F.fx (j8 cF).node s,WH.nil):=by
 grind [wk]
def abH{ns:List ByteArray}{n:Nat}(hn:n<=ns.length):wk F l cF ((ns.take n).drop ((n:Int)).toNat)=(0,j8 cF):=by
 grind [List.drop_of_length_le,wk]
end
theorem ahx(b:Nat)(e:TypeId)(w:WH):aB.row (.slice (some ⟨b,0,none⟩) 1 1) e 2 1 #[Value.int .i64 w.du,iI w.node].toList=aM (some ⟨b,0,none⟩) 1 e 2 1 (wC [w]):=by
 rfl
theorem ahy(g:Nat)(e:TypeId)(a b:WH):aB.row (.slice (some ⟨g,0,none⟩) 2 2) e 2 2 #[Value.int .i64 a.du,iI a.node,iI b.du,iI b.node].toList=aM (some ⟨g,0,none⟩) 2 e 2 2 (wC [a,b]):=by
 rfl
theorem ZP{l:List MT}(h:0<=i/\i<l.length):l.drop i.toNat=qc l i::l.drop (i+1).toNat:=by
 grind [List.drop_eq_getElem_cons,qc]
theorem L9{F:FF}{l:List MT}(h:0<=i/\i<l.length):xX F (l.drop i.toNat)=xX ((F.dy (qc l i).at_.node).dy (qc l i).to.node) (l.drop (i+1).toNat):=by
 rw[ZP h];rfl
theorem Qi{F:FF}{l:List MT}(h:0<=i/\i<l.length):C9 F (l.drop i.toNat)=C9 ((F.kE (qc l i).at_.node).kE (qc l i).to.node) (l.drop (i+1).toNat):=by
 rw[ZP h];rfl
theorem Qj{F:FF}{l:List MT} :xX F (l.drop ((l.length:Int)).toNat)=F:=by
 grind [List.drop_of_length_le,xX]
theorem Uc{F:FF}{l:List MT} :C9 F (l.drop ((l.length:Int)).toNat)=F:=by
 grind [List.drop_of_length_le,C9]
theorem AM{l:List MT}{w:WH}(h:∀ i:Int,0<=i->i<l.length->(qc l i).at_≠w):JV l w=false:=by
 unfold JV;rw[List.any_eq_false];intro m hm;obtain⟨i,hi,rfl⟩:=List.mem_iff_getElem.1 hm;have:=h (i:Int) og og;grind [qc]
theorem Ma{l:List MT}{w:WH}(h0:0<=i/\i<l.length)(he:(qc l i).at_=w):JV l w=true:=by
 grind [JV,qc]
def Mb{l:List MT}{w:WH}(h0:0<=i/\i<l.length)(h:∀ j:Int,0<=j->j<i->(qc l j).at_≠w)(he:(qc l i).at_=w):tT l w=i.toNat:=by
 unfold tT;rw[List.findIdx_eq og];have e:=Bv h0;rw[List.getElem?_eq_getElem og,Option.some.injEq]at e;refine⟨by rw[e];simpa using he,fun j hj=> ?_⟩;have e2:=Bv (l:=l) (z:=(j:Int)) ⟨og,og⟩;grind
def Mc{l:List MT}{w:WH}(h:∀ i:Int,0<=i->i<l.length->(qc l i).at_≠w):tT l w=l.length:=by
 unfold tT;rw[List.findIdx_eq_length];intro m hm;obtain⟨i,hi,rfl⟩:=List.mem_iff_getElem.1 hm;have:=h (i:Int) og og;grind [qc]
def C0:Nat->Value:=fun _=>undef
theorem zK{F:FF}{l:List MT}{a z:WH}(hi:0<=i/\i<2)(hda:1<=i->wz F a=0)(h:wz F (KR [a,z] i)≠0):tS F l a z=wz F (KR [a,z] i):=by
 grind [tS,KR]
def Ud{F:FF}{d:Int->Nat}{B:Int}(h:F.Ok d B)(l:List MT)(a z:WH):(qU F l a z).Ok d (B+2):=by
 unfold qU;split
 ·have:=(h.dy a.node).dy z.node;grind
 ·exact⟨h.ec,fun n a b=>Int.le_trans (h.aX n a b) og,by have:=h.nn;omega⟩
def X5{F:FF}{d:Int->Nat}{B:Int}(h:F.Ok d B)(l:List MT)(w:WH):(pM F l w).Ok d (B+2):=by
 unfold pM;split
 ·have:=(h.kE (qc l (tT l w)).at_.node).kE (qc l (tT l w)).to.node;grind
 ·exact⟨h.ec,fun n a b=>Int.le_trans (h.aX n a b) og,by have:=h.nn;omega⟩
end Go.X.Tr

namespace Go.X.Kn
open Go Go.X Go.X.Fa Go.X.Sg Go.X.Sp Go.X.Tr Go.X.Vm
variable{B T co i m n p z:Int}{f:Int->Int}
structure PA where
 st:Int
 ax:Int
 lv:Int
 gJ:Int
 fd:Int->Int
 bx:BS
def PA.nil:PA:=⟨0,0,0,0,fun _=>0,BS.cK⟩
structure KA where
 u:Int->PA
 g:Gr.TG
 s:Sp.SS
 aL:Int->Nat
 v:VB
 f:Nat->Vm.MS
 P:Tr.PS
 O:Tr.OS
structure TB where
 b:Nat
 r:WH
 l:List MT
 p:Option Addr
 cap:Nat
 k:Nat
 c:Nat
 C:Nat->Value
structure TB.Ok (t:TB):Prop where
 rv:RV.ok ⟨t.p,t.cap,t.k,t.l.length,t.c,t.C⟩
 mc:MC t.C t.l
 len:t.l.length<=6
structure KZ where
 kb:Nat
 gb:Nat
 sb:Nat
 qb:Nat
 bb:Nat
 tb:Nat
 pi:Nat
 ob:Nat
 vp:Nat
structure KC where
 mb:Nat->Nat
 pp:Nat->Option Addr
 cc:Nat->Nat
 q:SC
 d:Int->Nat
 F:FC
 dF:Int->Nat
 rp:Option Addr
 rc:Nat
 rl:List Int
 t:Nat->TB
def PA.pu(p:PA)(b:Nat):PU:=⟨p.st,p.ax,p.lv,p.gJ,if p.st=0 then .pointer none else aA b 0 0,p.fd,p.bx⟩
def kp(a:KA)(b:KZ)(c:KC):KP:=⟨fun n=>(a.u n).pu (c.mb n.toNat),b.gb,b.sb,b.qb,b.bb,b.tb,b.pi,b.ob,fun z=>if a.s.aa z then aA (c.t z.toNat).b 0 0 else .pointer none⟩
def qd(a:KA)(b:KZ)(c:KC)(h:(a.u n).st≠0:=by omega):((kp a b c).u n).mem=aA (c.mb n.toNat) 0 0:=by
 show(if(a.u n).st=0 then Value.pointer none else aA (c.mb n.toNat) 0 0)=_;simp_all
def KP.ext{k k':KP}(hu:∀ n,k.u n=k'.u n)(hm:k.ms=k'.ms)(h:(k.gb=k'.gb/\k.sb=k'.sb/\k.qb=k'.qb/\k.bb=k'.bb)/\k.tb=k'.tb/\k.pi=k'.pi/\k.ob=k'.ob):k=k':=by
 cases k;cases k';obtain⟨⟨h1,h2,h3,h4⟩,h5,h6,h7⟩:=h;simp only at hm h1 h2 h3 h4 h5 h6 h7 hu;have e:=funext hu;simp_all
theorem abI(a:KA)(b:KZ)(c:KC)(n:Int)(p:PA):(kp a b c).put n (p.pu (c.mb n.toNat))=kp {a with u:=ad a.u n p} b c:=by
 refine KP.ext (fun m=> ?_) rfl ⟨⟨rfl,rfl,rfl,rfl⟩,rfl,rfl,rfl⟩;grind [KP.sE,aj,KP.zy,ae,kp]
def Hb(a:KA)(b:KZ)(c:KC)(n:Int)(p:PA)(u:PU)(h:u=p.pu (c.mb n.toNat)):(kp a b c).put n u=kp {a with u:=ad a.u n p} b c:=by rw[h,abI]
def ka(a:KA):Nat->Bool:=fun j=>decide (j<20/\(a.u (j:Int)).st≠0)
def fG{a:KA}(h:0<=n/\n<20)(hs:(a.u n).st≠0:=by omega):ka a n.toNat=true:=by
 grind [ka]
def uR{a a':KA}(h:∀ n,0<=n->n<20->((a.u n).st=0↔(a'.u n).st=0)):ka a=ka a':=by
 grind [ka]
def Ue{a:KA}{p:PA}(h:0<=n/\n<20)(hp:p.st=0):ka {a with u:=ad a.u n p} =jc (ka a) n.toNat:=by
 grind [iJ,ka,aj,ae]
def NT{a:KA}{p:PA}(h:0<=n/\n<20)(hp:p.st≠0):ka {a with u:=ad a.u n p} =ET (ka a) n.toNat:=by
 grind [jF,ka,aj,ae]
def mh(a:KA):Nat->Bool:=fun j=>decide (j<6)&&a.s.aa (j:Int)
theorem Bw{a:KA}{j:Nat} :mh a j=true↔j<6/\a.s.aa (j:Int)=true:=by simp[mh]
def ej{a:KA}(h:0<=z/\z<6)(hs:a.s.aa z=true):mh a z.toNat=true:=by grind [mh]
abbrev cT(tb:Nat)(t:Nat->TB):Nat->Nat->Value:=fun z=>Tr.aO tb (t z).r (.slice (t z).p (t z).l.length (t z).c)
abbrev rT(e:TypeId)(t:Nat->TB):Nat->pQ:=fun z=>⟨.slice (t z).p (t z).k (t z).cap,e,4,(t z).k,bZ (t z).C ((t z).k*4)⟩
abbrev JY(P:Nat->Bool)(tb:Nat)(e:TypeId)(t:Nat->TB):List aB:=[.eb P (fun z=>(t z).b) 4 (cT tb t),.bk P (rT e t)]
abbrev Uf(tb:Nat)(e:TypeId)(t:TB):List aB:=[.cells t.b 0 4 (Tr.aO tb t.r (.slice t.p t.l.length t.c)),aM t.p t.cap e 4 t.k t.C]
theorem abJ(tb:Nat)(t:Nat->TB)(z:Nat)(m:TB):Ij (cT tb t) z (Tr.aO tb m.r (.slice m.p m.l.length m.c))=cT tb (bE t z m):=by
 grind [Gh,Gi,bE]
theorem abK(e:TypeId)(t:Nat->TB)(z:Nat)(m:TB):AY (rT e t) z ⟨.slice m.p m.k m.cap,e,4,m.k,bZ m.C (m.k*4)⟩=rT e (bE t z m):=by
 grind [mT,lL,bE]
theorem abL(t:Nat->TB)(z:Nat)(m:TB):Ik (fun z=>(t z).b) z m.b=fun j=>(bE t z m j).b:=by
 grind [ur,rj,bE]
section
variable {W w:World} {S:Nat->Nat->Prop} {H H0:List aB} {tb:Nat} {e:TypeId} {t:Nat->TB} {P:Nat->Bool}
def ia{z:Nat}(hz:P z=true)(hp:cO H0 (JY P tb e t) H)(h:XM W S H0 w):XM W S (.cells (t z).b 0 4 (Tr.aO tb (t z).r (.slice (t z).p (t z).l.length (t z).c))::aM (t z).p (t z).cap e 4 (t z).k (t z).C:: .eb (jc P z) (fun z=>(t z).b) 4 (cT tb t):: .bk (jc P z) (rT e t)::H) w:=by
 have h0:XM W S (.eb P (fun z=>(t z).b) 4 (cT tb t):: .bk P (rT e t)::H) w:=h.b8 hp.b8;have h1:=BV z hz h0;have h2:=h1.b8 (pk [2]).b8;simp only[List.cons_append,List.nil_append]at h2;have h3:=om z hz h2;have h4:=h3.b8 (pk [2,0,1,0]).b8;simp_all
def Hc{z:Nat}(m:TB)(hz:P z=false)(hp:cO H0 (Uf tb e m++JY P tb e t) H)(h:XM W S H0 w):XM W S (JY (ET P z) tb e (bE t z m)++H) w:=by
 have h:XM W S (.cells m.b 0 4 (Tr.aO tb m.r (.slice m.p m.l.length m.c))::aM m.p m.cap e 4 m.k m.C:: .eb P (fun z=>(t z).b) 4 (cT tb t):: .bk P (rT e t)::H) w:=h.b8 hp.b8;have h0:=h.b8 (pk [0,1]).b8;simp only[List.cons_append,List.nil_append]at h0;have h1:=EV z og hz h0;have h2:=h1.b8 (pk [1,1]).b8;simp only[List.cons_append,List.nil_append]at h2;have h3:=qo (x:=⟨.slice m.p m.k m.cap,e,4,m.k,bZ m.C (m.k*4)⟩) z hz h2;have h4:=h3.b8 (pk [1,0]).b8;simp_all[abJ,abK,abL]
def Da{z:Nat}(m:TB)(hz:P z=true)(hp:cO H0 (Uf tb e m++JY (jc P z) tb e t) H)(h:XM W S H0 w):XM W S (JY P tb e (bE t z m)++H) w:=by
 have h1:=Hc m (uq _ _) hp h;grind [EU]
def ib{z:Nat}(hz:P z=true)(hp:cO H0 (Uf tb e (t z)++JY (jc P z) tb e t) H)(h:XM W S H0 w):XM W S (JY P tb e t++H) w:=by
 have h1:=Da (t z) hz hp h;rwa[kt]at h1
def Qk{z:Nat}(m:TB)(hp:cO H0 (Uf tb e m) H)(h:XM W S H0 w):XM W S (JY (ET (fun _=>false) z) tb e (bE (fun _=>m) z m)++H) w:=by
 have h0:XM W S (Uf tb e m++H) w:=h.b8 hp.b8;have h1:XM W S (.eb (fun _=>false) (fun _=>m.b) 4 (cT tb fun _=>m):: .bk (fun _=>false) (rT e fun _=>m):: .cells m.b 0 4 (Tr.aO tb m.r (.slice m.p m.l.length m.c))::aM m.p m.cap e 4 m.k m.C::H) w:=BW (EW h0);exact Hc m rfl (pk [2,2,0,0]) h1
end
structure KA.Wk (a:KA) (T:Int):Prop where
 T0:0<=T/\T<=1000000
 gI:a.g.Inv
 gS:a.g.bR (1000*T)
 sI:a.s.Inv a.aL
 sys:Vm.Sys a.v a.f 20
 tU:∀ n,0<=n->n<20->(a.u n).st≠1->a.f n.toNat=Vm.MS.nil
 PI:a.P.Inv T
 OI:a.O.Inv T
 lc:∀ n,0<=n->n<20->((a.u n).st≠0↔0<=a.s.loc n)
 st:∀ n,(a.u n).st=0\/(a.u n).st=1\/(a.u n).st=2
 out:∀ n,(n<0\/20<=n)->a.u n=PA.nil
 fd:∀ n i,0<=(a.u n).fd i/\(a.u n).fd i<=24
 bx:∀ n,(a.u n).bx.db 0=false
structure cR (a:KA) (c:KC) (N:Nat) (T:Int):Prop where
 qO:c.q.toSF.Ok c.d N N
 qR:c.q.pA
 F:c.F.toFF.Ok c.dF T
 rp:c.F.rP=c.rp
 rc:c.F.rC=c.rc
 rl:c.F.roots=c.rl
 tb:∀ z,0<=z->z<6->a.s.aa z=true->(c.t z.toNat).Ok
 tk:∀ n,0<=n->n<20->c.q.aa (10+n)=true->(a.u n).st=1
theorem FF.Ok.up{s:Tr.FF}{d:Int->Nat}{B':Int}(h:s.Ok d B)(hB:B<=B'):s.Ok d B':=⟨h.ec,fun n a b=>Int.le_trans (h.aX n a b) hB,Int.le_trans h.nn hB⟩
theorem KA.Wk.up{a:KA}{T':Int}(h:a.Wk T)(hT:T<=T')(Ql:T'<=1000000):a.Wk T':=⟨⟨by have:=h.T0;omega,Ql⟩,h.gI,h.gS.mono og,h.sI,h.sys,h.tU,h.PI.mono hT,h.OI.mono hT,h.lc,h.st,h.out,h.fd,h.bx⟩
theorem cR.up{a:KA}{c:KC}{N N':Nat}{T T':Int}(h:cR a c N T)(hN:N<=N')(hT:T<=T'):cR a c N' T':=⟨h.qO.mono hN og,h.qR,FF.Ok.up h.F hT,h.rp,h.rc,h.rl,h.tb,h.tk⟩
def cR.sh{a:KA}{c:KC}{N:Nat}{T:Int}(h:cR a c N T)(hT:T<=1000000):c.F.toFF.Sh:=h.F.sh hT
def Qm(s:Tr.FF)(n m:Int):(s.kE n).aX m<=s.aX m\/(s.kE n).aX m=0:=by
 unfold Tr.FF.kE;split
 ·have e:ad s.aX n (s.aX n-1) m<=s.aX m:=by
   grind [aj,ae]
  unfold Tr.FF.qP;split
  ·by_cases c:m=n
   ·right;subst c;exact aj _ _ _
   ·left;exact Int.le_trans (Int.le_of_eq (ae _ _ c)) e
  simp_all
 omega
theorem FF.Ok.X6{s:Tr.FF}{d:Int->Nat}(h:s.Ok d B)(n:Int):(s.kE n).Ok d B:=
 ⟨(h.kE n).ec,fun m a b=>by
  have h1:=h.aX m a b
  have h2:=h.nn
  rcases Qm s n m with q | q<;>omega,h.nn⟩
def FF.Ok.ZQ:∀ (l:List MT) {s:Tr.FF} {d:Int->Nat} {B:Int},s.Ok d B->(C9 s l).Ok d B
 | [],_,_,_,h=>h
 | m::r,_,_,_,h=>FF.Ok.ZQ r (FF.Ok.X6 (FF.Ok.X6 h _) _)
def FF.Ok.X7{s:Tr.FF}{d:Int->Nat}(h:s.Ok d B)(l:List MT)(r:WH):(G9 s l r).Ok d B:=FF.Ok.X6 (FF.Ok.ZQ l h) _
theorem FF.Ok.tV{s:Tr.FF}{d:Int->Nat}(h:s.Ok d B)(O:Tr.OS)(n:Int):(mO s O n).Ok d B:=by
 unfold mO;split;all_goals grind [FF.Ok.X6]
theorem OS.Inv.tV{O:Tr.OS}{J:Int}(h:O.Inv J)(n:Int):(kG O n).Inv J:=by
 have hm:=h.close n;refine⟨fun m a b=> ?_,hm.at_,hm.aN,hm.b7⟩;have h1:=(hm.cG m a b).1;have h2:=(h.cG m a b);refine⟨h1,?_⟩;unfold kG;split
 ·omega
 ·split
  ·show ad O.cG n (O.cG n-1) m<=J;grind [aj,ae]
  ·show ad O.cG n 0 m<=J;grind [aj,ae]
theorem Ug{P:Tr.PS}{K:Int}(h:P.Inv K)(n:Int)(w:Bool):(P.mA n w (-1)).2.Inv K:=by
 have hm:=Tr.PS.T4 (n:=n) (w:=w) h (.inr rfl);have im:∀ m k,(P.mA n w (-1)).2.e m k<=P.e m k:=fun m k=>by
  unfold Tr.PS.mA;split
  ·simp_all
  ·split;all_goals grind [cv]
 exact⟨fun m=>⟨(hm.e0 m).1,Int.le_trans (im m 0) (h.e0 m).2⟩,fun m=>⟨(hm.e1 m).1,Int.le_trans (im m 1) (h.e1 m).2⟩,hm.cl,hm.len⟩
theorem PS.tV{P:Tr.PS}{K:Int}(h:P.Inv K)(O:Tr.OS)(n:Int):(kF P O n).Inv K:=by
 unfold kF;split;all_goals grind [Ug]
theorem tW{g:Gr.TG}(h:g.Inv)(hS:g.bR B)(n p m:Int):(g.fU n p m).bR B:=by
 have hI:=h.fU n p m;intro y y0 y1;have h1:=hS y y0 y1;unfold Gr.TG.fU at hI ⊢;split
 ·rename_i c;rw[if_pos c]at hI;obtain⟨⟨n0,n1,n2⟩,p0,p1,m0,m1⟩:=Gr.TG.Bn c;have hw:=h.ok.cF n0 n1 n2;show-B<=g.pr y+ -p*((g.cF n).count y:Int)/\g.pr y+ -p*((g.cF n).count y:Int)<=B/\ -B<=g.pg y+ -m*((g.cF n).count y:Int)/\g.pg y+ -m*((g.cF n).count y:Int)<=B;have k0:(0:Int)<=((g.cF n).count y:Int):=og;have e1:0<=p*((g.cF n).count y:Int):=Int.mul_nonneg og k0;have e2:0<=m*((g.cF n).count y:Int):=Int.mul_nonneg og k0;have e3: -p*((g.cF n).count y:Int)= -(p*((g.cF n).count y:Int)):=Int.neg_mul _ _;have e4: -m*((g.cF n).count y:Int)= -(m*((g.cF n).count y:Int)):=Int.neg_mul _ _;by_cases q:y∈g.cF n
  ·have hn:=hI.nn y0 y1 (hw.2.2 y q);have hn1:0<=g.pr y+ -p*((g.cF n).count y:Int)/\0<=g.pg y+ -m*((g.cF n).count y:Int):=hn;omega
  grind
 omega
theorem kv{f:Int->Int}{x:Int} :∀ {k:Nat},x∈dH f k↔∃ j:Int,0<=j/\j<k/\0<=f j/\f j=x
 | 0=>by simp[dH];omega
 | k+1=>by
  rw[dH,List.mem_append,kv];constructor
  ·rintro(⟨j,a,b,c,d⟩ | h)
   ·exact⟨j,a,og,c,d⟩
   ·split at h
    ·rename_i q;exact⟨k,og,og,q,(List.mem_singleton.1 h).symm⟩
    ·cases h
  ·rintro⟨j,a,b,c,d⟩;by_cases e:j=(k:Int)
   ·subst e;right;rw[if_pos c];exact List.mem_singleton.2 d.symm
   ·exact .inl ⟨j,a,og,c,d⟩
def o3{f:Int->Int}(hi:∀ q q',0<=f q->f q'=f q->q'=q):∀ k:Nat,(dH f k).Nodup
 | 0=>List.nodup_nil
 | k+1=>by
  rw[dH];split
  ·rename_i c;refine List.nodup_append.2 ⟨o3 hi k,List.nodup_cons.2 ⟨sq,List.nodup_nil⟩,fun x hx y hy=> ?_⟩;rw[List.mem_singleton.1 hy];rintro rfl;obtain⟨j,a,b,_,d⟩:=kv.1 hx;grind
  ·rw[List.append_nil];exact o3 hi k
theorem rZ{s:Sp.SS}{aL:Int->Nat}(h:s.Inv aL)(z:Int):(s.mem z).1.Nodup:=by
 unfold Sp.SS.mem;split
 ·simp_all
 ·exact o3 (fun q q' a b=>h.inj z q q' a b) 21
theorem pN(s:Sp.SS)(z:Int):(s.drop z).2.loc=s.loc:=by
 unfold Sp.SS.drop;grind
def Hg{s:Sp.SS}(hp:0<=p/\p<20):(s.fi p).2.loc p<0:=by
 unfold Sp.SS.fi;split
 ·rename_i c;unfold Sp.SS.bM at c;grind
 ·show ad s.loc p (-1) p<0;grind [aj]
theorem tX(s:Sp.SS)(h:m≠p):(s.fi p).2.loc m=s.loc m:=by
 unfold Sp.SS.fi;split
 ·rfl
 ·exact ae _ _ h
theorem SS.r6(s:Sp.SS)(z:Int):((s.drop z).1≠0/\(s.drop z).2=s)\/((s.drop z).1=0/\(0<=z/\z<6)/\z≠0/\s.aa z=true/\(s.drop z).2= {s with aa:=ad s.aa z false,ax:=ad s.ax z 0} /\(∀ j,s.bG z j<0\/¬(0<=j/\j<21))/\∀ j:Int,0<=j->j<6->¬(s.aa j=true/\s.ax j=z)):=by
 by_cases h:(s.drop z).1=0
 ·right;refine⟨h,?_⟩;unfold Sp.SS.drop at h ⊢;split at h
  ·omega
  ·rename_i c;have hi:(0<=z/\z<6)/\s.aa z=true:=by
    have c:s.is z=0:=og;unfold Sp.SS.is at c;grind
   rw[if_neg c];split at h
   ·omega
   ·rename_i d;rw[if_neg d];split at h
    ·omega
    ·rename_i e;refine⟨hi.1,fun q=>d (.inl q),hi.2,rfl,fun j=> ?_,fun j j0 j1 q=> ?_⟩
     ·by_cases q:0<=j/\j<21
      ·left;refine Decidable.byContradiction fun r=>d (.inr ?_);have:s.bG z j∈s.cU z:=kv.2 ⟨j,og,og,og,rfl⟩;simp_all
      omega
     ·unfold Sp.SS.kids at e;have:=qI e j j0 og;simp_all
 grind [LG]
def EE(f:Int->Int)(i:Int):Int->Int:=fun j=>if 0<=j/\j<i/\f j>0 then 0 else f j
theorem aeR(f:Int->Int):EE f 0=f:=by funext j;unfold EE;rw[if_neg og]
theorem X8(f:Int->Int)(hi:0<=i)(h:f i>0):ad (EE f i) i 0=EE f (i+1):=by
 grind [EE,ad]
theorem Uh(f:Int->Int)(h:¬f i>0):EE f i=EE f (i+1):=by
 grind [EE]
def Db(f:Int->Int)(O:Tr.OS)(P:Tr.PS):Nat->Tr.OS×Tr.PS
 | 0=>(O,P)
 | k+1=>if f (k:Int)>0 then(kG (Db f O P k).1 (f (k:Int)-1),kF (Db f O P k).2 (Db f O P k).1 (f (k:Int)-1))else Db f O P k
theorem X9(O:Tr.OS)(P:Tr.PS)(hi:0<=i)(h:f i>0):Db f O P (i+1).toNat=(kG (Db f O P i.toNat).1 (f i-1),kF (Db f O P i.toNat).2 (Db f O P i.toNat).1 (f i-1)):=by
 rw[show(i+1).toNat=i.toNat+1 by omega];grind [Db]
theorem Ui(O:Tr.OS)(P:Tr.PS)(hi:0<=i)(h:¬f i>0):Db f O P (i+1).toNat=Db f O P i.toNat:=by
 rw[show(i+1).toNat=i.toNat+1 by omega];grind [Db]
def xY{f:Int->Int}{O:Tr.OS}{P:Tr.PS}{T:Int}(hO:O.Inv T)(hP:P.Inv T):∀ k:Nat,(Db f O P k).1.Inv T/\(Db f O P k).2.Inv T
 | 0=>⟨hO,hP⟩
 | k+1=>by
  obtain⟨h1,h2⟩:=xY (f:=f) hO hP k;grind [Db,OS.Inv.tV,PS.tV]
abbrev KA.um(a:KA)(n:Int):Int×Int×VB×Vm.MS:=(a.f n.toNat).fE a.v 0 16
def Qn{m:Vm.MS}(h:m.Ok)(v:VB):(m.fE v 0 16).2.2.2=Vm.MS.nil:=by
 unfold Vm.MS.fE;rw[if_neg dq];have e:∀ {α:Type} (f:Int->α) (v:α),(∀ i,i<0\/16<=i->f i=v)->gH f 0 16 v=fun _=>v:=fun f v h=>by
  funext i;unfold gH;split;all_goals grind
 have h1:∀ i,i<0\/16<=i->m.fr i=0:=fun i hi=>h.un i (h.f.out i hi);show Vm.MS.mk _ _ _=_;rw[e m.ay 0 h.f.out,e m.fr 0 h1,e m.aS false fun i hi=>h.ow i (h1 i hi)];rfl
def KA.cm(a:KA)(n co:Int):KA:=
 {a with u:=ad a.u n {a.u n with st:=2,gJ:=co,fd:=EE (a.u n).fd 6},g:=a.g.fU (a.u n).lv 0 (a.um n).1,v:=(a.um n).2.2.1,f:=(bE a.f n.toNat (a.um n).2.2.2),O:=(Db (a.u n).fd a.O a.P 6).1,P:=(Db (a.u n).fd a.O a.P 6).2}
def mY{α:Type}(f:Int->α)(n m:Int)(x:α){Q:α->Prop}(h1:m=n->Q x)(h2:m≠n->Q (f m)):Q (ad f n x m):=by
 grind [ad]
theorem KA.Wk.cm{a:KA}{T:Int}(h:a.Wk T){n:Int}(hn:0<=n/\n<20)(hl:(a.u n).st=1)(co:Int):(a.cm n co).Wk T where
 T0:=h.T0
 gI:=h.gI.fU _ _ _
 gS:=tW h.gI h.gS _ _ _
 sI:=h.sI
 sys:=h.sys.fE (z:=n.toNat) og 0 16
 tU:=fun m h0 h1 h2=>by
  show bE a.f n.toNat (a.um n).2.2.2 m.toNat=_
  by_cases e:m=n
  ·subst e;rw[rU];exact Qn (h.sys.mo _ og) _
  ·rw[lV _ _ og]
   refine h.tU m h0 h1 fun q=>h2 ?_
   show(ad a.u n _ m).st=1
   rw[ae _ _ e];exact q
 PI:=(xY (f:=(a.u n).fd) h.OI h.PI 6).2
 OI:=(xY (f:=(a.u n).fd) h.OI h.PI 6).1
 lc:=fun m a0 a1=>mY a.u n m _ (Q:=fun x=>x.st≠0↔0<=a.s.loc m) (fun e=>by
  subst e;exact⟨fun _=>(h.lc m a0 a1).1 og,fun _=>(by decide:(2:Int)≠0)⟩) fun _=>h.lc m a0 a1
 st:=fun m=>mY a.u n m _ (Q:=fun x=>x.st=0\/x.st=1\/x.st=2) (fun _=>.inr (.inr rfl)) fun _=>h.st m
 out:=fun m hm=>by
  show ad a.u n _ m=_
  rw[ae _ _ og];exact h.out m hm
 fd:=fun m i=>mY a.u n m _ (Q:=fun x=>0<=x.fd i/\x.fd i<=24) (fun _=>by
  have:=h.fd n i
  show 0<=EE _ 6 i/\EE _ 6 i<=24
  unfold EE;split<;>omega) fun _=>h.fd m i
 bx:=fun m=>mY a.u n m _ (Q:=fun x=>x.bx.db 0=false) (fun _=>h.bx n) fun _=>h.bx m
def KA.eI(a:KA)(n:Int):KA:= {a with u:=ad a.u n PA.nil,g:=a.g.fU (a.u n).lv 1 0,s:=(a.s.fi n).2}
theorem KA.Wk.eI{a:KA}{T:Int}(h:a.Wk T){n:Int}(hn:0<=n/\n<20)(hs:(a.u n).st≠1):(a.eI n).Wk T where
 T0:=h.T0
 gI:=h.gI.fU _ _ _
 gS:=tW h.gI h.gS _ _ _
 sI:=h.sI.fi _
 sys:=h.sys
 tU:=fun m h0 h1 h2=>by
  by_cases e:m=n
  ·subst e;exact h.tU m h0 h1 hs
  ·refine h.tU m h0 h1 (fun q=>h2 ?_)
   show(ad a.u n _ m).st=1
   rw[ae _ _ e];exact q
 PI:=h.PI
 OI:=h.OI
 lc:=fun m a0 a1=>by
  show(ad a.u n PA.nil m).st≠0↔0<=(a.s.fi n).2.loc m
  by_cases e:m=n
  ·subst e
   rw[aj]
   exact⟨fun q=>absurd rfl q,fun q=>absurd q (by have:=Hg (s:=a.s) (p:=m) hn;omega)⟩
  ·rw[ae _ _ e,tX _ e];exact h.lc m a0 a1
 st:=fun m=>mY a.u n m _ (Q:=fun x=>x.st=0\/x.st=1\/x.st=2) (fun _=>.inl rfl) fun _=>h.st m
 out:=fun m hm=>mY a.u n m _ (Q:=fun x=>x=PA.nil) (fun _=>rfl) fun _=>h.out m hm
 fd:=fun m i=>mY a.u n m _ (Q:=fun x=>0<=x.fd i/\x.fd i<=24) (fun _=>by simp[PA.nil]) fun _=>h.fd m i
 bx:=fun m=>mY a.u n m _ (Q:=fun x=>x.bx.db 0=false) (fun _=>rfl) fun _=>h.bx m
def KA.dt(a:KA)(z:Int):KA:= {a with s:=(a.s.drop z).2}
theorem KA.Wk.dt{a:KA}{T:Int}(h:a.Wk T)(z:Int):(a.dt z).Wk T:=⟨h.T0,h.gI,h.gS,h.sI.drop z,h.sys,h.tU,h.PI,h.OI,(fun n a0 a1=>by rw[show(a.dt z).s.loc=a.s.loc from pN _ _];exact h.lc n a0 a1),h.st,h.out,h.fd,h.bx⟩
def jJ(f:Int->Int)(a:Int):Int:=match dv (fun k=>decide (a<=k)&&(f k==0)) 6 with
 | some k=>k
 | none=> -1
theorem Qo{a:Int}(h0:0<=i/\a<=i/\i<6)(h1:f i=0)(hn:∀ j:Int,0<=j->a<=j->j<i->f j≠0):jJ f a=i:=by
 unfold jJ;have e:dv (fun k=>decide (a<=k)&&(f k==0)) 6=some i.toNat:=by
  grind [eo]
 grind
theorem Me{a:Int}(hn:∀ j:Int,0<=j->a<=j->j<6->f j≠0):jJ f a= -1:=by
 grind [jJ,dC]
def KP.eN(k:KP)(n i:Int):Int:=if k.aH n≠0 then k.aH n else if i<0\/6<=i then 1 else if(k.u n).fd i=0 then 2 else 0
def KP.dg(k:KP)(n i:Int):Int:=if k.eN n i=0 then(k.u n).fd i-1 else 0
theorem KP.r7{k:KP}(h:k.eN n i=0):(0<=n/\n<20)/\(k.u n).st=1/\(0<=i/\i<6)/\(k.u n).fd i≠0/\k.dg n i=(k.u n).fd i-1:=by
 have hv:k.dg n i=(k.u n).fd i-1:=by unfold KP.dg;rw[if_pos h]
 unfold KP.eN at h;split at h
 ·omega
 ·split at h
  ·omega
  ·split at h
   ·omega
   ·have:=bI (k:=k) (n:=n) og;omega
theorem abN(a:KA)(b:KZ)(c:KC)(n:Int):(kp a b c).put n {(kp a b c).u n with fd:=EE (a.u n).fd 0} =kp a b c:=by
 rw[aeR];exact AG _ _
theorem abO(a:KA)(b:KZ)(c:KC)(hi:0<=i)(h:(a.u n).fd i>0):((kp a b c).put n {(kp a b c).u n with fd:=EE (a.u n).fd i}).put n {((kp a b c).put n {(kp a b c).u n with fd:=EE (a.u n).fd i}).u n with fd:=ad (((kp a b c).put n {(kp a b c).u n with fd:=EE (a.u n).fd i}).u n).fd i 0} =(kp a b c).put n {(kp a b c).u n with fd:=EE (a.u n).fd (i+1)} :=by
 grind [KP.GN,KP.sE,X8]
theorem abP(a:KA)(b:KZ)(c:KC)(hl:(a.u n).st=1)(hn:0<=n/\n<20)(K:KP)(hK:K=(kp a b c).put n {(kp a b c).u n with fd:=EE (a.u n).fd 6}):(K.put n {K.u n with st:=2}).put n {(K.put n {K.u n with st:=2}).u n with gJ:=co} =kp (a.cm n co) b c:=by
 subst hK;rw[KP.sE,KP.GN,KP.GN,KP.sE];refine(Hb a b c n {a.u n with st:=2,gJ:=co,fd:=EE (a.u n).fd 6} _ ?_).trans rfl;show PU.mk 2 (a.u n).ax (a.u n).lv co (if(a.u n).st=0 then _ else _) _ _=PU.mk 2 (a.u n).ax (a.u n).lv co (if(2:Int)=0 then _ else _) _ _;rw[if_neg og,if_neg og];rfl
theorem Ya(a:KA)(hl:(a.u n).st=1):ka (a.cm n co)=ka a:=by
 refine(uR fun m _ _=> ?_).symm;show(a.u m).st=0↔(ad a.u n _ m).st=0;grind [aj,ae]
theorem Yb(a:KA)(b:KZ)(c:KC)(n:Int):(kp a b c).put n PU.nil=kp (a.eI n) b c:=by
 refine KP.ext (fun m=> ?_) ?_ ⟨⟨rfl,rfl,rfl,rfl⟩,rfl,rfl,rfl⟩
 ·by_cases e:m=n
  ·subst e;rw[KP.sE];show _=(ad a.u m PA.nil m).pu _;rw[aj];rfl
  ·rw[KP.zy _ _ e];show(a.u m).pu _=(ad a.u n PA.nil m).pu _;grind [ae]
 ·have e:(a.s.fi n).2.aa=a.s.aa:=by unfold Sp.SS.fi;split<;>rfl
  show _=fun z=>if(a.s.fi n).2.aa z then _ else _
  rw[e];rfl
theorem vD(s:Sp.SS)(n:Int):(s.fi n).2.aa=s.aa:=by unfold Sp.SS.fi;split<;>rfl
theorem Uj(a:KA)(n:Int):mh (a.eI n)=mh a:=by
 grind [mh,KA.eI,vD]
theorem Uk(a:KA)(hn:0<=n/\n<20):ka (a.eI n)=jc (ka a) n.toNat:=(uR fun _ _ _=>Iff.rfl).trans (Ue (p:=PA.nil) hn rfl)
theorem Ul{a:KA}(hz:0<=z/\z<6)(h:(a.s.drop z).2= {a.s with aa:=ad a.s.aa z false,ax:=ad a.s.ax z 0}):mh (a.dt z)=jc (mh a) z.toNat:=by
 funext j;rw[Bool.eq_iff_iff,iJ,Bw,Bw];show j<6/\(a.s.drop z).2.aa j=true↔_;rw[h];grind [aj,ae]
def Um(a:KA)(b:KZ)(c:KC)(h:a.s.aa z=true):(kp a b c).ms z=aA (c.t z.toNat).b 0 0:=if_pos h
theorem Yc(a:KA)(b:KZ)(c:KC)(h:(a.s.drop z).2= {a.s with aa:=ad a.s.aa z false,ax:=ad a.s.ax z 0}):({kp a b c with ms:=ad (kp a b c).ms z (.pointer none)} :KP)=kp (a.dt z) b c:=by
 refine KP.ext (fun m=>rfl) ?_ ⟨⟨rfl,rfl,rfl,rfl⟩,rfl,rfl,rfl⟩;show ad (kp a b c).ms z (.pointer none)=fun y=>if(a.s.drop z).2.aa y then aA (c.t y.toNat).b 0 0 else .pointer none
 rw[h];grind [ad,kp]
def KA.dN(h:Int)(a:KA)(m:Int):KA:=if m=h then a else(if(a.u m).st=1 then a.cm m 0 else a).eI m
def KA.round(a:KA):KA:=(Sp.eM a.s.aa 6).foldl KA.dt a
def KA.cU(a:KA)(z h:Int):KA:=(a.s.mem z).1.foldl (KA.dN h) a
def KA.de(a:KA):Nat->KA
 | 0=>a
 | k+1=>(a.de k).round
def KA.dG(a:KA)(z h:Int):KA:=(a.cU z h).de 4
theorem Mf{α β:Type}(f:α->β->α)(a:α)(l:List β)(x:β):(l++[x]).foldl f a=f (l.foldl f a) x:=by simp_all
theorem l8(a:KA)(co:Int)(h:m≠n):(a.cm n co).u m=a.u m:=ae _ _ h
theorem qV(a:KA)(h:m≠n):(a.eI n).u m=a.u m:=ae _ _ h
theorem xZ(a:KA)(h:Int)(e:m≠n):(a.dN h n).u m=a.u m:=by
 grind [KA.dN,qV,l8]
theorem nY(a:KA)(n co:Int):((a.cm n co).u n).st=2:=by
 show(ad a.u n _ n).st=2;rw[aj]
theorem wA{s:Sp.SS}(h:p∈(s.mem z).1):∃ q:Int,0<=q/\q<21/\s.bG z q=p/\0<=p:=by
 unfold Sp.SS.mem at h;split at h
 ·cases h
 ·obtain⟨j,h0,h1,h2,h3⟩:=kv.1 h;grind
theorem FM(a:KA)(h:Int){m:Int} :∀ {l:List Int},m∉l->(l.foldl (KA.dN h) a).u m=a.u m
 | [],_=>rfl
 | x::r,hm=>by
  rw[List.foldl_cons,FM (a.dN h x) h fun q=>hm (.tail _ q),xZ _ _ (by rintro rfl;exact hm (.head _))]
theorem KA.Wk.dN{a:KA}{T:Int}(w:a.Wk T)(h:Int){m:Int}(hm:0<=m/\m<20):(a.dN h m).Wk T:=by
 grind [KA.dN,KA.Wk.cm,nY,KA.Wk.eI]
theorem SS.mem_range{s:Sp.SS}{aL:Int->Nat}(h:s.Inv aL)(hp:p∈(s.mem z).1):(0<=p/\p<20)/\0<=s.loc p:=by
 obtain⟨q,_,_,e,p0⟩:=wA hp;have:=h.mem z q p p0 e;omega
def KA.Wk.Mg{a:KA}(w:a.Wk T)(z:Int)(hp:p∈(a.s.mem z).1):(0<=p/\p<20)/\(a.u p).st≠0:=by
 grind [SS.mem_range,KA.Wk.sI,KA.Wk.lc]
def KA.Wk.ZR{T:Int}(h:Int):∀ {l:List Int} {a:KA},a.Wk T->(∀ m∈l,0<=m/\m<20)->(l.foldl (KA.dN h) a).Wk T
 | [],_,w,_=>w
 | x::r,_,w,hl=>KA.Wk.ZR (l:=r) h (w.dN h (hl x (.head _))) fun m hm=>hl m (.tail _ hm)
theorem KA.Wk.cU{a:KA}{T:Int}(w:a.Wk T)(z h:Int):(a.cU z h).Wk T:=KA.Wk.ZR h w fun _ hm=>(SS.mem_range w.sI hm).1
def KA.Wk.AN{T:Int} :∀ {l:List Int} {a:KA},a.Wk T->(l.foldl KA.dt a).Wk T
 | [],_,w=>w
 | x::r,_,w=>KA.Wk.AN (l:=r) (w.dt x)
def KA.Wk.round{a:KA}{T:Int}(w:a.Wk T):a.round.Wk T:=KA.Wk.AN w
def KA.Wk.de{a:KA}{T:Int}(w:a.Wk T):∀ k,(a.de k).Wk T
 | 0=>w
 | k+1=>(w.de k).round
theorem KA.Wk.dG{a:KA}{T:Int}(w:a.Wk T)(z h:Int):(a.dG z h).Wk T:=(w.cU z h).de 4
theorem Dc(a:KA)(h:0<=i):a.de (i+1).toNat=(a.de i.toNat).round:=by
 rw[show(i+1).toNat=i.toNat+1 by omega];rfl
theorem uS{l:List Int}(h:0<=i/\i<l.length):l.take (i+1).toNat=l.take i.toNat++[il l i]:=ZH h
theorem Un{l:List Int}(hn:l.Nodup)(h:0<=i/\i<l.length):il l i∉l.take i.toNat:=by
 intro q;have h1:(l.take i.toNat++l.drop i.toNat).Nodup:=by rwa[List.take_append_drop]
 grind [il,List.drop_eq_getElem_cons]
theorem FF.mL(s:Tr.FF)(n:Int):(s.kE n).roots=s.roots:=by
 unfold Tr.FF.kE Tr.FF.qP;split
 ·split<;>rfl
 rfl
def vE:∀ (l:List MT) (s:Tr.FF),(C9 s l).roots=s.roots
 | [],_=>rfl
 | m::r,s=>(vE r _).trans ((FF.mL _ _).trans (FF.mL _ _))
theorem Ba(s:Tr.FF)(l:List MT)(r:WH):(G9 s l r).roots=s.roots:=(FF.mL _ _).trans (vE _ _)
def ya{s:Sp.SS}{y:Int}(h:(s.drop z).2.aa y=true):s.aa y=true:=by
 rcases SS.r6 s z with⟨_,e⟩ | ⟨_,_,_,_,e,_⟩;all_goals simp_all[ad]
def r8(k:KP)(h:0<=z/\z<6){v:Value}(e:k.ms z=v):0+447+z.toNat*1<453/\aD k (0+447+z.toNat*1)=v:=by grind [aD]
theorem cR.Uo{a:KA}{c:KC}{N:Nat}(h:cR a c N T)(hs:(a.u n).st≠1):cR (a.eI n) c N T:=⟨h.qO,h.qR,h.F,h.rp,h.rc,h.rl,fun z h0 h1 h2=>h.tb z h0 h1 (by rwa[show(a.eI n).s.aa=a.s.aa from vD _ _]at h2),fun m m0 m1 hm=>by
 have h1:=h.tk m m0 m1 hm
 have:m≠n:=by rintro rfl;exact hs h1
 rw[qV _ this];exact h1⟩
theorem mP(x:BS)(n:Int)(h:x.db 0=false):(x.send n).2.db 0=false:=by
 unfold BS.send;split
 ·rename_i c;have:=(gg n).1 c;show(if x.zg n=1 then x else _).db 0=false;split;all_goals grind [ae]
 omega
def AO{x y:BS}{h:Int}(e:∀ k:Int,0<=k->k<9->(x.db k&&(!x.aX k&&decide (x.jN k=h)))=(y.db k&&(!y.aX k&&decide (y.jN k=h)))):x.first h=y.first h:=by
 unfold BS.first
 have e2:dv (fun k=>x.db k&&(!x.aX k&&decide (x.jN k=h))) 9=dv (fun k=>y.db k&&(!y.aX k&&decide (y.jN k=h))) 9:=by
  cases hy:dv (fun k=>y.db k&&(!y.aX k&&decide (y.jN k=h))) 9 with
  | none=>exact dC fun j j0 j1=>(e j j0 og).trans (qI hy j j0 j1)
  | some m=>
   obtain⟨h1,h2,h3⟩:=I8 hy;have:=eo (p:=fun k=>x.db k&&(!x.aX k&&decide (x.jN k=h))) (m:=9) (k:=(m:Int)) og og ((e m og og).trans h2) fun j j0 j1=>(e j j0 og).trans (h3 j j0 j1);rw[this];rfl
 rw[e2]
theorem FN(x:BS):(x.send 3).2.first 0=x.first 0:=by
 unfold BS.send;rw[if_pos dq];show(if x.zg 3=1 then x else _).first 0=_
 split
 ·rfl
 ·rename_i c;refine AO fun k k0 k1=> ?_;show(ad x.db 3 true k&&_)=_;by_cases e:k=3
  ·subst e;have h0:¬x.jN 3=0:=fun q=>c (by unfold BS.zg;rw[if_pos ⟨rfl,q⟩]);simp_all
  grind [ae]
def KA.ic(a:KA)(n:Int)(x:BS):KA:= {a with u:=ad a.u n {a.u n with bx:=x}}
def KA.aH(a:KA)(n:Int):Int:=if n<0\/20<=n then 1 else if(a.u n).st=1 then 0 else 2
theorem Yd(a:KA)(b:KZ)(c:KC)(n:Int):(kp a b c).aH n=a.aH n:=rfl
theorem bX{a:KA}(h:a.aH n=0):(0<=n/\n<20)/\(a.u n).st=1:=by
 grind [KA.aH]
def KA.uM{a:KA}(h:0<=n/\n<20)(e:(a.u n).st=1):a.aH n=0:=by grind [KA.aH]
theorem zL(a:KA)(b:KZ)(c:KC)(n:Int)(x:BS):(kp a b c).box n x=kp (a.ic n x) b c:=Hb a b c n {a.u n with bx:=x} _ rfl
theorem r9(a:KA)(x:BS)(h:m≠n):(a.ic n x).u m=a.u m:=ae _ _ h
theorem yb(a:KA)(n:Int)(x:BS):(a.ic n x).u n= {a.u n with bx:=x} :=aj _ _ _
theorem fp(a:KA)(n m:Int)(x:BS):((a.ic n x).u m).st=(a.u m).st:=by
 grind [yb,r9]
theorem uT(a:KA)(n:Int)(x:BS):ka (a.ic n x)=ka a:=uR fun m _ _=>by rw[fp]
theorem KA.Wk.ic{a:KA}{T:Int}(h:a.Wk T){n:Int}(hn:0<=n/\n<20){x:BS}(hx:x.db 0=false):(a.ic n x).Wk T where
 T0:=h.T0
 gI:=h.gI
 gS:=h.gS
 sI:=h.sI
 sys:=h.sys
 tU:=fun m a0 a1 q=>h.tU m a0 a1 (by rwa[fp]at q)
 PI:=h.PI
 OI:=h.OI
 lc:=fun m a0 a1=>by rw[fp];exact h.lc m a0 a1
 st:=fun m=>by rw[fp];exact h.st m
 out:=fun m hm=>by rw[r9 _ _ og];exact h.out m hm
 fd:=fun m i=>mY a.u n m _ (Q:=fun z=>0<=z.fd i/\z.fd i<=24) (fun _=>h.fd n i) fun _=>h.fd m i
 bx:=fun m=>mY a.u n m _ (Q:=fun z=>z.bx.db 0=false) (fun _=>hx) fun _=>h.bx m
def KA.head(a:KA)(n:Int):Int:=(a.s.find (a.s.bM n).1 1).1
def KA.cw(a:KA)(n h:Int):KA:= {a with u:=fun j=>if 0<=j/\j<20/\(a.u j).st≠0/\(a.u j).ax=n then {a.u j with ax:=h} else a.u j}
theorem cW(a:KA)(n h j:Int):((a.cw n h).u j).st=(a.u j).st/\((a.cw n h).u j).bx=(a.u j).bx/\((a.cw n h).u j).lv=(a.u j).lv/\((a.cw n h).u j).gJ=(a.u j).gJ/\((a.cw n h).u j).fd=(a.u j).fd:=by
 show((if 0<=j/\j<20/\(a.u j).st≠0/\(a.u j).ax=n then {a.u j with ax:=h} else a.u j):PA).st=_/\((if 0<=j/\j<20/\(a.u j).st≠0/\(a.u j).ax=n then {a.u j with ax:=h} else a.u j):PA).bx=_/\((if 0<=j/\j<20/\(a.u j).st≠0/\(a.u j).ax=n then {a.u j with ax:=h} else a.u j):PA).lv=_/\((if 0<=j/\j<20/\(a.u j).st≠0/\(a.u j).ax=n then {a.u j with ax:=h} else a.u j):PA).gJ=_/\((if 0<=j/\j<20/\(a.u j).st≠0/\(a.u j).ax=n then {a.u j with ax:=h} else a.u j):PA).fd=_;grind
theorem JZ(a:KA)(b:KZ)(c:KC)(n h:Int):(kp a b c).ly n h 20=kp (a.cw n h) b c:=by
 refine KP.ext (fun m=> ?_) rfl ⟨⟨rfl,rfl,rfl,rfl⟩,rfl,rfl,rfl⟩;show(if 0<=m/\m<20/\(a.u m).st≠0/\(a.u m).ax=n then {(a.u m).pu _ with ax:=h} else(a.u m).pu _)=PA.pu (if 0<=m/\m<20/\(a.u m).st≠0/\(a.u m).ax=n then {a.u m with ax:=h} else a.u m) _;split<;>rfl
theorem FO(a:KA)(n h:Int):ka (a.cw n h)=ka a:=by grind [cW,ka]
def KA.Wk.cw{a:KA}{T:Int}(w:a.Wk T)(n h:Int):(a.cw n h).Wk T where
 T0:=w.T0
 gI:=w.gI
 gS:=w.gS
 sI:=w.sI
 sys:=w.sys
 tU:=fun m a0 a1 q=>w.tU m a0 a1 (by rwa[(cW _ _ _ _).1]at q)
 PI:=w.PI
 OI:=w.OI
 lc:=fun m a0 a1=>by rw[(cW _ _ _ _).1];exact w.lc m a0 a1
 st:=fun m=>by rw[(cW _ _ _ _).1];exact w.st m
 out:=fun m hm=>by
  show(if 0<=m/\m<20/\(a.u m).st≠0/\(a.u m).ax=n then {a.u m with ax:=h} else a.u m)=PA.nil
  rw[if_neg og];exact w.out m hm
 fd:=fun m i=>by rw[(cW _ _ _ _).2.2.2.2];exact w.fd m i
 bx:=fun m=>by rw[(cW _ _ _ _).2.1];exact w.bx m
def KA.iW(a:KA)(p:Int):KA:=if a.aH p=0 then a.ic p ((a.u p).bx.send 3).2 else a
theorem KA.Wk.iW{a:KA}{T:Int}(w:a.Wk T)(p:Int):(a.iW p).Wk T:=by
 grind [KA.iW,KA.Wk.ic,bX,mP,KA.Wk.bx]
def KA.dW(a:KA)(n co:Int):KA:=if a.head n=n then(a.cm n co).dG (a.s.bM n).1 n else a.cm n co
def KA.aU(a:KA)(n co:Int):KA:=((a.dW n co).cw n (a.head n)).iW (((a.dW n co).cw n (a.head n)).u n).ax
theorem KA.Wk.dW{a:KA}{T:Int}(w:a.Wk T){n:Int}(hn:0<=n/\n<20)(hl:(a.u n).st=1)(co:Int):(a.dW n co).Wk T:=by
 unfold KA.dW;split
 ·exact(w.cm hn hl co).dG _ _
 grind [KA.Wk.cm]
theorem KA.Wk.aU{a:KA}{T:Int}(w:a.Wk T){n:Int}(hn:0<=n/\n<20)(hl:(a.u n).st=1)(co:Int):(a.aU n co).Wk T:=((w.dW hn hl co).cw _ _).iW _
def KA.Hx(a:KA)(n:Int):Prop:=∀ p,0<=p->p<20->p≠n->(a.u p).st=1->(a.u p).bx.first 0=0\/a.s.bG (a.s.loc p) 1=p
theorem KA.Hx.cm{a:KA}{n:Int}(h:a.Hx n)(co:Int):(a.cm n co).Hx n:=fun p h0 h1 h2 h3=>by
 rw[l8 _ _ h2]at h3 ⊢;exact h p h0 h1 h2 h3
def KA.Hx.ahz{a:KA}(h:a.Hx n)(co:Int):(a.cm m co).Hx n:=fun p h0 h1 h2 h3=>by
 by_cases e:p=m
 ·grind [nY]
 ·rw[l8 _ _ e]at h3 ⊢;exact h p h0 h1 h2 h3
def yc{s:Sp.SS}{q:Int}(e:p≠n)(h:s.bG z q=p):(s.fi n).2.bG z q=p:=by
 unfold Sp.SS.fi;split
 ·omega
 ·show(if s.bG z q=n then-1 else s.bG z q)=p;omega
theorem KA.Hx.eI{a:KA}{n m:Int}(h:a.Hx n):(a.eI m).Hx n:=fun p h0 h1 h2 h3=>by
 by_cases e:p=m
 ·simp_all[KA.eI,PA.nil,aj]
 ·rw[qV _ e]at h3 ⊢;rcases h p h0 h1 h2 h3 with q | q
  ·omega
  ·right;show(a.s.fi m).2.bG ((a.s.fi m).2.loc p) 1=p;rw[tX _ e];exact yc e q
theorem tY(s:Sp.SS)(z:Int):(s.drop z).2.bG=s.bG:=by
 grind [SS.r6]
theorem KA.Hx.dt{a:KA}{n:Int}(h:a.Hx n)(z:Int):(a.dt z).Hx n:=fun p h0 h1 h2 h3=>by
 show _\/(a.s.drop z).2.bG ((a.s.drop z).2.loc p) 1=p;rw[tY,pN];exact h p h0 h1 h2 h3
def KA.Hx.ZR{n:Int}(k:Int):∀ {l:List Int} {a:KA},a.Hx n->(l.foldl (KA.dN k) a).Hx n
 | [],_,w=>w
 | x::r,a,w=>KA.Hx.ZR k (l:=r) (by
   unfold KA.dN
   split
   ·exact w
   ·refine KA.Hx.eI ?_
    split
    ·exact w.ahz 0
    ·exact w)
def KA.Hx.AN{n:Int} :∀ {l:List Int} {a:KA},a.Hx n->(l.foldl KA.dt a).Hx n
 | [],_,w=>w
 | x::r,_,w=>KA.Hx.AN (l:=r) (w.dt x)
def KA.Hx.de{a:KA}{n:Int}(w:a.Hx n):∀ k,(a.de k).Hx n
 | 0=>w
 | k+1=>KA.Hx.AN (w.de k)
theorem KA.Hx.dW{a:KA}{n:Int}(w:a.Hx n)(co:Int):(a.dW n co).Hx n:=by
 unfold KA.dW;split
 ·exact KA.Hx.de (KA.Hx.ZR n (w.cm co)) 4
 grind [KA.Hx.cm]
def KA.Hx.cw{a:KA}{n:Int}(w:a.Hx n)(m h:Int):(a.cw m h).Hx n:=fun p h0 h1 h2 h3=>by
 rw[(cW _ _ _ _).1]at h3;rw[(cW _ _ _ _).2.1];exact w p h0 h1 h2 h3
theorem KA.Hx.iW{a:KA}{n:Int}(w:a.Hx n)(m:Int):(a.iW m).Hx n:=fun p h0 h1 h2 h3=>by
 unfold KA.iW at h3 ⊢;split
 ·rename_i c;rw[if_pos c,fp]at h3;by_cases e:p=m
  ·subst e;rw[yb];show((a.u p).bx.send 3).2.first 0=0\/_
   rw[FN];exact w p h0 h1 h2 h3
  ·rw[r9 _ _ e];exact w p h0 h1 h2 h3
 grind [KA.Hx]
theorem KA.Wk.J0{a:KA}(w:a.Wk T)(h0:0<=p/\p<20)(hs:(a.u p).st≠0)(h:a.s.bG (a.s.loc p) 1=p):a.head p=p:=by
 have h1:=(w.lc p h0.1 h0.2).1 hs;have h2:=w.sI.loc p;have h3:=w.sI.at_ p h0.1 h0.2 h1;have e1:a.s.bM p=(a.s.loc p,0):=by unfold Sp.SS.bM;rw[if_neg og,if_neg og]
 unfold KA.head;rw[e1];have e2:a.s.is (a.s.loc p)=0:=by unfold Sp.SS.is;rw[if_neg og,if_pos h3]
 show(a.s.find (a.s.loc p) 1).1=p;unfold Sp.SS.find;grind
def KA.EF(a:KA)(n:Int)(o:Bool):Prop:=(a.u n).bx.first 0≠0/\(o=true\/a.head n≠n)
instance (a:KA) (n:Int) (o:Bool):Decidable (a.EF n o):=by unfold KA.EF;infer_instance
def KA.cD(a:KA)(n:Int)(o:Bool):KA:=if a.EF n o then a.aU n (128+(a.u n).bx.first 0)else a
def KA.sG(a:KA)(n sig:Int)(o:Bool):KA:=if a.aH n=0 then(a.ic n ((a.u n).bx.send sig).2).cD n o else a
theorem Dd(a:KA):∀ k,(a.de k).u=a.u
 | 0=>rfl
 | k+1=>by
  show((Sp.eM (a.de k).s.aa 6).foldl KA.dt (a.de k)).u=a.u;have e:∀ (l:List Int) (x:KA),(l.foldl KA.dt x).u=x.u:=fun l=>by
   induction l with
   | nil=>intro x;rfl
   | cons y r ih=>intro x;rw[List.foldl_cons,ih];rfl
  rw[e];exact Dd a k
theorem J1(h:Int):∀ (l:List Int) (a:KA),(l.foldl (KA.dN h) a).u h=a.u h
 | [],_=>rfl
 | x::r,a=>by
  rw[List.foldl_cons,J1 h r];by_cases e:h=x
  ·unfold KA.dN;rw[if_pos e.symm]
  ·exact xZ a h e
theorem J2(a:KA)(z h:Int):(a.dG z h).u h=a.u h:=by
 unfold KA.dG;rw[Dd];unfold KA.cU;exact J1 h _ a
theorem De(a:KA)(n co:Int):((a.dW n co).u n).st≠1:=by
 grind [nY,KA.dW,J2]
def FP{a:KA}{b:KZ}{c:KC}(w:a.Wk T)(hx:a.Hx n)(hs:(a.u n).st≠1)(q:(kp a b c).aH p=0):(((kp a b c).u p).bx.send 3).2.first 0=0\/(false=false/\(a.s.find (a.s.bM p).1 1).1=p):=by
 obtain⟨h1,h2⟩:=bX (a:=a) (n:=p) q;have fM:p≠n:=by rintro rfl;exact hs h2
 rcases hx p h1.1 h1.2 fM h2 with e | e
 ·left;rw[FN];exact e
 ·exact .inr ⟨rfl,w.J0 h1 og e⟩
def abQ(a:KA)(b:KZ)(c:KC)(p:Int):(if(kp a b c).aH p=0 then(kp a b c).box p (((kp a b c).u p).bx.send 3).2 else kp a b c)=kp (a.iW p) b c:=by
 unfold KA.iW;rw[Yd];split
 ·exact zL a b c p _
 rfl
theorem Ye(a:KA)(p:Int):ka (a.iW p)=ka a:=by
 grind [KA.iW,uT]
theorem np(a:KA)(p:Int):(a.iW p).s=a.s/\(a.iW p).g=a.g/\(a.iW p).v=a.v/\(a.iW p).f=a.f/\(a.iW p).P=a.P/\(a.iW p).O=a.O:=by
 unfold KA.iW;split<;>exact⟨rfl,rfl,rfl,rfl,rfl,rfl⟩
theorem cR.gx{a:KA}{c:KC}{N:Nat}(h:cR a c N T)(n m p:Int):cR ((a.cw n m).iW p) c N T:=⟨h.qO,h.qR,h.F,h.rp,h.rc,h.rl,fun z h0 h1 h2=>h.tb z h0 h1 (by rwa[(np _ _).1]at h2),fun j j0 j1 hj=>by
 have h1:=h.tk j j0 j1 hj
 unfold KA.iW;split
 ·rw[fp,(cW _ _ _ _).1];exact h1
 ·rw[(cW _ _ _ _).1];exact h1⟩
def cR.aeS{a:KA}{c:KC}{N:Nat}(h:cR a c N T){t:SC}(ht:t.toSF=c.q.toSF.vt c.d n):∀ m,0<=m->m<20->t.aa (10+m)=true->((a.cm n co).u m).st=1:=fun m m0 m1 hm=>by
 have hm:t.toSF.aa (10+m)=true:=hm;rw[ht]at hm;obtain⟨h1,h2⟩:=Fa.SF.Ln m0 m1 hm;rw[l8 _ _ h1];exact h.tk m m0 m1 h2
end Go.X.Kn
