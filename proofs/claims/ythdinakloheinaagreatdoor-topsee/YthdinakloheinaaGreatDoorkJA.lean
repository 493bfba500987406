import Derived.Test.YthdinakloheinaaGreatDoorkNFP
import Derived.Lib.SplitLaws
set_option linter.all false
namespace Go.X.Tr
open Go Go.X
variable{i:Int}{bf:Nat}{C D:Nat->Value}
structure WH where
 dy:Int
 node:Int
instance:DecidableEq WH:=fun a b=>if h:a.dy=b.dy/\a.node=b.node then isTrue (by cases a;cases b;simp only at h;rw[h.1,h.2])else isFalse fun e=>h (by rw[e];exact⟨rfl,rfl⟩)
theorem QG{a b:WH} :(a.dy=b.dy/\a.node=b.node)↔a=b:=⟨fun h=>by cases a;cases b;simp only at h;rw[h.1,h.2],fun e=>by rw[e];exact⟨rfl,rfl⟩⟩
def WH.nil:WH:=⟨0,0⟩
abbrev WH.cO(w:WH):Array Value:= #[iI w.dy,iI w.node]
def aZ(w:WH)(i:Nat):Value:=if i=0 then iI w.dy else if i=1 then iI w.node else undef
structure MT where
 at_:WH
 to:WH
def MT.nil:MT:=⟨WH.nil,WH.nil⟩
abbrev MT.cO(m:MT):Array Value:= #[iI m.at_.dy,iI m.at_.node,iI m.to.dy,iI m.to.node]
def fx(m:MT)(i:Nat):Value:=if i=0 then iI m.at_.dy else if i=1 then iI m.at_.node else if i=2 then iI m.to.dy else if i=3 then iI m.to.node else undef
def qc(l:List MT)(z:Int):MT:=l.getD z.toNat MT.nil
def Lj(l:List WH)(z:Int):WH:=l.getD z.toNat WH.nil
def mC(l:List MT)(i:Nat):Value:=fx (qc l ((i/4:Nat):Int)) (i%4)
def wC(l:List WH)(i:Nat):Value:=aZ (Lj l ((i/2:Nat):Int)) (i%2)
def MC(C:Nat->Value)(l:List MT):Prop:=∀ i,i<l.length*4->C i=mC l i
theorem aZ.box(w:WH):∀ i,i<2->cellsOf (WH.cO w) i=aZ w i:=fun i h=>match i,h with
 | 0,_=>rfl
 | 1,_=>rfl
 | j+2,h=>absurd h og
def aZ.agg(w:WH):0+2<=2/\dc (aZ w) 0 2= .agg (WH.cO w):=⟨og,rfl⟩
def aZ.BG(w:WH):0+0<2/\aZ w (0+0)=iI w.dy:=⟨og,rfl⟩
def aZ.Ej(w:WH):0+1<2/\aZ w (0+1)=iI w.node:=⟨og,rfl⟩
theorem aZ.st(w u:WH):0+2<=2/\cB (aZ w) 0 (WH.cO u).toList=aZ u:=by
 refine⟨og,?_⟩;funext i;match i with
 | 0=>rfl
 | 1=>rfl
 | k+2=>
  have e1:∀ w:WH,aZ w (k+2)=undef:=fun w=>by unfold aZ;rw[if_neg og,if_neg og]
  have e2:cB (aZ w) 0 (WH.cO u).toList (k+2)=aZ w (k+2):=by simp[cB,dE]
  rw[e2,e1,e1]
theorem fx.box(m:MT):∀ i,i<4->cellsOf (MT.cO m) i=fx m i:=fun i h=>match i,h with
 | 0,_=>rfl
 | 1,_=>rfl
 | 2,_=>rfl
 | 3,_=>rfl
 | j+4,h=>absurd h og
def fx.lZ(m:MT):0+0+2<=4/\dc (fx m) (0+0) 2= .agg (WH.cO m.at_):=⟨og,rfl⟩
def QH(m:MT):0+2+2<=4/\dc (fx m) (0+2) 2= .agg (WH.cO m.to):=⟨og,rfl⟩
def wN(m:MT):0+0+1<4/\fx m (0+0+1)=iI m.at_.node:=⟨og,rfl⟩
def wO(m:MT):0+2+1<4/\fx m (0+2+1)=iI m.to.node:=⟨og,rfl⟩
theorem fx.st(m u:MT):0+4<=4/\cB (fx m) 0 (MT.cO u).toList=fx u:=by
 refine⟨og,?_⟩;funext i;match i with
 | 0=>rfl
 | 1=>rfl
 | 2=>rfl
 | 3=>rfl
 | k+4=>
  have e1:∀ w:MT,fx w (k+4)=undef:=fun w=>by unfold fx;rw[if_neg og,if_neg og,if_neg og,if_neg og]
  have e2:cB (fx m) 0 (MT.cO u).toList (k+4)=fx m (k+4):=by simp[cB,dE]
  rw[e2,e1,e1]
def aP(bf:Nat)(r:WH)(v:Value)(i:Nat):Value:=if i=0 then aC bf 0 0 else if i=1 then iI r.dy else if i=2 then iI r.node else if i=3 then v else undef
def aP.BG(r:WH)(v:Value):0+0<4/\aP bf r v (0+0)=aC bf 0 0:=⟨og,rfl⟩
def aP.Ej(r:WH)(v:Value):0+1+2<=4/\dc (aP bf r v) (0+1) 2= .agg (WH.cO r):=⟨og,rfl⟩
def F7(r:WH)(v:Value):0+1+1<4/\aP bf r v (0+1+1)=iI r.node:=⟨og,rfl⟩
def kN(r:WH)(v:Value):0+3<4/\aP bf r v (0+3)=v:=⟨og,rfl⟩
def Uq(r u:WH)(v:Value):0+1+2<=4/\cB (aP bf r v) (0+1) (WH.cO u).toList=aP bf u v:=by
 refine⟨og,?_⟩;funext i;match i with
 | 0=>rfl
 | 1=>rfl
 | 2=>rfl
 | 3=>rfl
 | k+4=>
  have e1:∀ r v,aP bf r v (k+4)=undef:=fun r v=>by unfold aP;rw[if_neg og,if_neg og,if_neg og,if_neg og]
  have e2:cB (aP bf r v) (0+1) (WH.cO u).toList (k+4)=aP bf r v (k+4):=by simp[cB,dE]
  rw[e2,e1,e1]
def Dt(r:WH)(v u:Value):0+3<4/\dE (aP bf r v) (0+3) u=aP bf r u:=by
 grind [aP,dE]
abbrev ab0(bf:Nat)(r:WH)(v:Value):Array Value:= #[aC bf 0 0,iI r.dy,iI r.node,v]
theorem aP.box(bf:Nat)(r:WH)(v:Value):∀ i,i<4->cellsOf (ab0 bf r v) i=aP bf r v i:=fun i h=>match i,h with
 | 0,_=>rfl
 | 1,_=>rfl
 | 2,_=>rfl
 | 3,_=>rfl
 | j+4,h=>absurd h og
def ae2(l:List MT)(z:Int)(hz:0<=z)(j:Nat)(hj:j<4):mC l (0+z.toNat*4+j)=fx (qc l z) j:=by
 unfold mC;grind
def MC.ld{l:List MT}(h:MC C l){k:Nat}(hk:l.length<=k)(z:Int)(q:0<=z/\z<l.length):0+z.toNat*4+4<=k*4/\dc C (0+z.toNat*4) 4= .agg (MT.cO (qc l z)):=by
 refine⟨og,?_⟩;have e:=fun j (hj:j<4)=>(h (0+z.toNat*4+j) og).trans (ae2 l z q.1 j hj);simp only[dc,List.range,List.range.loop,List.map_cons,List.map_nil];rw[e 0 og,e 1 og,e 2 og,e 3 og];rfl
def ae3(l:List WH)(z:Int)(hz:0<=z)(j:Nat)(hj:j<2):wC l (0+z.toNat*2+j)=aZ (Lj l z) j:=by
 grind [wC]
def Ur(l:List WH)(z:Int)(q:0<=z/\z<l.length):0+z.toNat*2+2<=l.length*2/\dc (wC l) (0+z.toNat*2) 2= .agg (WH.cO (Lj l z)):=by
 refine⟨og,?_⟩;have e:=fun j (hj:j<2)=>ae3 l z q.1 j hj;simp only[dc,List.range,List.range.loop,List.map_cons,List.map_nil];rw[e 0 og,e 1 og];rfl
def Yi(l:List WH)(n:Nat)(i:Nat)(h:i<n*2):wC (l.take n) i=wC l i:=by
 grind [wC,Lj]
def ab1(l:List WH)(w:WH)(A:Nat->Value)(hA:∀ i,i<2->A i=aZ w i)(i:Nat)(h:i<(l.length+1)*2):wC (l++[w]) i=if i<l.length*2 then wC l i else A (i-l.length*2):=by
 grind [wC,Lj]
def MC.app{l:List MT}(h:MC C l)(m:MT)(h1:∀ i,i<l.length*4->D i=C i)(h2:∀ i,i<1*4->D (l.length*4+i)=fx m i):MC D (l++[m]):=fun i hi=>by
 grind [mC,qc,MC]
def MC.copy{l:List MT}(h:MC C l)(h1:∀ i,i<l.length*4->D i=C i):MC D l:=fun i hi=>(h1 i hi).trans (h i hi)
theorem MC.Oc{l:List MT}(h:MC C l)(n:Nat)(hn:n<l.length)(h1:∀ j,j<n*4->D j=C j)(h2:∀ j,n*4<=j->j<(l.length-1)*4->D j=C (j+4)):MC D (l.eraseIdx n):=fun i hi=>by
 rw[List.length_eraseIdx_of_lt hn]at hi;by_cases c:i<n*4
 ·grind [mC,qc,MC]
 ·rw[h2 i og hi,h (i+4) og];grind [mC,qc]
def ab2(m:MT):∀ i,i<4->cellsOf (MT.cO m) i=fx m i:=fx.box m
def QI(l:List MT)(w:WH):Option WH:=(l.find? fun m=>decide (m.at_=w)).map (·.to)
def ovN(l:List MT):Nat->WH->WH
 | 0,w=>w
 | n+1,w=>match QI l w with
  | some u=>ovN l n u
  | none=>w
def sM(l:List MT)(w:WH):WH:=ovN l 6 w
def BM{l:List MT}{z:Int}(h:0<=z/\z<l.length):l[z.toNat]? =some (qc l z):=by
 grind [qc]
def Us{l:List MT}{w:WH}(h:∀ i:Int,0<=i->i<l.length->(qc l i).at_≠w):QI l w=none:=by
 unfold QI;rw[List.find?_eq_none.2 fun m hm=> ?_]
 ·rfl
 ·obtain⟨i,hi,rfl⟩:=List.mem_iff_getElem.1 hm;have:=h (i:Int) og og;grind [qc]
def Ut{l:List MT}{w:WH}(h0:0<=i/\i<l.length)(h:∀ j:Int,0<=j->j<i->(qc l j).at_≠w)(he:(qc l i).at_=w):QI l w=some (qc l i).to:=by
 unfold QI;have e:l.find? (fun m=>decide (m.at_=w))=some (qc l i):=by
  rw[List.find?_eq_some_iff_getElem];have e:=BM h0;refine⟨by simpa using he,i.toNat,og,?_,fun j hj=> ?_⟩
  ·simp_all
  ·have e2:=BM (l:=l) (z:=(j:Int)) ⟨og,og⟩;grind
 simp_all
theorem Uu{l:List MT}{w:WH}(h:QI l w=none):∀ n,ovN l n w=w
 | 0=>rfl
 | n+1=>by unfold ovN;rw[h]
theorem Uv{l:List MT}{w u:WH}(h:QI l w=some u)(n:Nat):ovN l (n+1) w=ovN l n u:=by
 grind [ovN]
def dd:ByteArray:=⟨#[46,46]⟩
def ig:ByteArray:=⟨#[47]⟩
def ea(s:ByteArray):List ByteArray:=Lib.splitB ig 0 (Lib.countB s ig) s
def wP(s:ByteArray):Bool:=decide (s=dd)||jW s
def iQ(p:ByteArray):Int:=if 60<p.size\/p=⟨#[]⟩\/p.get! 0≠47 then 9 else if p=ig then 0 else if(ea (p.extract 1 p.size)).all wP=true then 0 else 9
def bW(p:ByteArray):List ByteArray:=if iQ p=0/\p≠ig then ea (p.extract 1 p.size)else []
def jZ(l:List WH):WH:=Lj l ((l.length:Int)-1)
def wk(F:FF)(l:List MT):List WH->List ByteArray->Int×WH
 | cC,[]=>(0,jZ cC)
 | cC,s::r=>if s=dd then wk F l (if 1<cC.length then cC.take (cC.length-1)else cC) r else if F.fC (jZ cC).node s≠0 then(F.fC (jZ cC).node s,WH.nil)else
   wk F l (cC++[sM l ⟨(jZ cC).dy,F.bK (jZ cC).node s⟩]) r
def z8(F:FF)(l:List MT)(r:WH)(ns:List ByteArray):Int×WH:=wk F l [sM l r] ns
def Uw(F:FF)(l:List MT)(r:WH)(p:ByteArray):Int:=if iQ p≠0 then iQ p else(z8 F l r (bW p)).1
def Ki(F:FF)(l:List MT)(r:WH)(p:ByteArray):WH:=if iQ p≠0 then WH.nil else(z8 F l r (bW p)).2
def ng(ns:List ByteArray):ByteArray:=ke ns ((ns.length:Int)-1)
def j7(ns:List ByteArray):List ByteArray:=ns.take (ns.length-1)
def HI(F:FF)(l:List MT)(r:WH)(p:ByteArray):Int:=if iQ p≠0 then iQ p else if(bW p).length=0 then 0 else if ng (bW p)=dd then 9 else if(z8 F l r (j7 (bW p))).1≠0 then(z8 F l r (j7 (bW p))).1 else F.fC (z8 F l r (j7 (bW p))).2.node (ng (bW p))
def Bp(F:FF)(l:List MT)(r:WH)(p:ByteArray):WH:=if HI F l r p≠0 then WH.nil else if(bW p).length=0 then r else⟨(z8 F l r (j7 (bW p))).2.dy,F.bK (z8 F l r (j7 (bW p))).2.node (ng (bW p))⟩
def yw(F:FF)(l:List MT)(r:WH)(p:ByteArray):Int:=if iQ p≠0 then iQ p else if(bW p).length=0\/ng (bW p)=dd then 9 else(z8 F l r (j7 (bW p))).1
def tV(F:FF)(l:List MT)(r:WH)(p:ByteArray):WH:=if yw F l r p≠0 then WH.nil else(z8 F l r (j7 (bW p))).2
def qN(F:FF)(l:List MT)(r:WH)(p:ByteArray):ByteArray:=if yw F l r p≠0 then⟨#[]⟩else ng (bW p)
def wQ(F:FF)(w:WH):Int:=if F.cx w.node 0≠0 then F.cx w.node 0 else if F.aU w.node≠2\/F.dy w.node≠w.dy then 11 else 0
def Kj(l:List MT)(w:WH):Bool:=l.any fun m=>decide (m.at_=w)
def tW(F:FF)(l:List MT)(at_ to:WH):Int:=if wQ F at_≠0 then wQ F at_ else if wQ F to≠0 then wQ F to else if at_=to then 8 else if Kj l at_=true then 3 else if l.length=6 then 4 else 0
def o4(F:FF)(l:List MT)(at_ to:WH):List MT:=if tW F l at_ to=0 then l++[⟨at_,to⟩]else l
def qP(F:FF)(l:List MT)(at_ to:WH):FF:=if tW F l at_ to=0 then(F.dP at_.node).dP to.node else F
def tX(l:List MT)(w:WH):Nat:=l.findIdx fun m=>decide (m.at_=w)
def yx(l:List MT)(w:WH):Int:=if tX l w<l.length then 0 else 2
def mP(l:List MT)(w:WH):List MT:=l.eraseIdx (tX l w)
def pK(F:FF)(l:List MT)(w:WH):FF:=if tX l w<l.length then(F.kz (qc l (tX l w)).at_.node).kz (qc l (tX l w)).to.node else F
def yy(F:FF):List MT->FF
 | []=>F
 | m::r=>yy ((F.dP m.at_.node).dP m.to.node) r
def Du(F:FF):List MT->FF
 | []=>F
 | m::r=>Du ((F.kz m.at_.node).kz m.to.node) r
def On(F:FF)(l:List MT)(r:WH):FF:=yy (F.dP r.node) l
def BN(F:FF)(l:List MT)(r:WH):FF:=(Du F l).kz r.node
def Oo{P:Program}{n:Fr}{L:PF}{ty:TypeId}{pos:String}{af:Array Edge}{d:Nat}{t t':TypeId}{x y:Operand}{a b:WH}{φ:World->Prop}{gd:Option (Nat×Bool)}(hx:ev L x=some (.agg (WH.cO a)))(hy:ev L y=some (.agg (WH.cO b)))
  (hP:(P.underlying t=some (.struct (P.fieldsOf t))/\P.stoodInHeld t=false)/\P.eqGuardType P.depth t=false/\two P t=true):bd P n L φ ⟨some d,.binOp .eql t x y t',ty,pos,af,gd⟩ (.bool (decide (a=b))):=by grind [aeq,QG]
def Kk{x:ByteArray}(h:60<x.size\/x=⟨#[]⟩\/x.get! 0≠47):iQ x=9:=by grind [iQ]
def HJ{x:ByteArray}(h:x=ig):iQ x=0/\bW x=[]:=by
 subst h;have e:iQ ig=0:=by
  rfl
 grind [bW]
theorem Yj{l:List ByteArray}{y:ByteArray}(h:y∈l):∃ i:Int,0<=i/\i<l.length/\ke l i=y:=by
 obtain⟨i,hi,rfl⟩:=List.mem_iff_getElem.1 h;exact⟨(i:Int),og,og,by unfold ke;simp[hi]⟩
theorem My{x:ByteArray}(hc:¬(60<x.size\/x=⟨#[]⟩\/x.get! 0≠47))(hs:¬x=ig)(hi:0<=i/\i<(ea (x.extract 1 x.size)).length)(h:wP (ke (ea (x.extract 1 x.size)) i)=false):iQ x=9:=by
 grind [iQ,ke]
def Kl{x:ByteArray}(hc:¬(60<x.size\/x=⟨#[]⟩\/x.get! 0≠47))(hs:¬x=ig)(h:∀ i:Int,0<=i->i<(ea (x.extract 1 x.size)).length->wP (ke (ea (x.extract 1 x.size)) i)=true):iQ x=0/\bW x=ea (x.extract 1 x.size):=by
 grind [iQ,Yj,bW]
def QJ{ns:List ByteArray}{n:Nat}(hn:n<=ns.length)(h:0<=i/\i<n):(ns.take n).drop i.toNat=ke ns i::(ns.take n).drop (i+1).toNat:=by
 grind [List.drop_eq_getElem_cons,ke]
section
variable {F:FF} {l:List MT} {cC:List WH} {s:ByteArray} {r a:List ByteArray}
theorem ae4(h:a=s::r)(hd:s=dd)(hl:1<cC.length):wk F l cC a=wk F l (cC.take (cC.length-1)) r:=by
 grind [wk]
theorem Yk(h:a=s::r)(hd:s=dd)(hl:¬ 1<cC.length):wk F l cC a=wk F l cC r:=by
 grind [wk]
theorem Yl(h:a=s::r)(hd:¬s=dd)(he:F.fC (jZ cC).node s=0):wk F l cC a=wk F l (cC++[sM l ⟨(jZ cC).dy,F.bK (jZ cC).node s⟩]) r:=by
 grind [wk]
theorem ab3(h:a=s::r)(hd:¬s=dd)(he:¬F.fC (jZ cC).node s=0):wk F l cC a=(F.fC (jZ cC).node s,WH.nil):=by
 grind [wk]
def ab4{ns:List ByteArray}{n:Nat}(hn:n<=ns.length):wk F l cC ((ns.take n).drop ((n:Int)).toNat)=(0,jZ cC):=by
 grind [List.drop_of_length_le,wk]
end
theorem ahM(b:Nat)(e:TypeId)(w:WH):aK.row (.slice (some ⟨b,0,none⟩) 1 1) e 2 1 #[Value.int .i64 w.dy,iI w.node].toList=aS (some ⟨b,0,none⟩) 1 e 2 1 (wC [w]):=by
 rfl
theorem ahN(g:Nat)(e:TypeId)(a b:WH):aK.row (.slice (some ⟨g,0,none⟩) 2 2) e 2 2 #[Value.int .i64 a.dy,iI a.node,iI b.dy,iI b.node].toList=aS (some ⟨g,0,none⟩) 2 e 2 2 (wC [a,b]):=by
 rfl
theorem aak{l:List MT}(h:0<=i/\i<l.length):l.drop i.toNat=qc l i::l.drop (i+1).toNat:=by
 grind [List.drop_eq_getElem_cons,qc]
theorem Mz{F:FF}{l:List MT}(h:0<=i/\i<l.length):yy F (l.drop i.toNat)=yy ((F.dP (qc l i).at_.node).dP (qc l i).to.node) (l.drop (i+1).toNat):=by
 rw[aak h];rfl
theorem QK{F:FF}{l:List MT}(h:0<=i/\i<l.length):Du F (l.drop i.toNat)=Du ((F.kz (qc l i).at_.node).kz (qc l i).to.node) (l.drop (i+1).toNat):=by
 rw[aak h];rfl
theorem QL{F:FF}{l:List MT} :yy F (l.drop ((l.length:Int)).toNat)=F:=by
 grind [List.drop_of_length_le,yy]
theorem Ux{F:FF}{l:List MT} :Du F (l.drop ((l.length:Int)).toNat)=F:=by
 grind [List.drop_of_length_le,Du]
theorem A3{l:List MT}{w:WH}(h:∀ i:Int,0<=i->i<l.length->(qc l i).at_≠w):Kj l w=false:=by
 unfold Kj;rw[List.any_eq_false];intro m hm;obtain⟨i,hi,rfl⟩:=List.mem_iff_getElem.1 hm;have:=h (i:Int) og og;grind [qc]
theorem MA{l:List MT}{w:WH}(h0:0<=i/\i<l.length)(he:(qc l i).at_=w):Kj l w=true:=by
 grind [Kj,qc]
def MB{l:List MT}{w:WH}(h0:0<=i/\i<l.length)(h:∀ j:Int,0<=j->j<i->(qc l j).at_≠w)(he:(qc l i).at_=w):tX l w=i.toNat:=by
 unfold tX;rw[List.findIdx_eq og];have e:=BM h0;rw[List.getElem?_eq_getElem og,Option.some.injEq]at e;refine⟨by rw[e];simpa using he,fun j hj=> ?_⟩;have e2:=BM (l:=l) (z:=(j:Int)) ⟨og,og⟩;grind
def MD{l:List MT}{w:WH}(h:∀ i:Int,0<=i->i<l.length->(qc l i).at_≠w):tX l w=l.length:=by
 unfold tX;rw[List.findIdx_eq_length];intro m hm;obtain⟨i,hi,rfl⟩:=List.mem_iff_getElem.1 hm;have:=h (i:Int) og og;grind [qc]
def C0:Nat->Value:=fun _=>undef
def ae5:RV.ok ⟨none,0,0,([]:List MT).length,0,C0⟩:=.inl ⟨rfl,rfl⟩
theorem Aa{F:FF}{l:List MT}{a z:WH}(hi:0<=i/\i<2)(hda:1<=i->wQ F a=0)(h:wQ F (Lj [a,z] i)≠0):tW F l a z=wQ F (Lj [a,z] i):=by
 grind [tW,Lj]
def Uy{F:FF}{d:Int->Nat}{B:Int}(h:F.Ok d B)(l:List MT)(a z:WH):(qP F l a z).Ok d (B+2):=by
 unfold qP;split
 ·have:=(h.dP a.node).dP z.node;grind
 ·exact⟨h.dS,fun n a b=>Int.le_trans (h.bj n a b) og,by have:=h.nn;omega⟩
def Ym{F:FF}{d:Int->Nat}{B:Int}(h:F.Ok d B)(l:List MT)(w:WH):(pK F l w).Ok d (B+2):=by
 unfold pK;split
 ·have:=(h.kz (qc l (tX l w)).at_.node).kz (qc l (tX l w)).to.node;grind
 ·exact⟨h.dS,fun n a b=>Int.le_trans (h.bj n a b) og,by have:=h.nn;omega⟩
end Go.X.Tr

namespace Go.X.Kn
open Go Go.X Go.X.Fa Go.X.Sg Go.X.Sp Go.X.Tr Go.X.Vm
variable{B T co i m n p z:Int}{f:Int->Int}
structure PA where
 st:Int
 aA:Int
 kx:Int
 jF:Int
 fd:Int->Int
 bx:BS
def PA.nil:PA:=⟨0,0,0,0,fun _=>0,BS.cP⟩
structure KA where
 u:Int->PA
 g:Gr.TG
 s:Sp.SS
 aO:Int->Nat
 v:VB
 f:Nat->Vm.MS
 P:Tr.PS
 O:Tr.OS
structure TB where
 b:Nat
 r:WH
 l:List MT
 p:Option Addr
 cap:Nat
 k:Nat
 c:Nat
 C:Nat->Value
structure TB.Ok (t:TB):Prop where
 rv:RV.ok ⟨t.p,t.cap,t.k,t.l.length,t.c,t.C⟩
 mc:MC t.C t.l
 len:t.l.length<=6
structure KZ where
 kb:Nat
 gb:Nat
 sb:Nat
 qb:Nat
 bb:Nat
 tb:Nat
 pi:Nat
 ob:Nat
 vp:Nat
structure KC where
 mb:Nat->Nat
 pp:Nat->Option Addr
 cc:Nat->Nat
 q:SC
 d:Int->Nat
 F:FC
 dF:Int->Nat
 rp:Option Addr
 rc:Nat
 rl:List Int
 t:Nat->TB
def PA.pu(p:PA)(b:Nat):PU:=⟨p.st,p.aA,p.kx,p.jF,if p.st=0 then .pointer none else aC b 0 0,p.fd,p.bx⟩
def kp(a:KA)(b:KZ)(c:KC):KP:=⟨fun n=>(a.u n).pu (c.mb n.toNat),b.gb,b.sb,b.qb,b.bb,b.tb,b.pi,b.ob,fun z=>if a.s.aa z then aC (c.t z.toNat).b 0 0 else .pointer none⟩
def o5(a:KA)(b:KZ)(c:KC)(h:(a.u n).st≠0:=by omega):((kp a b c).u n).mem=aC (c.mb n.toNat) 0 0:=by
 show(if(a.u n).st=0 then Value.pointer none else aC (c.mb n.toNat) 0 0)=_;simp_all
theorem KP.ext{k k':KP}(hu:∀ n,k.u n=k'.u n)(hm:k.ms=k'.ms)(h:(k.gb=k'.gb/\k.sb=k'.sb/\k.qb=k'.qb/\k.bb=k'.bb)/\k.tb=k'.tb/\k.pi=k'.pi/\k.ob=k'.ob):k=k':=by
 cases k;cases k';obtain⟨⟨h1,h2,h3,h4⟩,h5,h6,h7⟩:=h;simp only at hm h1 h2 h3 h4 h5 h6 h7 hu;have e:=funext hu;simp_all
theorem Uz(a:KA)(b:KZ)(c:KC)(n:Int)(p:PA):(kp a b c).put n (p.pu (c.mb n.toNat))=kp {a with u:=ae a.u n p} b c:=by
 refine KP.ext (fun m=> ?_) rfl ⟨⟨rfl,rfl,rfl,rfl⟩,rfl,rfl,rfl⟩;grind [KP.sx,au,KP.zQ,ai,kp]
def HK(a:KA)(b:KZ)(c:KC)(n:Int)(p:PA)(u:PU)(h:u=p.pu (c.mb n.toNat)):(kp a b c).put n u=kp {a with u:=ae a.u n p} b c:=by rw[h,Uz]
def iR(a:KA):Nat->Bool:=fun j=>decide (j<20/\(a.u (j:Int)).st≠0)
def fv{a:KA}(h:0<=n/\n<20)(hs:(a.u n).st≠0:=by omega):iR a n.toNat=true:=by
 grind [iR]
def u6{a a':KA}(h:∀ n,0<=n->n<20->((a.u n).st=0↔(a'.u n).st=0)):iR a=iR a':=by
 grind [iR]
def UA{a:KA}{p:PA}(h:0<=n/\n<20)(hp:p.st=0):iR {a with u:=ae a.u n p} =iS (iR a) n.toNat:=by
 grind [jl,iR,au,ai]
def Oq{a:KA}{p:PA}(h:0<=n/\n<20)(hp:p.st≠0):iR {a with u:=ae a.u n p} =Bg (iR a) n.toNat:=by
 grind [jA,iR,au,ai]
def kG(a:KA):Nat->Bool:=fun j=>decide (j<6)&&a.s.aa (j:Int)
theorem BO{a:KA}{j:Nat} :kG a j=true↔j<6/\a.s.aa (j:Int)=true:=by simp[kG]
def dU{a:KA}(h:0<=z/\z<6)(hs:a.s.aa z=true):kG a z.toNat=true:=by grind [kG]
abbrev cT(tb:Nat)(t:Nat->TB):Nat->Nat->Value:=fun z=>Tr.aP tb (t z).r (.slice (t z).p (t z).l.length (t z).c)
abbrev rT(e:TypeId)(t:Nat->TB):Nat->pQ:=fun z=>⟨.slice (t z).p (t z).k (t z).cap,e,4,(t z).k,bV (t z).C ((t z).k*4)⟩
abbrev Km(P:Nat->Bool)(tb:Nat)(e:TypeId)(t:Nat->TB):List aK:=[.dN P (fun z=>(t z).b) 4 (cT tb t),.aV P (rT e t)]
abbrev UB(tb:Nat)(e:TypeId)(t:TB):List aK:=[.cells t.b 0 4 (Tr.aP tb t.r (.slice t.p t.l.length t.c)),aS t.p t.cap e 4 t.k t.C]
theorem ab5(tb:Nat)(t:Nat->TB)(z:Nat)(m:TB):IP (cT tb t) z (Tr.aP tb m.r (.slice m.p m.l.length m.c))=cT tb (bF t z m):=by
 grind [GS,GU,bF]
theorem ab6(e:TypeId)(t:Nat->TB)(z:Nat)(m:TB):xe (rT e t) z ⟨.slice m.p m.k m.cap,e,4,m.k,bV m.C (m.k*4)⟩=rT e (bF t z m):=by
 grind [pt,lE,bF]
theorem ab7(t:Nat->TB)(z:Nat)(m:TB):Ep (fun z=>(t z).b) z m.b=fun j=>(bF t z m j).b:=by
 grind [Bx,rj,bF]
section
variable {W w:World} {S:Nat->Nat->Prop} {H H0:List aK} {tb:Nat} {e:TypeId} {t:Nat->TB} {P:Nat->Bool}
def gG{z:Nat}(hz:P z=true)(hp:cI H0 (Km P tb e t) H)(h:XM W S H0 w):XM W S (.cells (t z).b 0 4 (Tr.aP tb (t z).r (.slice (t z).p (t z).l.length (t z).c))::aS (t z).p (t z).cap e 4 (t z).k (t z).C:: .dN (iS P z) (fun z=>(t z).b) 4 (cT tb t):: .aV (iS P z) (rT e t)::H) w:=by
 have h0:XM W S (.dN P (fun z=>(t z).b) 4 (cT tb t):: .aV P (rT e t)::H) w:=h.b8 hp.b8;have h1:=Cf z hz h0;have h2:=h1.b8 (pk [2]).b8;simp only[List.cons_append,List.nil_append]at h2;have h3:=oe z hz h2;have h4:=h3.b8 (pk [2,0,1,0]).b8;simp_all
def HL{z:Nat}(m:TB)(hz:P z=false)(hp:cI H0 (UB tb e m++Km P tb e t) H)(h:XM W S H0 w):XM W S (Km (Bg P z) tb e (bF t z m)++H) w:=by
 have h:XM W S (.cells m.b 0 4 (Tr.aP tb m.r (.slice m.p m.l.length m.c))::aS m.p m.cap e 4 m.k m.C:: .dN P (fun z=>(t z).b) 4 (cT tb t):: .aV P (rT e t)::H) w:=h.b8 hp.b8;have h0:=h.b8 (pk [0,1]).b8;simp only[List.cons_append,List.nil_append]at h0;have h1:=Fc z og hz h0;have h2:=h1.b8 (pk [1,1]).b8;simp only[List.cons_append,List.nil_append]at h2;have h3:=qk (x:=⟨.slice m.p m.k m.cap,e,4,m.k,bV m.C (m.k*4)⟩) z hz h2;have h4:=h3.b8 (pk [1,0]).b8;simp_all[ab5,ab6,ab7]
def yz{z:Nat}(m:TB)(hz:P z=true)(hp:cI H0 (UB tb e m++Km (iS P z) tb e t) H)(h:XM W S H0 w):XM W S (Km P tb e (bF t z m)++H) w:=by
 have h1:=HL m (uB _ _) hp h;grind [Fb]
def gz{z:Nat}(hz:P z=true)(hp:cI H0 (UB tb e (t z)++Km (iS P z) tb e t) H)(h:XM W S H0 w):XM W S (Km P tb e t++H) w:=by
 have h1:=yz (t z) hz hp h;rwa[kj]at h1
def QM{z:Nat}(m:TB)(hp:cI H0 (UB tb e m) H)(h:XM W S H0 w):XM W S (Km (Bg (fun _=>false) z) tb e (bF (fun _=>m) z m)++H) w:=by
 have h0:XM W S (UB tb e m++H) w:=h.b8 hp.b8;have h1:XM W S (.dN (fun _=>false) (fun _=>m.b) 4 (cT tb fun _=>m):: .aV (fun _=>false) (rT e fun _=>m):: .cells m.b 0 4 (Tr.aP tb m.r (.slice m.p m.l.length m.c))::aS m.p m.cap e 4 m.k m.C::H) w:=Cg (Fe h0);exact HL m rfl (pk [2,2,0,0]) h1
end
structure KA.Wk (a:KA) (T:Int):Prop where
 T0:0<=T/\T<=1000000
 gI:a.g.Inv
 gS:a.g.bM (1000*T)
 sI:a.s.Inv a.aO
 sys:Vm.Sys a.v a.f 20
 tY:∀ n,0<=n->n<20->(a.u n).st≠1->a.f n.toNat=Vm.MS.nil
 PI:a.P.Inv T
 OI:a.O.Inv T
 lc:∀ n,0<=n->n<20->((a.u n).st≠0↔0<=a.s.loc n)
 st:∀ n,(a.u n).st=0\/(a.u n).st=1\/(a.u n).st=2
 out:∀ n,(n<0\/20<=n)->a.u n=PA.nil
 fd:∀ n i,0<=(a.u n).fd i/\(a.u n).fd i<=24
 bx:∀ n,(a.u n).bx.dY 0=false
structure cH (a:KA) (c:KC) (N:Nat) (T:Int):Prop where
 qO:c.q.toSF.Ok c.d N N
 qR:c.q.lX
 F:c.F.toFF.Ok c.dF T
 rp:c.F.rP=c.rp
 rc:c.F.rC=c.rc
 rl:c.F.roots=c.rl
 tb:∀ z,0<=z->z<6->a.s.aa z=true->(c.t z.toNat).Ok
 tk:∀ n,0<=n->n<20->c.q.aa (10+n)=true->(a.u n).st=1
theorem FF.Ok.up{s:Tr.FF}{d:Int->Nat}{B':Int}(h:s.Ok d B)(hB:B<=B'):s.Ok d B':=⟨h.dS,fun n a b=>Int.le_trans (h.bj n a b) hB,Int.le_trans h.nn hB⟩
theorem KA.Wk.up{a:KA}{T':Int}(h:a.Wk T)(hT:T<=T')(QN:T'<=1000000):a.Wk T':=⟨⟨by have:=h.T0;omega,QN⟩,h.gI,h.gS.mono og,h.sI,h.sys,h.tY,h.PI.mono hT,h.OI.mono hT,h.lc,h.st,h.out,h.fd,h.bx⟩
theorem cH.up{a:KA}{c:KC}{N N':Nat}{T T':Int}(h:cH a c N T)(hN:N<=N')(hT:T<=T'):cH a c N' T':=⟨h.qO.mono hN og,h.qR,FF.Ok.up h.F hT,h.rp,h.rc,h.rl,h.tb,h.tk⟩
def cH.sh{a:KA}{c:KC}{N:Nat}{T:Int}(h:cH a c N T)(hT:T<=1000000):c.F.toFF.Sh:=h.F.sh hT
def QO(s:Tr.FF)(n m:Int):(s.kz n).bj m<=s.bj m\/(s.kz n).bj m=0:=by
 unfold Tr.FF.kz;split
 ·have e:ae s.bj n (s.bj n-1) m<=s.bj m:=by
   grind [au,ai]
  unfold Tr.FF.qL;split
  ·by_cases c:m=n
   ·right;subst c;exact au _ _ _
   ·left;exact Int.le_trans (Int.le_of_eq (ai _ _ c)) e
  simp_all
 omega
theorem FF.Ok.Yn{s:Tr.FF}{d:Int->Nat}(h:s.Ok d B)(n:Int):(s.kz n).Ok d B:=
 ⟨(h.kz n).dS,fun m a b=>by
  have h1:=h.bj m a b
  have h2:=h.nn
  rcases QO s n m with q | q<;>omega,h.nn⟩
def FF.Ok.aal:∀ (l:List MT) {s:Tr.FF} {d:Int->Nat} {B:Int},s.Ok d B->(Du s l).Ok d B
 | [],_,_,_,h=>h
 | m::r,_,_,_,h=>FF.Ok.aal r (FF.Ok.Yn (FF.Ok.Yn h _) _)
def FF.Ok.Yo{s:Tr.FF}{d:Int->Nat}(h:s.Ok d B)(l:List MT)(r:WH):(BN s l r).Ok d B:=FF.Ok.Yn (FF.Ok.aal l h) _
theorem FF.Ok.tZ{s:Tr.FF}{d:Int->Nat}(h:s.Ok d B)(O:Tr.OS)(n:Int):(mI s O n).Ok d B:=by
 unfold mI;split;all_goals grind [FF.Ok.Yn]
theorem OS.Inv.tZ{O:Tr.OS}{J:Int}(h:O.Inv J)(n:Int):(kB O n).Inv J:=by
 have hm:=h.close n;refine⟨fun m a b=> ?_,hm.at_,hm.aU,hm.cg⟩;have h1:=(hm.cG m a b).1;have h2:=(h.cG m a b);refine⟨h1,?_⟩;unfold kB;split
 ·omega
 ·split
  ·show ae O.cG n (O.cG n-1) m<=J;grind [au,ai]
  ·show ae O.cG n 0 m<=J;grind [au,ai]
theorem UC{P:Tr.PS}{K:Int}(h:P.Inv K)(n:Int)(w:Bool):(P.mm n w (-1)).2.Inv K:=by
 have hm:=Tr.PS.Uo (n:=n) (w:=w) h (.inr rfl);have iJ:∀ m k,(P.mm n w (-1)).2.e m k<=P.e m k:=fun m k=>by
  unfold Tr.PS.mm;split
  ·simp_all
  ·split;all_goals grind [cr]
 exact⟨fun m=>⟨(hm.e0 m).1,Int.le_trans (iJ m 0) (h.e0 m).2⟩,fun m=>⟨(hm.e1 m).1,Int.le_trans (iJ m 1) (h.e1 m).2⟩,hm.cl,hm.len⟩
theorem PS.tZ{P:Tr.PS}{K:Int}(h:P.Inv K)(O:Tr.OS)(n:Int):(kA P O n).Inv K:=by
 unfold kA;split;all_goals grind [UC]
theorem ua{g:Gr.TG}(h:g.Inv)(hS:g.bM B)(n p m:Int):(g.fa n p m).bM B:=by
 have hI:=h.fa n p m;intro y y0 y1;have h1:=hS y y0 y1;unfold Gr.TG.fa at hI ⊢;split
 ·rename_i c;rw[if_pos c]at hI;obtain⟨⟨n0,n1,n2⟩,p0,p1,m0,m1⟩:=Gr.TG.xH c;have hw:=h.ok.cC n0 n1 n2;show-B<=g.pr y+ -p*((g.cC n).count y:Int)/\g.pr y+ -p*((g.cC n).count y:Int)<=B/\ -B<=g.pg y+ -m*((g.cC n).count y:Int)/\g.pg y+ -m*((g.cC n).count y:Int)<=B;have k0:(0:Int)<=((g.cC n).count y:Int):=og;have e1:0<=p*((g.cC n).count y:Int):=Int.mul_nonneg og k0;have e2:0<=m*((g.cC n).count y:Int):=Int.mul_nonneg og k0;have e3: -p*((g.cC n).count y:Int)= -(p*((g.cC n).count y:Int)):=Int.neg_mul _ _;have e4: -m*((g.cC n).count y:Int)= -(m*((g.cC n).count y:Int)):=Int.neg_mul _ _;by_cases q:y∈g.cC n
  ·have hn:=hI.nn y0 y1 (hw.2.2 y q);have hn1:0<=g.pr y+ -p*((g.cC n).count y:Int)/\0<=g.pg y+ -m*((g.cC n).count y:Int):=hn;omega
  grind
 omega
theorem ks{f:Int->Int}{x:Int} :∀ {k:Nat},x∈dQ f k↔∃ j:Int,0<=j/\j<k/\0<=f j/\f j=x
 | 0=>by simp[dQ];omega
 | k+1=>by
  rw[dQ,List.mem_append,ks];constructor
  ·rintro(⟨j,a,b,c,d⟩ | h)
   ·exact⟨j,a,og,c,d⟩
   ·split at h
    ·rename_i q;exact⟨k,og,og,q,(List.mem_singleton.1 h).symm⟩
    ·cases h
  ·rintro⟨j,a,b,c,d⟩;by_cases e:j=(k:Int)
   ·subst e;right;rw[if_pos c];exact List.mem_singleton.2 d.symm
   ·exact .inl ⟨j,a,og,c,d⟩
def o6{f:Int->Int}(hi:∀ q q',0<=f q->f q'=f q->q'=q):∀ k:Nat,(dQ f k).Nodup
 | 0=>List.nodup_nil
 | k+1=>by
  rw[dQ];split
  ·rename_i c;refine List.nodup_append.2 ⟨o6 hi k,List.nodup_cons.2 ⟨sq,List.nodup_nil⟩,fun x hx y hy=> ?_⟩;rw[List.mem_singleton.1 hy];rintro rfl;obtain⟨j,a,b,_,d⟩:=ks.1 hx;grind
  ·rw[List.append_nil];exact o6 hi k
theorem yA{s:Sp.SS}{aO:Int->Nat}(h:s.Inv aO)(z:Int):(s.mem z).1.Nodup:=by
 unfold Sp.SS.mem;split
 ·simp_all
 ·exact o6 (fun q q' a b=>h.inj z q q' a b) 21
theorem pL(s:Sp.SS)(z:Int):(s.drop z).2.loc=s.loc:=by
 unfold Sp.SS.drop;grind
def HM{s:Sp.SS}(hp:0<=p/\p<20):(s.fB p).2.loc p<0:=by
 unfold Sp.SS.fB;split
 ·rename_i c;unfold Sp.SS.bI at c;grind
 ·show ae s.loc p (-1) p<0;grind [au]
theorem ub(s:Sp.SS)(h:m≠p):(s.fB p).2.loc m=s.loc m:=by
 unfold Sp.SS.fB;split
 ·rfl
 ·exact ai _ _ h
theorem SS.rY(s:Sp.SS)(z:Int):((s.drop z).1≠0/\(s.drop z).2=s)\/((s.drop z).1=0/\(0<=z/\z<6)/\z≠0/\s.aa z=true/\(s.drop z).2= {s with aa:=ae s.aa z false,aA:=ae s.aA z 0} /\(∀ j,s.bR z j<0\/¬(0<=j/\j<21))/\∀ j:Int,0<=j->j<6->¬(s.aa j=true/\s.aA j=z)):=by
 by_cases h:(s.drop z).1=0
 ·right;refine⟨h,?_⟩;unfold Sp.SS.drop at h ⊢;split at h
  ·omega
  ·rename_i c;have hi:(0<=z/\z<6)/\s.aa z=true:=by
    have c:s.is z=0:=og;unfold Sp.SS.is at c;grind
   rw[if_neg c];split at h
   ·omega
   ·rename_i d;rw[if_neg d];split at h
    ·omega
    ·rename_i e;refine⟨hi.1,fun q=>d (.inl q),hi.2,rfl,fun j=> ?_,fun j j0 j1 q=> ?_⟩
     ·by_cases q:0<=j/\j<21
      ·left;refine Decidable.byContradiction fun r=>d (.inr ?_);have:s.bR z j∈s.dw z:=ks.2 ⟨j,og,og,og,rfl⟩;simp_all
      omega
     ·unfold Sp.SS.kids at e;have:=qE e j j0 og;simp_all
 grind [L7]
def EV(f:Int->Int)(i:Int):Int->Int:=fun j=>if 0<=j/\j<i/\f j>0 then 0 else f j
theorem ae6(f:Int->Int):EV f 0=f:=by funext j;unfold EV;rw[if_neg og]
theorem Yp(f:Int->Int)(hi:0<=i)(h:f i>0):ae (EV f i) i 0=EV f (i+1):=by
 grind [EV,ae]
theorem UD(f:Int->Int)(h:¬f i>0):EV f i=EV f (i+1):=by
 grind [EV]
def Dv(f:Int->Int)(O:Tr.OS)(P:Tr.PS):Nat->Tr.OS×Tr.PS
 | 0=>(O,P)
 | k+1=>if f (k:Int)>0 then(kB (Dv f O P k).1 (f (k:Int)-1),kA (Dv f O P k).2 (Dv f O P k).1 (f (k:Int)-1))else Dv f O P k
theorem Yq(O:Tr.OS)(P:Tr.PS)(hi:0<=i)(h:f i>0):Dv f O P (i+1).toNat=(kB (Dv f O P i.toNat).1 (f i-1),kA (Dv f O P i.toNat).2 (Dv f O P i.toNat).1 (f i-1)):=by
 rw[show(i+1).toNat=i.toNat+1 by omega];grind [Dv]
theorem UE(O:Tr.OS)(P:Tr.PS)(hi:0<=i)(h:¬f i>0):Dv f O P (i+1).toNat=Dv f O P i.toNat:=by
 rw[show(i+1).toNat=i.toNat+1 by omega];grind [Dv]
def yB{f:Int->Int}{O:Tr.OS}{P:Tr.PS}{T:Int}(hO:O.Inv T)(hP:P.Inv T):∀ k:Nat,(Dv f O P k).1.Inv T/\(Dv f O P k).2.Inv T
 | 0=>⟨hO,hP⟩
 | k+1=>by
  obtain⟨h1,h2⟩:=yB (f:=f) hO hP k;grind [Dv,OS.Inv.tZ,PS.tZ]
abbrev KA.um(a:KA)(n:Int):Int×Int×VB×Vm.MS:=(a.f n.toNat).fJ a.v 0 16
def QP{m:Vm.MS}(h:m.Ok)(v:VB):(m.fJ v 0 16).2.2.2=Vm.MS.nil:=by
 unfold Vm.MS.fJ;rw[if_neg dq];have e:∀ {α:Type} (f:Int->α) (v:α),(∀ i,i<0\/16<=i->f i=v)->gR f 0 16 v=fun _=>v:=fun f v h=>by
  funext i;unfold gR;split;all_goals grind
 have h1:∀ i,i<0\/16<=i->m.fr i=0:=fun i hi=>h.un i (h.f.out i hi);show Vm.MS.mk _ _ _=_;rw[e m.aB 0 h.f.out,e m.fr 0 h1,e m.bu false fun i hi=>h.ow i (h1 i hi)];rfl
def KA.cD(a:KA)(n co:Int):KA:=
 {a with u:=ae a.u n {a.u n with st:=2,jF:=co,fd:=EV (a.u n).fd 6},g:=a.g.fa (a.u n).kx 0 (a.um n).1,v:=(a.um n).2.2.1,f:=(bF a.f n.toNat (a.um n).2.2.2),O:=(Dv (a.u n).fd a.O a.P 6).1,P:=(Dv (a.u n).fd a.O a.P 6).2}
def mQ{α:Type}(f:Int->α)(n m:Int)(x:α){Q:α->Prop}(h1:m=n->Q x)(h2:m≠n->Q (f m)):Q (ae f n x m):=by
 grind [ae]
theorem KA.Wk.cD{a:KA}{T:Int}(h:a.Wk T){n:Int}(hn:0<=n/\n<20)(hl:(a.u n).st=1)(co:Int):(a.cD n co).Wk T where
 T0:=h.T0
 gI:=h.gI.fa _ _ _
 gS:=ua h.gI h.gS _ _ _
 sI:=h.sI
 sys:=h.sys.fJ (z:=n.toNat) og 0 16
 tY:=fun m h0 h1 h2=>by
  show bF a.f n.toNat (a.um n).2.2.2 m.toNat=_
  by_cases e:m=n
  ·subst e;rw[rS];exact QP (h.sys.mo _ og) _
  ·rw[lM _ _ og]
   refine h.tY m h0 h1 fun q=>h2 ?_
   show(ae a.u n _ m).st=1
   rw[ai _ _ e];exact q
 PI:=(yB (f:=(a.u n).fd) h.OI h.PI 6).2
 OI:=(yB (f:=(a.u n).fd) h.OI h.PI 6).1
 lc:=fun m a0 a1=>mQ a.u n m _ (Q:=fun x=>x.st≠0↔0<=a.s.loc m) (fun e=>by
  subst e;exact⟨fun _=>(h.lc m a0 a1).1 og,fun _=>(by decide:(2:Int)≠0)⟩) fun _=>h.lc m a0 a1
 st:=fun m=>mQ a.u n m _ (Q:=fun x=>x.st=0\/x.st=1\/x.st=2) (fun _=>.inr (.inr rfl)) fun _=>h.st m
 out:=fun m hm=>by
  show ae a.u n _ m=_
  rw[ai _ _ og];exact h.out m hm
 fd:=fun m i=>mQ a.u n m _ (Q:=fun x=>0<=x.fd i/\x.fd i<=24) (fun _=>by
  have:=h.fd n i
  show 0<=EV _ 6 i/\EV _ 6 i<=24
  unfold EV;split<;>omega) fun _=>h.fd m i
 bx:=fun m=>mQ a.u n m _ (Q:=fun x=>x.bx.dY 0=false) (fun _=>h.bx n) fun _=>h.bx m
def KA.eY(a:KA)(n:Int):KA:= {a with u:=ae a.u n PA.nil,g:=a.g.fa (a.u n).kx 1 0,s:=(a.s.fB n).2}
theorem KA.Wk.eY{a:KA}{T:Int}(h:a.Wk T){n:Int}(hn:0<=n/\n<20)(hs:(a.u n).st≠1):(a.eY n).Wk T where
 T0:=h.T0
 gI:=h.gI.fa _ _ _
 gS:=ua h.gI h.gS _ _ _
 sI:=h.sI.fB _
 sys:=h.sys
 tY:=fun m h0 h1 h2=>by
  by_cases e:m=n
  ·subst e;exact h.tY m h0 h1 hs
  ·refine h.tY m h0 h1 (fun q=>h2 ?_)
   show(ae a.u n _ m).st=1
   rw[ai _ _ e];exact q
 PI:=h.PI
 OI:=h.OI
 lc:=fun m a0 a1=>by
  show(ae a.u n PA.nil m).st≠0↔0<=(a.s.fB n).2.loc m
  by_cases e:m=n
  ·subst e
   rw[au]
   exact⟨fun q=>absurd rfl q,fun q=>absurd q (by have:=HM (s:=a.s) (p:=m) hn;omega)⟩
  ·rw[ai _ _ e,ub _ e];exact h.lc m a0 a1
 st:=fun m=>mQ a.u n m _ (Q:=fun x=>x.st=0\/x.st=1\/x.st=2) (fun _=>.inl rfl) fun _=>h.st m
 out:=fun m hm=>mQ a.u n m _ (Q:=fun x=>x=PA.nil) (fun _=>rfl) fun _=>h.out m hm
 fd:=fun m i=>mQ a.u n m _ (Q:=fun x=>0<=x.fd i/\x.fd i<=24) (fun _=>by simp[PA.nil]) fun _=>h.fd m i
 bx:=fun m=>mQ a.u n m _ (Q:=fun x=>x.bx.dY 0=false) (fun _=>rfl) fun _=>h.bx m
def KA.dM(a:KA)(z:Int):KA:= {a with s:=(a.s.drop z).2}
theorem KA.Wk.dM{a:KA}{T:Int}(h:a.Wk T)(z:Int):(a.dM z).Wk T:=⟨h.T0,h.gI,h.gS,h.sI.drop z,h.sys,h.tY,h.PI,h.OI,(fun n a0 a1=>by rw[show(a.dM z).s.loc=a.s.loc from pL _ _];exact h.lc n a0 a1),h.st,h.out,h.fd,h.bx⟩
def jE(f:Int->Int)(a:Int):Int:=match dv (fun k=>decide (a<=k)&&(f k==0)) 6 with
 | some k=>k
 | none=> -1
theorem QQ{a:Int}(h0:0<=i/\a<=i/\i<6)(h1:f i=0)(hn:∀ j:Int,0<=j->a<=j->j<i->f j≠0):jE f a=i:=by
 unfold jE;have e:dv (fun k=>decide (a<=k)&&(f k==0)) 6=some i.toNat:=by
  grind [dW]
 grind
theorem ME{a:Int}(hn:∀ j:Int,0<=j->a<=j->j<6->f j≠0):jE f a= -1:=by
 grind [jE,dL]
def KP.eN(k:KP)(n i:Int):Int:=if k.aI n≠0 then k.aI n else if i<0\/6<=i then 1 else if(k.u n).fd i=0 then 2 else 0
def KP.dt(k:KP)(n i:Int):Int:=if k.eN n i=0 then(k.u n).fd i-1 else 0
theorem KP.rZ{k:KP}(h:k.eN n i=0):(0<=n/\n<20)/\(k.u n).st=1/\(0<=i/\i<6)/\(k.u n).fd i≠0/\k.dt n i=(k.u n).fd i-1:=by
 have hv:k.dt n i=(k.u n).fd i-1:=by unfold KP.dt;rw[if_pos h]
 unfold KP.eN at h;split at h
 ·omega
 ·split at h
  ·omega
  ·split at h
   ·omega
   ·have:=bC (k:=k) (n:=n) og;omega
theorem ab9(a:KA)(b:KZ)(c:KC)(n:Int):(kp a b c).put n {(kp a b c).u n with fd:=EV (a.u n).fd 0} =kp a b c:=by
 rw[ae6];exact AX _ _
theorem aca(a:KA)(b:KZ)(c:KC)(hi:0<=i)(h:(a.u n).fd i>0):((kp a b c).put n {(kp a b c).u n with fd:=EV (a.u n).fd i}).put n {((kp a b c).put n {(kp a b c).u n with fd:=EV (a.u n).fd i}).u n with fd:=ae (((kp a b c).put n {(kp a b c).u n with fd:=EV (a.u n).fd i}).u n).fd i 0} =(kp a b c).put n {(kp a b c).u n with fd:=EV (a.u n).fd (i+1)} :=by
 grind [KP.Hp,KP.sx,Yp]
theorem acb(a:KA)(b:KZ)(c:KC)(hl:(a.u n).st=1)(hn:0<=n/\n<20)(K:KP)(hK:K=(kp a b c).put n {(kp a b c).u n with fd:=EV (a.u n).fd 6}):(K.put n {K.u n with st:=2}).put n {(K.put n {K.u n with st:=2}).u n with jF:=co} =kp (a.cD n co) b c:=by
 subst hK;rw[KP.sx,KP.Hp,KP.Hp,KP.sx];refine(HK a b c n {a.u n with st:=2,jF:=co,fd:=EV (a.u n).fd 6} _ ?_).trans rfl;show PU.mk 2 (a.u n).aA (a.u n).kx co (if(a.u n).st=0 then _ else _) _ _=PU.mk 2 (a.u n).aA (a.u n).kx co (if(2:Int)=0 then _ else _) _ _;rw[if_neg og,if_neg og];rfl
theorem Yr(a:KA)(hl:(a.u n).st=1):iR (a.cD n co)=iR a:=by
 refine(u6 fun m _ _=> ?_).symm;show(a.u m).st=0↔(ae a.u n _ m).st=0;grind [au,ai]
theorem Ys(a:KA)(b:KZ)(c:KC)(n:Int):(kp a b c).put n PU.nil=kp (a.eY n) b c:=by
 refine KP.ext (fun m=> ?_) ?_ ⟨⟨rfl,rfl,rfl,rfl⟩,rfl,rfl,rfl⟩
 ·by_cases e:m=n
  ·subst e;rw[KP.sx];show _=(ae a.u m PA.nil m).pu _;rw[au];rfl
  ·rw[KP.zQ _ _ e];show(a.u m).pu _=(ae a.u n PA.nil m).pu _;grind [ai]
 ·have e:(a.s.fB n).2.aa=a.s.aa:=by unfold Sp.SS.fB;split<;>rfl
  show _=fun z=>if(a.s.fB n).2.aa z then _ else _
  rw[e];rfl
theorem vN(s:Sp.SS)(n:Int):(s.fB n).2.aa=s.aa:=by unfold Sp.SS.fB;split<;>rfl
theorem UF(a:KA)(n:Int):kG (a.eY n)=kG a:=by
 grind [kG,KA.eY,vN]
theorem UG(a:KA)(hn:0<=n/\n<20):iR (a.eY n)=iS (iR a) n.toNat:=(u6 fun _ _ _=>Iff.rfl).trans (UA (p:=PA.nil) hn rfl)
theorem UH{a:KA}(hz:0<=z/\z<6)(h:(a.s.drop z).2= {a.s with aa:=ae a.s.aa z false,aA:=ae a.s.aA z 0}):kG (a.dM z)=iS (kG a) z.toNat:=by
 funext j;rw[Bool.eq_iff_iff,jl,BO,BO];show j<6/\(a.s.drop z).2.aa j=true↔_;rw[h];grind [au,ai]
def UI(a:KA)(b:KZ)(c:KC)(h:a.s.aa z=true):(kp a b c).ms z=aC (c.t z.toNat).b 0 0:=if_pos h
theorem Yt(a:KA)(b:KZ)(c:KC)(h:(a.s.drop z).2= {a.s with aa:=ae a.s.aa z false,aA:=ae a.s.aA z 0}):({kp a b c with ms:=ae (kp a b c).ms z (.pointer none)} :KP)=kp (a.dM z) b c:=by
 refine KP.ext (fun m=>rfl) ?_ ⟨⟨rfl,rfl,rfl,rfl⟩,rfl,rfl,rfl⟩;show ae (kp a b c).ms z (.pointer none)=fun y=>if(a.s.drop z).2.aa y then aC (c.t y.toNat).b 0 0 else .pointer none
 rw[h];grind [ae,kp]
def KA.ey(h:Int)(a:KA)(m:Int):KA:=if m=h then a else(if(a.u m).st=1 then a.cD m 0 else a).eY m
def KA.round(a:KA):KA:=(Sp.fl a.s.aa 6).foldl KA.dM a
def KA.dw(a:KA)(z h:Int):KA:=(a.s.mem z).1.foldl (KA.ey h) a
def KA.eb(a:KA):Nat->KA
 | 0=>a
 | k+1=>(a.eb k).round
def KA.dV(a:KA)(z h:Int):KA:=(a.dw z h).eb 4
theorem MF{α β:Type}(f:α->β->α)(a:α)(l:List β)(x:β):(l++[x]).foldl f a=f (l.foldl f a) x:=by simp_all
theorem pM(a:KA)(co:Int)(h:m≠n):(a.cD n co).u m=a.u m:=ai _ _ h
theorem uc(a:KA)(h:m≠n):(a.eY n).u m=a.u m:=ai _ _ h
theorem yC(a:KA)(h:Int)(e:m≠n):(a.ey h n).u m=a.u m:=by
 grind [KA.ey,uc,pM]
theorem pN(a:KA)(n co:Int):((a.cD n co).u n).st=2:=by
 show(ae a.u n _ n).st=2;rw[au]
theorem wR{s:Sp.SS}(h:p∈(s.mem z).1):∃ q:Int,0<=q/\q<21/\s.bR z q=p/\0<=p:=by
 unfold Sp.SS.mem at h;split at h
 ·cases h
 ·obtain⟨j,h0,h1,h2,h3⟩:=ks.1 h;grind
theorem F8(a:KA)(h:Int){m:Int} :∀ {l:List Int},m∉l->(l.foldl (KA.ey h) a).u m=a.u m
 | [],_=>rfl
 | x::r,hm=>by
  rw[List.foldl_cons,F8 (a.ey h x) h fun q=>hm (.tail _ q),yC _ _ (by rintro rfl;exact hm (.head _))]
theorem KA.Wk.ey{a:KA}{T:Int}(w:a.Wk T)(h:Int){m:Int}(hm:0<=m/\m<20):(a.ey h m).Wk T:=by
 grind [KA.ey,KA.Wk.cD,pN,KA.Wk.eY]
theorem SS.mem_range{s:Sp.SS}{aO:Int->Nat}(h:s.Inv aO)(hp:p∈(s.mem z).1):(0<=p/\p<20)/\0<=s.loc p:=by
 obtain⟨q,_,_,e,p0⟩:=wR hp;have:=h.mem z q p p0 e;omega
def KA.Wk.MG{a:KA}(w:a.Wk T)(z:Int)(hp:p∈(a.s.mem z).1):(0<=p/\p<20)/\(a.u p).st≠0:=by
 grind [SS.mem_range,KA.Wk.sI,KA.Wk.lc]
def KA.Wk.goE{T:Int}(h:Int):∀ {l:List Int} {a:KA},a.Wk T->(∀ m∈l,0<=m/\m<20)->(l.foldl (KA.ey h) a).Wk T
 | [],_,w,_=>w
 | x::r,_,w,hl=>KA.Wk.goE (l:=r) h (w.ey h (hl x (.head _))) fun m hm=>hl m (.tail _ hm)
theorem KA.Wk.dw{a:KA}{T:Int}(w:a.Wk T)(z h:Int):(a.dw z h).Wk T:=KA.Wk.goE h w fun _ hm=>(SS.mem_range w.sI hm).1
def KA.Wk.A4{T:Int} :∀ {l:List Int} {a:KA},a.Wk T->(l.foldl KA.dM a).Wk T
 | [],_,w=>w
 | x::r,_,w=>KA.Wk.A4 (l:=r) (w.dM x)
def KA.Wk.round{a:KA}{T:Int}(w:a.Wk T):a.round.Wk T:=KA.Wk.A4 w
def KA.Wk.eb{a:KA}{T:Int}(w:a.Wk T):∀ k,(a.eb k).Wk T
 | 0=>w
 | k+1=>(w.eb k).round
theorem KA.Wk.dV{a:KA}{T:Int}(w:a.Wk T)(z h:Int):(a.dV z h).Wk T:=(w.dw z h).eb 4
theorem Dw(a:KA)(h:0<=i):a.eb (i+1).toNat=(a.eb i.toNat).round:=by
 rw[show(i+1).toNat=i.toNat+1 by omega];rfl
theorem u7{l:List Int}(h:0<=i/\i<l.length):l.take (i+1).toNat=l.take i.toNat++[dg l i]:=aac h
theorem UJ{l:List Int}(hn:l.Nodup)(h:0<=i/\i<l.length):dg l i∉l.take i.toNat:=by
 intro q;have h1:(l.take i.toNat++l.drop i.toNat).Nodup:=by rwa[List.take_append_drop]
 grind [dg,List.drop_eq_getElem_cons]
theorem FF.mF(s:Tr.FF)(n:Int):(s.kz n).roots=s.roots:=by
 unfold Tr.FF.kz Tr.FF.qL;split
 ·split<;>rfl
 rfl
def vO:∀ (l:List MT) (s:Tr.FF),(Du s l).roots=s.roots
 | [],_=>rfl
 | m::r,s=>(vO r _).trans ((FF.mF _ _).trans (FF.mF _ _))
theorem sB(s:Tr.FF)(l:List MT)(r:WH):(BN s l r).roots=s.roots:=(FF.mF _ _).trans (vO _ _)
def yD{s:Sp.SS}{y:Int}(h:(s.drop z).2.aa y=true):s.aa y=true:=by
 rcases SS.rY s z with⟨_,e⟩ | ⟨_,_,_,_,e,_⟩;all_goals simp_all[ae]
def r6(k:KP)(h:0<=z/\z<6){v:Value}(e:k.ms z=v):0+447+z.toNat*1<453/\aF k (0+447+z.toNat*1)=v:=by grind [aF]
theorem cH.UK{a:KA}{c:KC}{N:Nat}(h:cH a c N T)(hs:(a.u n).st≠1):cH (a.eY n) c N T:=⟨h.qO,h.qR,h.F,h.rp,h.rc,h.rl,fun z h0 h1 h2=>h.tb z h0 h1 (by rwa[show(a.eY n).s.aa=a.s.aa from vN _ _]at h2),fun m m0 m1 hm=>by
 have h1:=h.tk m m0 m1 hm
 have:m≠n:=by rintro rfl;exact hs h1
 rw[uc _ this];exact h1⟩
theorem o7(x:BS)(n:Int)(h:x.dY 0=false):(x.send n).2.dY 0=false:=by
 unfold BS.send;split
 ·rename_i c;have:=(gr n).1 c;show(if x.zz n=1 then x else _).dY 0=false;split;all_goals grind [ai]
 omega
def A5{x y:BS}{h:Int}(e:∀ k:Int,0<=k->k<9->(x.dY k&&(!x.bj k&&decide (x.kg k=h)))=(y.dY k&&(!y.bj k&&decide (y.kg k=h)))):x.first h=y.first h:=by
 unfold BS.first
 have e2:dv (fun k=>x.dY k&&(!x.bj k&&decide (x.kg k=h))) 9=dv (fun k=>y.dY k&&(!y.bj k&&decide (y.kg k=h))) 9:=by
  cases hy:dv (fun k=>y.dY k&&(!y.bj k&&decide (y.kg k=h))) 9 with
  | none=>exact dL fun j j0 j1=>(e j j0 og).trans (qE hy j j0 j1)
  | some m=>
   obtain⟨h1,h2,h3⟩:=Jz hy;have:=dW (p:=fun k=>x.dY k&&(!x.bj k&&decide (x.kg k=h))) (m:=9) (k:=(m:Int)) og og ((e m og og).trans h2) fun j j0 j1=>(e j j0 og).trans (h3 j j0 j1);rw[this];rfl
 rw[e2]
theorem F9(x:BS):(x.send 3).2.first 0=x.first 0:=by
 unfold BS.send;rw[if_pos dq];show(if x.zz 3=1 then x else _).first 0=_
 split
 ·rfl
 ·rename_i c;refine A5 fun k k0 k1=> ?_;show(ae x.dY 3 true k&&_)=_;by_cases e:k=3
  ·subst e;have h0:¬x.kg 3=0:=fun q=>c (by unfold BS.zz;rw[if_pos ⟨rfl,q⟩]);simp_all
  grind [ai]
def KA.jh(a:KA)(n:Int)(x:BS):KA:= {a with u:=ae a.u n {a.u n with bx:=x}}
def KA.aI(a:KA)(n:Int):Int:=if n<0\/20<=n then 1 else if(a.u n).st=1 then 0 else 2
theorem Yu(a:KA)(b:KZ)(c:KC)(n:Int):(kp a b c).aI n=a.aI n:=rfl
theorem bX{a:KA}(h:a.aI n=0):(0<=n/\n<20)/\(a.u n).st=1:=by
 grind [KA.aI]
theorem Ab(a:KA)(b:KZ)(c:KC)(n:Int)(x:BS):(kp a b c).box n x=kp (a.jh n x) b c:=HK a b c n {a.u n with bx:=x} _ rfl
theorem u9(a:KA)(x:BS)(h:m≠n):(a.jh n x).u m=a.u m:=ai _ _ h
theorem BP(a:KA)(n:Int)(x:BS):(a.jh n x).u n= {a.u n with bx:=x} :=au _ _ _
theorem fX(a:KA)(n m:Int)(x:BS):((a.jh n x).u m).st=(a.u m).st:=by
 grind [BP,u9]
theorem va(a:KA)(n:Int)(x:BS):iR (a.jh n x)=iR a:=u6 fun m _ _=>by rw[fX]
theorem KA.Wk.jh{a:KA}{T:Int}(h:a.Wk T){n:Int}(hn:0<=n/\n<20){x:BS}(hx:x.dY 0=false):(a.jh n x).Wk T where
 T0:=h.T0
 gI:=h.gI
 gS:=h.gS
 sI:=h.sI
 sys:=h.sys
 tY:=fun m a0 a1 q=>h.tY m a0 a1 (by rwa[fX]at q)
 PI:=h.PI
 OI:=h.OI
 lc:=fun m a0 a1=>by rw[fX];exact h.lc m a0 a1
 st:=fun m=>by rw[fX];exact h.st m
 out:=fun m hm=>by rw[u9 _ _ og];exact h.out m hm
 fd:=fun m i=>mQ a.u n m _ (Q:=fun z=>0<=z.fd i/\z.fd i<=24) (fun _=>h.fd n i) fun _=>h.fd m i
 bx:=fun m=>mQ a.u n m _ (Q:=fun z=>z.bx.dY 0=false) (fun _=>hx) fun _=>h.bx m
def KA.head(a:KA)(n:Int):Int:=(a.s.find (a.s.bI n).1 1).1
def KA.cJ(a:KA)(n h:Int):KA:= {a with u:=fun j=>if 0<=j/\j<20/\(a.u j).st≠0/\(a.u j).aA=n then {a.u j with aA:=h} else a.u j}
theorem du(a:KA)(n h j:Int):((a.cJ n h).u j).st=(a.u j).st/\((a.cJ n h).u j).bx=(a.u j).bx/\((a.cJ n h).u j).kx=(a.u j).kx/\((a.cJ n h).u j).jF=(a.u j).jF/\((a.cJ n h).u j).fd=(a.u j).fd:=by
 show((if 0<=j/\j<20/\(a.u j).st≠0/\(a.u j).aA=n then {a.u j with aA:=h} else a.u j):PA).st=_/\((if 0<=j/\j<20/\(a.u j).st≠0/\(a.u j).aA=n then {a.u j with aA:=h} else a.u j):PA).bx=_/\((if 0<=j/\j<20/\(a.u j).st≠0/\(a.u j).aA=n then {a.u j with aA:=h} else a.u j):PA).kx=_/\((if 0<=j/\j<20/\(a.u j).st≠0/\(a.u j).aA=n then {a.u j with aA:=h} else a.u j):PA).jF=_/\((if 0<=j/\j<20/\(a.u j).st≠0/\(a.u j).aA=n then {a.u j with aA:=h} else a.u j):PA).fd=_;grind
theorem Ko(a:KA)(b:KZ)(c:KC)(n h:Int):(kp a b c).lv n h 20=kp (a.cJ n h) b c:=by
 refine KP.ext (fun m=> ?_) rfl ⟨⟨rfl,rfl,rfl,rfl⟩,rfl,rfl,rfl⟩;show(if 0<=m/\m<20/\(a.u m).st≠0/\(a.u m).aA=n then {(a.u m).pu _ with aA:=h} else(a.u m).pu _)=PA.pu (if 0<=m/\m<20/\(a.u m).st≠0/\(a.u m).aA=n then {a.u m with aA:=h} else a.u m) _;split<;>rfl
theorem Ga(a:KA)(n h:Int):iR (a.cJ n h)=iR a:=by grind [du,iR]
def KA.Wk.cJ{a:KA}{T:Int}(w:a.Wk T)(n h:Int):(a.cJ n h).Wk T where
 T0:=w.T0
 gI:=w.gI
 gS:=w.gS
 sI:=w.sI
 sys:=w.sys
 tY:=fun m a0 a1 q=>w.tY m a0 a1 (by rwa[(du _ _ _ _).1]at q)
 PI:=w.PI
 OI:=w.OI
 lc:=fun m a0 a1=>by rw[(du _ _ _ _).1];exact w.lc m a0 a1
 st:=fun m=>by rw[(du _ _ _ _).1];exact w.st m
 out:=fun m hm=>by
  show(if 0<=m/\m<20/\(a.u m).st≠0/\(a.u m).aA=n then {a.u m with aA:=h} else a.u m)=PA.nil
  rw[if_neg og];exact w.out m hm
 fd:=fun m i=>by rw[(du _ _ _ _).2.2.2.2];exact w.fd m i
 bx:=fun m=>by rw[(du _ _ _ _).2.1];exact w.bx m
def KA.jH(a:KA)(p:Int):KA:=if a.aI p=0 then a.jh p ((a.u p).bx.send 3).2 else a
theorem KA.Wk.jH{a:KA}{T:Int}(w:a.Wk T)(p:Int):(a.jH p).Wk T:=by
 grind [KA.jH,KA.Wk.jh,bX,o7,KA.Wk.bx]
def KA.ij(a:KA)(n co:Int):KA:=if a.head n=n then(a.cD n co).dV (a.s.bI n).1 n else a.cD n co
def KA.cR(a:KA)(n co:Int):KA:=((a.ij n co).cJ n (a.head n)).jH (((a.ij n co).cJ n (a.head n)).u n).aA
theorem KA.Wk.ij{a:KA}{T:Int}(w:a.Wk T){n:Int}(hn:0<=n/\n<20)(hl:(a.u n).st=1)(co:Int):(a.ij n co).Wk T:=by
 unfold KA.ij;split
 ·exact(w.cD hn hl co).dV _ _
 grind [KA.Wk.cD]
theorem KA.Wk.cR{a:KA}{T:Int}(w:a.Wk T){n:Int}(hn:0<=n/\n<20)(hl:(a.u n).st=1)(co:Int):(a.cR n co).Wk T:=((w.ij hn hl co).cJ _ _).jH _
def KA.Hx(a:KA)(n:Int):Prop:=∀ p,0<=p->p<20->p≠n->(a.u p).st=1->(a.u p).bx.first 0=0\/a.s.bR (a.s.loc p) 1=p
theorem KA.Hx.cD{a:KA}{n:Int}(h:a.Hx n)(co:Int):(a.cD n co).Hx n:=fun p h0 h1 h2 h3=>by
 rw[pM _ _ h2]at h3 ⊢;exact h p h0 h1 h2 h3
def KA.Hx.ahO{a:KA}(h:a.Hx n)(co:Int):(a.cD m co).Hx n:=fun p h0 h1 h2 h3=>by
 by_cases e:p=m
 ·grind [pN]
 ·rw[pM _ _ e]at h3 ⊢;exact h p h0 h1 h2 h3
def yE{s:Sp.SS}{q:Int}(e:p≠n)(h:s.bR z q=p):(s.fB n).2.bR z q=p:=by
 unfold Sp.SS.fB;split
 ·omega
 ·show(if s.bR z q=n then-1 else s.bR z q)=p;omega
theorem KA.Hx.eY{a:KA}{n m:Int}(h:a.Hx n):(a.eY m).Hx n:=fun p h0 h1 h2 h3=>by
 by_cases e:p=m
 ·simp_all[KA.eY,PA.nil,au]
 ·rw[uc _ e]at h3 ⊢;rcases h p h0 h1 h2 h3 with q | q
  ·omega
  ·right;show(a.s.fB m).2.bR ((a.s.fB m).2.loc p) 1=p;rw[ub _ e];exact yE e q
theorem ud(s:Sp.SS)(z:Int):(s.drop z).2.bR=s.bR:=by
 grind [SS.rY]
theorem KA.Hx.dM{a:KA}{n:Int}(h:a.Hx n)(z:Int):(a.dM z).Hx n:=fun p h0 h1 h2 h3=>by
 show _\/(a.s.drop z).2.bR ((a.s.drop z).2.loc p) 1=p;rw[ud,pL];exact h p h0 h1 h2 h3
def KA.Hx.goE{n:Int}(k:Int):∀ {l:List Int} {a:KA},a.Hx n->(l.foldl (KA.ey k) a).Hx n
 | [],_,w=>w
 | x::r,a,w=>KA.Hx.goE k (l:=r) (by
   unfold KA.ey
   split
   ·exact w
   ·apply KA.Hx.eY
    split
    ·exact w.ahO 0
    ·exact w)
def KA.Hx.A4{n:Int} :∀ {l:List Int} {a:KA},a.Hx n->(l.foldl KA.dM a).Hx n
 | [],_,w=>w
 | x::r,_,w=>KA.Hx.A4 (l:=r) (w.dM x)
def KA.Hx.eb{a:KA}{n:Int}(w:a.Hx n):∀ k,(a.eb k).Hx n
 | 0=>w
 | k+1=>KA.Hx.A4 (w.eb k)
theorem KA.Hx.ij{a:KA}{n:Int}(w:a.Hx n)(co:Int):(a.ij n co).Hx n:=by
 unfold KA.ij;split
 ·exact KA.Hx.eb (KA.Hx.goE n (w.cD co)) 4
 grind [KA.Hx.cD]
def KA.Hx.cJ{a:KA}{n:Int}(w:a.Hx n)(m h:Int):(a.cJ m h).Hx n:=fun p h0 h1 h2 h3=>by
 rw[(du _ _ _ _).1]at h3;rw[(du _ _ _ _).2.1];exact w p h0 h1 h2 h3
theorem KA.Hx.jH{a:KA}{n:Int}(w:a.Hx n)(m:Int):(a.jH m).Hx n:=fun p h0 h1 h2 h3=>by
 unfold KA.jH at h3 ⊢;split
 ·rename_i c;rw[if_pos c,fX]at h3;by_cases e:p=m
  ·subst e;rw[BP];show((a.u p).bx.send 3).2.first 0=0\/_
   rw[F9];exact w p h0 h1 h2 h3
  ·rw[u9 _ _ e];exact w p h0 h1 h2 h3
 grind [KA.Hx]
theorem KA.Wk.Kp{a:KA}(w:a.Wk T)(h0:0<=p/\p<20)(hs:(a.u p).st≠0)(h:a.s.bR (a.s.loc p) 1=p):a.head p=p:=by
 have h1:=(w.lc p h0.1 h0.2).1 hs;have h2:=w.sI.loc p;have h3:=w.sI.at_ p h0.1 h0.2 h1;have e1:a.s.bI p=(a.s.loc p,0):=by unfold Sp.SS.bI;rw[if_neg og,if_neg og]
 unfold KA.head;rw[e1];have e2:a.s.is (a.s.loc p)=0:=by unfold Sp.SS.is;rw[if_neg og,if_pos h3]
 show(a.s.find (a.s.loc p) 1).1=p;unfold Sp.SS.find;grind
def KA.HN(a:KA)(n:Int)(o:Bool):Prop:=(a.u n).bx.first 0≠0/\(o=true\/a.head n≠n)
instance (a:KA) (n:Int) (o:Bool):Decidable (a.HN n o):=by unfold KA.HN;infer_instance
def KA.cK(a:KA)(n:Int)(o:Bool):KA:=if a.HN n o then a.cR n (128+(a.u n).bx.first 0)else a
def KA.vP(a:KA)(n sig:Int)(o:Bool):KA:=if a.aI n=0 then(a.jh n ((a.u n).bx.send sig).2).cK n o else a
theorem Dx(a:KA):∀ k,(a.eb k).u=a.u
 | 0=>rfl
 | k+1=>by
  show((Sp.fl (a.eb k).s.aa 6).foldl KA.dM (a.eb k)).u=a.u;have e:∀ (l:List Int) (x:KA),(l.foldl KA.dM x).u=x.u:=fun l=>by
   induction l with
   | nil=>intro x;rfl
   | cons y r ih=>intro x;rw[List.foldl_cons,ih];rfl
  rw[e];exact Dx a k
theorem Kq(h:Int):∀ (l:List Int) (a:KA),(l.foldl (KA.ey h) a).u h=a.u h
 | [],_=>rfl
 | x::r,a=>by
  rw[List.foldl_cons,Kq h r];by_cases e:h=x
  ·unfold KA.ey;rw[if_pos e.symm]
  ·exact yC a h e
theorem Kr(a:KA)(z h:Int):(a.dV z h).u h=a.u h:=by
 unfold KA.dV;rw[Dx];unfold KA.dw;exact Kq h _ a
theorem Dy(a:KA)(n co:Int):((a.ij n co).u n).st≠1:=by
 grind [pN,KA.ij,Kr]
def Gb{a:KA}{b:KZ}{c:KC}(w:a.Wk T)(hx:a.Hx n)(hs:(a.u n).st≠1)(q:(kp a b c).aI p=0):(((kp a b c).u p).bx.send 3).2.first 0=0\/(false=false/\(a.s.find (a.s.bI p).1 1).1=p):=by
 obtain⟨h1,h2⟩:=bX (a:=a) (n:=p) q;have gK:p≠n:=by rintro rfl;exact hs h2
 rcases hx p h1.1 h1.2 gK h2 with e | e
 ·left;rw[F9];exact e
 ·exact .inr ⟨rfl,w.Kp h1 og e⟩
def acd(a:KA)(b:KZ)(c:KC)(p:Int):(if(kp a b c).aI p=0 then(kp a b c).box p (((kp a b c).u p).bx.send 3).2 else kp a b c)=kp (a.jH p) b c:=by
 unfold KA.jH;rw[Yu];split
 ·exact Ab a b c p _
 rfl
theorem Yv(a:KA)(p:Int):iR (a.jH p)=iR a:=by
 grind [KA.jH,va]
theorem ue(a:KA)(p:Int):(a.jH p).s=a.s/\(a.jH p).g=a.g/\(a.jH p).v=a.v/\(a.jH p).f=a.f/\(a.jH p).P=a.P/\(a.jH p).O=a.O:=by
 unfold KA.jH;split<;>exact⟨rfl,rfl,rfl,rfl,rfl,rfl⟩
theorem cH.gF{a:KA}{c:KC}{N:Nat}(h:cH a c N T)(n m p:Int):cH ((a.cJ n m).jH p) c N T:=⟨h.qO,h.qR,h.F,h.rp,h.rc,h.rl,fun z h0 h1 h2=>h.tb z h0 h1 (by rwa[(ue _ _).1]at h2),fun j j0 j1 hj=>by
 have h1:=h.tk j j0 j1 hj
 unfold KA.jH;split
 ·rw[fX,(du _ _ _ _).1];exact h1
 ·rw[(du _ _ _ _).1];exact h1⟩
def cH.ae7{a:KA}{c:KC}{N:Nat}(h:cH a c N T){t:SC}(ht:t.toSF=c.q.toSF.vD c.d n):∀ m,0<=m->m<20->t.aa (10+m)=true->((a.cD n co).u m).st=1:=fun m m0 m1 hm=>by
 have hm:t.toSF.aa (10+m)=true:=hm;rw[ht]at hm;obtain⟨h1,h2⟩:=Fa.SF.LP m0 m1 hm;rw[pM _ _ h1];exact h.tk m m0 m1 h2
end Go.X.Kn
