import Derived.Test.YthdinakloheinaaGreatDoorkNFP
import Derived.Test.YthdinakloheinaaGreatDoorXClose
import Derived.Lib.SplitLaws
import Derived.Test.YthdinakloheinaaGreatDoorkNOP
namespace Go.X.Tr
open Go Go.X
structure WH where
 tree:Int
 node:Int
instance:DecidableEq WH:=fun a b=>if h:a.tree=b.tree∧a.node=b.node then isTrue (by cases a;cases b;simp only at h;rw[h.1,h.2])else isFalse (fun e=>h (by rw[e];exact⟨rfl,rfl⟩))
def WH.nil:WH:=⟨0,0⟩
abbrev WH.arr(w:WH):Array Value:= #[.int .i64 w.tree,.int .i64 w.node]
def rV(w:WH)(i:Nat):Value:=if i=0 then .int .i64 w.tree else if i=1 then .int .i64 w.node else undef
structure MT where
 at_:WH
 to:WH
def MT.nil:MT:=⟨WH.nil,WH.nil⟩
abbrev MT.arr(m:MT):Array Value:= #[.int .i64 m.at_.tree,.int .i64 m.at_.node,.int .i64 m.to.tree,.int .i64 m.to.node]
def dU(m:MT)(i:Nat):Value:=if i=0 then .int .i64 m.at_.tree else if i=1 then .int .i64 m.at_.node else if i=2 then .int .i64 m.to.tree else if i=3 then .int .i64 m.to.node else undef
def yy(l:List MT)(z:Int):MT:=l.getD z.toNat MT.nil
def Ow(l:List WH)(z:Int):WH:=l.getD z.toNat WH.nil
def mC(l:List MT)(i:Nat):Value:=dU (yy l ((i/4:Nat):Int)) (i%4)
def MC(C:Nat→Value)(l:List MT):Prop:=∀ i,i<l.length*4→C i=mC l i
theorem rV.box(w:WH):∀ i,i<2→cellsOf (WH.arr w) i=rV w i:=fun i h=>match i,h with
 | 0,_=>rfl
 | 1,_=>rfl
 | j+2,h=>absurd h (by omega)
theorem rV.agg(w:WH):0+2≤2∧cq (rV w) 0 2= .agg (WH.arr w):=⟨by omega,rfl⟩
theorem rV.st(w u:WH):0+2≤2∧bQ (rV w) 0 (WH.arr u).toList=rV u:=by
 refine⟨by omega,?_⟩
 funext i
 match i with
 | 0=>rfl
 | 1=>rfl
 | k+2=>
  have e1:∀ w:WH,rV w (k+2)=undef:=fun w=>by unfold rV;rw[if_neg (by omega),if_neg (by omega)]
  have e2:bQ (rV w) 0 (WH.arr u).toList (k+2)=rV w (k+2):=by simp[bQ,cH]
  rw[e2,e1,e1]
theorem dU.box(m:MT):∀ i,i<4→cellsOf (MT.arr m) i=dU m i:=fun i h=>match i,h with
 | 0,_=>rfl
 | 1,_=>rfl
 | 2,_=>rfl
 | 3,_=>rfl
 | j+4,h=>absurd h (by omega)
theorem dU.agg(m:MT):0+4≤4∧cq (dU m) 0 4= .agg (MT.arr m):=⟨by omega,rfl⟩
theorem dU.nc(m:MT):0+0+2≤4∧cq (dU m) (0+0) 2= .agg (WH.arr m.at_):=⟨by omega,rfl⟩
theorem dU.M9(m:MT):0+0+1<4∧dU m (0+0+1)= .int .i64 m.at_.node:=⟨by omega,rfl⟩
theorem dU.MD(m:MT):0+2+1<4∧dU m (0+2+1)= .int .i64 m.to.node:=⟨by omega,rfl⟩
theorem dU.st(m u:MT):0+4≤4∧bQ (dU m) 0 (MT.arr u).toList=dU u:=by
 refine⟨by omega,?_⟩
 funext i
 match i with
 | 0=>rfl
 | 1=>rfl
 | 2=>rfl
 | 3=>rfl
 | k+4=>
  have e1:∀ w:MT,dU w (k+4)=undef:=fun w=>by unfold dU;rw[if_neg (by omega),if_neg (by omega),if_neg (by omega),if_neg (by omega)]
  have e2:bQ (dU m) 0 (MT.arr u).toList (k+4)=dU m (k+4):=by simp[bQ,cH]
  rw[e2,e1,e1]
def aA(bf:Nat)(r:WH)(v:Value)(i:Nat):Value:=if i=0 then ptr bf 0 0 else if i=1 then .int .i64 r.tree else if i=2 then .int .i64 r.node else if i=3 then v else undef
theorem aA.GU{bf:Nat}(r:WH)(v:Value):0+0<4∧aA bf r v (0+0)=ptr bf 0 0:=⟨by omega,rfl⟩
theorem aA.ld1{bf:Nat}(r:WH)(v:Value):0+1+2≤4∧cq (aA bf r v) (0+1) 2= .agg (WH.arr r):=⟨by omega,rfl⟩
theorem aA.Mw{bf:Nat}(r:WH)(v:Value):0+1+1<4∧aA bf r v (0+1+1)= .int .i64 r.node:=⟨by omega,rfl⟩
theorem aA.N2{bf:Nat}(r:WH)(v:Value):0+3<4∧aA bf r v (0+3)=v:=⟨by omega,rfl⟩
theorem aA.st2{bf:Nat}(r:WH)(v u:Value):0+3<4∧cH (aA bf r v) (0+3) u=aA bf r u:=by
 refine⟨by omega,?_⟩
 funext i
 match i with
 | 0=>rfl
 | 1=>rfl
 | 2=>rfl
 | 3=>rfl
 | k+4=>
  have e1:∀ r v,aA bf r v (k+4)=undef:=fun r v=>by unfold aA;rw[if_neg (by omega),if_neg (by omega),if_neg (by omega),if_neg (by omega)]
  rw[show cH (aA bf r v) (0+3) u (k+4)=aA bf r v (k+4)from by simp[cH],e1,e1]
abbrev K7(bf:Nat)(r:WH)(v:Value):Array Value:= #[ptr bf 0 0,.int .i64 r.tree,.int .i64 r.node,v]
theorem aA.box(bf:Nat)(r:WH)(v:Value):∀ i,i<4→cellsOf (K7 bf r v) i=aA bf r v i:=fun i h=>match i,h with
 | 0,_=>rfl
 | 1,_=>rfl
 | 2,_=>rfl
 | 3,_=>rfl
 | j+4,h=>absurd h (by omega)
theorem MO(l:List MT)(z:Int)(hz:0≤z)(j:Nat)(hj:j<4):mC l (0+z.toNat*4+j)=dU (yy l z) j:=by
 unfold mC
 rw[show(((0+z.toNat*4+j)/4:Nat):Int)=z from by omega,show(0+z.toNat*4+j)%4=j from by omega]
theorem MC.ld{C:Nat→Value}{l:List MT}(h:MC C l){k:Nat}(hk:l.length≤k)(z:Int)(q:0≤z∧z<l.length):0+z.toNat*4+4≤k*4∧cq C (0+z.toNat*4) 4= .agg (MT.arr (yy l z)):=by
 refine⟨by omega,?_⟩
 have e:=fun j (hj:j<4)=>(h (0+z.toNat*4+j) (by omega)).trans (MO l z q.1 j hj)
 simp only[cq,List.range,List.range.loop,List.map_cons,List.map_nil]
 rw[e 0 (by omega),e 1 (by omega),e 2 (by omega),e 3 (by omega)]
 rfl
theorem MC.copy{C D:Nat→Value}{l:List MT}(h:MC C l)(h1:∀ i,i<l.length*4→D i=C i):MC D l:=fun i hi=>(h1 i hi).trans (h i hi)
theorem MC.nil(C:Nat→Value):MC C []:=fun i h=>absurd h (by simp)
theorem MC.erase{C D:Nat→Value}{l:List MT}(h:MC C l)(n:Nat)(hn:n<l.length)(h1:∀ j,j<n*4→D j=C j)(h2:∀ j,n*4≤j→j<(l.length-1)*4→D j=C (j+4)):MC D (l.eraseIdx n):=fun i hi=>by
 rw[List.length_eraseIdx_of_lt hn]at hi
 by_cases c:i<n*4
 ·rw[h1 i c,h i (by omega)]
  unfold mC yy
  congr 1
  rw[List.getD_eq_getElem?_getD,List.getD_eq_getElem?_getD,List.getElem?_eraseIdx,if_pos (by omega)]
 ·rw[h2 i (by omega) hi,h (i+4) (by omega)]
  unfold mC yy
  rw[List.getD_eq_getElem?_getD,List.getD_eq_getElem?_getD,List.getElem?_eraseIdx,if_neg (by omega),show(i+4)%4=i%4 from by omega,show(((i+4)/4:Nat):Int).toNat=(((i/4:Nat):Int)).toNat+1 from by omega]
def On(l:List MT)(w:WH):Option WH:=(l.find? (fun m=>decide (m.at_=w))).map (·.to)
def Oi(l:List MT):Nat→WH→WH
 | 0,w=>w
 | n+1,w=>match On l w with
  | some u=>Oi l n u
  | none=>w
def over(l:List MT)(w:WH):WH:=Oi l 6 w
theorem IV{l:List MT}{z:Int}(h:0≤z∧z<l.length):l[z.toNat]? =some (yy l z):=by
 unfold yy
 rw[List.getD_eq_getElem?_getD]
 cases hq:l[z.toNat]? with
 | none=>rw[List.getElem?_eq_none_iff]at hq;omega
 | some m=>rfl
def dd:ByteArray:=⟨#[46,46]⟩
def last(l:List WH):WH:=Ow l ((l.length:Int)-1)
def wk(F:FF)(l:List MT):List WH→List ByteArray→Int×WH
 | cr,[]=>(0,last cr)
 | cr,s::r=>if s=dd then wk F l (if 1<cr.length then cr.take (cr.length-1)else cr) r else if F.gY (last cr).node s≠0 then(F.gY (last cr).node s,WH.nil)else
   wk F l (cr++[over l ⟨(last cr).tree,F.dV (last cr).node s⟩]) r
def np(F:FF):List MT→FF
 | []=>F
 | m::r=>np ((F.hold m.at_.node).hold m.to.node) r
def sZ(F:FF):List MT→FF
 | []=>F
 | m::r=>sZ ((F.gW m.at_.node).gW m.to.node) r
def Ec(F:FF)(l:List MT)(r:WH):FF:=np (F.hold r.node) l
def va(F:FF)(l:List MT)(r:WH):FF:=(sZ F l).gW r.node
section
variable {F:FF} {l:List MT} {cr:List WH} {s:ByteArray} {r a:List ByteArray}
end
theorem Jy{l:List MT}{i:Int}(h:0≤i∧i<l.length):l.drop i.toNat=yy l i::l.drop (i+1).toNat:=by
 rw[List.drop_eq_getElem_cons (by omega),show(i+1).toNat=i.toNat+1 from by omega]
 congr 1
 have e:=IV h
 rw[List.getElem?_eq_getElem (by omega),Option.some.injEq]at e
 exact e
theorem yW{F:FF}{l:List MT}{i:Int}(h:0≤i∧i<l.length):np F (l.drop i.toNat)=np ((F.hold (yy l i).at_.node).hold (yy l i).to.node) (l.drop (i+1).toNat):=by
 rw[Jy h];rfl
theorem Da{F:FF}{l:List MT}{i:Int}(h:0≤i∧i<l.length):sZ F (l.drop i.toNat)=sZ ((F.gW (yy l i).at_.node).gW (yy l i).to.node) (l.drop (i+1).toNat):=by
 rw[Jy h];rfl
theorem Ca{F:FF}{l:List MT} :np F (l.drop ((l.length:Int)).toNat)=F:=by
 rw[List.drop_of_length_le (by omega)];rfl
theorem FA{F:FF}{l:List MT} :sZ F (l.drop ((l.length:Int)).toNat)=F:=by
 rw[List.drop_of_length_le (by omega)];rfl
def C0:Nat→Value:=fun _=>undef
end Go.X.Tr

namespace Go.X.Kn
open Go Go.X
structure PA where
 st:Int
 par:Int
 grp:Int
 code:Int
 fd:Int→Int
 bx:Sg.BS
def PA.nil:PA:=⟨0,0,0,0,fun _=>0,Sg.BS.init⟩
structure KA where
 u:Int→PA
 g:Gr.TG
 s:Sp.SS
 dep:Int→Nat
 v:Vm.VB
 f:Nat→Vm.MS
 P:Tr.PS
 O:Tr.OS
structure TB where
 b:Nat
 r:Tr.WH
 l:List Tr.MT
 p:Option Addr
 cap:Nat
 k:Nat
 c:Nat
 C:Nat→Value
structure TB.Ok (t:TB):Prop where
 rv:RV.ok ⟨t.p,t.cap,t.k,t.l.length,t.c,t.C⟩
 mc:Tr.MC t.C t.l
 len:t.l.length≤6
structure KZ where
 kb:Nat
 gb:Nat
 sb:Nat
 qb:Nat
 bb:Nat
 tb:Nat
 pi:Nat
 ob:Nat
 vp:Nat
structure KC where
 mb:Nat→Nat
 pp:Nat→Option Addr
 cc:Nat→Nat
 q:Fa.SC
 d:Int→Nat
 F:Tr.FC
 dF:Int→Nat
 rp:Option Addr
 rc:Nat
 rl:List Int
 t:Nat→TB
def PA.pu(p:PA)(b:Nat):PU:=⟨p.st,p.par,p.grp,p.code,if p.st=0 then .pointer none else ptr b 0 0,p.fd,p.bx⟩
def kp(a:KA)(b:KZ)(c:KC):KP:=⟨fun n=>(a.u n).pu (c.mb n.toNat),b.gb,b.sb,b.qb,b.bb,b.tb,b.pi,b.ob,fun z=>if a.s.here z then ptr (c.t z.toNat).b 0 0 else .pointer none⟩
theorem y8(a:KA)(b:KZ)(c:KC){n:Int}(h:(a.u n).st≠0):((kp a b c).u n).mem=ptr (c.mb n.toNat) 0 0:=by
 show(if(a.u n).st=0 then Value.pointer none else ptr (c.mb n.toNat) 0 0)=_
 rw[if_neg h]
theorem KP.ext{k k':KP}(hu:∀ n,k.u n=k'.u n)(hm:k.ms=k'.ms)(h:(k.gb=k'.gb∧k.sb=k'.sb∧k.qb=k'.qb∧k.bb=k'.bb)∧k.tb=k'.tb∧k.pi=k'.pi∧k.ob=k'.ob):k=k':=by
 cases k;cases k'
 obtain⟨⟨h1,h2,h3,h4⟩,h5,h6,h7⟩:=h
 simp only at hm h1 h2 h3 h4 h5 h6 h7 hu
 have e:=funext hu
 subst e;subst hm;subst h1;subst h2;subst h3;subst h4;subst h5;subst h6;subst h7
 rfl
theorem Mb(a:KA)(b:KZ)(c:KC)(n:Int)(p:PA):(kp a b c).put n (p.pu (c.mb n.toNat))=kp {a with u:=aa a.u n p} b c:=by
 refine KP.ext (fun m=> ?_) rfl ⟨⟨rfl,rfl,rfl,rfl⟩,rfl,rfl,rfl⟩
 by_cases e:m=n
 ·subst e
  rw[KP.gr]
  show _=(aa a.u m p m).pu _
  rw[ae]
 ·rw[KP.fV _ _ e]
  show(a.u m).pu _=(aa a.u n p m).pu _
  rw[ad _ _ e]
theorem uZ(a:KA)(b:KZ)(c:KC)(n:Int)(p:PA)(u:PU)(h:u=p.pu (c.mb n.toNat)):(kp a b c).put n u=kp {a with u:=aa a.u n p} b c:=by rw[h,Mb]
def bD(a:KA):Nat→Bool:=fun j=>decide (j<20∧(a.u (j:Int)).st≠0)
theorem jx{a:KA}{n:Int}(h:0≤n∧n<20)(hs:(a.u n).st≠0):bD a n.toNat=true:=by
 unfold bD;rw[decide_eq_true_iff];exact⟨by omega,by rw[show((n.toNat:Nat):Int)=n from by omega];exact hs⟩
theorem gF{a a':KA}(h:∀ n,0≤n→n<20→((a.u n).st=0↔(a'.u n).st=0)):bD a=bD a':=by
 funext j
 unfold bD
 rw[decide_eq_decide]
 constructor
 ·rintro⟨x,y⟩;exact⟨x,fun q=>y ((h j (by omega) (by omega)).2 q)⟩
 ·rintro⟨x,y⟩;exact⟨x,fun q=>y ((h j (by omega) (by omega)).1 q)⟩
theorem Gq{a:KA}{n:Int}{p:PA}(h:0≤n∧n<20)(hp:p.st=0):bD {a with u:=aa a.u n p} =eA (bD a) n.toNat:=by
 funext j
 rw[Bool.eq_iff_iff,ek]
 unfold bD
 rw[decide_eq_true_iff,decide_eq_true_iff]
 show(j<20∧(aa a.u n p (j:Int)).st≠0)↔_
 by_cases e:(j:Int)=n
 ·rw[e,ae]
  constructor
  ·rintro⟨_,y⟩;exact absurd hp y
  ·rintro⟨_,y⟩;exact absurd (by omega) y
 ·rw[ad _ _ e]
  constructor
  ·rintro⟨x,y⟩;exact⟨⟨x,y⟩,by omega⟩
  ·rintro⟨⟨x,y⟩,_⟩;exact⟨x,y⟩
theorem AX{a:KA}{n:Int}{p:PA}(h:0≤n∧n<20)(hp:p.st≠0):bD {a with u:=aa a.u n p} =tH (bD a) n.toNat:=by
 funext j
 rw[Bool.eq_iff_iff,eQ]
 unfold bD
 rw[decide_eq_true_iff,decide_eq_true_iff]
 show(j<20∧(aa a.u n p (j:Int)).st≠0)↔_
 by_cases e:(j:Int)=n
 ·rw[e,ae]
  constructor
  ·rintro _;right;omega
  ·rintro _;exact⟨by omega,hp⟩
 ·rw[ad _ _ e]
  constructor
  ·rintro⟨x,y⟩;exact .inl ⟨x,y⟩
  ·rintro(⟨x,y⟩ | y)
   ·exact⟨x,y⟩
   ·exact absurd y (by omega)
def bI(a:KA):Nat→Bool:=fun j=>decide (j<6)&&a.s.here (j:Int)
theorem ky{a:KA}{j:Nat} :bI a j=true↔j<6∧a.s.here (j:Int)=true:=by simp[bI]
theorem zP{a:KA}{z:Int}(h:0≤z∧z<6)(hs:a.s.here z=true):bI a z.toNat=true:=ky.2 ⟨by omega,by rw[show((z.toNat:Nat):Int)=z from by omega];exact hs⟩
abbrev cT(tb:Nat)(t:Nat→TB):Nat→Nat→Value:=fun z=>Tr.aA tb (t z).r (.slice (t z).p (t z).l.length (t z).c)
abbrev rT(e:TypeId)(t:Nat→TB):Nat→iu:=fun z=>⟨.slice (t z).p (t z).k (t z).cap,e,4,(t z).k,bz (t z).C ((t z).k*4)⟩
abbrev yv(P:Nat→Bool)(tb:Nat)(e:TypeId)(t:Nat→TB):List ax:=[.cfam P (fun z=>(t z).b) 4 (cT tb t),.fam P (rT e t)]
abbrev Gz(tb:Nat)(e:TypeId)(t:TB):List ax:=[.cells t.b 0 4 (Tr.aA tb t.r (.slice t.p t.l.length t.c)),bj t.p t.cap e 4 t.k t.C]
theorem Kh(tb:Nat)(t:Nat→TB)(z:Nat)(m:TB):wB (cT tb t) z (Tr.aA tb m.r (.slice m.p m.l.length m.c))=cT tb (bJ t z m):=by
 funext j
 by_cases q:j=z
 ·subst q;rw[vG];unfold cT;rw[da]
 ·rw[vc _ _ q];unfold cT;rw[cV _ _ q]
theorem Ko(e:TypeId)(t:Nat→TB)(z:Nat)(m:TB):pV (rT e t) z ⟨.slice m.p m.k m.cap,e,4,m.k,bz m.C (m.k*4)⟩=rT e (bJ t z m):=by
 funext j
 by_cases q:j=z
 ·subst q;rw[gK];unfold rT;rw[da]
 ·rw[gg _ _ q];unfold rT;rw[cV _ _ q]
theorem KF(t:Nat→TB)(z:Nat)(m:TB):xd (fun z=>(t z).b) z m.b=fun j=>(bJ t z m j).b:=by
 funext j
 by_cases q:j=z
 ·subst q;rw[lN,da]
 ·rw[ks _ _ q,cV _ _ q]
section
variable {W w:World} {S:Nat→Nat→Prop} {H H0:List ax} {tb:Nat} {e:TypeId} {t:Nat→TB} {P:Nat→Bool}
theorem XM.Mm{z:Nat}(hz:P z=true)(hp:bF H0 (yv P tb e t) H)(h:XM W S H0 w):XM W S (.cells (t z).b 0 4 (Tr.aA tb (t z).r (.slice (t z).p (t z).l.length (t z).c))::bj (t z).p (t z).cap e 4 (t z).k (t z).C:: .cfam (eA P z) (fun z=>(t z).b) 4 (cT tb t):: .fam (eA P z) (rT e t)::H) w:=by
 have h0:XM W S (.cfam P (fun z=>(t z).b) 4 (cT tb t):: .fam P (rT e t)::H) w:=h.perm hp.perm
 have h1:=XM.A2 z hz h0
 have h2:=h1.perm (bF.cons (.t2 .here) (bF.nil)).perm
 simp only[List.cons_append,List.nil_append]at h2
 have h3:=XM.oK z hz h2
 have h4:=h3.perm (bF.cons (.t2 .here) (.cons .here (.cons (.there .here) (.cons .here .nil)))).perm
 simp only[List.cons_append,List.nil_append]at h4
 exact h4
theorem XM.LX{z:Nat}(m:TB)(hz:P z=false)(hp:bF H0 (Gz tb e m++yv P tb e t) H)(h:XM W S H0 w):XM W S (yv (tH P z) tb e (bJ t z m)++H) w:=by
 have h:XM W S (.cells m.b 0 4 (Tr.aA tb m.r (.slice m.p m.l.length m.c))::bj m.p m.cap e 4 m.k m.C:: .cfam P (fun z=>(t z).b) 4 (cT tb t):: .fam P (rT e t)::H) w:=h.perm hp.perm
 have h0:=h.perm (bF.cons .here (.cons (.there .here) .nil)).perm
 simp only[List.cons_append,List.nil_append]at h0
 have h1:=XM.GG z (by omega) hz h0
 have h2:=h1.perm (bF.cons (.there .here) (.cons (.there .here) .nil)).perm
 simp only[List.cons_append,List.nil_append]at h2
 have h3:=XM.uG (x:=⟨.slice m.p m.k m.cap,e,4,m.k,bz m.C (m.k*4)⟩) z hz h2
 have h4:=h3.perm (bF.cons (.there .here) (.cons .here .nil)).perm
 simp only[List.cons_append,List.nil_append]at h4
 rw[Kh,Ko,KF]at h4
 exact h4
theorem XM.Na{z:Nat}(m:TB)(hz:P z=true)(hp:bF H0 (Gz tb e m++yv (eA P z) tb e t) H)(h:XM W S H0 w):XM W S (yv P tb e (bJ t z m)++H) w:=by
 have h1:=XM.LX m (lV _ _) hp h
 rwa[uK hz]at h1
theorem XM.Mn{z:Nat}(hz:P z=true)(hp:bF H0 (Gz tb e (t z)++yv (eA P z) tb e t) H)(h:XM W S H0 w):XM W S (yv P tb e t++H) w:=by
 have h1:=XM.Na (t z) hz hp h
 rwa[fN]at h1
theorem XM.Kl{z:Nat}(m:TB)(hp:bF H0 (Gz tb e m) H)(h:XM W S H0 w):XM W S (yv (tH (fun _=>false) z) tb e (bJ (fun _=>m) z m)++H) w:=by
 have h0:XM W S (Gz tb e m++H) w:=h.perm hp.perm
 have h1:XM W S (.cfam (fun _=>false) (fun _=>m.b) 4 (cT tb (fun _=>m)):: .fam (fun _=>false) (rT e (fun _=>m)):: .cells m.b 0 4 (Tr.aA tb m.r (.slice m.p m.l.length m.c))::bj m.p m.cap e 4 m.k m.C::H) w:=XM.Bw (XM.Gl h0)
 exact XM.LX m rfl (bF.cons (.t2 .here) (.cons (.t2 .here) (.cons .here (.cons .here .nil)))) h1
end
structure KA.Wk (a:KA) (T:Int):Prop where
 T0:0≤T∧T≤1000000
 gI:a.g.Inv
 gS:a.g.Small (1000*T)
 sI:a.s.Inv a.dep
 sys:Vm.Sys a.v a.f 20
 nilf:∀ n,0≤n→n<20→(a.u n).st≠1→a.f n.toNat=Vm.MS.nil
 PI:a.P.Inv T
 OI:a.O.Inv T
 lc:∀ n,0≤n→n<20→((a.u n).st≠0↔0≤a.s.loc n)
 st:∀ n,(a.u n).st=0∨(a.u n).st=1∨(a.u n).st=2
 out:∀ n,(n<0∨20≤n)→a.u n=PA.nil
 fd:∀ n i,0≤(a.u n).fd i∧(a.u n).fd i≤24
 bx:∀ n,(a.u n).bx.wait 0=false
structure dq (a:KA) (c:KC) (N:Nat) (T:Int):Prop where
 qO:c.q.toSF.Ok c.d N N
 qR:c.q.jy
 F:c.F.toFF.Ok c.dF T
 rp:c.F.rP=c.rp
 rc:c.F.rC=c.rc
 rl:c.F.roots=c.rl
 tb:∀ z,0≤z→z<6→a.s.here z=true→(c.t z.toNat).Ok
theorem FF.Ok.up{s:Tr.FF}{d:Int→Nat}{B B':Int}(h:s.Ok d B)(hB:B≤B'):s.Ok d B':=⟨h.inv,fun n a b=>Int.le_trans (h.held n a b) hB,Int.le_trans h.nn hB⟩
theorem KA.Wk.up{a:KA}{T T':Int}(h:a.Wk T)(hT:T≤T')(hT':T'≤1000000):a.Wk T':=⟨⟨by have:=h.T0;omega,hT'⟩,h.gI,h.gS.mono (by omega),h.sI,h.sys,h.nilf,h.PI.mono hT,h.OI.mono hT,h.lc,h.st,h.out,h.fd,h.bx⟩
theorem dq.up{a:KA}{c:KC}{N N':Nat}{T T':Int}(h:dq a c N T)(hN:N≤N')(hT:T≤T'):dq a c N' T':=⟨h.qO.mono hN (by omega),h.qR,FF.Ok.up h.F hT,h.rp,h.rc,h.rl,h.tb⟩
theorem C5(s:Tr.FF)(n m:Int):(s.gW n).held m≤s.held m∨(s.gW n).held m=0:=by
 unfold Tr.FF.gW
 split
 ·have e:aa s.held n (s.held n-1) m≤s.held m:=by
   by_cases c:m=n
   ·subst c;rw[ae];omega
   ·rw[ad _ _ c];omega
  unfold Tr.FF.mD
  split
  ·by_cases c:m=n
   ·right;subst c;exact ae _ _ _
   ·left;exact Int.le_trans (Int.le_of_eq (ad _ _ c)) e
  ·exact .inl e
 ·exact .inl (Int.le_refl _)
theorem FF.Ok.IG{s:Tr.FF}{d:Int→Nat}{B:Int}(h:s.Ok d B)(n:Int):(s.gW n).Ok d B:=
 ⟨(h.gW n).inv,fun m a b=>by
  have h1:=h.held m a b
  have h2:=h.nn
  rcases C5 s n m with q | q<;>omega,h.nn⟩
theorem FF.Ok.JQ:∀ (l:List Tr.MT) {s:Tr.FF} {d:Int→Nat} {B:Int},s.Ok d B→(Tr.sZ s l).Ok d B
 | [],_,_,_,h=>h
 | m::r,_,_,_,h=>FF.Ok.JQ r (FF.Ok.IG (FF.Ok.IG h _) _)
theorem FF.Ok.Ho{s:Tr.FF}{d:Int→Nat}{B:Int}(h:s.Ok d B)(l:List Tr.MT)(r:Tr.WH):(Tr.va s l r).Ok d B:=FF.Ok.IG (FF.Ok.JQ l h) _
theorem FF.Ok.lz{s:Tr.FF}{d:Int→Nat}{B:Int}(h:s.Ok d B)(O:Tr.OS)(n:Int):(Tr.gH s O n).Ok d B:=by
 unfold Tr.gH;split
 ·exact FF.Ok.IG h _
 ·exact h
theorem OS.Inv.lz{O:Tr.OS}{J:Int}(h:O.Inv J)(n:Int):(Tr.eK O n).Inv J:=by
 have hm:=h.close n
 refine⟨fun m a b=> ?_,hm.at_,hm.kind,hm.write⟩
 have h1:=(hm.refs m a b).1
 have h2:=(h.refs m a b)
 refine⟨h1,?_⟩
 unfold Tr.eK
 split
 ·exact h2.2
 ·split
  ·show aa O.refs n (O.refs n-1) m≤J
   by_cases c:m=n
   ·subst c;rw[ae];omega
   ·rw[ad _ _ c];exact h2.2
  ·show aa O.refs n 0 m≤J
   by_cases c:m=n
   ·subst c;rw[ae];omega
   ·rw[ad _ _ c];exact h2.2
theorem PS.MI{P:Tr.PS}{K:Int}(h:P.Inv K)(n:Int)(w:Bool):(P.gD n w (-1)).2.Inv K:=by
 have hm:=Tr.PS.GD (n:=n) (w:=w) h (.inr rfl)
 have key:∀ m k,(P.gD n w (-1)).2.e m k≤P.e m k:=fun m k=>by
  unfold Tr.PS.gD
  split
  ·exact Int.le_refl _
  ·split
   ·exact Int.le_refl _
   ·show aX P.e n (Tr.uj w) (P.e n (Tr.uj w)+ -1) m k≤_
    unfold aX
    split
    ·rename_i c;rw[c.1,c.2];omega
    ·exact Int.le_refl _
 exact⟨fun m=>⟨(hm.e0 m).1,Int.le_trans (key m 0) (h.e0 m).2⟩,fun m=>⟨(hm.e1 m).1,Int.le_trans (key m 1) (h.e1 m).2⟩,hm.cl,hm.len⟩
theorem PS.lz{P:Tr.PS}{K:Int}(h:P.Inv K)(O:Tr.OS)(n:Int):(Tr.fx P O n).Inv K:=by
 unfold Tr.fx;split
 ·exact PS.MI h _ _
 ·exact h
theorem TG.GJ{g:Gr.TG}{B:Int}(h:g.Inv)(hS:g.Small B)(n p m:Int):(g.ea n p m).Small B:=by
 have hI:=h.ea n p m
 intro y y0 y1
 have h1:=hS y y0 y1
 unfold Gr.TG.ea at hI ⊢
 split
 ·rename_i c
  rw[if_pos c]at hI
  obtain⟨⟨n0,n1,n2⟩,p0,p1,m0,m1⟩:=Gr.TG.qi c
  have hw:=h.ok.cr n0 n1 n2
  show-B≤g.pr y+ -p*((g.cr n).count y:Int)∧g.pr y+ -p*((g.cr n).count y:Int)≤B∧ -B≤g.pg y+ -m*((g.cr n).count y:Int)∧g.pg y+ -m*((g.cr n).count y:Int)≤B
  have k0:(0:Int)≤((g.cr n).count y:Int):=by omega
  have e1:0≤p*((g.cr n).count y:Int):=Int.mul_nonneg (by omega) k0
  have e2:0≤m*((g.cr n).count y:Int):=Int.mul_nonneg (by omega) k0
  have e3: -p*((g.cr n).count y:Int)= -(p*((g.cr n).count y:Int)):=Int.neg_mul _ _
  have e4: -m*((g.cr n).count y:Int)= -(m*((g.cr n).count y:Int)):=Int.neg_mul _ _
  by_cases q:y∈g.cr n
  ·have hn:=hI.nn y0 y1 (hw.2.2 y q)
   have hn1:0≤g.pr y+ -p*((g.cr n).count y:Int)∧0≤g.pg y+ -m*((g.cr n).count y:Int):=hn
   omega
  ·have z:(g.cr n).count y=0:=List.count_eq_zero.2 q
   rw[z];simp only[Int.ofNat_zero,Int.mul_zero,Int.natCast_zero]at*
   simp;omega
 ·exact h1
theorem iy{f:Int→Int}{x:Int} :∀ {k:Nat},x∈Sp.cx f k↔∃ j:Int,0≤j∧j<k∧0≤f j∧f j=x
 | 0=>by simp[Sp.cx];omega
 | k+1=>by
  rw[Sp.cx,List.mem_append,iy]
  constructor
  ·rintro(⟨j,a,b,c,d⟩ | h)
   ·exact⟨j,a,by omega,c,d⟩
   ·split at h
    ·rename_i q
     exact⟨k,by omega,by omega,q,(List.mem_singleton.1 h).symm⟩
    ·cases h
  ·rintro⟨j,a,b,c,d⟩
   by_cases e:j=(k:Int)
   ·subst e
    right;rw[if_pos c];exact List.mem_singleton.2 d.symm
   ·exact .inl ⟨j,a,by omega,c,d⟩
theorem iQ{f:Int→Int}(hi:∀ q q',0≤f q→f q'=f q→q'=q):∀ k:Nat,(Sp.cx f k).Nodup
 | 0=>List.nodup_nil
 | k+1=>by
  rw[Sp.cx]
  split
  ·rename_i c
   refine List.nodup_append.2 ⟨iQ hi k,List.nodup_cons.2 ⟨by simp,List.nodup_nil⟩,fun x hx y hy=> ?_⟩
   rw[List.mem_singleton.1 hy]
   rintro rfl
   obtain⟨j,a,b,_,d⟩:=iy.1 hx
   have:=hi k j c d
   omega
  ·rw[List.append_nil];exact iQ hi k
theorem SS.CA{s:Sp.SS}{dep:Int→Nat}(h:s.Inv dep)(z:Int):(s.mem z).1.Nodup:=by
 unfold Sp.SS.mem
 split
 ·exact List.nodup_nil
 ·exact iQ (fun q q' a b=>h.inj z q q' a b) 21
theorem SS.qF(s:Sp.SS)(z:Int):(s.drop z).2.loc=s.loc:=by
 unfold Sp.SS.drop
 split
 ·rfl
 ·split
  ·rfl
  ·split<;>rfl
theorem SS.Cx{s:Sp.SS}{p:Int}(hp:0≤p∧p<20):(s.leave p).2.loc p<0:=by
 unfold Sp.SS.leave
 split
 ·rename_i c
  unfold Sp.SS.bZ at c
  rw[if_neg (by omega)]at c
  split at c
  ·assumption
  ·exact absurd rfl c
 ·show aa s.loc p (-1) p<0
  rw[ae];omega
theorem SS.rU(s:Sp.SS){p m:Int}(h:m≠p):(s.leave p).2.loc m=s.loc m:=by
 unfold Sp.SS.leave
 split
 ·rfl
 ·exact ad _ _ h
theorem SS.mH(s:Sp.SS)(z:Int):((s.drop z).1≠0∧(s.drop z).2=s)∨((s.drop z).1=0∧(0≤z∧z<6)∧z≠0∧s.here z=true∧(s.drop z).2= {s with here:=aa s.here z false,par:=aa s.par z 0} ∧(∀ j,s.bX z j<0∨¬(0≤j∧j<21))∧∀ j:Int,0≤j→j<6→¬(s.here j=true∧s.par j=z)):=by
 by_cases h:(s.drop z).1=0
 ·right
  refine⟨h,?_⟩
  unfold Sp.SS.drop at h ⊢
  split at h
  ·rename_i c;exact absurd h c
  ·rename_i c
   have hi:(0≤z∧z<6)∧s.here z=true:=by
    have c:s.is z=0:=by omega
    unfold Sp.SS.is at c
    split at c
    ·omega
    ·split at c
     ·exact⟨by omega,by assumption⟩
     ·omega
   rw[if_neg c]
   split at h
   ·simp at h
   ·rename_i d
    rw[if_neg d]
    split at h
    ·simp at h
    ·rename_i e
     refine⟨hi.1,fun q=>d (.inl q),hi.2,rfl,fun j=> ?_,fun j j0 j1 q=> ?_⟩
     ·by_cases q:0≤j∧j<21
      ·left
       refine Decidable.byContradiction fun r=>d (.inr ?_)
       have:s.bX z j∈s.members z:=iy.2 ⟨j,by omega,by omega,by omega,rfl⟩
       exact List.length_pos_of_mem this
      ·exact .inr q
     ·unfold Sp.SS.kids at e
      have:=Vm.jX e j j0 (by omega)
      simp[q.1,q.2]at this
 ·exact .inl ⟨h,SS.I6 h⟩
def qG(f:Int→Int)(i:Int):Int→Int:=fun j=>if 0≤j∧j<i∧f j>0 then 0 else f j
theorem ME(f:Int→Int):qG f 0=f:=by funext j;unfold qG;rw[if_neg (by omega)]
theorem H7(f:Int→Int){i:Int}(hi:0≤i)(h:f i>0):aa (qG f i) i 0=qG f (i+1):=by
 funext j
 by_cases c:j=i
 ·subst c;rw[ae];unfold qG;rw[if_pos ⟨hi,by omega,h⟩]
 ·rw[ad _ _ c];unfold qG
  by_cases e:0≤j∧j<i∧f j>0
  ·rw[if_pos e,if_pos ⟨e.1,by omega,e.2.2⟩]
  ·rw[if_neg e,if_neg (fun q=>e ⟨q.1,by omega,q.2.2⟩)]
theorem G1(f:Int→Int){i:Int}(h:¬f i>0):qG f i=qG f (i+1):=by
 funext j
 unfold qG
 by_cases e:0≤j∧j<i∧f j>0
 ·rw[if_pos e,if_pos ⟨e.1,by omega,e.2.2⟩]
 ·rw[if_neg e,if_neg (fun q=>by
   by_cases c:j=i
   ·subst c;exact h q.2.2
   ·exact e ⟨q.1,by omega,q.2.2⟩)]
def rQ(f:Int→Int)(O:Tr.OS)(P:Tr.PS):Nat→Tr.OS×Tr.PS
 | 0=>(O,P)
 | k+1=>if f (k:Int)>0 then(Tr.eK (rQ f O P k).1 (f (k:Int)-1),Tr.fx (rQ f O P k).2 (rQ f O P k).1 (f (k:Int)-1))else rQ f O P k
theorem I8{f:Int→Int}(O:Tr.OS)(P:Tr.PS){i:Int}(hi:0≤i)(h:f i>0):rQ f O P (i+1).toNat=(Tr.eK (rQ f O P i.toNat).1 (f i-1),Tr.fx (rQ f O P i.toNat).2 (rQ f O P i.toNat).1 (f i-1)):=by
 rw[show(i+1).toNat=i.toNat+1 by omega]
 conv=>lhs;unfold rQ
 rw[show((i.toNat:Nat):Int)=i by omega,if_pos h]
theorem FJ{f:Int→Int}(O:Tr.OS)(P:Tr.PS){i:Int}(hi:0≤i)(h:¬f i>0):rQ f O P (i+1).toNat=rQ f O P i.toNat:=by
 rw[show(i+1).toNat=i.toNat+1 by omega]
 conv=>lhs;unfold rQ
 rw[show((i.toNat:Nat):Int)=i by omega,if_neg h]
theorem nU{f:Int→Int}{O:Tr.OS}{P:Tr.PS}{T:Int}(hO:O.Inv T)(hP:P.Inv T):∀ k:Nat,(rQ f O P k).1.Inv T∧(rQ f O P k).2.Inv T
 | 0=>⟨hO,hP⟩
 | k+1=>by
  obtain⟨h1,h2⟩:=nU (f:=f) hO hP k
  unfold rQ
  split
  ·exact⟨OS.Inv.lz h1 _,PS.lz h2 _ _⟩
  ·exact⟨h1,h2⟩
abbrev KA.um(a:KA)(n:Int):Int×Int×Vm.VB×Vm.MS:=(a.f n.toNat).ew a.v 0 16
theorem BR{m:Vm.MS}(h:m.Ok)(v:Vm.VB):(m.ew v 0 16).2.2.2=Vm.MS.nil:=by
 unfold Vm.MS.ew
 rw[if_neg (by decide)]
 have e:∀ {α:Type} (f:Int→α) (v:α),(∀ i,i<0∨16≤i→f i=v)→Vm.dy f 0 16 v=fun _=>v:=fun f v h=>by
  funext i;unfold Vm.dy;split
  ·rfl
  ·exact h i (by omega)
 have h1:∀ i,i<0∨16≤i→m.fr i=0:=fun i hi=>h.un i (h.f.out i hi)
 show Vm.MS.mk _ _ _=_
 rw[e m.aI 0 h.f.out,e m.fr 0 h1,e m.own false (fun i hi=>h.ow i (h1 i hi))]
 rfl
def KA.bW(a:KA)(n co:Int):KA:=
 {a with u:=aa a.u n {a.u n with st:=2,code:=co,fd:=qG (a.u n).fd 6},g:=a.g.ea (a.u n).grp 0 (a.um n).1,v:=(a.um n).2.2.1,f:=(bJ a.f n.toNat (a.um n).2.2.2),O:=(rQ (a.u n).fd a.O a.P 6).1,P:=(rQ (a.u n).fd a.O a.P 6).2}
theorem gl{α:Type}(f:Int→α)(n m:Int)(x:α){Q:α→Prop}(h1:m=n→Q x)(h2:m≠n→Q (f m)):Q (aa f n x m):=by
 by_cases e:m=n
 ·subst e;rw[ae];exact h1 rfl
 ·rw[ad _ _ e];exact h2 e
theorem KA.Wk.bW{a:KA}{T:Int}(h:a.Wk T){n:Int}(hn:0≤n∧n<20)(hl:(a.u n).st=1)(co:Int):(a.bW n co).Wk T where
 T0:=h.T0
 gI:=h.gI.ea _ _ _
 gS:=TG.GJ h.gI h.gS _ _ _
 sI:=h.sI
 sys:=h.sys.ew (z:=n.toNat) (by omega) 0 16
 nilf:=fun m h0 h1 h2=>by
  show bJ a.f n.toNat (a.um n).2.2.2 m.toNat=_
  by_cases e:m=n
  ·subst e;rw[da];exact BR (h.sys.mo _ (by omega)) _
  ·rw[cV _ _ (by omega)]
   refine h.nilf m h0 h1 (fun q=>h2 ?_)
   show(aa a.u n _ m).st=1
   rw[ad _ _ e];exact q
 PI:=(nU (f:=(a.u n).fd) h.OI h.PI 6).2
 OI:=(nU (f:=(a.u n).fd) h.OI h.PI 6).1
 lc:=fun m a0 a1=>gl a.u n m _ (Q:=fun x=>x.st≠0↔0≤a.s.loc m) (fun e=>by
  subst e;exact⟨fun _=>(h.lc m a0 a1).1 (by omega),fun _=>(by decide:(2:Int)≠0)⟩) (fun _=>h.lc m a0 a1)
 st:=fun m=>gl a.u n m _ (Q:=fun x=>x.st=0∨x.st=1∨x.st=2) (fun _=>.inr (.inr rfl)) (fun _=>h.st m)
 out:=fun m hm=>by
  show aa a.u n _ m=_
  rw[ad _ _ (by omega)];exact h.out m hm
 fd:=fun m i=>gl a.u n m _ (Q:=fun x=>0≤x.fd i∧x.fd i≤24) (fun _=>by
  have:=h.fd n i
  show 0≤qG _ 6 i∧qG _ 6 i≤24
  unfold qG;split<;>omega) (fun _=>h.fd m i)
 bx:=fun m=>gl a.u n m _ (Q:=fun x=>x.bx.wait 0=false) (fun _=>h.bx n) (fun _=>h.bx m)
def KA.cy(a:KA)(n:Int):KA:= {a with u:=aa a.u n PA.nil,g:=a.g.ea (a.u n).grp 1 0,s:=(a.s.leave n).2}
theorem KA.Wk.cy{a:KA}{T:Int}(h:a.Wk T){n:Int}(hn:0≤n∧n<20)(hs:(a.u n).st≠1):(a.cy n).Wk T where
 T0:=h.T0
 gI:=h.gI.ea _ _ _
 gS:=TG.GJ h.gI h.gS _ _ _
 sI:=h.sI.leave _
 sys:=h.sys
 nilf:=fun m h0 h1 h2=>by
  by_cases e:m=n
  ·subst e;exact h.nilf m h0 h1 hs
  ·refine h.nilf m h0 h1 (fun q=>h2 ?_)
   show(aa a.u n _ m).st=1
   rw[ad _ _ e];exact q
 PI:=h.PI
 OI:=h.OI
 lc:=fun m a0 a1=>by
  show(aa a.u n PA.nil m).st≠0↔0≤(a.s.leave n).2.loc m
  by_cases e:m=n
  ·subst e
   rw[ae]
   exact⟨fun q=>absurd rfl q,fun q=>absurd q (by have:=SS.Cx (s:=a.s) (p:=m) hn;omega)⟩
  ·rw[ad _ _ e,SS.rU _ e];exact h.lc m a0 a1
 st:=fun m=>gl a.u n m _ (Q:=fun x=>x.st=0∨x.st=1∨x.st=2) (fun _=>.inl rfl) (fun _=>h.st m)
 out:=fun m hm=>gl a.u n m _ (Q:=fun x=>x=PA.nil) (fun _=>rfl) (fun _=>h.out m hm)
 fd:=fun m i=>gl a.u n m _ (Q:=fun x=>0≤x.fd i∧x.fd i≤24) (fun _=>by simp[PA.nil]) (fun _=>h.fd m i)
 bx:=fun m=>gl a.u n m _ (Q:=fun x=>x.bx.wait 0=false) (fun _=>rfl) (fun _=>h.bx m)
def KA.bB(a:KA)(z:Int):KA:= {a with s:=(a.s.drop z).2}
theorem KA.Wk.bB{a:KA}{T:Int}(h:a.Wk T)(z:Int):(a.bB z).Wk T:=⟨h.T0,h.gI,h.gS,h.sI.drop z,h.sys,h.nilf,h.PI,h.OI,(fun n a0 a1=>by rw[show(a.bB z).s.loc=a.s.loc from SS.qF _ _];exact h.lc n a0 a1),h.st,h.out,h.fd,h.bx⟩
def fc(f:Int→Int)(a:Int):Int:=match ck (fun k=>decide (a≤k)&&(f k==0)) 6 with
 | some k=>k
 | none=> -1
theorem BI{f:Int→Int}{a i:Int}(h0:0≤i∧a≤i∧i<6)(h1:f i=0)(hn:∀ j:Int,0≤j→a≤j→j<i→f j≠0):fc f a=i:=by
 unfold fc
 have e:ck (fun k=>decide (a≤k)&&(f k==0)) 6=some i.toNat:=by
  refine cU (k:=i) h0.1 (by omega) ?_ (fun j hj0 hj=> ?_)
  ·simp[h0.2.1,h1]
  ·by_cases c:a≤j
   ·have:=hn j hj0 c hj;simp[this]
   ·simp[c]
 rw[e];show((i.toNat:Nat):Int)=i;omega
theorem yB{f:Int→Int}{a:Int}(hn:∀ j:Int,0≤j→a≤j→j<6→f j≠0):fc f a= -1:=by
 unfold fc
 rw[cF (fun j hj0 hj=>by
  by_cases c:a≤j
  ·have:=hn j hj0 c (by omega);simp[this]
  ·simp[c])]
def KP.cC(k:KP)(n i:Int):Int:=if k.live n≠0 then k.live n else if i<0∨6≤i then 1 else if(k.u n).fd i=0 then 2 else 0
def KP.bP(k:KP)(n i:Int):Int:=if k.cC n i=0 then(k.u n).fd i-1 else 0
theorem KP.kq{k:KP}{n i:Int}(h:k.cC n i=0):(0≤n∧n<20)∧(k.u n).st=1∧(0≤i∧i<6)∧(k.u n).fd i≠0∧k.bP n i=(k.u n).fd i-1:=by
 have hv:k.bP n i=(k.u n).fd i-1:=by unfold KP.bP;rw[if_pos h]
 unfold KP.cC at h
 split at h
 ·omega
 ·split at h
  ·omega
  ·split at h
   ·omega
   ·have:=KP.dN (k:=k) (n:=n) (by omega)
    exact⟨this.1,this.2,by omega,by assumption,hv⟩
theorem LH(a:KA)(b:KZ)(c:KC)(n:Int):(kp a b c).put n {(kp a b c).u n with fd:=qG (a.u n).fd 0} =kp a b c:=by
 rw[ME];exact KP.wI _ _
theorem Lx(a:KA)(b:KZ)(c:KC){n i:Int}(hi:0≤i)(h:(a.u n).fd i>0):((kp a b c).put n {(kp a b c).u n with fd:=qG (a.u n).fd i}).put n {((kp a b c).put n {(kp a b c).u n with fd:=qG (a.u n).fd i}).u n with fd:=aa (((kp a b c).put n {(kp a b c).u n with fd:=qG (a.u n).fd i}).u n).fd i 0} =(kp a b c).put n {(kp a b c).u n with fd:=qG (a.u n).fd (i+1)} :=by
 rw[KP.vv,KP.gr]
 show(kp a b c).put n {(kp a b c).u n with fd:=aa (qG (a.u n).fd i) i 0} =_
 rw[H7 _ hi h]
theorem Kx(a:KA)(b:KZ)(c:KC){n co:Int}(hl:(a.u n).st=1)(hn:0≤n∧n<20)(K:KP)(hK:K=(kp a b c).put n {(kp a b c).u n with fd:=qG (a.u n).fd 6}):(K.put n {K.u n with st:=2}).put n {(K.put n {K.u n with st:=2}).u n with code:=co} =kp (a.bW n co) b c:=by
 subst hK
 rw[KP.gr,KP.vv,KP.vv,KP.gr]
 refine(uZ a b c n {a.u n with st:=2,code:=co,fd:=qG (a.u n).fd 6} _ ?_).trans rfl
 show PU.mk 2 (a.u n).par (a.u n).grp co (if(a.u n).st=0 then _ else _) _ _=PU.mk 2 (a.u n).par (a.u n).grp co (if(2:Int)=0 then _ else _) _ _
 rw[if_neg (by omega),if_neg (by omega)]
 rfl
theorem Jj(a:KA){n co:Int}(hl:(a.u n).st=1):bD (a.bW n co)=bD a:=by
 refine(gF fun m _ _=> ?_).symm
 show(a.u m).st=0↔(aa a.u n _ m).st=0
 by_cases e:m=n
 ·subst e;rw[ae];constructor
  ·intro q;omega
  ·intro q;exact absurd (show(2:Int)=0 from q) (by decide)
 ·rw[ad _ _ e]
theorem HG(a:KA)(b:KZ)(c:KC)(n:Int):(kp a b c).put n PU.nil=kp (a.cy n) b c:=by
 refine KP.ext (fun m=> ?_) ?_ ⟨⟨rfl,rfl,rfl,rfl⟩,rfl,rfl,rfl⟩
 ·by_cases e:m=n
  ·subst e
   rw[KP.gr]
   show _=(aa a.u m PA.nil m).pu _
   rw[ae];rfl
  ·rw[KP.fV _ _ e]
   show(a.u m).pu _=(aa a.u n PA.nil m).pu _
   rw[ad _ _ e]
 ·have e:(a.s.leave n).2.here=a.s.here:=by unfold Sp.SS.leave;split<;>rfl
  show _=fun z=>if(a.s.leave n).2.here z then _ else _
  rw[e];rfl
theorem SS.rK(s:Sp.SS)(n:Int):(s.leave n).2.here=s.here:=by unfold Sp.SS.leave;split<;>rfl
theorem D2(a:KA)(n:Int):bI (a.cy n)=bI a:=by
 unfold bI
 rw[show(a.cy n).s.here=a.s.here from SS.rK _ _]
theorem Ef(a:KA){n:Int}(hn:0≤n∧n<20):bD (a.cy n)=eA (bD a) n.toNat:=(gF fun _ _ _=>Iff.rfl).trans (Gq (p:=PA.nil) hn rfl)
theorem Ek{a:KA}{z:Int}(hz:0≤z∧z<6)(h:(a.s.drop z).2= {a.s with here:=aa a.s.here z false,par:=aa a.s.par z 0}):bI (a.bB z)=eA (bI a) z.toNat:=by
 funext j
 rw[Bool.eq_iff_iff,ek,ky,ky]
 show j<6∧(a.s.drop z).2.here j=true↔_
 rw[h]
 show j<6∧aa a.s.here z false j=true↔_
 by_cases e:(j:Int)=z
 ·rw[e,ae]
  constructor
  ·rintro⟨_,q⟩;cases q
  ·rintro⟨_,q⟩;exact absurd (by omega) q
 ·rw[ad _ _ e]
  constructor
  ·rintro⟨x,y⟩;exact⟨⟨x,y⟩,by omega⟩
  ·rintro⟨x,_⟩;exact x
theorem JU(a:KA)(b:KZ)(c:KC){z:Int}(h:a.s.here z=true):(kp a b c).ms z=ptr (c.t z.toNat).b 0 0:=if_pos h
theorem Hz(a:KA)(b:KZ)(c:KC){z:Int}(h:(a.s.drop z).2= {a.s with here:=aa a.s.here z false,par:=aa a.s.par z 0}):({kp a b c with ms:=aa (kp a b c).ms z (.pointer none)} :KP)=kp (a.bB z) b c:=by
 refine KP.ext (fun m=>rfl) ?_ ⟨⟨rfl,rfl,rfl,rfl⟩,rfl,rfl,rfl⟩
 show aa (kp a b c).ms z (.pointer none)=fun y=>if(a.s.drop z).2.here y then ptr (c.t y.toNat).b 0 0 else .pointer none
 rw[h]
 funext y
 by_cases e:y=z
 ·subst e
  rw[ae]
  show _=if aa a.s.here y false y=true then _ else _
  rw[ae];rfl
 ·rw[ad _ _ e]
  show(if a.s.here y then _ else _)=if aa a.s.here z false y=true then _ else _
  rw[ad _ _ e]
def KA.eG(h:Int)(a:KA)(m:Int):KA:=if m=h then a else(if(a.u m).st=1 then a.bW m 0 else a).cy m
def KA.round(a:KA):KA:=(Sp.fg a.s.here 6).foldl KA.bB a
def KA.members(a:KA)(z h:Int):KA:=(a.s.mem z).1.foldl (KA.eG h) a
def KA.rounds(a:KA):Nat→KA
 | 0=>a
 | k+1=>(a.rounds k).round
def KA.bO(a:KA)(z h:Int):KA:=(a.members z h).rounds 4
theorem kh{α β:Type}(f:α→β→α)(a:α)(l:List β)(x:β):(l++[x]).foldl f a=f (l.foldl f a) x:=by rw[List.foldl_append];rfl
theorem qq(a:KA){n m:Int}(co:Int)(h:m≠n):(a.bW n co).u m=a.u m:=ad _ _ h
theorem kZ(a:KA){n m:Int}(h:m≠n):(a.cy n).u m=a.u m:=ad _ _ h
theorem yj(a:KA)(h:Int){n m:Int}(e:m≠n):(a.eG h n).u m=a.u m:=by
 unfold KA.eG
 split
 ·rfl
 ·rw[kZ _ e]
  split
  ·exact qq _ _ e
  ·rfl
theorem nA(a:KA)(n co:Int):((a.bW n co).u n).st=2:=by
 show(aa a.u n _ n).st=2
 rw[ae]
theorem SS.Bf{s:Sp.SS}{z p:Int}(h:p∈(s.mem z).1):∃ q:Int,0≤q∧q<21∧s.bX z q=p∧0≤p:=by
 unfold Sp.SS.mem at h
 split at h
 ·cases h
 ·obtain⟨j,h0,h1,h2,h3⟩:=iy.1 h
  exact⟨j,by omega,by omega,h3,by omega⟩
theorem KA.FL(a:KA)(h:Int){m:Int} :∀ {l:List Int},m∉l→(l.foldl (KA.eG h) a).u m=a.u m
 | [],_=>rfl
 | x::r,hm=>by
  rw[List.foldl_cons,KA.FL (a.eG h x) h (fun q=>hm (.tail _ q)),yj _ _ (by rintro rfl;exact hm (.head _))]
theorem KA.Wk.eG{a:KA}{T:Int}(w:a.Wk T)(h:Int){m:Int}(hm:0≤m∧m<20):(a.eG h m).Wk T:=by
 unfold KA.eG
 split
 ·exact w
 ·split
  ·rename_i c
   exact(w.bW hm c 0).cy hm (by rw[nA];decide)
  ·rename_i c;exact w.cy hm c
theorem SS.mem_range{s:Sp.SS}{dep:Int→Nat}(h:s.Inv dep){z p:Int}(hp:p∈(s.mem z).1):(0≤p∧p<20)∧0≤s.loc p:=by
 obtain⟨q,_,_,e,p0⟩:=SS.Bf hp
 have:=h.mem z q p p0 e
 exact⟨⟨p0,this.1⟩,this.2.2.2.1⟩
theorem KA.Wk.zd{a:KA}{T:Int}(w:a.Wk T)(z:Int){p:Int}(hp:p∈(a.s.mem z).1):(0≤p∧p<20)∧(a.u p).st≠0:=by
 obtain⟨h1,h2⟩:=SS.mem_range w.sI hp
 exact⟨h1,(w.lc p h1.1 h1.2).2 h2⟩
theorem KA.Wk.Jo{T:Int}(h:Int):∀ {l:List Int} {a:KA},a.Wk T→(∀ m∈l,0≤m∧m<20)→(l.foldl (KA.eG h) a).Wk T
 | [],_,w,_=>w
 | x::r,_,w,hl=>KA.Wk.Jo (l:=r) h (w.eG h (hl x (.head _))) (fun m hm=>hl m (.tail _ hm))
theorem KA.Wk.members{a:KA}{T:Int}(w:a.Wk T)(z h:Int):(a.members z h).Wk T:=KA.Wk.Jo h w (fun _ hm=>(SS.mem_range w.sI hm).1)
theorem KA.Wk.pE{T:Int} :∀ {l:List Int} {a:KA},a.Wk T→(l.foldl KA.bB a).Wk T
 | [],_,w=>w
 | x::r,_,w=>KA.Wk.pE (l:=r) (w.bB x)
theorem KA.Wk.round{a:KA}{T:Int}(w:a.Wk T):a.round.Wk T:=KA.Wk.pE w
theorem KA.Wk.rounds{a:KA}{T:Int}(w:a.Wk T):∀ k,(a.rounds k).Wk T
 | 0=>w
 | k+1=>(w.rounds k).round
theorem KA.Wk.bO{a:KA}{T:Int}(w:a.Wk T)(z h:Int):(a.bO z h).Wk T:=(w.members z h).rounds 4
theorem KA.xa(a:KA){i:Int}(h:0≤i):a.rounds (i+1).toNat=(a.rounds i.toNat).round:=by
 rw[show(i+1).toNat=i.toNat+1 by omega];rfl
theorem lJ{l:List Int}{i:Int}(h:0≤i∧i<l.length):l.take (i+1).toNat=l.take i.toNat++[ep l i]:=Vm.JM h
theorem FU{l:List Int}(hn:l.Nodup){i:Int}(h:0≤i∧i<l.length):ep l i∉l.take i.toNat:=by
 intro q
 have h1:(l.take i.toNat++l.drop i.toNat).Nodup:=by rwa[List.take_append_drop]
 have h2:ep l i∈l.drop i.toNat:=by
  rw[List.drop_eq_getElem_cons (by omega)]
  have e2:ep l i=l[i.toNat]'(by omega):=by
   unfold ep
   rw[List.getD_eq_getElem?_getD,List.getElem?_eq_getElem (by omega)];rfl
  rw[e2];exact .head _
 exact(List.nodup_append.1 h1).2.2 _ q _ h2 rfl
theorem FF.iV(s:Tr.FF)(n:Int):(s.gW n).roots=s.roots:=by
 unfold Tr.FF.gW Tr.FF.mD;split
 ·split<;>rfl
 ·rfl
theorem FF.rW:∀ (l:List Tr.MT) (s:Tr.FF),(Tr.sZ s l).roots=s.roots
 | [],_=>rfl
 | m::r,s=>(FF.rW r _).trans ((FF.iV _ _).trans (FF.iV _ _))
theorem FF.vA(s:Tr.FF)(l:List Tr.MT)(r:Tr.WH):(Tr.va s l r).roots=s.roots:=(FF.iV _ _).trans (FF.rW _ _)
theorem SS.B9{s:Sp.SS}{z y:Int}(h:(s.drop z).2.here y=true):s.here y=true:=by
 rcases SS.mH s z with⟨_,e⟩ | ⟨_,_,_,_,e,_⟩
 ·rwa[e]at h
 ·rw[e]at h
  have h:aa s.here z false y=true:=h
  by_cases c:y=z
  ·subst c;rw[ae]at h;cases h
  ·rwa[ad _ _ c]at h
theorem ah.D6(k:KP){z:Int}(h:0≤z∧z<6){v:Value}(e:k.ms z=v):0+447+z.toNat*1<453∧ah k (0+447+z.toNat*1)=v:=⟨(ah.FR k h).1,(ah.FR k h).2.trans e⟩
theorem dq.E0{a:KA}{c:KC}{N:Nat}{T:Int}{n:Int}(h:dq a c N T):dq (a.cy n) c N T:=⟨h.qO,h.qR,h.F,h.rp,h.rc,h.rl,fun z h0 h1 h2=>h.tb z h0 h1 (by rwa[show(a.cy n).s.here=a.s.here from SS.rK _ _]at h2)⟩
theorem ki(x:Sg.BS)(n:Int)(h:x.wait 0=false):(x.send n).2.wait 0=false:=by
 unfold Sg.BS.send
 split
 ·rename_i c
  have:=(Sg.BS.gi n).1 c
  show(if x.mu n=1 then x else _).wait 0=false
  split
  ·exact h
  ·show aa x.wait n true 0=false
   rw[ad _ _ (by omega)];exact h
 ·exact h
theorem py{x y:Sg.BS}{h:Int}(e:∀ k:Int,0≤k→k<9→(x.wait k&&(!x.held k&&decide (x.bd k=h)))=(y.wait k&&(!y.held k&&decide (y.bd k=h)))):x.first h=y.first h:=by
 unfold Sg.BS.first
 have e2:ck (fun k=>x.wait k&&(!x.held k&&decide (x.bd k=h))) 9=ck (fun k=>y.wait k&&(!y.held k&&decide (y.bd k=h))) 9:=by
  cases hy:ck (fun k=>y.wait k&&(!y.held k&&decide (y.bd k=h))) 9 with
  | none=>exact cF (fun j j0 j1=>(e j j0 (by omega)).trans (Vm.jX hy j j0 j1))
  | some m=>
   obtain⟨h1,h2,h3⟩:=Vm.fO hy
   have:=cU (p:=fun k=>x.wait k&&(!x.held k&&decide (x.bd k=h))) (m:=9) (k:=(m:Int)) (by omega) (by omega) ((e m (by omega) (by omega)).trans h2) (fun j j0 j1=>(e j j0 (by omega)).trans (h3 j j0 j1))
   rw[this];rfl
 rw[e2]
theorem uC(x:Sg.BS):(x.send 3).2.first 0=x.first 0:=by
 unfold Sg.BS.send
 rw[if_pos (by decide)]
 show(if x.mu 3=1 then x else _).first 0=_
 split
 ·rfl
 ·rename_i c
  refine py fun k k0 k1=> ?_
  show(aa x.wait 3 true k&&_)=_
  by_cases e:k=3
  ·subst e
   have h0:¬x.bd 3=0:=fun q=>c (by unfold Sg.BS.mu;rw[if_pos ⟨rfl,q⟩])
   rw[decide_eq_false h0];simp
  ·rw[ad _ _ e]
def KA.eT(a:KA)(n:Int)(x:Sg.BS):KA:= {a with u:=aa a.u n {a.u n with bx:=x}}
def KA.live(a:KA)(n:Int):Int:=if n<0∨20≤n then 1 else if(a.u n).st=1 then 0 else 2
theorem HR(a:KA)(b:KZ)(c:KC)(n:Int):(kp a b c).live n=a.live n:=rfl
theorem KA.kD{a:KA}{n:Int}(h:a.live n=0):(0≤n∧n<20)∧(a.u n).st=1:=by
 unfold KA.live at h
 split at h
 ·omega
 ·split at h
  ·exact⟨by omega,by assumption⟩
  ·omega
theorem oz(a:KA)(b:KZ)(c:KC)(n:Int)(x:Sg.BS):(kp a b c).box n x=kp (a.eT n x) b c:=uZ a b c n {a.u n with bx:=x} _ rfl
theorem kf(a:KA){n m:Int}(x:Sg.BS)(h:m≠n):(a.eT n x).u m=a.u m:=ad _ _ h
theorem nN(a:KA)(n:Int)(x:Sg.BS):(a.eT n x).u n= {a.u n with bx:=x} :=ae _ _ _
theorem eB(a:KA)(n m:Int)(x:Sg.BS):((a.eT n x).u m).st=(a.u m).st:=by
 by_cases e:m=n
 ·subst e;rw[nN]
 ·rw[kf _ _ e]
theorem lO(a:KA)(n:Int)(x:Sg.BS):bD (a.eT n x)=bD a:=gF fun m _ _=>by rw[eB]
theorem KA.Wk.eT{a:KA}{T:Int}(h:a.Wk T){n:Int}(hn:0≤n∧n<20){x:Sg.BS}(hx:x.wait 0=false):(a.eT n x).Wk T where
 T0:=h.T0
 gI:=h.gI
 gS:=h.gS
 sI:=h.sI
 sys:=h.sys
 nilf:=fun m a0 a1 q=>h.nilf m a0 a1 (by rwa[eB]at q)
 PI:=h.PI
 OI:=h.OI
 lc:=fun m a0 a1=>by rw[eB];exact h.lc m a0 a1
 st:=fun m=>by rw[eB];exact h.st m
 out:=fun m hm=>by rw[kf _ _ (by omega)];exact h.out m hm
 fd:=fun m i=>gl a.u n m _ (Q:=fun z=>0≤z.fd i∧z.fd i≤24) (fun _=>h.fd n i) (fun _=>h.fd m i)
 bx:=fun m=>gl a.u n m _ (Q:=fun z=>z.bx.wait 0=false) (fun _=>hx) (fun _=>h.bx m)
def KA.head(a:KA)(n:Int):Int:=(a.s.find (a.s.bZ n).1 1).1
def KA.cv(a:KA)(n h:Int):KA:= {a with u:=fun j=>if 0≤j∧j<20∧(a.u j).st≠0∧(a.u j).par=n then {a.u j with par:=h} else a.u j}
theorem cO(a:KA)(n h j:Int):((a.cv n h).u j).st=(a.u j).st∧((a.cv n h).u j).bx=(a.u j).bx∧((a.cv n h).u j).grp=(a.u j).grp∧((a.cv n h).u j).code=(a.u j).code∧((a.cv n h).u j).fd=(a.u j).fd:=by
 show((if 0≤j∧j<20∧(a.u j).st≠0∧(a.u j).par=n then {a.u j with par:=h} else a.u j):PA).st=_∧((if 0≤j∧j<20∧(a.u j).st≠0∧(a.u j).par=n then {a.u j with par:=h} else a.u j):PA).bx=_∧((if 0≤j∧j<20∧(a.u j).st≠0∧(a.u j).par=n then {a.u j with par:=h} else a.u j):PA).grp=_∧((if 0≤j∧j<20∧(a.u j).st≠0∧(a.u j).par=n then {a.u j with par:=h} else a.u j):PA).code=_∧((if 0≤j∧j<20∧(a.u j).st≠0∧(a.u j).par=n then {a.u j with par:=h} else a.u j):PA).fd=_
 split<;>exact⟨rfl,rfl,rfl,rfl,rfl⟩
theorem xD(a:KA)(b:KZ)(c:KC)(n h:Int):(kp a b c).fG n h 20=kp (a.cv n h) b c:=by
 refine KP.ext (fun m=> ?_) rfl ⟨⟨rfl,rfl,rfl,rfl⟩,rfl,rfl,rfl⟩
 show(if 0≤m∧m<20∧(a.u m).st≠0∧(a.u m).par=n then {(a.u m).pu _ with par:=h} else(a.u m).pu _)=PA.pu (if 0≤m∧m<20∧(a.u m).st≠0∧(a.u m).par=n then {a.u m with par:=h} else a.u m) _
 split<;>rfl
theorem uz(a:KA)(n h:Int):bD (a.cv n h)=bD a:=gF fun m _ _=>by rw[(cO _ _ _ _).1]
theorem KA.Wk.cv{a:KA}{T:Int}(w:a.Wk T)(n h:Int):(a.cv n h).Wk T where
 T0:=w.T0
 gI:=w.gI
 gS:=w.gS
 sI:=w.sI
 sys:=w.sys
 nilf:=fun m a0 a1 q=>w.nilf m a0 a1 (by rwa[(cO _ _ _ _).1]at q)
 PI:=w.PI
 OI:=w.OI
 lc:=fun m a0 a1=>by rw[(cO _ _ _ _).1];exact w.lc m a0 a1
 st:=fun m=>by rw[(cO _ _ _ _).1];exact w.st m
 out:=fun m hm=>by
  show(if 0≤m∧m<20∧(a.u m).st≠0∧(a.u m).par=n then {a.u m with par:=h} else a.u m)=PA.nil
  rw[if_neg (by omega)];exact w.out m hm
 fd:=fun m i=>by rw[(cO _ _ _ _).2.2.2.2];exact w.fd m i
 bx:=fun m=>by rw[(cO _ _ _ _).2.1];exact w.bx m
def KA.dB(a:KA)(p:Int):KA:=if a.live p=0 then a.eT p ((a.u p).bx.send 3).2 else a
theorem KA.Wk.dB{a:KA}{T:Int}(w:a.Wk T)(p:Int):(a.dB p).Wk T:=by
 unfold KA.dB;split
 ·rename_i c;exact w.eT (KA.kD c).1 (ki _ _ (w.bx p))
 ·exact w
def KA.er(a:KA)(n co:Int):KA:=if a.head n=n then(a.bW n co).bO (a.s.bZ n).1 n else a.bW n co
def KA.bn(a:KA)(n co:Int):KA:=((a.er n co).cv n (a.head n)).dB (((a.er n co).cv n (a.head n)).u n).par
theorem KA.Wk.er{a:KA}{T:Int}(w:a.Wk T){n:Int}(hn:0≤n∧n<20)(hl:(a.u n).st=1)(co:Int):(a.er n co).Wk T:=by
 unfold KA.er;split
 ·exact(w.bW hn hl co).bO _ _
 ·exact w.bW hn hl co
theorem KA.Wk.bn{a:KA}{T:Int}(w:a.Wk T){n:Int}(hn:0≤n∧n<20)(hl:(a.u n).st=1)(co:Int):(a.bn n co).Wk T:=((w.er hn hl co).cv _ _).dB _
def KA.Hx(a:KA)(n:Int):Prop:=∀ p,0≤p→p<20→p≠n→(a.u p).st=1→(a.u p).bx.first 0=0∨a.s.bX (a.s.loc p) 1=p
theorem KA.Hx.bW{a:KA}{n:Int}(h:a.Hx n)(co:Int):(a.bW n co).Hx n:=fun p h0 h1 h2 h3=>by
 rw[qq _ _ h2]at h3 ⊢;exact h p h0 h1 h2 h3
theorem KA.Hx.N3{a:KA}{n m:Int}(h:a.Hx n)(co:Int):(a.bW m co).Hx n:=fun p h0 h1 h2 h3=>by
 by_cases e:p=m
 ·subst e;rw[nA]at h3;omega
 ·rw[qq _ _ e]at h3 ⊢;exact h p h0 h1 h2 h3
theorem SS.tE{s:Sp.SS}{n p z q:Int}(e:p≠n)(h:s.bX z q=p):(s.leave n).2.bX z q=p:=by
 unfold Sp.SS.leave;split
 ·exact h
 ·show(if s.bX z q=n then-1 else s.bX z q)=p
  rw[if_neg (by omega)];exact h
theorem KA.Hx.cy{a:KA}{n m:Int}(h:a.Hx n):(a.cy m).Hx n:=fun p h0 h1 h2 h3=>by
 by_cases e:p=m
 ·subst e
  have:((a.cy p).u p).st=0:=by
   show(aa a.u p PA.nil p).st=0
   rw[ae];rfl
  omega
 ·rw[kZ _ e]at h3 ⊢
  rcases h p h0 h1 h2 h3 with q | q
  ·exact .inl q
  ·right
   show(a.s.leave m).2.bX ((a.s.leave m).2.loc p) 1=p
   rw[SS.rU _ e]
   exact SS.tE e q
theorem SS.xz(s:Sp.SS)(z:Int):(s.drop z).2.bX=s.bX:=by
 rcases SS.mH s z with⟨_,e⟩ | ⟨_,_,_,_,e,_⟩<;>rw[e]
theorem KA.Hx.bB{a:KA}{n:Int}(h:a.Hx n)(z:Int):(a.bB z).Hx n:=fun p h0 h1 h2 h3=>by
 show _∨(a.s.drop z).2.bX ((a.s.drop z).2.loc p) 1=p
 rw[SS.xz,SS.qF]
 exact h p h0 h1 h2 h3
theorem KA.Hx.Jo{n:Int}(k:Int):∀ {l:List Int} {a:KA},a.Hx n→(l.foldl (KA.eG k) a).Hx n
 | [],_,w=>w
 | x::r,a,w=>KA.Hx.Jo k (l:=r) (by
   unfold KA.eG
   split
   ·exact w
   ·refine KA.Hx.cy ?_
    split
    ·exact w.N3 0
    ·exact w)
theorem KA.Hx.pE{n:Int} :∀ {l:List Int} {a:KA},a.Hx n→(l.foldl KA.bB a).Hx n
 | [],_,w=>w
 | x::r,_,w=>KA.Hx.pE (l:=r) (w.bB x)
theorem KA.Hx.rounds{a:KA}{n:Int}(w:a.Hx n):∀ k,(a.rounds k).Hx n
 | 0=>w
 | k+1=>KA.Hx.pE (w.rounds k)
theorem KA.Hx.er{a:KA}{n:Int}(w:a.Hx n)(co:Int):(a.er n co).Hx n:=by
 unfold KA.er;split
 ·exact KA.Hx.rounds (KA.Hx.Jo n (w.bW co)) 4
 ·exact w.bW co
theorem KA.Hx.cv{a:KA}{n:Int}(w:a.Hx n)(m h:Int):(a.cv m h).Hx n:=fun p h0 h1 h2 h3=>by
 rw[(cO _ _ _ _).1]at h3
 rw[(cO _ _ _ _).2.1]
 exact w p h0 h1 h2 h3
theorem KA.Hx.dB{a:KA}{n:Int}(w:a.Hx n)(m:Int):(a.dB m).Hx n:=fun p h0 h1 h2 h3=>by
 unfold KA.dB at h3 ⊢
 split
 ·rename_i c
  rw[if_pos c,eB]at h3
  by_cases e:p=m
  ·subst e
   rw[nN]
   show((a.u p).bx.send 3).2.first 0=0∨_
   rw[uC]
   exact w p h0 h1 h2 h3
  ·rw[kf _ _ e];exact w p h0 h1 h2 h3
 ·rename_i c
  rw[if_neg c]at h3
  exact w p h0 h1 h2 h3
theorem KA.Wk.xr{a:KA}{T:Int}(w:a.Wk T){p:Int}(h0:0≤p∧p<20)(hs:(a.u p).st≠0)(h:a.s.bX (a.s.loc p) 1=p):a.head p=p:=by
 have h1:=(w.lc p h0.1 h0.2).1 hs
 have h2:=w.sI.loc p
 have h3:=w.sI.at_ p h0.1 h0.2 h1
 have e1:a.s.bZ p=(a.s.loc p,0):=by unfold Sp.SS.bZ;rw[if_neg (by omega),if_neg (by omega)]
 unfold KA.head
 rw[e1]
 have e2:a.s.is (a.s.loc p)=0:=by unfold Sp.SS.is;rw[if_neg (by omega),if_pos h3]
 show(a.s.find (a.s.loc p) 1).1=p
 unfold Sp.SS.find
 rw[if_neg (by omega),if_neg (by omega),if_neg (by omega)]
 exact h
def KA.ends(a:KA)(n:Int)(o:Bool):Prop:=(a.u n).bx.first 0≠0∧(o=true∨a.head n≠n)
instance (a:KA) (n:Int) (o:Bool):Decidable (a.ends n o):=by unfold KA.ends;infer_instance
def KA.bV(a:KA)(n:Int)(o:Bool):KA:=if a.ends n o then a.bn n (128+(a.u n).bx.first 0)else a
def KA.fA(a:KA)(n sig:Int)(o:Bool):KA:=if a.live n=0 then(a.eT n ((a.u n).bx.send sig).2).bV n o else a
theorem xm(a:KA):∀ k,(a.rounds k).u=a.u
 | 0=>rfl
 | k+1=>by
  show((Sp.fg (a.rounds k).s.here 6).foldl KA.bB (a.rounds k)).u=a.u
  have e:∀ (l:List Int) (x:KA),(l.foldl KA.bB x).u=x.u:=fun l=>by
   induction l with
   | nil=>intro x;rfl
   | cons y r ih=>intro x;rw[List.foldl_cons,ih];rfl
  rw[e];exact xm a k
theorem wc(h:Int):∀ (l:List Int) (a:KA),(l.foldl (KA.eG h) a).u h=a.u h
 | [],_=>rfl
 | x::r,a=>by
  rw[List.foldl_cons,wc h r]
  by_cases e:h=x
  ·unfold KA.eG;rw[if_pos e.symm]
  ·exact yj a h e
theorem xC(a:KA)(z h:Int):(a.bO z h).u h=a.u h:=by
 unfold KA.bO
 rw[xm]
 unfold KA.members
 exact wc h _ a
theorem nO(a:KA)(n co:Int):((a.er n co).u n).st≠1:=by
 have h2:((a.bW n co).u n).st=2:=nA a n co
 unfold KA.er;split
 ·rw[xC,h2];decide
 ·rw[h2];decide
theorem KA.Gg{a:KA}{T:Int}{n:Int}{b:KZ}{c:KC}(w:a.Wk T)(hx:a.Hx n)(hs:(a.u n).st≠1){p:Int}(q:(kp a b c).live p=0):(((kp a b c).u p).bx.send 3).2.first 0=0∨(false=false∧(a.s.find (a.s.bZ p).1 1).1=p):=by
 obtain⟨h1,h2⟩:=KA.kD (a:=a) (n:=p) q
 have hne:p≠n:=by rintro rfl;exact hs h2
 rcases hx p h1.1 h1.2 hne h2 with e | e
 ·left
  rw[uC];exact e
 ·exact .inr ⟨rfl,w.xr h1 (by omega) e⟩
theorem LJ(a:KA)(b:KZ)(c:KC)(p:Int):(if(kp a b c).live p=0 then(kp a b c).box p (((kp a b c).u p).bx.send 3).2 else kp a b c)=kp (a.dB p) b c:=by
 unfold KA.dB
 rw[HR]
 split
 ·exact oz a b c p _
 ·rfl
theorem Hl(a:KA)(p:Int):bD (a.dB p)=bD a:=by
 unfold KA.dB;split
 ·exact lO _ _ _
 ·rfl
theorem KA.qK(a:KA)(p:Int):(a.dB p).s=a.s∧(a.dB p).g=a.g∧(a.dB p).v=a.v∧(a.dB p).f=a.f∧(a.dB p).P=a.P∧(a.dB p).O=a.O:=by
 unfold KA.dB;split<;>exact⟨rfl,rfl,rfl,rfl,rfl,rfl⟩
theorem dq.dI{a:KA}{c:KC}{N:Nat}{T:Int}(h:dq a c N T)(n m p:Int):dq ((a.cv n m).dB p) c N T:=⟨h.qO,h.qR,h.F,h.rp,h.rc,h.rl,fun z h0 h1 h2=>h.tb z h0 h1 (by rwa[(KA.qK _ _).1]at h2)⟩
end Go.X.Kn
