import Derived.Test.YthdinakloheinaaGreatDoorkNFP
import Derived.Test.YthdinakloheinaaGreatDoorXClose
import Derived.Lib.SplitLaws
import Derived.Test.YthdinakloheinaaGreatDoorkNOP
namespace Go.X.Tr
open Go Go.X
structure WH where
 tree:Int
 node:Int
instance:DecidableEq WH:=fun a b=>if h:a.tree=b.tree∧a.node=b.node then isTrue (by cases a;cases b;simp only at h;rw[h.1,h.2])else isFalse (fun e=>h (by rw[e];exact⟨rfl,rfl⟩))
def WH.nil:WH:=⟨0,0⟩
abbrev WH.arr(w:WH):Array Value:= #[.int .i64 w.tree,.int .i64 w.node]
def rY(w:WH)(i:Nat):Value:=if i=0 then .int .i64 w.tree else if i=1 then .int .i64 w.node else undef
structure MT where
 at_:WH
 to:WH
def MT.nil:MT:=⟨WH.nil,WH.nil⟩
abbrev MT.arr(m:MT):Array Value:= #[.int .i64 m.at_.tree,.int .i64 m.at_.node,.int .i64 m.to.tree,.int .i64 m.to.node]
def dQ(m:MT)(i:Nat):Value:=if i=0 then .int .i64 m.at_.tree else if i=1 then .int .i64 m.at_.node else if i=2 then .int .i64 m.to.tree else if i=3 then .int .i64 m.to.node else undef
def yz(l:List MT)(z:Int):MT:=l.getD z.toNat MT.nil
def Ol(l:List WH)(z:Int):WH:=l.getD z.toNat WH.nil
def mC(l:List MT)(i:Nat):Value:=dQ (yz l ((i/4:Nat):Int)) (i%4)
def MC(C:Nat→Value)(l:List MT):Prop:=∀ i,i<l.length*4→C i=mC l i
theorem rY.box(w:WH):∀ i,i<2→cellsOf (WH.arr w) i=rY w i:=fun i h=>match i,h with
 | 0,_=>rfl
 | 1,_=>rfl
 | j+2,h=>absurd h (by omega)
theorem rY.agg(w:WH):0+2≤2∧cq (rY w) 0 2= .agg (WH.arr w):=⟨by omega,rfl⟩
theorem rY.st(w u:WH):0+2≤2∧bQ (rY w) 0 (WH.arr u).toList=rY u:=by
 refine⟨by omega,?_⟩
 funext i
 match i with
 | 0=>rfl
 | 1=>rfl
 | k+2=>
  have e1:∀ w:WH,rY w (k+2)=undef:=fun w=>by unfold rY;rw[if_neg (by omega),if_neg (by omega)]
  have e2:bQ (rY w) 0 (WH.arr u).toList (k+2)=rY w (k+2):=by simp[bQ,cH]
  rw[e2,e1,e1]
theorem dQ.box(m:MT):∀ i,i<4→cellsOf (MT.arr m) i=dQ m i:=fun i h=>match i,h with
 | 0,_=>rfl
 | 1,_=>rfl
 | 2,_=>rfl
 | 3,_=>rfl
 | j+4,h=>absurd h (by omega)
theorem dQ.agg(m:MT):0+4≤4∧cq (dQ m) 0 4= .agg (MT.arr m):=⟨by omega,rfl⟩
theorem dQ.nc(m:MT):0+0+2≤4∧cq (dQ m) (0+0) 2= .agg (WH.arr m.at_):=⟨by omega,rfl⟩
theorem dQ.Ns(m:MT):0+0+1<4∧dQ m (0+0+1)= .int .i64 m.at_.node:=⟨by omega,rfl⟩
theorem dQ.Nr(m:MT):0+2+1<4∧dQ m (0+2+1)= .int .i64 m.to.node:=⟨by omega,rfl⟩
theorem dQ.st(m u:MT):0+4≤4∧bQ (dQ m) 0 (MT.arr u).toList=dQ u:=by
 refine⟨by omega,?_⟩
 funext i
 match i with
 | 0=>rfl
 | 1=>rfl
 | 2=>rfl
 | 3=>rfl
 | k+4=>
  have e1:∀ w:MT,dQ w (k+4)=undef:=fun w=>by unfold dQ;rw[if_neg (by omega),if_neg (by omega),if_neg (by omega),if_neg (by omega)]
  have e2:bQ (dQ m) 0 (MT.arr u).toList (k+4)=dQ m (k+4):=by simp[bQ,cH]
  rw[e2,e1,e1]
def aA(bf:Nat)(r:WH)(v:Value)(i:Nat):Value:=if i=0 then ptr bf 0 0 else if i=1 then .int .i64 r.tree else if i=2 then .int .i64 r.node else if i=3 then v else undef
theorem aA.EP{bf:Nat}(r:WH)(v:Value):0+0<4∧aA bf r v (0+0)=ptr bf 0 0:=⟨by omega,rfl⟩
theorem aA.ld1{bf:Nat}(r:WH)(v:Value):0+1+2≤4∧cq (aA bf r v) (0+1) 2= .agg (WH.arr r):=⟨by omega,rfl⟩
theorem aA.Mx{bf:Nat}(r:WH)(v:Value):0+1+1<4∧aA bf r v (0+1+1)= .int .i64 r.node:=⟨by omega,rfl⟩
theorem aA.NN{bf:Nat}(r:WH)(v:Value):0+3<4∧aA bf r v (0+3)=v:=⟨by omega,rfl⟩
theorem aA.st2{bf:Nat}(r:WH)(v u:Value):0+3<4∧cH (aA bf r v) (0+3) u=aA bf r u:=by
 refine⟨by omega,?_⟩
 funext i
 match i with
 | 0=>rfl
 | 1=>rfl
 | 2=>rfl
 | 3=>rfl
 | k+4=>
  have e1:∀ r v,aA bf r v (k+4)=undef:=fun r v=>by unfold aA;rw[if_neg (by omega),if_neg (by omega),if_neg (by omega),if_neg (by omega)]
  rw[show cH (aA bf r v) (0+3) u (k+4)=aA bf r v (k+4)from by simp[cH],e1,e1]
abbrev Kr(bf:Nat)(r:WH)(v:Value):Array Value:= #[ptr bf 0 0,.int .i64 r.tree,.int .i64 r.node,v]
theorem aA.box(bf:Nat)(r:WH)(v:Value):∀ i,i<4→cellsOf (Kr bf r v) i=aA bf r v i:=fun i h=>match i,h with
 | 0,_=>rfl
 | 1,_=>rfl
 | 2,_=>rfl
 | 3,_=>rfl
 | j+4,h=>absurd h (by omega)
theorem Mw(l:List MT)(z:Int)(hz:0≤z)(j:Nat)(hj:j<4):mC l (0+z.toNat*4+j)=dQ (yz l z) j:=by
 unfold mC
 rw[show(((0+z.toNat*4+j)/4:Nat):Int)=z from by omega,show(0+z.toNat*4+j)%4=j from by omega]
theorem MC.ld{C:Nat→Value}{l:List MT}(h:MC C l){k:Nat}(hk:l.length≤k)(z:Int)(q:0≤z∧z<l.length):0+z.toNat*4+4≤k*4∧cq C (0+z.toNat*4) 4= .agg (MT.arr (yz l z)):=by
 refine⟨by omega,?_⟩
 have e:=fun j (hj:j<4)=>(h (0+z.toNat*4+j) (by omega)).trans (Mw l z q.1 j hj)
 simp only[cq,List.range,List.range.loop,List.map_cons,List.map_nil]
 rw[e 0 (by omega),e 1 (by omega),e 2 (by omega),e 3 (by omega)]
 rfl
theorem MC.copy{C D:Nat→Value}{l:List MT}(h:MC C l)(h1:∀ i,i<l.length*4→D i=C i):MC D l:=fun i hi=>(h1 i hi).trans (h i hi)
theorem MC.nil(C:Nat→Value):MC C []:=fun i h=>absurd h (by simp)
theorem MC.erase{C D:Nat→Value}{l:List MT}(h:MC C l)(n:Nat)(hn:n<l.length)(h1:∀ j,j<n*4→D j=C j)(h2:∀ j,n*4≤j→j<(l.length-1)*4→D j=C (j+4)):MC D (l.eraseIdx n):=fun i hi=>by
 rw[List.length_eraseIdx_of_lt hn]at hi
 by_cases c:i<n*4
 ·rw[h1 i c,h i (by omega)]
  unfold mC yz
  congr 1
  rw[List.getD_eq_getElem?_getD,List.getD_eq_getElem?_getD,List.getElem?_eraseIdx,if_pos (by omega)]
 ·rw[h2 i (by omega) hi,h (i+4) (by omega)]
  unfold mC yz
  rw[List.getD_eq_getElem?_getD,List.getD_eq_getElem?_getD,List.getElem?_eraseIdx,if_neg (by omega),show(i+4)%4=i%4 from by omega,show(((i+4)/4:Nat):Int).toNat=(((i/4:Nat):Int)).toNat+1 from by omega]
def Ox(l:List MT)(w:WH):Option WH:=(l.find? (fun m=>decide (m.at_=w))).map (·.to)
def Of(l:List MT):Nat→WH→WH
 | 0,w=>w
 | n+1,w=>match Ox l w with
  | some u=>Of l n u
  | none=>w
def over(l:List MT)(w:WH):WH:=Of l 6 w
theorem IK{l:List MT}{z:Int}(h:0≤z∧z<l.length):l[z.toNat]? =some (yz l z):=by
 unfold yz
 rw[List.getD_eq_getElem?_getD]
 cases hq:l[z.toNat]? with
 | none=>rw[List.getElem?_eq_none_iff]at hq;omega
 | some m=>rfl
def dd:ByteArray:=⟨#[46,46]⟩
def last(l:List WH):WH:=Ol l ((l.length:Int)-1)
def wk(F:FF)(l:List MT):List WH→List ByteArray→Int×WH
 | cv,[]=>(0,last cv)
 | cv,s::r=>if s=dd then wk F l (if 1<cv.length then cv.take (cv.length-1)else cv) r else if F.ia (last cv).node s≠0 then(F.ia (last cv).node s,WH.nil)else
   wk F l (cv++[over l ⟨(last cv).tree,F.dP (last cv).node s⟩]) r
def nq(F:FF):List MT→FF
 | []=>F
 | m::r=>nq ((F.hold m.at_.node).hold m.to.node) r
def sU(F:FF):List MT→FF
 | []=>F
 | m::r=>sU ((F.hG m.at_.node).hG m.to.node) r
def Fy(F:FF)(l:List MT)(r:WH):FF:=nq (F.hold r.node) l
def vN(F:FF)(l:List MT)(r:WH):FF:=(sU F l).hG r.node
section
variable {F:FF} {l:List MT} {cv:List WH} {s:ByteArray} {r a:List ByteArray}
end
theorem Jw{l:List MT}{i:Int}(h:0≤i∧i<l.length):l.drop i.toNat=yz l i::l.drop (i+1).toNat:=by
 rw[List.drop_eq_getElem_cons (by omega),show(i+1).toNat=i.toNat+1 from by omega]
 congr 1
 have e:=IK h
 rw[List.getElem?_eq_getElem (by omega),Option.some.injEq]at e
 exact e
theorem za{F:FF}{l:List MT}{i:Int}(h:0≤i∧i<l.length):nq F (l.drop i.toNat)=nq ((F.hold (yz l i).at_.node).hold (yz l i).to.node) (l.drop (i+1).toNat):=by
 rw[Jw h];rfl
theorem Dg{F:FF}{l:List MT}{i:Int}(h:0≤i∧i<l.length):sU F (l.drop i.toNat)=sU ((F.hG (yz l i).at_.node).hG (yz l i).to.node) (l.drop (i+1).toNat):=by
 rw[Jw h];rfl
theorem CL{F:FF}{l:List MT} :nq F (l.drop ((l.length:Int)).toNat)=F:=by
 rw[List.drop_of_length_le (by omega)];rfl
theorem Ga{F:FF}{l:List MT} :sU F (l.drop ((l.length:Int)).toNat)=F:=by
 rw[List.drop_of_length_le (by omega)];rfl
def C0:Nat→Value:=fun _=>undef
end Go.X.Tr

namespace Go.X.Kn
open Go Go.X
structure PA where
 st:Int
 par:Int
 grp:Int
 code:Int
 fd:Int→Int
 bx:Sg.BS
def PA.nil:PA:=⟨0,0,0,0,fun _=>0,Sg.BS.init⟩
structure KA where
 u:Int→PA
 g:Gr.TG
 s:Sp.SS
 dep:Int→Nat
 v:Vm.VB
 f:Nat→Vm.MS
 P:Tr.PS
 O:Tr.OS
structure TB where
 b:Nat
 r:Tr.WH
 l:List Tr.MT
 p:Option Addr
 cap:Nat
 k:Nat
 c:Nat
 C:Nat→Value
structure TB.Ok (t:TB):Prop where
 rv:RV.ok ⟨t.p,t.cap,t.k,t.l.length,t.c,t.C⟩
 mc:Tr.MC t.C t.l
 len:t.l.length≤6
structure KZ where
 kb:Nat
 gb:Nat
 sb:Nat
 qb:Nat
 bb:Nat
 tb:Nat
 pi:Nat
 ob:Nat
 vp:Nat
structure KC where
 mb:Nat→Nat
 pp:Nat→Option Addr
 cc:Nat→Nat
 q:Fa.SC
 d:Int→Nat
 F:Tr.FC
 dF:Int→Nat
 rp:Option Addr
 rc:Nat
 rl:List Int
 t:Nat→TB
def PA.pu(p:PA)(b:Nat):PU:=⟨p.st,p.par,p.grp,p.code,if p.st=0 then .pointer none else ptr b 0 0,p.fd,p.bx⟩
def kp(a:KA)(b:KZ)(c:KC):KP:=⟨fun n=>(a.u n).pu (c.mb n.toNat),b.gb,b.sb,b.qb,b.bb,b.tb,b.pi,b.ob,fun z=>if a.s.here z then ptr (c.t z.toNat).b 0 0 else .pointer none⟩
theorem zO(a:KA)(b:KZ)(c:KC){n:Int}(h:(a.u n).st≠0):((kp a b c).u n).mem=ptr (c.mb n.toNat) 0 0:=by
 show(if(a.u n).st=0 then Value.pointer none else ptr (c.mb n.toNat) 0 0)=_
 rw[if_neg h]
theorem KP.ext{k k':KP}(hu:∀ n,k.u n=k'.u n)(hm:k.ms=k'.ms)(h:(k.gb=k'.gb∧k.sb=k'.sb∧k.qb=k'.qb∧k.bb=k'.bb)∧k.tb=k'.tb∧k.pi=k'.pi∧k.ob=k'.ob):k=k':=by
 cases k;cases k'
 obtain⟨⟨h1,h2,h3,h4⟩,h5,h6,h7⟩:=h
 simp only at hm h1 h2 h3 h4 h5 h6 h7 hu
 have e:=funext hu
 subst e;subst hm;subst h1;subst h2;subst h3;subst h4;subst h5;subst h6;subst h7
 rfl
theorem LU(a:KA)(b:KZ)(c:KC)(n:Int)(p:PA):(kp a b c).put n (p.pu (c.mb n.toNat))=kp {a with u:=aa a.u n p} b c:=by
 refine KP.ext (fun m=> ?_) rfl ⟨⟨rfl,rfl,rfl,rfl⟩,rfl,rfl,rfl⟩
 by_cases e:m=n
 ·subst e
  rw[KP.gp]
  show _=(aa a.u m p m).pu _
  rw[ae]
 ·rw[KP.gk _ _ e]
  show(a.u m).pu _=(aa a.u n p m).pu _
  rw[ad _ _ e]
theorem uX(a:KA)(b:KZ)(c:KC)(n:Int)(p:PA)(u:PU)(h:u=p.pu (c.mb n.toNat)):(kp a b c).put n u=kp {a with u:=aa a.u n p} b c:=by rw[h,LU]
def bD(a:KA):Nat→Bool:=fun j=>decide (j<20∧(a.u (j:Int)).st≠0)
theorem jl{a:KA}{n:Int}(h:0≤n∧n<20)(hs:(a.u n).st≠0):bD a n.toNat=true:=by
 unfold bD;rw[decide_eq_true_iff];exact⟨by omega,by rw[show((n.toNat:Nat):Int)=n from by omega];exact hs⟩
theorem gF{a a':KA}(h:∀ n,0≤n→n<20→((a.u n).st=0↔(a'.u n).st=0)):bD a=bD a':=by
 funext j
 unfold bD
 rw[decide_eq_decide]
 constructor
 ·rintro⟨x,y⟩;exact⟨x,fun q=>y ((h j (by omega) (by omega)).2 q)⟩
 ·rintro⟨x,y⟩;exact⟨x,fun q=>y ((h j (by omega) (by omega)).1 q)⟩
theorem FH{a:KA}{n:Int}{p:PA}(h:0≤n∧n<20)(hp:p.st=0):bD {a with u:=aa a.u n p} =eB (bD a) n.toNat:=by
 funext j
 rw[Bool.eq_iff_iff,ek]
 unfold bD
 rw[decide_eq_true_iff,decide_eq_true_iff]
 show(j<20∧(aa a.u n p (j:Int)).st≠0)↔_
 by_cases e:(j:Int)=n
 ·rw[e,ae]
  constructor
  ·rintro⟨_,y⟩;exact absurd hp y
  ·rintro⟨_,y⟩;exact absurd (by omega) y
 ·rw[ad _ _ e]
  constructor
  ·rintro⟨x,y⟩;exact⟨⟨x,y⟩,by omega⟩
  ·rintro⟨⟨x,y⟩,_⟩;exact⟨x,y⟩
theorem A7{a:KA}{n:Int}{p:PA}(h:0≤n∧n<20)(hp:p.st≠0):bD {a with u:=aa a.u n p} =uB (bD a) n.toNat:=by
 funext j
 rw[Bool.eq_iff_iff,eQ]
 unfold bD
 rw[decide_eq_true_iff,decide_eq_true_iff]
 show(j<20∧(aa a.u n p (j:Int)).st≠0)↔_
 by_cases e:(j:Int)=n
 ·rw[e,ae]
  constructor
  ·rintro _;right;omega
  ·rintro _;exact⟨by omega,hp⟩
 ·rw[ad _ _ e]
  constructor
  ·rintro⟨x,y⟩;exact .inl ⟨x,y⟩
  ·rintro(⟨x,y⟩ | y)
   ·exact⟨x,y⟩
   ·exact absurd y (by omega)
def bI(a:KA):Nat→Bool:=fun j=>decide (j<6)&&a.s.here (j:Int)
theorem kh{a:KA}{j:Nat} :bI a j=true↔j<6∧a.s.here (j:Int)=true:=by simp[bI]
theorem zX{a:KA}{z:Int}(h:0≤z∧z<6)(hs:a.s.here z=true):bI a z.toNat=true:=kh.2 ⟨by omega,by rw[show((z.toNat:Nat):Int)=z from by omega];exact hs⟩
abbrev cT(tb:Nat)(t:Nat→TB):Nat→Nat→Value:=fun z=>Tr.aA tb (t z).r (.slice (t z).p (t z).l.length (t z).c)
abbrev rT(e:TypeId)(t:Nat→TB):Nat→iw:=fun z=>⟨.slice (t z).p (t z).k (t z).cap,e,4,(t z).k,bz (t z).C ((t z).k*4)⟩
abbrev xT(P:Nat→Bool)(tb:Nat)(e:TypeId)(t:Nat→TB):List ax:=[.cfam P (fun z=>(t z).b) 4 (cT tb t),.fam P (rT e t)]
abbrev DL(tb:Nat)(e:TypeId)(t:TB):List ax:=[.cells t.b 0 4 (Tr.aA tb t.r (.slice t.p t.l.length t.c)),bj t.p t.cap e 4 t.k t.C]
theorem LA(tb:Nat)(t:Nat→TB)(z:Nat)(m:TB):xy (cT tb t) z (Tr.aA tb m.r (.slice m.p m.l.length m.c))=cT tb (bJ t z m):=by
 funext j
 by_cases q:j=z
 ·subst q;rw[vF];unfold cT;rw[de]
 ·rw[uT _ _ q];unfold cT;rw[cV _ _ q]
theorem LO(e:TypeId)(t:Nat→TB)(z:Nat)(m:TB):pU (rT e t) z ⟨.slice m.p m.k m.cap,e,4,m.k,bz m.C (m.k*4)⟩=rT e (bJ t z m):=by
 funext j
 by_cases q:j=z
 ·subst q;rw[gL];unfold rT;rw[de]
 ·rw[fX _ _ q];unfold rT;rw[cV _ _ q]
theorem Ma(t:Nat→TB)(z:Nat)(m:TB):wy (fun z=>(t z).b) z m.b=fun j=>(bJ t z m j).b:=by
 funext j
 by_cases q:j=z
 ·subst q;rw[lF,de]
 ·rw[kn _ _ q,cV _ _ q]
section
variable {W w:World} {S:Nat→Nat→Prop} {H H0:List ax} {tb:Nat} {e:TypeId} {t:Nat→TB} {P:Nat→Bool}
theorem XM.Nx{z:Nat}(hz:P z=true)(hp:bF H0 (xT P tb e t) H)(h:XM W S H0 w):XM W S (.cells (t z).b 0 4 (Tr.aA tb (t z).r (.slice (t z).p (t z).l.length (t z).c))::bj (t z).p (t z).cap e 4 (t z).k (t z).C:: .cfam (eB P z) (fun z=>(t z).b) 4 (cT tb t):: .fam (eB P z) (rT e t)::H) w:=by
 have h0:XM W S (.cfam P (fun z=>(t z).b) 4 (cT tb t):: .fam P (rT e t)::H) w:=h.perm hp.perm
 have h1:=XM.AP z hz h0
 have h2:=h1.perm (bF.cons (.t2 .here) (bF.nil)).perm
 simp only[List.cons_append,List.nil_append]at h2
 have h3:=XM.o9 z hz h2
 have h4:=h3.perm (bF.cons (.t2 .here) (.cons .here (.cons (.there .here) (.cons .here .nil)))).perm
 simp only[List.cons_append,List.nil_append]at h4
 exact h4
theorem XM.LW{z:Nat}(m:TB)(hz:P z=false)(hp:bF H0 (DL tb e m++xT P tb e t) H)(h:XM W S H0 w):XM W S (xT (uB P z) tb e (bJ t z m)++H) w:=by
 have h:XM W S (.cells m.b 0 4 (Tr.aA tb m.r (.slice m.p m.l.length m.c))::bj m.p m.cap e 4 m.k m.C:: .cfam P (fun z=>(t z).b) 4 (cT tb t):: .fam P (rT e t)::H) w:=h.perm hp.perm
 have h0:=h.perm (bF.cons .here (.cons (.there .here) .nil)).perm
 simp only[List.cons_append,List.nil_append]at h0
 have h1:=XM.FK z (by omega) hz h0
 have h2:=h1.perm (bF.cons (.there .here) (.cons (.there .here) .nil)).perm
 simp only[List.cons_append,List.nil_append]at h2
 have h3:=XM.uo (x:=⟨.slice m.p m.k m.cap,e,4,m.k,bz m.C (m.k*4)⟩) z hz h2
 have h4:=h3.perm (bF.cons (.there .here) (.cons .here .nil)).perm
 simp only[List.cons_append,List.nil_append]at h4
 rw[LA,LO,Ma]at h4
 exact h4
theorem XM.MO{z:Nat}(m:TB)(hz:P z=true)(hp:bF H0 (DL tb e m++xT (eB P z) tb e t) H)(h:XM W S H0 w):XM W S (xT P tb e (bJ t z m)++H) w:=by
 have h1:=XM.LW m (mf _ _) hp h
 rwa[tm hz]at h1
theorem XM.ML{z:Nat}(hz:P z=true)(hp:bF H0 (DL tb e (t z)++xT (eB P z) tb e t) H)(h:XM W S H0 w):XM W S (xT P tb e t++H) w:=by
 have h1:=XM.MO (t z) hz hp h
 rwa[fM]at h1
theorem XM.KV{z:Nat}(m:TB)(hp:bF H0 (DL tb e m) H)(h:XM W S H0 w):XM W S (xT (uB (fun _=>false) z) tb e (bJ (fun _=>m) z m)++H) w:=by
 have h0:XM W S (DL tb e m++H) w:=h.perm hp.perm
 have h1:XM W S (.cfam (fun _=>false) (fun _=>m.b) 4 (cT tb (fun _=>m)):: .fam (fun _=>false) (rT e (fun _=>m)):: .cells m.b 0 4 (Tr.aA tb m.r (.slice m.p m.l.length m.c))::bj m.p m.cap e 4 m.k m.C::H) w:=XM.AG (XM.F4 h0)
 exact XM.LW m rfl (bF.cons (.t2 .here) (.cons (.t2 .here) (.cons .here (.cons .here .nil)))) h1
end
structure KA.Wk (a:KA) (T:Int):Prop where
 T0:0≤T∧T≤1000000
 gI:a.g.Inv
 gS:a.g.Small (1000*T)
 sI:a.s.Inv a.dep
 sys:Vm.Sys a.v a.f 20
 nilf:∀ n,0≤n→n<20→(a.u n).st≠1→a.f n.toNat=Vm.MS.nil
 PI:a.P.Inv T
 OI:a.O.Inv T
 lc:∀ n,0≤n→n<20→((a.u n).st≠0↔0≤a.s.loc n)
 st:∀ n,(a.u n).st=0∨(a.u n).st=1∨(a.u n).st=2
 out:∀ n,(n<0∨20≤n)→a.u n=PA.nil
 fd:∀ n i,0≤(a.u n).fd i∧(a.u n).fd i≤24
 bx:∀ n,(a.u n).bx.wait 0=false
structure dt (a:KA) (c:KC) (N:Nat) (T:Int):Prop where
 qO:c.q.toSF.Ok c.d N N
 qR:c.q.jt
 F:c.F.toFF.Ok c.dF T
 rp:c.F.rP=c.rp
 rc:c.F.rC=c.rc
 rl:c.F.roots=c.rl
 tb:∀ z,0≤z→z<6→a.s.here z=true→(c.t z.toNat).Ok
theorem FF.Ok.up{s:Tr.FF}{d:Int→Nat}{B B':Int}(h:s.Ok d B)(hB:B≤B'):s.Ok d B':=⟨h.inv,fun n a b=>Int.le_trans (h.held n a b) hB,Int.le_trans h.nn hB⟩
theorem KA.Wk.up{a:KA}{T T':Int}(h:a.Wk T)(hT:T≤T')(hT':T'≤1000000):a.Wk T':=⟨⟨by have:=h.T0;omega,hT'⟩,h.gI,h.gS.mono (by omega),h.sI,h.sys,h.nilf,h.PI.mono hT,h.OI.mono hT,h.lc,h.st,h.out,h.fd,h.bx⟩
theorem dt.up{a:KA}{c:KC}{N N':Nat}{T T':Int}(h:dt a c N T)(hN:N≤N')(hT:T≤T'):dt a c N' T':=⟨h.qO.mono hN (by omega),h.qR,FF.Ok.up h.F hT,h.rp,h.rc,h.rl,h.tb⟩
theorem B9(s:Tr.FF)(n m:Int):(s.hG n).held m≤s.held m∨(s.hG n).held m=0:=by
 unfold Tr.FF.hG
 split
 ·have e:aa s.held n (s.held n-1) m≤s.held m:=by
   by_cases c:m=n
   ·subst c;rw[ae];omega
   ·rw[ad _ _ c];omega
  unfold Tr.FF.mD
  split
  ·by_cases c:m=n
   ·right;subst c;exact ae _ _ _
   ·left;exact Int.le_trans (Int.le_of_eq (ad _ _ c)) e
  ·exact .inl e
 ·exact .inl (Int.le_refl _)
theorem FF.Ok.IL{s:Tr.FF}{d:Int→Nat}{B:Int}(h:s.Ok d B)(n:Int):(s.hG n).Ok d B:=
 ⟨(h.hG n).inv,fun m a b=>by
  have h1:=h.held m a b
  have h2:=h.nn
  rcases B9 s n m with q | q<;>omega,h.nn⟩
theorem FF.Ok.JB:∀ (l:List Tr.MT) {s:Tr.FF} {d:Int→Nat} {B:Int},s.Ok d B→(Tr.sU s l).Ok d B
 | [],_,_,_,h=>h
 | m::r,_,_,_,h=>FF.Ok.JB r (FF.Ok.IL (FF.Ok.IL h _) _)
theorem FF.Ok.Jb{s:Tr.FF}{d:Int→Nat}{B:Int}(h:s.Ok d B)(l:List Tr.MT)(r:Tr.WH):(Tr.vN s l r).Ok d B:=FF.Ok.IL (FF.Ok.JB l h) _
theorem FF.Ok.k8{s:Tr.FF}{d:Int→Nat}{B:Int}(h:s.Ok d B)(O:Tr.OS)(n:Int):(Tr.gu s O n).Ok d B:=by
 unfold Tr.gu;split
 ·exact FF.Ok.IL h _
 ·exact h
theorem OS.Inv.k8{O:Tr.OS}{J:Int}(h:O.Inv J)(n:Int):(Tr.eK O n).Inv J:=by
 have hm:=h.close n
 refine⟨fun m a b=> ?_,hm.at_,hm.kind,hm.write⟩
 have h1:=(hm.refs m a b).1
 have h2:=(h.refs m a b)
 refine⟨h1,?_⟩
 unfold Tr.eK
 split
 ·exact h2.2
 ·split
  ·show aa O.refs n (O.refs n-1) m≤J
   by_cases c:m=n
   ·subst c;rw[ae];omega
   ·rw[ad _ _ c];exact h2.2
  ·show aa O.refs n 0 m≤J
   by_cases c:m=n
   ·subst c;rw[ae];omega
   ·rw[ad _ _ c];exact h2.2
theorem PS.M4{P:Tr.PS}{K:Int}(h:P.Inv K)(n:Int)(w:Bool):(P.gx n w (-1)).2.Inv K:=by
 have hm:=Tr.PS.EY (n:=n) (w:=w) h (.inr rfl)
 have key:∀ m k,(P.gx n w (-1)).2.e m k≤P.e m k:=fun m k=>by
  unfold Tr.PS.gx
  split
  ·exact Int.le_refl _
  ·split
   ·exact Int.le_refl _
   ·show aX P.e n (Tr.tO w) (P.e n (Tr.tO w)+ -1) m k≤_
    unfold aX
    split
    ·rename_i c;rw[c.1,c.2];omega
    ·exact Int.le_refl _
 exact⟨fun m=>⟨(hm.e0 m).1,Int.le_trans (key m 0) (h.e0 m).2⟩,fun m=>⟨(hm.e1 m).1,Int.le_trans (key m 1) (h.e1 m).2⟩,hm.cl,hm.len⟩
theorem PS.k8{P:Tr.PS}{K:Int}(h:P.Inv K)(O:Tr.OS)(n:Int):(Tr.fw P O n).Inv K:=by
 unfold Tr.fw;split
 ·exact PS.M4 h _ _
 ·exact h
theorem TG.EV{g:Gr.TG}{B:Int}(h:g.Inv)(hS:g.Small B)(n p m:Int):(g.ea n p m).Small B:=by
 have hI:=h.ea n p m
 intro y y0 y1
 have h1:=hS y y0 y1
 unfold Gr.TG.ea at hI ⊢
 split
 ·rename_i c
  rw[if_pos c]at hI
  obtain⟨⟨n0,n1,n2⟩,p0,p1,m0,m1⟩:=Gr.TG.ql c
  have hw:=h.ok.cv n0 n1 n2
  show-B≤g.pr y+ -p*((g.cv n).count y:Int)∧g.pr y+ -p*((g.cv n).count y:Int)≤B∧ -B≤g.pg y+ -m*((g.cv n).count y:Int)∧g.pg y+ -m*((g.cv n).count y:Int)≤B
  have k0:(0:Int)≤((g.cv n).count y:Int):=by omega
  have e1:0≤p*((g.cv n).count y:Int):=Int.mul_nonneg (by omega) k0
  have e2:0≤m*((g.cv n).count y:Int):=Int.mul_nonneg (by omega) k0
  have e3: -p*((g.cv n).count y:Int)= -(p*((g.cv n).count y:Int)):=Int.neg_mul _ _
  have e4: -m*((g.cv n).count y:Int)= -(m*((g.cv n).count y:Int)):=Int.neg_mul _ _
  by_cases q:y∈g.cv n
  ·have hn:=hI.nn y0 y1 (hw.2.2 y q)
   have hn1:0≤g.pr y+ -p*((g.cv n).count y:Int)∧0≤g.pg y+ -m*((g.cv n).count y:Int):=hn
   omega
  ·have z:(g.cv n).count y=0:=List.count_eq_zero.2 q
   rw[z];simp only[Int.ofNat_zero,Int.mul_zero,Int.natCast_zero]at*
   simp;omega
 ·exact h1
theorem iu{f:Int→Int}{x:Int} :∀ {k:Nat},x∈Sp.cy f k↔∃ j:Int,0≤j∧j<k∧0≤f j∧f j=x
 | 0=>by simp[Sp.cy];omega
 | k+1=>by
  rw[Sp.cy,List.mem_append,iu]
  constructor
  ·rintro(⟨j,a,b,c,d⟩ | h)
   ·exact⟨j,a,by omega,c,d⟩
   ·split at h
    ·rename_i q
     exact⟨k,by omega,by omega,q,(List.mem_singleton.1 h).symm⟩
    ·cases h
  ·rintro⟨j,a,b,c,d⟩
   by_cases e:j=(k:Int)
   ·subst e
    right;rw[if_pos c];exact List.mem_singleton.2 d.symm
   ·exact .inl ⟨j,a,by omega,c,d⟩
theorem iQ{f:Int→Int}(hi:∀ q q',0≤f q→f q'=f q→q'=q):∀ k:Nat,(Sp.cy f k).Nodup
 | 0=>List.nodup_nil
 | k+1=>by
  rw[Sp.cy]
  split
  ·rename_i c
   refine List.nodup_append.2 ⟨iQ hi k,List.nodup_cons.2 ⟨by simp,List.nodup_nil⟩,fun x hx y hy=> ?_⟩
   rw[List.mem_singleton.1 hy]
   rintro rfl
   obtain⟨j,a,b,_,d⟩:=iu.1 hx
   have:=hi k j c d
   omega
  ·rw[List.append_nil];exact iQ hi k
theorem SS.B8{s:Sp.SS}{dep:Int→Nat}(h:s.Inv dep)(z:Int):(s.mem z).1.Nodup:=by
 unfold Sp.SS.mem
 split
 ·exact List.nodup_nil
 ·exact iQ (fun q q' a b=>h.inj z q q' a b) 21
theorem SS.rU(s:Sp.SS)(z:Int):(s.drop z).2.loc=s.loc:=by
 unfold Sp.SS.drop
 split
 ·rfl
 ·split
  ·rfl
  ·split<;>rfl
theorem SS.B6{s:Sp.SS}{p:Int}(hp:0≤p∧p<20):(s.leave p).2.loc p<0:=by
 unfold Sp.SS.leave
 split
 ·rename_i c
  unfold Sp.SS.bZ at c
  rw[if_neg (by omega)]at c
  split at c
  ·assumption
  ·exact absurd rfl c
 ·show aa s.loc p (-1) p<0
  rw[ae];omega
theorem SS.qu(s:Sp.SS){p m:Int}(h:m≠p):(s.leave p).2.loc m=s.loc m:=by
 unfold Sp.SS.leave
 split
 ·rfl
 ·exact ad _ _ h
theorem SS.mH(s:Sp.SS)(z:Int):((s.drop z).1≠0∧(s.drop z).2=s)∨((s.drop z).1=0∧(0≤z∧z<6)∧z≠0∧s.here z=true∧(s.drop z).2= {s with here:=aa s.here z false,par:=aa s.par z 0} ∧(∀ j,s.bX z j<0∨¬(0≤j∧j<21))∧∀ j:Int,0≤j→j<6→¬(s.here j=true∧s.par j=z)):=by
 by_cases h:(s.drop z).1=0
 ·right
  refine⟨h,?_⟩
  unfold Sp.SS.drop at h ⊢
  split at h
  ·rename_i c;exact absurd h c
  ·rename_i c
   have hi:(0≤z∧z<6)∧s.here z=true:=by
    have c:s.is z=0:=by omega
    unfold Sp.SS.is at c
    split at c
    ·omega
    ·split at c
     ·exact⟨by omega,by assumption⟩
     ·omega
   rw[if_neg c]
   split at h
   ·simp at h
   ·rename_i d
    rw[if_neg d]
    split at h
    ·simp at h
    ·rename_i e
     refine⟨hi.1,fun q=>d (.inl q),hi.2,rfl,fun j=> ?_,fun j j0 j1 q=> ?_⟩
     ·by_cases q:0≤j∧j<21
      ·left
       refine Decidable.byContradiction fun r=>d (.inr ?_)
       have:s.bX z j∈s.members z:=iu.2 ⟨j,by omega,by omega,by omega,rfl⟩
       exact List.length_pos_of_mem this
      ·exact .inr q
     ·unfold Sp.SS.kids at e
      have:=Vm.jO e j j0 (by omega)
      simp[q.1,q.2]at this
 ·exact .inl ⟨h,SS.Iz h⟩
def sr(f:Int→Int)(i:Int):Int→Int:=fun j=>if 0≤j∧j<i∧f j>0 then 0 else f j
theorem Mm(f:Int→Int):sr f 0=f:=by funext j;unfold sr;rw[if_neg (by omega)]
theorem Hm(f:Int→Int){i:Int}(hi:0≤i)(h:f i>0):aa (sr f i) i 0=sr f (i+1):=by
 funext j
 by_cases c:j=i
 ·subst c;rw[ae];unfold sr;rw[if_pos ⟨hi,by omega,h⟩]
 ·rw[ad _ _ c];unfold sr
  by_cases e:0≤j∧j<i∧f j>0
  ·rw[if_pos e,if_pos ⟨e.1,by omega,e.2.2⟩]
  ·rw[if_neg e,if_neg (fun q=>e ⟨q.1,by omega,q.2.2⟩)]
theorem FI(f:Int→Int){i:Int}(h:¬f i>0):sr f i=sr f (i+1):=by
 funext j
 unfold sr
 by_cases e:0≤j∧j<i∧f j>0
 ·rw[if_pos e,if_pos ⟨e.1,by omega,e.2.2⟩]
 ·rw[if_neg e,if_neg (fun q=>by
   by_cases c:j=i
   ·subst c;exact h q.2.2
   ·exact e ⟨q.1,by omega,q.2.2⟩)]
def rG(f:Int→Int)(O:Tr.OS)(P:Tr.PS):Nat→Tr.OS×Tr.PS
 | 0=>(O,P)
 | k+1=>if f (k:Int)>0 then(Tr.eK (rG f O P k).1 (f (k:Int)-1),Tr.fw (rG f O P k).2 (rG f O P k).1 (f (k:Int)-1))else rG f O P k
theorem Ig{f:Int→Int}(O:Tr.OS)(P:Tr.PS){i:Int}(hi:0≤i)(h:f i>0):rG f O P (i+1).toNat=(Tr.eK (rG f O P i.toNat).1 (f i-1),Tr.fw (rG f O P i.toNat).2 (rG f O P i.toNat).1 (f i-1)):=by
 rw[show(i+1).toNat=i.toNat+1 by omega]
 conv=>lhs;unfold rG
 rw[show((i.toNat:Nat):Int)=i by omega,if_pos h]
theorem Fz{f:Int→Int}(O:Tr.OS)(P:Tr.PS){i:Int}(hi:0≤i)(h:¬f i>0):rG f O P (i+1).toNat=rG f O P i.toNat:=by
 rw[show(i+1).toNat=i.toNat+1 by omega]
 conv=>lhs;unfold rG
 rw[show((i.toNat:Nat):Int)=i by omega,if_neg h]
theorem nI{f:Int→Int}{O:Tr.OS}{P:Tr.PS}{T:Int}(hO:O.Inv T)(hP:P.Inv T):∀ k:Nat,(rG f O P k).1.Inv T∧(rG f O P k).2.Inv T
 | 0=>⟨hO,hP⟩
 | k+1=>by
  obtain⟨h1,h2⟩:=nI (f:=f) hO hP k
  unfold rG
  split
  ·exact⟨OS.Inv.k8 h1 _,PS.k8 h2 _ _⟩
  ·exact⟨h1,h2⟩
abbrev KA.um(a:KA)(n:Int):Int×Int×Vm.VB×Vm.MS:=(a.f n.toNat).er a.v 0 16
theorem CS{m:Vm.MS}(h:m.Ok)(v:Vm.VB):(m.er v 0 16).2.2.2=Vm.MS.nil:=by
 unfold Vm.MS.er
 rw[if_neg (by decide)]
 have e:∀ {α:Type} (f:Int→α) (v:α),(∀ i,i<0∨16≤i→f i=v)→Vm.dy f 0 16 v=fun _=>v:=fun f v h=>by
  funext i;unfold Vm.dy;split
  ·rfl
  ·exact h i (by omega)
 have h1:∀ i,i<0∨16≤i→m.fr i=0:=fun i hi=>h.un i (h.f.out i hi)
 show Vm.MS.mk _ _ _=_
 rw[e m.aI 0 h.f.out,e m.fr 0 h1,e m.own false (fun i hi=>h.ow i (h1 i hi))]
 rfl
def KA.bW(a:KA)(n co:Int):KA:=
 {a with u:=aa a.u n {a.u n with st:=2,code:=co,fd:=sr (a.u n).fd 6},g:=a.g.ea (a.u n).grp 0 (a.um n).1,v:=(a.um n).2.2.1,f:=(bJ a.f n.toNat (a.um n).2.2.2),O:=(rG (a.u n).fd a.O a.P 6).1,P:=(rG (a.u n).fd a.O a.P 6).2}
theorem gl{α:Type}(f:Int→α)(n m:Int)(x:α){Q:α→Prop}(h1:m=n→Q x)(h2:m≠n→Q (f m)):Q (aa f n x m):=by
 by_cases e:m=n
 ·subst e;rw[ae];exact h1 rfl
 ·rw[ad _ _ e];exact h2 e
theorem KA.Wk.bW{a:KA}{T:Int}(h:a.Wk T){n:Int}(hn:0≤n∧n<20)(hl:(a.u n).st=1)(co:Int):(a.bW n co).Wk T where
 T0:=h.T0
 gI:=h.gI.ea _ _ _
 gS:=TG.EV h.gI h.gS _ _ _
 sI:=h.sI
 sys:=h.sys.er (z:=n.toNat) (by omega) 0 16
 nilf:=fun m h0 h1 h2=>by
  show bJ a.f n.toNat (a.um n).2.2.2 m.toNat=_
  by_cases e:m=n
  ·subst e;rw[de];exact CS (h.sys.mo _ (by omega)) _
  ·rw[cV _ _ (by omega)]
   refine h.nilf m h0 h1 (fun q=>h2 ?_)
   show(aa a.u n _ m).st=1
   rw[ad _ _ e];exact q
 PI:=(nI (f:=(a.u n).fd) h.OI h.PI 6).2
 OI:=(nI (f:=(a.u n).fd) h.OI h.PI 6).1
 lc:=fun m a0 a1=>gl a.u n m _ (Q:=fun x=>x.st≠0↔0≤a.s.loc m) (fun e=>by
  subst e;exact⟨fun _=>(h.lc m a0 a1).1 (by omega),fun _=>(by decide:(2:Int)≠0)⟩) (fun _=>h.lc m a0 a1)
 st:=fun m=>gl a.u n m _ (Q:=fun x=>x.st=0∨x.st=1∨x.st=2) (fun _=>.inr (.inr rfl)) (fun _=>h.st m)
 out:=fun m hm=>by
  show aa a.u n _ m=_
  rw[ad _ _ (by omega)];exact h.out m hm
 fd:=fun m i=>gl a.u n m _ (Q:=fun x=>0≤x.fd i∧x.fd i≤24) (fun _=>by
  have:=h.fd n i
  show 0≤sr _ 6 i∧sr _ 6 i≤24
  unfold sr;split<;>omega) (fun _=>h.fd m i)
 bx:=fun m=>gl a.u n m _ (Q:=fun x=>x.bx.wait 0=false) (fun _=>h.bx n) (fun _=>h.bx m)
def KA.cx(a:KA)(n:Int):KA:= {a with u:=aa a.u n PA.nil,g:=a.g.ea (a.u n).grp 1 0,s:=(a.s.leave n).2}
theorem KA.Wk.cx{a:KA}{T:Int}(h:a.Wk T){n:Int}(hn:0≤n∧n<20)(hs:(a.u n).st≠1):(a.cx n).Wk T where
 T0:=h.T0
 gI:=h.gI.ea _ _ _
 gS:=TG.EV h.gI h.gS _ _ _
 sI:=h.sI.leave _
 sys:=h.sys
 nilf:=fun m h0 h1 h2=>by
  by_cases e:m=n
  ·subst e;exact h.nilf m h0 h1 hs
  ·refine h.nilf m h0 h1 (fun q=>h2 ?_)
   show(aa a.u n _ m).st=1
   rw[ad _ _ e];exact q
 PI:=h.PI
 OI:=h.OI
 lc:=fun m a0 a1=>by
  show(aa a.u n PA.nil m).st≠0↔0≤(a.s.leave n).2.loc m
  by_cases e:m=n
  ·subst e
   rw[ae]
   exact⟨fun q=>absurd rfl q,fun q=>absurd q (by have:=SS.B6 (s:=a.s) (p:=m) hn;omega)⟩
  ·rw[ad _ _ e,SS.qu _ e];exact h.lc m a0 a1
 st:=fun m=>gl a.u n m _ (Q:=fun x=>x.st=0∨x.st=1∨x.st=2) (fun _=>.inl rfl) (fun _=>h.st m)
 out:=fun m hm=>gl a.u n m _ (Q:=fun x=>x=PA.nil) (fun _=>rfl) (fun _=>h.out m hm)
 fd:=fun m i=>gl a.u n m _ (Q:=fun x=>0≤x.fd i∧x.fd i≤24) (fun _=>by simp[PA.nil]) (fun _=>h.fd m i)
 bx:=fun m=>gl a.u n m _ (Q:=fun x=>x.bx.wait 0=false) (fun _=>rfl) (fun _=>h.bx m)
def KA.bB(a:KA)(z:Int):KA:= {a with s:=(a.s.drop z).2}
theorem KA.Wk.bB{a:KA}{T:Int}(h:a.Wk T)(z:Int):(a.bB z).Wk T:=⟨h.T0,h.gI,h.gS,h.sI.drop z,h.sys,h.nilf,h.PI,h.OI,(fun n a0 a1=>by rw[show(a.bB z).s.loc=a.s.loc from SS.rU _ _];exact h.lc n a0 a1),h.st,h.out,h.fd,h.bx⟩
def fb(f:Int→Int)(a:Int):Int:=match ck (fun k=>decide (a≤k)&&(f k==0)) 6 with
 | some k=>k
 | none=> -1
theorem CO{f:Int→Int}{a i:Int}(h0:0≤i∧a≤i∧i<6)(h1:f i=0)(hn:∀ j:Int,0≤j→a≤j→j<i→f j≠0):fb f a=i:=by
 unfold fb
 have e:ck (fun k=>decide (a≤k)&&(f k==0)) 6=some i.toNat:=by
  refine cS (k:=i) h0.1 (by omega) ?_ (fun j hj0 hj=> ?_)
  ·simp[h0.2.1,h1]
  ·by_cases c:a≤j
   ·have:=hn j hj0 c hj;simp[this]
   ·simp[c]
 rw[e];show((i.toNat:Nat):Int)=i;omega
theorem zC{f:Int→Int}{a:Int}(hn:∀ j:Int,0≤j→a≤j→j<6→f j≠0):fb f a= -1:=by
 unfold fb
 rw[cF (fun j hj0 hj=>by
  by_cases c:a≤j
  ·have:=hn j hj0 c (by omega);simp[this]
  ·simp[c])]
def KP.cC(k:KP)(n i:Int):Int:=if k.live n≠0 then k.live n else if i<0∨6≤i then 1 else if(k.u n).fd i=0 then 2 else 0
def KP.bP(k:KP)(n i:Int):Int:=if k.cC n i=0 then(k.u n).fd i-1 else 0
theorem KP.j9{k:KP}{n i:Int}(h:k.cC n i=0):(0≤n∧n<20)∧(k.u n).st=1∧(0≤i∧i<6)∧(k.u n).fd i≠0∧k.bP n i=(k.u n).fd i-1:=by
 have hv:k.bP n i=(k.u n).fd i-1:=by unfold KP.bP;rw[if_pos h]
 unfold KP.cC at h
 split at h
 ·omega
 ·split at h
  ·omega
  ·split at h
   ·omega
   ·have:=KP.dW (k:=k) (n:=n) (by omega)
    exact⟨this.1,this.2,by omega,by assumption,hv⟩
theorem Lv(a:KA)(b:KZ)(c:KC)(n:Int):(kp a b c).put n {(kp a b c).u n with fd:=sr (a.u n).fd 0} =kp a b c:=by
 rw[Mm];exact KP.xa _ _
theorem Km(a:KA)(b:KZ)(c:KC){n i:Int}(hi:0≤i)(h:(a.u n).fd i>0):((kp a b c).put n {(kp a b c).u n with fd:=sr (a.u n).fd i}).put n {((kp a b c).put n {(kp a b c).u n with fd:=sr (a.u n).fd i}).u n with fd:=aa (((kp a b c).put n {(kp a b c).u n with fd:=sr (a.u n).fd i}).u n).fd i 0} =(kp a b c).put n {(kp a b c).u n with fd:=sr (a.u n).fd (i+1)} :=by
 rw[KP.u5,KP.gp]
 show(kp a b c).put n {(kp a b c).u n with fd:=aa (sr (a.u n).fd i) i 0} =_
 rw[Hm _ hi h]
theorem Ln(a:KA)(b:KZ)(c:KC){n co:Int}(hl:(a.u n).st=1)(hn:0≤n∧n<20)(K:KP)(hK:K=(kp a b c).put n {(kp a b c).u n with fd:=sr (a.u n).fd 6}):(K.put n {K.u n with st:=2}).put n {(K.put n {K.u n with st:=2}).u n with code:=co} =kp (a.bW n co) b c:=by
 subst hK
 rw[KP.gp,KP.u5,KP.u5,KP.gp]
 refine(uX a b c n {a.u n with st:=2,code:=co,fd:=sr (a.u n).fd 6} _ ?_).trans rfl
 show PU.mk 2 (a.u n).par (a.u n).grp co (if(a.u n).st=0 then _ else _) _ _=PU.mk 2 (a.u n).par (a.u n).grp co (if(2:Int)=0 then _ else _) _ _
 rw[if_neg (by omega),if_neg (by omega)]
 rfl
theorem Hf(a:KA){n co:Int}(hl:(a.u n).st=1):bD (a.bW n co)=bD a:=by
 refine(gF fun m _ _=> ?_).symm
 show(a.u m).st=0↔(aa a.u n _ m).st=0
 by_cases e:m=n
 ·subst e;rw[ae];constructor
  ·intro q;omega
  ·intro q;exact absurd (show(2:Int)=0 from q) (by decide)
 ·rw[ad _ _ e]
theorem Im(a:KA)(b:KZ)(c:KC)(n:Int):(kp a b c).put n PU.nil=kp (a.cx n) b c:=by
 refine KP.ext (fun m=> ?_) ?_ ⟨⟨rfl,rfl,rfl,rfl⟩,rfl,rfl,rfl⟩
 ·by_cases e:m=n
  ·subst e
   rw[KP.gp]
   show _=(aa a.u m PA.nil m).pu _
   rw[ae];rfl
  ·rw[KP.gk _ _ e]
   show(a.u m).pu _=(aa a.u n PA.nil m).pu _
   rw[ad _ _ e]
 ·have e:(a.s.leave n).2.here=a.s.here:=by unfold Sp.SS.leave;split<;>rfl
  show _=fun z=>if(a.s.leave n).2.here z then _ else _
  rw[e];rfl
theorem SS.qJ(s:Sp.SS)(n:Int):(s.leave n).2.here=s.here:=by unfold Sp.SS.leave;split<;>rfl
theorem Gj(a:KA)(n:Int):bI (a.cx n)=bI a:=by
 unfold bI
 rw[show(a.cx n).s.here=a.s.here from SS.qJ _ _]
theorem EK(a:KA){n:Int}(hn:0≤n∧n<20):bD (a.cx n)=eB (bD a) n.toNat:=(gF fun _ _ _=>Iff.rfl).trans (FH (p:=PA.nil) hn rfl)
theorem FX{a:KA}{z:Int}(hz:0≤z∧z<6)(h:(a.s.drop z).2= {a.s with here:=aa a.s.here z false,par:=aa a.s.par z 0}):bI (a.bB z)=eB (bI a) z.toNat:=by
 funext j
 rw[Bool.eq_iff_iff,ek,kh,kh]
 show j<6∧(a.s.drop z).2.here j=true↔_
 rw[h]
 show j<6∧aa a.s.here z false j=true↔_
 by_cases e:(j:Int)=z
 ·rw[e,ae]
  constructor
  ·rintro⟨_,q⟩;cases q
  ·rintro⟨_,q⟩;exact absurd (by omega) q
 ·rw[ad _ _ e]
  constructor
  ·rintro⟨x,y⟩;exact⟨⟨x,y⟩,by omega⟩
  ·rintro⟨x,_⟩;exact x
theorem JK(a:KA)(b:KZ)(c:KC){z:Int}(h:a.s.here z=true):(kp a b c).ms z=ptr (c.t z.toNat).b 0 0:=if_pos h
theorem HW(a:KA)(b:KZ)(c:KC){z:Int}(h:(a.s.drop z).2= {a.s with here:=aa a.s.here z false,par:=aa a.s.par z 0}):({kp a b c with ms:=aa (kp a b c).ms z (.pointer none)} :KP)=kp (a.bB z) b c:=by
 refine KP.ext (fun m=>rfl) ?_ ⟨⟨rfl,rfl,rfl,rfl⟩,rfl,rfl,rfl⟩
 show aa (kp a b c).ms z (.pointer none)=fun y=>if(a.s.drop z).2.here y then ptr (c.t y.toNat).b 0 0 else .pointer none
 rw[h]
 funext y
 by_cases e:y=z
 ·subst e
  rw[ae]
  show _=if aa a.s.here y false y=true then _ else _
  rw[ae];rfl
 ·rw[ad _ _ e]
  show(if a.s.here y then _ else _)=if aa a.s.here z false y=true then _ else _
  rw[ad _ _ e]
def KA.eI(h:Int)(a:KA)(m:Int):KA:=if m=h then a else(if(a.u m).st=1 then a.bW m 0 else a).cx m
def KA.round(a:KA):KA:=(Sp.fc a.s.here 6).foldl KA.bB a
def KA.members(a:KA)(z h:Int):KA:=(a.s.mem z).1.foldl (KA.eI h) a
def KA.rounds(a:KA):Nat→KA
 | 0=>a
 | k+1=>(a.rounds k).round
def KA.bO(a:KA)(z h:Int):KA:=(a.members z h).rounds 4
theorem ki{α β:Type}(f:α→β→α)(a:α)(l:List β)(x:β):(l++[x]).foldl f a=f (l.foldl f a) x:=by rw[List.foldl_append];rfl
theorem pY(a:KA){n m:Int}(co:Int)(h:m≠n):(a.bW n co).u m=a.u m:=ad _ _ h
theorem ly(a:KA){n m:Int}(h:m≠n):(a.cx n).u m=a.u m:=ad _ _ h
theorem xJ(a:KA)(h:Int){n m:Int}(e:m≠n):(a.eI h n).u m=a.u m:=by
 unfold KA.eI
 split
 ·rfl
 ·rw[ly _ e]
  split
  ·exact pY _ _ e
  ·rfl
theorem nB(a:KA)(n co:Int):((a.bW n co).u n).st=2:=by
 show(aa a.u n _ n).st=2
 rw[ae]
theorem SS.AS{s:Sp.SS}{z p:Int}(h:p∈(s.mem z).1):∃ q:Int,0≤q∧q<21∧s.bX z q=p∧0≤p:=by
 unfold Sp.SS.mem at h
 split at h
 ·cases h
 ·obtain⟨j,h0,h1,h2,h3⟩:=iu.1 h
  exact⟨j,by omega,by omega,h3,by omega⟩
theorem KA.F2(a:KA)(h:Int){m:Int} :∀ {l:List Int},m∉l→(l.foldl (KA.eI h) a).u m=a.u m
 | [],_=>rfl
 | x::r,hm=>by
  rw[List.foldl_cons,KA.F2 (a.eI h x) h (fun q=>hm (.tail _ q)),xJ _ _ (by rintro rfl;exact hm (.head _))]
theorem KA.Wk.eI{a:KA}{T:Int}(w:a.Wk T)(h:Int){m:Int}(hm:0≤m∧m<20):(a.eI h m).Wk T:=by
 unfold KA.eI
 split
 ·exact w
 ·split
  ·rename_i c
   exact(w.bW hm c 0).cx hm (by rw[nB];decide)
  ·rename_i c;exact w.cx hm c
theorem SS.mem_range{s:Sp.SS}{dep:Int→Nat}(h:s.Inv dep){z p:Int}(hp:p∈(s.mem z).1):(0≤p∧p<20)∧0≤s.loc p:=by
 obtain⟨q,_,_,e,p0⟩:=SS.AS hp
 have:=h.mem z q p p0 e
 exact⟨⟨p0,this.1⟩,this.2.2.2.1⟩
theorem KA.Wk.zS{a:KA}{T:Int}(w:a.Wk T)(z:Int){p:Int}(hp:p∈(a.s.mem z).1):(0≤p∧p<20)∧(a.u p).st≠0:=by
 obtain⟨h1,h2⟩:=SS.mem_range w.sI hp
 exact⟨h1,(w.lc p h1.1 h1.2).2 h2⟩
theorem KA.Wk.Jt{T:Int}(h:Int):∀ {l:List Int} {a:KA},a.Wk T→(∀ m∈l,0≤m∧m<20)→(l.foldl (KA.eI h) a).Wk T
 | [],_,w,_=>w
 | x::r,_,w,hl=>KA.Wk.Jt (l:=r) h (w.eI h (hl x (.head _))) (fun m hm=>hl m (.tail _ hm))
theorem KA.Wk.members{a:KA}{T:Int}(w:a.Wk T)(z h:Int):(a.members z h).Wk T:=KA.Wk.Jt h w (fun _ hm=>(SS.mem_range w.sI hm).1)
theorem KA.Wk.pR{T:Int} :∀ {l:List Int} {a:KA},a.Wk T→(l.foldl KA.bB a).Wk T
 | [],_,w=>w
 | x::r,_,w=>KA.Wk.pR (l:=r) (w.bB x)
theorem KA.Wk.round{a:KA}{T:Int}(w:a.Wk T):a.round.Wk T:=KA.Wk.pR w
theorem KA.Wk.rounds{a:KA}{T:Int}(w:a.Wk T):∀ k,(a.rounds k).Wk T
 | 0=>w
 | k+1=>(w.rounds k).round
theorem KA.Wk.bO{a:KA}{T:Int}(w:a.Wk T)(z h:Int):(a.bO z h).Wk T:=(w.members z h).rounds 4
theorem KA.xV(a:KA){i:Int}(h:0≤i):a.rounds (i+1).toNat=(a.rounds i.toNat).round:=by
 rw[show(i+1).toNat=i.toNat+1 by omega];rfl
theorem lI{l:List Int}{i:Int}(h:0≤i∧i<l.length):l.take (i+1).toNat=l.take i.toNat++[ep l i]:=Vm.JT h
theorem GA{l:List Int}(hn:l.Nodup){i:Int}(h:0≤i∧i<l.length):ep l i∉l.take i.toNat:=by
 intro q
 have h1:(l.take i.toNat++l.drop i.toNat).Nodup:=by rwa[List.take_append_drop]
 have h2:ep l i∈l.drop i.toNat:=by
  rw[List.drop_eq_getElem_cons (by omega)]
  have e2:ep l i=l[i.toNat]'(by omega):=by
   unfold ep
   rw[List.getD_eq_getElem?_getD,List.getElem?_eq_getElem (by omega)];rfl
  rw[e2];exact .head _
 exact(List.nodup_append.1 h1).2.2 _ q _ h2 rfl
theorem FF.iP(s:Tr.FF)(n:Int):(s.hG n).roots=s.roots:=by
 unfold Tr.FF.hG Tr.FF.mD;split
 ·split<;>rfl
 ·rfl
theorem FF.rA:∀ (l:List Tr.MT) (s:Tr.FF),(Tr.sU s l).roots=s.roots
 | [],_=>rfl
 | m::r,s=>(FF.rA r _).trans ((FF.iP _ _).trans (FF.iP _ _))
theorem FF.vm(s:Tr.FF)(l:List Tr.MT)(r:Tr.WH):(Tr.vN s l r).roots=s.roots:=(FF.iP _ _).trans (FF.rA _ _)
theorem SS.Cd{s:Sp.SS}{z y:Int}(h:(s.drop z).2.here y=true):s.here y=true:=by
 rcases SS.mH s z with⟨_,e⟩ | ⟨_,_,_,_,e,_⟩
 ·rwa[e]at h
 ·rw[e]at h
  have h:aa s.here z false y=true:=h
  by_cases c:y=z
  ·subst c;rw[ae]at h;cases h
  ·rwa[ad _ _ c]at h
theorem ah.FW(k:KP){z:Int}(h:0≤z∧z<6){v:Value}(e:k.ms z=v):0+447+z.toNat*1<453∧ah k (0+447+z.toNat*1)=v:=⟨(ah.G4 k h).1,(ah.G4 k h).2.trans e⟩
theorem dt.GK{a:KA}{c:KC}{N:Nat}{T:Int}{n:Int}(h:dt a c N T):dt (a.cx n) c N T:=⟨h.qO,h.qR,h.F,h.rp,h.rc,h.rl,fun z h0 h1 h2=>h.tb z h0 h1 (by rwa[show(a.cx n).s.here=a.s.here from SS.qJ _ _]at h2)⟩
theorem ks(x:Sg.BS)(n:Int)(h:x.wait 0=false):(x.send n).2.wait 0=false:=by
 unfold Sg.BS.send
 split
 ·rename_i c
  have:=(Sg.BS.fZ n).1 c
  show(if x.mn n=1 then x else _).wait 0=false
  split
  ·exact h
  ·show aa x.wait n true 0=false
   rw[ad _ _ (by omega)];exact h
 ·exact h
theorem pI{x y:Sg.BS}{h:Int}(e:∀ k:Int,0≤k→k<9→(x.wait k&&(!x.held k&&decide (x.bd k=h)))=(y.wait k&&(!y.held k&&decide (y.bd k=h)))):x.first h=y.first h:=by
 unfold Sg.BS.first
 have e2:ck (fun k=>x.wait k&&(!x.held k&&decide (x.bd k=h))) 9=ck (fun k=>y.wait k&&(!y.held k&&decide (y.bd k=h))) 9:=by
  cases hy:ck (fun k=>y.wait k&&(!y.held k&&decide (y.bd k=h))) 9 with
  | none=>exact cF (fun j j0 j1=>(e j j0 (by omega)).trans (Vm.jO hy j j0 j1))
  | some m=>
   obtain⟨h1,h2,h3⟩:=Vm.fP hy
   have:=cS (p:=fun k=>x.wait k&&(!x.held k&&decide (x.bd k=h))) (m:=9) (k:=(m:Int)) (by omega) (by omega) ((e m (by omega) (by omega)).trans h2) (fun j j0 j1=>(e j j0 (by omega)).trans (h3 j j0 j1))
   rw[this];rfl
 rw[e2]
theorem uJ(x:Sg.BS):(x.send 3).2.first 0=x.first 0:=by
 unfold Sg.BS.send
 rw[if_pos (by decide)]
 show(if x.mn 3=1 then x else _).first 0=_
 split
 ·rfl
 ·rename_i c
  refine pI fun k k0 k1=> ?_
  show(aa x.wait 3 true k&&_)=_
  by_cases e:k=3
  ·subst e
   have h0:¬x.bd 3=0:=fun q=>c (by unfold Sg.BS.mn;rw[if_pos ⟨rfl,q⟩])
   rw[decide_eq_false h0];simp
  ·rw[ad _ _ e]
def KA.eT(a:KA)(n:Int)(x:Sg.BS):KA:= {a with u:=aa a.u n {a.u n with bx:=x}}
def KA.live(a:KA)(n:Int):Int:=if n<0∨20≤n then 1 else if(a.u n).st=1 then 0 else 2
theorem Hj(a:KA)(b:KZ)(c:KC)(n:Int):(kp a b c).live n=a.live n:=rfl
theorem KA.kG{a:KA}{n:Int}(h:a.live n=0):(0≤n∧n<20)∧(a.u n).st=1:=by
 unfold KA.live at h
 split at h
 ·omega
 ·split at h
  ·exact⟨by omega,by assumption⟩
  ·omega
theorem oN(a:KA)(b:KZ)(c:KC)(n:Int)(x:Sg.BS):(kp a b c).box n x=kp (a.eT n x) b c:=uX a b c n {a.u n with bx:=x} _ rfl
theorem ku(a:KA){n m:Int}(x:Sg.BS)(h:m≠n):(a.eT n x).u m=a.u m:=ad _ _ h
theorem nO(a:KA)(n:Int)(x:Sg.BS):(a.eT n x).u n= {a.u n with bx:=x} :=ae _ _ _
theorem ey(a:KA)(n m:Int)(x:Sg.BS):((a.eT n x).u m).st=(a.u m).st:=by
 by_cases e:m=n
 ·subst e;rw[nO]
 ·rw[ku _ _ e]
theorem lY(a:KA)(n:Int)(x:Sg.BS):bD (a.eT n x)=bD a:=gF fun m _ _=>by rw[ey]
theorem KA.Wk.eT{a:KA}{T:Int}(h:a.Wk T){n:Int}(hn:0≤n∧n<20){x:Sg.BS}(hx:x.wait 0=false):(a.eT n x).Wk T where
 T0:=h.T0
 gI:=h.gI
 gS:=h.gS
 sI:=h.sI
 sys:=h.sys
 nilf:=fun m a0 a1 q=>h.nilf m a0 a1 (by rwa[ey]at q)
 PI:=h.PI
 OI:=h.OI
 lc:=fun m a0 a1=>by rw[ey];exact h.lc m a0 a1
 st:=fun m=>by rw[ey];exact h.st m
 out:=fun m hm=>by rw[ku _ _ (by omega)];exact h.out m hm
 fd:=fun m i=>gl a.u n m _ (Q:=fun z=>0≤z.fd i∧z.fd i≤24) (fun _=>h.fd n i) (fun _=>h.fd m i)
 bx:=fun m=>gl a.u n m _ (Q:=fun z=>z.bx.wait 0=false) (fun _=>hx) (fun _=>h.bx m)
def KA.head(a:KA)(n:Int):Int:=(a.s.find (a.s.bZ n).1 1).1
def KA.cr(a:KA)(n h:Int):KA:= {a with u:=fun j=>if 0≤j∧j<20∧(a.u j).st≠0∧(a.u j).par=n then {a.u j with par:=h} else a.u j}
theorem cO(a:KA)(n h j:Int):((a.cr n h).u j).st=(a.u j).st∧((a.cr n h).u j).bx=(a.u j).bx∧((a.cr n h).u j).grp=(a.u j).grp∧((a.cr n h).u j).code=(a.u j).code∧((a.cr n h).u j).fd=(a.u j).fd:=by
 show((if 0≤j∧j<20∧(a.u j).st≠0∧(a.u j).par=n then {a.u j with par:=h} else a.u j):PA).st=_∧((if 0≤j∧j<20∧(a.u j).st≠0∧(a.u j).par=n then {a.u j with par:=h} else a.u j):PA).bx=_∧((if 0≤j∧j<20∧(a.u j).st≠0∧(a.u j).par=n then {a.u j with par:=h} else a.u j):PA).grp=_∧((if 0≤j∧j<20∧(a.u j).st≠0∧(a.u j).par=n then {a.u j with par:=h} else a.u j):PA).code=_∧((if 0≤j∧j<20∧(a.u j).st≠0∧(a.u j).par=n then {a.u j with par:=h} else a.u j):PA).fd=_
 split<;>exact⟨rfl,rfl,rfl,rfl,rfl⟩
theorem wZ(a:KA)(b:KZ)(c:KC)(n h:Int):(kp a b c).fB n h 20=kp (a.cr n h) b c:=by
 refine KP.ext (fun m=> ?_) rfl ⟨⟨rfl,rfl,rfl,rfl⟩,rfl,rfl,rfl⟩
 show(if 0≤m∧m<20∧(a.u m).st≠0∧(a.u m).par=n then {(a.u m).pu _ with par:=h} else(a.u m).pu _)=PA.pu (if 0≤m∧m<20∧(a.u m).st≠0∧(a.u m).par=n then {a.u m with par:=h} else a.u m) _
 split<;>rfl
theorem tg(a:KA)(n h:Int):bD (a.cr n h)=bD a:=gF fun m _ _=>by rw[(cO _ _ _ _).1]
theorem KA.Wk.cr{a:KA}{T:Int}(w:a.Wk T)(n h:Int):(a.cr n h).Wk T where
 T0:=w.T0
 gI:=w.gI
 gS:=w.gS
 sI:=w.sI
 sys:=w.sys
 nilf:=fun m a0 a1 q=>w.nilf m a0 a1 (by rwa[(cO _ _ _ _).1]at q)
 PI:=w.PI
 OI:=w.OI
 lc:=fun m a0 a1=>by rw[(cO _ _ _ _).1];exact w.lc m a0 a1
 st:=fun m=>by rw[(cO _ _ _ _).1];exact w.st m
 out:=fun m hm=>by
  show(if 0≤m∧m<20∧(a.u m).st≠0∧(a.u m).par=n then {a.u m with par:=h} else a.u m)=PA.nil
  rw[if_neg (by omega)];exact w.out m hm
 fd:=fun m i=>by rw[(cO _ _ _ _).2.2.2.2];exact w.fd m i
 bx:=fun m=>by rw[(cO _ _ _ _).2.1];exact w.bx m
def KA.dD(a:KA)(p:Int):KA:=if a.live p=0 then a.eT p ((a.u p).bx.send 3).2 else a
theorem KA.Wk.dD{a:KA}{T:Int}(w:a.Wk T)(p:Int):(a.dD p).Wk T:=by
 unfold KA.dD;split
 ·rename_i c;exact w.eT (KA.kG c).1 (ks _ _ (w.bx p))
 ·exact w
def KA.ew(a:KA)(n co:Int):KA:=if a.head n=n then(a.bW n co).bO (a.s.bZ n).1 n else a.bW n co
def KA.bn(a:KA)(n co:Int):KA:=((a.ew n co).cr n (a.head n)).dD (((a.ew n co).cr n (a.head n)).u n).par
theorem KA.Wk.ew{a:KA}{T:Int}(w:a.Wk T){n:Int}(hn:0≤n∧n<20)(hl:(a.u n).st=1)(co:Int):(a.ew n co).Wk T:=by
 unfold KA.ew;split
 ·exact(w.bW hn hl co).bO _ _
 ·exact w.bW hn hl co
theorem KA.Wk.bn{a:KA}{T:Int}(w:a.Wk T){n:Int}(hn:0≤n∧n<20)(hl:(a.u n).st=1)(co:Int):(a.bn n co).Wk T:=((w.ew hn hl co).cr _ _).dD _
def KA.Hx(a:KA)(n:Int):Prop:=∀ p,0≤p→p<20→p≠n→(a.u p).st=1→(a.u p).bx.first 0=0∨a.s.bX (a.s.loc p) 1=p
theorem KA.Hx.bW{a:KA}{n:Int}(h:a.Hx n)(co:Int):(a.bW n co).Hx n:=fun p h0 h1 h2 h3=>by
 rw[pY _ _ h2]at h3 ⊢;exact h p h0 h1 h2 h3
theorem KA.Hx.NX{a:KA}{n m:Int}(h:a.Hx n)(co:Int):(a.bW m co).Hx n:=fun p h0 h1 h2 h3=>by
 by_cases e:p=m
 ·subst e;rw[nB]at h3;omega
 ·rw[pY _ _ e]at h3 ⊢;exact h p h0 h1 h2 h3
theorem SS.uI{s:Sp.SS}{n p z q:Int}(e:p≠n)(h:s.bX z q=p):(s.leave n).2.bX z q=p:=by
 unfold Sp.SS.leave;split
 ·exact h
 ·show(if s.bX z q=n then-1 else s.bX z q)=p
  rw[if_neg (by omega)];exact h
theorem KA.Hx.cx{a:KA}{n m:Int}(h:a.Hx n):(a.cx m).Hx n:=fun p h0 h1 h2 h3=>by
 by_cases e:p=m
 ·subst e
  have:((a.cx p).u p).st=0:=by
   show(aa a.u p PA.nil p).st=0
   rw[ae];rfl
  omega
 ·rw[ly _ e]at h3 ⊢
  rcases h p h0 h1 h2 h3 with q | q
  ·exact .inl q
  ·right
   show(a.s.leave m).2.bX ((a.s.leave m).2.loc p) 1=p
   rw[SS.qu _ e]
   exact SS.uI e q
theorem SS.xU(s:Sp.SS)(z:Int):(s.drop z).2.bX=s.bX:=by
 rcases SS.mH s z with⟨_,e⟩ | ⟨_,_,_,_,e,_⟩<;>rw[e]
theorem KA.Hx.bB{a:KA}{n:Int}(h:a.Hx n)(z:Int):(a.bB z).Hx n:=fun p h0 h1 h2 h3=>by
 show _∨(a.s.drop z).2.bX ((a.s.drop z).2.loc p) 1=p
 rw[SS.xU,SS.rU]
 exact h p h0 h1 h2 h3
theorem KA.Hx.Jt{n:Int}(k:Int):∀ {l:List Int} {a:KA},a.Hx n→(l.foldl (KA.eI k) a).Hx n
 | [],_,w=>w
 | x::r,a,w=>KA.Hx.Jt k (l:=r) (by
   unfold KA.eI
   split
   ·exact w
   ·refine KA.Hx.cx ?_
    split
    ·exact w.NX 0
    ·exact w)
theorem KA.Hx.pR{n:Int} :∀ {l:List Int} {a:KA},a.Hx n→(l.foldl KA.bB a).Hx n
 | [],_,w=>w
 | x::r,_,w=>KA.Hx.pR (l:=r) (w.bB x)
theorem KA.Hx.rounds{a:KA}{n:Int}(w:a.Hx n):∀ k,(a.rounds k).Hx n
 | 0=>w
 | k+1=>KA.Hx.pR (w.rounds k)
theorem KA.Hx.ew{a:KA}{n:Int}(w:a.Hx n)(co:Int):(a.ew n co).Hx n:=by
 unfold KA.ew;split
 ·exact KA.Hx.rounds (KA.Hx.Jt n (w.bW co)) 4
 ·exact w.bW co
theorem KA.Hx.cr{a:KA}{n:Int}(w:a.Hx n)(m h:Int):(a.cr m h).Hx n:=fun p h0 h1 h2 h3=>by
 rw[(cO _ _ _ _).1]at h3
 rw[(cO _ _ _ _).2.1]
 exact w p h0 h1 h2 h3
theorem KA.Hx.dD{a:KA}{n:Int}(w:a.Hx n)(m:Int):(a.dD m).Hx n:=fun p h0 h1 h2 h3=>by
 unfold KA.dD at h3 ⊢
 split
 ·rename_i c
  rw[if_pos c,ey]at h3
  by_cases e:p=m
  ·subst e
   rw[nO]
   show((a.u p).bx.send 3).2.first 0=0∨_
   rw[uJ]
   exact w p h0 h1 h2 h3
  ·rw[ku _ _ e];exact w p h0 h1 h2 h3
 ·rename_i c
  rw[if_neg c]at h3
  exact w p h0 h1 h2 h3
theorem KA.Wk.xo{a:KA}{T:Int}(w:a.Wk T){p:Int}(h0:0≤p∧p<20)(hs:(a.u p).st≠0)(h:a.s.bX (a.s.loc p) 1=p):a.head p=p:=by
 have h1:=(w.lc p h0.1 h0.2).1 hs
 have h2:=w.sI.loc p
 have h3:=w.sI.at_ p h0.1 h0.2 h1
 have e1:a.s.bZ p=(a.s.loc p,0):=by unfold Sp.SS.bZ;rw[if_neg (by omega),if_neg (by omega)]
 unfold KA.head
 rw[e1]
 have e2:a.s.is (a.s.loc p)=0:=by unfold Sp.SS.is;rw[if_neg (by omega),if_pos h3]
 show(a.s.find (a.s.loc p) 1).1=p
 unfold Sp.SS.find
 rw[if_neg (by omega),if_neg (by omega),if_neg (by omega)]
 exact h
def KA.ends(a:KA)(n:Int)(o:Bool):Prop:=(a.u n).bx.first 0≠0∧(o=true∨a.head n≠n)
instance (a:KA) (n:Int) (o:Bool):Decidable (a.ends n o):=by unfold KA.ends;infer_instance
def KA.bV(a:KA)(n:Int)(o:Bool):KA:=if a.ends n o then a.bn n (128+(a.u n).bx.first 0)else a
def KA.fy(a:KA)(n sig:Int)(o:Bool):KA:=if a.live n=0 then(a.eT n ((a.u n).bx.send sig).2).bV n o else a
theorem wS(a:KA):∀ k,(a.rounds k).u=a.u
 | 0=>rfl
 | k+1=>by
  show((Sp.fc (a.rounds k).s.here 6).foldl KA.bB (a.rounds k)).u=a.u
  have e:∀ (l:List Int) (x:KA),(l.foldl KA.bB x).u=x.u:=fun l=>by
   induction l with
   | nil=>intro x;rfl
   | cons y r ih=>intro x;rw[List.foldl_cons,ih];rfl
  rw[e];exact wS a k
theorem xD(h:Int):∀ (l:List Int) (a:KA),(l.foldl (KA.eI h) a).u h=a.u h
 | [],_=>rfl
 | x::r,a=>by
  rw[List.foldl_cons,xD h r]
  by_cases e:h=x
  ·unfold KA.eI;rw[if_pos e.symm]
  ·exact xJ a h e
theorem wE(a:KA)(z h:Int):(a.bO z h).u h=a.u h:=by
 unfold KA.bO
 rw[wS]
 unfold KA.members
 exact xD h _ a
theorem nR(a:KA)(n co:Int):((a.ew n co).u n).st≠1:=by
 have h2:((a.bW n co).u n).st=2:=nB a n co
 unfold KA.ew;split
 ·rw[wE,h2];decide
 ·rw[h2];decide
theorem KA.Ey{a:KA}{T:Int}{n:Int}{b:KZ}{c:KC}(w:a.Wk T)(hx:a.Hx n)(hs:(a.u n).st≠1){p:Int}(q:(kp a b c).live p=0):(((kp a b c).u p).bx.send 3).2.first 0=0∨(false=false∧(a.s.find (a.s.bZ p).1 1).1=p):=by
 obtain⟨h1,h2⟩:=KA.kG (a:=a) (n:=p) q
 have hne:p≠n:=by rintro rfl;exact hs h2
 rcases hx p h1.1 h1.2 hne h2 with e | e
 ·left
  rw[uJ];exact e
 ·exact .inr ⟨rfl,w.xo h1 (by omega) e⟩
theorem Lw(a:KA)(b:KZ)(c:KC)(p:Int):(if(kp a b c).live p=0 then(kp a b c).box p (((kp a b c).u p).bx.send 3).2 else kp a b c)=kp (a.dD p) b c:=by
 unfold KA.dD
 rw[Hj]
 split
 ·exact oN a b c p _
 ·rfl
theorem Ih(a:KA)(p:Int):bD (a.dD p)=bD a:=by
 unfold KA.dD;split
 ·exact lY _ _ _
 ·rfl
theorem KA.so(a:KA)(p:Int):(a.dD p).s=a.s∧(a.dD p).g=a.g∧(a.dD p).v=a.v∧(a.dD p).f=a.f∧(a.dD p).P=a.P∧(a.dD p).O=a.O:=by
 unfold KA.dD;split<;>exact⟨rfl,rfl,rfl,rfl,rfl,rfl⟩
theorem dt.dI{a:KA}{c:KC}{N:Nat}{T:Int}(h:dt a c N T)(n m p:Int):dt ((a.cr n m).dD p) c N T:=⟨h.qO,h.qR,h.F,h.rp,h.rc,h.rl,fun z h0 h1 h2=>h.tb z h0 h1 (by rwa[(KA.so _ _).1]at h2)⟩
end Go.X.Kn
