import Derived.Test.YthdinakloheinaaGreatDoorXBytes
set_option linter.all false
namespace Go.X.Fa
open Go Go.X
variable{i id j k m n z:Int}
def A3(k i k' i':Int):Prop:=k<k'\/(k=k'/\i<i')
instance (k i k' i':Int):Decidable (A3 k i k' i'):=by unfold A3;infer_instance
structure QS where
 n:Nat
 K:Int->Int
 I:Int->Int
 at_:Int->Int
def QS.set(s:QS)(i k id:Int):QS:= {s with K:=ad s.K i k,I:=ad s.I i id,at_:=ad s.at_ id (i+1)}
def QS.EK:Nat->QS->Int->Int->Int->QS
 | 0,s,i,k,id=>s.set i k id
 | f+1,s,i,k,id=>if 0<i/\A3 k id (s.K ((i-1)/2)) (s.I ((i-1)/2))then QS.EK f (s.set i (s.K ((i-1)/2)) (s.I ((i-1)/2))) ((i-1)/2) k id else s.set i k id
def QS.up(s:QS)(i:Int):QS:=QS.EK i.toNat s i (s.K i) (s.I i)
def QS.bA(s:QS)(i:Int):Int:=if 2*i+1+1<s.n/\A3 (s.K (2*i+1+1)) (s.I (2*i+1+1)) (s.K (2*i+1)) (s.I (2*i+1))then 2*i+1+1 else 2*i+1
def QS.kK:Nat->QS->Int->Int->Int->QS
 | 0,s,i,k,id=>s.set i k id
 | f+1,s,i,k,id=>if s.bA i<s.n/\A3 (s.K (s.bA i)) (s.I (s.bA i)) k id then QS.kK f (s.set i (s.K (s.bA i)) (s.I (s.bA i))) (s.bA i) k id else s.set i k id
def QS.down(s:QS)(i:Int):QS:=QS.kK (s.n-i.toNat) s i (s.K i) (s.I i)
def QS.kA(s:QS)(k id:Int):QS:= {s with n:=s.n+1,K:=ad s.K s.n k,I:=ad s.I s.n id}
def QS.put(s:QS)(id k:Int):Int×QS:=if id<0\/63<id then(1,s)else if 0<s.at_ id then(3,s)else(0,(s.kA k id).up s.n)
def QS.ft(s:QS)(id:Int):QS:= {s with n:=s.n-1,at_:=ad s.at_ id 0}
def QS.abP(s:QS)(i k id:Int):QS:=((s.set i k id).down i).up (((s.set i k id).down i).at_ id-1)
def QS.vT(s:QS)(id:Int):QS:=if s.at_ id-1<(s.n:Int)-1 then(s.ft id).abP (s.at_ id-1) (s.K ((s.n:Int)-1)) (s.I ((s.n:Int)-1))else s.ft id
def QS.cut(s:QS)(id:Int):Int×Int×QS:=if id<0\/63<id then(0,1,s)else if s.at_ id=0 then(0,2,s)else(s.K (s.at_ id-1),0,s.vT id)
def QS.ig(s:QS)(id:Int):Int×Int:=if id<0\/63<id then(0,1)else if s.at_ id=0 then(0,2)else(s.K (s.at_ id-1),0)
def QS.dB:QS:=⟨0,fun _=>0,fun _=>0,fun _=>0⟩
structure QS.Ok (s:QS):Prop where
 n64:s.n<=64
 nV:∀ j:Int,0<=j->j<s.n->0<=s.I j/\s.I j<64
 Jl:∀ j:Int,0<=j->j<s.n->s.at_ (s.I j)=j+1
 L0:∀ id,0<=id->id<64->s.at_ id=0\/(1<=s.at_ id/\s.at_ id<=s.n/\s.I (s.at_ id-1)=id)
def QS.L(s:QS)(a b:Int):Prop:=A3 (s.K a) (s.I a) (s.K b) (s.I b)
instance (s:QS) (a b:Int):Decidable (s.L a b):=by unfold QS.L;infer_instance
def QS.vK(s:QS):Prop:=∀ j:Int,0<j->j<s.n->¬s.L j ((j-1)/2)
theorem qM{s:QS}{a b:Int}(h:s.L a b):¬s.L b a:=by unfold QS.L A3 at*;omega
theorem rW{s:QS}{a b c:Int}(h:¬s.L a b)(h2:¬s.L b c):¬s.L a c:=by grind [QS.L,A3]
def QS.aav(s:QS)(a:Int):¬s.L a a:=by unfold QS.L A3;omega
def sw(i j m:Int):Int:=if m=i then j else if m=j then i else m
theorem Hg(i j:Int):sw i j i=j:=by simp[sw]
theorem Qe(i j:Int):sw i j j=i:=by
 unfold sw;split
 ·rename_i h;exact h
 ·simp
theorem EW(h1:¬m=i)(h2:¬m=j):sw i j m=m:=by simp[sw,h1,h2]
def QS.swap(s:QS)(i j:Int):QS:=(s.set i (s.K j) (s.I j)).set j (s.K i) (s.I i)
theorem FJ(s:QS)(i j m:Int):(s.swap i j).K m=s.K (sw i j m):=by
 show ad (ad s.K i (s.K j)) j (s.K i) m=_;grind [ad,sw]
theorem qN(s:QS)(i j m:Int):(s.swap i j).I m=s.I (sw i j m):=by
 show ad (ad s.I i (s.I j)) j (s.I i) m=_;grind [ad,sw]
theorem va(s:QS)(i j a b:Int):(s.swap i j).L a b↔s.L (sw i j a) (sw i j b):=by
 grind [QS.L,FJ,qN]
theorem CM(s:QS)(i j id:Int):(s.swap i j).at_ id=if id=s.I i then j+1 else if id=s.I j then i+1 else s.at_ id:=rfl
def QS.L3(s:QS)(id:Int):Int:=s.K (s.at_ id-1)
structure QS.wO (s t:QS):Prop where
 n:t.n=s.n
 at_:∀ id,0<=id->id<64->(t.at_ id=0↔s.at_ id=0)
 k:∀ id,0<=id->id<64->¬s.at_ id=0->t.L3 id=s.L3 id
theorem QS.wO.refl(s:QS):s.wO s:=⟨rfl,fun _ _ _=>Iff.rfl,fun _ _ _ _=>rfl⟩
def QS.wO.trans{s t u:QS}(h:s.wO t)(h2:t.wO u):s.wO u:=
 ⟨h2.n.trans h.n,fun id a b=>(h2.at_ id a b).trans (h.at_ id a b),fun id a b c=>(h2.k id a b fun q=>c ((h.at_ id a b).1 q)).trans (h.k id a b c)⟩
theorem QS.Ok.inj{s:QS}(h:s.Ok)(hi:0<=i/\i<s.n)(hj:0<=j/\j<s.n)(he:s.I i=s.I j):i=j:=by
 grind [QS.Ok.Jl]
def abR{n:Nat}(hi:0<=i/\i<n)(hj:0<=j/\j<n)(hm:0<=m/\m<n):0<=sw i j m/\sw i j m<n:=by
 grind [sw]
def QS.Ok.swap{s:QS}(h:s.Ok){i j:Int}(hi:0<=i/\i<s.n)(hj:0<=j/\j<s.n)(gY:¬i=j):(s.swap i j).Ok/\s.wO (s.swap i j):=by
 have hII:¬s.I i=s.I j:=fun e=>gY (h.inj hi hj e);have hn:(s.swap i j).n=s.n:=rfl;refine⟨⟨h.n64,fun m m0 m1=> ?_,fun m m0 m1=> ?_,fun id d0 d1=> ?_⟩,⟨rfl,fun id d0 d1=> ?_,fun id d0 d1 hp=> ?_⟩⟩
 ·rw[qN];have:=abR hi hj ⟨m0,m1⟩;exact h.nV _ this.1 this.2
 ·grind [qN,CM,Hg,Qe,EW,QS.Ok.Jl]
 all_goals grind [CM,qN,Qe,Hg,QS.Ok.L0,EW,QS.Ok.Jl,QS.L3,FJ]
def QS.Sr:Nat->QS->Int->QS
 | 0,s,_=>s
 | f+1,s,i=>if 0<i/\s.L i ((i-1)/2)then QS.Sr f (s.swap i ((i-1)/2)) ((i-1)/2)else s
theorem iq{s:QS}(h:¬m=i):(s.set i k id).K m=s.K m/\(s.set i k id).I m=s.I m:=⟨ae _ _ h,ae _ _ h⟩
theorem QS.tO(s:QS)(i k id:Int):(s.set i k id).K i=k/\(s.set i k id).I i=id:=⟨aj _ _ _,aj _ _ _⟩
theorem CN{s:QS}{p:Int}(hp:¬p=i):(s.set i (s.K p) (s.I p)).set p k id=(s.set i k id).swap i p:=by
 unfold QS.swap;rw[(iq hp).1,(iq hp).2,(s.tO i k id).1,(s.tO i k id).2];unfold QS.set;simp only[QS.mk.injEq,true_and];grind [ad]
theorem wP:∀ (f:Nat) (s:QS) (i k id:Int),QS.EK f s i k id=QS.Sr f (s.set i k id) i
 | 0,_,_,_,_=>rfl
 | f+1,s,i,k,id=>by
  have e:(0<i/\A3 k id (s.K ((i-1)/2)) (s.I ((i-1)/2)))↔(0<i/\(s.set i k id).L i ((i-1)/2)):=by
   grind [QS.L,QS.tO,iq]
  rw[QS.EK,QS.Sr];by_cases c:0<i/\A3 k id (s.K ((i-1)/2)) (s.I ((i-1)/2))
  ·rw[if_pos c,if_pos (e.1 c),wP f,CN og]
  grind
theorem A4{s:QS}(h:s.at_ (s.I i)=i+1):s.set i (s.K i) (s.I i)=s:=by
 simp_all[QS.set,cH]
def QS.Exc(s:QS)(i:Int):Prop:=(∀ j:Int,0<j->j<s.n->¬j=i->¬s.L j ((j-1)/2))/\(0<i->∀ j:Int,0<j->j<s.n->(j-1)/2=i->¬s.L j ((i-1)/2))
theorem QS.Ok.Sr:∀ (f:Nat) {s:QS} {i:Int},s.Ok->s.Exc i->0<=i->i<s.n->i<=f->(QS.Sr f s i).Ok/\s.wO (QS.Sr f s i)/\(QS.Sr f s i).vK:=by
 have stop:∀ {s:QS} {i:Int},s.Exc i->¬(0<i/\s.L i ((i-1)/2))->s.vK:=fun {s i} he hn j j0 j1=>by
  grind [QS.Exc]
 intro f;induction f with
 | zero=>exact fun h he h0 h1 hf=>⟨h,QS.wO.refl _,stop he og⟩
 | succ f ih=>
  intro s i h he h0 h1 hf;rw[QS.Sr];by_cases c:0<i/\s.L i ((i-1)/2)
  ·rw[if_pos c];have Ss:0<=(i-1)/2/\(i-1)/2<s.n:=og;have gY:¬i=(i-1)/2:=og;obtain⟨o1,o2⟩:=h.swap ⟨h0,h1⟩ Ss gY;have SH:(s.swap i ((i-1)/2)).Exc ((i-1)/2):=by
    refine⟨fun j j0 j1 jn=> ?_,fun p0 j j0 j1 jp=> ?_⟩
    ·rw[va];by_cases c1:j=i
     ·grind [Hg,Qe,qM]
     ·rw[EW c1 jn];by_cases c2:(j-1)/2=i
      ·rw[c2,Hg];exact he.2 c.1 j j0 j1 c2
      ·by_cases c3:(j-1)/2=(i-1)/2
       ·rw[c3,Qe];have:=he.1 j j0 j1 c1;grind [rW,qM]
       ·rw[EW c2 c3];exact he.1 j j0 j1 c1
    ·rw[va];have hpp:=he.1 ((i-1)/2) p0 Ss.2 fun e=>gY e.symm;have q1:¬((i-1)/2-1)/2=i:=og;have q2:¬((i-1)/2-1)/2=(i-1)/2:=og;rw[EW q1 q2];by_cases c1:j=i
     ·grind [Hg]
     ·have jn:¬j=(i-1)/2:=og;rw[EW c1 jn];have:=he.1 j j0 j1 c1;grind [rW]
   obtain⟨i1,i2,i3⟩:=ih o1 SH Ss.1 Ss.2 og;exact⟨i1,o2.trans i2,i3⟩
  ·rw[if_neg c];exact⟨h,QS.wO.refl _,stop he c⟩
theorem QS.Ok.abS{s:QS}(h:s.Ok)(h0:0<=i)(h1:i<s.n):s.up i=QS.Sr i.toNat s i:=by
 grind [QS.up,wP,A4,QS.Ok.Jl]
def QS.sP:Nat->QS->Int->QS
 | 0,s,_=>s
 | f+1,s,i=>if s.bA i<s.n/\s.L (s.bA i) i then QS.sP f (s.swap i (s.bA i)) (s.bA i)else s
theorem QS.ir(s:QS)(i:Int):(s.bA i=2*i+2/\2*i+2<s.n/\s.L (2*i+2) (2*i+1))\/(s.bA i=2*i+1/\(2*i+2<s.n->¬s.L (2*i+2) (2*i+1))):=by
 grind [QS.bA,QS.L]
theorem xP{s:QS}(h:0<=i):(s.set i k id).bA i=s.bA i:=by
 have h1:¬ 2*i+1+1=i:=og;have h2:¬ 2*i+1=i:=og;unfold QS.bA;rw[(iq h1).1,(iq h1).2,(iq h2).1,(iq h2).2];rfl
theorem tP:∀ (f:Nat) (s:QS) (i k id:Int),0<=i->QS.kK f s i k id=QS.sP f (s.set i k id) i
 | 0,_,_,_,_,_=>rfl
 | f+1,s,i,k,id,h=>by
  have hc:0<=s.bA i/\¬s.bA i=i:=by
   grind [QS.ir]
  have e:(s.bA i<s.n/\A3 (s.K (s.bA i)) (s.I (s.bA i)) k id)↔((s.set i k id).bA i<(s.set i k id).n/\(s.set i k id).L ((s.set i k id).bA i) i):=by
   rw[xP h];unfold QS.L;rw[(s.tO i k id).1,(s.tO i k id).2,(iq hc.2).1,(iq hc.2).2];rfl
  rw[QS.kK,QS.sP];by_cases c:s.bA i<s.n/\A3 (s.K (s.bA i)) (s.I (s.bA i)) k id
  ·simp_all[tP,CN,xP]
  grind
def QS.Mid(s:QS)(i:Int)(b:Prop):Prop:=(∀ j:Int,0<j->j<s.n->¬(j-1)/2=i->(¬j=i\/b)->¬s.L j ((j-1)/2))/\(0<i->∀ j:Int,0<j->j<s.n->(j-1)/2=i->¬s.L j ((i-1)/2))
theorem QS.Ok.sP:∀ (f:Nat) {s:QS} {i:Int} {b:Prop},s.Ok->s.Mid i b->0<=i->i<s.n->(s.n:Int)<=i+f->(QS.sP f s i).Ok/\s.wO (QS.sP f s i)/\∃ q:Int,(0<=q/\q<s.n)/\(QS.sP f s i).I q=s.I i/\(QS.sP f s i).Exc q:=by
 have stop:∀ {s:QS} {i:Int} {b:Prop},s.Mid i b->0<=i->¬(s.bA i<s.n/\s.L (s.bA i) i)->s.Exc i:=fun {s i b} hm h0 hn=>by
  refine⟨fun j j0 j1 jn=> ?_,hm.2⟩;by_cases c:(j-1)/2=i
  ·rw[c];intro hl;rcases s.ir i with⟨q1,q2,q3⟩ | ⟨q1,q2⟩
   ·rw[q1]at hn;have h2:¬s.L (2*i+2) i:=fun e=>hn ⟨q2,e⟩;grind [rW,qM]
   grind [rW]
  grind [QS.Mid]
 intro f;induction f with
 | zero=>exact fun h hm h0 h1 hf=>og
 | succ f ih=>
  intro s i b h hm h0 h1 hf;rw[QS.sP];by_cases c:s.bA i<s.n/\s.L (s.bA i) i
  ·rw[if_pos c];have hcc:=s.ir i;have hcn:i<s.bA i/\(s.bA i-1)/2=i:=by
    omega
   have gY:¬i=s.bA i:=og;obtain⟨o1,o2⟩:=h.swap ⟨h0,h1⟩ ⟨og,c.1⟩ gY;have hm':(s.swap i (s.bA i)).Mid (s.bA i) True:=by
    refine⟨fun j j0 j1 jp _=> ?_,fun p0 j j0 j1 jp=> ?_⟩
    ·rw[va];by_cases c1:j=s.bA i
     ·grind [Qe,Hg,qM]
     ·by_cases c2:j=i
      ·grind [Hg,EW,QS.Mid]
      ·rw[EW c2 c1];by_cases c3:(j-1)/2=i
       ·rw[c3,Hg];rcases hcc with⟨q1,q2,q3⟩ | ⟨q1,q2⟩
        ·grind [qM]
        ·rw[q1]at c1 ⊢;have hj:j=2*i+2:=og;rw[hj];exact q2 (by rw[<-hj];exact j1)
       ·rw[EW c3 jp];exact hm.1 j j0 j1 c3 (.inl c2)
    ·rw[va,hcn.2,Hg];have c2:¬j=i:=og;have c1:¬j=s.bA i:=og;rw[EW c2 c1];have:=hm.1 j j0 j1 og (.inl c2);simp_all
   obtain⟨i1,i2,q,q1,q2,q3⟩:=ih o1 hm' og c.1 (by show(s.n:Int)<=_;omega);refine⟨i1,o2.trans i2,q,q1,?_,q3⟩;rw[q2,qN,Qe]
  ·grind [QS.wO.refl]
theorem QS.Ok.Jm{s:QS}(h:s.Ok)(h0:0<=i)(h1:i<s.n):s.down i=QS.sP (s.n-i.toNat) s i:=by
 grind [QS.down,tP,A4,QS.Ok.Jl]
def CO:∀ (n m:Nat) (f:Nat->Nat),n<m->(∀ i,i<m->f i<n)->∃ i j,i<j/\j<m/\f i=f j
 | 0,m,f,h,hf=>absurd (hf 0 h) og
 | n+1,m,f,h,hf=>by
  by_cases he:∃ i,i<m-1/\f i=f (m-1)
  ·obtain⟨i,h1,h2⟩:=he;exact⟨i,m-1,h1,og,h2⟩
  ·have gY:∀ i,i<m-1->¬f i=f (m-1):=fun i hi e=>he ⟨i,hi,e⟩;have hv:=hf (m-1) og;obtain⟨i,j,h1,h2,h3⟩:=CO n (m-1) (fun i=>if f i=n then f (m-1)else f i) og (fun i hi=>by
    have a1:=hf i og
    have a2:=gY i hi
    show(if f i=n then f (m-1)else f i)<n
    split<;>omega)
   refine⟨i,j,h1,og,?_⟩;have a1:=gY i og;have a2:=gY j og;split at h3<;>split at h3<;>omega
theorem QS.Ok.room{s:QS}(h:s.Ok)(hd:0<=id/\id<64)(hz:s.at_ id=0):s.n<64:=by
 apply Classical.byContradiction;intro hc;have hn:s.n=64:=by have:=h.n64;omega
 obtain⟨i,j,h1,h2,h3⟩:=CO 64 65 (fun i=>if i<64 then(s.I i).toNat else id.toNat) og (fun i hi=>by
  show(if i<64 then(s.I i).toNat else id.toNat)<64
  by_cases c:i<64
  ·rw[if_pos c];have:=h.nV i og og;omega
  ·rw[if_neg c];omega)
 have r1:=h.nV i og og;rw[if_pos og]at h3;by_cases c:j<64
 ·rw[if_pos c]at h3;have r2:=h.nV j og og;have:=h.inj (i:=i) (j:=j) ⟨og,og⟩ ⟨og,og⟩ og;omega
 ·rw[if_neg c]at h3;have:=h.Jl i og og;rw[show s.I i=id from og,hz]at this;omega
theorem QS.Ok.dB:QS.dB.Ok:=⟨dq,fun j j0 j1=>by simp[QS.dB]at j1;omega,fun j j0 j1=>by simp[QS.dB]at j1;omega,fun _ _ _=>.inl rfl⟩
def Hh:QS.dB.vK:=fun j j0 j1=>by simp[QS.dB]at j1;omega
def QS.Ok.abU{s:QS}(h:s.Ok)(hh:s.vK)(hd:0<=id/\id<64)(hz:s.at_ id=0)(k:Int):((s.kA k id).up s.n).Ok/\((s.kA k id).up s.n).vK/\((s.kA k id).up s.n).n=s.n+1/\(∀ x,0<=x->x<64->(((s.kA k id).up s.n).at_ x=0↔(¬x=id/\s.at_ x=0))/\(¬x=id->¬s.at_ x=0->((s.kA k id).up s.n).L3 x=s.L3 x))/\((s.kA k id).up s.n).L3 id=k:=by
 have lT:=h.room hd hz;have e1:(s.kA k id).up s.n=QS.Sr s.n ((s.kA k id).set s.n k id) s.n:=by
  simp_all[QS.up,wP,QS.kA,aj]
 have tn:((s.kA k id).set s.n k id).n=s.n+1:=rfl;have ta:∀ x,((s.kA k id).set s.n k id).at_ x=if x=id then(s.n:Int)+1 else s.at_ x:=fun _=>rfl
 have tI:∀ m,((s.kA k id).set s.n k id).I m=if m=s.n then id else s.I m:=fun m=>by
  show ad (ad s.I s.n id) s.n id m=_;grind [ad]
 have tK:∀ m,((s.kA k id).set s.n k id).K m=if m=s.n then k else s.K m:=fun m=>by
  show ad (ad s.K s.n k) s.n k m=_;grind [ad]
 have vH:∀ j:Int,0<=j->j<s.n->¬s.I j=id:=fun j j0 j1 e=>by
  grind [QS.Ok.Jl]
 have tv:((s.kA k id).set s.n k id).Ok:=by
  refine⟨by rw[tn];omega,fun j j0 j1=> ?_,fun j j0 j1=> ?_,fun x x0 x1=> ?_⟩
  ·rw[tI];split
   ·omega
   ·exact h.nV j j0 (by rw[tn]at j1;omega)
  ·grind [QS.Ok.Jl]
  grind [QS.Ok.L0]
 have hex:((s.kA k id).set s.n k id).Exc s.n:=by
  refine⟨fun j j0 j1 jn=> ?_,fun _ j j0 j1 jp=>by rw[tn]at j1;omega⟩;grind [QS.L,QS.vK]
 obtain⟨r1,r2,r3⟩:=tv.Sr s.n (i:=s.n) hex og (by rw[tn];omega) og;rw[<-e1]at r1 r2 r3;have hid:=r2.k id hd.1 hd.2 (by rw[ta,if_pos rfl];omega);refine⟨r1,r3,r2.n.trans tn,fun x x0 x1=>⟨?_,fun xn xp=> ?_⟩,?_⟩
 ·rw[r2.at_ x x0 x1,ta];omega
 ·rw[r2.k x x0 x1 (by rw[ta,if_neg xn];exact xp)];grind [QS.L3,QS.Ok.L0]
 grind [QS.L3]
def QS.Ok.abV{s:QS}(h:s.Ok)(hh:s.vK)(hd:0<=id/\id<64)(hz:¬s.at_ id=0):(s.vT id).Ok/\(s.vT id).vK/\(s.vT id).n=s.n-1/\(∀ x,0<=x->x<64->((s.vT id).at_ x=0↔(x=id\/s.at_ x=0))/\(¬x=id->¬s.at_ x=0->(s.vT id).L3 x=s.L3 x)):=by
 obtain⟨a1,a2,a3⟩:=(h.L0 id hd.1 hd.2).resolve_left hz;unfold QS.vT;by_cases c:s.at_ id-1<(s.n:Int)-1
 ·rw[if_pos c];generalize hi:s.at_ id-1=i at*;generalize hx:s.I ((s.n:Int)-1)=xi at*;generalize hk:s.K ((s.n:Int)-1)=xk at*;have hxr:=h.nV ((s.n:Int)-1) og og;have SI:=h.Jl ((s.n:Int)-1) og og;rw[hx]at hxr SI;have hxd:¬xi=id:=fun e=>by rw[e]at SI;omega
  have tn:((s.ft id).set i xk xi).n=s.n-1:=rfl;have ta:∀ x,((s.ft id).set i xk xi).at_ x=if x=xi then i+1 else if x=id then 0 else s.at_ x:=fun _=>rfl
  have tI:∀ m,((s.ft id).set i xk xi).I m=if m=i then xi else s.I m:=fun _=>rfl
  have tK:∀ m,((s.ft id).set i xk xi).K m=if m=i then xk else s.K m:=fun _=>rfl
  have tv:((s.ft id).set i xk xi).Ok:=by
   refine⟨by rw[tn];have:=h.n64;omega,fun j j0 j1=> ?_,fun j j0 j1=> ?_,fun x x0 x1=> ?_⟩
   ·rw[tn]at j1;rw[tI];split
    ·omega
    ·exact h.nV j j0 og
   ·grind [QS.Ok.Jl]
   grind [QS.Ok.L0]
  have ae7:((s.ft id).set i xk xi).Mid i False:=by
   refine⟨fun j j0 j1 jp jb=> ?_,fun i0 j j0 j1 jp=> ?_⟩
   ·grind [QS.L,QS.vK]
   ·rw[tn]at j1;have cj:¬j=i:=og;have cp:¬(i-1)/2=i:=og;unfold QS.L;rw[tK,tK,tI,tI,if_neg cj,if_neg cj,if_neg cp,if_neg cp];have g1:=hh j j0 og;rw[jp]at g1;exact rW g1 (hh i i0 og)
  obtain⟨d1,d2,q,q1,q2,q3⟩:=tv.sP (((s.ft id).set i xk xi).n-i.toNat) ae7 og (by rw[tn];omega) (by rw[tn];omega);rw[<-tv.Jm og (by rw[tn];omega)]at d1 d2 q2 q3;have hq:(((s.ft id).set i xk xi).down i).at_ xi-1=q:=by
   grind [QS.Ok.Jl,QS.wO.n]
  have hf:(s.ft id).abP i xk xi=(((s.ft id).set i xk xi).down i).up q:=by unfold QS.abP;rw[hq]
  obtain⟨u1,u2,u3⟩:=d1.Sr q.toNat q3 q1.1 (by rw[d2.n];exact q1.2) og;rw[<-d1.abS q1.1 (by rw[d2.n];exact q1.2),<-hf]at u1 u2 u3;have hs:=d2.trans u2;refine⟨u1,u3,hs.n.trans tn,fun x x0 x1=>⟨?_,fun xn xp=> ?_⟩⟩
  ·rw[hs.at_ x x0 x1,ta];grind
  ·have hp:¬((s.ft id).set i xk xi).at_ x=0:=by
    grind
   rw[hs.k x x0 x1 hp];grind [QS.L3,QS.Ok.L0]
 ·rw[if_neg c];have hl:s.at_ id=s.n:=og;have tn:(s.ft id).n=s.n-1:=rfl;have ta:∀ x,(s.ft id).at_ x=if x=id then 0 else s.at_ x:=fun _=>rfl
  refine⟨⟨by rw[tn];have:=h.n64;omega,fun j j0 j1=>h.nV j j0 (by rw[tn]at j1;omega),fun j j0 j1=> ?_,fun x x0 x1=> ?_⟩,fun j j0 j1=>hh j j0 (by rw[tn]at j1;omega),tn,fun x x0 x1=>⟨?_,fun xn xp=> ?_⟩⟩
  ·rw[tn]at j1;show(s.ft id).at_ (s.I j)=j+1;grind [QS.Ok.Jl]
  ·rw[ta];by_cases c2:x=id
   ·omega
   ·rw[if_neg c2];rcases h.L0 x x0 x1 with g | ⟨g1,g2,g3⟩
    ·omega
    ·have:¬s.at_ x=s.n:=fun e=>by
      simp_all
     exact .inr ⟨g1,by rw[tn];omega,g3⟩
  ·grind
  ·unfold QS.L3;rw[ta,if_neg xn];rfl
def QS.vK.aax{s:QS}(h:s.vK):∀ (m:Nat) (j:Int),j.toNat<=m->0<=j->j<s.n->¬s.L j 0
 | 0,j,hm,h0,h1=>by
  have:j=0:=og;rw[this];exact s.aav 0
 | m+1,j,hm,h0,h1=>by
  by_cases c:j=0
  ·rw[c];exact s.aav 0
  ·exact rW (h j og h1) (QS.vK.aax h m ((j-1)/2) og og og)
def A5:∀ (f f':Nat) (s:QS) (i k id:Int),i<=f->i<=f'->QS.EK f s i k id=QS.EK f' s i k id
 | 0,0,_,_,_,_,_,_=>rfl
 | 0,f'+1,s,i,k,id,h,_=>by rw[QS.EK,QS.EK,if_neg og]
 | f+1,0,s,i,k,id,_,h=>by rw[QS.EK,QS.EK,if_neg og]
 | f+1,f'+1,s,i,k,id,h,h'=>by
  rw[QS.EK,QS.EK];split
  ·exact A5 f f' _ _ _ _ og og
  ·rfl
def Jn{s:QS}(h:0<i)(h2:A3 k id (s.K ((i-1)/2)) (s.I ((i-1)/2))):QS.EK i.toNat s i k id=QS.EK ((i-1)/2).toNat (s.set i (s.K ((i-1)/2)) (s.I ((i-1)/2))) ((i-1)/2) k id:=by
 obtain⟨f,hf⟩:∃ f,i.toNat=f+1:=⟨i.toNat-1,og⟩;rw[hf,QS.EK,if_pos ⟨h,h2⟩];exact A5 _ _ _ _ _ _ og og
def A6{s:QS}(h:¬(0<i/\A3 k id (s.K ((i-1)/2)) (s.I ((i-1)/2)))):QS.EK i.toNat s i k id=s.set i k id:=by
 cases hf:i.toNat with
 | zero=>rfl
 | succ f=>rw[QS.EK,if_neg h]
def vU:∀ (f f':Nat) (s:QS) (i k id:Int),0<=i->(s.n:Int)<=i+f->(s.n:Int)<=i+f'->QS.kK f s i k id=QS.kK f' s i k id
 | 0,0,_,_,_,_,_,_,_=>rfl
 | 0,f'+1,s,i,k,id,h0,h,_=>by
  rw[QS.kK,QS.kK,if_neg];rintro⟨q,_⟩;rcases s.ir i with⟨e,_⟩ | ⟨e,_⟩<;>omega
 | f+1,0,s,i,k,id,h0,_,h=>by
  rw[QS.kK,QS.kK,if_neg];rintro⟨q,_⟩;rcases s.ir i with⟨e,_⟩ | ⟨e,_⟩<;>omega
 | f+1,f'+1,s,i,k,id,h0,h,h'=>by
  have hc:i<s.bA i:=by rcases s.ir i with⟨e,_⟩ | ⟨e,_⟩<;>omega
  rw[QS.kK,QS.kK];split
  ·exact vU f f' _ _ _ _ og (by show(s.n:Int)<=_;omega) (by show(s.n:Int)<=_;omega)
  ·rfl
def EX{s:QS}(h0:0<=i)(h1:i<s.n)(h:s.bA i<s.n)(h2:A3 (s.K (s.bA i)) (s.I (s.bA i)) k id):QS.kK (s.n-i.toNat) s i k id=QS.kK (s.n-(s.bA i).toNat) (s.set i (s.K (s.bA i)) (s.I (s.bA i))) (s.bA i) k id:=by
 have hc:i<s.bA i:=by rcases s.ir i with⟨e,_⟩ | ⟨e,_⟩<;>omega
 obtain⟨f,hf⟩:∃ f,s.n-i.toNat=f+1:=⟨s.n-i.toNat-1,og⟩;rw[hf,QS.kK,if_pos ⟨h,h2⟩];exact vU _ _ _ _ _ _ og (by show(s.n:Int)<=_;omega) (by show(s.n:Int)<=_;omega)
def vV{s:QS}{f:Nat}(h:¬(s.bA i<s.n/\A3 (s.K (s.bA i)) (s.I (s.bA i)) k id)):QS.kK f s i k id=s.set i k id:=by
 cases f with
 | zero=>rfl
 | succ f=>rw[QS.kK,if_neg h]
def QS.Ok.mid{s:QS}(h:s.Ok)(hh:s.vK){xk xi:Int}(hd:0<=id/\id<64)(hz:¬s.at_ id=0)(hi:s.at_ id-1=i)(hx:s.I ((s.n:Int)-1)=xi)(c:i<(s.n:Int)-1):((s.ft id).set i xk xi).Ok/\(((s.ft id).set i xk xi).down i).Ok/\((s.ft id).set i xk xi).wO (((s.ft id).set i xk xi).down i)/\∃ q:Int,(0<=q/\q<((s.ft id).set i xk xi).n)/\(((s.ft id).set i xk xi).down i).Exc q/\(((s.ft id).set i xk xi).down i).at_ xi-1=q:=by
 obtain⟨a1,a2,a3⟩:=(h.L0 id hd.1 hd.2).resolve_left hz;rw[hi]at a3;have hxr:=h.nV ((s.n:Int)-1) og og;have SI:=h.Jl ((s.n:Int)-1) og og;rw[hx]at hxr SI;have hxd:¬xi=id:=fun e=>by rw[e]at SI;omega
 have tn:((s.ft id).set i xk xi).n=s.n-1:=rfl;have ta:∀ x,((s.ft id).set i xk xi).at_ x=if x=xi then i+1 else if x=id then 0 else s.at_ x:=fun _=>rfl
 have tI:∀ m,((s.ft id).set i xk xi).I m=if m=i then xi else s.I m:=fun _=>rfl
 have tK:∀ m,((s.ft id).set i xk xi).K m=if m=i then xk else s.K m:=fun _=>rfl
 have tv:((s.ft id).set i xk xi).Ok:=by
  refine⟨by rw[tn];have:=h.n64;omega,fun j j0 j1=> ?_,fun j j0 j1=> ?_,fun x x0 x1=> ?_⟩
  ·rw[tn]at j1;rw[tI];split
   ·omega
   ·exact h.nV j j0 og
  ·grind [QS.Ok.Jl]
  grind [QS.Ok.L0]
 have ae7:((s.ft id).set i xk xi).Mid i False:=by
  refine⟨fun j j0 j1 jp jb=> ?_,fun i0 j j0 j1 jp=> ?_⟩
  ·grind [QS.L,QS.vK]
  ·rw[tn]at j1;have cj:¬j=i:=og;have cp:¬(i-1)/2=i:=og;unfold QS.L;rw[tK,tK,tI,tI,if_neg cj,if_neg cj,if_neg cp,if_neg cp];have g1:=hh j j0 og;rw[jp]at g1;exact rW g1 (hh i i0 og)
 grind [QS.Ok.sP,QS.Ok.Jm,QS.Ok.Jl,QS.wO.n]
def QS.first(s:QS):Int×Int×Bool:=if s.n=0 then(0,0,false)else(s.I 0,s.K 0,true)
theorem Jo{s:QS}(h:¬(id<0\/63<id))(h2:¬s.at_ id=0):s.ig id=(s.K (s.at_ id-1),0):=by grind [QS.ig]
def gJ(s:QS)(p:Option Addr)(cap:Nat)(i:Nat):Value:=if i=0 then .slice p s.n cap else if i<65 then iI (s.at_ ((i-1:Nat):Int))else undef
def iu(s:QS)(i:Nat):Value:=if i%2=0 then .int .u64 (s.K ((i/2:Nat):Int))else iI (s.I ((i/2:Nat):Int))
def qP(k i:Int)(j:Nat):Value:=if j=0 then .int .u64 k else if j=1 then iI i else undef
def iK(s:QS)(p:Option Addr)(cap:Nat):0+0<65/\gJ s p cap (0+0)= .slice p s.n cap:=⟨og,rfl⟩
def xQ(s:QS)(p:Option Addr)(cap:Nat)(z:Int)(h:0<=z/\z<64:=by omega):0+1+z.toNat*1<65/\gJ s p cap (0+1+z.toNat*1)=iI (s.at_ z):=by
 grind [gJ]
def FK(s:QS)(p p':Option Addr)(cap cU n':Nat):0+0<65/\dP (gJ s p cap) (0+0) (.slice p' n' cU)=gJ {s with n:=n'} p' cU:=by
 grind [dP,gJ]
theorem CP(s:QS)(p:Option Addr)(cap:Nat)(z v:Int)(h:0<=z/\z<64):0+1+z.toNat*1<65/\dP (gJ s p cap) (0+1+z.toNat*1) (iI v)=gJ {s with at_:=ad s.at_ z v} p cap:=by
 grind [dP,gJ,ad]
def CQ(s:QS)(n:Nat)(z:Int)(h:0<=z/\z<n:=by omega):0+z.toNat*2+0<n*2/\iu s (0+z.toNat*2+0)= .int .u64 (s.K z):=by
 grind [iu]
def X0(s:QS)(n:Nat)(z:Int)(h:0<=z/\z<n):0+z.toNat*2+1<n*2/\iu s (0+z.toNat*2+1)=iI (s.I z):=by
 grind [iu]
def kD(s:QS)(n:Nat)(z:Int)(h:0<=z/\z<n:=by omega):0+z.toNat*2+2<=n*2/\dv (iu s) (0+z.toNat*2) 2= .agg #[.int .u64 (s.K z),iI (s.I z)]:=by
 grind [dv,List.range,List.range.loop,iu]
def TL(s:QS)(n:Nat)(z k i:Int)(h:0<=z/\z<n):0+z.toNat*2+2<=n*2/\cD (iu s) (0+z.toNat*2) [.int .u64 k,iI i]=iu {s with K:=ad s.K z k,I:=ad s.I z i} :=by
 refine⟨og,?_⟩;funext j;simp only[cD,dP];grind [iu,ad]
def Qf(s:QS)(k id:Int):∀ i,i<(s.n+1)*2->iu (s.kA k id) i=if i<s.n*2 then iu s i else cellsOf #[.int .u64 k,iI id] (i-s.n*2):=by
 intro i hi;unfold iu QS.kA ad;by_cases h:i<s.n*2
 ·grind
 ·have h3:((i/2:Nat):Int)=s.n:=og;have h4:i-s.n*2=0\/i-s.n*2=1:=og;rcases h4 with h4 | h4
  ·have h5:i%2=0:=og;simp only[if_neg h,if_pos h3,if_pos h5,h4];rfl
  ·have h5:¬i%2=0:=og;simp only[if_neg h,if_pos h3,if_neg h5,h4];rfl
def TM(s:QS)(p p':Option Addr)(cap cU:Nat)(k id:Int):0+0<65/\dP (gJ s p cap) (0+0) (.slice p' (s.n+1) cU)=gJ (s.kA k id) p' cU:=FK s p p' cap cU (s.n+1)
def TN(s:QS)(p:Option Addr)(cap:Nat)(id:Int)(h:0<=id/\id<64):0+1+id.toNat*1<65/\dP (gJ {s with n:=s.n-1} p cap) (0+1+id.toNat*1) (iI 0)=gJ (s.ft id) p cap:=by grind [CP,QS.ft]
def vc(k i:Int):0+0<2/\qP k i (0+0)= .int .u64 k:=⟨og,rfl⟩
def xT(k i:Int):0+1<2/\qP k i (0+1)=iI i:=⟨og,rfl⟩
def ka(k i:Int):0+2<=2/\dv (qP k i) 0 2= .agg #[.int .u64 k,iI i]:=⟨og,rfl⟩
def zF(k i:Int):∀ j,j<2->cellsOf #[.int .u64 k,iI i] j=qP k i j:=fun j hj=>match j,hj with
 | 0,_=>rfl
 | 1,_=>rfl
 | j+2,h=>absurd h og
def zG(k i:Int):0+2<=2/\cD (cellsOf #[.int .u64 0,iI 0]) 0 [.int .u64 k,iI i]=qP k i:=by
 refine⟨og,?_⟩;funext j;match j with
 | 0=>rfl
 | 1=>rfl
 | j+2=>
  have e1:cD (cellsOf #[.int .u64 0,iI 0]) 0 [.int .u64 k,iI i] (j+2)=undef:=by simp[cD,dP,cellsOf]
  have e2:qP k i (j+2)=undef:=by simp[qP]
  rw[e1,e2]
def QS.W5(s:QS):Prop:=∀ j:Int,0<=j->j<s.n->0<=s.I j/\s.I j<64
theorem QS.W5.set{s:QS}(h:s.W5){i k id:Int}(hd:0<=id/\id<64):(s.set i k id).W5:=fun j j0 j1=>by
 show 0<=ad s.I i id j/\ad s.I i id j<64;unfold ad;split
 ·omega
 ·exact h j j0 j1
theorem CR:∀ (f:Nat) (s:QS) (i k id:Int),(QS.kK f s i k id).n=s.n
 | 0,_,_,_,_=>rfl
 | f+1,s,i,k,id=>by
  rw[QS.kK];split
  ·rw[CR f];rfl
  ·rfl
def Qg(s:QS)(i:Int):(s.down i).n=s.n:=CR _ _ _ _ _
theorem QS.qQ{s:QS}(h:id<0\/63<id):s.put id k=(1,s):=by grind [QS.put]
theorem QS.vd{s:QS}(h:¬(id<0\/63<id))(h2:0<s.at_ id):s.put id k=(3,s):=by grind [QS.put]
theorem QS.tQ{s:QS}(h:¬(id<0\/63<id))(h2:¬ 0<s.at_ id):s.put id k=(0,(s.kA k id).up s.n):=by grind [QS.put]
theorem rX{s:QS}(h:id<0\/63<id):s.cut id=(0,1,s):=by grind [QS.cut]
theorem A7{s:QS}(h:¬(id<0\/63<id))(h2:s.at_ id=0):s.cut id=(0,2,s):=by grind [QS.cut]
theorem tS{s:QS}(h:¬(id<0\/63<id):=by omega)(h2:¬s.at_ id=0:=by omega):s.cut id=(s.K (s.at_ id-1),0,s.vT id):=by grind [QS.cut]
structure RQ where
 zH:Int->Bool
 ig:Int->Int
def RQ.is(r:RQ)(id:Int):Int:=if id<0\/63<id then 1 else if r.zH id then 0 else 2
def RQ.put(r:RQ)(id k:Int):Int×RQ:=if r.is id=1 then(1,r)else if r.is id=0 then(3,r)else(0,⟨ad r.zH id true,ad r.ig id k⟩)
def RQ.Lw(r:RQ)(id:Int)(cut:Bool):Int×Int×RQ:=if r.is id≠0 then(0,r.is id,r)else(r.ig id,0,if cut then {r with zH:=ad r.zH id false} else r)
theorem RQ.qS{r:RQ}(h:id<0\/63<id):r.is id=1:=by unfold RQ.is;rw[if_pos h]
theorem RQ.xU{r:RQ}(h:¬(id<0\/63<id))(ht:r.zH id=false):r.is id=2:=by grind [RQ.is]
theorem RQ.CS{r:RQ}(h:¬(id<0\/63<id))(ht:r.zH id=true):r.is id=0:=by grind [RQ.is]
theorem RQ.qQ{r:RQ}(k:Int)(h:r.is id=1):r.put id k=(1,r):=by grind [RQ.put]
theorem RQ.vd{r:RQ}(k:Int)(h1:¬r.is id=1)(h:r.is id=0):r.put id k=(3,r):=by grind [RQ.put]
theorem RQ.tQ{r:RQ}(k:Int)(h1:¬r.is id=1)(h:¬r.is id=0):r.put id k=(0,⟨ad r.zH id true,ad r.ig id k⟩):=by grind [RQ.put]
theorem TO{r:RQ}(c:Bool)(h:¬r.is id=0):r.Lw id c=(0,r.is id,r):=by grind [RQ.Lw]
theorem RQ.L4{r:RQ}(h:r.is id=0):r.Lw id true=(r.ig id,0,{r with zH:=ad r.zH id false}):=by grind [RQ.Lw]
theorem FL{r:RQ}(h:r.is id=0):r.Lw id false=(r.ig id,0,r):=by grind [RQ.Lw]
structure mz (s:QS) (r:RQ):Prop where
 ok:s.Ok
 heap:s.vK
 zH:∀ id,0<=id->id<64->(r.zH id=true↔¬s.at_ id=0)
 ig:∀ id,0<=id->id<64->¬s.at_ id=0->r.ig id=s.L3 id
def RQ.dB:RQ:=⟨fun _=>false,fun _=>0⟩
theorem mz.dB:mz QS.dB RQ.dB:=⟨QS.Ok.dB,Hh,fun id _ _=>by
  show(false=true)↔¬(0:Int)=0
  simp,fun id _ _ h=>absurd rfl h⟩
theorem mz.is{s:QS}{r:RQ}(h:mz s r){id:Int}(hd:0<=id/\id<64):r.is id=if s.at_ id=0 then 2 else 0:=by
 grind [mz.zH,RQ.xU,RQ.CS]
theorem mz.put{s:QS}{r:RQ}(h:mz s r)(id k:Int):(s.put id k).1=(r.put id k).1/\mz (s.put id k).2 (r.put id k).2:=by
 by_cases c1:id<0\/63<id
 ·grind [QS.qQ,RQ.qQ,RQ.qS]
 ·have hd:0<=id/\id<64:=og;have wz:=h.is hd;by_cases hz:s.at_ id=0
  ·rw[if_pos hz]at wz;rw[QS.tQ c1 og,RQ.tQ k og og];obtain⟨r1,r2,r3,r4,r5⟩:=h.ok.abU h.heap hd hz k;refine⟨rfl,r1,r2,fun m m0 m1=> ?_,fun m m0 m1 mp=> ?_⟩
   ·grind [mz.zH,aj,ae]
   ·show ad r.ig id k m=_;by_cases q:m=id
    ·grind [aj]
    ·have hz2:¬s.at_ m=0:=fun e=>mp ((r4 m m0 m1).1.2 ⟨q,e⟩);rw[ae _ _ q,(r4 m m0 m1).2 q hz2];exact h.ig m m0 m1 hz2
  ·rw[if_neg hz]at wz;have hp:0<s.at_ id:=by rcases h.ok.L0 id hd.1 hd.2 with q | q<;>omega
   grind [QS.vd,RQ.vd]
theorem mz.cut{s:QS}{r:RQ}(h:mz s r)(id:Int):(s.cut id).1=(r.Lw id true).1/\(s.cut id).2.1=(r.Lw id true).2.1/\mz (s.cut id).2.2 (r.Lw id true).2.2:=by
 by_cases c1:id<0\/63<id
 ·grind [RQ.qS,rX,RQ.Lw]
 ·have hd:0<=id/\id<64:=og;have wz:=h.is hd;by_cases hz:s.at_ id=0
  ·grind [A7,RQ.Lw]
  ·rw[if_neg hz]at wz;rw[tS c1 hz,RQ.L4 wz];obtain⟨r1,r2,r3,r4⟩:=h.ok.abV h.heap hd hz;refine⟨(h.ig id hd.1 hd.2 hz).symm,rfl,r1,r2,fun m m0 m1=> ?_,fun m m0 m1 mp=> ?_⟩
   ·grind [mz.zH,aj,ae]
   ·show r.ig m=_;have q:¬m=id:=fun e=>mp ((r4 m m0 m1).1.2 (.inl e));have hz2:¬s.at_ m=0:=fun e=>mp ((r4 m m0 m1).1.2 (.inr e));rw[(r4 m m0 m1).2 q hz2];exact h.ig m m0 m1 hz2
theorem mz.abW{s:QS}{r:RQ}(h:mz s r)(id:Int):(s.ig id).1=(r.Lw id false).1/\(s.ig id).2=(r.Lw id false).2.1/\(r.Lw id false).2.2=r:=by
 by_cases c1:id<0\/63<id
 ·grind [RQ.qS,QS.ig,RQ.Lw]
 ·have hd:0<=id/\id<64:=og;have wz:=h.is hd;by_cases hz:s.at_ id=0
  ·grind [QS.ig,RQ.Lw]
  ·rw[if_neg hz]at wz;rw[Jo c1 hz,FL wz];exact⟨(h.ig id hd.1 hd.2 hz).symm,rfl,rfl⟩
structure SF where
 aa:Int->Bool
 aA:Int->Int
 wt:Int->Int
 v:Int->Int
 tT:Int->Int
 cO:Int->Bool
 eM:Int->Int
 vW:Int->Bool
 dL:Int->Int
 eT:Int->Int
 dQ:Int->Int
 ie:Int
 ck:Int->Bool
structure SC extends SF where
 Q:Int->QS
 P:Int->Option Addr
 C:Int->Nat
namespace SF
def gF(s:SF)(n:Int):Bool:=(List.range 30).any (fun i=>s.ck (i:Int)&&decide (s.aA (i:Int)=n))
def ready(s:SF)(n:Int):Bool:=if 10<=n then s.cO n else s.gF n&& !s.vW n&&(decide (s.dL n=0)||decide (s.dQ n<s.dL n))
def ve(s:SF)(n:Int):SF:= {s with v:=ad s.v n (if s.ready n=true/\s.ck n=false then max (s.v n) (s.eM (s.aA n))else s.v n),ck:=ad s.ck n (s.ready n)}
def iv:Nat->SF->Int->SF
 | 0,s,_=>s
 | k+1,s,n=>if n<=0 then s else iv k (s.ve n) (s.aA n)
def look(d:Int->Nat)(s:SF)(n:Int):SF:=iv (d n+1) s n
def nW(s:SF)(n:Int):SF:= {s with eM:=ad s.eM (s.aA n) (max (s.eM (s.aA n)) (s.v n)),v:=ad s.v n (s.v n+1048576/s.wt n),tT:=ad s.tT n (s.tT n+1),dQ:=if 0<s.dL n then ad s.dQ n (s.dQ n+1)else s.dQ}
def zI(s:SF)(n:Int):SF:= {s.nW n with ck:=ad s.ck n ((s.nW n).ready n)}
def vL:Nat->SF->Int->SF
 | 0,s,_=>s
 | k+1,s,n=>if n<=0 then s else vL k (s.zI n) (s.aA n)
def tU(d:Int->Nat)(s:SF)(n:Int):SF:=if s.aa n=true/\0<s.dL n/\s.ie%s.eT n=0 then look d {s with dQ:=ad s.dQ n 0} n else s
def mM(d:Int->Nat)(s:SF):Nat->SF
 | 0=>s
 | k+1=>tU d (mM d s k) ((k:Int)+1)
def ox(s:SF)(g:Int):Nat->Int
 | 0=> -1
 | k+1=>if s.ck (29-(k:Int))=true/\s.aA (29-(k:Int))=g/\(ox s g k<0\/s.v (29-(k:Int))<=s.v (ox s g k))then 29-(k:Int)else ox s g k
def o6(s:SF)(g:Int):Int:=ox s g 29
def Lx(s:SF):Nat->Int->Int
 | 0,at_=>at_
 | k+1,at_=>if 10<=at_ then at_ else if s.o6 at_<0 then-1 else Lx s k (s.o6 at_)
def Hi(d:Int->Nat):Nat->Nat
 | 0=>0
 | k+1=>max (Hi d k) (d (k:Int))
def o7(d:Int->Nat)(s:SF):SF:= {mM d s 9 with ie:=s.ie+1}
def dE(d:Int->Nat)(s:SF):Int:=Lx (o7 d s) (Hi d 30+1) 0
def lR(d:Int->Nat)(s:SF):Int×SF:=if dE d s<0 then(-1,o7 d s)else(dE d s-10,vL (d (dE d s)+1) (o7 d s) (dE d s))
def mq(s:SF)(g:Int):RQ:=⟨fun i=>s.ck i&&decide (s.aA i=g),s.v⟩
structure Inv (s:SF) (d:Int->Nat):Prop where
 h0:s.aa 0=true
 up:∀ n,0<n->n<30->s.aa n=true->0<=s.aA n/\s.aA n<10/\s.aa (s.aA n)=true/\d (s.aA n)<d n
 ck:∀ n,s.ck n=true->0<n/\n<30/\s.aa n=true
 quo:∀ n,0<=n->n<30->0<=s.dL n/\(0<s.dL n->1<=s.eT n)
 wt:∀ n,0<=n->n<30->s.aa n=true->1<=s.wt n
def bU(s:SF)(B:Int):Prop:=∀ n,0<=n->n<30->0<=s.v n/\s.v n<=B/\0<=s.eM n/\s.eM n<=B/\0<=s.tT n/\s.tT n<=B/\0<=s.dQ n/\s.dQ n<=B
end SF
def SC.mA(s:SC):Prop:=∀ g,0<=g->g<30->mz (s.Q g) (s.toSF.mq g)
namespace SF
theorem qU(s:SF)(n:Int):s.gF n=true↔∃ i:Int,0<=i/\i<30/\s.ck i=true/\s.aA i=n:=by
 unfold gF;simp only[List.any_eq_true,List.mem_range,Bool.and_eq_true,decide_eq_true_eq];constructor
 ·grind
 ·rintro⟨k,h1,h2,h3,h4⟩;refine⟨k.toNat,og,?_⟩;grind
def rY(s:SF)(g i:Int):(s.mq g).zH i=true↔s.ck i=true/\s.aA i=g:=by
 grind [mq]
end SF
theorem mz.len{q:QS}{r:RQ}(h:mz q r):0<q.n↔∃ i,0<=i/\i<64/\r.zH i=true:=by
 constructor
 ·intro hn;have hd:=h.ok.nV 0 og og;have ha:=h.ok.Jl 0 og og;exact⟨q.I 0,hd.1,hd.2,(h.zH _ hd.1 hd.2).2 og⟩
 ·rintro⟨i,i0,i1,hi⟩;have:=(h.zH i i0 i1).1 hi;rcases h.ok.L0 i i0 i1 with e | ⟨e1,e2,_⟩;all_goals omega
theorem mz.head{q:QS}{r:RQ}(h:mz q r)(hn:0<q.n):(0<=q.I 0/\q.I 0<64)/\r.zH (q.I 0)=true/\∀ i,0<=i->i<64->r.zH i=true->¬A3 (r.ig i) i (r.ig (q.I 0)) (q.I 0):=by
 have hd:=h.ok.nV 0 og og;have ha:=h.ok.Jl 0 og og;have hp:¬q.at_ (q.I 0)=0:=og;have hk:q.L3 (q.I 0)=q.K 0:=by unfold QS.L3;rw[ha];rfl
 refine⟨hd,(h.zH _ hd.1 hd.2).2 hp,fun i i0 i1 hi hl=> ?_⟩;have Ly:=(h.zH i i0 i1).1 hi;rw[h.ig _ hd.1 hd.2 hp,hk,h.ig i i0 i1 Ly]at hl;obtain⟨b1,b2,b3⟩:=(h.ok.L0 i i0 i1).resolve_left Ly;have W6:=h.heap.aax (q.at_ i-1).toNat (q.at_ i-1) og og og;unfold QS.L at W6;rw[b3]at W6;exact W6 hl
def mz.ext{q:QS}{r r':RQ}(h:mz q r)(hi:∀ i,0<=i->i<64->r'.zH i=r.zH i)(hk:∀ i,0<=i->i<64->r.zH i=true->r'.ig i=r.ig i):mz q r':=
 ⟨h.ok,h.heap,fun i i0 i1=>by rw[hi i i0 i1];exact h.zH i i0 i1,fun i i0 i1 hp=>by rw[hk i i0 i1 ((h.zH i i0 i1).2 hp)];exact h.ig i i0 i1 hp⟩
theorem iw(C:Nat->Value):∀ (vs:List Value) (i j:Nat),j<i->cD C i vs j=C j
 | [],_,_,_=>rfl
 | v::r,i,j,h=>by
  unfold cD;rw[iw (dP C i v) r (i+1) j og];simp[dP];omega
theorem fP:∀ (vs:List Value) (C:Nat->Value) (i j:Nat) (v:Value),vs[j]? =some v->cD C i vs (i+j)=v
 | [],_,_,_,_,h=>by simp at h
 | u::r,C,i,0,v,h=>by
  have h2:u=v:=by simpa using h
  unfold cD;rw[iw _ _ _ _ og,<-h2];simp[dP]
 | u::r,C,i,j+1,v,h=>by
  unfold cD;have:=fP r (dP C i u) (i+1) j v (by simpa using h);rw[show i+1+j=i+(j+1)from og]at this;exact this
theorem ix:∀ (vs:List Value) (C:Nat->Value) (i j:Nat),i+vs.length<=j->cD C i vs j=C j
 | [],_,_,_,_=>rfl
 | v::r,C,i,j,h=>by
  simp only[List.length_cons]at h;unfold cD;rw[ix r (dP C i v) (i+1) j og];simp[dP];omega
structure aH.U where
 aa:Bool
 aA:Int
 wt:Int
 v:Int
 tT:Int
 cO:Bool
 eM:Int
 vW:Bool
 dL:Int
 eT:Int
 dQ:Int
 q:QS
 p:Option Addr
 c:Nat
def aH.un(s:SC)(z:Int):aH.U:=⟨s.aa z,s.aA z,s.wt z,s.v z,s.tT z,s.cO z,s.eM z,s.vW z,s.dL z,s.eT z,s.dQ z,s.Q z,s.P z,s.C z⟩
def aH.cell(u:aH.U)(j:Nat):Value:=
 if j=0 then .bool u.aa else
 if j=1 then iI u.aA else
 if j=2 then iI u.wt else
 if j=3 then .int .u64 u.v else
 if j=4 then iI u.tT else
 if j=5 then .bool u.cO else
 if 6<=j/\j<71 then gJ u.q u.p u.c (j-6)else
 if j=71 then .int .u64 u.eM else
 if j=72 then .bool u.vW else
 if j=73 then iI u.dL else
 if j=74 then iI u.eT else
 if j=75 then iI u.dQ else
 undef
def aH(s:SC)(i:Nat):Value:=
 if i<2280 then aH.cell (aH.un s ((i/76:Nat):Int)) (i%76)else
 if i=2280 then iI s.ie else
 undef
theorem aH.at_(s:SC)(z:Int)(h:0<=z/\z<30)(j:Nat)(hj:j<76):aH s (0+0+z.toNat*76+j)=aH.cell (aH.un s z) j:=by
 unfold aH;grind
theorem aH.set(s s':SC)(z:Int)(h:0<=z/\z<30)(k:Nat)(hk:k<76)(v:Value)(hv:∀ j,aH.cell (aH.un s' z) j=if j=k then v else aH.cell (aH.un s z) j)(ho:∀ y,¬y=z->aH.un s' y=aH.un s y)(hn:s'.ie=s.ie):0+0+z.toNat*76+k<2281/\dP (aH s) (0+0+z.toNat*76+k) v=aH s':=by
 grind [dP,aH]
def aH.TP(s s':SC)(z:Int)(h:0<=z/\z<30)(vs:List Value)(hl:vs.length=76)(hv:∀ j,j<76->vs[j]? =some (aH.cell (aH.un s' z) j))(ho:∀ y,¬y=z->aH.un s' y=aH.un s y)(hn:s'.ie=s.ie):0+0+z.toNat*76+76<=2281/\cD (aH s) (0+0+z.toNat*76) vs=aH s':=by
 refine⟨og,?_⟩;funext i;by_cases a1:i<0+0+z.toNat*76
 ·rw[iw _ _ _ _ a1];unfold aH;grind
 ·by_cases a2:i<0+0+z.toNat*76+76
  ·obtain⟨j,rfl⟩:∃ j,i=0+0+z.toNat*76+j:=⟨i-(0+0+z.toNat*76),og⟩;rw[aH.at_ s' z h j og];exact fP vs _ _ _ _ (hv j og)
  ·rw[ix _ _ _ _ og];unfold aH;grind
def iY(s:SC)(z:Int)(h:0<=z/\z<30:=by omega):0+0+z.toNat*76+0<2281/\aH s (0+0+z.toNat*76+0)= .bool (s.aa z):=⟨og,aH.at_ s z h 0 og⟩
def eX(s:SC)(z:Int)(h:0<=z/\z<30:=by omega):0+0+z.toNat*76+1<2281/\aH s (0+0+z.toNat*76+1)=iI (s.aA z):=⟨og,aH.at_ s z h 1 og⟩
def zJ(s:SC)(z:Int)(h:0<=z/\z<30)(v:Int):0+0+z.toNat*76+1<2281/\dP (aH s) (0+0+z.toNat*76+1) (iI v)=aH {s with aA:=ad s.aA z v} :=aH.set s {s with aA:=ad s.aA z v} z h 1 og _ (fun j=>by
 have e:aH.un {s with aA:=ad s.aA z v} z= {aH.un s z with aA:=v} :=by unfold aH.un;simp only[aj]
 rw[e]
 by_cases hj:j=1
 ·subst hj;rfl
 ·unfold aH.cell;simp only[if_neg hj]) (fun y hy=>by unfold aH.un;simp only[ae _ _ hy]) rfl
def zK(s:SC)(z:Int)(h:0<=z/\z<30):0+0+z.toNat*76+2<2281/\aH s (0+0+z.toNat*76+2)=iI (s.wt z):=⟨og,aH.at_ s z h 2 og⟩
def tV(s:SC)(z:Int)(h:0<=z/\z<30:=by omega):0+0+z.toNat*76+3<2281/\aH s (0+0+z.toNat*76+3)= .int .u64 (s.v z):=⟨og,aH.at_ s z h 3 og⟩
def tW(s:SC)(z:Int)(h:0<=z/\z<30)(v:Int):0+0+z.toNat*76+3<2281/\dP (aH s) (0+0+z.toNat*76+3) (.int .u64 v)=aH {s with v:=ad s.v z v} :=aH.set s {s with v:=ad s.v z v} z h 3 og _ (fun j=>by
 have e:aH.un {s with v:=ad s.v z v} z= {aH.un s z with v:=v} :=by unfold aH.un;simp only[aj]
 rw[e]
 by_cases hj:j=3
 ·subst hj;rfl
 ·unfold aH.cell;simp only[if_neg hj]) (fun y hy=>by unfold aH.un;simp only[ae _ _ hy]) rfl
def vX(s:SC)(z:Int)(h:0<=z/\z<30:=by omega):0+0+z.toNat*76+4<2281/\aH s (0+0+z.toNat*76+4)=iI (s.tT z):=⟨og,aH.at_ s z h 4 og⟩
def EY(s:SC)(z:Int)(h:0<=z/\z<30)(v:Int):0+0+z.toNat*76+4<2281/\dP (aH s) (0+0+z.toNat*76+4) (iI v)=aH {s with tT:=ad s.tT z v} :=aH.set s {s with tT:=ad s.tT z v} z h 4 og _ (fun j=>by
 have e:aH.un {s with tT:=ad s.tT z v} z= {aH.un s z with tT:=v} :=by unfold aH.un;simp only[aj]
 rw[e]
 by_cases hj:j=4
 ·subst hj;rfl
 ·unfold aH.cell;simp only[if_neg hj]) (fun y hy=>by unfold aH.un;simp only[ae _ _ hy]) rfl
def sQ(s:SC)(z:Int)(h:0<=z/\z<30:=by omega):0+0+z.toNat*76+5<2281/\aH s (0+0+z.toNat*76+5)= .bool (s.cO z):=⟨og,aH.at_ s z h 5 og⟩
def lv(s:SC)(z:Int)(h:0<=z/\z<30)(v:Bool):0+0+z.toNat*76+5<2281/\dP (aH s) (0+0+z.toNat*76+5) (.bool v)=aH {s with cO:=ad s.cO z v} :=aH.set s {s with cO:=ad s.cO z v} z h 5 og _ (fun j=>by
 have e:aH.un {s with cO:=ad s.cO z v} z= {aH.un s z with cO:=v} :=by unfold aH.un;simp only[aj]
 rw[e]
 by_cases hj:j=5
 ·subst hj;rfl
 ·unfold aH.cell;simp only[if_neg hj]) (fun y hy=>by unfold aH.un;simp only[ae _ _ hy]) rfl
def sR(s:SC)(z:Int)(h:0<=z/\z<30:=by omega):0+0+z.toNat*76+71<2281/\aH s (0+0+z.toNat*76+71)= .int .u64 (s.eM z):=⟨og,aH.at_ s z h 71 og⟩
def BH(s:SC)(z:Int)(h:0<=z/\z<30)(v:Int):0+0+z.toNat*76+71<2281/\dP (aH s) (0+0+z.toNat*76+71) (.int .u64 v)=aH {s with eM:=ad s.eM z v} :=aH.set s {s with eM:=ad s.eM z v} z h 71 og _ (fun j=>by
 have e:aH.un {s with eM:=ad s.eM z v} z= {aH.un s z with eM:=v} :=by unfold aH.un;simp only[aj]
 rw[e]
 by_cases hj:j=71
 ·subst hj;rfl
 ·unfold aH.cell;simp only[if_neg hj]) (fun y hy=>by unfold aH.un;simp only[ae _ _ hy]) rfl
def zL(s:SC)(z:Int)(h:0<=z/\z<30):0+0+z.toNat*76+72<2281/\aH s (0+0+z.toNat*76+72)= .bool (s.vW z):=⟨og,aH.at_ s z h 72 og⟩
def zM(s:SC)(z:Int)(h:0<=z/\z<30)(v:Bool):0+0+z.toNat*76+72<2281/\dP (aH s) (0+0+z.toNat*76+72) (.bool v)=aH {s with vW:=ad s.vW z v} :=aH.set s {s with vW:=ad s.vW z v} z h 72 og _ (fun j=>by
 have e:aH.un {s with vW:=ad s.vW z v} z= {aH.un s z with vW:=v} :=by unfold aH.un;simp only[aj]
 rw[e]
 by_cases hj:j=72
 ·subst hj;rfl
 ·unfold aH.cell;simp only[if_neg hj]) (fun y hy=>by unfold aH.un;simp only[ae _ _ hy]) rfl
def lx(s:SC)(z:Int)(h:0<=z/\z<30:=by omega):0+0+z.toNat*76+73<2281/\aH s (0+0+z.toNat*76+73)=iI (s.dL z):=⟨og,aH.at_ s z h 73 og⟩
def BI(s:SC)(z:Int)(h:0<=z/\z<30)(v:Int):0+0+z.toNat*76+73<2281/\dP (aH s) (0+0+z.toNat*76+73) (iI v)=aH {s with dL:=ad s.dL z v} :=aH.set s {s with dL:=ad s.dL z v} z h 73 og _ (fun j=>by
 have e:aH.un {s with dL:=ad s.dL z v} z= {aH.un s z with dL:=v} :=by unfold aH.un;simp only[aj]
 rw[e]
 by_cases hj:j=73
 ·subst hj;rfl
 ·unfold aH.cell;simp only[if_neg hj]) (fun y hy=>by unfold aH.un;simp only[ae _ _ hy]) rfl
def zN(s:SC)(z:Int)(h:0<=z/\z<30):0+0+z.toNat*76+74<2281/\aH s (0+0+z.toNat*76+74)=iI (s.eT z):=⟨og,aH.at_ s z h 74 og⟩
def zO(s:SC)(z:Int)(h:0<=z/\z<30)(v:Int):0+0+z.toNat*76+74<2281/\dP (aH s) (0+0+z.toNat*76+74) (iI v)=aH {s with eT:=ad s.eT z v} :=aH.set s {s with eT:=ad s.eT z v} z h 74 og _ (fun j=>by
 have e:aH.un {s with eT:=ad s.eT z v} z= {aH.un s z with eT:=v} :=by unfold aH.un;simp only[aj]
 rw[e]
 by_cases hj:j=74
 ·subst hj;rfl
 ·unfold aH.cell;simp only[if_neg hj]) (fun y hy=>by unfold aH.un;simp only[ae _ _ hy]) rfl
def tX(s:SC)(z:Int)(h:0<=z/\z<30:=by omega):0+0+z.toNat*76+75<2281/\aH s (0+0+z.toNat*76+75)=iI (s.dQ z):=⟨og,aH.at_ s z h 75 og⟩
def o8(s:SC)(z:Int)(h:0<=z/\z<30)(v:Int):0+0+z.toNat*76+75<2281/\dP (aH s) (0+0+z.toNat*76+75) (iI v)=aH {s with dQ:=ad s.dQ z v} :=aH.set s {s with dQ:=ad s.dQ z v} z h 75 og _ (fun j=>by
 have e:aH.un {s with dQ:=ad s.dQ z v} z= {aH.un s z with dQ:=v} :=by unfold aH.un;simp only[aj]
 rw[e]
 by_cases hj:j=75
 ·subst hj;rfl
 ·unfold aH.cell;simp only[if_neg hj]) (fun y hy=>by unfold aH.un;simp only[ae _ _ hy]) rfl
def A8(s:SC):0+2280<2281/\aH s (0+2280)=iI s.ie:=by grind [aH]
def Jp(s:SC)(v:Int):0+2280<2281/\dP (aH s) (0+2280) (iI v)=aH {s with ie:=v} :=by
 refine⟨og,?_⟩;funext i;unfold dP aH;by_cases hi:i=0+2280
 ·simp_all
 ·rw[if_neg hi];by_cases c1:i<2280
  ·rw[if_pos c1,if_pos c1];rfl
  grind
def bW:Nat->Bool:=fun i=>Nat.blt i 30
def SC.dg(e:TypeId)(s:SC):Nat->qh:=fun i=>⟨.slice (s.P (i:Int)) (s.Q (i:Int)).n (s.C (i:Int)),e,2,(s.Q (i:Int)).n,bZ (iu (s.Q (i:Int))) ((s.Q (i:Int)).n*2)⟩
abbrev iS(z:Int):Nat:=0+0+z.toNat*76+6
theorem TQ(s:SC)(h:0<=z/\z<30){i:Nat}(hi:i<65):aH s (iS z+i)=gJ (s.Q z) (s.P z) (s.C z) i:=by
 have e:=aH.at_ s z h (6+i) og;rw[show iS z+i=0+0+z.toNat*76+(6+i)from by unfold iS;omega,e];unfold aH.cell;rw[if_neg og,if_neg og,if_neg og,if_neg og,if_neg og,if_neg og,if_pos og,show 6+i-6=i from og];rfl
section
variable {W w:World} {S:Nat->Nat->Prop} {H F:List aG}
def XM.BX{b o n:Nat}{C C':Nat->Value}(hC:∀ i,i<n->C i=C' i)(h:XM W S (.cells b o n C::H) w):XM W S (.cells b o n C'::H) w:=by
 obtain⟨⟨hh,pQ⟩,hk,hm⟩:=h;rw[List.pairwise_cons]at pQ;refine⟨⟨fun e he=> ?_,List.pairwise_cons.2 ⟨pQ.1,pQ.2⟩⟩,hk,fun e he=> ?_⟩
 ·rcases List.mem_cons.1 he with rfl | he
  ·obtain⟨A,t,lo,hi,h1,h2⟩:=hh (.cells b o n C) sq;exact⟨A,t,lo,hi,h1,fun i P3=>by rw[<-hC i P3];exact h2 i P3⟩
  simp_all
 ·rcases List.mem_cons.1 he with rfl | he
  ·exact hm (.cells b o n C) sq
  grind
def nx{b o:Nat}{e:TypeId}{s:SC}(hz:0<=z/\z<30)(hp:cG H [.cells b o 2281 (aH s),.aQ bW (s.dg e)] F)(h:XM W S H w):XM W S (.cells b (o+iS z) 65 (gJ (s.Q z) (s.P z) (s.C z))::aL (s.P z) (s.C z) e 2 (s.Q z).n (iu (s.Q z)):: .cells b o (iS z) (aH s):: .cells b (o+iS z+65) (2281-iS z-65) (fun i=>aH s (iS z+65+i)):: .aQ (ji bW z.toNat) (s.dg e)::F) w:=by
 have L5:iS z+65<=2281:=by unfold iS;omega
 have h1:=h.cb hp.cb;have h2:=XM.part (n:=2281) (off:=iS z) (m:=65) L5 h1;have h3:=XM.BX (C':=gJ (s.Q z) (s.P z) (s.C z)) (fun i hi=>TQ s hz hi) h2;have h4:=h3.cb (H':=.aQ bW (s.dg e):: .cells b (o+iS z) 65 (gJ (s.Q z) (s.P z) (s.C z)):: .cells b o (iS z) (aH s):: .cells b (o+iS z+65) (2281-iS z-65) (fun i=>aH s (iS z+65+i))::F)
  (nr.cb (.ao (.ao (.ao .aa))))
 have h5:=oK z.toNat (by show Nat.blt z.toNat 30=true;simp;omega) h4;have e1:(s.dg e z.toNat).CA=aL (s.P z) (s.C z) e 2 (s.Q z).n (iu (s.Q z)):=by
  grind [SC.dg]
 rw[e1]at h5;exact h5.cb (cG.cb (E:=[_,_,_,_,_]) (F:=F) (pk [2,0,1,1,0]))
theorem TR(s:SC)(z:Int)(q:QS)(p:Option Addr)(c:Nat)(h:0<=z/\z<30)(i:Nat)(hi:i<iS z\/iS z+65<=i):aH {s with Q:=ad s.Q z q,P:=ad s.P z p,C:=ad s.C z c} i=aH s i:=by
 unfold aH;refine gj (fun c1=> ?_) fun _=>rfl;by_cases cz:((i/76:Nat):Int)=z
 ·have hj:¬(6<=i%76/\i%76<71):=by unfold iS at hi;omega
  rw[cz];unfold aH.cell;simp only[if_neg hj];rfl
 grind [aH.un,ad]
def qV{b o:Nat}{e:TypeId}{s:SC}{q:QS}{p:Option Addr}{c:Nat}(hz:0<=z/\z<30)(hp:cG H [.cells b (o+iS z) 65 (gJ q p c),aL p c e 2 q.n (iu q),.cells b o (iS z) (aH s),.cells b (o+iS z+65) (2281-iS z-65) fun i=>aH s (iS z+65+i),.aQ (ji bW z.toNat) (s.dg e)] F)(h:XM W S H w):XM W S (.cells b o 2281 (aH {s with Q:=ad s.Q z q,P:=ad s.P z p,C:=ad s.C z c}):: .aQ bW (SC.dg e {s with Q:=ad s.Q z q,P:=ad s.P z p,C:=ad s.C z c})::F) w:=by
 have L5:iS z+65<=2281:=by unfold iS;omega
 have h1:=(h.cb hp.cb).cb (cG.cb (E:=[aL p c e 2 q.n (iu q),.aQ (ji bW z.toNat) (s.dg e),.cells b (o+iS z) 65 (gJ q p c),.cells b o (iS z) (aH s),.cells b (o+iS z+65) (2281-iS z-65) fun i=>aH s (iS z+65+i)]) (F:=F)
  (pk [1,3,0,0,0]))
 have h2:=qG (x:=⟨.slice p q.n c,e,2,q.n,bZ (iu q) (q.n*2)⟩) z.toNat (uZ _ _) h1;rw[FA (show bW z.toNat=true by show Nat.blt z.toNat 30=true;simp;omega)]at h2;have e1:BE (s.dg e) z.toNat ⟨.slice p q.n c,e,2,q.n,bZ (iu q) (q.n*2)⟩=SC.dg e {s with Q:=ad s.Q z q,P:=ad s.P z p,C:=ad s.C z c} :=by
  grind [ng,SC.dg,lV,ad]
 rw[e1]at h2;have h3:=h2.cb (cG.cb (E:=[.cells b (o+iS z) 65 (gJ q p c),.cells b o (iS z) (aH s),.cells b (o+iS z+65) (2281-iS z-65) fun i=>aH s (iS z+65+i),.aQ bW (SC.dg e {s with Q:=ad s.Q z q,P:=ad s.P z p,C:=ad s.C z c})]) (F:=F)
  (pk [1,1,1,0]))
 refine XM.BF (n:=2281) (off:=iS z) (m:=65) L5 (fun i hi=> ?_) (fun i hi=> ?_) (fun i hi=> ?_) h3 og;all_goals grind [TR,TQ,aj]
def rZ{b o:Nat}{e:TypeId}{s:SC}(hz:0<=z/\z<30)(hp:cG H [.cells b (o+iS z) 65 (gJ (s.Q z) (s.P z) (s.C z)),aL (s.P z) (s.C z) e 2 (s.Q z).n (iu (s.Q z)),.cells b o (iS z) (aH s),.cells b (o+iS z+65) (2281-iS z-65) fun i=>aH s (iS z+65+i),.aQ (ji bW z.toNat) (s.dg e)] F)(h:XM W S H w):XM W S (.cells b o 2281 (aH s):: .aQ bW (s.dg e)::F) w:=by
 have h1:=qV hz hp h;simp_all[cH]
theorem XM.newRow{e:TypeId}{s:SC}(hz:0<=z/\z<30)(hp:cG H [.aQ bW (s.dg e)] F)(h:XM W S H w):XM W S (.aQ bW (SC.dg e {s with Q:=ad s.Q z QS.dB,P:=ad s.P z none,C:=ad s.C z 0})::F) w:=by
 have h1:=oK z.toNat (by show Nat.blt z.toNat 30=true;simp;omega) (h.cb hp.cb);have h2:=XM.pick (E:=.aQ (ji bW z.toNat) (s.dg e)::F) (F:=[(s.dg e z.toNat).CA]) (by
  have hq:∀ (x:aG) (L:List aG),cG (x::L) L [x]:=fun x L=>by
   induction L with
   | nil=>exact .nil
   | cons y r ih=>exact .cons (.ao .aa) ih
  exact hq _ _) h1
 have h3:=h2.fH e 2;have h4:=qG (x:=⟨.slice none 0 0,e,2,0,[]⟩) z.toNat (uZ _ _) h3;rw[FA (show bW z.toNat=true by show Nat.blt z.toNat 30=true;simp;omega)]at h4;have e1:BE (s.dg e) z.toNat ⟨.slice none 0 0,e,2,0,[]⟩=SC.dg e {s with Q:=ad s.Q z QS.dB,P:=ad s.P z none,C:=ad s.C z 0} :=by
  funext i;by_cases hi:i=z.toNat
  ·subst hi;rw[ng];unfold SC.dg;simp only[show((z.toNat:Nat):Int)=z from og,aj];rfl
  ·rw[lV _ _ hi];have P3:¬(i:Int)=z:=og;unfold SC.dg;simp only[ae _ _ P3]
 rw[e1]at h4;exact h4
end
theorem SC.mA.gF{s:SC}(h:s.mA)(hw:∀ i,s.ck i=true->0<i/\i<30){n:Int}(h0:0<=n)(h1:n<30):s.toSF.gF n=decide (0<(s.Q n).n):=by
 rw[Bool.eq_iff_iff,SF.qU,decide_eq_true_eq,(h n h0 h1).len];constructor
 ·rintro⟨i,i0,i1,i2,i3⟩;exact⟨i,i0,og,(SF.rY _ _ _).2 ⟨i2,i3⟩⟩
 ·rintro⟨i,i0,i1,i2⟩;obtain⟨a,b⟩:=(SF.rY _ _ _).1 i2;grind
namespace SF
def vM(s:SF)(n:Int):Int:=if n<0\/10<=n then 1 else if s.aa n=true then 0 else 2
def tA(s:SF)(n:Int):Int:=if n<0\/20<=n then 1 else if s.aa (10+n)=true then 0 else 2
def Hj(s:SF)(n:Int):0<=s.vM n:=by unfold vM;split<;>(try split)<;>omega
def abX(s:SF)(n:Int):0<=s.tA n:=by unfold tA;split<;>(try split)<;>omega
theorem mN(k:Nat)(s:SF)(h:n<=0:=by omega):iv k s n=s:=by
 cases k with
 | zero=>rfl
 | succ k=>show(if n<=0 then s else _)=s;rw[if_pos h]
theorem o9(k:Nat)(s:SF)(h:0<n):iv (k+1) s n=iv k (s.ve n) (s.aA n):=by
 grind [iv]
def Inv.ve{s:SF}{d:Int->Nat}(h:s.Inv d){n:Int}(h0:0<n)(h1:n<30)(h2:s.aa n=true):(s.ve n).Inv d:=by
 refine⟨h.h0,h.up,fun i hi=> ?_,h.quo,h.wt⟩;have e:(s.ve n).ck i=ad s.ck n (s.ready n) i:=rfl;rw[e]at hi;by_cases c:i=n
 ·subst c;exact⟨h0,h1,h2⟩
 ·rw[ae _ _ c]at hi;exact h.ck i hi
end SF
theorem SC.mA.enter{s:SC}(h:s.mA)(hn:0<=n/\n<30)(hg:0<=s.aA n/\s.aA n<30)(hw:s.ck n=false)(t:SF)(ht:t.ck=ad s.ck n true)(hv:∀ i,¬i=n->t.v i=s.v i)(hp:t.aA=s.aA)(ig:Int)(ahP:t.v n=ig)(P:Int->Option Addr)(C:Int->Nat):SC.mA ⟨t,ad s.Q (s.aA n) ((s.Q (s.aA n)).put n ig).2,P,C⟩:=fun g g0 g1=>by
 subst ahP;show mz (ad s.Q (s.aA n) _ g) (t.mq g);unfold SF.mq;rw[ht,hp];by_cases c:g=s.aA n
 ·subst c;rw[aj];have wz:(s.toSF.mq (s.aA n)).is n=2:=RQ.xU og (by show(s.ck n&&_)=false;rw[hw];rfl);have h1:=((h _ g0 g1).put n (t.v n)).2;rw[RQ.tQ _ og og]at h1;refine h1.ext (fun i _ _=> ?_) fun i _ _ _=> ?_
  ·show(ad s.ck n true i&&decide (s.aA i=s.aA n))=ad (fun i=>s.ck i&&decide (s.aA i=s.aA n)) n true i;grind [ad]
  ·show t.v i=ad s.v n (t.v n) i;grind [ad]
 ·rw[ae _ _ c];refine(h g g0 g1).ext (fun i _ _=> ?_) fun i _ _ hi=> ?_
  ·show(ad s.ck n true i&&decide (s.aA i=g))=(s.ck i&&decide (s.aA i=g));grind [ad]
  ·have ci:¬i=n:=fun e=>by
    subst e;have:=((SF.rY _ _ _).1 hi).1;simp_all
   exact hv i ci
theorem SC.mA.gx{s:SC}(h:s.mA)(hn:0<=n/\n<30)(hg:0<=s.aA n/\s.aA n<30)(hw:s.ck n=true)(t:SF)(ht:t.ck=ad s.ck n false)(hv:∀ i,¬i=n->t.v i=s.v i)(hp:t.aA=s.aA)(P:Int->Option Addr)(C:Int->Nat):SC.mA ⟨t,ad s.Q (s.aA n) ((s.Q (s.aA n)).cut n).2.2,P,C⟩:=fun g g0 g1=>by
 show mz (ad s.Q (s.aA n) _ g) (t.mq g);unfold SF.mq;rw[ht,hp];by_cases c:g=s.aA n
 ·subst c;rw[aj];have wz:(s.toSF.mq (s.aA n)).is n=0:=RQ.CS og (by show(s.ck n&&_)=true;rw[hw];simp);have h1:=((h _ g0 g1).cut n).2.2;rw[RQ.L4 wz]at h1;refine h1.ext (fun i _ _=> ?_) fun i _ _ hi=> ?_
  ·show(ad s.ck n false i&&decide (s.aA i=s.aA n))=ad (fun i=>s.ck i&&decide (s.aA i=s.aA n)) n false i;grind [ad]
  ·have ci:¬i=n:=fun e=>by
    grind [aj]
   exact hv i ci
 ·rw[ae _ _ c];refine(h g g0 g1).ext (fun i _ _=> ?_) fun i _ _ hi=> ?_
  ·show(ad s.ck n false i&&decide (s.aA i=g))=(s.ck i&&decide (s.aA i=g));grind [ad]
  ·have ci:¬i=n:=fun e=>by
    subst e;exact c ((SF.rY _ _ _).1 hi).2.symm
   exact hv i ci
theorem SC.mA.bS{s:SC}(h:s.mA)(hn:0<=n/\n<30)(hg:0<=s.aA n/\s.aA n<30):((s.Q (s.aA n)).ig n).2=if s.ck n=true then 0 else 2:=by
 rw[((h _ hg.1 hg.2).abW n).2.1];by_cases c:s.ck n=true
 ·rw[if_pos c,FL (RQ.CS og (by show(s.ck n&&_)=true;rw[c];simp))]
 ·have wz:(s.toSF.mq (s.aA n)).is n=2:=RQ.xU og (by
   show(s.ck n&&_)=false
   cases q:s.ck n with
   | true=>exact absurd q c
   | false=>rfl)
  rw[if_neg c,TO false og];exact wz
def SC.mA.ahQ{s:SC}(h:s.mA)(hn:0<=n/\n<30)(hg:0<=s.aA n/\s.aA n<30)(hw:s.ck n=true):((s.Q (s.aA n)).cut n).1=s.v n/\((s.Q (s.aA n)).cut n).2.1=0:=by
 obtain⟨h1,h2,_⟩:=(h _ hg.1 hg.2).cut n;rw[RQ.L4 (RQ.CS og (by show(s.ck n&&_)=true;rw[hw];simp))]at h1 h2;exact⟨h1,h2⟩
theorem A9{s:SF}(h:s.ready n=s.ck n):s.ve n=s:=by
 unfold SF.ve;grind [cH,SF]
theorem SF.zP{s:SF}(hp:s.aA n≠n)(w:Bool):SF.ready {s with ck:=ad s.ck n w} n=s.ready n:=by
 have hk:SF.gF {s with ck:=ad s.ck n w} n=s.gF n:=by
  rw[Bool.eq_iff_iff,SF.qU,SF.qU];grind [ae]
 unfold SF.ready;rw[hk]
def Qh(s:SC)(z v:Int)(h:0<=z/\z<30):0+0+z.toNat*76+3<2281/\aH {s with v:=ad s.v z v} (0+0+z.toNat*76+3)= .int .u64 v:=by
 have:=tV {s with v:=ad s.v z v} z h;grind [aj]
def Oa{W w:World}{S:Nat->Nat->Prop}{H F:List aG}{b o:Nat}{e:TypeId}{s:SC}(ws:Int->Bool)(hp:cG H [.cells b o 2281 (aH s),.aQ bW (s.dg e)] F)(h:XM W S H w):
  XM W S (.cells b o 2281 (aH {s with ck:=ws}):: .aQ bW (SC.dg e {s with ck:=ws})::F) w:=h.cb hp.cb
end Go.X.Fa

namespace Go.X.Fa
open Go Go.X
variable{a g n:Int}{d:Int->Nat}
namespace SF
def ql(s:SF)(n p w:Int)(h:Bool):SF:=⟨ad s.aa n h,ad s.aA n p,ad s.wt n w,ad s.v n 0,ad s.tT n 0,ad s.cO n false,ad s.eM n 0,ad s.vW n false,ad s.dL n 0,ad s.eT n 0,ad s.dQ n 0,s.ie,ad s.ck n false⟩
def lY(s:SF)(n p w:Int):Int:=if n<0\/10<=n\/w<1\/1000<w then 1 else if s.aa n=true then 3 else s.vM p
def lZ(s:SF)(n p w:Int):Int:=if n<0\/20<=n\/w<1\/1000<w then 1 else if s.aa (10+n)=true then 3 else s.vM p
def td(s:SF)(n p w:Int):SF:=if s.lY n p w=0 then s.ql n p w true else s
def te(s:SF)(n p w:Int):SF:=if s.lZ n p w=0 then s.ql (10+n) p w true else s
def TS(s:SF)(n:Int):Bool:=(List.range 30).any (fun i=>s.aa (i:Int)&&decide (s.aA (i:Int)=n))
def nX(s:SF)(n:Int):Int:=if s.vM n≠0 then s.vM n else if n=0\/s.TS n=true then 5 else 0
def pd(s:SF)(n:Int):SF:=if s.nX n=0 then s.ql n 0 0 false else s
def gq(d:Int->Nat)(s:SF)(n:Int)(on:Bool):SF:=if s.tA n=0 then look d {s with cO:=ad s.cO (10+n) on} (10+n)else s
def EZ(s:SF)(n:Int):Int:=if s.vM n≠0 then s.vM n else if n=0 then 8 else 0
def freeze(d:Int->Nat)(s:SF)(n:Int)(on:Bool):SF:=if s.EZ n=0 then look d {s with vW:=ad s.vW n on} n else s
def tf(s:SF)(n q p:Int):Int:=if s.vM n≠0 then s.vM n else if n=0 then 8 else if q<0\/p<1\/100<p\/p<q then 1 else 0
def abY(s:SF)(n q p:Int):SF:= {s with dL:=ad s.dL n q,eT:=ad s.eT n p,dQ:=ad s.dQ n 0}
def xV(d:Int->Nat)(s:SF)(n q p:Int):SF:=if s.tf n q p=0 then look d (s.abY n q p) n else s
def vY(d:Int->Nat)(s:SF)(n:Int):SF:=if s.tA n=0 then(s.gq d n false).ql (10+n) 0 0 false else s
def eN(s:SF)(n g:Int):Int:=if s.tA n≠0 then s.tA n else s.vM g
def mv1(d:Int->Nat)(s:SF)(n g:Int):SF:= {s.gq d n false with aA:=ad (s.gq d n false).aA (10+n) g,v:=ad (s.gq d n false).v (10+n) 0,cO:=ad (s.gq d n false).cO (10+n) (s.cO (10+n))}
def move(d:Int->Nat)(s:SF)(n g:Int):SF:=if s.eN n g=0 then look (ad d (10+n) (d g+1)) (mv1 d s n g) (10+n)else s
theorem FM(s:SF)(n:Int):s.TS n=true↔∃ i:Int,0<=i/\i<30/\s.aa i=true/\s.aA i=n:=by
 unfold TS;simp only[List.any_eq_true,List.mem_range,Bool.and_eq_true,decide_eq_true_eq];constructor
 ·grind
 ·rintro⟨k,h1,h2,h3,h4⟩;refine⟨k.toNat,og,?_⟩;grind
def Ob{s:SF}{k:Int}(h0:0<=k)(h1:k<30)(h2:s.aa k=true)(h3:s.aA k=n):s.TS n=true:=(s.FM n).2 ⟨k,h0,h1,h2,h3⟩
def X1{s:SF}(h:∀ j:Int,0<=j->j<30->¬(s.aa j=true/\s.aA j=n)):s.TS n=false:=by
 grind [FM]
def FN{s:SF}(h:s.vM n=0):0<=n/\n<10/\s.aa n=true:=by
 grind [vM]
def TT{s:SF}(h:s.tA n=0):0<=n/\n<20/\s.aa (10+n)=true:=by
 grind [tA]
theorem abZ{s:SF}(h0:0<=n)(h1:n<20)(h2:s.aa (10+n)=true):s.tA n=0:=by grind [tA]
def ke:∀ (k:Nat) (s:SF) (n:Int),(iv k s n).aa=s.aa/\(iv k s n).aA=s.aA/\(iv k s n).wt=s.wt/\(iv k s n).tT=s.tT/\(iv k s n).cO=s.cO/\(iv k s n).eM=s.eM/\(iv k s n).vW=s.vW/\(iv k s n).dL=s.dL/\(iv k s n).eT=s.eT/\(iv k s n).dQ=s.dQ/\(iv k s n).ie=s.ie
 | 0,s,n=>⟨rfl,rfl,rfl,rfl,rfl,rfl,rfl,rfl,rfl,rfl,rfl⟩
 | k+1,s,n=>by
  by_cases h:n<=0
  ·rw[mN _ _ h];exact⟨rfl,rfl,rfl,rfl,rfl,rfl,rfl,rfl,rfl,rfl,rfl⟩
  ·rw[o9 _ _ og];exact ke k (s.ve n) (s.aA n)
def FO{d:Int->Nat} :∀ (k:Nat) (s:SF) (n:Int),s.Inv d->(n=0\/(0<n/\n<30/\s.aa n=true))->(iv k s n).Inv d
 | 0,s,n,h,_=>h
 | k+1,s,n,h,hn=>by
  rcases hn with rfl | ⟨n0,n1,n2⟩
  ·rw[mN _ _];exact h
  ·rw[o9 _ _ n0];obtain⟨p0,p1,p2,_⟩:=h.up n n0 n1 n2;apply FO k (s.ve n) (s.aA n) (h.ve n0 n1 n2);by_cases c:s.aA n=0
   ·exact .inl c
   ·exact .inr ⟨og,og,p2⟩
def nh(s:SF):Prop:=∀ n,0<n->n<30->s.aa n=true->s.ck n=s.ready n
end SF
def l5(u:aH.U):Array Value:=((List.range 76).map (aH.cell u)).toArray
abbrev wQ(h:Bool)(p w:Int):aH.U:=⟨h,p,w,0,0,false,0,false,0,0,0,QS.dB,none,0⟩
def ly{c:Prop}[Decidable c]{a b:Value}(h1:c->one a=true)(h2:¬c->one b=true):one (if c then a else b)=true:=by
 grind
def TU(s:QS)(p:Option Addr)(c i:Nat)(hi:i<65):one (gJ s p c i)=true:=by grind [one,gJ]
theorem TV(u:aH.U)(j:Nat)(hj:j<76):one (aH.cell u j)=true:=
 ly (fun _=>rfl) fun _=>ly (fun _=>rfl) fun _=>ly (fun _=>rfl) fun _=>ly (fun _=>rfl) fun _=>ly (fun _=>rfl) fun _=>ly (fun _=>rfl) fun _=>ly (fun c=>TU _ _ _ _ og) fun _=>ly (fun _=>rfl) fun _=>ly (fun _=>rfl) fun _=>ly (fun _=>rfl) fun _=>ly (fun _=>rfl) fun _=>ly (fun _=>rfl) fun _=>by exact absurd hj og
def pe(u:aH.U):(l5 u).toList.all one=true/\(l5 u).size=76:=by
 grind [l5,TV]
def tY(s:SC)(z p w:Int)(h:Bool)(hz:0<=z/\z<30:=by omega):0+0+z.toNat*76+76<=2281/\cD (aH s) (0+0+z.toNat*76) (l5 (wQ h p w)).toList=aH ⟨s.toSF.ql z p w h,ad s.Q z QS.dB,ad s.P z none,ad s.C z 0⟩:=
 aH.TP s ⟨s.toSF.ql z p w h,ad s.Q z QS.dB,ad s.P z none,ad s.C z 0⟩ z hz _ (by simp[l5]) (fun j hj=>by
  have e:aH.un ⟨s.toSF.ql z p w h,ad s.Q z QS.dB,ad s.P z none,ad s.C z 0⟩ z=wQ h p w:=by
   unfold aH.un SF.ql
   simp only[aj]
  rw[e]
  simp[l5,hj]) (fun y hy=>by
  unfold aH.un SF.ql
  simp only[ae _ _ hy]) rfl
def SC.mA.new{s:SC}(h:s.mA){z:Int}(hw:s.ck z=false)(hk:∀ i,s.ck i=true->s.aA i≠z)(p w:Int)(hh:Bool):SC.mA ⟨s.toSF.ql z p w hh,ad s.Q z QS.dB,ad s.P z none,ad s.C z 0⟩:=fun g g0 g1=>by
 show mz (ad s.Q z QS.dB g) ((s.toSF.ql z p w hh).mq g);by_cases c:g=z
 ·subst c;rw[aj];refine mz.dB.ext (fun i _ _=> ?_) fun i _ _ hi=>by cases hi
  show(ad s.ck g false i&&decide (ad s.aA g p i=g))=false;grind [ad]
 ·rw[ae _ _ c];refine(h g g0 g1).ext (fun i _ _=> ?_) fun i _ _ hi=> ?_
  ·show(ad s.ck z false i&&decide (ad s.aA z p i=g))=(s.ck i&&decide (s.aA i=g));grind [ad]
  ·show ad s.v z 0 i=s.v i;have ci:¬i=z:=fun e=>by
    subst e;have:=((SF.rY _ _ _).1 hi).1;simp_all
   grind [ad]
def SF.dB:SF:=⟨fun _=>false,fun _=>0,fun _=>0,fun _=>0,fun _=>0,fun _=>false,fun _=>0,fun _=>false,fun _=>0,fun _=>0,fun _=>0,0,fun _=>false⟩
def SC.dB:SC:=⟨SF.dB,fun _=>QS.dB,fun _=>none,fun _=>0⟩
def TW:Array Value:=((List.range 2281).map (aH SC.dB)).toArray
def Qi:TW.size=2281:=by simp[TW]
def TX:∀ i,i<2281->cellsOf TW i=aH SC.dB i:=fun i hi=>by simp[cellsOf,TW,hi]
def SF.cP:SF:=SF.dB.ql 0 (-1) 1 true
theorem SC.mA.dB:SC.dB.mA:=fun g _ _=>mz.dB.ext (fun i _ _=>rfl) fun i _ _ hi=>by cases hi
namespace SF
def FP{d:Int->Nat} :∀ (k:Nat) (s:SF) (n:Int),s.Inv d->(n=0\/(0<n/\n<30/\s.aa n=true))->∀ i,(n=0\/d n<d i)->(iv k s n).ck i=s.ck i/\(iv k s n).v i=s.v i
 | 0,s,n,_,_,i,_=>⟨rfl,rfl⟩
 | k+1,s,n,h,hn,i,hi=>by
  rcases hn with rfl | ⟨n0,n1,n2⟩
  ·rw[mN _ _];exact⟨rfl,rfl⟩
  ·rw[o9 _ _ n0];obtain⟨p0,p1,p2,p3⟩:=h.up n n0 n1 n2;have hd:d n<d i:=by
    rcases hi with q | q
    ·omega
    ·exact q
   have vS:¬i=n:=fun e=>by subst e;omega
   have ih:=FP k (s.ve n) (s.aA n) (h.ve n0 n1 n2) (by
    by_cases c:s.aA n=0
    ·exact .inl c
    ·exact .inr ⟨og,og,p2⟩) i (.inr og)
   have e1:(s.ve n).ck i=s.ck i:=ae _ _ vS;have e2:(s.ve n).v i=s.v i:=ae _ _ vS;rw[ih.1,ih.2,e1,e2];exact⟨rfl,rfl⟩
theorem Hk{s:SF}(h:s.Inv d)(n0:0<n)(n1:n<30)(n2:s.aa n=true):(look d s n).ck n=s.ready n:=by
 unfold look;rw[o9 _ _ n0];obtain⟨p0,p1,p2,p3⟩:=h.up n n0 n1 n2;have e:=(FP (d n) (s.ve n) (s.aA n) (h.ve n0 n1 n2) (by
  by_cases c:s.aA n=0
  ·omega
  ·exact .inr ⟨og,og,p2⟩) n (.inr p3)).1
 rw[e];exact aj _ _ _
def tZ{s:SF}(h:s.Inv d)(hn:n=0\/(0<n/\n<30/\s.aa n=true)):(look d s n).Inv d:=FO _ _ _ h hn
def mO(d:Int->Nat)(s:SF)(n:Int):(look d s n).aa=s.aa:=(ke _ _ _).1
def Jq(d:Int->Nat)(s:SF)(n:Int):(look d s n).aA=s.aA:=(ke _ _ _).2.1
def IsB(s:SF)(g b:Int):Prop:=s.ck b=true/\s.aA b=g/\∀ i,s.ck i=true->s.aA i=g->¬A3 (s.v i) i (s.v b) b
def IsB.ahS{s:SF}{b b':Int}(h:s.IsB g b)(h':s.IsB g b'):b=b':=by
 grind [A3,IsB]
theorem wR(s:SF)(g:Int):∀ (k:Nat),k<=29->(ox s g k<0->∀ i,29-(k:Int)<i->i<=29->¬(s.ck i=true/\s.aA i=g))/\
  (¬ox s g k<0->29-(k:Int)<ox s g k/\ox s g k<=29/\s.ck (ox s g k)=true/\s.aA (ox s g k)=g/\∀ i,29-(k:Int)<i->i<=29->s.ck i=true->s.aA i=g->¬A3 (s.v i) i (s.v (ox s g k)) (ox s g k))
 | 0,_=>⟨fun _ i h1 h2=>og,fun h=>absurd (by show(-1:Int)<0;omega) h⟩
 | k+1,hk=>by
  obtain⟨h1,h2⟩:=wR s g k og;have e:ox s g (k+1)=if s.ck (29-(k:Int))=true/\s.aA (29-(k:Int))=g/\(ox s g k<0\/s.v (29-(k:Int))<=s.v (ox s g k))then 29-(k:Int)else ox s g k:=rfl
  grind [A3,SF]
def Oc{s:SF}(hw:∀ i,s.ck i=true->0<i/\i<30)(h:s.o6 g<0):∀ i,s.ck i=true->s.aA i≠g:=fun i hi e=>by
 grind [wR,o6]
def xW{s:SF}(hw:∀ i,s.ck i=true->0<i/\i<30)(h:¬s.o6 g<0):s.IsB g (s.o6 g)/\0<s.o6 g/\s.o6 g<30:=by
 obtain⟨h1,h2,h3,h4,h5⟩:=(wR s g 29 og).2 h;grind [o6,IsB]
def BZ(d:Int->Nat):∀ (k:Nat) (n:Int),0<=n->n<k->d n<=Hi d k
 | 0,n,h0,h1=>og
 | k+1,n,h0,h1=>by
  show d n<=max (Hi d k) (d (k:Int));by_cases c:n=(k:Int)
  ·subst c;omega
  ·have:=BZ d k n h0 og;omega
theorem X2(s:SF)(k:Nat)(h:10<=a):Lx s k a=a:=by
 cases k with
 | zero=>rfl
 | succ k=>show(if 10<=a then a else _)=a;rw[if_pos h]
theorem L6(s:SF)(k:Nat)(h:¬ 10<=a)(hb:¬s.o6 a<0):Lx s (k+1) a=Lx s k (s.o6 a):=by
 grind [Lx]
def ab1(s:SF)(k:Nat)(h:¬ 10<=a)(hb:s.o6 a<0):Lx s (k+1) a= -1:=by
 grind [Lx]
theorem FQ(k:Nat)(s:SF)(h:n<=0):vL k s n=s:=by
 cases k with
 | zero=>rfl
 | succ k=>show(if n<=0 then s else _)=s;rw[if_pos h]
theorem Od(k:Nat)(s:SF)(h:0<n):vL (k+1) s n=vL k (s.zI n) (s.aA n):=by
 grind [vL]
def upW(s:SF):Nat->Int->Prop
 | 0,n=>n<=0
 | k+1,n=>n<=0\/(s.ck n=true/\upW s k (s.aA n))
def Inv.zI{s:SF}{d:Int->Nat}(h:s.Inv d){n:Int}(h0:0<n)(h1:n<30)(h2:s.aa n=true):(s.zI n).Inv d:=by
 refine⟨h.h0,h.up,fun i hi=> ?_,h.quo,h.wt⟩;have e:(s.zI n).ck i=ad s.ck n ((s.nW n).ready n) i:=rfl;rw[e]at hi;by_cases c:i=n
 ·subst c;exact⟨h0,h1,h2⟩
 ·rw[ae _ _ c]at hi;exact h.ck i hi
def Oe{s:SF}{d:Int->Nat}(h:s.Inv d){n:Int} :∀ (k:Nat) (m:Int),(m=0\/(0<m/\m<30/\s.aa m=true))->d m<d n->upW s k m->upW (s.zI n) k m
 | 0,m,_,_,hu=>hu
 | k+1,m,hm,hd,hu=>by
  rcases hu with hu | ⟨W7,LA⟩
  ·exact .inl hu
  ·rcases hm with rfl | ⟨m0,m1,m2⟩
   ·exact .inl (Int.le_refl _)
   ·refine .inr ⟨?_,?_⟩
    ·show ad s.ck n _ m=true;rw[ae _ _ fun e=>by subst e;omega];exact W7
    ·obtain⟨p0,p1,p2,p3⟩:=h.up m m0 m1 m2;exact Oe h k (s.aA m) (by
      by_cases c:s.aA m=0
      ·exact .inl c
      ·exact .inr ⟨og,og,p2⟩) og LA
def vf{f:Int->Int}{v i lo hi:Int}(h1:lo<=f i/\f i<=hi)(h2:lo<=v/\v<=hi):lo<=ad f n v i/\ad f n v i<=hi:=by
 grind [ad]
theorem bU.mono{s:SF}{B B':Int}(h:s.bU B)(hb:B<=B'):s.bU B':=fun n n0 n1=>by have:=h n n0 n1;omega
def bU.zI{s:SF}{d:Int->Nat}(hI:s.Inv d){B:Int}(h:s.bU B){n:Int}(h0:0<n)(h1:n<30)(h2:s.aa n=true):(s.zI n).bU (B+1048576):=fun i i0 i1=>by
 obtain⟨p0,p1,p2,_⟩:=hI.up n h0 h1 h2;have hw:=hI.wt n og h1 h2;have hn:=h n og h1;have hg:=h (s.aA n) p0 og;have hi:=h i i0 i1;have hq:0<=1048576/s.wt n/\1048576/s.wt n<=1048576:=⟨Int.ediv_nonneg og og,Int.ediv_le_self _ og⟩;have a1:0<=ad s.v n (s.v n+1048576/s.wt n) i/\ad s.v n (s.v n+1048576/s.wt n) i<=B+1048576:=vf og og;have a2:0<=ad s.eM (s.aA n) (max (s.eM (s.aA n)) (s.v n)) i/\ad s.eM (s.aA n) (max (s.eM (s.aA n)) (s.v n)) i<=B+1048576:=vf og og;have a3:0<=ad s.tT n (s.tT n+1) i/\ad s.tT n (s.tT n+1) i<=B+1048576:=vf og og;have a4:0<=(if 0<s.dL n then ad s.dQ n (s.dQ n+1)else s.dQ) i/\(if 0<s.dL n then ad s.dQ n (s.dQ n+1)else s.dQ) i<=B+1048576:=by
  by_cases c:0<s.dL n
  ·rw[if_pos c];exact vf og og
  grind
 exact⟨a1.1,a1.2,a2.1,a2.2,a3.1,a3.2,a4.1,a4.2⟩
def bU.ve{s:SF}{d:Int->Nat}(hI:s.Inv d){B:Int}(h:s.bU B){n:Int}(h0:0<n)(h1:n<30)(h2:s.aa n=true):(s.ve n).bU B:=fun i i0 i1=>by
 obtain⟨p0,p1,p2,_⟩:=hI.up n h0 h1 h2;have hn:=h n og h1;have hg:=h (s.aA n) p0 og;have hi:=h i i0 i1;have ig:0<=(s.ve n).v i/\(s.ve n).v i<=B:=by
  show 0<=ad s.v n (if s.ready n=true/\s.ck n=false then max (s.v n) (s.eM (s.aA n))else s.v n) i/\ad s.v n (if s.ready n=true/\s.ck n=false then max (s.v n) (s.eM (s.aA n))else s.v n) i<=B;apply vf og;omega
 exact⟨ig.1,ig.2,hi.2.2⟩
theorem bU.iv{d:Int->Nat}{B:Int} :∀ (k:Nat) (s:SF) (n:Int),s.Inv d->s.bU B->(n=0\/(0<n/\n<30/\s.aa n=true))->(SF.iv k s n).bU B
 | 0,s,n,_,h,_=>h
 | k+1,s,n,hI,h,hn=>by
  rcases hn with rfl | ⟨n0,n1,n2⟩
  ·rw[mN _ _];exact h
  ·rw[o9 _ _ n0];obtain⟨p0,p1,p2,_⟩:=hI.up n n0 n1 n2;apply bU.iv k (s.ve n) (s.aA n) (hI.ve n0 n1 n2) (h.ve hI n0 n1 n2);by_cases c:s.aA n=0
   ·exact .inl c
   ·exact .inr ⟨og,og,p2⟩
end SF
def SC.mA.ahT{s:SC}(h:s.mA){z:Int}(hw:s.ck z=false)(t:SF)(ht:t.ck=s.ck)(hp:∀ i,¬i=z->t.aA i=s.aA i)(hv:∀ i,¬i=z->t.v i=s.v i):SC.mA {s with toSF:=t} :=fun g g0 g1=>by
 refine(h g g0 g1).ext (fun i _ _=> ?_) fun i _ _ hi=> ?_
 ·show(t.ck i&&decide (t.aA i=g))=(s.ck i&&decide (s.aA i=g));grind
 ·have ci:¬i=z:=fun e=>by
   subst e;have:=((SF.rY _ _ _).1 hi).1;simp_all
  exact hv i ci
theorem SC.mA.first{s:SC}(h:s.mA)(hw:∀ i,s.ck i=true->0<i/\i<30){g:Int}(g0:0<=g)(g1:g<30):((s.Q g).first.2.2=true↔¬s.toSF.o6 g<0)/\(¬s.toSF.o6 g<0->(s.Q g).first.1=s.toSF.o6 g):=by
 have hq:=h g g0 g1;by_cases hn:(s.Q g).n=0
 ·have e:(s.Q g).first=(0,0,false):=by unfold QS.first;rw[if_pos hn]
  have hb:s.toSF.o6 g<0:=by
   apply Classical.byContradiction;intro c;obtain⟨⟨b1,b2,_⟩,b3,b4⟩:=SF.xW hw c;have:=hq.len.2 ⟨_,og,og,(SF.rY _ _ _).2 ⟨b1,b2⟩⟩;omega
  simp_all
 ·have e:(s.Q g).first=((s.Q g).I 0,(s.Q g).K 0,true):=by unfold QS.first;rw[if_neg hn]
  obtain⟨⟨a0,a1⟩,a2,a3⟩:=hq.head og;obtain⟨c1,c2⟩:=(SF.rY _ _ _).1 a2;have hb:¬s.toSF.o6 g<0:=fun q=>SF.Oc hw q _ c1 c2;have hB:s.toSF.IsB g ((s.Q g).I 0):=⟨c1,c2,fun i i1 i2=>by
   have:=hw i i1
   exact a3 i og og ((SF.rY _ _ _).2 ⟨i1,i2⟩)⟩
  rw[e];exact⟨⟨fun _=>hb,fun _=>rfl⟩,fun _=>hB.ahS (SF.xW hw hb).1⟩
def SF.Inv.aay{s:SF}(h:s.Inv d)(hn:10<=n/\n<30)(hg:0<=g/\g<10/\s.aa g=true)(hw:s.ck n=false)(v:Int->Int)(aw:Int->Bool):SF.Inv {s with aA:=ad s.aA n g,v:=v,cO:=aw} (ad d n (d g+1)):=by
 refine⟨h.h0,fun i i0 i1 i2=> ?_,h.ck,h.quo,h.wt⟩;show 0<=ad s.aA n g i/\ad s.aA n g i<10/\s.aa (ad s.aA n g i)=true/\ad d n (d g+1) (ad s.aA n g i)<ad d n (d g+1) i;by_cases c:i=n
 ·grind [ad]
 grind [Inv,ad]
namespace SF
theorem X3{s x:SF}(h1:1<=n)(he:x=mM d s (n-1).toNat)(h:x.aa n=true/\0<x.dL n/\x.ie%x.eT n=0):mM d s (n+1-1).toNat=look d {x with dQ:=ad x.dQ n 0} n:=by
 rw[show(n+1-1).toNat=(n-1).toNat+1 from og];grind [tU,mM]
theorem Hl{s x:SF}(h1:1<=n)(he:x=mM d s (n-1).toNat)(h:¬(x.aa n=true/\0<x.dL n/\x.ie%x.eT n=0)):mM d s (n+1-1).toNat=x:=by
 rw[show(n+1-1).toNat=(n-1).toNat+1 from og];grind [tU,mM]
def bU.dQ{s:SF}{B:Int}(hB:0<=B)(h:s.bU B)(n:Int):SF.bU {s with dQ:=ad s.dQ n 0} B:=fun i i0 i1=>by
 have hi:=h i i0 i1;have:=vf (f:=s.dQ) (n:=n) (v:=0) (i:=i) (lo:=0) (hi:=B) og og;simp_all
def Qj{s:SF}(hI:s.Inv d)(hs:s.nh)(h0:0<a)(h1:a<10)(hw:s.ck a=true):¬s.o6 a<0:=fun hb=>by
 obtain⟨_,a1,a2⟩:=hI.ck a hw;have h2:=hs a h0 a1 a2;rw[hw]at h2;unfold ready at h2;rw[if_neg og]at h2;have hk:s.gF a=true:=by
  simp_all
 obtain⟨i,i0,i1,i2,i3⟩:=(s.qU a).1 hk;exact Oc (fun j hj=>⟨(hI.ck j hj).1,(hI.ck j hj).2.1⟩) hb i i2 i3
end SF
def L7{W w:World}{S:Nat->Nat->Prop}{H:List aG}(e:TypeId)(h:XM W S H w):XM W S (.aQ bW (SC.dB.dg e)::H) w:=by
 have hr:w.ownsRow 0 e 2 (.slice none 0 0) 0 []:=(h.fH e 2).fa.1 (.row (.slice none 0 0) e 2 0 []) sq;refine⟨⟨fun x hx=> ?_,List.pairwise_cons.2 ⟨fun x hx _ b o h1 h2=> ?_,h.fa.2⟩⟩,h.fE,fun x hx hw b o hb=> ?_⟩
 ·rcases List.mem_cons.1 hx with rfl | hx
  ·exact⟨fun i _=>hr,fun i j b _ _ _ h1 _=>by cases h1⟩
  ·exact h.fa.1 x hx
 ·obtain⟨i,_,hb⟩:=h1;cases hb
 ·rcases List.mem_cons.1 hx with rfl | hx
  ·obtain⟨i,_,hb⟩:=hb;cases hb
  ·exact h.EP x hx hw b o hb
def SF.Tk(s:SF):Prop:=∀ n,10<=n->n<30->s.eM n=0/\s.vW n=false/\s.dL n=0/\s.eT n=0/\s.dQ n=0
namespace SF
def Jr{s:SF}(hI:s.Inv d)(i1:0<=n)(i2:n<20)(i3:s.aa (10+n)=true):(s.gq d n false).Inv d/\(s.gq d n false).ck (10+n)=false/\(s.gq d n false).aa=s.aa/\(s.gq d n false).aA=s.aA/\(s.gq d n false).wt=s.wt/\(s.gq d n false).tT=s.tT/\(s.gq d n false).eM=s.eM/\(s.gq d n false).vW=s.vW/\(s.gq d n false).dL=s.dL/\(s.gq d n false).eT=s.eT/\(s.gq d n false).dQ=s.dQ/\(s.gq d n false).ie=s.ie/\(s.gq d n false).cO=ad s.cO (10+n) false:=by
 have e:s.gq d n false=look d {s with cO:=ad s.cO (10+n) false} (10+n):=by unfold gq;rw[if_pos (abZ i1 i2 i3)]
 have hA:SF.Inv {s with cO:=ad s.cO (10+n) false} d:=⟨hI.h0,hI.up,hI.ck,hI.quo,hI.wt⟩;obtain⟨a1,a2,a3,a4,a5,a6,a7,a8,a9,a10,a11⟩:=ke (d (10+n)+1) {s with cO:=ad s.cO (10+n) false} (10+n);rw[e];refine⟨tZ hA (.inr ⟨og,og,i3⟩),?_,a1,a2,a3,a4,a6,a7,a8,a9,a10,a11,a5⟩;grind [Hk,ready,ad]
theorem X4{s:SF}(h:s.tA n=0)(d:Int->Nat)(on:Bool):s.gq d n on=look d {s with cO:=ad s.cO (10+n) on} (10+n):=by grind [gq]
end SF
end Go.X.Fa
