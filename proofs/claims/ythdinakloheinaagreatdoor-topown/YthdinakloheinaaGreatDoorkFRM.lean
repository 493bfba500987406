import Derived.Test.YthdinakloheinaaGreatDoorXBytes
set_option linter.all false
namespace Go.X.Fa
open Go Go.X
variable{i id j k m n z:Int}
def AU(k i k' i':Int):Prop:=k<k'\/(k=k'/\i<i')
instance (k i k' i':Int):Decidable (AU k i k' i'):=by unfold AU;infer_instance
structure QS where
 n:Nat
 K:Int->Int
 I:Int->Int
 at_:Int->Int
def QS.set(s:QS)(i k id:Int):QS:= {s with K:=ad s.K i k,I:=ad s.I i id,at_:=ad s.at_ id (i+1)}
def QS.Es:Nat->QS->Int->Int->Int->QS
 | 0,s,i,k,id=>s.set i k id
 | f+1,s,i,k,id=>if 0<i/\AU k id (s.K ((i-1)/2)) (s.I ((i-1)/2))then QS.Es f (s.set i (s.K ((i-1)/2)) (s.I ((i-1)/2))) ((i-1)/2) k id else s.set i k id
def QS.up(s:QS)(i:Int):QS:=QS.Es i.toNat s i (s.K i) (s.I i)
def QS.bB(s:QS)(i:Int):Int:=if 2*i+1+1<s.n/\AU (s.K (2*i+1+1)) (s.I (2*i+1+1)) (s.K (2*i+1)) (s.I (2*i+1))then 2*i+1+1 else 2*i+1
def QS.kH:Nat->QS->Int->Int->Int->QS
 | 0,s,i,k,id=>s.set i k id
 | f+1,s,i,k,id=>if s.bB i<s.n/\AU (s.K (s.bB i)) (s.I (s.bB i)) k id then QS.kH f (s.set i (s.K (s.bB i)) (s.I (s.bB i))) (s.bB i) k id else s.set i k id
def QS.down(s:QS)(i:Int):QS:=QS.kH (s.n-i.toNat) s i (s.K i) (s.I i)
def QS.kv(s:QS)(k id:Int):QS:= {s with n:=s.n+1,K:=ad s.K s.n k,I:=ad s.I s.n id}
def QS.put(s:QS)(id k:Int):Int×QS:=if id<0\/63<id then(1,s)else if 0<s.at_ id then(3,s)else(0,(s.kv k id).up s.n)
def QS.fi(s:QS)(id:Int):QS:= {s with n:=s.n-1,at_:=ad s.at_ id 0}
def QS.abU(s:QS)(i k id:Int):QS:=((s.set i k id).down i).up (((s.set i k id).down i).at_ id-1)
def QS.vW(s:QS)(id:Int):QS:=if s.at_ id-1<(s.n:Int)-1 then(s.fi id).abU (s.at_ id-1) (s.K ((s.n:Int)-1)) (s.I ((s.n:Int)-1))else s.fi id
def QS.cut(s:QS)(id:Int):Int×Int×QS:=if id<0\/63<id then(0,1,s)else if s.at_ id=0 then(0,2,s)else(s.K (s.at_ id-1),0,s.vW id)
def QS.iD(s:QS)(id:Int):Int×Int:=if id<0\/63<id then(0,1)else if s.at_ id=0 then(0,2)else(s.K (s.at_ id-1),0)
def QS.du:QS:=⟨0,fun _=>0,fun _=>0,fun _=>0⟩
structure QS.Ok (s:QS):Prop where
 n64:s.n<=64
 ng:∀ j:Int,0<=j->j<s.n->0<=s.I j/\s.I j<64
 Jd:∀ j:Int,0<=j->j<s.n->s.at_ (s.I j)=j+1
 L5:∀ id,0<=id->id<64->s.at_ id=0\/(1<=s.at_ id/\s.at_ id<=s.n/\s.I (s.at_ id-1)=id)
def QS.L(s:QS)(a b:Int):Prop:=AU (s.K a) (s.I a) (s.K b) (s.I b)
instance (s:QS) (a b:Int):Decidable (s.L a b):=by unfold QS.L;infer_instance
def QS.vM(s:QS):Prop:=∀ j:Int,0<j->j<s.n->¬s.L j ((j-1)/2)
theorem qG{s:QS}{a b:Int}(h:s.L a b):¬s.L b a:=by unfold QS.L AU at*;omega
theorem rM{s:QS}{a b c:Int}(h:¬s.L a b)(h2:¬s.L b c):¬s.L a c:=by grind [QS.L,AU]
def QS.aaC(s:QS)(a:Int):¬s.L a a:=by unfold QS.L AU;omega
def sw(i j m:Int):Int:=if m=i then j else if m=j then i else m
theorem G4(i j:Int):sw i j i=j:=by simp[sw]
theorem Qj(i j:Int):sw i j j=i:=by
 unfold sw;split
 ·rename_i h;exact h
 ·simp
theorem EF(h1:¬m=i)(h2:¬m=j):sw i j m=m:=by simp[sw,h1,h2]
def QS.swap(s:QS)(i j:Int):QS:=(s.set i (s.K j) (s.I j)).set j (s.K i) (s.I i)
theorem Fw(s:QS)(i j m:Int):(s.swap i j).K m=s.K (sw i j m):=by
 show ad (ad s.K i (s.K j)) j (s.K i) m=_;grind [ad,sw]
theorem qH(s:QS)(i j m:Int):(s.swap i j).I m=s.I (sw i j m):=by
 show ad (ad s.I i (s.I j)) j (s.I i) m=_;grind [ad,sw]
theorem u9(s:QS)(i j a b:Int):(s.swap i j).L a b↔s.L (sw i j a) (sw i j b):=by
 grind [QS.L,Fw,qH]
theorem CJ(s:QS)(i j id:Int):(s.swap i j).at_ id=if id=s.I i then j+1 else if id=s.I j then i+1 else s.at_ id:=rfl
def QS.L6(s:QS)(id:Int):Int:=s.K (s.at_ id-1)
structure QS.wO (s t:QS):Prop where
 n:t.n=s.n
 at_:∀ id,0<=id->id<64->(t.at_ id=0↔s.at_ id=0)
 k:∀ id,0<=id->id<64->¬s.at_ id=0->t.L6 id=s.L6 id
theorem QS.wO.refl(s:QS):s.wO s:=⟨rfl,fun _ _ _=>Iff.rfl,fun _ _ _ _=>rfl⟩
def QS.wO.trans{s t u:QS}(h:s.wO t)(h2:t.wO u):s.wO u:=
 ⟨h2.n.trans h.n,fun id a b=>(h2.at_ id a b).trans (h.at_ id a b),fun id a b c=>(h2.k id a b fun q=>c ((h.at_ id a b).1 q)).trans (h.k id a b c)⟩
theorem QS.Ok.inj{s:QS}(h:s.Ok)(hi:0<=i/\i<s.n)(hj:0<=j/\j<s.n)(he:s.I i=s.I j):i=j:=by
 grind [QS.Ok.Jd]
def abW{n:Nat}(hi:0<=i/\i<n)(hj:0<=j/\j<n)(hm:0<=m/\m<n):0<=sw i j m/\sw i j m<n:=by
 grind [sw]
def QS.Ok.swap{s:QS}(h:s.Ok){i j:Int}(hi:0<=i/\i<s.n)(hj:0<=j/\j<s.n)(fN:¬i=j):(s.swap i j).Ok/\s.wO (s.swap i j):=by
 have hII:¬s.I i=s.I j:=fun e=>fN (h.inj hi hj e);have hn:(s.swap i j).n=s.n:=rfl;refine⟨⟨h.n64,fun m m0 m1=> ?_,fun m m0 m1=> ?_,fun id d0 d1=> ?_⟩,⟨rfl,fun id d0 d1=> ?_,fun id d0 d1 hp=> ?_⟩⟩
 ·rw[qH];have:=abW hi hj ⟨m0,m1⟩;exact h.ng _ this.1 this.2
 ·grind [qH,CJ,G4,Qj,EF,QS.Ok.Jd]
 all_goals grind [CJ,qH,Qj,G4,QS.Ok.L5,EF,QS.Ok.Jd,QS.L6,Fw]
def QS.Su:Nat->QS->Int->QS
 | 0,s,_=>s
 | f+1,s,i=>if 0<i/\s.L i ((i-1)/2)then QS.Su f (s.swap i ((i-1)/2)) ((i-1)/2)else s
theorem iq{s:QS}(h:¬m=i):(s.set i k id).K m=s.K m/\(s.set i k id).I m=s.I m:=⟨ae _ _ h,ae _ _ h⟩
theorem QS.tH(s:QS)(i k id:Int):(s.set i k id).K i=k/\(s.set i k id).I i=id:=⟨aj _ _ _,aj _ _ _⟩
theorem CK{s:QS}{p:Int}(hp:¬p=i):(s.set i (s.K p) (s.I p)).set p k id=(s.set i k id).swap i p:=by
 unfold QS.swap;rw[(iq hp).1,(iq hp).2,(s.tH i k id).1,(s.tH i k id).2];unfold QS.set;simp only[QS.mk.injEq,true_and];grind [ad]
theorem wP:∀ (f:Nat) (s:QS) (i k id:Int),QS.Es f s i k id=QS.Su f (s.set i k id) i
 | 0,_,_,_,_=>rfl
 | f+1,s,i,k,id=>by
  have e:(0<i/\AU k id (s.K ((i-1)/2)) (s.I ((i-1)/2)))↔(0<i/\(s.set i k id).L i ((i-1)/2)):=by
   grind [QS.L,QS.tH,iq]
  rw[QS.Es,QS.Su];by_cases c:0<i/\AU k id (s.K ((i-1)/2)) (s.I ((i-1)/2))
  ·rw[if_pos c,if_pos (e.1 c),wP f,CK og]
  grind
theorem AV{s:QS}(h:s.at_ (s.I i)=i+1):s.set i (s.K i) (s.I i)=s:=by
 simp_all[QS.set,cJ]
def QS.Exc(s:QS)(i:Int):Prop:=(∀ j:Int,0<j->j<s.n->¬j=i->¬s.L j ((j-1)/2))/\(0<i->∀ j:Int,0<j->j<s.n->(j-1)/2=i->¬s.L j ((i-1)/2))
theorem QS.Ok.Su:∀ (f:Nat) {s:QS} {i:Int},s.Ok->s.Exc i->0<=i->i<s.n->i<=f->(QS.Su f s i).Ok/\s.wO (QS.Su f s i)/\(QS.Su f s i).vM:=by
 have stop:∀ {s:QS} {i:Int},s.Exc i->¬(0<i/\s.L i ((i-1)/2))->s.vM:=fun {s i} he hn j j0 j1=>by
  grind [QS.Exc]
 intro f;induction f with
 | zero=>exact fun h he h0 h1 hf=>⟨h,QS.wO.refl _,stop he og⟩
 | succ f ih=>
  intro s i h he h0 h1 hf;rw[QS.Su];by_cases c:0<i/\s.L i ((i-1)/2)
  ·rw[if_pos c];have Sv:0<=(i-1)/2/\(i-1)/2<s.n:=og;have fN:¬i=(i-1)/2:=og;obtain⟨o1,o2⟩:=h.swap ⟨h0,h1⟩ Sv fN;have SO:(s.swap i ((i-1)/2)).Exc ((i-1)/2):=by
    refine⟨fun j j0 j1 jn=> ?_,fun p0 j j0 j1 jp=> ?_⟩
    ·rw[u9];by_cases c1:j=i
     ·grind [G4,Qj,qG]
     ·rw[EF c1 jn];by_cases c2:(j-1)/2=i
      ·rw[c2,G4];exact he.2 c.1 j j0 j1 c2
      ·by_cases c3:(j-1)/2=(i-1)/2
       ·rw[c3,Qj];have:=he.1 j j0 j1 c1;grind [rM,qG]
       ·rw[EF c2 c3];exact he.1 j j0 j1 c1
    ·rw[u9];have hpp:=he.1 ((i-1)/2) p0 Sv.2 fun e=>fN e.symm;have q1:¬((i-1)/2-1)/2=i:=og;have q2:¬((i-1)/2-1)/2=(i-1)/2:=og;rw[EF q1 q2];by_cases c1:j=i
     ·grind [G4]
     ·have jn:¬j=(i-1)/2:=og;rw[EF c1 jn];have:=he.1 j j0 j1 c1;grind [rM]
   obtain⟨i1,i2,i3⟩:=ih o1 SO Sv.1 Sv.2 og;exact⟨i1,o2.trans i2,i3⟩
  ·rw[if_neg c];exact⟨h,QS.wO.refl _,stop he c⟩
theorem QS.Ok.abX{s:QS}(h:s.Ok)(h0:0<=i)(h1:i<s.n):s.up i=QS.Su i.toNat s i:=by
 grind [QS.up,wP,AV,QS.Ok.Jd]
def QS.sM:Nat->QS->Int->QS
 | 0,s,_=>s
 | f+1,s,i=>if s.bB i<s.n/\s.L (s.bB i) i then QS.sM f (s.swap i (s.bB i)) (s.bB i)else s
theorem QS.ir(s:QS)(i:Int):(s.bB i=2*i+2/\2*i+2<s.n/\s.L (2*i+2) (2*i+1))\/(s.bB i=2*i+1/\(2*i+2<s.n->¬s.L (2*i+2) (2*i+1))):=by
 grind [QS.bB,QS.L]
theorem xM{s:QS}(h:0<=i):(s.set i k id).bB i=s.bB i:=by
 have h1:¬ 2*i+1+1=i:=og;have h2:¬ 2*i+1=i:=og;unfold QS.bB;rw[(iq h1).1,(iq h1).2,(iq h2).1,(iq h2).2];rfl
theorem tJ:∀ (f:Nat) (s:QS) (i k id:Int),0<=i->QS.kH f s i k id=QS.sM f (s.set i k id) i
 | 0,_,_,_,_,_=>rfl
 | f+1,s,i,k,id,h=>by
  have hc:0<=s.bB i/\¬s.bB i=i:=by
   grind [QS.ir]
  have e:(s.bB i<s.n/\AU (s.K (s.bB i)) (s.I (s.bB i)) k id)↔((s.set i k id).bB i<(s.set i k id).n/\(s.set i k id).L ((s.set i k id).bB i) i):=by
   rw[xM h];unfold QS.L;rw[(s.tH i k id).1,(s.tH i k id).2,(iq hc.2).1,(iq hc.2).2];rfl
  rw[QS.kH,QS.sM];by_cases c:s.bB i<s.n/\AU (s.K (s.bB i)) (s.I (s.bB i)) k id
  ·simp_all[tJ,CK,xM]
  grind
def QS.Mid(s:QS)(i:Int)(b:Prop):Prop:=(∀ j:Int,0<j->j<s.n->¬(j-1)/2=i->(¬j=i\/b)->¬s.L j ((j-1)/2))/\(0<i->∀ j:Int,0<j->j<s.n->(j-1)/2=i->¬s.L j ((i-1)/2))
theorem QS.Ok.sM:∀ (f:Nat) {s:QS} {i:Int} {b:Prop},s.Ok->s.Mid i b->0<=i->i<s.n->(s.n:Int)<=i+f->(QS.sM f s i).Ok/\s.wO (QS.sM f s i)/\∃ q:Int,(0<=q/\q<s.n)/\(QS.sM f s i).I q=s.I i/\(QS.sM f s i).Exc q:=by
 have stop:∀ {s:QS} {i:Int} {b:Prop},s.Mid i b->0<=i->¬(s.bB i<s.n/\s.L (s.bB i) i)->s.Exc i:=fun {s i b} hm h0 hn=>by
  refine⟨fun j j0 j1 jn=> ?_,hm.2⟩;by_cases c:(j-1)/2=i
  ·rw[c];intro hl;rcases s.ir i with⟨q1,q2,q3⟩ | ⟨q1,q2⟩
   ·rw[q1]at hn;have h2:¬s.L (2*i+2) i:=fun e=>hn ⟨q2,e⟩;grind [rM,qG]
   grind [rM]
  grind [QS.Mid]
 intro f;induction f with
 | zero=>exact fun h hm h0 h1 hf=>og
 | succ f ih=>
  intro s i b h hm h0 h1 hf;rw[QS.sM];by_cases c:s.bB i<s.n/\s.L (s.bB i) i
  ·rw[if_pos c];have hcc:=s.ir i;have hcn:i<s.bB i/\(s.bB i-1)/2=i:=by
    omega
   have fN:¬i=s.bB i:=og;obtain⟨o1,o2⟩:=h.swap ⟨h0,h1⟩ ⟨og,c.1⟩ fN;have hm':(s.swap i (s.bB i)).Mid (s.bB i) True:=by
    refine⟨fun j j0 j1 jp _=> ?_,fun p0 j j0 j1 jp=> ?_⟩
    ·rw[u9];by_cases c1:j=s.bB i
     ·grind [Qj,G4,qG]
     ·by_cases c2:j=i
      ·grind [G4,EF,QS.Mid]
      ·rw[EF c2 c1];by_cases c3:(j-1)/2=i
       ·rw[c3,G4];rcases hcc with⟨q1,q2,q3⟩ | ⟨q1,q2⟩
        ·grind [qG]
        ·rw[q1]at c1 ⊢;have hj:j=2*i+2:=og;rw[hj];exact q2 (by rw[<-hj];exact j1)
       ·rw[EF c3 jp];exact hm.1 j j0 j1 c3 (.inl c2)
    ·rw[u9,hcn.2,G4];have c2:¬j=i:=og;have c1:¬j=s.bB i:=og;rw[EF c2 c1];have:=hm.1 j j0 j1 og (.inl c2);simp_all
   obtain⟨i1,i2,q,q1,q2,q3⟩:=ih o1 hm' og c.1 (by show(s.n:Int)<=_;omega);refine⟨i1,o2.trans i2,q,q1,?_,q3⟩;rw[q2,qH,Qj]
  ·grind [QS.wO.refl]
theorem QS.Ok.Je{s:QS}(h:s.Ok)(h0:0<=i)(h1:i<s.n):s.down i=QS.sM (s.n-i.toNat) s i:=by
 grind [QS.down,tJ,AV,QS.Ok.Jd]
def CL:∀ (n m:Nat) (f:Nat->Nat),n<m->(∀ i,i<m->f i<n)->∃ i j,i<j/\j<m/\f i=f j
 | 0,m,f,h,hf=>absurd (hf 0 h) og
 | n+1,m,f,h,hf=>by
  by_cases he:∃ i,i<m-1/\f i=f (m-1)
  ·obtain⟨i,h1,h2⟩:=he;exact⟨i,m-1,h1,og,h2⟩
  ·have fN:∀ i,i<m-1->¬f i=f (m-1):=fun i hi e=>he ⟨i,hi,e⟩;have hv:=hf (m-1) og;obtain⟨i,j,h1,h2,h3⟩:=CL n (m-1) (fun i=>if f i=n then f (m-1)else f i) og (fun i hi=>by
    have a1:=hf i og
    have a2:=fN i hi
    show(if f i=n then f (m-1)else f i)<n
    split<;>omega)
   refine⟨i,j,h1,og,?_⟩;have a1:=fN i og;have a2:=fN j og;split at h3<;>split at h3<;>omega
theorem QS.Ok.room{s:QS}(h:s.Ok)(hd:0<=id/\id<64)(hz:s.at_ id=0):s.n<64:=by
 apply Classical.byContradiction;intro hc;have hn:s.n=64:=by have:=h.n64;omega
 obtain⟨i,j,h1,h2,h3⟩:=CL 64 65 (fun i=>if i<64 then(s.I i).toNat else id.toNat) og (fun i hi=>by
  show(if i<64 then(s.I i).toNat else id.toNat)<64
  by_cases c:i<64
  ·rw[if_pos c];have:=h.ng i og og;omega
  ·rw[if_neg c];omega)
 have r1:=h.ng i og og;rw[if_pos og]at h3;by_cases c:j<64
 ·rw[if_pos c]at h3;have r2:=h.ng j og og;have:=h.inj (i:=i) (j:=j) ⟨og,og⟩ ⟨og,og⟩ og;omega
 ·rw[if_neg c]at h3;have:=h.Jd i og og;rw[show s.I i=id from og,hz]at this;omega
theorem QS.Ok.du:QS.du.Ok:=⟨dq,fun j j0 j1=>by simp[QS.du]at j1;omega,fun j j0 j1=>by simp[QS.du]at j1;omega,fun _ _ _=>.inl rfl⟩
def G5:QS.du.vM:=fun j j0 j1=>by simp[QS.du]at j1;omega
def QS.Ok.abZ{s:QS}(h:s.Ok)(hh:s.vM)(hd:0<=id/\id<64)(hz:s.at_ id=0)(k:Int):((s.kv k id).up s.n).Ok/\((s.kv k id).up s.n).vM/\((s.kv k id).up s.n).n=s.n+1/\(∀ x,0<=x->x<64->(((s.kv k id).up s.n).at_ x=0↔(¬x=id/\s.at_ x=0))/\(¬x=id->¬s.at_ x=0->((s.kv k id).up s.n).L6 x=s.L6 x))/\((s.kv k id).up s.n).L6 id=k:=by
 have lR:=h.room hd hz;have e1:(s.kv k id).up s.n=QS.Su s.n ((s.kv k id).set s.n k id) s.n:=by
  simp_all[QS.up,wP,QS.kv,aj]
 have tn:((s.kv k id).set s.n k id).n=s.n+1:=rfl;have ta:∀ x,((s.kv k id).set s.n k id).at_ x=if x=id then(s.n:Int)+1 else s.at_ x:=fun _=>rfl
 have tI:∀ m,((s.kv k id).set s.n k id).I m=if m=s.n then id else s.I m:=fun m=>by
  show ad (ad s.I s.n id) s.n id m=_;grind [ad]
 have tK:∀ m,((s.kv k id).set s.n k id).K m=if m=s.n then k else s.K m:=fun m=>by
  show ad (ad s.K s.n k) s.n k m=_;grind [ad]
 have sW:∀ j:Int,0<=j->j<s.n->¬s.I j=id:=fun j j0 j1 e=>by
  grind [QS.Ok.Jd]
 have tq:((s.kv k id).set s.n k id).Ok:=by
  refine⟨by rw[tn];omega,fun j j0 j1=> ?_,fun j j0 j1=> ?_,fun x x0 x1=> ?_⟩
  ·rw[tI];split
   ·omega
   ·exact h.ng j j0 (by rw[tn]at j1;omega)
  ·grind [QS.Ok.Jd]
  grind [QS.Ok.L5]
 have hex:((s.kv k id).set s.n k id).Exc s.n:=by
  refine⟨fun j j0 j1 jn=> ?_,fun _ j j0 j1 jp=>by rw[tn]at j1;omega⟩;grind [QS.L,QS.vM]
 obtain⟨r1,r2,r3⟩:=tq.Su s.n (i:=s.n) hex og (by rw[tn];omega) og;rw[<-e1]at r1 r2 r3;have hid:=r2.k id hd.1 hd.2 (by rw[ta,if_pos rfl];omega);refine⟨r1,r3,r2.n.trans tn,fun x x0 x1=>⟨?_,fun xn xp=> ?_⟩,?_⟩
 ·rw[r2.at_ x x0 x1,ta];omega
 ·rw[r2.k x x0 x1 (by rw[ta,if_neg xn];exact xp)];grind [QS.L6,QS.Ok.L5]
 grind [QS.L6]
def QS.Ok.ab0{s:QS}(h:s.Ok)(hh:s.vM)(hd:0<=id/\id<64)(hz:¬s.at_ id=0):(s.vW id).Ok/\(s.vW id).vM/\(s.vW id).n=s.n-1/\(∀ x,0<=x->x<64->((s.vW id).at_ x=0↔(x=id\/s.at_ x=0))/\(¬x=id->¬s.at_ x=0->(s.vW id).L6 x=s.L6 x)):=by
 obtain⟨a1,a2,a3⟩:=(h.L5 id hd.1 hd.2).resolve_left hz;unfold QS.vW;by_cases c:s.at_ id-1<(s.n:Int)-1
 ·rw[if_pos c];generalize hi:s.at_ id-1=i at*;generalize hx:s.I ((s.n:Int)-1)=xi at*;generalize hk:s.K ((s.n:Int)-1)=xk at*;have hxr:=h.ng ((s.n:Int)-1) og og;have SP:=h.Jd ((s.n:Int)-1) og og;rw[hx]at hxr SP;have hxd:¬xi=id:=fun e=>by rw[e]at SP;omega
  have tn:((s.fi id).set i xk xi).n=s.n-1:=rfl;have ta:∀ x,((s.fi id).set i xk xi).at_ x=if x=xi then i+1 else if x=id then 0 else s.at_ x:=fun _=>rfl
  have tI:∀ m,((s.fi id).set i xk xi).I m=if m=i then xi else s.I m:=fun _=>rfl
  have tK:∀ m,((s.fi id).set i xk xi).K m=if m=i then xk else s.K m:=fun _=>rfl
  have tq:((s.fi id).set i xk xi).Ok:=by
   refine⟨by rw[tn];have:=h.n64;omega,fun j j0 j1=> ?_,fun j j0 j1=> ?_,fun x x0 x1=> ?_⟩
   ·rw[tn]at j1;rw[tI];split
    ·omega
    ·exact h.ng j j0 og
   ·grind [QS.Ok.Jd]
   grind [QS.Ok.L5]
  have afn:((s.fi id).set i xk xi).Mid i False:=by
   refine⟨fun j j0 j1 jp jb=> ?_,fun i0 j j0 j1 jp=> ?_⟩
   ·grind [QS.L,QS.vM]
   ·rw[tn]at j1;have cj:¬j=i:=og;have cp:¬(i-1)/2=i:=og;unfold QS.L;rw[tK,tK,tI,tI,if_neg cj,if_neg cj,if_neg cp,if_neg cp];have g1:=hh j j0 og;rw[jp]at g1;exact rM g1 (hh i i0 og)
  obtain⟨d1,d2,q,q1,q2,q3⟩:=tq.sM (((s.fi id).set i xk xi).n-i.toNat) afn og (by rw[tn];omega) (by rw[tn];omega);rw[<-tq.Je og (by rw[tn];omega)]at d1 d2 q2 q3;have hq:(((s.fi id).set i xk xi).down i).at_ xi-1=q:=by
   grind [QS.Ok.Jd,QS.wO.n]
  have hf:(s.fi id).abU i xk xi=(((s.fi id).set i xk xi).down i).up q:=by unfold QS.abU;rw[hq]
  obtain⟨u1,u2,u3⟩:=d1.Su q.toNat q3 q1.1 (by rw[d2.n];exact q1.2) og;rw[<-d1.abX q1.1 (by rw[d2.n];exact q1.2),<-hf]at u1 u2 u3;have hs:=d2.trans u2;refine⟨u1,u3,hs.n.trans tn,fun x x0 x1=>⟨?_,fun xn xp=> ?_⟩⟩
  ·rw[hs.at_ x x0 x1,ta];grind
  ·have hp:¬((s.fi id).set i xk xi).at_ x=0:=by
    grind
   rw[hs.k x x0 x1 hp];grind [QS.L6,QS.Ok.L5]
 ·rw[if_neg c];have hl:s.at_ id=s.n:=og;have tn:(s.fi id).n=s.n-1:=rfl;have ta:∀ x,(s.fi id).at_ x=if x=id then 0 else s.at_ x:=fun _=>rfl
  refine⟨⟨by rw[tn];have:=h.n64;omega,fun j j0 j1=>h.ng j j0 (by rw[tn]at j1;omega),fun j j0 j1=> ?_,fun x x0 x1=> ?_⟩,fun j j0 j1=>hh j j0 (by rw[tn]at j1;omega),tn,fun x x0 x1=>⟨?_,fun xn xp=> ?_⟩⟩
  ·rw[tn]at j1;show(s.fi id).at_ (s.I j)=j+1;grind [QS.Ok.Jd]
  ·rw[ta];by_cases c2:x=id
   ·omega
   ·rw[if_neg c2];rcases h.L5 x x0 x1 with g | ⟨g1,g2,g3⟩
    ·omega
    ·have:¬s.at_ x=s.n:=fun e=>by
      simp_all
     exact .inr ⟨g1,by rw[tn];omega,g3⟩
  ·grind
  ·unfold QS.L6;rw[ta,if_neg xn];rfl
def QS.vM.aaE{s:QS}(h:s.vM):∀ (m:Nat) (j:Int),j.toNat<=m->0<=j->j<s.n->¬s.L j 0
 | 0,j,hm,h0,h1=>by
  have:j=0:=og;rw[this];exact s.aaC 0
 | m+1,j,hm,h0,h1=>by
  by_cases c:j=0
  ·rw[c];exact s.aaC 0
  ·exact rM (h j og h1) (QS.vM.aaE h m ((j-1)/2) og og og)
def AW:∀ (f f':Nat) (s:QS) (i k id:Int),i<=f->i<=f'->QS.Es f s i k id=QS.Es f' s i k id
 | 0,0,_,_,_,_,_,_=>rfl
 | 0,f'+1,s,i,k,id,h,_=>by rw[QS.Es,QS.Es,if_neg og]
 | f+1,0,s,i,k,id,_,h=>by rw[QS.Es,QS.Es,if_neg og]
 | f+1,f'+1,s,i,k,id,h,h'=>by
  rw[QS.Es,QS.Es];split
  ·exact AW f f' _ _ _ _ og og
  ·rfl
def Jf{s:QS}(h:0<i)(h2:AU k id (s.K ((i-1)/2)) (s.I ((i-1)/2))):QS.Es i.toNat s i k id=QS.Es ((i-1)/2).toNat (s.set i (s.K ((i-1)/2)) (s.I ((i-1)/2))) ((i-1)/2) k id:=by
 obtain⟨f,hf⟩:∃ f,i.toNat=f+1:=⟨i.toNat-1,og⟩;rw[hf,QS.Es,if_pos ⟨h,h2⟩];exact AW _ _ _ _ _ _ og og
def AX{s:QS}(h:¬(0<i/\AU k id (s.K ((i-1)/2)) (s.I ((i-1)/2)))):QS.Es i.toNat s i k id=s.set i k id:=by
 cases hf:i.toNat with
 | zero=>rfl
 | succ f=>rw[QS.Es,if_neg h]
def vX:∀ (f f':Nat) (s:QS) (i k id:Int),0<=i->(s.n:Int)<=i+f->(s.n:Int)<=i+f'->QS.kH f s i k id=QS.kH f' s i k id
 | 0,0,_,_,_,_,_,_,_=>rfl
 | 0,f'+1,s,i,k,id,h0,h,_=>by
  rw[QS.kH,QS.kH,if_neg];rintro⟨q,_⟩;rcases s.ir i with⟨e,_⟩ | ⟨e,_⟩<;>omega
 | f+1,0,s,i,k,id,h0,_,h=>by
  rw[QS.kH,QS.kH,if_neg];rintro⟨q,_⟩;rcases s.ir i with⟨e,_⟩ | ⟨e,_⟩<;>omega
 | f+1,f'+1,s,i,k,id,h0,h,h'=>by
  have hc:i<s.bB i:=by rcases s.ir i with⟨e,_⟩ | ⟨e,_⟩<;>omega
  rw[QS.kH,QS.kH];split
  ·exact vX f f' _ _ _ _ og (by show(s.n:Int)<=_;omega) (by show(s.n:Int)<=_;omega)
  ·rfl
def EG{s:QS}(h0:0<=i)(h1:i<s.n)(h:s.bB i<s.n)(h2:AU (s.K (s.bB i)) (s.I (s.bB i)) k id):QS.kH (s.n-i.toNat) s i k id=QS.kH (s.n-(s.bB i).toNat) (s.set i (s.K (s.bB i)) (s.I (s.bB i))) (s.bB i) k id:=by
 have hc:i<s.bB i:=by rcases s.ir i with⟨e,_⟩ | ⟨e,_⟩<;>omega
 obtain⟨f,hf⟩:∃ f,s.n-i.toNat=f+1:=⟨s.n-i.toNat-1,og⟩;rw[hf,QS.kH,if_pos ⟨h,h2⟩];exact vX _ _ _ _ _ _ og (by show(s.n:Int)<=_;omega) (by show(s.n:Int)<=_;omega)
def vY{s:QS}{f:Nat}(h:¬(s.bB i<s.n/\AU (s.K (s.bB i)) (s.I (s.bB i)) k id)):QS.kH f s i k id=s.set i k id:=by
 cases f with
 | zero=>rfl
 | succ f=>rw[QS.kH,if_neg h]
def QS.Ok.mid{s:QS}(h:s.Ok)(hh:s.vM){xk xi:Int}(hd:0<=id/\id<64)(hz:¬s.at_ id=0)(hi:s.at_ id-1=i)(hx:s.I ((s.n:Int)-1)=xi)(c:i<(s.n:Int)-1):((s.fi id).set i xk xi).Ok/\(((s.fi id).set i xk xi).down i).Ok/\((s.fi id).set i xk xi).wO (((s.fi id).set i xk xi).down i)/\∃ q:Int,(0<=q/\q<((s.fi id).set i xk xi).n)/\(((s.fi id).set i xk xi).down i).Exc q/\(((s.fi id).set i xk xi).down i).at_ xi-1=q:=by
 obtain⟨a1,a2,a3⟩:=(h.L5 id hd.1 hd.2).resolve_left hz;rw[hi]at a3;have hxr:=h.ng ((s.n:Int)-1) og og;have SP:=h.Jd ((s.n:Int)-1) og og;rw[hx]at hxr SP;have hxd:¬xi=id:=fun e=>by rw[e]at SP;omega
 have tn:((s.fi id).set i xk xi).n=s.n-1:=rfl;have ta:∀ x,((s.fi id).set i xk xi).at_ x=if x=xi then i+1 else if x=id then 0 else s.at_ x:=fun _=>rfl
 have tI:∀ m,((s.fi id).set i xk xi).I m=if m=i then xi else s.I m:=fun _=>rfl
 have tK:∀ m,((s.fi id).set i xk xi).K m=if m=i then xk else s.K m:=fun _=>rfl
 have tq:((s.fi id).set i xk xi).Ok:=by
  refine⟨by rw[tn];have:=h.n64;omega,fun j j0 j1=> ?_,fun j j0 j1=> ?_,fun x x0 x1=> ?_⟩
  ·rw[tn]at j1;rw[tI];split
   ·omega
   ·exact h.ng j j0 og
  ·grind [QS.Ok.Jd]
  grind [QS.Ok.L5]
 have afn:((s.fi id).set i xk xi).Mid i False:=by
  refine⟨fun j j0 j1 jp jb=> ?_,fun i0 j j0 j1 jp=> ?_⟩
  ·grind [QS.L,QS.vM]
  ·rw[tn]at j1;have cj:¬j=i:=og;have cp:¬(i-1)/2=i:=og;unfold QS.L;rw[tK,tK,tI,tI,if_neg cj,if_neg cj,if_neg cp,if_neg cp];have g1:=hh j j0 og;rw[jp]at g1;exact rM g1 (hh i i0 og)
 grind [QS.Ok.sM,QS.Ok.Je,QS.Ok.Jd,QS.wO.n]
def QS.first(s:QS):Int×Int×Bool:=if s.n=0 then(0,0,false)else(s.I 0,s.K 0,true)
theorem Jg{s:QS}(h:¬(id<0\/63<id))(h2:¬s.at_ id=0):s.iD id=(s.K (s.at_ id-1),0):=by grind [QS.iD]
def gH(s:QS)(p:Option Addr)(cap:Nat)(i:Nat):Value:=if i=0 then .slice p s.n cap else if i<65 then iI (s.at_ ((i-1:Nat):Int))else undef
def iu(s:QS)(i:Nat):Value:=if i%2=0 then .int .u64 (s.K ((i/2:Nat):Int))else iI (s.I ((i/2:Nat):Int))
def qI(k i:Int)(j:Nat):Value:=if j=0 then .int .u64 k else if j=1 then iI i else undef
def iG(s:QS)(p:Option Addr)(cap:Nat):0+0<65/\gH s p cap (0+0)= .slice p s.n cap:=⟨og,rfl⟩
def xN(s:QS)(p:Option Addr)(cap:Nat)(z:Int)(h:0<=z/\z<64:=by omega):0+1+z.toNat*1<65/\gH s p cap (0+1+z.toNat*1)=iI (s.at_ z):=by
 grind [gH]
def Fx(s:QS)(p p':Option Addr)(cap cQ n':Nat):0+0<65/\dJ (gH s p cap) (0+0) (.slice p' n' cQ)=gH {s with n:=n'} p' cQ:=by
 grind [dJ,gH]
theorem CM(s:QS)(p:Option Addr)(cap:Nat)(z v:Int)(h:0<=z/\z<64):0+1+z.toNat*1<65/\dJ (gH s p cap) (0+1+z.toNat*1) (iI v)=gH {s with at_:=ad s.at_ z v} p cap:=by
 grind [dJ,gH,ad]
def CN(s:QS)(n:Nat)(z:Int)(h:0<=z/\z<n:=by omega):0+z.toNat*2+0<n*2/\iu s (0+z.toNat*2+0)= .int .u64 (s.K z):=by
 grind [iu]
def X5(s:QS)(n:Nat)(z:Int)(h:0<=z/\z<n):0+z.toNat*2+1<n*2/\iu s (0+z.toNat*2+1)=iI (s.I z):=by
 grind [iu]
def ky(s:QS)(n:Nat)(z:Int)(h:0<=z/\z<n:=by omega):0+z.toNat*2+2<=n*2/\de (iu s) (0+z.toNat*2) 2= .agg #[.int .u64 (s.K z),iI (s.I z)]:=by
 grind [de,List.range,List.range.loop,iu]
def TS(s:QS)(n:Nat)(z k i:Int)(h:0<=z/\z<n):0+z.toNat*2+2<=n*2/\cD (iu s) (0+z.toNat*2) [.int .u64 k,iI i]=iu {s with K:=ad s.K z k,I:=ad s.I z i} :=by
 refine⟨og,?_⟩;funext j;simp only[cD,dJ];grind [iu,ad]
def Qk(s:QS)(k id:Int):∀ i,i<(s.n+1)*2->iu (s.kv k id) i=if i<s.n*2 then iu s i else cellsOf #[.int .u64 k,iI id] (i-s.n*2):=by
 intro i hi;unfold iu QS.kv ad;by_cases h:i<s.n*2
 ·grind
 ·have h3:((i/2:Nat):Int)=s.n:=og;have h4:i-s.n*2=0\/i-s.n*2=1:=og;rcases h4 with h4 | h4
  ·have h5:i%2=0:=og;simp only[if_neg h,if_pos h3,if_pos h5,h4];rfl
  ·have h5:¬i%2=0:=og;simp only[if_neg h,if_pos h3,if_neg h5,h4];rfl
def TT(s:QS)(p p':Option Addr)(cap cQ:Nat)(k id:Int):0+0<65/\dJ (gH s p cap) (0+0) (.slice p' (s.n+1) cQ)=gH (s.kv k id) p' cQ:=Fx s p p' cap cQ (s.n+1)
def TU(s:QS)(p:Option Addr)(cap:Nat)(id:Int)(h:0<=id/\id<64):0+1+id.toNat*1<65/\dJ (gH {s with n:=s.n-1} p cap) (0+1+id.toNat*1) (iI 0)=gH (s.fi id) p cap:=by grind [CM,QS.fi]
def va(k i:Int):0+0<2/\qI k i (0+0)= .int .u64 k:=⟨og,rfl⟩
def xO(k i:Int):0+1<2/\qI k i (0+1)=iI i:=⟨og,rfl⟩
def j7(k i:Int):0+2<=2/\de (qI k i) 0 2= .agg #[.int .u64 k,iI i]:=⟨og,rfl⟩
def zF(k i:Int):∀ j,j<2->cellsOf #[.int .u64 k,iI i] j=qI k i j:=fun j hj=>match j,hj with
 | 0,_=>rfl
 | 1,_=>rfl
 | j+2,h=>absurd h og
def zG(k i:Int):0+2<=2/\cD (cellsOf #[.int .u64 0,iI 0]) 0 [.int .u64 k,iI i]=qI k i:=by
 refine⟨og,?_⟩;funext j;match j with
 | 0=>rfl
 | 1=>rfl
 | j+2=>
  have e1:cD (cellsOf #[.int .u64 0,iI 0]) 0 [.int .u64 k,iI i] (j+2)=undef:=by simp[cD,dJ,cellsOf]
  have e2:qI k i (j+2)=undef:=by simp[qI]
  rw[e1,e2]
def QS.Xf(s:QS):Prop:=∀ j:Int,0<=j->j<s.n->0<=s.I j/\s.I j<64
theorem QS.Xf.set{s:QS}(h:s.Xf){i k id:Int}(hd:0<=id/\id<64):(s.set i k id).Xf:=fun j j0 j1=>by
 show 0<=ad s.I i id j/\ad s.I i id j<64;unfold ad;split
 ·omega
 ·exact h j j0 j1
theorem CO:∀ (f:Nat) (s:QS) (i k id:Int),(QS.kH f s i k id).n=s.n
 | 0,_,_,_,_=>rfl
 | f+1,s,i,k,id=>by
  rw[QS.kH];split
  ·rw[CO f];rfl
  ·rfl
def Ql(s:QS)(i:Int):(s.down i).n=s.n:=CO _ _ _ _ _
theorem QS.qJ{s:QS}(h:id<0\/63<id):s.put id k=(1,s):=by grind [QS.put]
theorem QS.vc{s:QS}(h:¬(id<0\/63<id))(h2:0<s.at_ id):s.put id k=(3,s):=by grind [QS.put]
theorem QS.tL{s:QS}(h:¬(id<0\/63<id))(h2:¬ 0<s.at_ id):s.put id k=(0,(s.kv k id).up s.n):=by grind [QS.put]
theorem rO{s:QS}(h:id<0\/63<id):s.cut id=(0,1,s):=by grind [QS.cut]
theorem AY{s:QS}(h:¬(id<0\/63<id))(h2:s.at_ id=0):s.cut id=(0,2,s):=by grind [QS.cut]
theorem tM{s:QS}(h:¬(id<0\/63<id):=by omega)(h2:¬s.at_ id=0:=by omega):s.cut id=(s.K (s.at_ id-1),0,s.vW id):=by grind [QS.cut]
structure RQ where
 zH:Int->Bool
 iD:Int->Int
def RQ.is(r:RQ)(id:Int):Int:=if id<0\/63<id then 1 else if r.zH id then 0 else 2
def RQ.put(r:RQ)(id k:Int):Int×RQ:=if r.is id=1 then(1,r)else if r.is id=0 then(3,r)else(0,⟨ad r.zH id true,ad r.iD id k⟩)
def RQ.Lu(r:RQ)(id:Int)(cut:Bool):Int×Int×RQ:=if r.is id≠0 then(0,r.is id,r)else(r.iD id,0,if cut then {r with zH:=ad r.zH id false} else r)
theorem RQ.qK{r:RQ}(h:id<0\/63<id):r.is id=1:=by unfold RQ.is;rw[if_pos h]
theorem RQ.xP{r:RQ}(h:¬(id<0\/63<id))(ht:r.zH id=false):r.is id=2:=by grind [RQ.is]
theorem RQ.CP{r:RQ}(h:¬(id<0\/63<id))(ht:r.zH id=true):r.is id=0:=by grind [RQ.is]
theorem RQ.qJ{r:RQ}(k:Int)(h:r.is id=1):r.put id k=(1,r):=by grind [RQ.put]
theorem RQ.vc{r:RQ}(k:Int)(h1:¬r.is id=1)(h:r.is id=0):r.put id k=(3,r):=by grind [RQ.put]
theorem RQ.tL{r:RQ}(k:Int)(h1:¬r.is id=1)(h:¬r.is id=0):r.put id k=(0,⟨ad r.zH id true,ad r.iD id k⟩):=by grind [RQ.put]
theorem TW{r:RQ}(c:Bool)(h:¬r.is id=0):r.Lu id c=(0,r.is id,r):=by grind [RQ.Lu]
theorem RQ.L7{r:RQ}(h:r.is id=0):r.Lu id true=(r.iD id,0,{r with zH:=ad r.zH id false}):=by grind [RQ.Lu]
theorem Fy{r:RQ}(h:r.is id=0):r.Lu id false=(r.iD id,0,r):=by grind [RQ.Lu]
structure mu (s:QS) (r:RQ):Prop where
 ok:s.Ok
 heap:s.vM
 zH:∀ id,0<=id->id<64->(r.zH id=true↔¬s.at_ id=0)
 iD:∀ id,0<=id->id<64->¬s.at_ id=0->r.iD id=s.L6 id
def RQ.du:RQ:=⟨fun _=>false,fun _=>0⟩
theorem mu.du:mu QS.du RQ.du:=⟨QS.Ok.du,G5,fun id _ _=>by
  show(false=true)↔¬(0:Int)=0
  simp,fun id _ _ h=>absurd rfl h⟩
theorem mu.is{s:QS}{r:RQ}(h:mu s r){id:Int}(hd:0<=id/\id<64):r.is id=if s.at_ id=0 then 2 else 0:=by
 grind [mu.zH,RQ.xP,RQ.CP]
theorem mu.put{s:QS}{r:RQ}(h:mu s r)(id k:Int):(s.put id k).1=(r.put id k).1/\mu (s.put id k).2 (r.put id k).2:=by
 by_cases c1:id<0\/63<id
 ·grind [QS.qJ,RQ.qJ,RQ.qK]
 ·have hd:0<=id/\id<64:=og;have wB:=h.is hd;by_cases hz:s.at_ id=0
  ·rw[if_pos hz]at wB;rw[QS.tL c1 og,RQ.tL k og og];obtain⟨r1,r2,r3,r4,r5⟩:=h.ok.abZ h.heap hd hz k;refine⟨rfl,r1,r2,fun m m0 m1=> ?_,fun m m0 m1 mp=> ?_⟩
   ·grind [mu.zH,aj,ae]
   ·show ad r.iD id k m=_;by_cases q:m=id
    ·grind [aj]
    ·have hz2:¬s.at_ m=0:=fun e=>mp ((r4 m m0 m1).1.2 ⟨q,e⟩);rw[ae _ _ q,(r4 m m0 m1).2 q hz2];exact h.iD m m0 m1 hz2
  ·rw[if_neg hz]at wB;have hp:0<s.at_ id:=by rcases h.ok.L5 id hd.1 hd.2 with q | q<;>omega
   grind [QS.vc,RQ.vc]
theorem mu.cut{s:QS}{r:RQ}(h:mu s r)(id:Int):(s.cut id).1=(r.Lu id true).1/\(s.cut id).2.1=(r.Lu id true).2.1/\mu (s.cut id).2.2 (r.Lu id true).2.2:=by
 by_cases c1:id<0\/63<id
 ·grind [RQ.qK,rO,RQ.Lu]
 ·have hd:0<=id/\id<64:=og;have wB:=h.is hd;by_cases hz:s.at_ id=0
  ·grind [AY,RQ.Lu]
  ·rw[if_neg hz]at wB;rw[tM c1 hz,RQ.L7 wB];obtain⟨r1,r2,r3,r4⟩:=h.ok.ab0 h.heap hd hz;refine⟨(h.iD id hd.1 hd.2 hz).symm,rfl,r1,r2,fun m m0 m1=> ?_,fun m m0 m1 mp=> ?_⟩
   ·grind [mu.zH,aj,ae]
   ·show r.iD m=_;have q:¬m=id:=fun e=>mp ((r4 m m0 m1).1.2 (.inl e));have hz2:¬s.at_ m=0:=fun e=>mp ((r4 m m0 m1).1.2 (.inr e));rw[(r4 m m0 m1).2 q hz2];exact h.iD m m0 m1 hz2
theorem mu.ab1{s:QS}{r:RQ}(h:mu s r)(id:Int):(s.iD id).1=(r.Lu id false).1/\(s.iD id).2=(r.Lu id false).2.1/\(r.Lu id false).2.2=r:=by
 by_cases c1:id<0\/63<id
 ·grind [RQ.qK,QS.iD,RQ.Lu]
 ·have hd:0<=id/\id<64:=og;have wB:=h.is hd;by_cases hz:s.at_ id=0
  ·grind [QS.iD,RQ.Lu]
  ·rw[if_neg hz]at wB;rw[Jg c1 hz,Fy wB];exact⟨(h.iD id hd.1 hd.2 hz).symm,rfl,rfl⟩
structure SF where
 aa:Int->Bool
 aD:Int->Int
 wt:Int->Int
 v:Int->Int
 vd:Int->Int
 cO:Int->Bool
 eJ:Int->Int
 vZ:Int->Bool
 dE:Int->Int
 eN:Int->Int
 dL:Int->Int
 hQ:Int
 cv:Int->Bool
structure SC extends SF where
 Q:Int->QS
 P:Int->Option Addr
 C:Int->Nat
namespace SF
def ie(s:SF)(n:Int):Bool:=(List.range 30).any (fun i=>s.cv (i:Int)&&decide (s.aD (i:Int)=n))
def ready(s:SF)(n:Int):Bool:=if 10<=n then s.cO n else s.ie n&& !s.vZ n&&(decide (s.dE n=0)||decide (s.dL n<s.dE n))
def ve(s:SF)(n:Int):SF:= {s with v:=ad s.v n (if s.ready n=true/\s.cv n=false then max (s.v n) (s.eJ (s.aD n))else s.v n),cv:=ad s.cv n (s.ready n)}
def iv:Nat->SF->Int->SF
 | 0,s,_=>s
 | k+1,s,n=>if n<=0 then s else iv k (s.ve n) (s.aD n)
def look(d:Int->Nat)(s:SF)(n:Int):SF:=iv (d n+1) s n
def nM(s:SF)(n:Int):SF:= {s with eJ:=ad s.eJ (s.aD n) (max (s.eJ (s.aD n)) (s.v n)),v:=ad s.v n (s.v n+1048576/s.wt n),vd:=ad s.vd n (s.vd n+1),dL:=if 0<s.dE n then ad s.dL n (s.dL n+1)else s.dL}
def zI(s:SF)(n:Int):SF:= {s.nM n with cv:=ad s.cv n ((s.nM n).ready n)}
def vN:Nat->SF->Int->SF
 | 0,s,_=>s
 | k+1,s,n=>if n<=0 then s else vN k (s.zI n) (s.aD n)
def tN(d:Int->Nat)(s:SF)(n:Int):SF:=if s.aa n=true/\0<s.dE n/\s.hQ%s.eN n=0 then look d {s with dL:=ad s.dL n 0} n else s
def mM(d:Int->Nat)(s:SF):Nat->SF
 | 0=>s
 | k+1=>tN d (mM d s k) ((k:Int)+1)
def nY(s:SF)(g:Int):Nat->Int
 | 0=> -1
 | k+1=>if s.cv (29-(k:Int))=true/\s.aD (29-(k:Int))=g/\(nY s g k<0\/s.v (29-(k:Int))<=s.v (nY s g k))then 29-(k:Int)else nY s g k
def oW(s:SF)(g:Int):Int:=nY s g 29
def Lv(s:SF):Nat->Int->Int
 | 0,at_=>at_
 | k+1,at_=>if 10<=at_ then at_ else if s.oW at_<0 then-1 else Lv s k (s.oW at_)
def G6(d:Int->Nat):Nat->Nat
 | 0=>0
 | k+1=>max (G6 d k) (d (k:Int))
def oX(d:Int->Nat)(s:SF):SF:= {mM d s 9 with hQ:=s.hQ+1}
def dv(d:Int->Nat)(s:SF):Int:=Lv (oX d s) (G6 d 30+1) 0
def kM(d:Int->Nat)(s:SF):Int×SF:=if dv d s<0 then(-1,oX d s)else(dv d s-10,vN (d (dv d s)+1) (oX d s) (dv d s))
def mq(s:SF)(g:Int):RQ:=⟨fun i=>s.cv i&&decide (s.aD i=g),s.v⟩
structure Inv (s:SF) (d:Int->Nat):Prop where
 h0:s.aa 0=true
 up:∀ n,0<n->n<30->s.aa n=true->0<=s.aD n/\s.aD n<10/\s.aa (s.aD n)=true/\d (s.aD n)<d n
 cv:∀ n,s.cv n=true->0<n/\n<30/\s.aa n=true
 quo:∀ n,0<=n->n<30->0<=s.dE n/\(0<s.dE n->1<=s.eN n)
 wt:∀ n,0<=n->n<30->s.aa n=true->1<=s.wt n
def bV(s:SF)(B:Int):Prop:=∀ n,0<=n->n<30->0<=s.v n/\s.v n<=B/\0<=s.eJ n/\s.eJ n<=B/\0<=s.vd n/\s.vd n<=B/\0<=s.dL n/\s.dL n<=B
end SF
def SC.mv(s:SC):Prop:=∀ g,0<=g->g<30->mu (s.Q g) (s.toSF.mq g)
namespace SF
theorem qL(s:SF)(n:Int):s.ie n=true↔∃ i:Int,0<=i/\i<30/\s.cv i=true/\s.aD i=n:=by
 unfold ie;simp only[List.any_eq_true,List.mem_range,Bool.and_eq_true,decide_eq_true_eq];constructor
 ·grind
 ·rintro⟨k,h1,h2,h3,h4⟩;refine⟨k.toNat,og,?_⟩;grind
def rQ(s:SF)(g i:Int):(s.mq g).zH i=true↔s.cv i=true/\s.aD i=g:=by
 grind [mq]
end SF
theorem mu.len{q:QS}{r:RQ}(h:mu q r):0<q.n↔∃ i,0<=i/\i<64/\r.zH i=true:=by
 constructor
 ·intro hn;have hd:=h.ok.ng 0 og og;have ha:=h.ok.Jd 0 og og;exact⟨q.I 0,hd.1,hd.2,(h.zH _ hd.1 hd.2).2 og⟩
 ·rintro⟨i,i0,i1,hi⟩;have:=(h.zH i i0 i1).1 hi;rcases h.ok.L5 i i0 i1 with e | ⟨e1,e2,_⟩;all_goals omega
theorem mu.head{q:QS}{r:RQ}(h:mu q r)(hn:0<q.n):(0<=q.I 0/\q.I 0<64)/\r.zH (q.I 0)=true/\∀ i,0<=i->i<64->r.zH i=true->¬AU (r.iD i) i (r.iD (q.I 0)) (q.I 0):=by
 have hd:=h.ok.ng 0 og og;have ha:=h.ok.Jd 0 og og;have hp:¬q.at_ (q.I 0)=0:=og;have hk:q.L6 (q.I 0)=q.K 0:=by unfold QS.L6;rw[ha];rfl
 refine⟨hd,(h.zH _ hd.1 hd.2).2 hp,fun i i0 i1 hi hl=> ?_⟩;have Lw:=(h.zH i i0 i1).1 hi;rw[h.iD _ hd.1 hd.2 hp,hk,h.iD i i0 i1 Lw]at hl;obtain⟨b1,b2,b3⟩:=(h.ok.L5 i i0 i1).resolve_left Lw;have hl2:=h.heap.aaE (q.at_ i-1).toNat (q.at_ i-1) og og og;unfold QS.L at hl2;rw[b3]at hl2;exact hl2 hl
def mu.ext{q:QS}{r r':RQ}(h:mu q r)(hi:∀ i,0<=i->i<64->r'.zH i=r.zH i)(hk:∀ i,0<=i->i<64->r.zH i=true->r'.iD i=r.iD i):mu q r':=
 ⟨h.ok,h.heap,fun i i0 i1=>by rw[hi i i0 i1];exact h.zH i i0 i1,fun i i0 i1 hp=>by rw[hk i i0 i1 ((h.zH i i0 i1).2 hp)];exact h.iD i i0 i1 hp⟩
theorem iV(C:Nat->Value):∀ (vs:List Value) (i j:Nat),j<i->cD C i vs j=C j
 | [],_,_,_=>rfl
 | v::r,i,j,h=>by
  unfold cD;rw[iV (dJ C i v) r (i+1) j og];simp[dJ];omega
theorem gh:∀ (vs:List Value) (C:Nat->Value) (i j:Nat) (v:Value),vs[j]? =some v->cD C i vs (i+j)=v
 | [],_,_,_,_,h=>by simp at h
 | u::r,C,i,0,v,h=>by
  have h2:u=v:=by simpa using h
  unfold cD;rw[iV _ _ _ _ og,<-h2];simp[dJ]
 | u::r,C,i,j+1,v,h=>by
  unfold cD;have:=gh r (dJ C i u) (i+1) j v (by simpa using h);rw[show i+1+j=i+(j+1)from og]at this;exact this
theorem jA:∀ (vs:List Value) (C:Nat->Value) (i j:Nat),i+vs.length<=j->cD C i vs j=C j
 | [],_,_,_,_=>rfl
 | v::r,C,i,j,h=>by
  simp only[List.length_cons]at h;unfold cD;rw[jA r (dJ C i v) (i+1) j og];simp[dJ];omega
structure aH.U where
 aa:Bool
 aD:Int
 wt:Int
 v:Int
 vd:Int
 cO:Bool
 eJ:Int
 vZ:Bool
 dE:Int
 eN:Int
 dL:Int
 q:QS
 p:Option Addr
 c:Nat
def aH.un(s:SC)(z:Int):aH.U:=⟨s.aa z,s.aD z,s.wt z,s.v z,s.vd z,s.cO z,s.eJ z,s.vZ z,s.dE z,s.eN z,s.dL z,s.Q z,s.P z,s.C z⟩
def aH.cell(u:aH.U)(j:Nat):Value:=
 if j=0 then .bool u.aa else
 if j=1 then iI u.aD else
 if j=2 then iI u.wt else
 if j=3 then .int .u64 u.v else
 if j=4 then iI u.vd else
 if j=5 then .bool u.cO else
 if 6<=j/\j<71 then gH u.q u.p u.c (j-6)else
 if j=71 then .int .u64 u.eJ else
 if j=72 then .bool u.vZ else
 if j=73 then iI u.dE else
 if j=74 then iI u.eN else
 if j=75 then iI u.dL else
 undef
def aH(s:SC)(i:Nat):Value:=
 if i<2280 then aH.cell (aH.un s ((i/76:Nat):Int)) (i%76)else
 if i=2280 then iI s.hQ else
 undef
theorem aH.at_(s:SC)(z:Int)(h:0<=z/\z<30)(j:Nat)(hj:j<76):aH s (0+0+z.toNat*76+j)=aH.cell (aH.un s z) j:=by
 unfold aH;grind
theorem aH.set(s s':SC)(z:Int)(h:0<=z/\z<30)(k:Nat)(hk:k<76)(v:Value)(hv:∀ j,aH.cell (aH.un s' z) j=if j=k then v else aH.cell (aH.un s z) j)(ho:∀ y,¬y=z->aH.un s' y=aH.un s y)(hn:s'.hQ=s.hQ):0+0+z.toNat*76+k<2281/\dJ (aH s) (0+0+z.toNat*76+k) v=aH s':=by
 grind [dJ,aH]
def aH.TX(s s':SC)(z:Int)(h:0<=z/\z<30)(vs:List Value)(hl:vs.length=76)(hv:∀ j,j<76->vs[j]? =some (aH.cell (aH.un s' z) j))(ho:∀ y,¬y=z->aH.un s' y=aH.un s y)(hn:s'.hQ=s.hQ):0+0+z.toNat*76+76<=2281/\cD (aH s) (0+0+z.toNat*76) vs=aH s':=by
 refine⟨og,?_⟩;funext i;by_cases a1:i<0+0+z.toNat*76
 ·rw[iV _ _ _ _ a1];unfold aH;grind
 ·by_cases a2:i<0+0+z.toNat*76+76
  ·obtain⟨j,rfl⟩:∃ j,i=0+0+z.toNat*76+j:=⟨i-(0+0+z.toNat*76),og⟩;rw[aH.at_ s' z h j og];exact gh vs _ _ _ _ (hv j og)
  ·rw[jA _ _ _ _ og];unfold aH;grind
def iW(s:SC)(z:Int)(h:0<=z/\z<30:=by omega):0+0+z.toNat*76+0<2281/\aH s (0+0+z.toNat*76+0)= .bool (s.aa z):=⟨og,aH.at_ s z h 0 og⟩
def eX(s:SC)(z:Int)(h:0<=z/\z<30:=by omega):0+0+z.toNat*76+1<2281/\aH s (0+0+z.toNat*76+1)=iI (s.aD z):=⟨og,aH.at_ s z h 1 og⟩
def zJ(s:SC)(z:Int)(h:0<=z/\z<30)(v:Int):0+0+z.toNat*76+1<2281/\dJ (aH s) (0+0+z.toNat*76+1) (iI v)=aH {s with aD:=ad s.aD z v} :=aH.set s {s with aD:=ad s.aD z v} z h 1 og _ (fun j=>by
 have e:aH.un {s with aD:=ad s.aD z v} z= {aH.un s z with aD:=v} :=by unfold aH.un;simp only[aj]
 rw[e]
 by_cases hj:j=1
 ·subst hj;rfl
 ·unfold aH.cell;simp only[if_neg hj]) (fun y hy=>by unfold aH.un;simp only[ae _ _ hy]) rfl
def zK(s:SC)(z:Int)(h:0<=z/\z<30):0+0+z.toNat*76+2<2281/\aH s (0+0+z.toNat*76+2)=iI (s.wt z):=⟨og,aH.at_ s z h 2 og⟩
def tO(s:SC)(z:Int)(h:0<=z/\z<30:=by omega):0+0+z.toNat*76+3<2281/\aH s (0+0+z.toNat*76+3)= .int .u64 (s.v z):=⟨og,aH.at_ s z h 3 og⟩
def tP(s:SC)(z:Int)(h:0<=z/\z<30)(v:Int):0+0+z.toNat*76+3<2281/\dJ (aH s) (0+0+z.toNat*76+3) (.int .u64 v)=aH {s with v:=ad s.v z v} :=aH.set s {s with v:=ad s.v z v} z h 3 og _ (fun j=>by
 have e:aH.un {s with v:=ad s.v z v} z= {aH.un s z with v:=v} :=by unfold aH.un;simp only[aj]
 rw[e]
 by_cases hj:j=3
 ·subst hj;rfl
 ·unfold aH.cell;simp only[if_neg hj]) (fun y hy=>by unfold aH.un;simp only[ae _ _ hy]) rfl
def EH(s:SC)(z:Int)(h:0<=z/\z<30):0+0+z.toNat*76+4<2281/\aH s (0+0+z.toNat*76+4)=iI (s.vd z):=⟨og,aH.at_ s z h 4 og⟩
def EI(s:SC)(z:Int)(h:0<=z/\z<30)(v:Int):0+0+z.toNat*76+4<2281/\dJ (aH s) (0+0+z.toNat*76+4) (iI v)=aH {s with vd:=ad s.vd z v} :=aH.set s {s with vd:=ad s.vd z v} z h 4 og _ (fun j=>by
 have e:aH.un {s with vd:=ad s.vd z v} z= {aH.un s z with vd:=v} :=by unfold aH.un;simp only[aj]
 rw[e]
 by_cases hj:j=4
 ·subst hj;rfl
 ·unfold aH.cell;simp only[if_neg hj]) (fun y hy=>by unfold aH.un;simp only[ae _ _ hy]) rfl
def sN(s:SC)(z:Int)(h:0<=z/\z<30:=by omega):0+0+z.toNat*76+5<2281/\aH s (0+0+z.toNat*76+5)= .bool (s.cO z):=⟨og,aH.at_ s z h 5 og⟩
def lj(s:SC)(z:Int)(h:0<=z/\z<30)(v:Bool):0+0+z.toNat*76+5<2281/\dJ (aH s) (0+0+z.toNat*76+5) (.bool v)=aH {s with cO:=ad s.cO z v} :=aH.set s {s with cO:=ad s.cO z v} z h 5 og _ (fun j=>by
 have e:aH.un {s with cO:=ad s.cO z v} z= {aH.un s z with cO:=v} :=by unfold aH.un;simp only[aj]
 rw[e]
 by_cases hj:j=5
 ·subst hj;rfl
 ·unfold aH.cell;simp only[if_neg hj]) (fun y hy=>by unfold aH.un;simp only[ae _ _ hy]) rfl
def sO(s:SC)(z:Int)(h:0<=z/\z<30:=by omega):0+0+z.toNat*76+71<2281/\aH s (0+0+z.toNat*76+71)= .int .u64 (s.eJ z):=⟨og,aH.at_ s z h 71 og⟩
def BD(s:SC)(z:Int)(h:0<=z/\z<30)(v:Int):0+0+z.toNat*76+71<2281/\dJ (aH s) (0+0+z.toNat*76+71) (.int .u64 v)=aH {s with eJ:=ad s.eJ z v} :=aH.set s {s with eJ:=ad s.eJ z v} z h 71 og _ (fun j=>by
 have e:aH.un {s with eJ:=ad s.eJ z v} z= {aH.un s z with eJ:=v} :=by unfold aH.un;simp only[aj]
 rw[e]
 by_cases hj:j=71
 ·subst hj;rfl
 ·unfold aH.cell;simp only[if_neg hj]) (fun y hy=>by unfold aH.un;simp only[ae _ _ hy]) rfl
def zL(s:SC)(z:Int)(h:0<=z/\z<30):0+0+z.toNat*76+72<2281/\aH s (0+0+z.toNat*76+72)= .bool (s.vZ z):=⟨og,aH.at_ s z h 72 og⟩
def zM(s:SC)(z:Int)(h:0<=z/\z<30)(v:Bool):0+0+z.toNat*76+72<2281/\dJ (aH s) (0+0+z.toNat*76+72) (.bool v)=aH {s with vZ:=ad s.vZ z v} :=aH.set s {s with vZ:=ad s.vZ z v} z h 72 og _ (fun j=>by
 have e:aH.un {s with vZ:=ad s.vZ z v} z= {aH.un s z with vZ:=v} :=by unfold aH.un;simp only[aj]
 rw[e]
 by_cases hj:j=72
 ·subst hj;rfl
 ·unfold aH.cell;simp only[if_neg hj]) (fun y hy=>by unfold aH.un;simp only[ae _ _ hy]) rfl
def ll(s:SC)(z:Int)(h:0<=z/\z<30:=by omega):0+0+z.toNat*76+73<2281/\aH s (0+0+z.toNat*76+73)=iI (s.dE z):=⟨og,aH.at_ s z h 73 og⟩
def BE(s:SC)(z:Int)(h:0<=z/\z<30)(v:Int):0+0+z.toNat*76+73<2281/\dJ (aH s) (0+0+z.toNat*76+73) (iI v)=aH {s with dE:=ad s.dE z v} :=aH.set s {s with dE:=ad s.dE z v} z h 73 og _ (fun j=>by
 have e:aH.un {s with dE:=ad s.dE z v} z= {aH.un s z with dE:=v} :=by unfold aH.un;simp only[aj]
 rw[e]
 by_cases hj:j=73
 ·subst hj;rfl
 ·unfold aH.cell;simp only[if_neg hj]) (fun y hy=>by unfold aH.un;simp only[ae _ _ hy]) rfl
def zN(s:SC)(z:Int)(h:0<=z/\z<30):0+0+z.toNat*76+74<2281/\aH s (0+0+z.toNat*76+74)=iI (s.eN z):=⟨og,aH.at_ s z h 74 og⟩
def zO(s:SC)(z:Int)(h:0<=z/\z<30)(v:Int):0+0+z.toNat*76+74<2281/\dJ (aH s) (0+0+z.toNat*76+74) (iI v)=aH {s with eN:=ad s.eN z v} :=aH.set s {s with eN:=ad s.eN z v} z h 74 og _ (fun j=>by
 have e:aH.un {s with eN:=ad s.eN z v} z= {aH.un s z with eN:=v} :=by unfold aH.un;simp only[aj]
 rw[e]
 by_cases hj:j=74
 ·subst hj;rfl
 ·unfold aH.cell;simp only[if_neg hj]) (fun y hy=>by unfold aH.un;simp only[ae _ _ hy]) rfl
def tQ(s:SC)(z:Int)(h:0<=z/\z<30:=by omega):0+0+z.toNat*76+75<2281/\aH s (0+0+z.toNat*76+75)=iI (s.dL z):=⟨og,aH.at_ s z h 75 og⟩
def oY(s:SC)(z:Int)(h:0<=z/\z<30)(v:Int):0+0+z.toNat*76+75<2281/\dJ (aH s) (0+0+z.toNat*76+75) (iI v)=aH {s with dL:=ad s.dL z v} :=aH.set s {s with dL:=ad s.dL z v} z h 75 og _ (fun j=>by
 have e:aH.un {s with dL:=ad s.dL z v} z= {aH.un s z with dL:=v} :=by unfold aH.un;simp only[aj]
 rw[e]
 by_cases hj:j=75
 ·subst hj;rfl
 ·unfold aH.cell;simp only[if_neg hj]) (fun y hy=>by unfold aH.un;simp only[ae _ _ hy]) rfl
def AZ(s:SC):0+2280<2281/\aH s (0+2280)=iI s.hQ:=by grind [aH]
def Jh(s:SC)(v:Int):0+2280<2281/\dJ (aH s) (0+2280) (iI v)=aH {s with hQ:=v} :=by
 refine⟨og,?_⟩;funext i;unfold dJ aH;by_cases hi:i=0+2280
 ·simp_all
 ·rw[if_neg hi];by_cases c1:i<2280
  ·rw[if_pos c1,if_pos c1];rfl
  grind
def ck:Nat->Bool:=fun i=>Nat.blt i 30
def SC.dg(e:TypeId)(s:SC):Nat->pZ:=fun i=>⟨.slice (s.P (i:Int)) (s.Q (i:Int)).n (s.C (i:Int)),e,2,(s.Q (i:Int)).n,bZ (iu (s.Q (i:Int))) ((s.Q (i:Int)).n*2)⟩
abbrev iO(z:Int):Nat:=0+0+z.toNat*76+6
theorem TY(s:SC)(h:0<=z/\z<30){i:Nat}(hi:i<65):aH s (iO z+i)=gH (s.Q z) (s.P z) (s.C z) i:=by
 have e:=aH.at_ s z h (6+i) og;rw[show iO z+i=0+0+z.toNat*76+(6+i)from by unfold iO;omega,e];unfold aH.cell;rw[if_neg og,if_neg og,if_neg og,if_neg og,if_neg og,if_neg og,if_pos og,show 6+i-6=i from og];rfl
section
variable {W w:World} {S:Nat->Nat->Prop} {H F:List aF}
def XM.BW{b o n:Nat}{C C':Nat->Value}(hC:∀ i,i<n->C i=C' i)(h:XM W S (.cells b o n C::H) w):XM W S (.cells b o n C'::H) w:=by
 obtain⟨⟨hh,pK⟩,hk,hm⟩:=h;rw[List.pairwise_cons]at pK;refine⟨⟨fun e he=> ?_,List.pairwise_cons.2 ⟨pK.1,pK.2⟩⟩,hk,fun e he=> ?_⟩
 ·rcases List.mem_cons.1 he with rfl | he
  ·obtain⟨A,t,lo,hi,h1,h2⟩:=hh (.cells b o n C) sq;exact⟨A,t,lo,hi,h1,fun i P7=>by rw[<-hC i P7];exact h2 i P7⟩
  simp_all
 ·rcases List.mem_cons.1 he with rfl | he
  ·exact hm (.cells b o n C) sq
  grind
def nx{b o:Nat}{e:TypeId}{s:SC}(hz:0<=z/\z<30)(hp:cG H [.cells b o 2281 (aH s),.aW ck (s.dg e)] F)(h:XM W S H w):XM W S (.cells b (o+iO z) 65 (gH (s.Q z) (s.P z) (s.C z))::aM (s.P z) (s.C z) e 2 (s.Q z).n (iu (s.Q z)):: .cells b o (iO z) (aH s):: .cells b (o+iO z+65) (2281-iO z-65) (fun i=>aH s (iO z+65+i)):: .aW (ji ck z.toNat) (s.dg e)::F) w:=by
 have L8:iO z+65<=2281:=by unfold iO;omega
 have h1:=h.b8 hp.b8;have h2:=XM.part (n:=2281) (off:=iO z) (m:=65) L8 h1;have h3:=XM.BW (C':=gH (s.Q z) (s.P z) (s.C z)) (fun i hi=>TY s hz hi) h2;have h4:=h3.b8 (H':=.aW ck (s.dg e):: .cells b (o+iO z) 65 (gH (s.Q z) (s.P z) (s.C z)):: .cells b o (iO z) (aH s):: .cells b (o+iO z+65) (2281-iO z-65) (fun i=>aH s (iO z+65+i))::F)
  (nr.b8 (.ao (.ao (.ao .aa))))
 have h5:=oC z.toNat (by show Nat.blt z.toNat 30=true;simp;omega) h4;have e1:(s.dg e z.toNat).Cx=aM (s.P z) (s.C z) e 2 (s.Q z).n (iu (s.Q z)):=by
  grind [SC.dg]
 rw[e1]at h5;exact h5.b8 (cG.b8 (E:=[_,_,_,_,_]) (F:=F) (pk [2,0,1,1,0]))
theorem TZ(s:SC)(z:Int)(q:QS)(p:Option Addr)(c:Nat)(h:0<=z/\z<30)(i:Nat)(hi:i<iO z\/iO z+65<=i):aH {s with Q:=ad s.Q z q,P:=ad s.P z p,C:=ad s.C z c} i=aH s i:=by
 unfold aH;refine ij (fun c1=> ?_) fun _=>rfl;by_cases cz:((i/76:Nat):Int)=z
 ·have hj:¬(6<=i%76/\i%76<71):=by unfold iO at hi;omega
  rw[cz];unfold aH.cell;simp only[if_neg hj];rfl
 grind [aH.un,ad]
def qM{b o:Nat}{e:TypeId}{s:SC}{q:QS}{p:Option Addr}{c:Nat}(hz:0<=z/\z<30)(hp:cG H [.cells b (o+iO z) 65 (gH q p c),aM p c e 2 q.n (iu q),.cells b o (iO z) (aH s),.cells b (o+iO z+65) (2281-iO z-65) fun i=>aH s (iO z+65+i),.aW (ji ck z.toNat) (s.dg e)] F)(h:XM W S H w):XM W S (.cells b o 2281 (aH {s with Q:=ad s.Q z q,P:=ad s.P z p,C:=ad s.C z c}):: .aW ck (SC.dg e {s with Q:=ad s.Q z q,P:=ad s.P z p,C:=ad s.C z c})::F) w:=by
 have L8:iO z+65<=2281:=by unfold iO;omega
 have h1:=(h.b8 hp.b8).b8 (cG.b8 (E:=[aM p c e 2 q.n (iu q),.aW (ji ck z.toNat) (s.dg e),.cells b (o+iO z) 65 (gH q p c),.cells b o (iO z) (aH s),.cells b (o+iO z+65) (2281-iO z-65) fun i=>aH s (iO z+65+i)]) (F:=F)
  (pk [1,3,0,0,0]))
 have h2:=qy (x:=⟨.slice p q.n c,e,2,q.n,bZ (iu q) (q.n*2)⟩) z.toNat (uY _ _) h1;rw[Fo (show ck z.toNat=true by show Nat.blt z.toNat 30=true;simp;omega)]at h2;have e1:BA (s.dg e) z.toNat ⟨.slice p q.n c,e,2,q.n,bZ (iu q) (q.n*2)⟩=SC.dg e {s with Q:=ad s.Q z q,P:=ad s.P z p,C:=ad s.C z c} :=by
  grind [nf,SC.dg,lT,ad]
 rw[e1]at h2;have h3:=h2.b8 (cG.b8 (E:=[.cells b (o+iO z) 65 (gH q p c),.cells b o (iO z) (aH s),.cells b (o+iO z+65) (2281-iO z-65) fun i=>aH s (iO z+65+i),.aW ck (SC.dg e {s with Q:=ad s.Q z q,P:=ad s.P z p,C:=ad s.C z c})]) (F:=F)
  (pk [1,1,1,0]))
 refine XM.wL (n:=2281) (off:=iO z) (m:=65) L8 (fun i hi=> ?_) (fun i hi=> ?_) (fun i hi=> ?_) h3 og;all_goals grind [TZ,TY,aj]
def rS{b o:Nat}{e:TypeId}{s:SC}(hz:0<=z/\z<30)(hp:cG H [.cells b (o+iO z) 65 (gH (s.Q z) (s.P z) (s.C z)),aM (s.P z) (s.C z) e 2 (s.Q z).n (iu (s.Q z)),.cells b o (iO z) (aH s),.cells b (o+iO z+65) (2281-iO z-65) fun i=>aH s (iO z+65+i),.aW (ji ck z.toNat) (s.dg e)] F)(h:XM W S H w):XM W S (.cells b o 2281 (aH s):: .aW ck (s.dg e)::F) w:=by
 have h1:=qM hz hp h;simp_all[cJ]
theorem XM.newRow{e:TypeId}{s:SC}(hz:0<=z/\z<30)(hp:cG H [.aW ck (s.dg e)] F)(h:XM W S H w):XM W S (.aW ck (SC.dg e {s with Q:=ad s.Q z QS.du,P:=ad s.P z none,C:=ad s.C z 0})::F) w:=by
 have h1:=oC z.toNat (by show Nat.blt z.toNat 30=true;simp;omega) (h.b8 hp.b8);have h2:=XM.pick (E:=.aW (ji ck z.toNat) (s.dg e)::F) (F:=[(s.dg e z.toNat).Cx]) (by
  have hq:∀ (x:aF) (L:List aF),cG (x::L) L [x]:=fun x L=>by
   induction L with
   | nil=>exact .nil
   | cons y r ih=>exact .cons (.ao .aa) ih
  exact hq _ _) h1
 have h3:=h2.fF e 2;have h4:=qy (x:=⟨.slice none 0 0,e,2,0,[]⟩) z.toNat (uY _ _) h3;rw[Fo (show ck z.toNat=true by show Nat.blt z.toNat 30=true;simp;omega)]at h4;have e1:BA (s.dg e) z.toNat ⟨.slice none 0 0,e,2,0,[]⟩=SC.dg e {s with Q:=ad s.Q z QS.du,P:=ad s.P z none,C:=ad s.C z 0} :=by
  funext i;by_cases hi:i=z.toNat
  ·subst hi;rw[nf];unfold SC.dg;simp only[show((z.toNat:Nat):Int)=z from og,aj];rfl
  ·rw[lT _ _ hi];have P7:¬(i:Int)=z:=og;unfold SC.dg;simp only[ae _ _ P7]
 rw[e1]at h4;exact h4
end
theorem SC.mv.ie{s:SC}(h:s.mv)(hw:∀ i,s.cv i=true->0<i/\i<30){n:Int}(h0:0<=n)(h1:n<30):s.toSF.ie n=decide (0<(s.Q n).n):=by
 rw[Bool.eq_iff_iff,SF.qL,decide_eq_true_eq,(h n h0 h1).len];constructor
 ·rintro⟨i,i0,i1,i2,i3⟩;exact⟨i,i0,og,(SF.rQ _ _ _).2 ⟨i2,i3⟩⟩
 ·rintro⟨i,i0,i1,i2⟩;obtain⟨a,b⟩:=(SF.rQ _ _ _).1 i2;grind
namespace SF
def vO(s:SF)(n:Int):Int:=if n<0\/10<=n then 1 else if s.aa n=true then 0 else 2
def xQ(s:SF)(n:Int):Int:=if n<0\/20<=n then 1 else if s.aa (10+n)=true then 0 else 2
def G7(s:SF)(n:Int):0<=s.vO n:=by unfold vO;split<;>(try split)<;>omega
def ab3(s:SF)(n:Int):0<=s.xQ n:=by unfold xQ;split<;>(try split)<;>omega
theorem mN(k:Nat)(s:SF)(h:n<=0:=by omega):iv k s n=s:=by
 cases k with
 | zero=>rfl
 | succ k=>show(if n<=0 then s else _)=s;rw[if_pos h]
theorem oZ(k:Nat)(s:SF)(h:0<n):iv (k+1) s n=iv k (s.ve n) (s.aD n):=by
 grind [iv]
def Inv.ve{s:SF}{d:Int->Nat}(h:s.Inv d){n:Int}(h0:0<n)(h1:n<30)(h2:s.aa n=true):(s.ve n).Inv d:=by
 refine⟨h.h0,h.up,fun i hi=> ?_,h.quo,h.wt⟩;have e:(s.ve n).cv i=ad s.cv n (s.ready n) i:=rfl;rw[e]at hi;by_cases c:i=n
 ·subst c;exact⟨h0,h1,h2⟩
 ·rw[ae _ _ c]at hi;exact h.cv i hi
end SF
theorem SC.mv.enter{s:SC}(h:s.mv)(hn:0<=n/\n<30)(hg:0<=s.aD n/\s.aD n<30)(hw:s.cv n=false)(t:SF)(ht:t.cv=ad s.cv n true)(hv:∀ i,¬i=n->t.v i=s.v i)(hp:t.aD=s.aD)(iD:Int)(ah9:t.v n=iD)(P:Int->Option Addr)(C:Int->Nat):SC.mv ⟨t,ad s.Q (s.aD n) ((s.Q (s.aD n)).put n iD).2,P,C⟩:=fun g g0 g1=>by
 subst ah9;show mu (ad s.Q (s.aD n) _ g) (t.mq g);unfold SF.mq;rw[ht,hp];by_cases c:g=s.aD n
 ·subst c;rw[aj];have wB:(s.toSF.mq (s.aD n)).is n=2:=RQ.xP og (by show(s.cv n&&_)=false;rw[hw];rfl);have h1:=((h _ g0 g1).put n (t.v n)).2;rw[RQ.tL _ og og]at h1;refine h1.ext (fun i _ _=> ?_) fun i _ _ _=> ?_
  ·show(ad s.cv n true i&&decide (s.aD i=s.aD n))=ad (fun i=>s.cv i&&decide (s.aD i=s.aD n)) n true i;grind [ad]
  ·show t.v i=ad s.v n (t.v n) i;grind [ad]
 ·rw[ae _ _ c];refine(h g g0 g1).ext (fun i _ _=> ?_) fun i _ _ hi=> ?_
  ·show(ad s.cv n true i&&decide (s.aD i=g))=(s.cv i&&decide (s.aD i=g));grind [ad]
  ·have ci:¬i=n:=fun e=>by
    subst e;have:=((SF.rQ _ _ _).1 hi).1;simp_all
   exact hv i ci
theorem SC.mv.gw{s:SC}(h:s.mv)(hn:0<=n/\n<30)(hg:0<=s.aD n/\s.aD n<30)(hw:s.cv n=true)(t:SF)(ht:t.cv=ad s.cv n false)(hv:∀ i,¬i=n->t.v i=s.v i)(hp:t.aD=s.aD)(P:Int->Option Addr)(C:Int->Nat):SC.mv ⟨t,ad s.Q (s.aD n) ((s.Q (s.aD n)).cut n).2.2,P,C⟩:=fun g g0 g1=>by
 show mu (ad s.Q (s.aD n) _ g) (t.mq g);unfold SF.mq;rw[ht,hp];by_cases c:g=s.aD n
 ·subst c;rw[aj];have wB:(s.toSF.mq (s.aD n)).is n=0:=RQ.CP og (by show(s.cv n&&_)=true;rw[hw];simp);have h1:=((h _ g0 g1).cut n).2.2;rw[RQ.L7 wB]at h1;refine h1.ext (fun i _ _=> ?_) fun i _ _ hi=> ?_
  ·show(ad s.cv n false i&&decide (s.aD i=s.aD n))=ad (fun i=>s.cv i&&decide (s.aD i=s.aD n)) n false i;grind [ad]
  ·have ci:¬i=n:=fun e=>by
    grind [aj]
   exact hv i ci
 ·rw[ae _ _ c];refine(h g g0 g1).ext (fun i _ _=> ?_) fun i _ _ hi=> ?_
  ·show(ad s.cv n false i&&decide (s.aD i=g))=(s.cv i&&decide (s.aD i=g));grind [ad]
  ·have ci:¬i=n:=fun e=>by
    subst e;exact c ((SF.rQ _ _ _).1 hi).2.symm
   exact hv i ci
theorem SC.mv.bU{s:SC}(h:s.mv)(hn:0<=n/\n<30)(hg:0<=s.aD n/\s.aD n<30):((s.Q (s.aD n)).iD n).2=if s.cv n=true then 0 else 2:=by
 rw[((h _ hg.1 hg.2).ab1 n).2.1];by_cases c:s.cv n=true
 ·rw[if_pos c,Fy (RQ.CP og (by show(s.cv n&&_)=true;rw[c];simp))]
 ·have wB:(s.toSF.mq (s.aD n)).is n=2:=RQ.xP og (by
   show(s.cv n&&_)=false
   cases q:s.cv n with
   | true=>exact absurd q c
   | false=>rfl)
  rw[if_neg c,TW false og];exact wB
def SC.mv.aia{s:SC}(h:s.mv)(hn:0<=n/\n<30)(hg:0<=s.aD n/\s.aD n<30)(hw:s.cv n=true):((s.Q (s.aD n)).cut n).1=s.v n/\((s.Q (s.aD n)).cut n).2.1=0:=by
 obtain⟨h1,h2,_⟩:=(h _ hg.1 hg.2).cut n;rw[RQ.L7 (RQ.CP og (by show(s.cv n&&_)=true;rw[hw];simp))]at h1 h2;exact⟨h1,h2⟩
theorem A1{s:SF}(h:s.ready n=s.cv n):s.ve n=s:=by
 unfold SF.ve;grind [cJ,SF]
theorem SF.zP{s:SF}(hp:s.aD n≠n)(w:Bool):SF.ready {s with cv:=ad s.cv n w} n=s.ready n:=by
 have hk:SF.ie {s with cv:=ad s.cv n w} n=s.ie n:=by
  rw[Bool.eq_iff_iff,SF.qL,SF.qL];grind [ae]
 unfold SF.ready;rw[hk]
def Qm(s:SC)(z v:Int)(h:0<=z/\z<30):0+0+z.toNat*76+3<2281/\aH {s with v:=ad s.v z v} (0+0+z.toNat*76+3)= .int .u64 v:=by
 have:=tO {s with v:=ad s.v z v} z h;grind [aj]
def Oe{W w:World}{S:Nat->Nat->Prop}{H F:List aF}{b o:Nat}{e:TypeId}{s:SC}(ws:Int->Bool)(hp:cG H [.cells b o 2281 (aH s),.aW ck (s.dg e)] F)(h:XM W S H w):
  XM W S (.cells b o 2281 (aH {s with cv:=ws}):: .aW ck (SC.dg e {s with cv:=ws})::F) w:=h.b8 hp.b8
end Go.X.Fa

namespace Go.X.Fa
open Go Go.X
variable{a g n:Int}{d:Int->Nat}
namespace SF
def p9(s:SF)(n p w:Int)(h:Bool):SF:=⟨ad s.aa n h,ad s.aD n p,ad s.wt n w,ad s.v n 0,ad s.vd n 0,ad s.cO n false,ad s.eJ n 0,ad s.vZ n false,ad s.dE n 0,ad s.eN n 0,ad s.dL n 0,s.hQ,ad s.cv n false⟩
def lU(s:SF)(n p w:Int):Int:=if n<0\/10<=n\/w<1\/1000<w then 1 else if s.aa n=true then 3 else s.vO p
def lV(s:SF)(n p w:Int):Int:=if n<0\/20<=n\/w<1\/1000<w then 1 else if s.aa (10+n)=true then 3 else s.vO p
def s5(s:SF)(n p w:Int):SF:=if s.lU n p w=0 then s.p9 n p w true else s
def s8(s:SF)(n p w:Int):SF:=if s.lV n p w=0 then s.p9 (10+n) p w true else s
def T1(s:SF)(n:Int):Bool:=(List.range 30).any (fun i=>s.aa (i:Int)&&decide (s.aD (i:Int)=n))
def nN(s:SF)(n:Int):Int:=if s.vO n≠0 then s.vO n else if n=0\/s.T1 n=true then 5 else 0
def o3(s:SF)(n:Int):SF:=if s.nN n=0 then s.p9 n 0 0 false else s
def gq(d:Int->Nat)(s:SF)(n:Int)(on:Bool):SF:=if s.xQ n=0 then look d {s with cO:=ad s.cO (10+n) on} (10+n)else s
def EJ(s:SF)(n:Int):Int:=if s.vO n≠0 then s.vO n else if n=0 then 8 else 0
def freeze(d:Int->Nat)(s:SF)(n:Int)(on:Bool):SF:=if s.EJ n=0 then look d {s with vZ:=ad s.vZ n on} n else s
def s9(s:SF)(n q p:Int):Int:=if s.vO n≠0 then s.vO n else if n=0 then 8 else if q<0\/p<1\/100<p\/p<q then 1 else 0
def ab4(s:SF)(n q p:Int):SF:= {s with dE:=ad s.dE n q,eN:=ad s.eN n p,dL:=ad s.dL n 0}
def xT(d:Int->Nat)(s:SF)(n q p:Int):SF:=if s.s9 n q p=0 then look d (s.ab4 n q p) n else s
def wb(d:Int->Nat)(s:SF)(n:Int):SF:=if s.xQ n=0 then(s.gq d n false).p9 (10+n) 0 0 false else s
def eK(s:SF)(n g:Int):Int:=if s.xQ n≠0 then s.xQ n else s.vO g
def mv1(d:Int->Nat)(s:SF)(n g:Int):SF:= {s.gq d n false with aD:=ad (s.gq d n false).aD (10+n) g,v:=ad (s.gq d n false).v (10+n) 0,cO:=ad (s.gq d n false).cO (10+n) (s.cO (10+n))}
def move(d:Int->Nat)(s:SF)(n g:Int):SF:=if s.eK n g=0 then look (ad d (10+n) (d g+1)) (mv1 d s n g) (10+n)else s
theorem Fz(s:SF)(n:Int):s.T1 n=true↔∃ i:Int,0<=i/\i<30/\s.aa i=true/\s.aD i=n:=by
 unfold T1;simp only[List.any_eq_true,List.mem_range,Bool.and_eq_true,decide_eq_true_eq];constructor
 ·grind
 ·rintro⟨k,h1,h2,h3,h4⟩;refine⟨k.toNat,og,?_⟩;grind
def Of{s:SF}{k:Int}(h0:0<=k)(h1:k<30)(h2:s.aa k=true)(h3:s.aD k=n):s.T1 n=true:=(s.Fz n).2 ⟨k,h0,h1,h2,h3⟩
def X6{s:SF}(h:∀ j:Int,0<=j->j<30->¬(s.aa j=true/\s.aD j=n)):s.T1 n=false:=by
 grind [Fz]
def FA{s:SF}(h:s.vO n=0):0<=n/\n<10/\s.aa n=true:=by
 grind [vO]
def T2{s:SF}(h:s.xQ n=0):0<=n/\n<20/\s.aa (10+n)=true:=by
 grind [xQ]
theorem ab5{s:SF}(h0:0<=n)(h1:n<20)(h2:s.aa (10+n)=true):s.xQ n=0:=by grind [xQ]
def j8:∀ (k:Nat) (s:SF) (n:Int),(iv k s n).aa=s.aa/\(iv k s n).aD=s.aD/\(iv k s n).wt=s.wt/\(iv k s n).vd=s.vd/\(iv k s n).cO=s.cO/\(iv k s n).eJ=s.eJ/\(iv k s n).vZ=s.vZ/\(iv k s n).dE=s.dE/\(iv k s n).eN=s.eN/\(iv k s n).dL=s.dL/\(iv k s n).hQ=s.hQ
 | 0,s,n=>⟨rfl,rfl,rfl,rfl,rfl,rfl,rfl,rfl,rfl,rfl,rfl⟩
 | k+1,s,n=>by
  by_cases h:n<=0
  ·rw[mN _ _ h];exact⟨rfl,rfl,rfl,rfl,rfl,rfl,rfl,rfl,rfl,rfl,rfl⟩
  ·rw[oZ _ _ og];exact j8 k (s.ve n) (s.aD n)
def FB{d:Int->Nat} :∀ (k:Nat) (s:SF) (n:Int),s.Inv d->(n=0\/(0<n/\n<30/\s.aa n=true))->(iv k s n).Inv d
 | 0,s,n,h,_=>h
 | k+1,s,n,h,hn=>by
  rcases hn with rfl | ⟨n0,n1,n2⟩
  ·rw[mN _ _];exact h
  ·rw[oZ _ _ n0];obtain⟨p0,p1,p2,_⟩:=h.up n n0 n1 n2;apply FB k (s.ve n) (s.aD n) (h.ve n0 n1 n2);by_cases c:s.aD n=0
   ·exact .inl c
   ·exact .inr ⟨og,og,p2⟩
def nh(s:SF):Prop:=∀ n,0<n->n<30->s.aa n=true->s.cv n=s.ready n
end SF
def lW(u:aH.U):Array Value:=((List.range 76).map (aH.cell u)).toArray
abbrev wQ(h:Bool)(p w:Int):aH.U:=⟨h,p,w,0,0,false,0,false,0,0,0,QS.du,none,0⟩
def ln{c:Prop}[Decidable c]{a b:Value}(h1:c->one a=true)(h2:¬c->one b=true):one (if c then a else b)=true:=by
 grind
def T3(s:QS)(p:Option Addr)(c i:Nat)(hi:i<65):one (gH s p c i)=true:=by grind [one,gH]
theorem T4(u:aH.U)(j:Nat)(hj:j<76):one (aH.cell u j)=true:=
 ln (fun _=>rfl) fun _=>ln (fun _=>rfl) fun _=>ln (fun _=>rfl) fun _=>ln (fun _=>rfl) fun _=>ln (fun _=>rfl) fun _=>ln (fun _=>rfl) fun _=>ln (fun c=>T3 _ _ _ _ og) fun _=>ln (fun _=>rfl) fun _=>ln (fun _=>rfl) fun _=>ln (fun _=>rfl) fun _=>ln (fun _=>rfl) fun _=>ln (fun _=>rfl) fun _=>by exact absurd hj og
def o4(u:aH.U):(lW u).toList.all one=true/\(lW u).size=76:=by
 grind [lW,T4]
def tS(s:SC)(z p w:Int)(h:Bool)(hz:0<=z/\z<30:=by omega):0+0+z.toNat*76+76<=2281/\cD (aH s) (0+0+z.toNat*76) (lW (wQ h p w)).toList=aH ⟨s.toSF.p9 z p w h,ad s.Q z QS.du,ad s.P z none,ad s.C z 0⟩:=
 aH.TX s ⟨s.toSF.p9 z p w h,ad s.Q z QS.du,ad s.P z none,ad s.C z 0⟩ z hz _ (by simp[lW]) (fun j hj=>by
  have e:aH.un ⟨s.toSF.p9 z p w h,ad s.Q z QS.du,ad s.P z none,ad s.C z 0⟩ z=wQ h p w:=by
   unfold aH.un SF.p9
   simp only[aj]
  rw[e]
  simp[lW,hj]) (fun y hy=>by
  unfold aH.un SF.p9
  simp only[ae _ _ hy]) rfl
def SC.mv.new{s:SC}(h:s.mv){z:Int}(hw:s.cv z=false)(hk:∀ i,s.cv i=true->s.aD i≠z)(p w:Int)(hh:Bool):SC.mv ⟨s.toSF.p9 z p w hh,ad s.Q z QS.du,ad s.P z none,ad s.C z 0⟩:=fun g g0 g1=>by
 show mu (ad s.Q z QS.du g) ((s.toSF.p9 z p w hh).mq g);by_cases c:g=z
 ·subst c;rw[aj];refine mu.du.ext (fun i _ _=> ?_) fun i _ _ hi=>by cases hi
  show(ad s.cv g false i&&decide (ad s.aD g p i=g))=false;grind [ad]
 ·rw[ae _ _ c];refine(h g g0 g1).ext (fun i _ _=> ?_) fun i _ _ hi=> ?_
  ·show(ad s.cv z false i&&decide (ad s.aD z p i=g))=(s.cv i&&decide (s.aD i=g));grind [ad]
  ·show ad s.v z 0 i=s.v i;have ci:¬i=z:=fun e=>by
    subst e;have:=((SF.rQ _ _ _).1 hi).1;simp_all
   grind [ad]
def SF.du:SF:=⟨fun _=>false,fun _=>0,fun _=>0,fun _=>0,fun _=>0,fun _=>false,fun _=>0,fun _=>false,fun _=>0,fun _=>0,fun _=>0,0,fun _=>false⟩
def SC.du:SC:=⟨SF.du,fun _=>QS.du,fun _=>none,fun _=>0⟩
def T5:Array Value:=((List.range 2281).map (aH SC.du)).toArray
def Qn:T5.size=2281:=by simp[T5]
def T6:∀ i,i<2281->cellsOf T5 i=aH SC.du i:=fun i hi=>by simp[cellsOf,T5,hi]
def SF.cC:SF:=SF.du.p9 0 (-1) 1 true
theorem SC.mv.du:SC.du.mv:=fun g _ _=>mu.du.ext (fun i _ _=>rfl) fun i _ _ hi=>by cases hi
namespace SF
def FD{d:Int->Nat} :∀ (k:Nat) (s:SF) (n:Int),s.Inv d->(n=0\/(0<n/\n<30/\s.aa n=true))->∀ i,(n=0\/d n<d i)->(iv k s n).cv i=s.cv i/\(iv k s n).v i=s.v i
 | 0,s,n,_,_,i,_=>⟨rfl,rfl⟩
 | k+1,s,n,h,hn,i,hi=>by
  rcases hn with rfl | ⟨n0,n1,n2⟩
  ·rw[mN _ _];exact⟨rfl,rfl⟩
  ·rw[oZ _ _ n0];obtain⟨p0,p1,p2,p3⟩:=h.up n n0 n1 n2;have hd:d n<d i:=by
    rcases hi with q | q
    ·omega
    ·exact q
   have vV:¬i=n:=fun e=>by subst e;omega
   have ih:=FD k (s.ve n) (s.aD n) (h.ve n0 n1 n2) (by
    by_cases c:s.aD n=0
    ·exact .inl c
    ·exact .inr ⟨og,og,p2⟩) i (.inr og)
   have e1:(s.ve n).cv i=s.cv i:=ae _ _ vV;have e2:(s.ve n).v i=s.v i:=ae _ _ vV;rw[ih.1,ih.2,e1,e2];exact⟨rfl,rfl⟩
theorem G8{s:SF}(h:s.Inv d)(n0:0<n)(n1:n<30)(n2:s.aa n=true):(look d s n).cv n=s.ready n:=by
 unfold look;rw[oZ _ _ n0];obtain⟨p0,p1,p2,p3⟩:=h.up n n0 n1 n2;have e:=(FD (d n) (s.ve n) (s.aD n) (h.ve n0 n1 n2) (by
  by_cases c:s.aD n=0
  ·omega
  ·exact .inr ⟨og,og,p2⟩) n (.inr p3)).1
 rw[e];exact aj _ _ _
def tT{s:SF}(h:s.Inv d)(hn:n=0\/(0<n/\n<30/\s.aa n=true)):(look d s n).Inv d:=FB _ _ _ h hn
def mO(d:Int->Nat)(s:SF)(n:Int):(look d s n).aa=s.aa:=(j8 _ _ _).1
def Ji(d:Int->Nat)(s:SF)(n:Int):(look d s n).aD=s.aD:=(j8 _ _ _).2.1
def IsB(s:SF)(g b:Int):Prop:=s.cv b=true/\s.aD b=g/\∀ i,s.cv i=true->s.aD i=g->¬AU (s.v i) i (s.v b) b
def IsB.aic{s:SF}{b b':Int}(h:s.IsB g b)(h':s.IsB g b'):b=b':=by
 grind [AU,IsB]
theorem wR(s:SF)(g:Int):∀ (k:Nat),k<=29->(nY s g k<0->∀ i,29-(k:Int)<i->i<=29->¬(s.cv i=true/\s.aD i=g))/\
  (¬nY s g k<0->29-(k:Int)<nY s g k/\nY s g k<=29/\s.cv (nY s g k)=true/\s.aD (nY s g k)=g/\∀ i,29-(k:Int)<i->i<=29->s.cv i=true->s.aD i=g->¬AU (s.v i) i (s.v (nY s g k)) (nY s g k))
 | 0,_=>⟨fun _ i h1 h2=>og,fun h=>absurd (by show(-1:Int)<0;omega) h⟩
 | k+1,hk=>by
  obtain⟨h1,h2⟩:=wR s g k og;have e:nY s g (k+1)=if s.cv (29-(k:Int))=true/\s.aD (29-(k:Int))=g/\(nY s g k<0\/s.v (29-(k:Int))<=s.v (nY s g k))then 29-(k:Int)else nY s g k:=rfl
  grind [AU,SF]
def Og{s:SF}(hw:∀ i,s.cv i=true->0<i/\i<30)(h:s.oW g<0):∀ i,s.cv i=true->s.aD i≠g:=fun i hi e=>by
 grind [wR,oW]
def xU{s:SF}(hw:∀ i,s.cv i=true->0<i/\i<30)(h:¬s.oW g<0):s.IsB g (s.oW g)/\0<s.oW g/\s.oW g<30:=by
 obtain⟨h1,h2,h3,h4,h5⟩:=(wR s g 29 og).2 h;grind [oW,IsB]
def BX(d:Int->Nat):∀ (k:Nat) (n:Int),0<=n->n<k->d n<=G6 d k
 | 0,n,h0,h1=>og
 | k+1,n,h0,h1=>by
  show d n<=max (G6 d k) (d (k:Int));by_cases c:n=(k:Int)
  ·subst c;omega
  ·have:=BX d k n h0 og;omega
theorem X7(s:SF)(k:Nat)(h:10<=a):Lv s k a=a:=by
 cases k with
 | zero=>rfl
 | succ k=>show(if 10<=a then a else _)=a;rw[if_pos h]
theorem L9(s:SF)(k:Nat)(h:¬ 10<=a)(hb:¬s.oW a<0):Lv s (k+1) a=Lv s k (s.oW a):=by
 grind [Lv]
def ab7(s:SF)(k:Nat)(h:¬ 10<=a)(hb:s.oW a<0):Lv s (k+1) a= -1:=by
 grind [Lv]
theorem FE(k:Nat)(s:SF)(h:n<=0):vN k s n=s:=by
 cases k with
 | zero=>rfl
 | succ k=>show(if n<=0 then s else _)=s;rw[if_pos h]
theorem Oh(k:Nat)(s:SF)(h:0<n):vN (k+1) s n=vN k (s.zI n) (s.aD n):=by
 grind [vN]
def upW(s:SF):Nat->Int->Prop
 | 0,n=>n<=0
 | k+1,n=>n<=0\/(s.cv n=true/\upW s k (s.aD n))
def Inv.zI{s:SF}{d:Int->Nat}(h:s.Inv d){n:Int}(h0:0<n)(h1:n<30)(h2:s.aa n=true):(s.zI n).Inv d:=by
 refine⟨h.h0,h.up,fun i hi=> ?_,h.quo,h.wt⟩;have e:(s.zI n).cv i=ad s.cv n ((s.nM n).ready n) i:=rfl;rw[e]at hi;by_cases c:i=n
 ·subst c;exact⟨h0,h1,h2⟩
 ·rw[ae _ _ c]at hi;exact h.cv i hi
def Oi{s:SF}{d:Int->Nat}(h:s.Inv d){n:Int} :∀ (k:Nat) (m:Int),(m=0\/(0<m/\m<30/\s.aa m=true))->d m<d n->upW s k m->upW (s.zI n) k m
 | 0,m,_,_,hu=>hu
 | k+1,m,hm,hd,hu=>by
  rcases hu with hu | ⟨Xg,Lx⟩
  ·exact .inl hu
  ·rcases hm with rfl | ⟨m0,m1,m2⟩
   ·exact .inl (Int.le_refl _)
   ·refine .inr ⟨?_,?_⟩
    ·show ad s.cv n _ m=true;rw[ae _ _ fun e=>by subst e;omega];exact Xg
    ·obtain⟨p0,p1,p2,p3⟩:=h.up m m0 m1 m2;exact Oi h k (s.aD m) (by
      by_cases c:s.aD m=0
      ·exact .inl c
      ·exact .inr ⟨og,og,p2⟩) og Lx
def vf{f:Int->Int}{v i lo hi:Int}(h1:lo<=f i/\f i<=hi)(h2:lo<=v/\v<=hi):lo<=ad f n v i/\ad f n v i<=hi:=by
 grind [ad]
theorem bV.mono{s:SF}{B B':Int}(h:s.bV B)(hb:B<=B'):s.bV B':=fun n n0 n1=>by have:=h n n0 n1;omega
def bV.zI{s:SF}{d:Int->Nat}(hI:s.Inv d){B:Int}(h:s.bV B){n:Int}(h0:0<n)(h1:n<30)(h2:s.aa n=true):(s.zI n).bV (B+1048576):=fun i i0 i1=>by
 obtain⟨p0,p1,p2,_⟩:=hI.up n h0 h1 h2;have hw:=hI.wt n og h1 h2;have hn:=h n og h1;have hg:=h (s.aD n) p0 og;have hi:=h i i0 i1;have hq:0<=1048576/s.wt n/\1048576/s.wt n<=1048576:=⟨Int.ediv_nonneg og og,Int.ediv_le_self _ og⟩;have a1:0<=ad s.v n (s.v n+1048576/s.wt n) i/\ad s.v n (s.v n+1048576/s.wt n) i<=B+1048576:=vf og og;have a2:0<=ad s.eJ (s.aD n) (max (s.eJ (s.aD n)) (s.v n)) i/\ad s.eJ (s.aD n) (max (s.eJ (s.aD n)) (s.v n)) i<=B+1048576:=vf og og;have a3:0<=ad s.vd n (s.vd n+1) i/\ad s.vd n (s.vd n+1) i<=B+1048576:=vf og og;have a4:0<=(if 0<s.dE n then ad s.dL n (s.dL n+1)else s.dL) i/\(if 0<s.dE n then ad s.dL n (s.dL n+1)else s.dL) i<=B+1048576:=by
  by_cases c:0<s.dE n
  ·rw[if_pos c];exact vf og og
  grind
 exact⟨a1.1,a1.2,a2.1,a2.2,a3.1,a3.2,a4.1,a4.2⟩
def bV.ve{s:SF}{d:Int->Nat}(hI:s.Inv d){B:Int}(h:s.bV B){n:Int}(h0:0<n)(h1:n<30)(h2:s.aa n=true):(s.ve n).bV B:=fun i i0 i1=>by
 obtain⟨p0,p1,p2,_⟩:=hI.up n h0 h1 h2;have hn:=h n og h1;have hg:=h (s.aD n) p0 og;have hi:=h i i0 i1;have iD:0<=(s.ve n).v i/\(s.ve n).v i<=B:=by
  show 0<=ad s.v n (if s.ready n=true/\s.cv n=false then max (s.v n) (s.eJ (s.aD n))else s.v n) i/\ad s.v n (if s.ready n=true/\s.cv n=false then max (s.v n) (s.eJ (s.aD n))else s.v n) i<=B;apply vf og;omega
 exact⟨iD.1,iD.2,hi.2.2⟩
theorem bV.iv{d:Int->Nat}{B:Int} :∀ (k:Nat) (s:SF) (n:Int),s.Inv d->s.bV B->(n=0\/(0<n/\n<30/\s.aa n=true))->(SF.iv k s n).bV B
 | 0,s,n,_,h,_=>h
 | k+1,s,n,hI,h,hn=>by
  rcases hn with rfl | ⟨n0,n1,n2⟩
  ·rw[mN _ _];exact h
  ·rw[oZ _ _ n0];obtain⟨p0,p1,p2,_⟩:=hI.up n n0 n1 n2;apply bV.iv k (s.ve n) (s.aD n) (hI.ve n0 n1 n2) (h.ve hI n0 n1 n2);by_cases c:s.aD n=0
   ·exact .inl c
   ·exact .inr ⟨og,og,p2⟩
end SF
def SC.mv.aid{s:SC}(h:s.mv){z:Int}(hw:s.cv z=false)(t:SF)(ht:t.cv=s.cv)(hp:∀ i,¬i=z->t.aD i=s.aD i)(hv:∀ i,¬i=z->t.v i=s.v i):SC.mv {s with toSF:=t} :=fun g g0 g1=>by
 refine(h g g0 g1).ext (fun i _ _=> ?_) fun i _ _ hi=> ?_
 ·show(t.cv i&&decide (t.aD i=g))=(s.cv i&&decide (s.aD i=g));grind
 ·have ci:¬i=z:=fun e=>by
   subst e;have:=((SF.rQ _ _ _).1 hi).1;simp_all
  exact hv i ci
theorem SC.mv.first{s:SC}(h:s.mv)(hw:∀ i,s.cv i=true->0<i/\i<30){g:Int}(g0:0<=g)(g1:g<30):((s.Q g).first.2.2=true↔¬s.toSF.oW g<0)/\(¬s.toSF.oW g<0->(s.Q g).first.1=s.toSF.oW g):=by
 have hq:=h g g0 g1;by_cases hn:(s.Q g).n=0
 ·have e:(s.Q g).first=(0,0,false):=by unfold QS.first;rw[if_pos hn]
  have hb:s.toSF.oW g<0:=by
   apply Classical.byContradiction;intro c;obtain⟨⟨b1,b2,_⟩,b3,b4⟩:=SF.xU hw c;have:=hq.len.2 ⟨_,og,og,(SF.rQ _ _ _).2 ⟨b1,b2⟩⟩;omega
  simp_all
 ·have e:(s.Q g).first=((s.Q g).I 0,(s.Q g).K 0,true):=by unfold QS.first;rw[if_neg hn]
  obtain⟨⟨a0,a1⟩,a2,a3⟩:=hq.head og;obtain⟨c1,c2⟩:=(SF.rQ _ _ _).1 a2;have hb:¬s.toSF.oW g<0:=fun q=>SF.Og hw q _ c1 c2;have hB:s.toSF.IsB g ((s.Q g).I 0):=⟨c1,c2,fun i i1 i2=>by
   have:=hw i i1
   exact a3 i og og ((SF.rQ _ _ _).2 ⟨i1,i2⟩)⟩
  rw[e];exact⟨⟨fun _=>hb,fun _=>rfl⟩,fun _=>hB.aic (SF.xU hw hb).1⟩
def SF.Inv.aaF{s:SF}(h:s.Inv d)(hn:10<=n/\n<30)(hg:0<=g/\g<10/\s.aa g=true)(hw:s.cv n=false)(v:Int->Int)(aw:Int->Bool):SF.Inv {s with aD:=ad s.aD n g,v:=v,cO:=aw} (ad d n (d g+1)):=by
 refine⟨h.h0,fun i i0 i1 i2=> ?_,h.cv,h.quo,h.wt⟩;show 0<=ad s.aD n g i/\ad s.aD n g i<10/\s.aa (ad s.aD n g i)=true/\ad d n (d g+1) (ad s.aD n g i)<ad d n (d g+1) i;by_cases c:i=n
 ·grind [ad]
 grind [Inv,ad]
namespace SF
theorem X8{s x:SF}(h1:1<=n)(he:x=mM d s (n-1).toNat)(h:x.aa n=true/\0<x.dE n/\x.hQ%x.eN n=0):mM d s (n+1-1).toNat=look d {x with dL:=ad x.dL n 0} n:=by
 rw[show(n+1-1).toNat=(n-1).toNat+1 from og];grind [tN,mM]
theorem G9{s x:SF}(h1:1<=n)(he:x=mM d s (n-1).toNat)(h:¬(x.aa n=true/\0<x.dE n/\x.hQ%x.eN n=0)):mM d s (n+1-1).toNat=x:=by
 rw[show(n+1-1).toNat=(n-1).toNat+1 from og];grind [tN,mM]
def bV.dL{s:SF}{B:Int}(hB:0<=B)(h:s.bV B)(n:Int):SF.bV {s with dL:=ad s.dL n 0} B:=fun i i0 i1=>by
 have hi:=h i i0 i1;have:=vf (f:=s.dL) (n:=n) (v:=0) (i:=i) (lo:=0) (hi:=B) og og;simp_all
def Qo{s:SF}(hI:s.Inv d)(hs:s.nh)(h0:0<a)(h1:a<10)(hw:s.cv a=true):¬s.oW a<0:=fun hb=>by
 obtain⟨_,a1,a2⟩:=hI.cv a hw;have h2:=hs a h0 a1 a2;rw[hw]at h2;unfold ready at h2;rw[if_neg og]at h2;have hk:s.ie a=true:=by
  simp_all
 obtain⟨i,i0,i1,i2,i3⟩:=(s.qL a).1 hk;exact Og (fun j hj=>⟨(hI.cv j hj).1,(hI.cv j hj).2.1⟩) hb i i2 i3
end SF
def Ma{W w:World}{S:Nat->Nat->Prop}{H:List aF}(e:TypeId)(h:XM W S H w):XM W S (.aW ck (SC.du.dg e)::H) w:=by
 have hr:w.ownsRow 0 e 2 (.slice none 0 0) 0 []:=(h.fF e 2).fa.1 (.row (.slice none 0 0) e 2 0 []) sq;refine⟨⟨fun x hx=> ?_,List.pairwise_cons.2 ⟨fun x hx _ b o h1 h2=> ?_,h.fa.2⟩⟩,h.fA,fun x hx hw b o hb=> ?_⟩
 ·rcases List.mem_cons.1 hx with rfl | hx
  ·exact⟨fun i _=>hr,fun i j b _ _ _ h1 _=>by cases h1⟩
  ·exact h.fa.1 x hx
 ·obtain⟨i,_,hb⟩:=h1;cases hb
 ·rcases List.mem_cons.1 hx with rfl | hx
  ·obtain⟨i,_,hb⟩:=hb;cases hb
  ·exact h.Ey x hx hw b o hb
def SF.Tk(s:SF):Prop:=∀ n,10<=n->n<30->s.eJ n=0/\s.vZ n=false/\s.dE n=0/\s.eN n=0/\s.dL n=0
namespace SF
def Jj{s:SF}(hI:s.Inv d)(i1:0<=n)(i2:n<20)(i3:s.aa (10+n)=true):(s.gq d n false).Inv d/\(s.gq d n false).cv (10+n)=false/\(s.gq d n false).aa=s.aa/\(s.gq d n false).aD=s.aD/\(s.gq d n false).wt=s.wt/\(s.gq d n false).vd=s.vd/\(s.gq d n false).eJ=s.eJ/\(s.gq d n false).vZ=s.vZ/\(s.gq d n false).dE=s.dE/\(s.gq d n false).eN=s.eN/\(s.gq d n false).dL=s.dL/\(s.gq d n false).hQ=s.hQ/\(s.gq d n false).cO=ad s.cO (10+n) false:=by
 have e:s.gq d n false=look d {s with cO:=ad s.cO (10+n) false} (10+n):=by unfold gq;rw[if_pos (ab5 i1 i2 i3)]
 have hA:SF.Inv {s with cO:=ad s.cO (10+n) false} d:=⟨hI.h0,hI.up,hI.cv,hI.quo,hI.wt⟩;obtain⟨a1,a2,a3,a4,a5,a6,a7,a8,a9,a10,a11⟩:=j8 (d (10+n)+1) {s with cO:=ad s.cO (10+n) false} (10+n);rw[e];refine⟨tT hA (.inr ⟨og,og,i3⟩),?_,a1,a2,a3,a4,a6,a7,a8,a9,a10,a11,a5⟩;grind [G8,ready,ad]
theorem X9{s:SF}(h:s.xQ n=0)(d:Int->Nat)(on:Bool):s.gq d n on=look d {s with cO:=ad s.cO (10+n) on} (10+n):=by grind [gq]
end SF
end Go.X.Fa
