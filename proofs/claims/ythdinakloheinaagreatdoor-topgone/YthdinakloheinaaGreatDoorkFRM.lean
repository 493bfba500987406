import Derived.Test.YthdinakloheinaaGreatDoorXBytes
set_option linter.all false
namespace Go.X.Fa
open Go Go.X
variable{i id j k m n z:Int}
def Cz(k i k' i':Int):Prop:=k<k'\/(k=k'/\i<i')
instance(k i k' i':Int):Decidable (Cz k i k' i'):=by unfold Cz;infer_instance
structure QS where
 n:Nat
 K:Int->Int
 I:Int->Int
 at_:Int->Int
def QS.set(s:QS)(i k id:Int):QS:= {s with K:=ad s.K i k,I:=ad s.I i id,at_:=ad s.at_ id (i+1)}
def QS.Ge:Nat->QS->Int->Int->Int->QS
 | 0,s,i,k,id=>s.set i k id
 | f+1,s,i,k,id=>if 0<i/\Cz k id (s.K ((i-1)/2)) (s.I ((i-1)/2))then QS.Ge f (s.set i (s.K ((i-1)/2)) (s.I ((i-1)/2))) ((i-1)/2) k id else s.set i k id
def QS.up(s:QS)(i:Int):QS:=QS.Ge i.toNat s i (s.K i) (s.I i)
def QS.aW(s:QS)(i:Int):Int:=if 2*i+1+1<s.n/\Cz (s.K (2*i+1+1)) (s.I (2*i+1+1)) (s.K (2*i+1)) (s.I (2*i+1))then 2*i+1+1 else 2*i+1
def QS.lG:Nat->QS->Int->Int->Int->QS
 | 0,s,i,k,id=>s.set i k id
 | f+1,s,i,k,id=>if s.aW i<s.n/\Cz (s.K (s.aW i)) (s.I (s.aW i)) k id then QS.lG f (s.set i (s.K (s.aW i)) (s.I (s.aW i))) (s.aW i) k id else s.set i k id
def QS.down(s:QS)(i:Int):QS:=QS.lG (s.n-i.toNat) s i (s.K i) (s.I i)
def QS.lq(s:QS)(k id:Int):QS:= {s with n:=s.n+1,K:=ad s.K s.n k,I:=ad s.I s.n id}
def QS.put(s:QS)(id k:Int):Int×QS:=if id<0\/63<id then(1,s)else if 0<s.at_ id then(3,s)else(0,(s.lq k id).up s.n)
def QS.fH(s:QS)(id:Int):QS:= {s with n:=s.n-1,at_:=ad s.at_ id 0}
def QS.aeU(s:QS)(i k id:Int):QS:=((s.set i k id).down i).up (((s.set i k id).down i).at_ id-1)
def QS.xQ(s:QS)(id:Int):QS:=if s.at_ id-1<(s.n:Int)-1 then(s.fH id).aeU (s.at_ id-1) (s.K ((s.n:Int)-1)) (s.I ((s.n:Int)-1))else s.fH id
def QS.cut(s:QS)(id:Int):Int×Int×QS:=if id<0\/63<id then(0,1,s)else if s.at_ id=0 then(0,2,s)else(s.K (s.at_ id-1),0,s.xQ id)
def QS.iZ(s:QS)(id:Int):Int×Int:=if id<0\/63<id then(0,1)else if s.at_ id=0 then(0,2)else(s.K (s.at_ id-1),0)
def QS.dR:QS:=⟨0,fun _=>0,fun _=>0,fun _=>0⟩
structure QS.Ok (s:QS):Prop where
 n64:s.n<=64
 jV:∀ j:Int,0<=j->j<s.n->0<=s.I j/\s.I j<64
 Lq:∀ j:Int,0<=j->j<s.n->s.at_ (s.I j)=j+1
 N9:∀ id,0<=id->id<64->s.at_ id=0\/(1<=s.at_ id/\s.at_ id<=s.n/\s.I (s.at_ id-1)=id)
def QS.L(s:QS)(a b:Int):Prop:=Cz (s.K a) (s.I a) (s.K b) (s.I b)
instance(s:QS)(a b:Int):Decidable (s.L a b):=by unfold QS.L;infer_instance
def QS.xJ(s:QS):Prop:=∀ j:Int,0<j->j<s.n->¬s.L j ((j-1)/2)
theorem r6{s:QS}{a b:Int}(h:s.L a b):¬s.L b a:=by unfold QS.L Cz at*;omega
theorem tj{s:QS}{a b c:Int}(h:¬s.L a b)(h2:¬s.L b c):¬s.L a c:=by grind [QS.L,Cz]
def QS.adA(s:QS)(a:Int):¬s.L a a:=by unfold QS.L Cz;omega
def sw(i j m:Int):Int:=if m=i then j else if m=j then i else m
theorem Ja(i j:Int):sw i j i=j:=by simp[sw]
theorem SP(i j:Int):sw i j j=i:=by
 unfold sw;split
 ·rename_i h;exact h
 ·simp
theorem Gu(h1:¬m=i)(h2:¬m=j):sw i j m=m:=by simp[sw,h1,h2]
def QS.swap(s:QS)(i j:Int):QS:=(s.set i (s.K j) (s.I j)).set j (s.K i) (s.I i)
theorem Hm(s:QS)(i j m:Int):(s.swap i j).K m=s.K (sw i j m):=by
 show ad (ad s.K i (s.K j)) j (s.K i) m=_;grind [ad,sw]
theorem r7(s:QS)(i j m:Int):(s.swap i j).I m=s.I (sw i j m):=by
 show ad (ad s.I i (s.I j)) j (s.I i) m=_;grind [ad,sw]
theorem wI(s:QS)(i j a b:Int):(s.swap i j).L a b↔s.L (sw i j a) (sw i j b):=by
 grind [QS.L,Hm,r7]
theorem Ef(s:QS)(i j id:Int):(s.swap i j).at_ id=if id=s.I i then j+1 else if id=s.I j then i+1 else s.at_ id:=rfl
def QS.Oa(s:QS)(id:Int):Int:=s.K (s.at_ id-1)
structure QS.yA (s t:QS):Prop where
 n:t.n=s.n
 at_:∀ id,0<=id->id<64->(t.at_ id=0↔s.at_ id=0)
 k:∀ id,0<=id->id<64->¬s.at_ id=0->t.Oa id=s.Oa id
theorem QS.yA.refl(s:QS):s.yA s:=⟨rfl,fun _ _ _=>Iff.rfl,fun _ _ _ _=>rfl⟩
def QS.yA.trans{s t u:QS}(h:s.yA t)(h2:t.yA u):s.yA u:=
 ⟨h2.n.trans h.n,fun id a b=>(h2.at_ id a b).trans (h.at_ id a b),fun id a b c=>(h2.k id a b fun q=>c ((h.at_ id a b).1 q)).trans (h.k id a b c)⟩
theorem QS.Ok.inj{s:QS}(h:s.Ok)(hi:0<=i/\i<s.n)(hj:0<=j/\j<s.n)(he:s.I i=s.I j):i=j:=by
 grind [QS.Ok.Lq]
def aeW{n:Nat}(hi:0<=i/\i<n)(hj:0<=j/\j<n)(hm:0<=m/\m<n):0<=sw i j m/\sw i j m<n:=by
 grind [sw]
def QS.Ok.swap{s:QS}(h:s.Ok){i j:Int}(hi:0<=i/\i<s.n)(hj:0<=j/\j<s.n)(gJ:¬i=j):(s.swap i j).Ok/\s.yA (s.swap i j):=by
 have hII:¬s.I i=s.I j:=fun e=>gJ (h.inj hi hj e);have hn:(s.swap i j).n=s.n:=rfl;refine⟨⟨h.n64,fun m m0 m1=> ?_,fun m m0 m1=> ?_,fun id d0 d1=> ?_⟩,⟨rfl,fun id d0 d1=> ?_,fun id d0 d1 hp=> ?_⟩⟩
 ·rw[r7];have:=aeW hi hj ⟨m0,m1⟩;exact h.jV _ this.1 this.2
 ·grind [r7,Ef,Ja,SP,Gu,QS.Ok.Lq]
 all_goals grind [Ef,r7,SP,Ja,QS.Ok.N9,Gu,QS.Ok.Lq,QS.Oa,Hm]
def QS.Vc:Nat->QS->Int->QS
 | 0,s,_=>s
 | f+1,s,i=>if 0<i/\s.L i ((i-1)/2)then QS.Vc f (s.swap i ((i-1)/2)) ((i-1)/2)else s
theorem iM{s:QS}(h:¬m=i):(s.set i k id).K m=s.K m/\(s.set i k id).I m=s.I m:=⟨ae _ _ h,ae _ _ h⟩
theorem QS.vg(s:QS)(i k id:Int):(s.set i k id).K i=k/\(s.set i k id).I i=id:=⟨ah _ _ _,ah _ _ _⟩
theorem Eg{s:QS}{p:Int}(hp:¬p=i):(s.set i (s.K p) (s.I p)).set p k id=(s.set i k id).swap i p:=by
 unfold QS.swap;rw[(iM hp).1,(iM hp).2,(s.vg i k id).1,(s.vg i k id).2];unfold QS.set;simp only[QS.mk.injEq,true_and];grind [ad]
theorem yB:∀ (f:Nat) (s:QS) (i k id:Int),QS.Ge f s i k id=QS.Vc f (s.set i k id) i
 | 0,_,_,_,_=>rfl
 | f+1,s,i,k,id=>by
  have e:(0<i/\Cz k id (s.K ((i-1)/2)) (s.I ((i-1)/2)))↔(0<i/\(s.set i k id).L i ((i-1)/2)):=by
   grind [QS.L,QS.vg,iM]
  rw[QS.Ge,QS.Vc];by_cases c:0<i/\Cz k id (s.K ((i-1)/2)) (s.I ((i-1)/2))
  ·rw[if_pos c,if_pos (e.1 c),yB f,Eg og]
  grind
theorem CA{s:QS}(h:s.at_ (s.I i)=i+1):s.set i (s.K i) (s.I i)=s:=by
 simp_all[QS.set,da]
def QS.Exc(s:QS)(i:Int):Prop:=(∀ j:Int,0<j->j<s.n->¬j=i->¬s.L j ((j-1)/2))/\(0<i->∀ j:Int,0<j->j<s.n->(j-1)/2=i->¬s.L j ((i-1)/2))
theorem QS.Ok.Vc:∀ (f:Nat) {s:QS} {i:Int},s.Ok->s.Exc i->0<=i->i<s.n->i<=f->(QS.Vc f s i).Ok/\s.yA (QS.Vc f s i)/\(QS.Vc f s i).xJ:=by
 have stop:∀ {s:QS} {i:Int},s.Exc i->¬(0<i/\s.L i ((i-1)/2))->s.xJ:=fun {s i} he hn j j0 j1=>by
  grind [QS.Exc]
 intro f;induction f with
 | zero=>exact fun h he h0 h1 hf=>⟨h,QS.yA.refl _,stop he og⟩
 | succ f ih=>
  intro s i h he h0 h1 hf;rw[QS.Vc];by_cases c:0<i/\s.L i ((i-1)/2)
  ·rw[if_pos c];have SQ:0<=(i-1)/2/\(i-1)/2<s.n:=og;have gJ:¬i=(i-1)/2:=og;obtain⟨o1,o2⟩:=h.swap ⟨h0,h1⟩ SQ gJ;have Vp:(s.swap i ((i-1)/2)).Exc ((i-1)/2):=by
    refine⟨fun j j0 j1 jn=> ?_,fun p0 j j0 j1 jp=> ?_⟩
    ·rw[wI];by_cases c1:j=i
     ·grind [Ja,SP,r6]
     ·rw[Gu c1 jn];by_cases c2:(j-1)/2=i
      ·rw[c2,Ja];exact he.2 c.1 j j0 j1 c2
      ·by_cases c3:(j-1)/2=(i-1)/2
       ·rw[c3,SP];have:=he.1 j j0 j1 c1;grind [tj,r6]
       ·rw[Gu c2 c3];exact he.1 j j0 j1 c1
    ·rw[wI];have hpp:=he.1 ((i-1)/2) p0 SQ.2 fun e=>gJ e.symm;have q1:¬((i-1)/2-1)/2=i:=og;have q2:¬((i-1)/2-1)/2=(i-1)/2:=og;rw[Gu q1 q2];by_cases c1:j=i
     ·grind [Ja]
     ·have jn:¬j=(i-1)/2:=og;rw[Gu c1 jn];have:=he.1 j j0 j1 c1;grind [tj]
   obtain⟨i1,i2,i3⟩:=ih o1 Vp SQ.1 SQ.2 og;exact⟨i1,o2.trans i2,i3⟩
  ·rw[if_neg c];exact⟨h,QS.yA.refl _,stop he c⟩
theorem QS.Ok.aeX{s:QS}(h:s.Ok)(h0:0<=i)(h1:i<s.n):s.up i=QS.Vc i.toNat s i:=by
 grind [QS.up,yB,CA,QS.Ok.Lq]
def QS.uw:Nat->QS->Int->QS
 | 0,s,_=>s
 | f+1,s,i=>if s.aW i<s.n/\s.L (s.aW i) i then QS.uw f (s.swap i (s.aW i)) (s.aW i)else s
theorem QS.iO(s:QS)(i:Int):(s.aW i=2*i+2/\2*i+2<s.n/\s.L (2*i+2) (2*i+1))\/(s.aW i=2*i+1/\(2*i+2<s.n->¬s.L (2*i+2) (2*i+1))):=by
 grind [QS.aW,QS.L]
theorem zA{s:QS}(h:0<=i):(s.set i k id).aW i=s.aW i:=by
 have h1:¬ 2*i+1+1=i:=og;have h2:¬ 2*i+1=i:=og;unfold QS.aW;rw[(iM h1).1,(iM h1).2,(iM h2).1,(iM h2).2];rfl
theorem vh:∀ (f:Nat) (s:QS) (i k id:Int),0<=i->QS.lG f s i k id=QS.uw f (s.set i k id) i
 | 0,_,_,_,_,_=>rfl
 | f+1,s,i,k,id,h=>by
  have hc:0<=s.aW i/\¬s.aW i=i:=by
   grind [QS.iO]
  have e:(s.aW i<s.n/\Cz (s.K (s.aW i)) (s.I (s.aW i)) k id)↔((s.set i k id).aW i<(s.set i k id).n/\(s.set i k id).L ((s.set i k id).aW i) i):=by
   rw[zA h];unfold QS.L;rw[(s.vg i k id).1,(s.vg i k id).2,(iM hc.2).1,(iM hc.2).2];rfl
  rw[QS.lG,QS.uw];by_cases c:s.aW i<s.n/\Cz (s.K (s.aW i)) (s.I (s.aW i)) k id
  ·simp_all[vh,Eg,zA]
  grind
def QS.Mid(s:QS)(i:Int)(b:Prop):Prop:=(∀ j:Int,0<j->j<s.n->¬(j-1)/2=i->(¬j=i\/b)->¬s.L j ((j-1)/2))/\(0<i->∀ j:Int,0<j->j<s.n->(j-1)/2=i->¬s.L j ((i-1)/2))
theorem QS.Ok.uw:∀ (f:Nat) {s:QS} {i:Int} {b:Prop},s.Ok->s.Mid i b->0<=i->i<s.n->(s.n:Int)<=i+f->(QS.uw f s i).Ok/\s.yA (QS.uw f s i)/\∃ q:Int,(0<=q/\q<s.n)/\(QS.uw f s i).I q=s.I i/\(QS.uw f s i).Exc q:=by
 have stop:∀ {s:QS} {i:Int} {b:Prop},s.Mid i b->0<=i->¬(s.aW i<s.n/\s.L (s.aW i) i)->s.Exc i:=fun {s i b} hm h0 hn=>by
  refine⟨fun j j0 j1 jn=> ?_,hm.2⟩;by_cases c:(j-1)/2=i
  ·rw[c];intro hl;rcases s.iO i with⟨q1,q2,q3⟩ | ⟨q1,q2⟩
   ·rw[q1]at hn;have h2:¬s.L (2*i+2) i:=fun e=>hn ⟨q2,e⟩;grind [tj,r6]
   grind [tj]
  grind [QS.Mid]
 intro f;induction f with
 | zero=>exact fun h hm h0 h1 hf=>og
 | succ f ih=>
  intro s i b h hm h0 h1 hf;rw[QS.uw];by_cases c:s.aW i<s.n/\s.L (s.aW i) i
  ·rw[if_pos c];have hcc:=s.iO i;have hcn:i<s.aW i/\(s.aW i-1)/2=i:=by
    omega
   have gJ:¬i=s.aW i:=og;obtain⟨o1,o2⟩:=h.swap ⟨h0,h1⟩ ⟨og,c.1⟩ gJ;have hm':(s.swap i (s.aW i)).Mid (s.aW i) True:=by
    refine⟨fun j j0 j1 jp _=> ?_,fun p0 j j0 j1 jp=> ?_⟩
    ·rw[wI];by_cases c1:j=s.aW i
     ·grind [SP,Ja,r6]
     ·by_cases c2:j=i
      ·grind [Ja,Gu,QS.Mid]
      ·rw[Gu c2 c1];by_cases c3:(j-1)/2=i
       ·rw[c3,Ja];rcases hcc with⟨q1,q2,q3⟩ | ⟨q1,q2⟩
        ·grind [r6]
        ·rw[q1]at c1 ⊢;have hj:j=2*i+2:=og;rw[hj];exact q2 (by rw[<-hj];exact j1)
       ·rw[Gu c3 jp];exact hm.1 j j0 j1 c3 (.inl c2)
    ·rw[wI,hcn.2,Ja];have c2:¬j=i:=og;have c1:¬j=s.aW i:=og;rw[Gu c2 c1];have:=hm.1 j j0 j1 og (.inl c2);simp_all
   obtain⟨i1,i2,q,q1,q2,q3⟩:=ih o1 hm' og c.1 (by show(s.n:Int)<=_;omega);refine⟨i1,o2.trans i2,q,q1,?_,q3⟩;rw[q2,r7,SP]
  ·grind [QS.yA.refl]
theorem QS.Ok.Lr{s:QS}(h:s.Ok)(h0:0<=i)(h1:i<s.n):s.down i=QS.uw (s.n-i.toNat) s i:=by
 grind [QS.down,vh,CA,QS.Ok.Lq]
def Eh:∀ (n m:Nat) (f:Nat->Nat),n<m->(∀ i,i<m->f i<n)->∃ i j,i<j/\j<m/\f i=f j
 | 0,m,f,h,hf=>absurd (hf 0 h) og
 | n+1,m,f,h,hf=>by
  by_cases he:∃ i,i<m-1/\f i=f (m-1)
  ·obtain⟨i,h1,h2⟩:=he;exact⟨i,m-1,h1,og,h2⟩
  ·have gJ:∀ i,i<m-1->¬f i=f (m-1):=fun i hi e=>he ⟨i,hi,e⟩;have hv:=hf (m-1) og;obtain⟨i,j,h1,h2,h3⟩:=Eh n (m-1) (fun i=>if f i=n then f (m-1)else f i) og (fun i hi=>by
    have a1:=hf i og
    have a2:=gJ i hi
    show(if f i=n then f (m-1)else f i)<n
    split<;>omega)
   refine⟨i,j,h1,og,?_⟩;have a1:=gJ i og;have a2:=gJ j og;split at h3<;>split at h3<;>omega
theorem QS.Ok.room{s:QS}(h:s.Ok)(hd:0<=id/\id<64)(hz:s.at_ id=0):s.n<64:=by
 apply Classical.byContradiction;intro hc;have hn:s.n=64:=by have:=h.n64;omega
 obtain⟨i,j,h1,h2,h3⟩:=Eh 64 65 (fun i=>if i<64 then(s.I i).toNat else id.toNat) og (fun i hi=>by
  show(if i<64 then(s.I i).toNat else id.toNat)<64
  by_cases c:i<64
  ·rw[if_pos c];have:=h.jV i og og;omega
  ·rw[if_neg c];omega)
 have r1:=h.jV i og og;rw[if_pos og]at h3;by_cases c:j<64
 ·rw[if_pos c]at h3;have r2:=h.jV j og og;have:=h.inj (i:=i) (j:=j) ⟨og,og⟩ ⟨og,og⟩ og;omega
 ·rw[if_neg c]at h3;have:=h.Lq i og og;rw[show s.I i=id from og,hz]at this;omega
theorem QS.Ok.dR:QS.dR.Ok:=⟨dq,fun j j0 j1=>by simp[QS.dR]at j1;omega,fun j j0 j1=>by simp[QS.dR]at j1;omega,fun _ _ _=>.inl rfl⟩
def Jb:QS.dR.xJ:=fun j j0 j1=>by simp[QS.dR]at j1;omega
def QS.Ok.ae0{s:QS}(h:s.Ok)(hh:s.xJ)(hd:0<=id/\id<64)(hz:s.at_ id=0)(k:Int):((s.lq k id).up s.n).Ok/\((s.lq k id).up s.n).xJ/\((s.lq k id).up s.n).n=s.n+1/\(∀ x,0<=x->x<64->(((s.lq k id).up s.n).at_ x=0↔(¬x=id/\s.at_ x=0))/\(¬x=id->¬s.at_ x=0->((s.lq k id).up s.n).Oa x=s.Oa x))/\((s.lq k id).up s.n).Oa id=k:=by
 have mM:=h.room hd hz;have e1:(s.lq k id).up s.n=QS.Vc s.n ((s.lq k id).set s.n k id) s.n:=by
  simp_all[QS.up,yB,QS.lq,ah]
 have tn:((s.lq k id).set s.n k id).n=s.n+1:=rfl;have ta:∀ x,((s.lq k id).set s.n k id).at_ x=if x=id then(s.n:Int)+1 else s.at_ x:=fun _=>rfl
 have tI:∀ m,((s.lq k id).set s.n k id).I m=if m=s.n then id else s.I m:=fun m=>by
  show ad (ad s.I s.n id) s.n id m=_;grind [ad]
 have tK:∀ m,((s.lq k id).set s.n k id).K m=if m=s.n then k else s.K m:=fun m=>by
  show ad (ad s.K s.n k) s.n k m=_;grind [ad]
 have rK:∀ j:Int,0<=j->j<s.n->¬s.I j=id:=fun j j0 j1 e=>by
  grind [QS.Ok.Lq]
 have uX:((s.lq k id).set s.n k id).Ok:=by
  refine⟨by rw[tn];omega,fun j j0 j1=> ?_,fun j j0 j1=> ?_,fun x x0 x1=> ?_⟩
  ·rw[tI];split
   ·omega
   ·exact h.jV j j0 (by rw[tn]at j1;omega)
  ·grind [QS.Ok.Lq]
  grind [QS.Ok.N9]
 have hex:((s.lq k id).set s.n k id).Exc s.n:=by
  refine⟨fun j j0 j1 jn=> ?_,fun _ j j0 j1 jp=>by rw[tn]at j1;omega⟩;grind [QS.L,QS.xJ]
 obtain⟨r1,r2,r3⟩:=uX.Vc s.n (i:=s.n) hex og (by rw[tn];omega) og;rw[<-e1]at r1 r2 r3;have hid:=r2.k id hd.1 hd.2 (by rw[ta,if_pos rfl];omega);refine⟨r1,r3,r2.n.trans tn,fun x x0 x1=>⟨?_,fun xn xp=> ?_⟩,?_⟩
 ·rw[r2.at_ x x0 x1,ta];omega
 ·rw[r2.k x x0 x1 (by rw[ta,if_neg xn];exact xp)];grind [QS.Oa,QS.Ok.N9]
 grind [QS.Oa]
def QS.Ok.ae1{s:QS}(h:s.Ok)(hh:s.xJ)(hd:0<=id/\id<64)(hz:¬s.at_ id=0):(s.xQ id).Ok/\(s.xQ id).xJ/\(s.xQ id).n=s.n-1/\(∀ x,0<=x->x<64->((s.xQ id).at_ x=0↔(x=id\/s.at_ x=0))/\(¬x=id->¬s.at_ x=0->(s.xQ id).Oa x=s.Oa x)):=by
 obtain⟨a1,a2,a3⟩:=(h.N9 id hd.1 hd.2).resolve_left hz;unfold QS.xQ;by_cases c:s.at_ id-1<(s.n:Int)-1
 ·rw[if_pos c];generalize hi:s.at_ id-1=i at*;generalize hx:s.I ((s.n:Int)-1)=xi at*;generalize hk:s.K ((s.n:Int)-1)=xk at*;have hxr:=h.jV ((s.n:Int)-1) og og;have Vq:=h.Lq ((s.n:Int)-1) og og;rw[hx]at hxr Vq;have hxd:¬xi=id:=fun e=>by rw[e]at Vq;omega
  have tn:((s.fH id).set i xk xi).n=s.n-1:=rfl;have ta:∀ x,((s.fH id).set i xk xi).at_ x=if x=xi then i+1 else if x=id then 0 else s.at_ x:=fun _=>rfl
  have tI:∀ m,((s.fH id).set i xk xi).I m=if m=i then xi else s.I m:=fun _=>rfl
  have tK:∀ m,((s.fH id).set i xk xi).K m=if m=i then xk else s.K m:=fun _=>rfl
  have uX:((s.fH id).set i xk xi).Ok:=by
   refine⟨by rw[tn];have:=h.n64;omega,fun j j0 j1=> ?_,fun j j0 j1=> ?_,fun x x0 x1=> ?_⟩
   ·rw[tn]at j1;rw[tI];split
    ·omega
    ·exact h.jV j j0 og
   ·grind [QS.Ok.Lq]
   grind [QS.Ok.N9]
  have aiq:((s.fH id).set i xk xi).Mid i False:=by
   refine⟨fun j j0 j1 jp jb=> ?_,fun i0 j j0 j1 jp=> ?_⟩
   ·grind [QS.L,QS.xJ]
   ·rw[tn]at j1;have cj:¬j=i:=og;have cp:¬(i-1)/2=i:=og;unfold QS.L;rw[tK,tK,tI,tI,if_neg cj,if_neg cj,if_neg cp,if_neg cp];have g1:=hh j j0 og;rw[jp]at g1;exact tj g1 (hh i i0 og)
  obtain⟨d1,d2,q,q1,q2,q3⟩:=uX.uw (((s.fH id).set i xk xi).n-i.toNat) aiq og (by rw[tn];omega) (by rw[tn];omega);rw[<-uX.Lr og (by rw[tn];omega)]at d1 d2 q2 q3;have hq:(((s.fH id).set i xk xi).down i).at_ xi-1=q:=by
   grind [QS.Ok.Lq,QS.yA.n]
  have hf:(s.fH id).aeU i xk xi=(((s.fH id).set i xk xi).down i).up q:=by unfold QS.aeU;rw[hq]
  obtain⟨u1,u2,u3⟩:=d1.Vc q.toNat q3 q1.1 (by rw[d2.n];exact q1.2) og;rw[<-d1.aeX q1.1 (by rw[d2.n];exact q1.2),<-hf]at u1 u2 u3;have hs:=d2.trans u2;refine⟨u1,u3,hs.n.trans tn,fun x x0 x1=>⟨?_,fun xn xp=> ?_⟩⟩
  ·rw[hs.at_ x x0 x1,ta];grind
  ·have hp:¬((s.fH id).set i xk xi).at_ x=0:=by
    grind
   rw[hs.k x x0 x1 hp];grind [QS.Oa,QS.Ok.N9]
 ·rw[if_neg c];have hl:s.at_ id=s.n:=og;have tn:(s.fH id).n=s.n-1:=rfl;have ta:∀ x,(s.fH id).at_ x=if x=id then 0 else s.at_ x:=fun _=>rfl
  refine⟨⟨by rw[tn];have:=h.n64;omega,fun j j0 j1=>h.jV j j0 (by rw[tn]at j1;omega),fun j j0 j1=> ?_,fun x x0 x1=> ?_⟩,fun j j0 j1=>hh j j0 (by rw[tn]at j1;omega),tn,fun x x0 x1=>⟨?_,fun xn xp=> ?_⟩⟩
  ·rw[tn]at j1;show(s.fH id).at_ (s.I j)=j+1;grind [QS.Ok.Lq]
  ·rw[ta];by_cases c2:x=id
   ·omega
   ·rw[if_neg c2];rcases h.N9 x x0 x1 with g | ⟨g1,g2,g3⟩
    ·omega
    ·have:¬s.at_ x=s.n:=fun e=>by
      simp_all
     exact .inr ⟨g1,by rw[tn];omega,g3⟩
  ·grind
  ·unfold QS.Oa;rw[ta,if_neg xn];rfl
def QS.xJ.adC{s:QS}(h:s.xJ):∀ (m:Nat) (j:Int),j.toNat<=m->0<=j->j<s.n->¬s.L j 0
 | 0,j,hm,h0,h1=>by
  have:j=0:=og;rw[this];exact s.adA 0
 | m+1,j,hm,h0,h1=>by
  by_cases c:j=0
  ·rw[c];exact s.adA 0
  ·exact tj (h j og h1) (QS.xJ.adC h m ((j-1)/2) og og og)
def CB:∀ (f f':Nat) (s:QS) (i k id:Int),i<=f->i<=f'->QS.Ge f s i k id=QS.Ge f' s i k id
 | 0,0,_,_,_,_,_,_=>rfl
 | 0,f'+1,s,i,k,id,h,_=>by rw[QS.Ge,QS.Ge,if_neg og]
 | f+1,0,s,i,k,id,_,h=>by rw[QS.Ge,QS.Ge,if_neg og]
 | f+1,f'+1,s,i,k,id,h,h'=>by
  rw[QS.Ge,QS.Ge];split
  ·exact CB f f' _ _ _ _ og og
  ·rfl
def Ls{s:QS}(h:0<i)(h2:Cz k id (s.K ((i-1)/2)) (s.I ((i-1)/2))):QS.Ge i.toNat s i k id=QS.Ge ((i-1)/2).toNat (s.set i (s.K ((i-1)/2)) (s.I ((i-1)/2))) ((i-1)/2) k id:=by
 obtain⟨f,hf⟩:∃ f,i.toNat=f+1:=⟨i.toNat-1,og⟩;rw[hf,QS.Ge,if_pos ⟨h,h2⟩];exact CB _ _ _ _ _ _ og og
def CC{s:QS}(h:¬(0<i/\Cz k id (s.K ((i-1)/2)) (s.I ((i-1)/2)))):QS.Ge i.toNat s i k id=s.set i k id:=by
 cases hf:i.toNat with
 | zero=>rfl
 | succ f=>rw[QS.Ge,if_neg h]
def xT:∀ (f f':Nat) (s:QS) (i k id:Int),0<=i->(s.n:Int)<=i+f->(s.n:Int)<=i+f'->QS.lG f s i k id=QS.lG f' s i k id
 | 0,0,_,_,_,_,_,_,_=>rfl
 | 0,f'+1,s,i,k,id,h0,h,_=>by
  rw[QS.lG,QS.lG,if_neg];rintro⟨q,_⟩;rcases s.iO i with⟨e,_⟩ | ⟨e,_⟩<;>omega
 | f+1,0,s,i,k,id,h0,_,h=>by
  rw[QS.lG,QS.lG,if_neg];rintro⟨q,_⟩;rcases s.iO i with⟨e,_⟩ | ⟨e,_⟩<;>omega
 | f+1,f'+1,s,i,k,id,h0,h,h'=>by
  have hc:i<s.aW i:=by rcases s.iO i with⟨e,_⟩ | ⟨e,_⟩<;>omega
  rw[QS.lG,QS.lG];split
  ·exact xT f f' _ _ _ _ og (by show(s.n:Int)<=_;omega) (by show(s.n:Int)<=_;omega)
  ·rfl
def Gv{s:QS}(h0:0<=i)(h1:i<s.n)(h:s.aW i<s.n)(h2:Cz (s.K (s.aW i)) (s.I (s.aW i)) k id):QS.lG (s.n-i.toNat) s i k id=QS.lG (s.n-(s.aW i).toNat) (s.set i (s.K (s.aW i)) (s.I (s.aW i))) (s.aW i) k id:=by
 have hc:i<s.aW i:=by rcases s.iO i with⟨e,_⟩ | ⟨e,_⟩<;>omega
 obtain⟨f,hf⟩:∃ f,s.n-i.toNat=f+1:=⟨s.n-i.toNat-1,og⟩;rw[hf,QS.lG,if_pos ⟨h,h2⟩];exact xT _ _ _ _ _ _ og (by show(s.n:Int)<=_;omega) (by show(s.n:Int)<=_;omega)
def xU{s:QS}{f:Nat}(h:¬(s.aW i<s.n/\Cz (s.K (s.aW i)) (s.I (s.aW i)) k id)):QS.lG f s i k id=s.set i k id:=by
 cases f with
 | zero=>rfl
 | succ f=>rw[QS.lG,if_neg h]
def QS.Ok.mid{s:QS}(h:s.Ok)(hh:s.xJ){xk xi:Int}(hd:0<=id/\id<64)(hz:¬s.at_ id=0)(hi:s.at_ id-1=i)(hx:s.I ((s.n:Int)-1)=xi)(c:i<(s.n:Int)-1):((s.fH id).set i xk xi).Ok/\(((s.fH id).set i xk xi).down i).Ok/\((s.fH id).set i xk xi).yA (((s.fH id).set i xk xi).down i)/\∃ q:Int,(0<=q/\q<((s.fH id).set i xk xi).n)/\(((s.fH id).set i xk xi).down i).Exc q/\(((s.fH id).set i xk xi).down i).at_ xi-1=q:=by
 obtain⟨a1,a2,a3⟩:=(h.N9 id hd.1 hd.2).resolve_left hz;rw[hi]at a3;have hxr:=h.jV ((s.n:Int)-1) og og;have Vq:=h.Lq ((s.n:Int)-1) og og;rw[hx]at hxr Vq;have hxd:¬xi=id:=fun e=>by rw[e]at Vq;omega
 have tn:((s.fH id).set i xk xi).n=s.n-1:=rfl;have ta:∀ x,((s.fH id).set i xk xi).at_ x=if x=xi then i+1 else if x=id then 0 else s.at_ x:=fun _=>rfl
 have tI:∀ m,((s.fH id).set i xk xi).I m=if m=i then xi else s.I m:=fun _=>rfl
 have tK:∀ m,((s.fH id).set i xk xi).K m=if m=i then xk else s.K m:=fun _=>rfl
 have uX:((s.fH id).set i xk xi).Ok:=by
  refine⟨by rw[tn];have:=h.n64;omega,fun j j0 j1=> ?_,fun j j0 j1=> ?_,fun x x0 x1=> ?_⟩
  ·rw[tn]at j1;rw[tI];split
   ·omega
   ·exact h.jV j j0 og
  ·grind [QS.Ok.Lq]
  grind [QS.Ok.N9]
 have aiq:((s.fH id).set i xk xi).Mid i False:=by
  refine⟨fun j j0 j1 jp jb=> ?_,fun i0 j j0 j1 jp=> ?_⟩
  ·grind [QS.L,QS.xJ]
  ·rw[tn]at j1;have cj:¬j=i:=og;have cp:¬(i-1)/2=i:=og;unfold QS.L;rw[tK,tK,tI,tI,if_neg cj,if_neg cj,if_neg cp,if_neg cp];have g1:=hh j j0 og;rw[jp]at g1;exact tj g1 (hh i i0 og)
 grind [QS.Ok.uw,QS.Ok.Lr,QS.Ok.Lq,QS.yA.n]
def QS.first(s:QS):Int×Int×Bool:=if s.n=0 then(0,0,false)else(s.I 0,s.K 0,true)
theorem Lt{s:QS}(h:¬(id<0\/63<id))(h2:¬s.at_ id=0):s.iZ id=(s.K (s.at_ id-1),0):=by grind [QS.iZ]
def ie(s:QS)(p:Option Addr)(cap:Nat)(i:Nat):Value:=if i=0 then .slice p s.n cap else if i<65 then iI (s.at_ ((i-1:Nat):Int))else undef
abbrev f5(b0 o0:Nat)(s:QS)(p:Option Addr)(cap:Nat):aG:=.cells b0 o0 65 (ie s p cap)
def iP(s:QS)(i:Nat):Value:=if i%2=0 then .int .u64 (s.K ((i/2:Nat):Int))else iI (s.I ((i/2:Nat):Int))
def r8(k i:Int)(j:Nat):Value:=if j=0 then .int .u64 k else if j=1 then iI i else undef
def je(s:QS)(p:Option Addr)(cap:Nat):0+0<65/\ie s p cap (0+0)= .slice p s.n cap:=⟨og,rfl⟩
def zB(s:QS)(p:Option Addr)(cap:Nat)(z:Int)(h:0<=z/\z<64:=by omega):0+1+z.toNat*1<65/\ie s p cap (0+1+z.toNat*1)=iI (s.at_ z):=by
 grind [ie]
def Hn(s:QS)(p p':Option Addr)(cap dv n':Nat):0+0<65/\ep (ie s p cap) (0+0) (.slice p' n' dv)=ie {s with n:=n'} p' dv:=by
 grind [ep,ie]
theorem Ei(s:QS)(p:Option Addr)(cap:Nat)(z v:Int)(h:0<=z/\z<64):0+1+z.toNat*1<65/\ep (ie s p cap) (0+1+z.toNat*1) (iI v)=ie {s with at_:=ad s.at_ z v} p cap:=by
 grind [ep,ie,ad]
def Ej(s:QS)(n:Nat)(z:Int)(h:0<=z/\z<n:=by omega):0+z.toNat*2+0<n*2/\iP s (0+z.toNat*2+0)= .int .u64 (s.K z):=by
 grind [iP]
def aaM(s:QS)(n:Nat)(z:Int)(h:0<=z/\z<n):0+z.toNat*2+1<n*2/\iP s (0+z.toNat*2+1)=iI (s.I z):=by
 grind [iP]
def lu(s:QS)(n:Nat)(z:Int)(h:0<=z/\z<n:=by omega):0+z.toNat*2+2<=n*2/\dB (iP s) (0+z.toNat*2) 2= .agg #[.int .u64 (s.K z),iI (s.I z)]:=by
 grind [dB,List.range,List.range.loop,iP]
def Wd(s:QS)(n:Nat)(z k i:Int)(h:0<=z/\z<n):0+z.toNat*2+2<=n*2/\cY (iP s) (0+z.toNat*2) [.int .u64 k,iI i]=iP {s with K:=ad s.K z k,I:=ad s.I z i} :=by
 refine⟨og,?_⟩;funext j;simp only[cY,ep];grind [iP,ad]
def SR(s:QS)(k id:Int):∀ i,i<(s.n+1)*2->iP (s.lq k id) i=if i<s.n*2 then iP s i else cellsOf #[.int .u64 k,iI id] (i-s.n*2):=by
 intro i hi;unfold iP QS.lq ad;by_cases h:i<s.n*2
 ·grind
 ·have h3:((i/2:Nat):Int)=s.n:=og;have h4:i-s.n*2=0\/i-s.n*2=1:=og;rcases h4 with h4 | h4
  ·have h5:i%2=0:=og;simp only[if_neg h,if_pos h3,if_pos h5,h4];rfl
  ·have h5:¬i%2=0:=og;simp only[if_neg h,if_pos h3,if_neg h5,h4];rfl
def We(s:QS)(p p':Option Addr)(cap dv:Nat)(k id:Int):0+0<65/\ep (ie s p cap) (0+0) (.slice p' (s.n+1) dv)=ie (s.lq k id) p' dv:=Hn s p p' cap dv (s.n+1)
def Wf(s:QS)(p:Option Addr)(cap:Nat)(id:Int)(h:0<=id/\id<64):0+1+id.toNat*1<65/\ep (ie {s with n:=s.n-1} p cap) (0+1+id.toNat*1) (iI 0)=ie (s.fH id) p cap:=by grind [Ei,QS.fH]
def wJ(k i:Int):0+0<2/\r8 k i (0+0)= .int .u64 k:=⟨og,rfl⟩
def zC(k i:Int):0+1<2/\r8 k i (0+1)=iI i:=⟨og,rfl⟩
def kS(k i:Int):0+2<=2/\dB (r8 k i) 0 2= .agg #[.int .u64 k,iI i]:=⟨og,rfl⟩
def Bi(k i:Int):∀ j,j<2->cellsOf #[.int .u64 k,iI i] j=r8 k i j:=fun j hj=>match j,hj with
 | 0,_=>rfl
 | 1,_=>rfl
 | j+2,h=>absurd h og
def Bj(k i:Int):0+2<=2/\cY (cellsOf #[.int .u64 0,iI 0]) 0 [.int .u64 k,iI i]=r8 k i:=by
 refine⟨og,?_⟩;funext j;match j with
 | 0=>rfl
 | 1=>rfl
 | j+2=>
  have e1:cY (cellsOf #[.int .u64 0,iI 0]) 0 [.int .u64 k,iI i] (j+2)=undef:=by simp[cY,ep,cellsOf]
  have e2:r8 k i (j+2)=undef:=by simp[r8]
  rw[e1,e2]
def QS.ZY(s:QS):Prop:=∀ j:Int,0<=j->j<s.n->0<=s.I j/\s.I j<64
theorem QS.ZY.set{s:QS}(h:s.ZY){i k id:Int}(hd:0<=id/\id<64):(s.set i k id).ZY:=fun j j0 j1=>by
 show 0<=ad s.I i id j/\ad s.I i id j<64;unfold ad;split
 ·omega
 ·exact h j j0 j1
theorem Ek:∀ (f:Nat) (s:QS) (i k id:Int),(QS.lG f s i k id).n=s.n
 | 0,_,_,_,_=>rfl
 | f+1,s,i,k,id=>by
  rw[QS.lG];split
  ·rw[Ek f];rfl
  ·rfl
def SU(s:QS)(i:Int):(s.down i).n=s.n:=Ek _ _ _ _ _
theorem QS.r9{s:QS}(h:id<0\/63<id):s.put id k=(1,s):=by grind [QS.put]
theorem QS.wK{s:QS}(h:¬(id<0\/63<id))(h2:0<s.at_ id):s.put id k=(3,s):=by grind [QS.put]
theorem QS.vi{s:QS}(h:¬(id<0\/63<id))(h2:¬ 0<s.at_ id):s.put id k=(0,(s.lq k id).up s.n):=by grind [QS.put]
theorem tm{s:QS}(h:id<0\/63<id):s.cut id=(0,1,s):=by grind [QS.cut]
theorem CD{s:QS}(h:¬(id<0\/63<id))(h2:s.at_ id=0):s.cut id=(0,2,s):=by grind [QS.cut]
theorem vj{s:QS}(h:¬(id<0\/63<id):=by omega)(h2:¬s.at_ id=0:=by omega):s.cut id=(s.K (s.at_ id-1),0,s.xQ id):=by grind [QS.cut]
structure RQ where
 Bk:Int->Bool
 iZ:Int->Int
def RQ.is(r:RQ)(id:Int):Int:=if id<0\/63<id then 1 else if r.Bk id then 0 else 2
def RQ.put(r:RQ)(id k:Int):Int×RQ:=if r.is id=1 then(1,r)else if r.is id=0 then(3,r)else(0,⟨ad r.Bk id true,ad r.iZ id k⟩)
def RQ.NI(r:RQ)(id:Int)(cut:Bool):Int×Int×RQ:=if r.is id≠0 then(0,r.is id,r)else(r.iZ id,0,if cut then {r with Bk:=ad r.Bk id false} else r)
theorem RQ.sa{r:RQ}(h:id<0\/63<id):r.is id=1:=by unfold RQ.is;rw[if_pos h]
theorem RQ.zD{r:RQ}(h:¬(id<0\/63<id))(ht:r.Bk id=false):r.is id=2:=by grind [RQ.is]
theorem RQ.El{r:RQ}(h:¬(id<0\/63<id))(ht:r.Bk id=true):r.is id=0:=by grind [RQ.is]
theorem RQ.r9{r:RQ}(k:Int)(h:r.is id=1):r.put id k=(1,r):=by grind [RQ.put]
theorem RQ.wK{r:RQ}(k:Int)(h1:¬r.is id=1)(h:r.is id=0):r.put id k=(3,r):=by grind [RQ.put]
theorem RQ.vi{r:RQ}(k:Int)(h1:¬r.is id=1)(h:¬r.is id=0):r.put id k=(0,⟨ad r.Bk id true,ad r.iZ id k⟩):=by grind [RQ.put]
theorem Wg{r:RQ}(c:Bool)(h:¬r.is id=0):r.NI id c=(0,r.is id,r):=by grind [RQ.NI]
theorem RQ.Ob{r:RQ}(h:r.is id=0):r.NI id true=(r.iZ id,0,{r with Bk:=ad r.Bk id false}):=by grind [RQ.NI]
theorem Ho{r:RQ}(h:r.is id=0):r.NI id false=(r.iZ id,0,r):=by grind [RQ.NI]
structure nr(s:QS)(r:RQ):Prop where
 ok:s.Ok
 heap:s.xJ
 Bk:∀ id,0<=id->id<64->(r.Bk id=true↔¬s.at_ id=0)
 iZ:∀ id,0<=id->id<64->¬s.at_ id=0->r.iZ id=s.Oa id
def RQ.dR:RQ:=⟨fun _=>false,fun _=>0⟩
theorem nr.dR:nr QS.dR RQ.dR:=⟨QS.Ok.dR,Jb,fun id _ _=>by
  show(false=true)↔¬(0:Int)=0
  simp,fun id _ _ h=>absurd rfl h⟩
theorem nr.is{s:QS}{r:RQ}(h:nr s r){id:Int}(hd:0<=id/\id<64):r.is id=if s.at_ id=0 then 2 else 0:=by
 grind [nr.Bk,RQ.zD,RQ.El]
theorem nr.put{s:QS}{r:RQ}(h:nr s r)(id k:Int):(s.put id k).1=(r.put id k).1/\nr (s.put id k).2 (r.put id k).2:=by
 by_cases c1:id<0\/63<id
 ·grind [QS.r9,RQ.r9,RQ.sa]
 ·have hd:0<=id/\id<64:=og;have ym:=h.is hd;by_cases hz:s.at_ id=0
  ·rw[if_pos hz]at ym;rw[QS.vi c1 og,RQ.vi k og og];obtain⟨r1,r2,r3,r4,r5⟩:=h.ok.ae0 h.heap hd hz k;refine⟨rfl,r1,r2,fun m m0 m1=> ?_,fun m m0 m1 mp=> ?_⟩
   ·grind [nr.Bk,ah,ae]
   ·show ad r.iZ id k m=_;by_cases q:m=id
    ·grind [ah]
    ·have hz2:¬s.at_ m=0:=fun e=>mp ((r4 m m0 m1).1.2 ⟨q,e⟩);rw[ae _ _ q,(r4 m m0 m1).2 q hz2];exact h.iZ m m0 m1 hz2
  ·rw[if_neg hz]at ym;have hp:0<s.at_ id:=by rcases h.ok.N9 id hd.1 hd.2 with q | q<;>omega
   grind [QS.wK,RQ.wK]
theorem nr.cut{s:QS}{r:RQ}(h:nr s r)(id:Int):(s.cut id).1=(r.NI id true).1/\(s.cut id).2.1=(r.NI id true).2.1/\nr (s.cut id).2.2 (r.NI id true).2.2:=by
 by_cases c1:id<0\/63<id
 ·grind [RQ.sa,tm,RQ.NI]
 ·have hd:0<=id/\id<64:=og;have ym:=h.is hd;by_cases hz:s.at_ id=0
  ·grind [CD,RQ.NI]
  ·rw[if_neg hz]at ym;rw[vj c1 hz,RQ.Ob ym];obtain⟨r1,r2,r3,r4⟩:=h.ok.ae1 h.heap hd hz;refine⟨(h.iZ id hd.1 hd.2 hz).symm,rfl,r1,r2,fun m m0 m1=> ?_,fun m m0 m1 mp=> ?_⟩
   ·grind [nr.Bk,ah,ae]
   ·show r.iZ m=_;have q:¬m=id:=fun e=>mp ((r4 m m0 m1).1.2 (.inl e));have hz2:¬s.at_ m=0:=fun e=>mp ((r4 m m0 m1).1.2 (.inr e));rw[(r4 m m0 m1).2 q hz2];exact h.iZ m m0 m1 hz2
theorem nr.ae2{s:QS}{r:RQ}(h:nr s r)(id:Int):(s.iZ id).1=(r.NI id false).1/\(s.iZ id).2=(r.NI id false).2.1/\(r.NI id false).2.2=r:=by
 by_cases c1:id<0\/63<id
 ·grind [RQ.sa,QS.iZ,RQ.NI]
 ·have hd:0<=id/\id<64:=og;have ym:=h.is hd;by_cases hz:s.at_ id=0
  ·grind [QS.iZ,RQ.NI]
  ·rw[if_neg hz]at ym;rw[Lt c1 hz,Ho ym];exact⟨(h.iZ id hd.1 hd.2 hz).symm,rfl,rfl⟩
structure SF where
 aa:Int->Bool
 aA:Int->Int
 wt:Int->Int
 v:Int->Int
 wL:Int->Int
 di:Int->Bool
 fk:Int->Int
 xV:Int->Bool
 ef:Int->Int
 ft:Int->Int
 ek:Int->Int
 iC:Int
 cJ:Int->Bool
structure SC extends SF where
 Q:Int->QS
 P:Int->Option Addr
 C:Int->Nat
namespace SF
def gK(s:SF)(n:Int):Bool:=(List.range 30).any (fun i=>s.cJ (i:Int)&&decide (s.aA (i:Int)=n))
def ready(s:SF)(n:Int):Bool:=if 10<=n then s.di n else s.gK n&& !s.xV n&&(decide (s.ef n=0)||decide (s.ek n<s.ef n))
def wM(s:SF)(n:Int):SF:= {s with v:=ad s.v n (if s.ready n=true/\s.cJ n=false then max (s.v n) (s.fk (s.aA n))else s.v n),cJ:=ad s.cJ n (s.ready n)}
def iQ:Nat->SF->Int->SF
 | 0,s,_=>s
 | k+1,s,n=>if n<=0 then s else iQ k (s.wM n) (s.aA n)
def look(d:Int->Nat)(s:SF)(n:Int):SF:=iQ (d n+1) s n
def oO(s:SF)(n:Int):SF:= {s with fk:=ad s.fk (s.aA n) (max (s.fk (s.aA n)) (s.v n)),v:=ad s.v n (s.v n+1048576/s.wt n),wL:=ad s.wL n (s.wL n+1),ek:=if 0<s.ef n then ad s.ek n (s.ek n+1)else s.ek}
def Bl(s:SF)(n:Int):SF:= {s.oO n with cJ:=ad s.cJ n ((s.oO n).ready n)}
def xK:Nat->SF->Int->SF
 | 0,s,_=>s
 | k+1,s,n=>if n<=0 then s else xK k (s.Bl n) (s.aA n)
def vl(d:Int->Nat)(s:SF)(n:Int):SF:=if s.aa n=true/\0<s.ef n/\s.iC%s.ft n=0 then look d {s with ek:=ad s.ek n 0} n else s
def nJ(d:Int->Nat)(s:SF):Nat->SF
 | 0=>s
 | k+1=>vl d (nJ d s k) ((k:Int)+1)
def o6(s:SF)(g:Int):Nat->Int
 | 0=> -1
 | k+1=>if s.cJ (29-(k:Int))=true/\s.aA (29-(k:Int))=g/\(o6 s g k<0\/s.v (29-(k:Int))<=s.v (o6 s g k))then 29-(k:Int)else o6 s g k
def p6(s:SF)(g:Int):Int:=o6 s g 29
def NJ(s:SF):Nat->Int->Int
 | 0,at_=>at_
 | k+1,at_=>if 10<=at_ then at_ else if s.p6 at_<0 then-1 else NJ s k (s.p6 at_)
def Jc(d:Int->Nat):Nat->Nat
 | 0=>0
 | k+1=>max (Jc d k) (d (k:Int))
def p7(d:Int->Nat)(s:SF):SF:= {nJ d s 9 with iC:=s.iC+1}
def b8(d:Int->Nat)(s:SF):Int:=NJ (p7 d s) (Jc d 30+1) 0
def l8(d:Int->Nat)(s:SF):Int×SF:=if b8 d s<0 then(-1,p7 d s)else(b8 d s-10,xK (d (b8 d s)+1) (p7 d s) (b8 d s))
def mq(s:SF)(g:Int):RQ:=⟨fun i=>s.cJ i&&decide (s.aA i=g),s.v⟩
structure Inv(s:SF)(d:Int->Nat):Prop where
 h0:s.aa 0=true
 up:∀ n,0<n->n<30->s.aa n=true->0<=s.aA n/\s.aA n<10/\s.aa (s.aA n)=true/\d (s.aA n)<d n
 cJ:∀ n,s.cJ n=true->0<n/\n<30/\s.aa n=true
 quo:∀ n,0<=n->n<30->0<=s.ef n/\(0<s.ef n->1<=s.ft n)
 wt:∀ n,0<=n->n<30->s.aa n=true->1<=s.wt n
def cb(s:SF)(B:Int):Prop:=∀ n,0<=n->n<30->0<=s.v n/\s.v n<=B/\0<=s.fk n/\s.fk n<=B/\0<=s.wL n/\s.wL n<=B/\0<=s.ek n/\s.ek n<=B
end SF
def SC.nt(s:SC):Prop:=∀ g,0<=g->g<30->nr (s.Q g) (s.toSF.mq g)
namespace SF
theorem sc(s:SF)(n:Int):s.gK n=true↔∃ i:Int,0<=i/\i<30/\s.cJ i=true/\s.aA i=n:=by
 unfold gK;simp only[List.any_eq_true,List.mem_range,Bool.and_eq_true,decide_eq_true_eq];constructor
 ·grind
 ·rintro⟨k,h1,h2,h3,h4⟩;refine⟨k.toNat,og,?_⟩;grind
def tq(s:SF)(g i:Int):(s.mq g).Bk i=true↔s.cJ i=true/\s.aA i=g:=by
 grind [mq]
end SF
theorem nr.len{q:QS}{r:RQ}(h:nr q r):0<q.n↔∃ i,0<=i/\i<64/\r.Bk i=true:=by
 constructor
 ·intro hn;have hd:=h.ok.jV 0 og og;have ha:=h.ok.Lq 0 og og;exact⟨q.I 0,hd.1,hd.2,(h.Bk _ hd.1 hd.2).2 og⟩
 ·rintro⟨i,i0,i1,hi⟩;have:=(h.Bk i i0 i1).1 hi;rcases h.ok.N9 i i0 i1 with e | ⟨e1,e2,_⟩;all_goals omega
theorem nr.head{q:QS}{r:RQ}(h:nr q r)(hn:0<q.n):(0<=q.I 0/\q.I 0<64)/\r.Bk (q.I 0)=true/\∀ i,0<=i->i<64->r.Bk i=true->¬Cz (r.iZ i) i (r.iZ (q.I 0)) (q.I 0):=by
 have hd:=h.ok.jV 0 og og;have ha:=h.ok.Lq 0 og og;have hp:¬q.at_ (q.I 0)=0:=og;have hk:q.Oa (q.I 0)=q.K 0:=by unfold QS.Oa;rw[ha];rfl
 refine⟨hd,(h.Bk _ hd.1 hd.2).2 hp,fun i i0 i1 hi hl=> ?_⟩;have NK:=(h.Bk i i0 i1).1 hi;rw[h.iZ _ hd.1 hd.2 hp,hk,h.iZ i i0 i1 NK]at hl;obtain⟨b1,b2,b3⟩:=(h.ok.N9 i i0 i1).resolve_left NK;have hl2:=h.heap.adC (q.at_ i-1).toNat (q.at_ i-1) og og og;unfold QS.L at hl2;rw[b3]at hl2;exact hl2 hl
def nr.ext{q:QS}{r r':RQ}(h:nr q r)(hi:∀ i,0<=i->i<64->r'.Bk i=r.Bk i)(hk:∀ i,0<=i->i<64->r.Bk i=true->r'.iZ i=r.iZ i):nr q r':=
 ⟨h.ok,h.heap,fun i i0 i1=>by rw[hi i i0 i1];exact h.Bk i i0 i1,fun i i0 i1 hp=>by rw[hk i i0 i1 ((h.Bk i i0 i1).2 hp)];exact h.iZ i i0 i1 hp⟩
theorem jB(C:Nat->Value):∀ (vs:List Value) (i j:Nat),j<i->cY C i vs j=C j
 | [],_,_,_=>rfl
 | v::r,i,j,h=>by
  unfold cY;rw[jB (ep C i v) r (i+1) j og];simp[ep];omega
theorem gB:∀ (vs:List Value) (C:Nat->Value) (i j:Nat) (v:Value),vs[j]? =some v->cY C i vs (i+j)=v
 | [],_,_,_,_,h=>by simp at h
 | u::r,C,i,0,v,h=>by
  have h2:u=v:=by simpa using h
  unfold cY;rw[jB _ _ _ _ og,<-h2];simp[ep]
 | u::r,C,i,j+1,v,h=>by
  unfold cY;have:=gB r (ep C i u) (i+1) j v (by simpa using h);rw[show i+1+j=i+(j+1)from og]at this;exact this
theorem jC:∀ (vs:List Value) (C:Nat->Value) (i j:Nat),i+vs.length<=j->cY C i vs j=C j
 | [],_,_,_,_=>rfl
 | v::r,C,i,j,h=>by
  simp only[List.length_cons]at h;unfold cY;rw[jC r (ep C i v) (i+1) j og];simp[ep];omega
structure aH.U where
 aa:Bool
 aA:Int
 wt:Int
 v:Int
 wL:Int
 di:Bool
 fk:Int
 xV:Bool
 ef:Int
 ft:Int
 ek:Int
 q:QS
 p:Option Addr
 c:Nat
def aH.un(s:SC)(z:Int):aH.U:=⟨s.aa z,s.aA z,s.wt z,s.v z,s.wL z,s.di z,s.fk z,s.xV z,s.ef z,s.ft z,s.ek z,s.Q z,s.P z,s.C z⟩
def aH.cell(u:aH.U)(j:Nat):Value:=
 if j=0 then .bool u.aa else
 if j=1 then iI u.aA else
 if j=2 then iI u.wt else
 if j=3 then .int .u64 u.v else
 if j=4 then iI u.wL else
 if j=5 then .bool u.di else
 if 6<=j/\j<71 then ie u.q u.p u.c (j-6)else
 if j=71 then .int .u64 u.fk else
 if j=72 then .bool u.xV else
 if j=73 then iI u.ef else
 if j=74 then iI u.ft else
 if j=75 then iI u.ek else
 undef
def aH(s:SC)(i:Nat):Value:=
 if i<2280 then aH.cell (aH.un s ((i/76:Nat):Int)) (i%76)else
 if i=2280 then iI s.iC else
 undef
abbrev d6(b0 o0:Nat)(s:SC):aG:=.cells b0 o0 2281 (aH s)
theorem aH.at_(s:SC)(z:Int)(h:0<=z/\z<30)(j:Nat)(hj:j<76):aH s (0+0+z.toNat*76+j)=aH.cell (aH.un s z) j:=by
 unfold aH;grind
theorem aH.set(s s':SC)(z:Int)(h:0<=z/\z<30)(k:Nat)(hk:k<76)(v:Value)(hv:∀ j,aH.cell (aH.un s' z) j=if j=k then v else aH.cell (aH.un s z) j)(ho:∀ y,¬y=z->aH.un s' y=aH.un s y)(hn:s'.iC=s.iC):0+0+z.toNat*76+k<2281/\ep (aH s) (0+0+z.toNat*76+k) v=aH s':=by
 grind [ep,aH]
def aH.Wh(s s':SC)(z:Int)(h:0<=z/\z<30)(vs:List Value)(hl:vs.length=76)(hv:∀ j,j<76->vs[j]? =some (aH.cell (aH.un s' z) j))(ho:∀ y,¬y=z->aH.un s' y=aH.un s y)(hn:s'.iC=s.iC):0+0+z.toNat*76+76<=2281/\cY (aH s) (0+0+z.toNat*76) vs=aH s':=by
 refine⟨og,?_⟩;funext i;by_cases a1:i<0+0+z.toNat*76
 ·rw[jB _ _ _ _ a1];unfold aH;grind
 ·by_cases a2:i<0+0+z.toNat*76+76
  ·obtain⟨j,rfl⟩:∃ j,i=0+0+z.toNat*76+j:=⟨i-(0+0+z.toNat*76),og⟩;rw[aH.at_ s' z h j og];exact gB vs _ _ _ _ (hv j og)
  ·rw[jC _ _ _ _ og];unfold aH;grind
def jD(s:SC)(z:Int)(h:0<=z/\z<30:=by omega):0+0+z.toNat*76+0<2281/\aH s (0+0+z.toNat*76+0)= .bool (s.aa z):=⟨og,aH.at_ s z h 0 og⟩
def fy(s:SC)(z:Int)(h:0<=z/\z<30:=by omega):0+0+z.toNat*76+1<2281/\aH s (0+0+z.toNat*76+1)=iI (s.aA z):=⟨og,aH.at_ s z h 1 og⟩
def Bm(s:SC)(z:Int)(h:0<=z/\z<30)(v:Int):0+0+z.toNat*76+1<2281/\ep (aH s) (0+0+z.toNat*76+1) (iI v)=aH {s with aA:=ad s.aA z v} :=aH.set s {s with aA:=ad s.aA z v} z h 1 og _ (fun j=>by
 have e:aH.un {s with aA:=ad s.aA z v} z= {aH.un s z with aA:=v} :=by unfold aH.un;simp only[ah]
 rw[e]
 by_cases hj:j=1
 ·subst hj;rfl
 ·unfold aH.cell;simp only[if_neg hj]) (fun y hy=>by unfold aH.un;simp only[ae _ _ hy]) rfl
def Bn(s:SC)(z:Int)(h:0<=z/\z<30):0+0+z.toNat*76+2<2281/\aH s (0+0+z.toNat*76+2)=iI (s.wt z):=⟨og,aH.at_ s z h 2 og⟩
def vm(s:SC)(z:Int)(h:0<=z/\z<30:=by omega):0+0+z.toNat*76+3<2281/\aH s (0+0+z.toNat*76+3)= .int .u64 (s.v z):=⟨og,aH.at_ s z h 3 og⟩
def vn(s:SC)(z:Int)(h:0<=z/\z<30)(v:Int):0+0+z.toNat*76+3<2281/\ep (aH s) (0+0+z.toNat*76+3) (.int .u64 v)=aH {s with v:=ad s.v z v} :=aH.set s {s with v:=ad s.v z v} z h 3 og _ (fun j=>by
 have e:aH.un {s with v:=ad s.v z v} z= {aH.un s z with v:=v} :=by unfold aH.un;simp only[ah]
 rw[e]
 by_cases hj:j=3
 ·subst hj;rfl
 ·unfold aH.cell;simp only[if_neg hj]) (fun y hy=>by unfold aH.un;simp only[ae _ _ hy]) rfl
def Gw(s:SC)(z:Int)(h:0<=z/\z<30):0+0+z.toNat*76+4<2281/\aH s (0+0+z.toNat*76+4)=iI (s.wL z):=⟨og,aH.at_ s z h 4 og⟩
def Gx(s:SC)(z:Int)(h:0<=z/\z<30)(v:Int):0+0+z.toNat*76+4<2281/\ep (aH s) (0+0+z.toNat*76+4) (iI v)=aH {s with wL:=ad s.wL z v} :=aH.set s {s with wL:=ad s.wL z v} z h 4 og _ (fun j=>by
 have e:aH.un {s with wL:=ad s.wL z v} z= {aH.un s z with wL:=v} :=by unfold aH.un;simp only[ah]
 rw[e]
 by_cases hj:j=4
 ·subst hj;rfl
 ·unfold aH.cell;simp only[if_neg hj]) (fun y hy=>by unfold aH.un;simp only[ae _ _ hy]) rfl
def ux(s:SC)(z:Int)(h:0<=z/\z<30:=by omega):0+0+z.toNat*76+5<2281/\aH s (0+0+z.toNat*76+5)= .bool (s.di z):=⟨og,aH.at_ s z h 5 og⟩
def lS(s:SC)(z:Int)(h:0<=z/\z<30)(v:Bool):0+0+z.toNat*76+5<2281/\ep (aH s) (0+0+z.toNat*76+5) (.bool v)=aH {s with di:=ad s.di z v} :=aH.set s {s with di:=ad s.di z v} z h 5 og _ (fun j=>by
 have e:aH.un {s with di:=ad s.di z v} z= {aH.un s z with di:=v} :=by unfold aH.un;simp only[ah]
 rw[e]
 by_cases hj:j=5
 ·subst hj;rfl
 ·unfold aH.cell;simp only[if_neg hj]) (fun y hy=>by unfold aH.un;simp only[ae _ _ hy]) rfl
def uy(s:SC)(z:Int)(h:0<=z/\z<30:=by omega):0+0+z.toNat*76+71<2281/\aH s (0+0+z.toNat*76+71)= .int .u64 (s.fk z):=⟨og,aH.at_ s z h 71 og⟩
def Dc(s:SC)(z:Int)(h:0<=z/\z<30)(v:Int):0+0+z.toNat*76+71<2281/\ep (aH s) (0+0+z.toNat*76+71) (.int .u64 v)=aH {s with fk:=ad s.fk z v} :=aH.set s {s with fk:=ad s.fk z v} z h 71 og _ (fun j=>by
 have e:aH.un {s with fk:=ad s.fk z v} z= {aH.un s z with fk:=v} :=by unfold aH.un;simp only[ah]
 rw[e]
 by_cases hj:j=71
 ·subst hj;rfl
 ·unfold aH.cell;simp only[if_neg hj]) (fun y hy=>by unfold aH.un;simp only[ae _ _ hy]) rfl
def Bo(s:SC)(z:Int)(h:0<=z/\z<30):0+0+z.toNat*76+72<2281/\aH s (0+0+z.toNat*76+72)= .bool (s.xV z):=⟨og,aH.at_ s z h 72 og⟩
def Bp(s:SC)(z:Int)(h:0<=z/\z<30)(v:Bool):0+0+z.toNat*76+72<2281/\ep (aH s) (0+0+z.toNat*76+72) (.bool v)=aH {s with xV:=ad s.xV z v} :=aH.set s {s with xV:=ad s.xV z v} z h 72 og _ (fun j=>by
 have e:aH.un {s with xV:=ad s.xV z v} z= {aH.un s z with xV:=v} :=by unfold aH.un;simp only[ah]
 rw[e]
 by_cases hj:j=72
 ·subst hj;rfl
 ·unfold aH.cell;simp only[if_neg hj]) (fun y hy=>by unfold aH.un;simp only[ae _ _ hy]) rfl
def lT(s:SC)(z:Int)(h:0<=z/\z<30:=by omega):0+0+z.toNat*76+73<2281/\aH s (0+0+z.toNat*76+73)=iI (s.ef z):=⟨og,aH.at_ s z h 73 og⟩
def Dd(s:SC)(z:Int)(h:0<=z/\z<30)(v:Int):0+0+z.toNat*76+73<2281/\ep (aH s) (0+0+z.toNat*76+73) (iI v)=aH {s with ef:=ad s.ef z v} :=aH.set s {s with ef:=ad s.ef z v} z h 73 og _ (fun j=>by
 have e:aH.un {s with ef:=ad s.ef z v} z= {aH.un s z with ef:=v} :=by unfold aH.un;simp only[ah]
 rw[e]
 by_cases hj:j=73
 ·subst hj;rfl
 ·unfold aH.cell;simp only[if_neg hj]) (fun y hy=>by unfold aH.un;simp only[ae _ _ hy]) rfl
def Bq(s:SC)(z:Int)(h:0<=z/\z<30):0+0+z.toNat*76+74<2281/\aH s (0+0+z.toNat*76+74)=iI (s.ft z):=⟨og,aH.at_ s z h 74 og⟩
def Br(s:SC)(z:Int)(h:0<=z/\z<30)(v:Int):0+0+z.toNat*76+74<2281/\ep (aH s) (0+0+z.toNat*76+74) (iI v)=aH {s with ft:=ad s.ft z v} :=aH.set s {s with ft:=ad s.ft z v} z h 74 og _ (fun j=>by
 have e:aH.un {s with ft:=ad s.ft z v} z= {aH.un s z with ft:=v} :=by unfold aH.un;simp only[ah]
 rw[e]
 by_cases hj:j=74
 ·subst hj;rfl
 ·unfold aH.cell;simp only[if_neg hj]) (fun y hy=>by unfold aH.un;simp only[ae _ _ hy]) rfl
def vo(s:SC)(z:Int)(h:0<=z/\z<30:=by omega):0+0+z.toNat*76+75<2281/\aH s (0+0+z.toNat*76+75)=iI (s.ek z):=⟨og,aH.at_ s z h 75 og⟩
def p8(s:SC)(z:Int)(h:0<=z/\z<30)(v:Int):0+0+z.toNat*76+75<2281/\ep (aH s) (0+0+z.toNat*76+75) (iI v)=aH {s with ek:=ad s.ek z v} :=aH.set s {s with ek:=ad s.ek z v} z h 75 og _ (fun j=>by
 have e:aH.un {s with ek:=ad s.ek z v} z= {aH.un s z with ek:=v} :=by unfold aH.un;simp only[ah]
 rw[e]
 by_cases hj:j=75
 ·subst hj;rfl
 ·unfold aH.cell;simp only[if_neg hj]) (fun y hy=>by unfold aH.un;simp only[ae _ _ hy]) rfl
def CE(s:SC):0+2280<2281/\aH s (0+2280)=iI s.iC:=by grind [aH]
def Lu(s:SC)(v:Int):0+2280<2281/\ep (aH s) (0+2280) (iI v)=aH {s with iC:=v} :=by
 refine⟨og,?_⟩;funext i;unfold ep aH;by_cases hi:i=0+2280
 ·simp_all
 ·rw[if_neg hi];by_cases c1:i<2280
  ·rw[if_pos c1,if_pos c1];rfl
  grind
def cI:Nat->Bool:=fun i=>Nat.blt i 30
def SC.dI(e:TypeId)(s:SC):Nat->re:=fun i=>⟨.slice (s.P (i:Int)) (s.Q (i:Int)).n (s.C (i:Int)),e,2,(s.Q (i:Int)).n,cE (iP (s.Q (i:Int))) ((s.Q (i:Int)).n*2)⟩
abbrev jq(z:Int):Nat:=0+0+z.toNat*76+6
theorem Wi(s:SC)(h:0<=z/\z<30){i:Nat}(hi:i<65):aH s (jq z+i)=ie (s.Q z) (s.P z) (s.C z) i:=by
 have e:=aH.at_ s z h (6+i) og;rw[show jq z+i=0+0+z.toNat*76+(6+i)from by unfold jq;omega,e];unfold aH.cell;rw[if_neg og,if_neg og,if_neg og,if_neg og,if_neg og,if_neg og,if_pos og,show 6+i-6=i from og];rfl
section
variable{W w:World}{S:Nat->Nat->Prop}{H F:List aG}
def XM.Ds{b o n:Nat}{C C':Nat->Value}(hC:∀ i,i<n->C i=C' i)(h:XM W S (.cells b o n C::H) w):XM W S (.cells b o n C'::H) w:=by
 obtain⟨⟨hh,pe⟩,hk,hm⟩:=h;rw[List.pairwise_cons]at pe;refine⟨⟨fun e he=> ?_,List.pairwise_cons.2 ⟨pe.1,pe.2⟩⟩,hk,fun e he=> ?_⟩
 ·rcases List.mem_cons.1 he with rfl | he
  ·obtain⟨A,t,lo,hi,h1,h2⟩:=hh (.cells b o n C) sq;exact⟨A,t,lo,hi,h1,fun i SD=>by rw[<-hC i SD];exact h2 i SD⟩
  simp_all
 ·rcases List.mem_cons.1 he with rfl | he
  ·exact hm (.cells b o n C) sq
  grind
def oB{b o:Nat}{e:TypeId}{s:SC}(hz:0<=z/\z<30)(hp:cX H [d6 b o s,.aV cI (s.dI e)] F)(h:XM W S H w):XM W S (.cells b (o+jq z) 65 (ie (s.Q z) (s.P z) (s.C z))::aN (s.P z) (s.C z) e 2 (s.Q z).n (iP (s.Q z)):: .cells b o (jq z) (aH s):: .cells b (o+jq z+65) (2281-jq z-65) (fun i=>aH s (jq z+65+i)):: .aV (jS cI z.toNat) (s.dI e)::F) w:=by
 have Oc:jq z+65<=2281:=by unfold jq;omega
 have h1:=h.cG hp.cG;have h2:=XM.part (n:=2281) (off:=jq z) (m:=65) Oc h1;have h3:=XM.Ds (C':=ie (s.Q z) (s.P z) (s.C z)) (fun i hi=>Wi s hz hi) h2;have h4:=h3.cG (H':=.aV cI (s.dI e):: .cells b (o+jq z) 65 (ie (s.Q z) (s.P z) (s.C z)):: .cells b o (jq z) (aH s):: .cells b (o+jq z+65) (2281-jq z-65) (fun i=>aH s (jq z+65+i))::F)
  (ox.cG (.ao (.ao (.ao .aa))))
 have h5:=pI z.toNat (by show Nat.blt z.toNat 30=true;simp;omega) h4;have e1:(s.dI e z.toNat).D3=aN (s.P z) (s.C z) e 2 (s.Q z).n (iP (s.Q z)):=by
  grind [SC.dI]
 rw[e1]at h5;exact h5.cG (cX.cG (E:=[_,_,_,_,_]) (F:=F) (pk [2,0,1,1,0]))
theorem Wj(s:SC)(z:Int)(q:QS)(p:Option Addr)(c:Nat)(h:0<=z/\z<30)(i:Nat)(hi:i<jq z\/jq z+65<=i):aH {s with Q:=ad s.Q z q,P:=ad s.P z p,C:=ad s.C z c} i=aH s i:=by
 unfold aH;refine iK (fun c1=> ?_) fun _=>rfl;by_cases cz:((i/76:Nat):Int)=z
 ·have hj:¬(6<=i%76/\i%76<71):=by unfold jq at hi;omega
  rw[cz];unfold aH.cell;simp only[if_neg hj];rfl
 grind [aH.un,ad]
def se{b o:Nat}{e:TypeId}{s:SC}{q:QS}{p:Option Addr}{c:Nat}(hz:0<=z/\z<30)(hp:cX H [f5 b (o+jq z) q p c,aN p c e 2 q.n (iP q),.cells b o (jq z) (aH s),.cells b (o+jq z+65) (2281-jq z-65) fun i=>aH s (jq z+65+i),.aV (jS cI z.toNat) (s.dI e)] F)(h:XM W S H w):XM W S (.cells b o 2281 (aH {s with Q:=ad s.Q z q,P:=ad s.P z p,C:=ad s.C z c}):: .aV cI (SC.dI e {s with Q:=ad s.Q z q,P:=ad s.P z p,C:=ad s.C z c})::F) w:=by
 have Oc:jq z+65<=2281:=by unfold jq;omega
 have h1:=(h.cG hp.cG).cG (cX.cG (E:=[aN p c e 2 q.n (iP q),.aV (jS cI z.toNat) (s.dI e),f5 b (o+jq z) q p c,.cells b o (jq z) (aH s),.cells b (o+jq z+65) (2281-jq z-65) fun i=>aH s (jq z+65+i)]) (F:=F)
  (pk [1,3,0,0,0]))
 have h2:=rU (x:=⟨.slice p q.n c,e,2,q.n,cE (iP q) (q.n*2)⟩) z.toNat (wD _ _) h1;rw[Hf (show cI z.toNat=true by show Nat.blt z.toNat 30=true;simp;omega)]at h2;have e1:Da (s.dI e) z.toNat ⟨.slice p q.n c,e,2,q.n,cE (iP q) (q.n*2)⟩=SC.dI e {s with Q:=ad s.Q z q,P:=ad s.P z p,C:=ad s.C z c} :=by
  grind [n9,SC.dI,mO,ad]
 rw[e1]at h2;have h3:=h2.cG (cX.cG (E:=[f5 b (o+jq z) q p c,.cells b o (jq z) (aH s),.cells b (o+jq z+65) (2281-jq z-65) fun i=>aH s (jq z+65+i),.aV cI (SC.dI e {s with Q:=ad s.Q z q,P:=ad s.P z p,C:=ad s.C z c})]) (F:=F)
  (pk [1,1,1,0]))
 refine XM.Bf (n:=2281) (off:=jq z) (m:=65) Oc (fun i hi=> ?_) (fun i hi=> ?_) (fun i hi=> ?_) h3 og;all_goals grind [Wj,Wi,ah]
def tr{b o:Nat}{e:TypeId}{s:SC}(hz:0<=z/\z<30)(hp:cX H [f5 b (o+jq z) (s.Q z) (s.P z) (s.C z),aN (s.P z) (s.C z) e 2 (s.Q z).n (iP (s.Q z)),.cells b o (jq z) (aH s),.cells b (o+jq z+65) (2281-jq z-65) fun i=>aH s (jq z+65+i),.aV (jS cI z.toNat) (s.dI e)] F)(h:XM W S H w):XM W S (.cells b o 2281 (aH s):: .aV cI (s.dI e)::F) w:=by
 have h1:=se hz hp h;simp_all[da]
theorem XM.newRow{e:TypeId}{s:SC}(hz:0<=z/\z<30)(hp:cX H [.aV cI (s.dI e)] F)(h:XM W S H w):XM W S (.aV cI (SC.dI e {s with Q:=ad s.Q z QS.dR,P:=ad s.P z none,C:=ad s.C z 0})::F) w:=by
 have h1:=pI z.toNat (by show Nat.blt z.toNat 30=true;simp;omega) (h.cG hp.cG);have h2:=XM.pick (E:=.aV (jS cI z.toNat) (s.dI e)::F) (F:=[(s.dI e z.toNat).D3]) (by
  have hq:∀ (x:aG) (L:List aG),cX (x::L) L [x]:=fun x L=>by
   induction L with
   | nil=>exact .nil
   | cons y r ih=>exact .cons (.ao .aa) ih
  exact hq _ _) h1
 have h3:=h2.fU e 2;have h4:=rU (x:=⟨.slice none 0 0,e,2,0,[]⟩) z.toNat (wD _ _) h3;rw[Hf (show cI z.toNat=true by show Nat.blt z.toNat 30=true;simp;omega)]at h4;have e1:Da (s.dI e) z.toNat ⟨.slice none 0 0,e,2,0,[]⟩=SC.dI e {s with Q:=ad s.Q z QS.dR,P:=ad s.P z none,C:=ad s.C z 0} :=by
  funext i;by_cases hi:i=z.toNat
  ·subst hi;rw[n9];unfold SC.dI;simp only[show((z.toNat:Nat):Int)=z from og,ah];rfl
  ·rw[mO _ _ hi];have SD:¬(i:Int)=z:=og;unfold SC.dI;simp only[ae _ _ SD]
 rw[e1]at h4;exact h4
end
theorem SC.nt.gK{s:SC}(h:s.nt)(hw:∀ i,s.cJ i=true->0<i/\i<30){n:Int}(h0:0<=n)(h1:n<30):s.toSF.gK n=decide (0<(s.Q n).n):=by
 rw[Bool.eq_iff_iff,SF.sc,decide_eq_true_eq,(h n h0 h1).len];constructor
 ·rintro⟨i,i0,i1,i2,i3⟩;exact⟨i,i0,og,(SF.tq _ _ _).2 ⟨i2,i3⟩⟩
 ·rintro⟨i,i0,i1,i2⟩;obtain⟨a,b⟩:=(SF.tq _ _ _).1 i2;grind
namespace SF
def xL(s:SF)(n:Int):Int:=if n<0\/10<=n then 1 else if s.aa n=true then 0 else 2
def zF(s:SF)(n:Int):Int:=if n<0\/20<=n then 1 else if s.aa (10+n)=true then 0 else 2
def Jd(s:SF)(n:Int):0<=s.xL n:=by unfold xL;split<;>(try split)<;>omega
def ae4(s:SF)(n:Int):0<=s.zF n:=by unfold zF;split<;>(try split)<;>omega
theorem nK(k:Nat)(s:SF)(h:n<=0:=by omega):iQ k s n=s:=by
 cases k with
 | zero=>rfl
 | succ k=>show(if n<=0 then s else _)=s;rw[if_pos h]
theorem p9(k:Nat)(s:SF)(h:0<n):iQ (k+1) s n=iQ k (s.wM n) (s.aA n):=by
 grind [iQ]
def Inv.wM{s:SF}{d:Int->Nat}(h:s.Inv d){n:Int}(h0:0<n)(h1:n<30)(h2:s.aa n=true):(s.wM n).Inv d:=by
 refine⟨h.h0,h.up,fun i hi=> ?_,h.quo,h.wt⟩;have e:(s.wM n).cJ i=ad s.cJ n (s.ready n) i:=rfl;rw[e]at hi;by_cases c:i=n
 ·subst c;exact⟨h0,h1,h2⟩
 ·rw[ae _ _ c]at hi;exact h.cJ i hi
end SF
theorem SC.nt.enter{s:SC}(h:s.nt)(hn:0<=n/\n<30)(hg:0<=s.aA n/\s.aA n<30)(hw:s.cJ n=false)(t:SF)(ht:t.cJ=ad s.cJ n true)(hv:∀ i,¬i=n->t.v i=s.v i)(hp:t.aA=s.aA)(iZ:Int)(alk:t.v n=iZ)(P:Int->Option Addr)(C:Int->Nat):SC.nt ⟨t,ad s.Q (s.aA n) ((s.Q (s.aA n)).put n iZ).2,P,C⟩:=fun g g0 g1=>by
 subst alk;show nr (ad s.Q (s.aA n) _ g) (t.mq g);unfold SF.mq;rw[ht,hp];by_cases c:g=s.aA n
 ·subst c;rw[ah];have ym:(s.toSF.mq (s.aA n)).is n=2:=RQ.zD og (by show(s.cJ n&&_)=false;rw[hw];rfl);have h1:=((h _ g0 g1).put n (t.v n)).2;rw[RQ.vi _ og og]at h1;refine h1.ext (fun i _ _=> ?_) fun i _ _ _=> ?_
  ·show(ad s.cJ n true i&&decide (s.aA i=s.aA n))=ad (fun i=>s.cJ i&&decide (s.aA i=s.aA n)) n true i;grind [ad]
  ·show t.v i=ad s.v n (t.v n) i;grind [ad]
 ·rw[ae _ _ c];refine(h g g0 g1).ext (fun i _ _=> ?_) fun i _ _ hi=> ?_
  ·show(ad s.cJ n true i&&decide (s.aA i=g))=(s.cJ i&&decide (s.aA i=g));grind [ad]
  ·have ci:¬i=n:=fun e=>by
    subst e;have:=((SF.tq _ _ _).1 hi).1;simp_all
   exact hv i ci
theorem SC.nt.fL{s:SC}(h:s.nt)(hn:0<=n/\n<30)(hg:0<=s.aA n/\s.aA n<30)(hw:s.cJ n=true)(t:SF)(ht:t.cJ=ad s.cJ n false)(hv:∀ i,¬i=n->t.v i=s.v i)(hp:t.aA=s.aA)(P:Int->Option Addr)(C:Int->Nat):SC.nt ⟨t,ad s.Q (s.aA n) ((s.Q (s.aA n)).cut n).2.2,P,C⟩:=fun g g0 g1=>by
 show nr (ad s.Q (s.aA n) _ g) (t.mq g);unfold SF.mq;rw[ht,hp];by_cases c:g=s.aA n
 ·subst c;rw[ah];have ym:(s.toSF.mq (s.aA n)).is n=0:=RQ.El og (by show(s.cJ n&&_)=true;rw[hw];simp);have h1:=((h _ g0 g1).cut n).2.2;rw[RQ.Ob ym]at h1;refine h1.ext (fun i _ _=> ?_) fun i _ _ hi=> ?_
  ·show(ad s.cJ n false i&&decide (s.aA i=s.aA n))=ad (fun i=>s.cJ i&&decide (s.aA i=s.aA n)) n false i;grind [ad]
  ·have ci:¬i=n:=fun e=>by
    grind [ah]
   exact hv i ci
 ·rw[ae _ _ c];refine(h g g0 g1).ext (fun i _ _=> ?_) fun i _ _ hi=> ?_
  ·show(ad s.cJ n false i&&decide (s.aA i=g))=(s.cJ i&&decide (s.aA i=g));grind [ad]
  ·have ci:¬i=n:=fun e=>by
    subst e;exact c ((SF.tq _ _ _).1 hi).2.symm
   exact hv i ci
theorem SC.nt.bZ{s:SC}(h:s.nt)(hn:0<=n/\n<30)(hg:0<=s.aA n/\s.aA n<30):((s.Q (s.aA n)).iZ n).2=if s.cJ n=true then 0 else 2:=by
 rw[((h _ hg.1 hg.2).ae2 n).2.1];by_cases c:s.cJ n=true
 ·rw[if_pos c,Ho (RQ.El og (by show(s.cJ n&&_)=true;rw[c];simp))]
 ·have ym:(s.toSF.mq (s.aA n)).is n=2:=RQ.zD og (by
   show(s.cJ n&&_)=false
   cases q:s.cJ n with
   | true=>exact absurd q c
   | false=>rfl)
  rw[if_neg c,Wg false og];exact ym
def SC.nt.alm{s:SC}(h:s.nt)(hn:0<=n/\n<30)(hg:0<=s.aA n/\s.aA n<30)(hw:s.cJ n=true):((s.Q (s.aA n)).cut n).1=s.v n/\((s.Q (s.aA n)).cut n).2.1=0:=by
 obtain⟨h1,h2,_⟩:=(h _ hg.1 hg.2).cut n;rw[RQ.Ob (RQ.El og (by show(s.cJ n&&_)=true;rw[hw];simp))]at h1 h2;exact⟨h1,h2⟩
theorem CF{s:SF}(h:s.ready n=s.cJ n):s.wM n=s:=by
 unfold SF.wM;grind [da,SF]
theorem SF.Bs{s:SF}(hp:s.aA n≠n)(w:Bool):SF.ready {s with cJ:=ad s.cJ n w} n=s.ready n:=by
 have hk:SF.gK {s with cJ:=ad s.cJ n w} n=s.gK n:=by
  rw[Bool.eq_iff_iff,SF.sc,SF.sc];grind [ae]
 unfold SF.ready;rw[hk]
def SX(s:SC)(z v:Int)(h:0<=z/\z<30):0+0+z.toNat*76+3<2281/\aH {s with v:=ad s.v z v} (0+0+z.toNat*76+3)= .int .u64 v:=by
 have:=vm {s with v:=ad s.v z v} z h;grind [ah]
def QG{W w:World}{S:Nat->Nat->Prop}{H F:List aG}{b o:Nat}{e:TypeId}{s:SC}(ws:Int->Bool)(hp:cX H [d6 b o s,.aV cI (s.dI e)] F)(h:XM W S H w):
  XM W S (.cells b o 2281 (aH {s with cJ:=ws}):: .aV cI (SC.dI e {s with cJ:=ws})::F) w:=h.cG hp.cG
end Go.X.Fa

namespace Go.X.Fa
open Go Go.X
variable{a g n:Int}{d:Int->Nat}
namespace SF
def rk(s:SF)(n p w:Int)(h:Bool):SF:=⟨ad s.aa n h,ad s.aA n p,ad s.wt n w,ad s.v n 0,ad s.wL n 0,ad s.di n false,ad s.fk n 0,ad s.xV n false,ad s.ef n 0,ad s.ft n 0,ad s.ek n 0,s.iC,ad s.cJ n false⟩
def mQ(s:SF)(n p w:Int):Int:=if n<0\/10<=n\/w<1\/1000<w then 1 else if s.aa n=true then 3 else s.xL p
def mR(s:SF)(n p w:Int):Int:=if n<0\/20<=n\/w<1\/1000<w then 1 else if s.aa (10+n)=true then 3 else s.xL p
def uM(s:SF)(n p w:Int):SF:=if s.mQ n p w=0 then s.rk n p w true else s
def uN(s:SF)(n p w:Int):SF:=if s.mR n p w=0 then s.rk (10+n) p w true else s
def Wl(s:SF)(n:Int):Bool:=(List.range 30).any (fun i=>s.aa (i:Int)&&decide (s.aA (i:Int)=n))
def oP(s:SF)(n:Int):Int:=if s.xL n≠0 then s.xL n else if n=0\/s.Wl n=true then 5 else 0
def qa(s:SF)(n:Int):SF:=if s.oP n=0 then s.rk n 0 0 false else s
def gN(d:Int->Nat)(s:SF)(n:Int)(on:Bool):SF:=if s.zF n=0 then look d {s with di:=ad s.di (10+n) on} (10+n)else s
def Gy(s:SF)(n:Int):Int:=if s.xL n≠0 then s.xL n else if n=0 then 8 else 0
def freeze(d:Int->Nat)(s:SF)(n:Int)(on:Bool):SF:=if s.Gy n=0 then look d {s with xV:=ad s.xV n on} n else s
def uO(s:SF)(n q p:Int):Int:=if s.xL n≠0 then s.xL n else if n=0 then 8 else if q<0\/p<1\/100<p\/p<q then 1 else 0
def ae5(s:SF)(n q p:Int):SF:= {s with ef:=ad s.ef n q,ft:=ad s.ft n p,ek:=ad s.ek n 0}
def zG(d:Int->Nat)(s:SF)(n q p:Int):SF:=if s.uO n q p=0 then look d (s.ae5 n q p) n else s
def xW(d:Int->Nat)(s:SF)(n:Int):SF:=if s.zF n=0 then(s.gN d n false).rk (10+n) 0 0 false else s
def fl(s:SF)(n g:Int):Int:=if s.zF n≠0 then s.zF n else s.xL g
def mv1(d:Int->Nat)(s:SF)(n g:Int):SF:= {s.gN d n false with aA:=ad (s.gN d n false).aA (10+n) g,v:=ad (s.gN d n false).v (10+n) 0,di:=ad (s.gN d n false).di (10+n) (s.di (10+n))}
def move(d:Int->Nat)(s:SF)(n g:Int):SF:=if s.fl n g=0 then look (ad d (10+n) (d g+1)) (mv1 d s n g) (10+n)else s
theorem Hp(s:SF)(n:Int):s.Wl n=true↔∃ i:Int,0<=i/\i<30/\s.aa i=true/\s.aA i=n:=by
 unfold Wl;simp only[List.any_eq_true,List.mem_range,Bool.and_eq_true,decide_eq_true_eq];constructor
 ·grind
 ·rintro⟨k,h1,h2,h3,h4⟩;refine⟨k.toNat,og,?_⟩;grind
def QH{s:SF}{k:Int}(h0:0<=k)(h1:k<30)(h2:s.aa k=true)(h3:s.aA k=n):s.Wl n=true:=(s.Hp n).2 ⟨k,h0,h1,h2,h3⟩
def aaN{s:SF}(h:∀ j:Int,0<=j->j<30->¬(s.aa j=true/\s.aA j=n)):s.Wl n=false:=by
 grind [Hp]
def Hq{s:SF}(h:s.xL n=0):0<=n/\n<10/\s.aa n=true:=by
 grind [xL]
def Wm{s:SF}(h:s.zF n=0):0<=n/\n<20/\s.aa (10+n)=true:=by
 grind [zF]
theorem ae6{s:SF}(h0:0<=n)(h1:n<20)(h2:s.aa (10+n)=true):s.zF n=0:=by grind [zF]
def kT:∀ (k:Nat) (s:SF) (n:Int),(iQ k s n).aa=s.aa/\(iQ k s n).aA=s.aA/\(iQ k s n).wt=s.wt/\(iQ k s n).wL=s.wL/\(iQ k s n).di=s.di/\(iQ k s n).fk=s.fk/\(iQ k s n).xV=s.xV/\(iQ k s n).ef=s.ef/\(iQ k s n).ft=s.ft/\(iQ k s n).ek=s.ek/\(iQ k s n).iC=s.iC
 | 0,s,n=>⟨rfl,rfl,rfl,rfl,rfl,rfl,rfl,rfl,rfl,rfl,rfl⟩
 | k+1,s,n=>by
  by_cases h:n<=0
  ·rw[nK _ _ h];exact⟨rfl,rfl,rfl,rfl,rfl,rfl,rfl,rfl,rfl,rfl,rfl⟩
  ·rw[p9 _ _ og];exact kT k (s.wM n) (s.aA n)
def Hr{d:Int->Nat} :∀ (k:Nat) (s:SF) (n:Int),s.Inv d->(n=0\/(0<n/\n<30/\s.aa n=true))->(iQ k s n).Inv d
 | 0,s,n,h,_=>h
 | k+1,s,n,h,hn=>by
  rcases hn with rfl | ⟨n0,n1,n2⟩
  ·rw[nK _ _];exact h
  ·rw[p9 _ _ n0];obtain⟨p0,p1,p2,_⟩:=h.up n n0 n1 n2;apply Hr k (s.wM n) (s.aA n) (h.wM n0 n1 n2);by_cases c:s.aA n=0
   ·exact .inl c
   ·exact .inr ⟨og,og,p2⟩
def oc(s:SF):Prop:=∀ n,0<n->n<30->s.aa n=true->s.cJ n=s.ready n
end SF
def mS(u:aH.U):Array Value:=((List.range 76).map (aH.cell u)).toArray
abbrev yC(h:Bool)(p w:Int):aH.U:=⟨h,p,w,0,0,false,0,false,0,0,0,QS.dR,none,0⟩
def lU{c:Prop}[Decidable c]{a b:Value}(h1:c->one a=true)(h2:¬c->one b=true):one (if c then a else b)=true:=by
 grind
def Wn(s:QS)(p:Option Addr)(c i:Nat)(hi:i<65):one (ie s p c i)=true:=by grind [one,ie]
theorem Wo(u:aH.U)(j:Nat)(hj:j<76):one (aH.cell u j)=true:=
 lU (fun _=>rfl) fun _=>lU (fun _=>rfl) fun _=>lU (fun _=>rfl) fun _=>lU (fun _=>rfl) fun _=>lU (fun _=>rfl) fun _=>lU (fun _=>rfl) fun _=>lU (fun c=>Wn _ _ _ _ og) fun _=>lU (fun _=>rfl) fun _=>lU (fun _=>rfl) fun _=>lU (fun _=>rfl) fun _=>lU (fun _=>rfl) fun _=>lU (fun _=>rfl) fun _=>by exact absurd hj og
def qc(u:aH.U):(mS u).toList.all one=true/\(mS u).size=76:=by
 grind [mS,Wo]
def vq(s:SC)(z p w:Int)(h:Bool)(hz:0<=z/\z<30:=by omega):0+0+z.toNat*76+76<=2281/\cY (aH s) (0+0+z.toNat*76) (mS (yC h p w)).toList=aH ⟨s.toSF.rk z p w h,ad s.Q z QS.dR,ad s.P z none,ad s.C z 0⟩:=
 aH.Wh s ⟨s.toSF.rk z p w h,ad s.Q z QS.dR,ad s.P z none,ad s.C z 0⟩ z hz _ (by simp[mS]) (fun j hj=>by
  have e:aH.un ⟨s.toSF.rk z p w h,ad s.Q z QS.dR,ad s.P z none,ad s.C z 0⟩ z=yC h p w:=by
   unfold aH.un SF.rk
   simp only[ah]
  rw[e]
  simp[mS,hj]) (fun y hy=>by
  unfold aH.un SF.rk
  simp only[ae _ _ hy]) rfl
def SC.nt.new{s:SC}(h:s.nt){z:Int}(hw:s.cJ z=false)(hk:∀ i,s.cJ i=true->s.aA i≠z)(p w:Int)(hh:Bool):SC.nt ⟨s.toSF.rk z p w hh,ad s.Q z QS.dR,ad s.P z none,ad s.C z 0⟩:=fun g g0 g1=>by
 show nr (ad s.Q z QS.dR g) ((s.toSF.rk z p w hh).mq g);by_cases c:g=z
 ·subst c;rw[ah];refine nr.dR.ext (fun i _ _=> ?_) fun i _ _ hi=>by cases hi
  show(ad s.cJ g false i&&decide (ad s.aA g p i=g))=false;grind [ad]
 ·rw[ae _ _ c];refine(h g g0 g1).ext (fun i _ _=> ?_) fun i _ _ hi=> ?_
  ·show(ad s.cJ z false i&&decide (ad s.aA z p i=g))=(s.cJ i&&decide (s.aA i=g));grind [ad]
  ·show ad s.v z 0 i=s.v i;have ci:¬i=z:=fun e=>by
    subst e;have:=((SF.tq _ _ _).1 hi).1;simp_all
   grind [ad]
def SF.dR:SF:=⟨fun _=>false,fun _=>0,fun _=>0,fun _=>0,fun _=>0,fun _=>false,fun _=>0,fun _=>false,fun _=>0,fun _=>0,fun _=>0,0,fun _=>false⟩
def SC.dR:SC:=⟨SF.dR,fun _=>QS.dR,fun _=>none,fun _=>0⟩
def Wp:Array Value:=((List.range 2281).map (aH SC.dR)).toArray
def SY:Wp.size=2281:=by simp[Wp]
def Wq:∀ i,i<2281->cellsOf Wp i=aH SC.dR i:=fun i hi=>by simp[cellsOf,Wp,hi]
def SF.cR:SF:=SF.dR.rk 0 (-1) 1 true
theorem SC.nt.dR:SC.dR.nt:=fun g _ _=>nr.dR.ext (fun i _ _=>rfl) fun i _ _ hi=>by cases hi
namespace SF
def Hs{d:Int->Nat} :∀ (k:Nat) (s:SF) (n:Int),s.Inv d->(n=0\/(0<n/\n<30/\s.aa n=true))->∀ i,(n=0\/d n<d i)->(iQ k s n).cJ i=s.cJ i/\(iQ k s n).v i=s.v i
 | 0,s,n,_,_,i,_=>⟨rfl,rfl⟩
 | k+1,s,n,h,hn,i,hi=>by
  rcases hn with rfl | ⟨n0,n1,n2⟩
  ·rw[nK _ _];exact⟨rfl,rfl⟩
  ·rw[p9 _ _ n0];obtain⟨p0,p1,p2,p3⟩:=h.up n n0 n1 n2;have hd:d n<d i:=by
    rcases hi with q | q
    ·omega
    ·exact q
   have xH:¬i=n:=fun e=>by subst e;omega
   have ih:=Hs k (s.wM n) (s.aA n) (h.wM n0 n1 n2) (by
    by_cases c:s.aA n=0
    ·exact .inl c
    ·exact .inr ⟨og,og,p2⟩) i (.inr og)
   have e1:(s.wM n).cJ i=s.cJ i:=ae _ _ xH;have e2:(s.wM n).v i=s.v i:=ae _ _ xH;rw[ih.1,ih.2,e1,e2];exact⟨rfl,rfl⟩
theorem Je{s:SF}(h:s.Inv d)(n0:0<n)(n1:n<30)(n2:s.aa n=true):(look d s n).cJ n=s.ready n:=by
 unfold look;rw[p9 _ _ n0];obtain⟨p0,p1,p2,p3⟩:=h.up n n0 n1 n2;have e:=(Hs (d n) (s.wM n) (s.aA n) (h.wM n0 n1 n2) (by
  by_cases c:s.aA n=0
  ·omega
  ·exact .inr ⟨og,og,p2⟩) n (.inr p3)).1
 rw[e];exact ah _ _ _
def vr{s:SF}(h:s.Inv d)(hn:n=0\/(0<n/\n<30/\s.aa n=true)):(look d s n).Inv d:=Hr _ _ _ h hn
def nL(d:Int->Nat)(s:SF)(n:Int):(look d s n).aa=s.aa:=(kT _ _ _).1
def Lw(d:Int->Nat)(s:SF)(n:Int):(look d s n).aA=s.aA:=(kT _ _ _).2.1
def IsB(s:SF)(g b:Int):Prop:=s.cJ b=true/\s.aA b=g/\∀ i,s.cJ i=true->s.aA i=g->¬Cz (s.v i) i (s.v b) b
def IsB.alo{s:SF}{b b':Int}(h:s.IsB g b)(h':s.IsB g b'):b=b':=by
 grind [Cz,IsB]
theorem yD(s:SF)(g:Int):∀ (k:Nat),k<=29->(o6 s g k<0->∀ i,29-(k:Int)<i->i<=29->¬(s.cJ i=true/\s.aA i=g))/\
  (¬o6 s g k<0->29-(k:Int)<o6 s g k/\o6 s g k<=29/\s.cJ (o6 s g k)=true/\s.aA (o6 s g k)=g/\∀ i,29-(k:Int)<i->i<=29->s.cJ i=true->s.aA i=g->¬Cz (s.v i) i (s.v (o6 s g k)) (o6 s g k))
 | 0,_=>⟨fun _ i h1 h2=>og,fun h=>absurd (by show(-1:Int)<0;omega) h⟩
 | k+1,hk=>by
  obtain⟨h1,h2⟩:=yD s g k og;have e:o6 s g (k+1)=if s.cJ (29-(k:Int))=true/\s.aA (29-(k:Int))=g/\(o6 s g k<0\/s.v (29-(k:Int))<=s.v (o6 s g k))then 29-(k:Int)else o6 s g k:=rfl
  grind [Cz,SF]
def QI{s:SF}(hw:∀ i,s.cJ i=true->0<i/\i<30)(h:s.p6 g<0):∀ i,s.cJ i=true->s.aA i≠g:=fun i hi e=>by
 grind [yD,p6]
def zH{s:SF}(hw:∀ i,s.cJ i=true->0<i/\i<30)(h:¬s.p6 g<0):s.IsB g (s.p6 g)/\0<s.p6 g/\s.p6 g<30:=by
 obtain⟨h1,h2,h3,h4,h5⟩:=(yD s g 29 og).2 h;grind [p6,IsB]
def Dt(d:Int->Nat):∀ (k:Nat) (n:Int),0<=n->n<k->d n<=Jc d k
 | 0,n,h0,h1=>og
 | k+1,n,h0,h1=>by
  show d n<=max (Jc d k) (d (k:Int));by_cases c:n=(k:Int)
  ·subst c;omega
  ·have:=Dt d k n h0 og;omega
theorem aaO(s:SF)(k:Nat)(h:10<=a):NJ s k a=a:=by
 cases k with
 | zero=>rfl
 | succ k=>show(if 10<=a then a else _)=a;rw[if_pos h]
theorem Od(s:SF)(k:Nat)(h:¬ 10<=a)(hb:¬s.p6 a<0):NJ s (k+1) a=NJ s k (s.p6 a):=by
 grind [NJ]
def ae8(s:SF)(k:Nat)(h:¬ 10<=a)(hb:s.p6 a<0):NJ s (k+1) a= -1:=by
 grind [NJ]
theorem Ht(k:Nat)(s:SF)(h:n<=0):xK k s n=s:=by
 cases k with
 | zero=>rfl
 | succ k=>show(if n<=0 then s else _)=s;rw[if_pos h]
theorem QJ(k:Nat)(s:SF)(h:0<n):xK (k+1) s n=xK k (s.Bl n) (s.aA n):=by
 grind [xK]
def upW(s:SF):Nat->Int->Prop
 | 0,n=>n<=0
 | k+1,n=>n<=0\/(s.cJ n=true/\upW s k (s.aA n))
def Inv.Bl{s:SF}{d:Int->Nat}(h:s.Inv d){n:Int}(h0:0<n)(h1:n<30)(h2:s.aa n=true):(s.Bl n).Inv d:=by
 refine⟨h.h0,h.up,fun i hi=> ?_,h.quo,h.wt⟩;have e:(s.Bl n).cJ i=ad s.cJ n ((s.oO n).ready n) i:=rfl;rw[e]at hi;by_cases c:i=n
 ·subst c;exact⟨h0,h1,h2⟩
 ·rw[ae _ _ c]at hi;exact h.cJ i hi
def QK{s:SF}{d:Int->Nat}(h:s.Inv d){n:Int} :∀ (k:Nat) (m:Int),(m=0\/(0<m/\m<30/\s.aa m=true))->d m<d n->upW s k m->upW (s.Bl n) k m
 | 0,m,_,_,hu=>hu
 | k+1,m,hm,hd,hu=>by
  rcases hu with hu | ⟨QL,NL⟩
  ·exact .inl hu
  ·rcases hm with rfl | ⟨m0,m1,m2⟩
   ·exact .inl (Int.le_refl _)
   ·refine .inr ⟨?_,?_⟩
    ·show ad s.cJ n _ m=true;rw[ae _ _ fun e=>by subst e;omega];exact QL
    ·obtain⟨p0,p1,p2,p3⟩:=h.up m m0 m1 m2;exact QK h k (s.aA m) (by
      by_cases c:s.aA m=0
      ·exact .inl c
      ·exact .inr ⟨og,og,p2⟩) og NL
def wN{f:Int->Int}{v i lo hi:Int}(h1:lo<=f i/\f i<=hi)(h2:lo<=v/\v<=hi):lo<=ad f n v i/\ad f n v i<=hi:=by
 grind [ad]
theorem cb.mono{s:SF}{B B':Int}(h:s.cb B)(hb:B<=B'):s.cb B':=fun n n0 n1=>by have:=h n n0 n1;omega
def cb.Bl{s:SF}{d:Int->Nat}(hI:s.Inv d){B:Int}(h:s.cb B){n:Int}(h0:0<n)(h1:n<30)(h2:s.aa n=true):(s.Bl n).cb (B+1048576):=fun i i0 i1=>by
 obtain⟨p0,p1,p2,_⟩:=hI.up n h0 h1 h2;have hw:=hI.wt n og h1 h2;have hn:=h n og h1;have hg:=h (s.aA n) p0 og;have hi:=h i i0 i1;have hq:0<=1048576/s.wt n/\1048576/s.wt n<=1048576:=⟨Int.ediv_nonneg og og,Int.ediv_le_self _ og⟩;have a1:0<=ad s.v n (s.v n+1048576/s.wt n) i/\ad s.v n (s.v n+1048576/s.wt n) i<=B+1048576:=wN og og;have a2:0<=ad s.fk (s.aA n) (max (s.fk (s.aA n)) (s.v n)) i/\ad s.fk (s.aA n) (max (s.fk (s.aA n)) (s.v n)) i<=B+1048576:=wN og og;have a3:0<=ad s.wL n (s.wL n+1) i/\ad s.wL n (s.wL n+1) i<=B+1048576:=wN og og;have a4:0<=(if 0<s.ef n then ad s.ek n (s.ek n+1)else s.ek) i/\(if 0<s.ef n then ad s.ek n (s.ek n+1)else s.ek) i<=B+1048576:=by
  by_cases c:0<s.ef n
  ·rw[if_pos c];exact wN og og
  grind
 exact⟨a1.1,a1.2,a2.1,a2.2,a3.1,a3.2,a4.1,a4.2⟩
def cb.wM{s:SF}{d:Int->Nat}(hI:s.Inv d){B:Int}(h:s.cb B){n:Int}(h0:0<n)(h1:n<30)(h2:s.aa n=true):(s.wM n).cb B:=fun i i0 i1=>by
 obtain⟨p0,p1,p2,_⟩:=hI.up n h0 h1 h2;have hn:=h n og h1;have hg:=h (s.aA n) p0 og;have hi:=h i i0 i1;have iZ:0<=(s.wM n).v i/\(s.wM n).v i<=B:=by
  show 0<=ad s.v n (if s.ready n=true/\s.cJ n=false then max (s.v n) (s.fk (s.aA n))else s.v n) i/\ad s.v n (if s.ready n=true/\s.cJ n=false then max (s.v n) (s.fk (s.aA n))else s.v n) i<=B;apply wN og;omega
 exact⟨iZ.1,iZ.2,hi.2.2⟩
theorem cb.iQ{d:Int->Nat}{B:Int} :∀ (k:Nat) (s:SF) (n:Int),s.Inv d->s.cb B->(n=0\/(0<n/\n<30/\s.aa n=true))->(SF.iQ k s n).cb B
 | 0,s,n,_,h,_=>h
 | k+1,s,n,hI,h,hn=>by
  rcases hn with rfl | ⟨n0,n1,n2⟩
  ·rw[nK _ _];exact h
  ·rw[p9 _ _ n0];obtain⟨p0,p1,p2,_⟩:=hI.up n n0 n1 n2;apply cb.iQ k (s.wM n) (s.aA n) (hI.wM n0 n1 n2) (h.wM hI n0 n1 n2);by_cases c:s.aA n=0
   ·exact .inl c
   ·exact .inr ⟨og,og,p2⟩
end SF
def SC.nt.alp{s:SC}(h:s.nt){z:Int}(hw:s.cJ z=false)(t:SF)(ht:t.cJ=s.cJ)(hp:∀ i,¬i=z->t.aA i=s.aA i)(hv:∀ i,¬i=z->t.v i=s.v i):SC.nt {s with toSF:=t} :=fun g g0 g1=>by
 refine(h g g0 g1).ext (fun i _ _=> ?_) fun i _ _ hi=> ?_
 ·show(t.cJ i&&decide (t.aA i=g))=(s.cJ i&&decide (s.aA i=g));grind
 ·have ci:¬i=z:=fun e=>by
   subst e;have:=((SF.tq _ _ _).1 hi).1;simp_all
  exact hv i ci
theorem SC.nt.first{s:SC}(h:s.nt)(hw:∀ i,s.cJ i=true->0<i/\i<30){g:Int}(g0:0<=g)(g1:g<30):((s.Q g).first.2.2=true↔¬s.toSF.p6 g<0)/\(¬s.toSF.p6 g<0->(s.Q g).first.1=s.toSF.p6 g):=by
 have hq:=h g g0 g1;by_cases hn:(s.Q g).n=0
 ·have e:(s.Q g).first=(0,0,false):=by unfold QS.first;rw[if_pos hn]
  have hb:s.toSF.p6 g<0:=by
   apply Classical.byContradiction;intro c;obtain⟨⟨b1,b2,_⟩,b3,b4⟩:=SF.zH hw c;have:=hq.len.2 ⟨_,og,og,(SF.tq _ _ _).2 ⟨b1,b2⟩⟩;omega
  simp_all
 ·have e:(s.Q g).first=((s.Q g).I 0,(s.Q g).K 0,true):=by unfold QS.first;rw[if_neg hn]
  obtain⟨⟨a0,a1⟩,a2,a3⟩:=hq.head og;obtain⟨c1,c2⟩:=(SF.tq _ _ _).1 a2;have hb:¬s.toSF.p6 g<0:=fun q=>SF.QI hw q _ c1 c2;have hB:s.toSF.IsB g ((s.Q g).I 0):=⟨c1,c2,fun i i1 i2=>by
   have:=hw i i1
   exact a3 i og og ((SF.tq _ _ _).2 ⟨i1,i2⟩)⟩
  rw[e];exact⟨⟨fun _=>hb,fun _=>rfl⟩,fun _=>hB.alo (SF.zH hw hb).1⟩
def SF.Inv.adD{s:SF}(h:s.Inv d)(hn:10<=n/\n<30)(hg:0<=g/\g<10/\s.aa g=true)(hw:s.cJ n=false)(v:Int->Int)(aw:Int->Bool):SF.Inv {s with aA:=ad s.aA n g,v:=v,di:=aw} (ad d n (d g+1)):=by
 refine⟨h.h0,fun i i0 i1 i2=> ?_,h.cJ,h.quo,h.wt⟩;show 0<=ad s.aA n g i/\ad s.aA n g i<10/\s.aa (ad s.aA n g i)=true/\ad d n (d g+1) (ad s.aA n g i)<ad d n (d g+1) i;by_cases c:i=n
 ·grind [ad]
 grind [Inv,ad]
namespace SF
theorem aaP{s x:SF}(h1:1<=n)(he:x=nJ d s (n-1).toNat)(h:x.aa n=true/\0<x.ef n/\x.iC%x.ft n=0):nJ d s (n+1-1).toNat=look d {x with ek:=ad x.ek n 0} n:=by
 rw[show(n+1-1).toNat=(n-1).toNat+1 from og];grind [vl,nJ]
theorem Jf{s x:SF}(h1:1<=n)(he:x=nJ d s (n-1).toNat)(h:¬(x.aa n=true/\0<x.ef n/\x.iC%x.ft n=0)):nJ d s (n+1-1).toNat=x:=by
 rw[show(n+1-1).toNat=(n-1).toNat+1 from og];grind [vl,nJ]
def cb.ek{s:SF}{B:Int}(hB:0<=B)(h:s.cb B)(n:Int):SF.cb {s with ek:=ad s.ek n 0} B:=fun i i0 i1=>by
 have hi:=h i i0 i1;have:=wN (f:=s.ek) (n:=n) (v:=0) (i:=i) (lo:=0) (hi:=B) og og;simp_all
def SZ{s:SF}(hI:s.Inv d)(hs:s.oc)(h0:0<a)(h1:a<10)(hw:s.cJ a=true):¬s.p6 a<0:=fun hb=>by
 obtain⟨_,a1,a2⟩:=hI.cJ a hw;have h2:=hs a h0 a1 a2;rw[hw]at h2;unfold ready at h2;rw[if_neg og]at h2;have hk:s.gK a=true:=by
  simp_all
 obtain⟨i,i0,i1,i2,i3⟩:=(s.sc a).1 hk;exact QI (fun j hj=>⟨(hI.cJ j hj).1,(hI.cJ j hj).2.1⟩) hb i i2 i3
end SF
def Oe{W w:World}{S:Nat->Nat->Prop}{H:List aG}(e:TypeId)(h:XM W S H w):XM W S (.aV cI (SC.dR.dI e)::H) w:=by
 have hr:w.ownsRow 0 e 2 (.slice none 0 0) 0 []:=(h.fU e 2).fB.1 (.row (.slice none 0 0) e 2 0 []) sq;refine⟨⟨fun x hx=> ?_,List.pairwise_cons.2 ⟨fun x hx _ b o h1 h2=> ?_,h.fB.2⟩⟩,h.fq,fun x hx hw b o hb=> ?_⟩
 ·rcases List.mem_cons.1 hx with rfl | hx
  ·exact⟨fun i _=>hr,fun i j b _ _ _ h1 _=>by cases h1⟩
  ·exact h.fB.1 x hx
 ·obtain⟨i,_,hb⟩:=h1;cases hb
 ·rcases List.mem_cons.1 hx with rfl | hx
  ·obtain⟨i,_,hb⟩:=hb;cases hb
  ·exact h.Gl x hx hw b o hb
def SF.Tk(s:SF):Prop:=∀ n,10<=n->n<30->s.fk n=0/\s.xV n=false/\s.ef n=0/\s.ft n=0/\s.ek n=0
namespace SF
def Lx{s:SF}(hI:s.Inv d)(i1:0<=n)(i2:n<20)(i3:s.aa (10+n)=true):(s.gN d n false).Inv d/\(s.gN d n false).cJ (10+n)=false/\(s.gN d n false).aa=s.aa/\(s.gN d n false).aA=s.aA/\(s.gN d n false).wt=s.wt/\(s.gN d n false).wL=s.wL/\(s.gN d n false).fk=s.fk/\(s.gN d n false).xV=s.xV/\(s.gN d n false).ef=s.ef/\(s.gN d n false).ft=s.ft/\(s.gN d n false).ek=s.ek/\(s.gN d n false).iC=s.iC/\(s.gN d n false).di=ad s.di (10+n) false:=by
 have e:s.gN d n false=look d {s with di:=ad s.di (10+n) false} (10+n):=by unfold gN;rw[if_pos (ae6 i1 i2 i3)]
 have hA:SF.Inv {s with di:=ad s.di (10+n) false} d:=⟨hI.h0,hI.up,hI.cJ,hI.quo,hI.wt⟩;obtain⟨a1,a2,a3,a4,a5,a6,a7,a8,a9,a10,a11⟩:=kT (d (10+n)+1) {s with di:=ad s.di (10+n) false} (10+n);rw[e];refine⟨vr hA (.inr ⟨og,og,i3⟩),?_,a1,a2,a3,a4,a6,a7,a8,a9,a10,a11,a5⟩;grind [Je,ready,ad]
theorem aaQ{s:SF}(h:s.zF n=0)(d:Int->Nat)(on:Bool):s.gN d n on=look d {s with di:=ad s.di (10+n) on} (10+n):=by grind [gN]
end SF
end Go.X.Fa
