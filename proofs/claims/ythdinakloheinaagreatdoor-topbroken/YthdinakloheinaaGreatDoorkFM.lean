import Derived.Test.YthdinakloheinaaGreatDoorXMore
import Derived.Test.YthdinakloheinaaGreatDoorXBits
import Derived.Test.YthdinakloheinaaGreatDoorXFam
namespace Go.X.Fa
open Go Go.X
def k7(k i k' i':Int):Prop:=k<k'∨(k=k'∧i<i')
instance (k i k' i':Int):Decidable (k7 k i k' i'):=by unfold k7;infer_instance
structure QS where
 n:Nat
 K:Int→Int
 I:Int→Int
 at_:Int→Int
def QS.set(s:QS)(i k id:Int):QS:= {s with K:=aa s.K i k,I:=aa s.I i id,at_:=aa s.at_ id (i+1)}
def QS.sN:Nat→QS→Int→Int→Int→QS
 | 0,s,i,k,id=>s.set i k id
 | f+1,s,i,k,id=>if 0<i∧k7 k id (s.K ((i-1)/2)) (s.I ((i-1)/2))then QS.sN f (s.set i (s.K ((i-1)/2)) (s.I ((i-1)/2))) ((i-1)/2) k id else s.set i k id
def QS.up(s:QS)(i:Int):QS:=QS.sN i.toNat s i (s.K i) (s.I i)
def QS.child(s:QS)(i:Int):Int:=if 2*i+1+1<s.n∧k7 (s.K (2*i+1+1)) (s.I (2*i+1+1)) (s.K (2*i+1)) (s.I (2*i+1))then 2*i+1+1 else 2*i+1
def QS.fq:Nat→QS→Int→Int→Int→QS
 | 0,s,i,k,id=>s.set i k id
 | f+1,s,i,k,id=>if s.child i<s.n∧k7 (s.K (s.child i)) (s.I (s.child i)) k id then QS.fq f (s.set i (s.K (s.child i)) (s.I (s.child i))) (s.child i) k id else s.set i k id
def QS.down(s:QS)(i:Int):QS:=QS.fq (s.n-i.toNat) s i (s.K i) (s.I i)
def QS.more(s:QS)(k id:Int):QS:= {s with n:=s.n+1,K:=aa s.K s.n k,I:=aa s.I s.n id}
def QS.put(s:QS)(id k:Int):Int×QS:=if id<0∨63<id then(1,s)else if 0<s.at_ id then(3,s)else(0,(s.more k id).up s.n)
def QS.cP(s:QS)(id:Int):QS:= {s with n:=s.n-1,at_:=aa s.at_ id 0}
def QS.fill(s:QS)(i k id:Int):QS:=((s.set i k id).down i).up (((s.set i k id).down i).at_ id-1)
def QS.mz(s:QS)(id:Int):QS:=if s.at_ id-1<(s.n:Int)-1 then(s.cP id).fill (s.at_ id-1) (s.K ((s.n:Int)-1)) (s.I ((s.n:Int)-1))else s.cP id
def QS.cut(s:QS)(id:Int):Int×Int×QS:=if id<0∨63<id then(0,1,s)else if s.at_ id=0 then(0,2,s)else(s.K (s.at_ id-1),0,s.mz id)
def QS.key(s:QS)(id:Int):Int×Int:=if id<0∨63<id then(0,1)else if s.at_ id=0 then(0,2)else(s.K (s.at_ id-1),0)
def QS.void:QS:=⟨0,fun _=>0,fun _=>0,fun _=>0⟩
structure QS.Ok (s:QS):Prop where
 n64:s.n≤64
 gL:∀ j:Int,0≤j→j<s.n→0≤s.I j∧s.I j<64
 at1:∀ j:Int,0≤j→j<s.n→s.at_ (s.I j)=j+1
 at2:∀ id,0≤id→id<64→s.at_ id=0∨(1≤s.at_ id∧s.at_ id≤s.n∧s.I (s.at_ id-1)=id)
def QS.L(s:QS)(a b:Int):Prop:=k7 (s.K a) (s.I a) (s.K b) (s.I b)
instance (s:QS) (a b:Int):Decidable (s.L a b):=by unfold QS.L;infer_instance
def QS.Heap(s:QS):Prop:=∀ j:Int,0<j→j<s.n→¬s.L j ((j-1)/2)
theorem QS.se{s:QS}{a b:Int}(h:s.L a b):¬s.L b a:=by unfold QS.L k7 at*;omega
theorem QS.zc{s:QS}{a b c:Int}(h:¬s.L a b)(h2:¬s.L b c):¬s.L a c:=by unfold QS.L k7 at*;omega
theorem QS.Jz(s:QS)(a:Int):¬s.L a a:=by unfold QS.L k7;omega
def sw(i j m:Int):Int:=if m=i then j else if m=j then i else m
theorem sX(i j:Int):sw i j i=j:=by simp[sw]
theorem zH(i j:Int):sw i j j=i:=by
 unfold sw
 split
 ·rename_i h;exact h
 ·simp
theorem qw{i j m:Int}(h1:¬m=i)(h2:¬m=j):sw i j m=m:=by simp[sw,h1,h2]
def QS.swap(s:QS)(i j:Int):QS:=(s.set i (s.K j) (s.I j)).set j (s.K i) (s.I i)
theorem QS.zY(s:QS)(i j m:Int):(s.swap i j).K m=s.K (sw i j m):=by
 show aa (aa s.K i (s.K j)) j (s.K i) m=_
 unfold aa sw
 by_cases h1:m=j
 ·by_cases h2:m=i
  ·simp[h1,←h2]
  ·simp[h1,h2]
   by_cases h3:j=i
   ·omega
   ·simp[h3]
 ·by_cases h2:m=i<;>simp[h1,h2]
  intro h3
  rw[h3]
theorem QS.lr(s:QS)(i j m:Int):(s.swap i j).I m=s.I (sw i j m):=by
 show aa (aa s.I i (s.I j)) j (s.I i) m=_
 unfold aa sw
 by_cases h1:m=j
 ·by_cases h2:m=i
  ·simp[h1,←h2]
  ·simp[h1,h2]
   by_cases h3:j=i
   ·omega
   ·simp[h3]
 ·by_cases h2:m=i<;>simp[h1,h2]
  intro h3
  rw[h3]
theorem QS.vm(s:QS)(i j a b:Int):(s.swap i j).L a b↔s.L (sw i j a) (sw i j b):=by
 unfold QS.L
 rw[QS.zY,QS.zY,QS.lr,QS.lr]
theorem QS.pY(s:QS)(i j id:Int):(s.swap i j).at_ id=if id=s.I i then j+1 else if id=s.I j then i+1 else s.at_ id:=rfl
def QS.zi(s:QS)(id:Int):Int:=s.K (s.at_ id-1)
structure QS.oQ (s t:QS):Prop where
 n:t.n=s.n
 at_:∀ id,0≤id→id<64→(t.at_ id=0↔s.at_ id=0)
 k:∀ id,0≤id→id<64→¬s.at_ id=0→t.zi id=s.zi id
theorem QS.oQ.refl(s:QS):s.oQ s:=⟨rfl,fun _ _ _=>Iff.rfl,fun _ _ _ _=>rfl⟩
theorem QS.oQ.trans{s t u:QS}(h:s.oQ t)(h2:t.oQ u):s.oQ u:=
 ⟨h2.n.trans h.n,fun id a b=>(h2.at_ id a b).trans (h.at_ id a b),fun id a b c=>(h2.k id a b (fun q=>c ((h.at_ id a b).1 q))).trans (h.k id a b c)⟩
theorem QS.Ok.inj{s:QS}(h:s.Ok){i j:Int}(hi:0≤i∧i<s.n)(hj:0≤j∧j<s.n)(he:s.I i=s.I j):i=j:=by
 have h1:=h.at1 i hi.1 hi.2
 have h2:=h.at1 j hj.1 hj.2
 rw[he]at h1
 omega
theorem KH{n:Nat}{i j m:Int}(hi:0≤i∧i<n)(hj:0≤j∧j<n)(hm:0≤m∧m<n):0≤sw i j m∧sw i j m<n:=by
 unfold sw;split
 ·exact hj
 ·split
  ·exact hi
  ·exact hm
theorem QS.Ok.swap{s:QS}(h:s.Ok){i j:Int}(hi:0≤i∧i<s.n)(hj:0≤j∧j<s.n)(hne:¬i=j):(s.swap i j).Ok∧s.oQ (s.swap i j):=by
 have hII:¬s.I i=s.I j:=fun e=>hne (h.inj hi hj e)
 have hn:(s.swap i j).n=s.n:=rfl
 refine⟨⟨h.n64,fun m m0 m1=> ?_,fun m m0 m1=> ?_,fun id d0 d1=> ?_⟩,⟨rfl,fun id d0 d1=> ?_,fun id d0 d1 hp=> ?_⟩⟩
 ·rw[QS.lr]
  have:=KH hi hj ⟨m0,m1⟩
  exact h.gL _ this.1 this.2
 ·rw[QS.lr,QS.pY]
  by_cases c1:m=i
  ·rw[c1,sX,if_neg (fun e=>hII e.symm),if_pos rfl]
  ·by_cases c2:m=j
   ·rw[c2,zH,if_pos rfl]
   ·rw[qw c1 c2,if_neg (fun e=>c1 (h.inj ⟨m0,m1⟩ hi e)),if_neg (fun e=>c2 (h.inj ⟨m0,m1⟩ hj e))]
    exact h.at1 m m0 m1
 ·rw[QS.pY]
  by_cases c1:id=s.I i
  ·rw[if_pos c1]
   refine .inr ⟨by omega,by rw[hn];omega,?_⟩
   rw[show j+1-1=j from by omega,QS.lr,zH,c1]
  ·rw[if_neg c1]
   by_cases c2:id=s.I j
   ·rw[if_pos c2]
    refine .inr ⟨by omega,by rw[hn];omega,?_⟩
    rw[show i+1-1=i from by omega,QS.lr,sX,c2]
   ·rw[if_neg c2]
    rcases h.at2 id d0 d1 with q | ⟨q1,q2,q3⟩
    ·exact .inl q
    ·refine .inr ⟨q1,q2,?_⟩
     rw[QS.lr,qw (fun e=>c1 (by rw[←e];exact q3.symm)) (fun e=>c2 (by rw[←e];exact q3.symm))]
     exact q3
 ·rw[QS.pY]
  have a1:=h.at1 i hi.1 hi.2
  have a2:=h.at1 j hj.1 hj.2
  by_cases c1:id=s.I i
  ·rw[if_pos c1,c1];omega
  ·rw[if_neg c1]
   by_cases c2:id=s.I j
   ·rw[if_pos c2,c2];omega
   ·rw[if_neg c2]
 ·have a1:=h.at1 i hi.1 hi.2
  have a2:=h.at1 j hj.1 hj.2
  unfold QS.zi
  rw[QS.zY,QS.pY]
  by_cases c1:id=s.I i
  ·rw[if_pos c1,show j+1-1=j from by omega,zH,c1,a1,show i+1-1=i from by omega]
  ·rw[if_neg c1]
   by_cases c2:id=s.I j
   ·rw[if_pos c2,show i+1-1=i from by omega,sX,c2,a2,show j+1-1=j from by omega]
   ·rw[if_neg c2]
    rcases h.at2 id d0 d1 with q | ⟨q1,q2,q3⟩
    ·exact absurd q hp
    ·rw[qw (fun e=>c1 (by rw[←e];exact q3.symm)) (fun e=>c2 (by rw[←e];exact q3.symm))]
def QS.Dv:Nat→QS→Int→QS
 | 0,s,_=>s
 | f+1,s,i=>if 0<i∧s.L i ((i-1)/2)then QS.Dv f (s.swap i ((i-1)/2)) ((i-1)/2)else s
theorem QS.eI{s:QS}{i k id m:Int}(h:¬m=i):(s.set i k id).K m=s.K m∧(s.set i k id).I m=s.I m:=⟨ad _ _ h,ad _ _ h⟩
theorem QS.hG(s:QS)(i k id:Int):(s.set i k id).K i=k∧(s.set i k id).I i=id:=⟨ae _ _ _,ae _ _ _⟩
theorem QS.set_set{s:QS}{i p k id:Int}(hp:¬p=i):(s.set i (s.K p) (s.I p)).set p k id=(s.set i k id).swap i p:=by
 unfold QS.swap
 rw[(QS.eI hp).1,(QS.eI hp).2,(s.hG i k id).1,(s.hG i k id).2]
 unfold QS.set
 simp only[QS.mk.injEq,true_and]
 refine⟨?_,?_,?_⟩<;>(funext m;unfold aa)
 ·by_cases h1:m=p<;>by_cases h2:m=i<;>simp[h1,h2]
 ·by_cases h1:m=p<;>by_cases h2:m=i<;>simp[h1,h2]
 ·by_cases h1:m=id
  ·simp[h1]
  ·by_cases h2:m=s.I p<;>simp[h1,h2]
theorem QS.vD:∀ (f:Nat) (s:QS) (i k id:Int),QS.sN f s i k id=QS.Dv f (s.set i k id) i
 | 0,_,_,_,_=>rfl
 | f+1,s,i,k,id=>by
  have e:(0<i∧k7 k id (s.K ((i-1)/2)) (s.I ((i-1)/2)))↔(0<i∧(s.set i k id).L i ((i-1)/2)):=by
   constructor
   ·rintro⟨h1,h2⟩
    have hp:¬(i-1)/2=i:=by omega
    refine⟨h1,?_⟩
    unfold QS.L
    rw[(s.hG i k id).1,(s.hG i k id).2,(QS.eI hp).1,(QS.eI hp).2];exact h2
   ·rintro⟨h1,h2⟩
    have hp:¬(i-1)/2=i:=by omega
    refine⟨h1,?_⟩
    unfold QS.L at h2
    rw[(s.hG i k id).1,(s.hG i k id).2,(QS.eI hp).1,(QS.eI hp).2]at h2;exact h2
  rw[QS.sN,QS.Dv]
  by_cases c:0<i∧k7 k id (s.K ((i-1)/2)) (s.I ((i-1)/2))
  ·rw[if_pos c,if_pos (e.1 c),QS.vD f,QS.set_set (by omega)]
  ·rw[if_neg c,if_neg (fun q=>c (e.2 q))]
theorem QS.yg{s:QS}{i:Int}(h:s.at_ (s.I i)=i+1):s.set i (s.K i) (s.I i)=s:=by
 unfold QS.set
 rw[cn s.K rfl,cn s.I rfl,cn s.at_ h]
def QS.Lt(s:QS)(i:Int):Prop:=(∀ j:Int,0<j→j<s.n→¬j=i→¬s.L j ((j-1)/2))∧(0<i→∀ j:Int,0<j→j<s.n→(j-1)/2=i→¬s.L j ((i-1)/2))
theorem QS.Ok.Dv:∀ (f:Nat) {s:QS} {i:Int},s.Ok→s.Lt i→0≤i→i<s.n→i≤f→(QS.Dv f s i).Ok∧s.oQ (QS.Dv f s i)∧(QS.Dv f s i).Heap:=by
 have stop:∀ {s:QS} {i:Int},s.Lt i→¬(0<i∧s.L i ((i-1)/2))→s.Heap:=fun {s i} he hn j j0 j1=>by
  by_cases c:j=i
  ·subst c;exact fun q=>hn ⟨j0,q⟩
  ·exact he.1 j j0 j1 c
 intro f
 induction f with
 | zero=>exact fun h he h0 h1 hf=>⟨h,QS.oQ.refl _,stop he (by omega)⟩
 | succ f ih=>
  intro s i h he h0 h1 hf
  rw[QS.Dv]
  by_cases c:0<i∧s.L i ((i-1)/2)
  ·rw[if_pos c]
   have hpn:0≤(i-1)/2∧(i-1)/2<s.n:=by omega
   have hne:¬i=(i-1)/2:=by omega
   obtain⟨o1,o2⟩:=h.swap ⟨h0,h1⟩ hpn hne
   have he':(s.swap i ((i-1)/2)).Lt ((i-1)/2):=by
    refine⟨fun j j0 j1 jn=> ?_,fun p0 j j0 j1 jp=> ?_⟩
    ·rw[QS.vm]
     by_cases c1:j=i
     ·rw[c1,sX,zH];exact QS.se c.2
     ·rw[qw c1 jn]
      by_cases c2:(j-1)/2=i
      ·rw[c2,sX];exact he.2 c.1 j j0 j1 c2
      ·by_cases c3:(j-1)/2=(i-1)/2
       ·rw[c3,zH]
        have:=he.1 j j0 j1 c1
        rw[c3]at this
        exact QS.zc this (QS.se c.2)
       ·rw[qw c2 c3];exact he.1 j j0 j1 c1
    ·rw[QS.vm]
     have hpp:=he.1 ((i-1)/2) p0 hpn.2 (fun e=>hne e.symm)
     have q1:¬((i-1)/2-1)/2=i:=by omega
     have q2:¬((i-1)/2-1)/2=(i-1)/2:=by omega
     rw[qw q1 q2]
     by_cases c1:j=i
     ·rw[c1,sX];exact hpp
     ·have jn:¬j=(i-1)/2:=by omega
      rw[qw c1 jn]
      have:=he.1 j j0 j1 c1
      rw[jp]at this
      exact QS.zc this hpp
   obtain⟨i1,i2,i3⟩:=ih o1 he' hpn.1 hpn.2 (by omega)
   exact⟨i1,o2.trans i2,i3⟩
  ·rw[if_neg c];exact⟨h,QS.oQ.refl _,stop he c⟩
theorem QS.Ok.KR{s:QS}{i:Int}(h:s.Ok)(h0:0≤i)(h1:i<s.n):s.up i=QS.Dv i.toNat s i:=by
 unfold QS.up
 rw[QS.vD,QS.yg (h.at1 i h0 h1)]
def QS.kO:Nat→QS→Int→QS
 | 0,s,_=>s
 | f+1,s,i=>if s.child i<s.n∧s.L (s.child i) i then QS.kO f (s.swap i (s.child i)) (s.child i)else s
theorem QS.dL(s:QS)(i:Int):(s.child i=2*i+2∧2*i+2<s.n∧s.L (2*i+2) (2*i+1))∨(s.child i=2*i+1∧(2*i+2<s.n→¬s.L (2*i+2) (2*i+1))):=by
 unfold QS.child
 rw[show 2*i+1+1=2*i+2 from by omega]
 by_cases c:2*i+2<(s.n:Int)∧k7 (s.K (2*i+2)) (s.I (2*i+2)) (s.K (2*i+1)) (s.I (2*i+1))
 ·rw[if_pos c];exact .inl ⟨rfl,c.1,c.2⟩
 ·rw[if_neg c];exact .inr ⟨rfl,fun h1 h2=>c ⟨h1,h2⟩⟩
theorem QS.tj{s:QS}{i k id:Int}(h:0≤i):(s.set i k id).child i=s.child i:=by
 have h1:¬ 2*i+1+1=i:=by omega
 have h2:¬ 2*i+1=i:=by omega
 unfold QS.child
 rw[(QS.eI h1).1,(QS.eI h1).2,(QS.eI h2).1,(QS.eI h2).2]
 rfl
theorem QS.pB:∀ (f:Nat) (s:QS) (i k id:Int),0≤i→QS.fq f s i k id=QS.kO f (s.set i k id) i
 | 0,_,_,_,_,_=>rfl
 | f+1,s,i,k,id,h=>by
  have hc:0≤s.child i∧¬s.child i=i:=by
   rcases s.dL i with⟨q,_⟩ | ⟨q,_⟩<;>omega
  have e:(s.child i<s.n∧k7 (s.K (s.child i)) (s.I (s.child i)) k id)↔((s.set i k id).child i<(s.set i k id).n∧(s.set i k id).L ((s.set i k id).child i) i):=by
   rw[QS.tj h]
   unfold QS.L
   rw[(s.hG i k id).1,(s.hG i k id).2,(QS.eI hc.2).1,(QS.eI hc.2).2]
   exact Iff.rfl
  rw[QS.fq,QS.kO]
  by_cases c:s.child i<s.n∧k7 (s.K (s.child i)) (s.I (s.child i)) k id
  ·rw[if_pos c,if_pos (e.1 c),QS.pB f _ _ _ _ hc.1,QS.set_set hc.2,QS.tj h]
  ·rw[if_neg c,if_neg (fun q=>c (e.2 q))]
def QS.Mid(s:QS)(i:Int)(b:Prop):Prop:=(∀ j:Int,0<j→j<s.n→¬(j-1)/2=i→(¬j=i∨b)→¬s.L j ((j-1)/2))∧(0<i→∀ j:Int,0<j→j<s.n→(j-1)/2=i→¬s.L j ((i-1)/2))
theorem QS.Ok.kO:∀ (f:Nat) {s:QS} {i:Int} {b:Prop},s.Ok→s.Mid i b→0≤i→i<s.n→(s.n:Int)≤i+f→(QS.kO f s i).Ok∧s.oQ (QS.kO f s i)∧∃ q:Int,(0≤q∧q<s.n)∧(QS.kO f s i).I q=s.I i∧(QS.kO f s i).Lt q:=by
 have stop:∀ {s:QS} {i:Int} {b:Prop},s.Mid i b→0≤i→¬(s.child i<s.n∧s.L (s.child i) i)→s.Lt i:=fun {s i b} hm h0 hn=>by
  refine⟨fun j j0 j1 jn=> ?_,hm.2⟩
  by_cases c:(j-1)/2=i
  ·rw[c]
   intro hl
   rcases s.dL i with⟨q1,q2,q3⟩ | ⟨q1,q2⟩
   ·rw[q1]at hn
    have h2:¬s.L (2*i+2) i:=fun e=>hn ⟨q2,e⟩
    have hj:j=2*i+1∨j=2*i+2:=by omega
    rcases hj with rfl | rfl
    ·exact QS.zc (QS.se q3) h2 hl
    ·exact h2 hl
   ·rw[q1]at hn
    have hj:j=2*i+1∨j=2*i+2:=by omega
    rcases hj with rfl | rfl
    ·exact hn ⟨j1,hl⟩
    ·exact QS.zc (q2 j1) (fun e=>hn ⟨by omega,e⟩) hl
  ·exact hm.1 j j0 j1 c (.inl jn)
 intro f
 induction f with
 | zero=>exact fun h hm h0 h1 hf=>by omega
 | succ f ih=>
  intro s i b h hm h0 h1 hf
  rw[QS.kO]
  by_cases c:s.child i<s.n∧s.L (s.child i) i
  ·rw[if_pos c]
   have hcc:=s.dL i
   have hcn:i<s.child i∧(s.child i-1)/2=i:=by
    rcases hcc with⟨q,_⟩ | ⟨q,_⟩<;>omega
   have hne:¬i=s.child i:=by omega
   obtain⟨o1,o2⟩:=h.swap ⟨h0,h1⟩ ⟨by omega,c.1⟩ hne
   have hm':(s.swap i (s.child i)).Mid (s.child i) True:=by
    refine⟨fun j j0 j1 jp _=> ?_,fun p0 j j0 j1 jp=> ?_⟩
    ·rw[QS.vm]
     by_cases c1:j=s.child i
     ·rw[c1,zH,hcn.2,sX];exact QS.se c.2
     ·by_cases c2:j=i
      ·rw[c2,sX]
       have q1:¬(i-1)/2=i:=by omega
       have q2:¬(i-1)/2=s.child i:=by omega
       rw[qw q1 q2]
       exact hm.2 (by omega) (s.child i) (by omega) c.1 hcn.2
      ·rw[qw c2 c1]
       by_cases c3:(j-1)/2=i
       ·rw[c3,sX]
        rcases hcc with⟨q1,q2,q3⟩ | ⟨q1,q2⟩
        ·rw[q1]at c1 ⊢
         have hj:j=2*i+1:=by omega
         rw[hj];exact QS.se q3
        ·rw[q1]at c1 ⊢
         have hj:j=2*i+2:=by omega
         rw[hj];exact q2 (by rw[←hj];exact j1)
       ·rw[qw c3 jp];exact hm.1 j j0 j1 c3 (.inl c2)
    ·rw[QS.vm,hcn.2,sX]
     have c2:¬j=i:=by omega
     have c1:¬j=s.child i:=by omega
     rw[qw c2 c1]
     have:=hm.1 j j0 j1 (by omega) (.inl c2)
     rw[jp]at this
     exact this
   obtain⟨i1,i2,q,q1,q2,q3⟩:=ih o1 hm' (by omega) c.1 (by show(s.n:Int)≤_;omega)
   refine⟨i1,o2.trans i2,q,q1,?_,q3⟩
   rw[q2,QS.lr,zH]
  ·rw[if_neg c];exact⟨h,QS.oQ.refl _,i,⟨h0,h1⟩,rfl,stop hm h0 c⟩
theorem QS.Ok.wU{s:QS}{i:Int}(h:s.Ok)(h0:0≤i)(h1:i<s.n):s.down i=QS.kO (s.n-i.toNat) s i:=by
 unfold QS.down
 rw[QS.pB _ _ _ _ _ h0,QS.yg (h.at1 i h0 h1)]
theorem rI:∀ (n m:Nat) (f:Nat→Nat),n<m→(∀ i,i<m→f i<n)→∃ i j,i<j∧j<m∧f i=f j
 | 0,m,f,h,hf=>absurd (hf 0 h) (by omega)
 | n+1,m,f,h,hf=>by
  by_cases he:∃ i,i<m-1∧f i=f (m-1)
  ·obtain⟨i,h1,h2⟩:=he
   exact⟨i,m-1,h1,by omega,h2⟩
  ·have hne:∀ i,i<m-1→¬f i=f (m-1):=fun i hi e=>he ⟨i,hi,e⟩
   have hv:=hf (m-1) (by omega)
   obtain⟨i,j,h1,h2,h3⟩:=rI n (m-1) (fun i=>if f i=n then f (m-1)else f i) (by omega) (fun i hi=>by
    have a1:=hf i (by omega)
    have a2:=hne i hi
    show(if f i=n then f (m-1)else f i)<n
    split<;>omega)
   refine⟨i,j,h1,by omega,?_⟩
   have a1:=hne i (by omega)
   have a2:=hne j (by omega)
   split at h3<;>split at h3<;>omega
theorem QS.Ok.room{s:QS}(h:s.Ok){id:Int}(hd:0≤id∧id<64)(hz:s.at_ id=0):s.n<64:=by
 apply Classical.byContradiction
 intro hc
 have hn:s.n=64:=by have:=h.n64;omega
 obtain⟨i,j,h1,h2,h3⟩:=rI 64 65 (fun i=>if i<64 then(s.I i).toNat else id.toNat) (by omega) (fun i hi=>by
  show(if i<64 then(s.I i).toNat else id.toNat)<64
  by_cases c:i<64
  ·rw[if_pos c];have:=h.gL i (by omega) (by omega);omega
  ·rw[if_neg c];omega)
 have r1:=h.gL i (by omega) (by omega)
 rw[if_pos (by omega)]at h3
 by_cases c:j<64
 ·rw[if_pos c]at h3
  have r2:=h.gL j (by omega) (by omega)
  have:=h.inj (i:=i) (j:=j) ⟨by omega,by omega⟩ ⟨by omega,by omega⟩ (by omega)
  omega
 ·rw[if_neg c]at h3
  have:=h.at1 i (by omega) (by omega)
  rw[show s.I i=id from by omega,hz]at this
  omega
theorem QS.Ok.void:QS.void.Ok:=⟨by decide,fun j j0 j1=>by simp[QS.void]at j1;omega,fun j j0 j1=>by simp[QS.void]at j1;omega,fun _ _ _=>.inl rfl⟩
theorem QS.CL:QS.void.Heap:=fun j j0 j1=>by simp[QS.void]at j1;omega
theorem QS.Ok.KW{s:QS}(h:s.Ok)(hh:s.Heap){id:Int}(hd:0≤id∧id<64)(hz:s.at_ id=0)(k:Int):((s.more k id).up s.n).Ok∧((s.more k id).up s.n).Heap∧((s.more k id).up s.n).n=s.n+1∧(∀ x,0≤x→x<64→(((s.more k id).up s.n).at_ x=0↔(¬x=id∧s.at_ x=0))∧(¬x=id→¬s.at_ x=0→((s.more k id).up s.n).zi x=s.zi x))∧((s.more k id).up s.n).zi id=k:=by
 have hroom:=h.room hd hz
 have e1:(s.more k id).up s.n=QS.Dv s.n ((s.more k id).set s.n k id) s.n:=by
  unfold QS.up
  rw[QS.vD]
  have e2:(s.more k id).K s.n=k:=ae _ _ _
  have e3:(s.more k id).I s.n=id:=ae _ _ _
  rw[e2,e3]
  rfl
 have tn:((s.more k id).set s.n k id).n=s.n+1:=rfl
 have ta:∀ x,((s.more k id).set s.n k id).at_ x=if x=id then(s.n:Int)+1 else s.at_ x:=fun _=>rfl
 have tI:∀ m,((s.more k id).set s.n k id).I m=if m=s.n then id else s.I m:=fun m=>by
  show aa (aa s.I s.n id) s.n id m=_
  unfold aa;split<;>rfl
 have tK:∀ m,((s.more k id).set s.n k id).K m=if m=s.n then k else s.K m:=fun m=>by
  show aa (aa s.K s.n k) s.n k m=_
  unfold aa;split<;>rfl
 have hno:∀ j:Int,0≤j→j<s.n→¬s.I j=id:=fun j j0 j1 e=>by
  have:=h.at1 j j0 j1
  rw[e,hz]at this;omega
 have hok:((s.more k id).set s.n k id).Ok:=by
  refine⟨by rw[tn];omega,fun j j0 j1=> ?_,fun j j0 j1=> ?_,fun x x0 x1=> ?_⟩
  ·rw[tI];split
   ·exact hd
   ·exact h.gL j j0 (by rw[tn]at j1;omega)
  ·rw[tI]
   by_cases c:j=s.n
   ·rw[if_pos c,ta,if_pos rfl,c]
   ·rw[if_neg c,ta,if_neg (hno j j0 (by rw[tn]at j1;omega))]
    exact h.at1 j j0 (by rw[tn]at j1;omega)
  ·rw[ta]
   by_cases c:x=id
   ·rw[if_pos c]
    refine .inr ⟨by omega,by rw[tn];omega,?_⟩
    rw[show(s.n:Int)+1-1=s.n from by omega,tI,if_pos rfl,c]
   ·rw[if_neg c]
    rcases h.at2 x x0 x1 with q | ⟨q1,q2,q3⟩
    ·exact .inl q
    ·refine .inr ⟨q1,by rw[tn];omega,?_⟩
     rw[tI,if_neg (by omega)];exact q3
 have hex:((s.more k id).set s.n k id).Lt s.n:=by
  refine⟨fun j j0 j1 jn=> ?_,fun _ j j0 j1 jp=>by rw[tn]at j1;omega⟩
  rw[tn]at j1
  unfold QS.L
  have c1:¬(j-1)/2=s.n:=by omega
  rw[tK,tK,tI,tI,if_neg jn,if_neg jn,if_neg c1,if_neg c1]
  exact hh j j0 (by omega)
 obtain⟨r1,r2,r3⟩:=hok.Dv s.n (i:=s.n) hex (by omega) (by rw[tn];omega) (by omega)
 rw[←e1]at r1 r2 r3
 have hid:=r2.k id hd.1 hd.2 (by rw[ta,if_pos rfl];omega)
 refine⟨r1,r3,r2.n.trans tn,fun x x0 x1=>⟨?_,fun xn xp=> ?_⟩,?_⟩
 ·rw[r2.at_ x x0 x1,ta]
  by_cases c:x=id
  ·rw[if_pos c];constructor
   ·intro q;omega
   ·intro q;exact absurd c q.1
  ·rw[if_neg c];exact⟨fun q=>⟨c,q⟩,fun q=>q.2⟩
 ·rw[r2.k x x0 x1 (by rw[ta,if_neg xn];exact xp)]
  unfold QS.zi
  rw[ta,if_neg xn,tK,if_neg]
  rcases h.at2 x x0 x1 with q | ⟨q1,q2,q3⟩<;>omega
 ·rw[hid]
  unfold QS.zi
  rw[ta,if_pos rfl,tK,if_pos (by omega)]
theorem QS.Ok.J3{s:QS}(h:s.Ok)(hh:s.Heap){id:Int}(hd:0≤id∧id<64)(hz:¬s.at_ id=0):(s.mz id).Ok∧(s.mz id).Heap∧(s.mz id).n=s.n-1∧(∀ x,0≤x→x<64→((s.mz id).at_ x=0↔(x=id∨s.at_ x=0))∧(¬x=id→¬s.at_ x=0→(s.mz id).zi x=s.zi x)):=by
 obtain⟨a1,a2,a3⟩:=(h.at2 id hd.1 hd.2).resolve_left hz
 unfold QS.mz
 by_cases c:s.at_ id-1<(s.n:Int)-1
 ·rw[if_pos c]
  generalize hi:s.at_ id-1=i at*
  generalize hx:s.I ((s.n:Int)-1)=xi at*
  generalize hk:s.K ((s.n:Int)-1)=xk at*
  have hxr:=h.gL ((s.n:Int)-1) (by omega) (by omega)
  have hxa:=h.at1 ((s.n:Int)-1) (by omega) (by omega)
  rw[hx]at hxr hxa
  have hxd:¬xi=id:=fun e=>by rw[e]at hxa;omega
  have tn:((s.cP id).set i xk xi).n=s.n-1:=rfl
  have ta:∀ x,((s.cP id).set i xk xi).at_ x=if x=xi then i+1 else if x=id then 0 else s.at_ x:=fun _=>rfl
  have tI:∀ m,((s.cP id).set i xk xi).I m=if m=i then xi else s.I m:=fun _=>rfl
  have tK:∀ m,((s.cP id).set i xk xi).K m=if m=i then xk else s.K m:=fun _=>rfl
  have hok:((s.cP id).set i xk xi).Ok:=by
   refine⟨by rw[tn];have:=h.n64;omega,fun j j0 j1=> ?_,fun j j0 j1=> ?_,fun x x0 x1=> ?_⟩
   ·rw[tn]at j1
    rw[tI];split
    ·exact hxr
    ·exact h.gL j j0 (by omega)
   ·rw[tn]at j1
    rw[tI]
    by_cases cj:j=i
    ·rw[if_pos cj,ta,if_pos rfl,cj]
    ·rw[if_neg cj,ta,if_neg (fun e=>by
      have:=h.at1 j j0 (by omega)
      rw[e]at this;omega),if_neg (fun e=>by
      have:=h.at1 j j0 (by omega)
      rw[e]at this;omega)]
     exact h.at1 j j0 (by omega)
   ·rw[ta]
    by_cases c1:x=xi
    ·rw[if_pos c1]
     refine .inr ⟨by omega,by rw[tn];omega,?_⟩
     rw[show i+1-1=i from by omega,tI,if_pos rfl,c1]
    ·rw[if_neg c1]
     by_cases c2:x=id
     ·rw[if_pos c2];exact .inl rfl
     ·rw[if_neg c2]
      rcases h.at2 x x0 x1 with q | ⟨q1,q2,q3⟩
      ·exact .inl q
      ·have n1:¬s.at_ x-1=(s.n:Int)-1:=fun e=>by rw[e,hx]at q3;exact c1 q3.symm
       have n2:¬s.at_ x-1=i:=fun e=>by rw[e,a3]at q3;exact c2 q3.symm
       refine .inr ⟨q1,by rw[tn];omega,?_⟩
       rw[tI,if_neg n2];exact q3
  have hmid:((s.cP id).set i xk xi).Mid i False:=by
   refine⟨fun j j0 j1 jp jb=> ?_,fun i0 j j0 j1 jp=> ?_⟩
   ·rw[tn]at j1
    have cj:¬j=i:=by rcases jb with q | q;exact q;cases q
    unfold QS.L
    rw[tK,tK,tI,tI,if_neg cj,if_neg cj,if_neg jp,if_neg jp]
    exact hh j j0 (by omega)
   ·rw[tn]at j1
    have cj:¬j=i:=by omega
    have cp:¬(i-1)/2=i:=by omega
    unfold QS.L
    rw[tK,tK,tI,tI,if_neg cj,if_neg cj,if_neg cp,if_neg cp]
    have g1:=hh j j0 (by omega)
    rw[jp]at g1
    exact QS.zc g1 (hh i i0 (by omega))
  obtain⟨d1,d2,q,q1,q2,q3⟩:=hok.kO (((s.cP id).set i xk xi).n-i.toNat) hmid (by omega) (by rw[tn];omega) (by rw[tn];omega)
  rw[←hok.wU (by omega) (by rw[tn];omega)]at d1 d2 q2 q3
  have hq:(((s.cP id).set i xk xi).down i).at_ xi-1=q:=by
   have g1:=d1.at1 q q1.1 (by rw[d2.n];exact q1.2)
   rw[q2,tI,if_pos rfl]at g1
   omega
  have hf:(s.cP id).fill i xk xi=(((s.cP id).set i xk xi).down i).up q:=by unfold QS.fill;rw[hq]
  obtain⟨u1,u2,u3⟩:=d1.Dv q.toNat q3 q1.1 (by rw[d2.n];exact q1.2) (by omega)
  rw[←d1.KR q1.1 (by rw[d2.n];exact q1.2),←hf]at u1 u2 u3
  have hs:=d2.trans u2
  refine⟨u1,u3,hs.n.trans tn,fun x x0 x1=>⟨?_,fun xn xp=> ?_⟩⟩
  ·rw[hs.at_ x x0 x1,ta]
   by_cases c1:x=xi
   ·rw[if_pos c1,c1,hxa]
    constructor
    ·intro e;omega
    ·rintro(e | e)
     ·exact absurd e hxd
     ·omega
   ·rw[if_neg c1]
    by_cases c2:x=id
    ·rw[if_pos c2];exact⟨fun _=>.inl c2,fun _=>rfl⟩
    ·rw[if_neg c2];exact⟨fun e=>.inr e,fun e=>e.resolve_left c2⟩
  ·have hp:¬((s.cP id).set i xk xi).at_ x=0:=by
    rw[ta]
    split
    ·omega
    ·first
      | exact xp
      | (rw[if_neg xn];exact xp)
   rw[hs.k x x0 x1 hp]
   unfold QS.zi
   rw[ta]
   by_cases c1:x=xi
   ·rw[if_pos c1,show i+1-1=i from by omega,tK,if_pos rfl,c1,hxa,←hk]
    congr 1
    omega
   ·rw[if_neg c1,if_neg xn,tK,if_neg]
    intro e
    rcases h.at2 x x0 x1 with g | ⟨_,_,g⟩
    ·exact xp g
    ·rw[e,a3]at g;exact xn g.symm
 ·rw[if_neg c]
  have hl:s.at_ id=s.n:=by omega
  have tn:(s.cP id).n=s.n-1:=rfl
  have ta:∀ x,(s.cP id).at_ x=if x=id then 0 else s.at_ x:=fun _=>rfl
  refine⟨⟨by rw[tn];have:=h.n64;omega,fun j j0 j1=>h.gL j j0 (by rw[tn]at j1;omega),fun j j0 j1=> ?_,fun x x0 x1=> ?_⟩,fun j j0 j1=>hh j j0 (by rw[tn]at j1;omega),tn,fun x x0 x1=>⟨?_,fun xn xp=> ?_⟩⟩
  ·rw[tn]at j1
   show(s.cP id).at_ (s.I j)=j+1
   rw[ta,if_neg (fun e=>by
    have:=h.at1 j j0 (by omega)
    rw[e]at this;omega)]
   exact h.at1 j j0 (by omega)
  ·rw[ta]
   by_cases c2:x=id
   ·rw[if_pos c2];exact .inl rfl
   ·rw[if_neg c2]
    rcases h.at2 x x0 x1 with g | ⟨g1,g2,g3⟩
    ·exact .inl g
    ·have:¬s.at_ x=s.n:=fun e=>by
      rw[e,←hl,a3]at g3;exact c2 g3.symm
     exact .inr ⟨g1,by rw[tn];omega,g3⟩
  ·rw[ta]
   by_cases c2:x=id
   ·rw[if_pos c2];exact⟨fun _=>.inl c2,fun _=>rfl⟩
   ·rw[if_neg c2];exact⟨fun e=>.inr e,fun e=>e.resolve_left c2⟩
  ·unfold QS.zi
   rw[ta,if_neg xn]
   rfl
theorem QS.Heap.least{s:QS}(h:s.Heap):∀ (m:Nat) (j:Int),j.toNat≤m→0≤j→j<s.n→¬s.L j 0
 | 0,j,hm,h0,h1=>by
  have:j=0:=by omega
  rw[this];exact s.Jz 0
 | m+1,j,hm,h0,h1=>by
  by_cases c:j=0
  ·rw[c];exact s.Jz 0
  ·exact QS.zc (h j (by omega) h1) (QS.Heap.least h m ((j-1)/2) (by omega) (by omega) (by omega))
theorem QS.wS:∀ (f f':Nat) (s:QS) (i k id:Int),i≤f→i≤f'→QS.sN f s i k id=QS.sN f' s i k id
 | 0,0,_,_,_,_,_,_=>rfl
 | 0,f'+1,s,i,k,id,h,_=>by rw[QS.sN,QS.sN,if_neg (by omega)]
 | f+1,0,s,i,k,id,_,h=>by rw[QS.sN,QS.sN,if_neg (by omega)]
 | f+1,f'+1,s,i,k,id,h,h'=>by
  rw[QS.sN,QS.sN]
  split
  ·exact QS.wS f f' _ _ _ _ (by omega) (by omega)
  ·rfl
theorem QS.G3{s:QS}{i k id:Int}(h:0<i)(h2:k7 k id (s.K ((i-1)/2)) (s.I ((i-1)/2))):QS.sN i.toNat s i k id=QS.sN ((i-1)/2).toNat (s.set i (s.K ((i-1)/2)) (s.I ((i-1)/2))) ((i-1)/2) k id:=by
 obtain⟨f,hf⟩:∃ f,i.toNat=f+1:=⟨i.toNat-1,by omega⟩
 rw[hf,QS.sN,if_pos ⟨h,h2⟩]
 exact QS.wS _ _ _ _ _ _ (by omega) (by omega)
theorem QS.xF{s:QS}{i k id:Int}(h:¬(0<i∧k7 k id (s.K ((i-1)/2)) (s.I ((i-1)/2)))):QS.sN i.toNat s i k id=s.set i k id:=by
 cases hf:i.toNat with
 | zero=>rfl
 | succ f=>rw[QS.sN,if_neg h]
theorem QS.r7:∀ (f f':Nat) (s:QS) (i k id:Int),0≤i→(s.n:Int)≤i+f→(s.n:Int)≤i+f'→QS.fq f s i k id=QS.fq f' s i k id
 | 0,0,_,_,_,_,_,_,_=>rfl
 | 0,f'+1,s,i,k,id,h0,h,_=>by
  rw[QS.fq,QS.fq,if_neg]
  rintro⟨q,_⟩
  rcases s.dL i with⟨e,_⟩ | ⟨e,_⟩<;>omega
 | f+1,0,s,i,k,id,h0,_,h=>by
  rw[QS.fq,QS.fq,if_neg]
  rintro⟨q,_⟩
  rcases s.dL i with⟨e,_⟩ | ⟨e,_⟩<;>omega
 | f+1,f'+1,s,i,k,id,h0,h,h'=>by
  have hc:i<s.child i:=by rcases s.dL i with⟨e,_⟩ | ⟨e,_⟩<;>omega
  rw[QS.fq,QS.fq]
  split
  ·exact QS.r7 f f' _ _ _ _ (by omega) (by show(s.n:Int)≤_;omega) (by show(s.n:Int)≤_;omega)
  ·rfl
theorem QS.zk{s:QS}{i k id:Int}(h0:0≤i)(h1:i<s.n)(h:s.child i<s.n)(h2:k7 (s.K (s.child i)) (s.I (s.child i)) k id):QS.fq (s.n-i.toNat) s i k id=QS.fq (s.n-(s.child i).toNat) (s.set i (s.K (s.child i)) (s.I (s.child i))) (s.child i) k id:=by
 have hc:i<s.child i:=by rcases s.dL i with⟨e,_⟩ | ⟨e,_⟩<;>omega
 obtain⟨f,hf⟩:∃ f,s.n-i.toNat=f+1:=⟨s.n-i.toNat-1,by omega⟩
 rw[hf,QS.fq,if_pos ⟨h,h2⟩]
 exact QS.r7 _ _ _ _ _ _ (by omega) (by show(s.n:Int)≤_;omega) (by show(s.n:Int)≤_;omega)
theorem QS.qx{s:QS}{f:Nat}{i k id:Int}(h:¬(s.child i<s.n∧k7 (s.K (s.child i)) (s.I (s.child i)) k id)):QS.fq f s i k id=s.set i k id:=by
 cases f with
 | zero=>rfl
 | succ f=>rw[QS.fq,if_neg h]
theorem QS.Ok.Oz{s:QS}(h:s.Ok)(hh:s.Heap){id i xk xi:Int}(hd:0≤id∧id<64)(hz:¬s.at_ id=0)(hi:s.at_ id-1=i)(hx:s.I ((s.n:Int)-1)=xi)(c:i<(s.n:Int)-1):((s.cP id).set i xk xi).Ok∧(((s.cP id).set i xk xi).down i).Ok∧((s.cP id).set i xk xi).oQ (((s.cP id).set i xk xi).down i)∧∃ q:Int,(0≤q∧q<((s.cP id).set i xk xi).n)∧(((s.cP id).set i xk xi).down i).Lt q∧(((s.cP id).set i xk xi).down i).at_ xi-1=q:=by
 obtain⟨a1,a2,a3⟩:=(h.at2 id hd.1 hd.2).resolve_left hz
 rw[hi]at a3
 have hxr:=h.gL ((s.n:Int)-1) (by omega) (by omega)
 have hxa:=h.at1 ((s.n:Int)-1) (by omega) (by omega)
 rw[hx]at hxr hxa
 have hxd:¬xi=id:=fun e=>by rw[e]at hxa;omega
 have tn:((s.cP id).set i xk xi).n=s.n-1:=rfl
 have ta:∀ x,((s.cP id).set i xk xi).at_ x=if x=xi then i+1 else if x=id then 0 else s.at_ x:=fun _=>rfl
 have tI:∀ m,((s.cP id).set i xk xi).I m=if m=i then xi else s.I m:=fun _=>rfl
 have tK:∀ m,((s.cP id).set i xk xi).K m=if m=i then xk else s.K m:=fun _=>rfl
 have hok:((s.cP id).set i xk xi).Ok:=by
  refine⟨by rw[tn];have:=h.n64;omega,fun j j0 j1=> ?_,fun j j0 j1=> ?_,fun x x0 x1=> ?_⟩
  ·rw[tn]at j1
   rw[tI];split
   ·exact hxr
   ·exact h.gL j j0 (by omega)
  ·rw[tn]at j1
   rw[tI]
   by_cases cj:j=i
   ·rw[if_pos cj,ta,if_pos rfl,cj]
   ·rw[if_neg cj,ta,if_neg (fun e=>by
     have:=h.at1 j j0 (by omega)
     rw[e]at this;omega),if_neg (fun e=>by
     have:=h.at1 j j0 (by omega)
     rw[e]at this;omega)]
    exact h.at1 j j0 (by omega)
  ·rw[ta]
   by_cases c1:x=xi
   ·rw[if_pos c1]
    refine .inr ⟨by omega,by rw[tn];omega,?_⟩
    rw[show i+1-1=i from by omega,tI,if_pos rfl,c1]
   ·rw[if_neg c1]
    by_cases c2:x=id
    ·rw[if_pos c2];exact .inl rfl
    ·rw[if_neg c2]
     rcases h.at2 x x0 x1 with q | ⟨q1,q2,q3⟩
     ·exact .inl q
     ·have n1:¬s.at_ x-1=(s.n:Int)-1:=fun e=>by rw[e,hx]at q3;exact c1 q3.symm
      have n2:¬s.at_ x-1=i:=fun e=>by rw[e,a3]at q3;exact c2 q3.symm
      refine .inr ⟨q1,by rw[tn];omega,?_⟩
      rw[tI,if_neg n2];exact q3
 have hmid:((s.cP id).set i xk xi).Mid i False:=by
  refine⟨fun j j0 j1 jp jb=> ?_,fun i0 j j0 j1 jp=> ?_⟩
  ·rw[tn]at j1
   have cj:¬j=i:=by rcases jb with q | q;exact q;cases q
   unfold QS.L
   rw[tK,tK,tI,tI,if_neg cj,if_neg cj,if_neg jp,if_neg jp]
   exact hh j j0 (by omega)
  ·rw[tn]at j1
   have cj:¬j=i:=by omega
   have cp:¬(i-1)/2=i:=by omega
   unfold QS.L
   rw[tK,tK,tI,tI,if_neg cj,if_neg cj,if_neg cp,if_neg cp]
   have g1:=hh j j0 (by omega)
   rw[jp]at g1
   exact QS.zc g1 (hh i i0 (by omega))
 obtain⟨d1,d2,q,q1,q2,q3⟩:=hok.kO (((s.cP id).set i xk xi).n-i.toNat) hmid (by omega) (by rw[tn];omega) (by rw[tn];omega)
 rw[←hok.wU (by omega) (by rw[tn];omega)]at d1 d2 q2 q3
 have hq:(((s.cP id).set i xk xi).down i).at_ xi-1=q:=by
  have g1:=d1.at1 q q1.1 (by rw[d2.n];exact q1.2)
  rw[q2,tI,if_pos rfl]at g1
  omega
 exact⟨hok,d1,d2,q,q1,q3,hq⟩
def QS.first(s:QS):Int×Int×Bool:=if s.n=0 then(0,0,false)else(s.I 0,s.K 0,true)
theorem QS.pt{s:QS}{id:Int}(h:id<0∨63<id):s.key id=(0,1):=by unfold QS.key;rw[if_pos h]
theorem QS.ya{s:QS}{id:Int}(h:¬(id<0∨63<id))(h2:s.at_ id=0):s.key id=(0,2):=by unfold QS.key;rw[if_neg h,if_pos h2]
theorem QS.vZ{s:QS}{id:Int}(h:¬(id<0∨63<id))(h2:¬s.at_ id=0):s.key id=(s.K (s.at_ id-1),0):=by unfold QS.key;rw[if_neg h,if_neg h2]
def dC(s:QS)(p:Option Addr)(cap:Nat)(i:Nat):Value:=if i=0 then .slice p s.n cap else if i<65 then .int .i64 (s.at_ ((i-1:Nat):Int))else undef
def dZ(s:QS)(i:Nat):Value:=if i%2=0 then .int .u64 (s.K ((i/2:Nat):Int))else .int .i64 (s.I ((i/2:Nat):Int))
def jF(k i:Int)(j:Nat):Value:=if j=0 then .int .u64 k else if j=1 then .int .i64 i else undef
theorem dY(s:QS)(p:Option Addr)(cap:Nat):0+0<65∧dC s p cap (0+0)= .slice p s.n cap:=⟨by omega,rfl⟩
theorem ni(s:QS)(p:Option Addr)(cap:Nat)(z:Int)(h:0≤z∧z<64):0+1+z.toNat*1<65∧dC s p cap (0+1+z.toNat*1)= .int .i64 (s.at_ z):=by
 refine⟨by omega,?_⟩
 unfold dC
 rw[if_neg (by omega),if_pos (by omega),show((0+1+z.toNat*1-1:Nat):Int)=z from by omega]
theorem uF(s:QS)(p p':Option Addr)(cap cap' n':Nat):0+0<65∧cH (dC s p cap) (0+0) (.slice p' n' cap')=dC {s with n:=n'} p' cap':=by
 refine⟨by omega,?_⟩
 funext i
 unfold cH dC
 by_cases h:i=0
 ·subst h;rfl
 ·have h2:¬i=0+0:=by omega
  simp only[if_neg h,if_neg h2]
theorem qH(s:QS)(p:Option Addr)(cap:Nat)(z v:Int)(h:0≤z∧z<64):0+1+z.toNat*1<65∧cH (dC s p cap) (0+1+z.toNat*1) (.int .i64 v)=dC {s with at_:=aa s.at_ z v} p cap:=by
 refine⟨by omega,?_⟩
 funext i
 unfold cH dC aa
 by_cases h1:i=0+1+z.toNat*1
 ·have h2:¬i=0:=by omega
  have h3:i<65:=by omega
  have h4:((i-1:Nat):Int)=z:=by omega
  simp only[if_pos h1,if_neg h2,if_pos h3,if_pos h4]
 ·simp only[if_neg h1]
  by_cases h2:i=0
  ·simp only[if_pos h2]
  ·by_cases h3:i<65
   ·have h4:¬((i-1:Nat):Int)=z:=by omega
    simp only[if_neg h2,if_pos h3,if_neg h4]
   ·simp only[if_neg h2,if_neg h3]
theorem ns(s:QS)(n:Nat)(z:Int)(h:0≤z∧z<n):0+z.toNat*2+0<n*2∧dZ s (0+z.toNat*2+0)= .int .u64 (s.K z):=by
 refine⟨by omega,?_⟩
 unfold dZ
 rw[if_pos (by omega),show((0+z.toNat*2+0)/2:Nat)=z.toNat from by omega,show((z.toNat:Nat):Int)=z from by omega]
theorem Bl(s:QS)(n:Nat)(z:Int)(h:0≤z∧z<n):0+z.toNat*2+1<n*2∧dZ s (0+z.toNat*2+1)= .int .i64 (s.I z):=by
 refine⟨by omega,?_⟩
 unfold dZ
 rw[if_neg (by omega),show((0+z.toNat*2+1)/2:Nat)=z.toNat from by omega,show((z.toNat:Nat):Int)=z from by omega]
theorem fl(s:QS)(n:Nat)(z:Int)(h:0≤z∧z<n):0+z.toNat*2+2≤n*2∧cq (dZ s) (0+z.toNat*2) 2= .agg #[.int .u64 (s.K z),.int .i64 (s.I z)]:=by
 refine⟨by omega,?_⟩
 simp only[cq,List.range,List.range.loop,List.map_cons,List.map_nil]
 rw[(ns s n z h).2,(Bl s n z h).2]
theorem GC(s:QS)(n:Nat)(z k i:Int)(h:0≤z∧z<n):0+z.toNat*2+2≤n*2∧bQ (dZ s) (0+z.toNat*2) [.int .u64 k,.int .i64 i]=dZ {s with K:=aa s.K z k,I:=aa s.I z i} :=by
 refine⟨by omega,?_⟩
 funext j
 simp only[bQ,cH]
 unfold dZ aa
 by_cases h1:j=0+z.toNat*2+1
 ·have h2:¬j%2=0:=by omega
  have h3:((j/2:Nat):Int)=z:=by omega
  simp only[if_pos h1,if_neg h2,if_pos h3]
 ·by_cases h2:j=0+z.toNat*2
  ·have h3:j%2=0:=by omega
   have h4:((j/2:Nat):Int)=z:=by omega
   simp only[if_neg h1,if_pos h2,if_pos h3,if_pos h4]
  ·have h4:¬((j/2:Nat):Int)=z:=by omega
   simp only[if_neg h1,if_neg h2,if_neg h4]
theorem Dk(s:QS)(k id:Int):∀ i,i<(s.n+1)*2→dZ (s.more k id) i=if i<s.n*2 then dZ s i else cellsOf #[.int .u64 k,.int .i64 id] (i-s.n*2):=by
 intro i hi
 unfold dZ QS.more aa
 by_cases h:i<s.n*2
 ·have h3:¬((i/2:Nat):Int)=s.n:=by omega
  simp only[if_pos h,if_neg h3]
 ·have h3:((i/2:Nat):Int)=s.n:=by omega
  have h4:i-s.n*2=0∨i-s.n*2=1:=by omega
  rcases h4 with h4 | h4
  ·have h5:i%2=0:=by omega
   simp only[if_neg h,if_pos h3,if_pos h5,h4];rfl
  ·have h5:¬i%2=0:=by omega
   simp only[if_neg h,if_pos h3,if_neg h5,h4];rfl
theorem D5(s:QS)(p p':Option Addr)(cap cap':Nat)(k id:Int):0+0<65∧cH (dC s p cap) (0+0) (.slice p' (s.n+1) cap')=dC (s.more k id) p' cap':=uF s p p' cap cap' (s.n+1)
theorem EC(s:QS)(p:Option Addr)(cap:Nat)(id:Int)(h:0≤id∧id<64):0+1+id.toNat*1<65∧cH (dC {s with n:=s.n-1} p cap) (0+1+id.toNat*1) (.int .i64 0)=dC (s.cP id) p cap:=qH {s with n:=s.n-1} p cap id 0 h
theorem lW(k i:Int):0+0<2∧jF k i (0+0)= .int .u64 k:=⟨by omega,rfl⟩
theorem nX(k i:Int):0+1<2∧jF k i (0+1)= .int .i64 i:=⟨by omega,rfl⟩
theorem fe(k i:Int):0+2≤2∧cq (jF k i) 0 2= .agg #[.int .u64 k,.int .i64 i]:=⟨by omega,rfl⟩
theorem oT(k i:Int):∀ j,j<2→cellsOf #[.int .u64 k,.int .i64 i] j=jF k i j:=fun j hj=>match j,hj with
 | 0,_=>rfl
 | 1,_=>rfl
 | j+2,h=>absurd h (by omega)
theorem oF(k i:Int):0+2≤2∧bQ (cellsOf #[.int .u64 0,.int .i64 0]) 0 [.int .u64 k,.int .i64 i]=jF k i:=by
 refine⟨by omega,?_⟩
 funext j
 match j with
 | 0=>rfl
 | 1=>rfl
 | j+2=>
  have e1:bQ (cellsOf #[.int .u64 0,.int .i64 0]) 0 [.int .u64 k,.int .i64 i] (j+2)=undef:=by simp[bQ,cH,cellsOf]
  have e2:jF k i (j+2)=undef:=by simp[jF]
  rw[e1,e2]
def QS.Jm(s:QS):Prop:=∀ j:Int,0≤j→j<s.n→0≤s.I j∧s.I j<64
theorem QS.Jm.set{s:QS}(h:s.Jm){i k id:Int}(hd:0≤id∧id<64):(s.set i k id).Jm:=fun j j0 j1=>by
 show 0≤aa s.I i id j∧aa s.I i id j<64
 unfold aa;split
 ·exact hd
 ·exact h j j0 j1
theorem QS.AO:∀ (f:Nat) (s:QS) (i k id:Int),(QS.fq f s i k id).n=s.n
 | 0,_,_,_,_=>rfl
 | f+1,s,i,k,id=>by
  rw[QS.fq];split
  ·rw[QS.AO f];rfl
  ·rfl
theorem QS.J4(s:QS)(i:Int):(s.down i).n=s.n:=QS.AO _ _ _ _ _
theorem QS.jP{s:QS}{id k:Int}(h:id<0∨63<id):s.put id k=(1,s):=by unfold QS.put;rw[if_pos h]
theorem QS.lM{s:QS}{id k:Int}(h:¬(id<0∨63<id))(h2:0<s.at_ id):s.put id k=(3,s):=by unfold QS.put;rw[if_neg h,if_pos h2]
theorem QS.lC{s:QS}{id k:Int}(h:¬(id<0∨63<id))(h2:¬ 0<s.at_ id):s.put id k=(0,(s.more k id).up s.n):=by unfold QS.put;rw[if_neg h,if_neg h2]
theorem QS.pe{s:QS}{id:Int}(h:id<0∨63<id):s.cut id=(0,1,s):=by unfold QS.cut;rw[if_pos h]
theorem QS.vT{s:QS}{id:Int}(h:¬(id<0∨63<id))(h2:s.at_ id=0):s.cut id=(0,2,s):=by unfold QS.cut;rw[if_neg h,if_pos h2]
theorem QS.qZ{s:QS}{id:Int}(h:¬(id<0∨63<id))(h2:¬s.at_ id=0):s.cut id=(s.K (s.at_ id-1),0,s.mz id):=by unfold QS.cut;rw[if_neg h,if_neg h2]
structure RQ where
 inn:Int→Bool
 key:Int→Int
def RQ.is(r:RQ)(id:Int):Int:=if id<0∨63<id then 1 else if r.inn id then 0 else 2
def RQ.put(r:RQ)(id k:Int):Int×RQ:=if r.is id=1 then(1,r)else if r.is id=0 then(3,r)else(0,⟨aa r.inn id true,aa r.key id k⟩)
def RQ.Du(r:RQ)(id:Int)(cut:Bool):Int×Int×RQ:=if r.is id≠0 then(0,r.is id,r)else(r.key id,0,if cut then {r with inn:=aa r.inn id false} else r)
theorem RQ.jT{r:RQ}{id:Int}(h:id<0∨63<id):r.is id=1:=by unfold RQ.is;rw[if_pos h]
theorem RQ.nh{r:RQ}{id:Int}(h:¬(id<0∨63<id))(ht:r.inn id=false):r.is id=2:=by unfold RQ.is;rw[if_neg h,if_neg (by simp[ht])]
theorem RQ.rj{r:RQ}{id:Int}(h:¬(id<0∨63<id))(ht:r.inn id=true):r.is id=0:=by unfold RQ.is;rw[if_neg h,if_pos ht]
theorem RQ.jP{r:RQ}{id:Int}(k:Int)(h:r.is id=1):r.put id k=(1,r):=by unfold RQ.put;rw[if_pos h]
theorem RQ.lM{r:RQ}{id:Int}(k:Int)(h1:¬r.is id=1)(h:r.is id=0):r.put id k=(3,r):=by unfold RQ.put;rw[if_neg h1,if_pos h]
theorem RQ.lC{r:RQ}{id:Int}(k:Int)(h1:¬r.is id=1)(h:¬r.is id=0):r.put id k=(0,⟨aa r.inn id true,aa r.key id k⟩):=by unfold RQ.put;rw[if_neg h1,if_neg h]
theorem RQ.vW{r:RQ}{id:Int}(c:Bool)(h:¬r.is id=0):r.Du id c=(0,r.is id,r):=by unfold RQ.Du;rw[if_pos h]
theorem RQ.za{r:RQ}{id:Int}(h:r.is id=0):r.Du id true=(r.key id,0,{r with inn:=aa r.inn id false}):=by unfold RQ.Du;rw[if_neg (fun q=>q h)];rfl
theorem RQ.DR{r:RQ}{id:Int}(h:r.is id=0):r.Du id false=(r.key id,0,r):=by unfold RQ.Du;rw[if_neg (fun q=>q h)];rfl
structure ib (s:QS) (r:RQ):Prop where
 ok:s.Ok
 heap:s.Heap
 inn:∀ id,0≤id→id<64→(r.inn id=true↔¬s.at_ id=0)
 key:∀ id,0≤id→id<64→¬s.at_ id=0→r.key id=s.zi id
def RQ.void:RQ:=⟨fun _=>false,fun _=>0⟩
theorem ib.void:ib QS.void RQ.void:=⟨QS.Ok.void,QS.CL,fun id _ _=>by
  show(false=true)↔¬(0:Int)=0
  simp,fun id _ _ h=>absurd rfl h⟩
theorem ib.is{s:QS}{r:RQ}(h:ib s r){id:Int}(hd:0≤id∧id<64):r.is id=if s.at_ id=0 then 2 else 0:=by
 have hi:=h.inn id hd.1 hd.2
 by_cases c:s.at_ id=0
 ·rw[if_pos c]
  cases q:r.inn id with
  | false=>exact RQ.nh (by omega) q
  | true=>exact absurd c (hi.1 q)
 ·rw[if_neg c]
  exact RQ.rj (by omega) (hi.2 c)
theorem ib.put{s:QS}{r:RQ}(h:ib s r)(id k:Int):(s.put id k).1=(r.put id k).1∧ib (s.put id k).2 (r.put id k).2:=by
 by_cases c1:id<0∨63<id
 ·rw[QS.jP c1,RQ.jP k (RQ.jT c1)];exact⟨rfl,h⟩
 ·have hd:0≤id∧id<64:=by omega
  have his:=h.is hd
  by_cases hz:s.at_ id=0
  ·rw[if_pos hz]at his
   rw[QS.lC c1 (by omega),RQ.lC k (by omega) (by omega)]
   obtain⟨r1,r2,r3,r4,r5⟩:=h.ok.KW h.heap hd hz k
   refine⟨rfl,r1,r2,fun m m0 m1=> ?_,fun m m0 m1 mp=> ?_⟩
   ·show aa r.inn id true m=true↔_
    rw[(r4 m m0 m1).1]
    by_cases q:m=id
    ·rw[q,ae];simp
    ·rw[ad _ _ q,h.inn m m0 m1];simp[q]
   ·show aa r.key id k m=_
    by_cases q:m=id
    ·rw[q,ae,r5]
    ·have hz2:¬s.at_ m=0:=fun e=>mp ((r4 m m0 m1).1.2 ⟨q,e⟩)
     rw[ad _ _ q,(r4 m m0 m1).2 q hz2]
     exact h.key m m0 m1 hz2
  ·rw[if_neg hz]at his
   have hp:0<s.at_ id:=by rcases h.ok.at2 id hd.1 hd.2 with q | q<;>omega
   rw[QS.lM c1 hp,RQ.lM k (by omega) his]
   exact⟨rfl,h⟩
theorem ib.cut{s:QS}{r:RQ}(h:ib s r)(id:Int):(s.cut id).1=(r.Du id true).1∧(s.cut id).2.1=(r.Du id true).2.1∧ib (s.cut id).2.2 (r.Du id true).2.2:=by
 by_cases c1:id<0∨63<id
 ·have hi:=RQ.jT (r:=r) c1
  rw[QS.pe c1,RQ.vW true (by omega)];exact⟨rfl,hi.symm,h⟩
 ·have hd:0≤id∧id<64:=by omega
  have his:=h.is hd
  by_cases hz:s.at_ id=0
  ·rw[if_pos hz]at his
   rw[QS.vT c1 hz,RQ.vW true (by omega)];exact⟨rfl,his.symm,h⟩
  ·rw[if_neg hz]at his
   rw[QS.qZ c1 hz,RQ.za his]
   obtain⟨r1,r2,r3,r4⟩:=h.ok.J3 h.heap hd hz
   refine⟨(h.key id hd.1 hd.2 hz).symm,rfl,r1,r2,fun m m0 m1=> ?_,fun m m0 m1 mp=> ?_⟩
   ·show aa r.inn id false m=true↔_
    rw[(r4 m m0 m1).1]
    by_cases q:m=id
    ·rw[q,ae];simp
    ·rw[ad _ _ q,h.inn m m0 m1];simp[q]
   ·show r.key m=_
    have q:¬m=id:=fun e=>mp ((r4 m m0 m1).1.2 (.inl e))
    have hz2:¬s.at_ m=0:=fun e=>mp ((r4 m m0 m1).1.2 (.inr e))
    rw[(r4 m m0 m1).2 q hz2]
    exact h.key m m0 m1 hz2
theorem ib.LI{s:QS}{r:RQ}(h:ib s r)(id:Int):(s.key id).1=(r.Du id false).1∧(s.key id).2=(r.Du id false).2.1∧(r.Du id false).2.2=r:=by
 by_cases c1:id<0∨63<id
 ·have hi:=RQ.jT (r:=r) c1
  rw[QS.pt c1,RQ.vW false (by omega)];exact⟨rfl,hi.symm,rfl⟩
 ·have hd:0≤id∧id<64:=by omega
  have his:=h.is hd
  by_cases hz:s.at_ id=0
  ·rw[if_pos hz]at his
   rw[QS.ya c1 hz,RQ.vW false (by omega)];exact⟨rfl,his.symm,rfl⟩
  ·rw[if_neg hz]at his
   rw[QS.vZ c1 hz,RQ.DR his]
   exact⟨(h.key id hd.1 hd.2 hz).symm,rfl,rfl⟩
structure SF where
 here:Int→Bool
 par:Int→Int
 wt:Int→Int
 v:Int→Int
 ran:Int→Int
 awake:Int→Bool
 floor:Int→Int
 frz:Int→Bool
 quota:Int→Int
 period:Int→Int
 used:Int→Int
 now:Int
 was:Int→Bool
structure SC extends SF where
 Q:Int→QS
 P:Int→Option Addr
 C:Int→Nat
namespace SF
def dI(s:SF)(n:Int):Bool:=(List.range 30).any (fun i=>s.was (i:Int)&&decide (s.par (i:Int)=n))
def ready(s:SF)(n:Int):Bool:=if 10≤n then s.awake n else s.dI n&& !s.frz n&&(decide (s.quota n=0)||decide (s.used n<s.quota n))
def kS(s:SF)(n:Int):SF:= {s with v:=aa s.v n (if s.ready n=true∧s.was n=false then max (s.v n) (s.floor (s.par n))else s.v n),was:=aa s.was n (s.ready n)}
def dR:Nat→SF→Int→SF
 | 0,s,_=>s
 | k+1,s,n=>if n≤0 then s else dR k (s.kS n) (s.par n)
def look(d:Int→Nat)(s:SF)(n:Int):SF:=dR (d n+1) s n
def ie(s:SF)(n:Int):SF:= {s with floor:=aa s.floor (s.par n) (max (s.floor (s.par n)) (s.v n)),v:=aa s.v n (s.v n+1048576/s.wt n),ran:=aa s.ran n (s.ran n+1),used:=if 0<s.quota n then aa s.used n (s.used n+1)else s.used}
def oA(s:SF)(n:Int):SF:= {s.ie n with was:=aa s.was n ((s.ie n).ready n)}
def nF:Nat→SF→Int→SF
 | 0,s,_=>s
 | k+1,s,n=>if n≤0 then s else nF k (s.oA n) (s.par n)
def k6(d:Int→Nat)(s:SF)(n:Int):SF:=if s.here n=true∧0<s.quota n∧s.now%s.period n=0 then look d {s with used:=aa s.used n 0} n else s
def hQ(d:Int→Nat)(s:SF):Nat→SF
 | 0=>s
 | k+1=>k6 d (hQ d s k) ((k:Int)+1)
def fE(s:SF)(g:Int):Nat→Int
 | 0=> -1
 | k+1=>if s.was (29-(k:Int))=true∧s.par (29-(k:Int))=g∧(fE s g k<0∨s.v (29-(k:Int))≤s.v (fE s g k))then 29-(k:Int)else fE s g k
def cW(s:SF)(g:Int):Int:=fE s g 29
def AR(s:SF):Nat→Int→Int
 | 0,at_=>at_
 | k+1,at_=>if 10≤at_ then at_ else if s.cW at_<0 then-1 else AR s k (s.cW at_)
def maxD(d:Int→Nat):Nat→Nat
 | 0=>0
 | k+1=>max (maxD d k) (d (k:Int))
def jV(d:Int→Nat)(s:SF):SF:= {hQ d s 9 with now:=s.now+1}
def bX(d:Int→Nat)(s:SF):Int:=AR (jV d s) (maxD d 30+1) 0
def tick(d:Int→Nat)(s:SF):Int×SF:=if bX d s<0 then(-1,jV d s)else(bX d s-10,nF (d (bX d s)+1) (jV d s) (bX d s))
def mq(s:SF)(g:Int):RQ:=⟨fun i=>s.was i&&decide (s.par i=g),s.v⟩
structure Inv (s:SF) (d:Int→Nat):Prop where
 h0:s.here 0=true
 up:∀ n,0<n→n<30→s.here n=true→0≤s.par n∧s.par n<10∧s.here (s.par n)=true∧d (s.par n)<d n
 was:∀ n,s.was n=true→0<n∧n<30∧s.here n=true
 quo:∀ n,0≤n→n<30→0≤s.quota n∧(0<s.quota n→1≤s.period n)
 wt:∀ n,0≤n→n<30→s.here n=true→1≤s.wt n
def Small(s:SF)(B:Int):Prop:=∀ n,0≤n→n<30→0≤s.v n∧s.v n≤B∧0≤s.floor n∧s.floor n≤B∧0≤s.ran n∧s.ran n≤B∧0≤s.used n∧s.used n≤B
end SF
def SC.jy(s:SC):Prop:=∀ g,0≤g→g<30→ib (s.Q g) (s.toSF.mq g)
namespace SF
theorem iL(s:SF)(n:Int):s.dI n=true↔∃ i:Int,0≤i∧i<30∧s.was i=true∧s.par i=n:=by
 unfold dI
 simp only[List.any_eq_true,List.mem_range,Bool.and_eq_true,decide_eq_true_eq]
 constructor
 ·rintro⟨k,h1,h2,h3⟩;exact⟨(k:Int),by omega,by omega,h2,h3⟩
 ·rintro⟨k,h1,h2,h3,h4⟩
  refine⟨k.toNat,by omega,?_⟩
  rw[show((k.toNat:Nat):Int)=k from by omega];exact⟨h3,h4⟩
theorem ln(s:SF)(g i:Int):(s.mq g).inn i=true↔s.was i=true∧s.par i=g:=by
 unfold mq;simp
end SF
theorem ib.len{q:QS}{r:RQ}(h:ib q r):0<q.n↔∃ i,0≤i∧i<64∧r.inn i=true:=by
 constructor
 ·intro hn
  have hd:=h.ok.gL 0 (by omega) (by omega)
  have ha:=h.ok.at1 0 (by omega) (by omega)
  exact⟨q.I 0,hd.1,hd.2,(h.inn _ hd.1 hd.2).2 (by omega)⟩
 ·rintro⟨i,i0,i1,hi⟩
  have:=(h.inn i i0 i1).1 hi
  rcases h.ok.at2 i i0 i1 with e | ⟨e1,e2,_⟩
  ·exact absurd e this
  ·omega
theorem ib.head{q:QS}{r:RQ}(h:ib q r)(hn:0<q.n):(0≤q.I 0∧q.I 0<64)∧r.inn (q.I 0)=true∧∀ i,0≤i→i<64→r.inn i=true→¬k7 (r.key i) i (r.key (q.I 0)) (q.I 0):=by
 have hd:=h.ok.gL 0 (by omega) (by omega)
 have ha:=h.ok.at1 0 (by omega) (by omega)
 have hp:¬q.at_ (q.I 0)=0:=by omega
 have hk:q.zi (q.I 0)=q.K 0:=by unfold QS.zi;rw[ha];rfl
 refine⟨hd,(h.inn _ hd.1 hd.2).2 hp,fun i i0 i1 hi hl=> ?_⟩
 have hp2:=(h.inn i i0 i1).1 hi
 rw[h.key _ hd.1 hd.2 hp,hk,h.key i i0 i1 hp2]at hl
 obtain⟨b1,b2,b3⟩:=(h.ok.at2 i i0 i1).resolve_left hp2
 have hl2:=h.heap.least (q.at_ i-1).toNat (q.at_ i-1) (by omega) (by omega) (by omega)
 unfold QS.L at hl2
 rw[b3]at hl2
 exact hl2 hl
theorem ib.ext{q:QS}{r r':RQ}(h:ib q r)(hi:∀ i,0≤i→i<64→r'.inn i=r.inn i)(hk:∀ i,0≤i→i<64→r.inn i=true→r'.key i=r.key i):ib q r':=
 ⟨h.ok,h.heap,fun i i0 i1=>by rw[hi i i0 i1];exact h.inn i i0 i1,fun i i0 i1 hp=>by rw[hk i i0 i1 ((h.inn i i0 i1).2 hp)];exact h.key i i0 i1 hp⟩
end Go.X.Fa
