import Derived.Test.YthdinakloheinaaGreatDoorkTM
import Derived.Test.YthdinakloheinaaGreatDoorXMore
import Derived.Test.YthdinakloheinaaGreatDoorXBits
import Derived.Test.YthdinakloheinaaGreatDoorXFam
namespace Go.X.Sp
open Go Go.X
structure SS.Inv (s:SS) (dep:Int→Nat):Prop where
 D:s.Deep dep
 A:∀ k,s.here k=false→∀ j,s.bX k j= -1
 z:∀ n,s.bX n 0= -1
 lo:∀ n q,-1≤s.bX n q
 loc:∀ p,-1≤s.loc p∧s.loc p<6
 at_:∀ p,0≤p→p<20→0≤s.loc p→s.here (s.loc p)=true
 mem:∀ n q p,0≤p→s.bX n q=p→p<20∧0<q∧q<21∧0≤s.loc p∧n∈s.cr dep (s.loc p)
 inj:∀ n q q',0≤s.bX n q→s.bX n q'=s.bX n q→q'=q
 has:∀ p,0≤p→p<20→0≤s.loc p→∀ n∈s.cr dep (s.loc p),∃ q,s.bX n q=p
theorem SS.Inv.init:SS.init.Inv (fun _=>1) where
 D:=⟨fun n h0 h6 hh=>by
  have hn:n=0:=by
   by_cases q:n=0
   ·exact q
   ·simp[SS.init,SS.root,SS.zero,aa,q]at hh
  subst hn
  exact⟨by omega,by omega,.inl ⟨by simp[SS.init,SS.root,aa],rfl⟩⟩⟩
 A:=fun _ _ _=>rfl
 z:=fun _=>rfl
 lo:=fun _ _=>by show(-1:Int)≤ -1;omega
 loc:=fun p=>by
  show-1≤sW 20 p∧sW 20 p<6
  unfold sW;split<;>omega
 at_:=fun p h0 h1 h2=>by
  have:SS.init.loc p= -1:=by show sW 20 p= -1;unfold sW;rw[if_pos ⟨h0,h1⟩]
  omega
 mem:=fun n q p h0 h1=>by
  have:SS.init.bX n q= -1:=rfl
  omega
 inj:=fun n q q' h0 _=>by
  have:SS.init.bX n q= -1:=rfl
  omega
 has:=fun p h0 h1 h2=>by
  have:SS.init.loc p= -1:=by show sW 20 p= -1;unfold sW;rw[if_pos ⟨h0,h1⟩]
  omega
theorem SS.AP{s:SS}{dep:Int→Nat}(hD:s.Deep dep):∀ (k:Nat) (n:Int),dep n=k→0≤n→n<6→s.here n=true→∀ a∈s.eD k n,dep a≤k
 | 0,n,hk,h0,h6,hh,a,ha=>by have:=(hD.d n h0 h6 hh).1;omega
 | k+1,n,hk,h0,h6,hh,a,ha=>by
  obtain⟨_,_,h3⟩:=hD.d n h0 h6 hh
  simp only[SS.eD,List.mem_cons]at ha
  rcases ha with rfl | ha
  ·omega
  ·rcases h3 with⟨_,h4⟩ | ⟨h4,h5,h6',h7⟩
   ·obtain rfl:k=0:=by omega
    simp[SS.eD]at ha
   ·have:=SS.AP hD k _ (by omega) h4 h5 h6' a ha
    omega
theorem SS.pd{s:SS}{dep:Int→Nat}(hD:s.Deep dep):∀ (k:Nat) (n:Int),dep n=k→0≤n→n<6→s.here n=true→(s.eD k n).Nodup
 | 0,n,_,_,_,_=>List.nodup_nil
 | k+1,n,hk,h0,h6,hh=>by
  obtain⟨_,_,h3⟩:=hD.d n h0 h6 hh
  rw[SS.eD,List.nodup_cons]
  rcases h3 with⟨_,h4⟩ | ⟨h4,h5,h6',h7⟩
  ·obtain rfl:k=0:=by omega
   simp[SS.eD]
  ·refine⟨fun hm=> ?_,SS.pd hD k _ (by omega) h4 h5 h6'⟩
   have:=SS.AP hD k _ (by omega) h4 h5 h6' n hm
   omega
theorem IC{w:Int→Int→Int}{a p:Int}(h:∃ q,1≤q∧q≤20∧w a q<0):∃ k,1≤k∧k≤20∧w a k<0∧uW w a p=aX w a k p:=by
 unfold uW
 cases hf:ck (fun q=>decide (w a (q+1)<0)) 20 with
 | none=>
  exfalso
  obtain⟨q,h1,h2,h3⟩:=h
  unfold ck at hf
  have:=List.find?_eq_none.1 hf (q-1).toNat (List.mem_range.2 (by omega))
  simp only[show(((q-1).toNat:Nat):Int)+1=q from by omega]at this
  simp[h3]at this
 | some k=>
  unfold ck at hf
  have h1:=List.find?_some hf
  have h2:=List.mem_range.1 (List.mem_of_find?_eq_some hf)
  exact⟨(k:Int)+1,by omega,by omega,by simpa using h1,rfl⟩
theorem oR(p:Int):∀ (l:List Int) (w:Int→Int→Int),l.Nodup→(∀ a∈l,∃ q,1≤q∧q≤20∧w a q<0)→
  (∀ a,¬a∈l→∀ q,fv w p l a q=w a q)∧(∀ a∈l,∃ k,1≤k∧k≤20∧w a k<0∧∀ q,fv w p l a q=if q=k then p else w a q)
 | [],w,_,_=>⟨fun _ _ _=>rfl,fun a ha=>by cases ha⟩
 | b::r,w,hn,hf=>by
  obtain⟨hb,hr⟩:=List.nodup_cons.1 hn
  obtain⟨k,k1,k2,k3,k4⟩:=IC (p:=p) (hf b (by simp))
  have hne:∀ a,¬a=b→∀ q,uW w b p a q=w a q:=fun a ha q=>by rw[k4];simp[aX,ha]
  obtain⟨i1,i2⟩:=oR p r (uW w b p) hr (fun a ha=>by
   have hab:¬a=b:=by rintro rfl;exact hb ha
   obtain⟨q,q1,q2,q3⟩:=hf a (by simp[ha])
   exact⟨q,q1,q2,by rw[hne a hab];exact q3⟩)
  refine⟨fun a ha q=> ?_,fun a ha=> ?_⟩
  ·simp only[List.mem_cons,not_or]at ha
   rw[fv,i1 a ha.2,hne a ha.1]
  ·by_cases hab:a=b
   ·subst hab
    refine⟨k,k1,k2,k3,fun q=> ?_⟩
    rw[fv,i1 a hb,k4]
    simp[aX]
   ·have har:a∈r:=by simpa [hab]using ha
    obtain⟨j,j1,j2,j3,j4⟩:=i2 a har
    refine⟨j,j1,j2,by rw[←hne a hab];exact j3,fun q=> ?_⟩
    rw[fv,j4,hne a hab]
theorem rI:∀ (n m:Nat) (f:Nat→Nat),n<m→(∀ i,i<m→f i<n)→∃ i j,i<j∧j<m∧f i=f j
 | 0,m,f,h,hf=>absurd (hf 0 h) (by omega)
 | n+1,m,f,h,hf=>by
  by_cases he:∃ i,i<m-1∧f i=f (m-1)
  ·obtain⟨i,h1,h2⟩:=he
   exact⟨i,m-1,h1,by omega,h2⟩
  ·have hne:∀ i,i<m-1→¬f i=f (m-1):=fun i hi e=>he ⟨i,hi,e⟩
   have hv:=hf (m-1) (by omega)
   obtain⟨i,j,h1,h2,h3⟩:=rI n (m-1) (fun i=>if f i=n then f (m-1)else f i) (by omega) (fun i hi=>by
    have a1:=hf i (by omega)
    have a2:=hne i hi
    show(if f i=n then f (m-1)else f i)<n
    split<;>omega)
   refine⟨i,j,h1,by omega,?_⟩
   have a1:=hne i (by omega)
   have a2:=hne j (by omega)
   split at h3<;>split at h3<;>omega
theorem SS.Inv.Fb{s:SS}{dep:Int→Nat}(h:s.Inv dep){p:Int}(hp:0≤p)(hl:¬ 0≤s.loc p)(n q:Int):¬s.bX n q=p:=fun e=>hl (h.mem n q p hp e).2.2.2.1
theorem SS.Inv.free{s:SS}{dep:Int→Nat}(h:s.Inv dep){p:Int}(hp:0≤p∧p<20)(hl:¬ 0≤s.loc p)(a:Int):∃ q,1≤q∧q≤20∧s.bX a q<0:=by
 apply Classical.byContradiction
 intro hc
 have hg:∀ q:Int,1≤q→q≤20→0≤s.bX a q:=fun q h1 h2=>by
  apply Classical.byContradiction
  intro h3
  exact hc ⟨q,h1,h2,by omega⟩
 have hx:∀ i:Nat,i<20→0≤s.bX a (i+1)∧s.bX a (i+1)<20∧¬s.bX a (i+1)=p:=fun i hi=>by
  have h0:=hg (i+1) (by omega) (by omega)
  exact⟨h0,(h.mem a _ _ h0 rfl).1,h.Fb hp.1 hl _ _⟩
 obtain⟨i,j,h1,h2,h3⟩:=rI 19 20 (fun i=>if s.bX a (i+1)>p then(s.bX a (i+1)-1).toNat else(s.bX a (i+1)).toNat) (by omega) (fun i hi=>by
  obtain⟨a1,a2,a3⟩:=hx i hi
  show(if s.bX a (i+1)>p then(s.bX a (i+1)-1).toNat else(s.bX a (i+1)).toNat)<19
  split<;>omega)
 obtain⟨a1,a2,a3⟩:=hx i (by omega)
 obtain⟨b1,b2,b3⟩:=hx j h2
 have he:s.bX a (i+1)=s.bX a (j+1):=by split at h3<;>split at h3<;>omega
 have:=h.inj a (j+1) (i+1) b1 he
 omega
theorem SS.Inv.cZ{s:SS}{dep:Int→Nat}(h:s.Inv dep){n p:Int}(hn:0≤n∧n<6∧s.here n=true)(hp:0≤p∧p<20)(hl:¬ 0≤s.loc p):(s.cZ dep n p).Inv dep:=by
 have hway:∀ m,(s.cZ dep n p).cr dep m=s.cr dep m:=fun m=>SS.iM (s:=s) (s':=s.cZ dep n p) rfl _ _
 obtain⟨e1,e2⟩:=oR p (s.cr dep n) s.bX (SS.pd h.D _ n rfl hn.1 hn.2.1 hn.2.2) (fun a _=>h.free hp hl a)
 have hin:∀ a∈s.cr dep n,0≤a∧a<6∧s.here a=true:=SS.vh h.D _ n rfl hn.1 hn.2.1 hn.2.2
 have hw:(s.cZ dep n p).bX=fv s.bX p (s.cr dep n):=rfl
 have hlo:(s.cZ dep n p).loc=aa s.loc p n:=rfl
 have hq:∀ m q,(s.cZ dep n p).bX m q=s.bX m q∨((s.cZ dep n p).bX m q=p∧m∈s.cr dep n∧1≤q∧q≤20):=fun m q=>by
  rw[hw]
  by_cases hm:m∈s.cr dep n
  ·obtain⟨k,k1,k2,_,k4⟩:=e2 m hm
   rw[k4]
   by_cases hk:q=k
   ·rw[if_pos hk];exact .inr ⟨rfl,hm,by omega,by omega⟩
   ·rw[if_neg hk];exact .inl rfl
  ·exact .inl (e1 m hm q)
 refine⟨⟨h.D.d⟩,fun k hk j=> ?_,fun m=> ?_,fun m q=> ?_,fun x=> ?_,fun x x0 x1 x2=> ?_,fun m q x x0 hx=> ?_,fun m q q' h0 he=> ?_,fun x x0 x1 x2 m hm=> ?_⟩
 ·rcases hq k j with q1 | ⟨_,q2,_⟩
  ·rw[q1];exact h.A k hk j
  ·have:=(hin k q2).2.2
   rw[show s.here k=false from hk]at this
   cases this
 ·rcases hq m 0 with q1 | ⟨_,_,q2,_⟩
  ·rw[q1];exact h.z m
  ·omega
 ·rcases hq m q with q1 | ⟨q1,_⟩
  ·rw[q1];exact h.lo m q
  ·rw[q1];omega
 ·rw[hlo];unfold aa;split
  ·omega
  ·exact h.loc x
 ·rw[hlo]at x2 ⊢
  show s.here _=true
  unfold aa at x2 ⊢
  split
  ·exact hn.2.2
  ·rename_i hne
   rw[if_neg hne]at x2
   exact h.at_ x x0 x1 x2
 ·rw[hlo,hway]
  rcases hq m q with q1 | ⟨q1,q2,q3,q4⟩
  ·rw[q1]at hx
   obtain⟨a1,a2,a3,a4,a5⟩:=h.mem m q x x0 hx
   have hne:¬x=p:=by rintro rfl;exact hl a4
   rw[ad _ _ hne]
   exact⟨a1,a2,a3,a4,a5⟩
  ·have hxp:x=p:=by omega
   subst hxp
   rw[ae]
   exact⟨hp.2,by omega,by omega,hn.1,q2⟩
 ·rw[hw]at h0 he
  by_cases hm:m∈s.cr dep n
  ·obtain⟨k,k1,k2,k3,k4⟩:=e2 m hm
   rw[k4]at h0
   rw[k4,k4]at he
   have hno:=h.Fb hp.1 hl m
   by_cases c1:q=k<;>by_cases c2:q'=k
   ·omega
   ·rw[if_pos c1,if_neg c2]at he;exact absurd he (hno q')
   ·rw[if_pos c2,if_neg c1]at he;exact absurd he.symm (hno q)
   ·rw[if_neg c1]at h0 he;rw[if_neg c2]at he;exact h.inj m q q' h0 he
  ·rw[e1 m hm]at h0
   rw[e1 m hm,e1 m hm]at he
   exact h.inj m q q' h0 he
 ·rw[hw]
  rw[hlo]at x2 hm
  rw[hway]at hm
  by_cases hxp:x=p
  ·subst hxp
   rw[ae]at hm
   obtain⟨k,_,_,_,k4⟩:=e2 m hm
   exact⟨k,by rw[k4,if_pos rfl]⟩
  ·rw[ad _ _ hxp]at x2 hm
   obtain⟨q,hq⟩:=h.has x x0 x1 x2 m hm
   by_cases hm2:m∈s.cr dep n
   ·obtain⟨k,_,_,k3,k4⟩:=e2 m hm2
    refine⟨q,?_⟩
    rw[k4,if_neg (by rintro rfl;omega)]
    exact hq
   ·exact⟨q,by rw[e1 m hm2];exact hq⟩
theorem SS.Inv.enter{s:SS}{dep:Int→Nat}(h:s.Inv dep)(n p:Int):(s.enter dep n p).2.2.Inv dep:=by
 by_cases h1:s.is n=0
 ·by_cases h2:p<0∨20≤p
  ·rw[SS.k9 h1 h2];exact h
  ·by_cases h3:0≤s.loc p
   ·rw[SS.pO h1 h2 h3];exact h
   ·rw[SS.nQ h1 h2 h3]
    rcases s.dh n with⟨_,q1,q2,q3⟩ | ⟨q,_⟩ | ⟨q,_⟩
    ·exact h.cZ ⟨q1,q2,q3⟩ (by omega) h3
    ·omega
    ·omega
 ·rw[SS.tf h1];exact h
theorem SS.Inv.left{s:SS}{dep:Int→Nat}(h:s.Inv dep){p:Int}(hp:0≤p):(s.left p).Inv dep:=by
 have hway:∀ m,(s.left p).cr dep m=s.cr dep m:=fun m=>SS.iM (s:=s) (s':=s.left p) rfl _ _
 have hw:∀ n q,(s.left p).bX n q=if s.bX n q=p then-1 else s.bX n q:=fun _ _=>rfl
 have hlo:(s.left p).loc=aa s.loc p (-1):=rfl
 refine⟨⟨h.D.d⟩,fun k hk j=> ?_,fun m=> ?_,fun m q=> ?_,fun x=> ?_,fun x x0 x1 x2=> ?_,fun m q x x0 hx=> ?_,fun m q q' h0 he=> ?_,fun x x0 x1 x2 m hm=> ?_⟩
 ·rw[hw];split
  ·rfl
  ·exact h.A k hk j
 ·rw[hw];split
  ·rfl
  ·exact h.z m
 ·rw[hw];split
  ·omega
  ·exact h.lo m q
 ·rw[hlo];unfold aa;split
  ·omega
  ·exact h.loc x
 ·rw[hlo]at x2 ⊢
  show s.here _=true
  by_cases hxp:x=p
  ·rw[hxp,ae]at x2;omega
  ·rw[ad _ _ hxp]at x2 ⊢
   exact h.at_ x x0 x1 x2
 ·rw[hw]at hx
  rw[hlo,hway]
  split at hx
  ·omega
  ·rename_i hne
   rw[ad _ _ (by omega:¬x=p)]
   exact h.mem m q x x0 hx
 ·rw[hw]at h0 he
  rw[hw m q]at he
  by_cases c1:s.bX m q=p
  ·rw[if_pos c1]at h0;omega
  ·rw[if_neg c1]at h0 he
   by_cases c2:s.bX m q'=p
   ·rw[if_pos c2]at he;omega
   ·rw[if_neg c2]at he;exact h.inj m q q' h0 he
 ·rw[hlo]at x2 hm
  rw[hway]at hm
  by_cases hxp:x=p
  ·rw[hxp,ae]at x2;omega
  ·rw[ad _ _ hxp]at x2 hm
   obtain⟨q,hq⟩:=h.has x x0 x1 x2 m hm
   exact⟨q,by rw[hw,hq,if_neg hxp]⟩
theorem SS.Inv.leave{s:SS}{dep:Int→Nat}(h:s.Inv dep)(p:Int):(s.leave p).2.Inv dep:=by
 unfold SS.leave
 by_cases h1:(s.bZ p).2=0
 ·rw[if_neg (by simp[h1])]
  refine h.left ?_
  by_cases hp:p<0∨20≤p
  ·rw[SS.lh hp]at h1;simp at h1
  ·omega
 ·rw[if_pos h1];exact h
theorem SS.zD{s s':SS}{dep dep':Int→Nat}(hD:s.Deep dep)(hs:∀ n,0≤n→n<6→s.here n=true→s'.par n=s.par n):∀ (k:Nat) (n:Int),dep n=k→0≤n→n<6→s.here n=true→s'.eD k n=s.eD k n
 | 0,_,_,_,_,_=>rfl
 | k+1,n,hk,h0,h6,hh=>by
  obtain⟨_,_,h3⟩:=hD.d n h0 h6 hh
  rw[SS.eD,SS.eD,hs n h0 h6 hh]
  rcases h3 with⟨_,h4⟩ | ⟨h4,h5,h6',h7⟩
  ·obtain rfl:k=0:=by omega
   rfl
  ·rw[SS.zD (dep':=dep') hD hs k _ (by omega) h4 h5 h6']
def SS.BZ(s:SS)(dep:Int→Nat)(p:Int):Int→Nat:=if(s.add dep p).2.1=0 then aa dep (s.add dep p).1 (dep p+1)else dep
theorem SS.Inv.added{s:SS}{dep:Int→Nat}(h:s.Inv dep){p k:Int}(hp:0≤p∧p<6∧s.here p=true)(hd:¬dep p=4)(hk:0≤k∧k<6)(hh:s.here k=false):({s with here:=aa s.here k true,par:=aa s.par k p} :SS).Inv (aa dep k (dep p+1)):=by
 have hne:∀ n,s.here n=true→¬n=k:=by rintro n hn rfl;rw[hh]at hn;cases hn
 have hway:∀ n,0≤n→n<6→s.here n=true→({s with here:=aa s.here k true,par:=aa s.par k p} :SS).cr (aa dep k (dep p+1)) n=s.cr dep n:=fun n h0 h6 hn=>by
  unfold SS.cr
  rw[ad _ _ (hne n hn)]
  exact SS.zD (dep':=dep) h.D (fun m _ _ hm=>ad _ _ (hne m hm)) _ n rfl h0 h6 hn
 have hloc:∀ x,0≤x→x<20→0≤s.loc x→s.loc x<6∧s.here (s.loc x)=true:=fun x x0 x1 x2=>⟨(h.loc x).2,h.at_ x x0 x1 x2⟩
 refine⟨⟨fun n h0 h6 hn=> ?_⟩,fun m hm j=> ?_,h.z,h.lo,h.loc,fun x x0 x1 x2=> ?_,fun m q x x0 hx=> ?_,h.inj,fun x x0 x1 x2 m hm=> ?_⟩
 ·by_cases hnk:n=k
  ·subst hnk
   show 1≤aa dep n (dep p+1) n∧aa dep n (dep p+1) n≤4∧((aa s.par n p n= -1∧_)∨(0≤aa s.par n p n∧aa s.par n p n<6∧aa s.here n true (aa s.par n p n)=true∧aa dep n (dep p+1) n=aa dep n (dep p+1) (aa s.par n p n)+1))
   rw[ae,ae,ad _ _ (hne p hp.2.2),ad _ _ (hne p hp.2.2)]
   have:=(h.D.d p hp.1 hp.2.1 hp.2.2).2.1
   exact⟨by omega,by omega,.inr ⟨hp.1,hp.2.1,hp.2.2,rfl⟩⟩
  ·have hn':s.here n=true:=by
    have:aa s.here k true n=true:=hn
    rwa[ad _ _ hnk]at this
   show 1≤aa dep k (dep p+1) n∧aa dep k (dep p+1) n≤4∧((aa s.par k p n= -1∧aa dep k (dep p+1) n=1)∨(0≤aa s.par k p n∧aa s.par k p n<6∧aa s.here k true (aa s.par k p n)=true∧aa dep k (dep p+1) n=aa dep k (dep p+1) (aa s.par k p n)+1))
   rw[ad _ _ hnk,ad _ _ hnk]
   obtain⟨a1,a2,a3⟩:=h.D.d n h0 h6 hn'
   refine⟨a1,a2,?_⟩
   rcases a3 with a3 | ⟨b1,b2,b3,b4⟩
   ·exact .inl a3
   ·rw[ad _ _ (hne _ b3),ad _ _ (hne _ b3)]
    exact .inr ⟨b1,b2,b3,b4⟩
 ·have:aa s.here k true m=false:=hm
  by_cases hmk:m=k
  ·rw[hmk,ae]at this;cases this
  ·rw[ad _ _ hmk]at this;exact h.A m this j
 ·obtain⟨_,a2⟩:=hloc x x0 x1 x2
  show aa s.here k true (s.loc x)=true
  rw[ad _ _ (hne _ a2)];exact a2
 ·obtain⟨a1,a2,a3,a4,a5⟩:=h.mem m q x x0 hx
  obtain⟨b1,b2⟩:=hloc x x0 a1 a4
  exact⟨a1,a2,a3,a4,by rw[hway _ a4 b1 b2];exact a5⟩
 ·obtain⟨b1,b2⟩:=hloc x x0 x1 x2
  rw[hway _ x2 b1 b2]at hm
  exact h.has x x0 x1 x2 m hm
theorem SS.iA(s:SS)(dep:Int→Nat)(p:Int):((s.add dep p).2.1≠0∧(s.add dep p).1=0∧(s.add dep p).2.2=s)∨(∃ k,s.is p=0∧¬dep p=4∧(0≤k∧k<6)∧s.here k=false∧s.add dep p=(k,0,{s with here:=aa s.here k true,par:=aa s.par k p})):=by
 unfold SS.add
 by_cases h1:s.is p≠0
 ·rw[if_pos h1];exact .inl ⟨h1,rfl,rfl⟩
 ·rw[if_neg h1]
  by_cases h2:dep p=4
  ·rw[if_pos h2];exact .inl ⟨by simp,rfl,rfl⟩
  ·rw[if_neg h2]
   cases hf:ck (fun k=> !s.here k) 6 with
   | none=>exact .inl ⟨by simp,rfl,rfl⟩
   | some k=>
    unfold ck at hf
    have h3:=List.find?_some hf
    have h4:=List.mem_range.1 (List.mem_of_find?_eq_some hf)
    exact .inr ⟨k,by omega,h2,by omega,by simpa using h3,rfl⟩
theorem SS.Inv.add{s:SS}{dep:Int→Nat}(h:s.Inv dep)(p:Int):(s.add dep p).2.2.Inv (s.BZ dep p):=by
 unfold SS.BZ
 rcases s.iA dep p with⟨h1,_,h2⟩ | ⟨k,h1,h2,h3,h4,h5⟩
 ·rw[if_neg h1,h2];exact h
 ·rw[h5,if_pos rfl]
  rcases s.dh p with⟨_,q1,q2,q3⟩ | ⟨q,_⟩ | ⟨q,_⟩
  ·exact h.added ⟨q1,q2,q3⟩ h2 h3 h4
  ·omega
  ·omega
theorem mA{f:Int→Int} :∀ {k:Nat},¬(cx f k).length>0→∀ j:Nat,j<k→f j<0
 | 0,_,j,hj=>by omega
 | k+1,h,j,hj=>by
  simp only[cx,List.length_append]at h
  by_cases hk:j=k
  ·subst hk
   by_cases hf:f j≥0
   ·rw[if_pos hf]at h;simp at h
   ·omega
  ·exact mA (k:=k) (by omega) j (by omega)
theorem SS.Inv.HS{s:SS}{dep:Int→Nat}(h:s.Inv dep){n:Int}(hm:¬(s.members n).length>0)(j:Int):s.bX n j= -1:=by
 have h0:=h.lo n j
 by_cases hj:0≤s.bX n j
 ·obtain⟨_,a2,a3,_⟩:=h.mem n j _ hj rfl
  have:=mA hm j.toNat (by omega)
  rw[show((j.toNat:Nat):Int)=j from by omega]at this
  omega
 ·omega
theorem SS.Inv.dropped{s:SS}{dep:Int→Nat}(h:s.Inv dep){n:Int}(hm:¬(s.members n).length>0)(hk:∀ j:Int,0≤j→j<6→¬(s.here j=true∧s.par j=n)):({s with here:=aa s.here n false,par:=aa s.par n 0} :SS).Inv dep:=by
 have hh:∀ m,aa s.here n false m=true→¬m=n∧s.here m=true:=fun m hm=>by
  by_cases q:m=n
  ·rw[q,ae]at hm;cases hm
  ·rw[ad _ _ q]at hm;exact⟨q,hm⟩
 have hD:({s with here:=aa s.here n false,par:=aa s.par n 0} :SS).Deep dep:=⟨fun m h0 h6 hm2=>by
  obtain⟨q1,q2⟩:=hh m hm2
  obtain⟨a1,a2,a3⟩:=h.D.d m h0 h6 q2
  refine⟨a1,a2,?_⟩
  show(aa s.par n 0 m= -1∧_)∨(0≤aa s.par n 0 m∧aa s.par n 0 m<6∧aa s.here n false (aa s.par n 0 m)=true∧dep m=dep (aa s.par n 0 m)+1)
  rw[ad _ _ q1]
  rcases a3 with a3 | ⟨b1,b2,b3,b4⟩
  ·exact .inl a3
  ·refine .inr ⟨b1,b2,?_,b4⟩
   rw[ad _ _ (fun e=>hk m h0 h6 ⟨q2,e⟩)]
   exact b3⟩
 have hno:=h.HS hm
 have hln:∀ x,0≤x→x<20→0≤s.loc x→¬s.loc x=n:=by
  intro x x0 x1 x2 e
  have b1:=(h.D.d _ x2 (h.loc x).2 (h.at_ x x0 x1 x2)).1
  have hin:n∈s.cr dep (s.loc x):=by
   unfold SS.cr
   obtain⟨d,hd⟩:∃ d,dep (s.loc x)=d+1:=⟨dep (s.loc x)-1,by omega⟩
   rw[hd,SS.eD,e];simp
  obtain⟨q,hq⟩:=h.has x x0 x1 x2 n hin
  have:=hno q
  omega
 have hway:∀ m,0≤m→m<6→aa s.here n false m=true→({s with here:=aa s.here n false,par:=aa s.par n 0} :SS).cr dep m=s.cr dep m:=fun m h0 h6 hm2=>by
  unfold SS.cr
  exact(SS.zD (s:=({s with here:=aa s.here n false,par:=aa s.par n 0} :SS)) (s':=s) (dep':=dep) hD (fun m' _ _ hm'=>(ad s.par 0 (hh m' hm').1).symm) _ m rfl h0 h6 hm2).symm
 have hloc:∀ x,0≤x→x<20→0≤s.loc x→s.loc x<6∧aa s.here n false (s.loc x)=true:=fun x x0 x1 x2=>⟨(h.loc x).2,by rw[ad _ _ (hln x x0 x1 x2)];exact h.at_ x x0 x1 x2⟩
 refine⟨hD,fun m hm2 j=> ?_,h.z,h.lo,h.loc,fun x x0 x1 x2=>(hloc x x0 x1 x2).2,fun m q x x0 hx=> ?_,h.inj,fun x x0 x1 x2 m hm2=> ?_⟩
 ·by_cases q:m=n
  ·subst q;exact hno j
  ·have:aa s.here n false m=false:=hm2
   rw[ad _ _ q]at this;exact h.A m this j
 ·obtain⟨a1,a2,a3,a4,a5⟩:=h.mem m q x x0 hx
  obtain⟨b1,b2⟩:=hloc x x0 a1 a4
  exact⟨a1,a2,a3,a4,by rw[hway _ a4 b1 b2];exact a5⟩
 ·obtain⟨b1,b2⟩:=hloc x x0 x1 x2
  rw[hway _ x2 b1 b2]at hm2
  exact h.has x x0 x1 x2 m hm2
theorem SS.Inv.drop{s:SS}{dep:Int→Nat}(h:s.Inv dep)(n:Int):(s.drop n).2.Inv dep:=by
 unfold SS.drop
 by_cases h1:s.is n≠0
 ·rw[if_pos h1];exact h
 ·rw[if_neg h1]
  by_cases h2:n=0∨(s.members n).length>0
  ·rw[if_pos h2];exact h
  ·rw[if_neg h2]
   cases hf:s.kids n with
   | some k=>exact h
   | none=>
    refine h.dropped (by omega) (fun j h3 h4=> ?_)
    unfold SS.kids ck at hf
    have:=List.find?_eq_none.1 hf j.toNat (List.mem_range.2 (by omega))
    rw[show((j.toNat:Nat):Int)=j from by omega]at this
    simp at this
    rintro⟨e1,e2⟩
    exact this e1 e2
theorem SS.H4(s:SS)(n:Int):(s.mem n).1.length≤21:=by
 unfold SS.mem
 split
 ·simp
 ·exact ij _ _
structure TS (s:SS) (dep:Int→Nat) (f:Int→Int):Prop where
 inv:s.Inv dep
 root:s.here 0=true
 par:∀ n,s.here n=true→f n=s.par n
theorem TS.init:TS SS.init (fun _=>1) (aa (fun _=>0) 0 (-1)) where
 inv:=SS.Inv.init
 root:=rfl
 par:=fun _ _=>rfl
theorem TS.add{s:SS}{dep:Int→Nat}{f:Int→Int}(h:TS s dep f){p:Int}(he:(s.add dep p).2.1=0):1≤(s.add dep p).1∧(s.add dep p).1≤5∧TS (s.add dep p).2.2 (s.BZ dep p) (aa f (s.add dep p).1 p):=by
 have hi:=h.inv.add p
 rcases s.iA dep p with⟨h1,_,h2⟩ | ⟨k,h1,h2,h3,h4,h5⟩
 ·exact absurd he h1
 ·rw[h5]at hi ⊢
  have hk:¬k=0:=by rintro rfl;rw[h.root]at h4;cases h4
  refine⟨by simp only[];omega,by simp only[];omega,hi,?_,fun n hn=> ?_⟩
  ·show aa s.here k true 0=true
   rw[ad _ _ (by omega)];exact h.root
  ·have hn':aa s.here k true n=true:=hn
   show aa f k p n=aa s.par k p n
   by_cases q:n=k
   ·rw[q,ae,ae]
   ·rw[ad _ _ q,ad _ _ q]
    rw[ad _ _ q]at hn'
    exact h.par n hn'
theorem TS.drop{s:SS}{dep:Int→Nat}{f:Int→Int}(h:TS s dep f)(n:Int):TS (s.drop n).2 dep f:=by
 refine⟨h.inv.drop n,?_,fun m hm=> ?_⟩
 ·unfold SS.drop
  split
  ·exact h.root
  ·split
   ·exact h.root
   ·rename_i q
    split
    ·exact h.root
    ·show aa s.here n false 0=true
     rw[ad _ _ (by omega)];exact h.root
 ·unfold SS.drop at hm ⊢
  split
  ·rename_i q;rw[if_pos q]at hm;exact h.par m hm
  ·rename_i q;rw[if_neg q]at hm
   split
   ·rename_i q2;rw[if_pos q2]at hm;exact h.par m hm
   ·rename_i q2;rw[if_neg q2]at hm
    cases hk:s.kids n with
    | some k=>rw[hk]at hm;exact h.par m hm
    | none=>
     rw[hk]at hm
     have hm':aa s.here n false m=true:=hm
     show f m=aa s.par n 0 m
     by_cases c:m=n
     ·rw[c,ae]at hm';cases hm'
     ·rw[ad _ _ c]at hm' ⊢;exact h.par m hm'
theorem TS.enter{s:SS}{dep:Int→Nat}{f:Int→Int}(h:TS s dep f)(n p:Int):TS (s.enter dep n p).2.2 dep f:=by
 have hh:(s.enter dep n p).2.2.here=s.here∧(s.enter dep n p).2.2.par=s.par:=by
  unfold SS.enter
  split
  ·exact⟨rfl,rfl⟩
  ·split
   ·exact⟨rfl,rfl⟩
   ·split<;>exact⟨rfl,rfl⟩
 exact⟨h.inv.enter n p,by rw[hh.1];exact h.root,by rw[hh.1,hh.2];exact h.par⟩
theorem TS.leave{s:SS}{dep:Int→Nat}{f:Int→Int}(h:TS s dep f)(p:Int):TS (s.leave p).2 dep f:=by
 have hh:(s.leave p).2.here=s.here∧(s.leave p).2.par=s.par:=by
  unfold SS.leave
  split<;>exact⟨rfl,rfl⟩
 exact⟨h.inv.leave p,by rw[hh.1];exact h.root,by rw[hh.1,hh.2];exact h.par⟩
end Go.X.Sp

namespace Go.X.Gr
open Go Go.X
structure TG where
 here:Int→Bool
 par:Int→Int
 mp:Int→Int
 mg:Int→Int
 pr:Int→Int
 pg:Int→Int
def eD(par:Int→Int):Nat→Int→List Int
 | 0,_=>[]
 | k+1,n=>if n<0 then []else n::eD par k (par n)
def fP(par:Int→Int):Int→List Int→Prop
 | n,[]=>n<0
 | n,x::r=>x=n∧0≤n∧n<10∧fP par (par n) r
theorem fP.unique{par:Int→Int} :∀ {n:Int} {l l':List Int},fP par n l→fP par n l'→l=l'
 | _,[],[],_,_=>rfl
 | _,[],_::_,h,k=>absurd h (by have:=k.2.1;simp only[fP];omega)
 | _,_::_,[],h,k=>absurd k (by have:=h.2.1;simp only[fP];omega)
 | _,_::_,_::_,⟨h1,_,_,h2⟩,⟨k1,_,_,k2⟩=>by subst h1;subst k1;rw[fP.unique h2 k2]
theorem fP.range{par:Int→Int} :∀ {n:Int} {l:List Int},fP par n l→∀ x∈l,0≤x∧x<10
 | _,[],_,_,h=>by simp at h
 | _,_::_,⟨h1,h2,h3,h4⟩,x,hx=>by
  rcases List.mem_cons.1 hx with rfl | hx
  ·subst h1;exact⟨h2,h3⟩
  ·exact fP.range h4 x hx
theorem fP.congr{par par':Int→Int} :∀ {n:Int} {l:List Int},fP par n l→(∀ x∈l,par' x=par x)→fP par' n l
 | _,[],h,_=>h
 | _,x::r,⟨h1,h2,h3,h4⟩,hc=>by
  subst h1
  refine⟨rfl,h2,h3,?_⟩
  rw[hc x (by simp)]
  exact fP.congr h4 (fun y hy=>hc y (List.mem_cons_of_mem _ hy))
abbrev Hb:= {x:Int//0≤x∧x<10}
def jU(l:List Hb):List Int:=l.map (·.1)
theorem Di(l:List Hb)(x:Hb):jU (l++[x])=jU l++[x.1]:=by simp[jU]
theorem sr:∀ (l:List Int),(∀ x∈l,0≤x∧x<10)→∃ l':List Hb,jU l'=l
 | [],_=>⟨[],rfl⟩
 | x::r,h=>by
  obtain⟨r',hr⟩:=sr r (fun y hy=>h y (List.mem_cons_of_mem _ hy))
  exact⟨⟨x,h x (by simp)⟩::r',by simp[jU]at*;exact hr⟩
def cL(f:Int→Int):Nat→Int
 | 0=>0
 | k+1=>cL f k+f (k:Int)
def Nc(p:Int→Bool):Nat→List Int
 | 0=>[]
 | k+1=>Nc p k++if p (k:Int)=true then [(k:Int)]else []
structure GV where
 par:Int
 mp:Int
 mg:Int
 pr:Int
 pg:Int
def GV.arr(g:GV):Array Value:= #[.int .i64 g.par,.int .i64 g.mp,.int .i64 g.mg,.int .i64 g.pr,.int .i64 g.pg]
def GV.room(g:GV)(p m:Int):Bool:=(decide (p=0)||decide (g.mp<0)||decide (g.pr+p≤g.mp))&&(decide (m=0)||decide (g.mg<0)||decide (g.pg+m≤g.mg))
namespace TG
def gv(s:TG)(n:Int):GV:=⟨s.par n,s.mp n,s.mg n,s.pr n,s.pg n⟩
def s8(s:TG)(n:Int)(g:GV):TG:=⟨s.here,aa s.par n g.par,aa s.mp n g.mp,aa s.mg n g.mg,aa s.pr n g.pr,aa s.pg n g.pg⟩
def cr(s:TG)(n:Int):List Int:=eD s.par 5 n
def cI(s:TG)(n:Int):Int:=if n<0∨10≤n then 1 else if s.here n=true then 0 else 2
def Hr(p m:Int):Int:=if p<0∨20<p∨m<0∨64<m then 1 else 0
def room(s:TG)(p m n:Int):Bool:=(s.gv n).room p m
def free(s:TG):Option Nat:=ck (fun n=> !s.here n) 10
def put(s:TG)(k p:Int):TG:=⟨aa s.here k true,aa s.par k p,aa s.mp k (-1),aa s.mg k (-1),aa s.pr k 0,aa s.pg k 0⟩
def He(s:TG)(k:Int):TG:=⟨aa s.here k false,aa s.par k 0,aa s.mp k 0,aa s.mg k 0,aa s.pr k 0,aa s.pg k 0⟩
def s5(s:TG)(p:Int):Int:=if s.cI p≠0 then s.cI p else if(s.cr p).length=4 then 7 else if s.free=none then 4 else 0
def j7(s:TG)(p:Int):Int:=if s.s5 p=0 then((s.free.getD 0:Nat):Int)else 0
def add(s:TG)(p:Int):TG:=if s.s5 p=0 then s.put (s.j7 p) p else s
def below(s:TG)(n:Int):Prop:=∃ k:Int,0≤k∧k<10∧s.here k=true∧s.par k=n
def lay(s:TG)(l:List Int)(p m:Int):TG:= {s with pr:=fun y=>s.pr y+p*(l.count y:Int),pg:=fun y=>s.pg y+m*(l.count y:Int)}
def kM(s:TG)(n p m:Int):Int:=if s.cI n≠0 then s.cI n else Hr p m
def b8(s:TG)(n p m:Int):Int:=if s.kM n p m≠0 then s.kM n p m else if(s.cr n).all (s.room p m)=true then 0 else 6
def cg(s:TG)(n p m:Int):TG:=if s.b8 n p m=0 then s.lay (s.cr n) p m else s
def dI(s:TG)(f:Int→Int)(n k:Int):Int:=if s.here k=true∧s.par k=n then f k else 0
def left(s:TG)(f:Int→Int)(n:Int):Int:=f n-cL (s.dI f n) 10
def dM(s:TG)(n p m:Int):Int:=if s.kM n p m≠0 then s.kM n p m else if p≤s.left s.pr n∧m≤s.left s.pg n then 0 else 8
def ea(s:TG)(n p m:Int):TG:=if s.dM n p m=0 then s.lay (s.cr n) (-p) (-m)else s
def nR(s:TG)(a b p m:Int):Int:=if s.cI b≠0 then s.cI b else if s.dM a p m≠0 then s.dM a p m else(s.ea a p m).b8 b p m
def move(s:TG)(a b p m:Int):TG:=if s.cI b≠0∨s.dM a p m≠0 then s else if(s.ea a p m).b8 b p m=0 then(s.ea a p m).cg b p m else s
def all(s:TG):List Int:=Nc s.here 10
structure Ok (s:TG):Prop where
 root:s.here 0=true∧s.par 0= -1
 mv:∃ d:Int→Nat,d 0=1∧∀ n,0≤n→n<10→s.here n=true→1≤d n∧d n≤4∧(n≠0→0≤s.par n∧s.par n<10∧s.here (s.par n)=true∧d n=d (s.par n)+1)
theorem rG{s:TG}{n:Int}(h:s.cI n=0):0≤n∧n<10∧s.here n=true:=by
 unfold cI at h
 split at h
 ·omega
 ·split at h
  ·rename_i h1 h2;exact⟨by omega,by omega,h2⟩
  ·omega
theorem Kk{s:TG}{n:Int}(h0:0≤n)(h1:n<10)(h2:s.here n=true):s.cI n=0:=by
 unfold cI;rw[if_neg (by omega),if_pos h2]
theorem pN(s:TG)(n:Int):s.cI n=0↔0≤n∧n<10∧s.here n=true:=⟨rG,fun h=>Kk h.1 h.2.1 h.2.2⟩
theorem xf(p m:Int):Hr p m=0↔0≤p∧p≤20∧0≤m∧m≤64:=by
 unfold Hr;split<;>constructor<;>intro h<;>omega
theorem By{s:TG}{n p m:Int}(h:s.kM n p m=0):(0≤n∧n<10∧s.here n=true)∧0≤p∧p≤20∧0≤m∧m≤64:=by
 unfold kM at h
 split at h
 ·omega
 ·rename_i h1;exact⟨rG (by omega),(xf p m).1 h⟩
theorem Ok.G7{s:TG}(h:s.Ok):∀ (f k:Nat),k≤f→∀ d:Int→Nat,d 0=1→(∀ n,0≤n→n<10→s.here n=true→1≤d n∧d n≤4∧(n≠0→0≤s.par n∧s.par n<10∧s.here (s.par n)=true∧d n=d (s.par n)+1))→
  ∀ n,0≤n→n<10→s.here n=true→d n=k→fP s.par n (eD s.par f n)∧(eD s.par f n).length=k∧∀ x∈eD s.par f n,s.here x=true
 | 0,k,hk,d,d0,hd,n,h0,h1,h2,h3=>by have:=(hd n h0 h1 h2).1;omega
 | f+1,k,hk,d,d0,hd,n,h0,h1,h2,h3=>by
  have h4:=hd n h0 h1 h2
  unfold eD
  rw[if_neg (by omega)]
  by_cases hn:n=0
  ·subst hn
   have hp:s.par 0= -1:=h.root.2
   have e:eD s.par f (s.par 0)=[]:=by rw[hp];cases f<;>simp[eD]
   rw[e]
   refine⟨⟨rfl,h0,h1,by rw[hp];simp[fP]⟩,by simp;omega,fun x hx=>by simp at hx;subst hx;exact h2⟩
  ·obtain⟨p0,p1,p2,p3⟩:=h4.2.2 hn
   obtain⟨q1,q2,q3⟩:=Ok.G7 h f (k-1) (by omega) d d0 hd (s.par n) p0 p1 p2 (by omega)
   refine⟨⟨rfl,h0,h1,q1⟩,by simp[q2];omega,fun x hx=> ?_⟩
   rcases List.mem_cons.1 hx with rfl | hx
   ·exact h2
   ·exact q3 x hx
theorem Ok.cr{s:TG}(h:s.Ok){n:Int}(h0:0≤n)(h1:n<10)(h2:s.here n=true):fP s.par n (s.cr n)∧(s.cr n).length≤4∧∀ x∈s.cr n,s.here x=true:=by
 obtain⟨d,d0,hd⟩:=h.mv
 have h3:=hd n h0 h1 h2
 obtain⟨q1,q2,q3⟩:=h.G7 5 (d n) (by omega) d d0 hd n h0 h1 h2 rfl
 exact⟨q1,by unfold TG.cr;omega,q3⟩
theorem EX(s:TG)(l:List Int)(x p m:Int):s.lay (l++[x]) p m= {s.lay l p m with pr:=aa (s.lay l p m).pr x ((s.lay l p m).pr x+p),pg:=aa (s.lay l p m).pg x ((s.lay l p m).pg x+m)} :=by
 have h:∀ (f:Int→Int) (q:Int),(fun y=>f y+q*((l++[x]).count y:Int))=aa (fun y=>f y+q*(l.count y:Int)) x (f x+q*(l.count x:Int)+q):=fun f q=>by
  funext y
  unfold aa
  by_cases hy:y=x
  ·subst hy
   rw[if_pos rfl,List.count_append,List.count_singleton_self]
   push_cast
   rw[Int.mul_add,Int.mul_one];omega
  ·rw[if_neg hy,List.count_append,List.count_singleton,if_neg (by simpa using fun e=>hy e.symm)]
   simp
 unfold lay
 simp only[h]
theorem IS(s:TG)(p m:Int):s.lay [] p m=s:=by simp[lay]
def Small(s:TG)(B:Int):Prop:=∀ n,0≤n→n<10→ -B≤s.pr n∧s.pr n≤B∧ -B≤s.pg n∧s.pg n≤B
theorem Small.mono{s:TG}{B B':Int}(h:s.Small B)(hb:B≤B'):s.Small B':=fun n h0 h1=>by have:=h n h0 h1;omega
theorem A4{p c K:Int}(hc:0≤c)(hp: -K≤p∧p≤K){n:Int}(hn:c≤n)(hK:0≤K): -(K*n)≤p*c∧p*c≤K*n:=by
 have h1:p*c≤K*c:=Int.mul_le_mul_of_nonneg_right hp.2 hc
 have h2: -K*c≤p*c:=Int.mul_le_mul_of_nonneg_right hp.1 hc
 have h3:K*c≤K*n:=Int.mul_le_mul_of_nonneg_left hn hK
 rw[Int.neg_mul]at h2
 omega
theorem Small.lay{s:TG}{B:Int}(h:s.Small B){l:List Int}(hl:l.length≤5){p m:Int}(hp: -20≤p∧p≤20)(hm: -64≤m∧m≤64):(s.lay l p m).Small (B+320):=fun n h0 h1=>by
 have h2:=h n h0 h1
 have hc:(l.count n:Int)≤5:=by have:=List.count_le_length (a:=n) (l:=l);omega
 have h3:=A4 (p:=p) (c:=l.count n) (K:=20) (by omega) hp hc (by omega)
 have h4:=A4 (p:=m) (c:=l.count n) (K:=64) (by omega) hm hc (by omega)
 show-(B+320)≤s.pr n+p*(l.count n:Int)∧s.pr n+p*(l.count n:Int)≤B+320∧ -(B+320)≤s.pg n+m*(l.count n:Int)∧s.pg n+m*(l.count n:Int)≤B+320
 omega
end TG
theorem wT(s:TG)(f:Int→Int)(n:Int){k:Int}(h:0≤k):cL (s.dI f n) (k+1).toNat=cL (s.dI f n) k.toNat+s.dI f n k:=by
 rw[show(k+1).toNat=k.toNat+1 from by omega]
 show cL (s.dI f n) k.toNat+s.dI f n (k.toNat:Int)=_
 rw[show((k.toNat:Nat):Int)=k from by omega]
theorem sB{f:Int→Int}{B:Int} :∀ (k:Nat),(∀ j:Int,0≤j→j<k→ -B≤f j∧f j≤B)→ -(B*k)≤cL f k∧cL f k≤B*k
 | 0,_=>by simp[cL]
 | k+1,h=>by
  have h1:=sB k (fun j h0 h1=>h j h0 (by omega))
  have h2:=h (k:Int) (by omega) (by omega)
  have h3:B*((k+1:Nat):Int)=B*k+B:=by push_cast;rw[Int.mul_add];omega
  simp only[cL]
  omega
theorem Cp{s:TG}{B:Int}(h:s.Small B)(hB:0≤B∧B≤1000000000000){n:Int}(hn:0≤n∧n<10){k:Int}(h0:0≤k)(hk:k≤10:=by omega):(-(B*10)≤cL (s.dI s.pr n) k.toNat∧cL (s.dI s.pr n) k.toNat≤B*10)∧(-(B*10)≤cL (s.dI s.pg n) k.toNat∧cL (s.dI s.pg n) k.toNat≤B*10)∧s.Small B:=by
 have hm:B*(k.toNat:Int)≤B*10:=Int.mul_le_mul_of_nonneg_left (by omega) hB.1
 have h1:=sB (f:=s.dI s.pr n) (B:=B) k.toNat (fun j j0 j1=>by
  have:=h j j0 (by omega)
  unfold TG.dI;split<;>omega)
 have h2:=sB (f:=s.dI s.pg n) (B:=B) k.toNat (fun j j0 j1=>by
  have:=h j j0 (by omega)
  unfold TG.dI;split<;>omega)
 exact⟨by omega,by omega,h⟩
namespace TG
theorem Ok.lay{s:TG}(h:s.Ok)(l:List Int)(p m:Int):(s.lay l p m).Ok:=⟨h.root,h.mv⟩
theorem Ok.ea{s:TG}(h:s.Ok){n p m:Int} :(s.ea n p m).Ok:=by
 unfold TG.ea;split
 ·exact h.lay _ _ _
 ·exact h
theorem Ok.cg{s:TG}(h:s.Ok){n p m:Int} :(s.cg n p m).Ok:=by
 unfold TG.cg;split
 ·exact h.lay _ _ _
 ·exact h
theorem qi{s:TG}{n p m:Int}(h:s.dM n p m=0):(0≤n∧n<10∧s.here n=true)∧0≤p∧p≤20∧0≤m∧m≤64:=by
 unfold dM at h
 split at h
 ·omega
 ·exact By (by omega)
theorem oW{s:TG}{n p m:Int}(h:s.b8 n p m=0):(0≤n∧n<10∧s.here n=true)∧0≤p∧p≤20∧0≤m∧m≤64:=by
 unfold b8 at h
 split at h
 ·omega
 ·exact By (by omega)
theorem Small.ea{s:TG}{B:Int}(h:s.Small B)(hO:s.Ok)(n p m:Int):(s.ea n p m).Small (B+320):=by
 unfold TG.ea;split
 ·rename_i h0
  obtain⟨⟨n0,n1,n2⟩,p0,p1,m0,m1⟩:=qi h0
  have:=(hO.cr n0 n1 n2).2.1
  exact h.lay (by omega) (by omega) (by omega)
 ·exact h.mono (by omega)
theorem Small.cg{s:TG}{B:Int}(h:s.Small B)(hO:s.Ok)(n p m:Int):(s.cg n p m).Small (B+320):=by
 unfold TG.cg;split
 ·rename_i h0
  obtain⟨⟨n0,n1,n2⟩,p0,p1,m0,m1⟩:=oW h0
  have:=(hO.cr n0 n1 n2).2.1
  exact h.lay (by omega) (by omega) (by omega)
 ·exact h.mono (by omega)
end TG
namespace TG
def xQ(s:TG)(n:Int):Bool:=(List.range 10).any (fun k=>s.here (k:Int)&&decide (s.par (k:Int)=n))
theorem oI(s:TG)(n:Int):s.xQ n=true↔s.below n:=by
 unfold xQ below
 simp only[List.any_eq_true,List.mem_range,Bool.and_eq_true,decide_eq_true_eq]
 constructor
 ·rintro⟨k,h1,h2,h3⟩;exact⟨(k:Int),by omega,by omega,h2,h3⟩
 ·rintro⟨k,h1,h2,h3,h4⟩
  refine⟨k.toNat,by omega,?_⟩
  rw[show((k.toNat:Nat):Int)=k from by omega];exact⟨h3,h4⟩
theorem Ih{s:TG}{n k:Int}(h0:0≤k)(h1:k<10)(h2:s.here k=true)(h3:s.par k=n):s.xQ n=true:=(s.oI n).2 ⟨k,h0,h1,h2,h3⟩
theorem tQ{s:TG}(hn:∀ j:Int,0≤j→j<10→s.here j=true):s.free=none:=
 cF (fun j j0 j1=>by simp[hn j j0 j1])
end TG
def ay(s:TG)(i:Nat):Value:=
 if i%5=0∧i/5<10 then .int .i64 (s.par ((i/5:Nat):Int))else
 if 1≤i∧(i-1)%5=0∧(i-1)/5<10 then .int .i64 (s.mp (((i-1)/5:Nat):Int))else
 if 2≤i∧(i-2)%5=0∧(i-2)/5<10 then .int .i64 (s.mg (((i-2)/5:Nat):Int))else
 if 3≤i∧(i-3)%5=0∧(i-3)/5<10 then .int .i64 (s.pr (((i-3)/5:Nat):Int))else
 if 4≤i∧(i-4)%5=0∧(i-4)/5<10 then .int .i64 (s.pg (((i-4)/5:Nat):Int))else
 if 50≤i∧(i-50)%1=0∧(i-50)/1<10 then .bool (s.here (((i-50)/1:Nat):Int))else
 undef
theorem ay.fF(s:TG)(z0:Int)(q0:0≤z0∧z0<10):(((0+0)+z0.toNat*5)+0)<60∧ay s (((0+0)+z0.toNat*5)+0)= .int .i64 (s.par z0):=by
 refine⟨by omega,?_⟩
 unfold ay
 rw[if_pos (by omega)]
 rw[show(((((0+0)+z0.toNat*5)+0)/5:Nat):Int)=z0 from by omega]
theorem ay.kK(s:TG)(z0:Int)(q0:0≤z0∧z0<10):(((0+0)+z0.toNat*5)+1)<60∧ay s (((0+0)+z0.toNat*5)+1)= .int .i64 (s.mp z0):=by
 refine⟨by omega,?_⟩
 unfold ay
 rw[if_neg (by omega)]
 rw[if_pos (by omega)]
 rw[show((((((0+0)+z0.toNat*5)+1)-1)/5:Nat):Int)=z0 from by omega]
theorem ay.kL(s:TG)(z0:Int)(q0:0≤z0∧z0<10):(((0+0)+z0.toNat*5)+2)<60∧ay s (((0+0)+z0.toNat*5)+2)= .int .i64 (s.mg z0):=by
 refine⟨by omega,?_⟩
 unfold ay
 rw[if_neg (by omega)]
 rw[if_neg (by omega)]
 rw[if_pos (by omega)]
 rw[show((((((0+0)+z0.toNat*5)+2)-2)/5:Nat):Int)=z0 from by omega]
theorem ay.fj(s:TG)(z0:Int)(q0:0≤z0∧z0<10):(((0+0)+z0.toNat*5)+3)<60∧ay s (((0+0)+z0.toNat*5)+3)= .int .i64 (s.pr z0):=by
 refine⟨by omega,?_⟩
 unfold ay
 rw[if_neg (by omega)]
 rw[if_neg (by omega)]
 rw[if_neg (by omega)]
 rw[if_pos (by omega)]
 rw[show((((((0+0)+z0.toNat*5)+3)-3)/5:Nat):Int)=z0 from by omega]
theorem ay.vk(s:TG)(z0:Int)(q0:0≤z0∧z0<10)(v:Int):(((0+0)+z0.toNat*5)+3)<60∧cH (ay s) (((0+0)+z0.toNat*5)+3) (.int .i64 (v))=ay ({s with pr:=aa s.pr z0 v}):=by
 refine⟨by omega,?_⟩
 funext j
 unfold cH
 by_cases hj:j=(((0+0)+z0.toNat*5)+3)
 ·rw[if_pos hj,hj,(ay.fj ({s with pr:=aa s.pr z0 v}) z0 q0).2]
  all_goals simp[aa,aX]
 ·rw[if_neg hj]
  unfold ay
  refine au (fun c0=> ?_) (fun c0=> ?_)
  ·first | rfl | simp[aa,aX]
  refine au (fun c1=> ?_) (fun c1=> ?_)
  ·first | rfl | simp[aa,aX]
  refine au (fun c2=> ?_) (fun c2=> ?_)
  ·first | rfl | simp[aa,aX]
  refine au (fun c3=> ?_) (fun c3=> ?_)
  ·have hne:¬((((j-3)/5:Nat):Int)=z0):=by omega
   simp only[aa,aX,hne,if_false,and_true,true_and]
  refine au (fun c4=> ?_) (fun c4=> ?_)
  ·first | rfl | simp[aa,aX]
  refine au (fun c5=> ?_) (fun c5=> ?_)
  ·first | rfl | simp[aa,aX]
  rfl
theorem ay.fp(s:TG)(z0:Int)(q0:0≤z0∧z0<10):(((0+0)+z0.toNat*5)+4)<60∧ay s (((0+0)+z0.toNat*5)+4)= .int .i64 (s.pg z0):=by
 refine⟨by omega,?_⟩
 unfold ay
 rw[if_neg (by omega)]
 rw[if_neg (by omega)]
 rw[if_neg (by omega)]
 rw[if_neg (by omega)]
 rw[if_pos (by omega)]
 rw[show((((((0+0)+z0.toNat*5)+4)-4)/5:Nat):Int)=z0 from by omega]
theorem ay.uT(s:TG)(z0:Int)(q0:0≤z0∧z0<10)(v:Int):(((0+0)+z0.toNat*5)+4)<60∧cH (ay s) (((0+0)+z0.toNat*5)+4) (.int .i64 (v))=ay ({s with pg:=aa s.pg z0 v}):=by
 refine⟨by omega,?_⟩
 funext j
 unfold cH
 by_cases hj:j=(((0+0)+z0.toNat*5)+4)
 ·rw[if_pos hj,hj,(ay.fp ({s with pg:=aa s.pg z0 v}) z0 q0).2]
  all_goals simp[aa,aX]
 ·rw[if_neg hj]
  unfold ay
  refine au (fun c0=> ?_) (fun c0=> ?_)
  ·first | rfl | simp[aa,aX]
  refine au (fun c1=> ?_) (fun c1=> ?_)
  ·first | rfl | simp[aa,aX]
  refine au (fun c2=> ?_) (fun c2=> ?_)
  ·first | rfl | simp[aa,aX]
  refine au (fun c3=> ?_) (fun c3=> ?_)
  ·first | rfl | simp[aa,aX]
  refine au (fun c4=> ?_) (fun c4=> ?_)
  ·have hne:¬((((j-4)/5:Nat):Int)=z0):=by omega
   simp only[aa,aX,hne,if_false,and_true,true_and]
  refine au (fun c5=> ?_) (fun c5=> ?_)
  ·first | rfl | simp[aa,aX]
  rfl
theorem ay.tG(s:TG)(z0:Int)(q0:0≤z0∧z0<10):((0+50)+z0.toNat*1)<60∧ay s ((0+50)+z0.toNat*1)= .bool (s.here z0):=by
 refine⟨by omega,?_⟩
 unfold ay
 rw[if_neg (by omega)]
 rw[if_neg (by omega)]
 rw[if_neg (by omega)]
 rw[if_neg (by omega)]
 rw[if_neg (by omega)]
 rw[if_pos (by omega)]
 rw[show(((((0+50)+z0.toNat*1)-50)/1:Nat):Int)=z0 from by omega]
theorem ay.Ck(s:TG)(z0:Int)(q0:0≤z0∧z0<10)(v:Bool):((0+50)+z0.toNat*1)<60∧cH (ay s) ((0+50)+z0.toNat*1) (.bool (v))=ay ({s with here:=aa s.here z0 v}):=by
 refine⟨by omega,?_⟩
 funext j
 unfold cH
 by_cases hj:j=((0+50)+z0.toNat*1)
 ·rw[if_pos hj,hj,(ay.tG ({s with here:=aa s.here z0 v}) z0 q0).2]
  all_goals simp[aa,aX]
 ·rw[if_neg hj]
  unfold ay
  refine au (fun c0=> ?_) (fun c0=> ?_)
  ·first | rfl | simp[aa,aX]
  refine au (fun c1=> ?_) (fun c1=> ?_)
  ·first | rfl | simp[aa,aX]
  refine au (fun c2=> ?_) (fun c2=> ?_)
  ·first | rfl | simp[aa,aX]
  refine au (fun c3=> ?_) (fun c3=> ?_)
  ·first | rfl | simp[aa,aX]
  refine au (fun c4=> ?_) (fun c4=> ?_)
  ·first | rfl | simp[aa,aX]
  refine au (fun c5=> ?_) (fun c5=> ?_)
  ·have hne:¬((((j-50)/1:Nat):Int)=z0):=by omega
   simp only[aa,aX,hne,if_false,and_true,true_and]
  rfl
def ia(s:GV)(i:Nat):Value:=
 if i=0 then .int .i64 (s.par)else
 if i=1 then .int .i64 (s.mp)else
 if i=2 then .int .i64 (s.mg)else
 if i=3 then .int .i64 (s.pr)else
 if i=4 then .int .i64 (s.pg)else
 undef
theorem ia.pK(s:GV):(0+1)<5∧ia s (0+1)= .int .i64 (s.mp):=by
 refine⟨by omega,?_⟩
 unfold ia
 rw[if_neg (by omega)]
 rw[if_pos (by omega)]
theorem ia.fR(s:GV):(0+2)<5∧ia s (0+2)= .int .i64 (s.mg):=by
 refine⟨by omega,?_⟩
 unfold ia
 rw[if_neg (by omega)]
 rw[if_neg (by omega)]
 rw[if_pos (by omega)]
theorem ia.Gd(s:GV):(0+3)<5∧ia s (0+3)= .int .i64 (s.pr):=by
 refine⟨by omega,?_⟩
 unfold ia
 rw[if_neg (by omega)]
 rw[if_neg (by omega)]
 rw[if_neg (by omega)]
 rw[if_pos (by omega)]
theorem ia.qC(s:GV):(0+4)<5∧ia s (0+4)= .int .i64 (s.pg):=by
 refine⟨by omega,?_⟩
 unfold ia
 rw[if_neg (by omega)]
 rw[if_neg (by omega)]
 rw[if_neg (by omega)]
 rw[if_neg (by omega)]
 rw[if_pos (by omega)]
theorem FK(s:TG)(z:Int)(h:0≤z∧z<10):0+0+z.toNat*5+5≤60∧cq (ay s) (0+0+z.toNat*5) 5= .agg (s.gv z).arr:=by
 refine⟨by omega,?_⟩
 have h0:=(ay.fF s z h).2
 have h1:=(ay.kK s z h).2
 have h2:=(ay.kL s z h).2
 have h3:=(ay.fj s z h).2
 have h4:=(ay.fp s z h).2
 simp only[cq,List.range,List.range.loop,List.map_cons,List.map_nil]
 simp only[Nat.add_zero]at h0 ⊢
 rw[h0,h1,h2,h3,h4];rfl
theorem y3(s:TG):0+50+10≤60∧cq (ay s) (0+50) 10= .agg (yV s.here 10):=by
 refine⟨by omega,?_⟩
 unfold cq yV
 congr 2
theorem ej(C:Nat→Value):∀ (vs:List Value) (i j:Nat),j<i→bQ C i vs j=C j
 | [],_,_,_=>rfl
 | v::r,i,j,h=>by
  unfold bQ
  rw[ej (cH C i v) r (i+1) j (by omega)]
  simp[cH];omega
theorem dg:∀ (vs:List Value) (C:Nat→Value) (i j:Nat) (v:Value),vs[j]? =some v→bQ C i vs (i+j)=v
 | [],_,_,_,_,h=>by simp at h
 | u::r,C,i,0,v,h=>by
  have h2:u=v:=by simpa using h
  unfold bQ
  rw[ej _ _ _ _ (by omega),←h2]
  simp[cH]
 | u::r,C,i,j+1,v,h=>by
  unfold bQ
  have:=dg r (cH C i u) (i+1) j v (by simpa using h)
  rw[show i+1+j=i+(j+1)from by omega]at this
  exact this
theorem eJ:∀ (vs:List Value) (C:Nat→Value) (i j:Nat),i+vs.length≤j→bQ C i vs j=C j
 | [],_,_,_,_=>rfl
 | v::r,C,i,j,h=>by
  simp only[List.length_cons]at h
  unfold bQ
  rw[eJ r (cH C i v) (i+1) j (by omega)]
  simp[cH];omega
theorem C4(s:TG)(z:Int)(h:0≤z∧z<10)(g:GV):0+0+z.toNat*5+5≤60∧bQ (ay s) (0+0+z.toNat*5) g.arr.toList=ay (s.s8 z g):=by
 refine⟨by omega,?_⟩
 funext i
 have hl:g.arr.toList.length=5:=rfl
 by_cases a1:i<0+0+z.toNat*5
 ·rw[ej _ _ _ _ a1]
  unfold ay
  simp only[TG.s8]
  refine au (fun c=>by first | rfl | rw[ad _ _ (by omega)]) (fun _=>au (fun c=>by first | rfl | rw[ad _ _ (by omega)]) (fun _=>au (fun c=>by first | rfl | rw[ad _ _ (by omega)]) (fun _=>au (fun c=>by first | rfl | rw[ad _ _ (by omega)]) (fun _=>au (fun c=>by first | rfl | rw[ad _ _ (by omega)]) (fun _=>au (fun c=>by first | rfl | rw[ad _ _ (by omega)]) (fun _=>rfl))))))
 ·by_cases a2:i<0+0+z.toNat*5+5
  ·have h0:=(ay.fF (s.s8 z g) z h).2
   have h1:=(ay.kK (s.s8 z g) z h).2
   have h2:=(ay.kL (s.s8 z g) z h).2
   have h3:=(ay.fj (s.s8 z g) z h).2
   have h4:=(ay.fp (s.s8 z g) z h).2
   simp only[TG.s8,ae]at h0 h1 h2 h3 h4
   obtain⟨j,rfl⟩:∃ j,i=0+0+z.toNat*5+j:=⟨i-(0+0+z.toNat*5),by omega⟩
   have hj:j=0∨j=1∨j=2∨j=3∨j=4:=by omega
   rcases hj with rfl | rfl | rfl | rfl | rfl
   ·exact(dg g.arr.toList _ _ 0 _ rfl).trans h0.symm
   ·exact(dg g.arr.toList _ _ 1 _ rfl).trans h1.symm
   ·exact(dg g.arr.toList _ _ 2 _ rfl).trans h2.symm
   ·exact(dg g.arr.toList _ _ 3 _ rfl).trans h3.symm
   ·exact(dg g.arr.toList _ _ 4 _ rfl).trans h4.symm
  ·rw[eJ _ _ _ _ (by omega)]
   unfold ay
   simp only[TG.s8]
   refine au (fun c=>by first | rfl | rw[ad _ _ (by omega)]) (fun _=>au (fun c=>by first | rfl | rw[ad _ _ (by omega)]) (fun _=>au (fun c=>by first | rfl | rw[ad _ _ (by omega)]) (fun _=>au (fun c=>by first | rfl | rw[ad _ _ (by omega)]) (fun _=>au (fun c=>by first | rfl | rw[ad _ _ (by omega)]) (fun _=>au (fun c=>by first | rfl | rw[ad _ _ (by omega)]) (fun _=>rfl))))))
theorem DW(g:GV):∀ i,i<5→cellsOf g.arr i=ia g i:=fun i h=>match i,h with
 | 0,_=>rfl
 | 1,_=>rfl
 | 2,_=>rfl
 | 3,_=>rfl
 | 4,_=>rfl
 | k+5,h=>absurd h (by omega)
def GV.zero:GV:=⟨0,0,0,0,0⟩
def TG.void:TG:=⟨fun _=>false,fun _=>0,fun _=>0,fun _=>0,fun _=>0,fun _=>0⟩
def TG.Nl:TG:= {TG.void with here:=aa (fun _=>false) 0 true}
def TG.init:TG:=TG.Nl.s8 0 ⟨-1,-1,-1,0,0⟩
set_option maxRecDepth 20000 in theorem MN:∀ i,i<60→cellsOf #[.int .i64 0,.int .i64 0,.int .i64 0,.int .i64 0,.int .i64 0,.int .i64 0,.int .i64 0,.int .i64 0,.int .i64 0,.int .i64 0,.int .i64 0,.int .i64 0,.int .i64 0,.int .i64 0,.int .i64 0,.int .i64 0,.int .i64 0,.int .i64 0,.int .i64 0,.int .i64 0,.int .i64 0,.int .i64 0,.int .i64 0,.int .i64 0,.int .i64 0,.int .i64 0,.int .i64 0,.int .i64 0,.int .i64 0,.int .i64 0,.int .i64 0,.int .i64 0,.int .i64 0,.int .i64 0,.int .i64 0,.int .i64 0,.int .i64 0,.int .i64 0,.int .i64 0,.int .i64 0,.int .i64 0,.int .i64 0,.int .i64 0,.int .i64 0,.int .i64 0,.int .i64 0,.int .i64 0,.int .i64 0,.int .i64 0,.int .i64 0,.bool false,.bool false,.bool false,.bool false,.bool false,.bool false,.bool false,.bool false,.bool false,.bool false] i=ay TG.void i:=fun i hi=>match i,hi with
 | 0,_=>rfl
 | 1,_=>rfl
 | 2,_=>rfl
 | 3,_=>rfl
 | 4,_=>rfl
 | 5,_=>rfl
 | 6,_=>rfl
 | 7,_=>rfl
 | 8,_=>rfl
 | 9,_=>rfl
 | 10,_=>rfl
 | 11,_=>rfl
 | 12,_=>rfl
 | 13,_=>rfl
 | 14,_=>rfl
 | 15,_=>rfl
 | 16,_=>rfl
 | 17,_=>rfl
 | 18,_=>rfl
 | 19,_=>rfl
 | 20,_=>rfl
 | 21,_=>rfl
 | 22,_=>rfl
 | 23,_=>rfl
 | 24,_=>rfl
 | 25,_=>rfl
 | 26,_=>rfl
 | 27,_=>rfl
 | 28,_=>rfl
 | 29,_=>rfl
 | 30,_=>rfl
 | 31,_=>rfl
 | 32,_=>rfl
 | 33,_=>rfl
 | 34,_=>rfl
 | 35,_=>rfl
 | 36,_=>rfl
 | 37,_=>rfl
 | 38,_=>rfl
 | 39,_=>rfl
 | 40,_=>rfl
 | 41,_=>rfl
 | 42,_=>rfl
 | 43,_=>rfl
 | 44,_=>rfl
 | 45,_=>rfl
 | 46,_=>rfl
 | 47,_=>rfl
 | 48,_=>rfl
 | 49,_=>rfl
 | 50,_=>rfl
 | 51,_=>rfl
 | 52,_=>rfl
 | 53,_=>rfl
 | 54,_=>rfl
 | 55,_=>rfl
 | 56,_=>rfl
 | 57,_=>rfl
 | 58,_=>rfl
 | 59,_=>rfl
 | k+60,h=>absurd h (by omega)
end Go.X.Gr
