import Derived.Test.YthdinakloheinaaGreatDoorkFRM
import Derived.Test.YthdinakloheinaaGreatDoorkGM
namespace Go.X.Fa
open Go Go.X
namespace SF
theorem zn{s t:SF}{m:Int}(h:∀ i,0≤i→i<30→((t.was i=true∧t.par i=m)↔(s.was i=true∧s.par i=m))):t.dI m=s.dI m:=by
 rw[Bool.eq_iff_iff,iL,iL]
 constructor
 ·rintro⟨i,i0,i1,i2,i3⟩;exact⟨i,i0,i1,(h i i0 i1).1 ⟨i2,i3⟩⟩
 ·rintro⟨i,i0,i1,i2,i3⟩;exact⟨i,i0,i1,(h i i0 i1).2 ⟨i2,i3⟩⟩
theorem KQ{s:SF}{m:Int}(h:∀ i,s.was i=true→s.par i≠m):s.dI m=false:=by
 cases q:s.dI m with
 | false=>rfl
 | true=>obtain⟨i,_,_,i2,i3⟩:=(s.iL m).1 q;exact absurd i3 (h i i2)
theorem rD{s t:SF}{m:Int}(ha:t.awake m=s.awake m)(hf:t.frz m=s.frz m)(hq:t.quota m=s.quota m)(hu:t.used m=s.used m)(hk:t.dI m=s.dI m):t.ready m=s.ready m:=by
 unfold ready;rw[ha,hf,hq,hu,hk]
def kU(s:SF)(n:Int):Prop:=∀ m,0<m→m<30→s.here m=true→m≠n→s.was m=s.ready m
theorem kU.go{s t:SF}{n:Int}(h:s.kU n)(hh:t.here=s.here)(hp:t.par=s.par)(ho:∀ m,m≠n→t.awake m=s.awake m∧t.frz m=s.frz m∧t.quota m=s.quota m∧t.used m=s.used m∧t.was m=s.was m)(hr:t.was n=t.ready n):t.kU (s.par n):=fun m m0 m1 m2 m3=>by
 by_cases c:m=n
 ·subst c;exact hr
 ·obtain⟨a1,a2,a3,a4,a5⟩:=ho m c
  rw[hh]at m2
  rw[a5,h m m0 m1 m2 c]
  refine(rD a1 a2 a3 a4 (zn fun i i0 i1=> ?_)).symm
  rw[hp]
  by_cases ci:i=n
  ·subst ci;constructor
   ·rintro⟨_,q⟩;exact absurd q.symm m3
   ·rintro⟨_,q⟩;exact absurd q.symm m3
  ·rw[(ho i ci).2.2.2.2]
theorem kU.set{s:SF}{n:Int}(h:s.kU n)(hn:n≤0):s.gP:=fun m m0 m1 m2=>h m m0 m1 m2 (by omega)
theorem gP.x{s:SF}(h:s.gP)(n:Int):s.kU n:=fun m m0 m1 m2 _=>h m m0 m1 m2
theorem kU.same{s t:SF}{n:Int}(h:s.kU n)(hh:t.here=s.here)(hk:∀ m,m≠n→t.dI m=s.dI m)(ho:∀ m,m≠n→t.awake m=s.awake m∧t.frz m=s.frz m∧t.quota m=s.quota m∧t.used m=s.used m∧t.was m=s.was m):t.kU n:=fun m m0 m1 m2 m3=>by
 obtain⟨a1,a2,a3,a4,a5⟩:=ho m m3
 rw[hh]at m2
 rw[a5,h m m0 m1 m2 m3]
 exact(rD a1 a2 a3 a4 (hk m m3)).symm
theorem Inv.ne{s:SF}{d:Int→Nat}(hI:s.Inv d){n:Int}(n0:0<n)(n1:n<30)(n2:s.here n=true):s.par n≠n:=fun e=>by
 have:=(hI.up n n0 n1 n2).2.2.2
 rw[e]at this;omega
theorem Inv.next{s:SF}{d:Int→Nat}(hI:s.Inv d){n:Int}(n0:0<n)(n1:n<30)(n2:s.here n=true):s.par n=0∨(0<s.par n∧s.par n<30∧s.here (s.par n)=true):=by
 obtain⟨p0,p1,p2,_⟩:=hI.up n n0 n1 n2
 by_cases c:s.par n=0
 ·exact .inl c
 ·exact .inr ⟨by omega,by omega,p2⟩
theorem kU.kS{s:SF}{d:Int→Nat}(hI:s.Inv d){n:Int}(n0:0<n)(n1:n<30)(n2:s.here n=true)(h:s.kU n):(s.kS n).kU (s.par n):=by
 refine h.go rfl rfl (fun m c=>⟨rfl,rfl,rfl,rfl,ad _ _ c⟩) ?_
 show aa s.was n (s.ready n) n=SF.ready {s with was:=aa s.was n (s.ready n)} n
 rw[ae,oX (hI.ne n0 n1 n2)]
theorem xg(s:SF)(n m:Int)(h:m≠n):(s.oA n).used m=s.used m:=by
 show(if 0<s.quota n then aa s.used n (s.used n+1)else s.used) m=s.used m
 split
 ·exact ad _ _ h
 ·rfl
theorem kU.oA{s:SF}{d:Int→Nat}(hI:s.Inv d){n:Int}(n0:0<n)(n1:n<30)(n2:s.here n=true)(h:s.kU n):(s.oA n).kU (s.par n):=by
 refine h.go rfl rfl (fun m c=>⟨rfl,rfl,rfl,xg _ _ _ c,ad _ _ c⟩) ?_
 show aa s.was n ((s.ie n).ready n) n=SF.ready {s.ie n with was:=aa (s.ie n).was n ((s.ie n).ready n)} n
 rw[ae,oX (s:=s.ie n) (hI.ne n0 n1 n2)]
theorem tX{d:Int→Nat} :∀ (k:Nat) (s:SF) (n:Int),s.Inv d→(n=0∨(0<n∧n<30∧s.here n=true))→s.kU n→d n+1≤k→(dR k s n).gP
 | 0,s,n,_,_,_,hk=>by omega
 | k+1,s,n,hI,hn,h,hk=>by
  rcases hn with rfl | ⟨n0,n1,n2⟩
  ·rw[gy _ _ (by omega)];exact h.set (by omega)
  ·rw[iO _ _ n0]
   obtain⟨p0,p1,p2,p3⟩:=hI.up n n0 n1 n2
   exact tX k (s.kS n) (s.par n) (hI.kS n0 n1 n2) (hI.next n0 n1 n2) (h.kS hI n0 n1 n2) (by omega)
theorem wa{d:Int→Nat} :∀ (k:Nat) (s:SF) (n B:Int),s.Inv d→(n=0∨(0<n∧n<30∧s.here n=true))→s.kU n→s.Tk→s.Small B→d n+1≤k→
  (nF k s n).gP∧(nF k s n).Inv d∧(nF k s n).Tk∧(nF k s n).Small (B+1048576*k)∧(nF k s n).now=s.now
 | 0,s,n,B,_,_,_,_,_,hk=>by omega
 | k+1,s,n,B,hI,hn,h,hT,hS,hk=>by
  rcases hn with rfl | ⟨n0,n1,n2⟩
  ·rw[uI _ _ (by omega)];exact⟨h.set (by omega),hI,hT,hS.mono (by omega),rfl⟩
  ·rw[Bt _ _ n0]
   obtain⟨p0,p1,p2,p3⟩:=hI.up n n0 n1 n2
   have hT2:(s.oA n).Tk:=fun m m0 m1=>by
    obtain⟨t1,t2,t3,t4,t5⟩:=hT m m0 m1
    refine⟨?_,t2,t3,t4,?_⟩
    ·show aa s.floor (s.par n) _ m=0
     rw[ad _ _ (by omega)];exact t1
    ·by_cases c:m=n
     ·subst c
      show(if 0<s.quota m then _ else s.used) m=0
      rw[if_neg (by omega)];exact t5
     ·rw[xg _ _ _ c];exact t5
   obtain⟨a1,a2,a3,a4,a5⟩:=wa k (s.oA n) (s.par n) (B+1048576) (hI.oA n0 n1 n2) (hI.next n0 n1 n2) (h.oA hI n0 n1 n2) hT2 (hS.oA hI n0 n1 n2) (by omega)
   exact⟨a1,a2,a3,a4.mono (by push_cast;omega),a5⟩
structure Ok (s:SF) (d:Int→Nat) (m:Nat) (t:Int):Prop where
 inv:s.Inv d
 dep:∀ n,0≤n→n<30→d n≤m
 set:s.gP
 tk:s.Tk
 small:s.Small (2000000000*t)
 now:0≤s.now∧s.now≤t
theorem Ok.mono{s:SF}{d:Int→Nat}{m m':Nat}{t t':Int}(h:s.Ok d m t)(hm:m≤m')(ht:t≤t'):s.Ok d m' t':=
 ⟨h.inv,fun n a b=>Nat.le_trans (h.dep n a b) hm,h.set,h.tk,h.small.mono (by omega),by have:=h.now;omega⟩
theorem look_ok{s:SF}{d:Int→Nat}{m:Nat}{t:Int}(hI:s.Inv d)(hd:∀ n,0≤n→n<30→d n≤m){n:Int}(hn:0<n∧n<30∧s.here n=true)(hX:s.kU n)(hT:s.Tk)(hS:s.Small (2000000000*t))(hw:0≤s.now∧s.now≤t):(look d s n).Ok d m t:=by
 obtain⟨a1,a2,a3,a4,a5,a6,a7,a8,a9,a10,a11⟩:=fb (d n+1) s n
 refine⟨nm hI (.inr hn),hd,tX _ _ _ hI (.inr hn) hX (Nat.le_refl _),fun i i0 i1=> ?_,Small.dR _ _ _ hI hS (.inr hn),?_⟩
 ·unfold look;rw[a6,a7,a8,a9,a10];exact hT i i0 i1
 ·unfold look;rw[a11];exact hw
theorem Ok.ei{s:SF}{d:Int→Nat}{m:Nat}{t:Int}(h:s.Ok d m t)(n:Int)(on:Bool):(s.ei d n on).Ok d m t:=by
 by_cases c:s.pw n=0
 ·obtain⟨i1,i2,i3⟩:=DQ c
  rw[HN c]
  exact look_ok (s:= {s with awake:=aa s.awake (10+n) on}) ⟨h.inv.h0,h.inv.up,h.inv.was,h.inv.quo,h.inv.wt⟩ h.dep ⟨by omega,by omega,i3⟩ ((h.set.x (10+n)).same rfl (fun _ _=>rfl) (fun i q=>⟨ad _ _ q,rfl,rfl,rfl,rfl⟩)) h.tk h.small h.now
 ·unfold SF.ei;rw[if_neg c];exact h
theorem Inv.L5{s:SF}{d:Int→Nat}(hI:s.Inv d){z:Int}(hn:s.here z=false):s.was z=false:=by
 cases q:s.was z with
 | false=>rfl
 | true=>have:=(hI.was z q).2.2;rw[hn]at this;cases this
theorem qB{s:SF}{B:Int}(hB:0≤B)(h:s.Small B)(z p w:Int)(b:Bool):(s.kG z p w b).Small B:=fun i a c=>by
 have hi:=h i a c
 show 0≤aa s.v z 0 i∧aa s.v z 0 i≤B∧0≤aa s.floor z 0 i∧aa s.floor z 0 i≤B∧0≤aa s.ran z 0 i∧aa s.ran z 0 i≤B∧0≤aa s.used z 0 i∧aa s.used z 0 i≤B
 unfold aa;split<;>omega
theorem AJ{s:SF}(h:s.Tk)(z p w:Int)(b:Bool):(s.kG z p w b).Tk:=fun i a c=>by
 obtain⟨t1,t2,t3,t4,t5⟩:=h i a c
 show aa s.floor z 0 i=0∧aa s.frz z false i=false∧aa s.quota z 0 i=0∧aa s.period z 0 i=0∧aa s.used z 0 i=0
 by_cases e:i=z
 ·subst e;rw[ae,ae,ae,ae,ae];exact⟨rfl,rfl,rfl,rfl,rfl⟩
 ·rw[ad _ _ e,ad _ _ e,ad _ _ e,ad _ _ e,ad _ _ e];exact⟨t1,t2,t3,t4,t5⟩
theorem yt{s:SF}(h:s.gP){z:Int}(hw:s.was z=false)(hk:∀ i,s.was i=true→s.par i≠z)(p w:Int)(b:Bool):(s.kG z p w b).gP:=fun m m0 m1 m2=>by
 show aa s.was z false m=_
 by_cases e:m=z
 ·subst e
  rw[ae]
  unfold ready
  split
  ·show false=aa s.awake m false m
   rw[ae]
  ·rw[KQ (s:=s.kG m p w b) (fun i hi=> ?_)];rfl
   have hi2:aa s.was m false i=true:=hi
   show aa s.par m p i≠m
   by_cases ci:i=m
   ·subst ci;rw[ae]at hi2;cases hi2
   ·rw[ad _ _ ci]at hi2 ⊢;exact hk i hi2
 ·have m3:aa s.here z b m=true:=m2
  rw[ad _ _ e]at m3 ⊢
  rw[h m m0 m1 m3]
  refine(rD (s:=s) (t:=s.kG z p w b) (ad _ _ e) (ad _ _ e) (ad _ _ e) (ad _ _ e) (zn fun i _ _=> ?_)).symm
  show(aa s.was z false i=true∧aa s.par z p i=m)↔_
  by_cases ci:i=z
  ·subst ci;rw[ae,hw];simp
  ·rw[ad _ _ ci,ad _ _ ci]
theorem Ok.add{s:SF}{d:Int→Nat}{m:Nat}{t:Int}(h:s.Ok d m t)(ht:0≤t){z p w:Int}(hz:0<z∧z<30)(hn:s.here z=false)(hp:0≤p∧p<10∧s.here p=true)(hw:1≤w):(s.kG z p w true).Ok (aa d z (d p+1)) (m+1) t:=by
 have hwz:=h.inv.L5 hn
 have hpz:¬p=z:=fun e=>by rw[e,hn]at hp;exact absurd hp.2.2 (by simp)
 have hne:∀ i,0<i→i<30→s.here i=true→¬s.par i=z:=fun i a b c e=>by
  have:=(h.inv.up i a b c).2.2.1
  rw[e,hn]at this;cases this
 refine⟨⟨?_,fun i a b c=> ?_,fun i hi=> ?_,fun i a b=> ?_,fun i a b c=> ?_⟩,fun i a b=> ?_,yt h.set hwz (fun i hi=> ?_) p w true,AJ h.tk z p w true,qB (by omega) h.small z p w true,h.now⟩
 ·show aa s.here z true 0=true
  rw[ad _ _ (by omega)];exact h.inv.h0
 ·have c2:aa s.here z true i=true:=c
  show 0≤aa s.par z p i∧aa s.par z p i<10∧aa s.here z true (aa s.par z p i)=true∧aa d z (d p+1) (aa s.par z p i)<aa d z (d p+1) i
  by_cases e:i=z
  ·subst e
   rw[ae,ae,ad _ _ hpz,ad _ _ hpz]
   exact⟨hp.1,hp.2.1,hp.2.2,by omega⟩
  ·rw[ad _ _ e]at c2
   have hpi:=hne i a b c2
   rw[ad _ _ e,ad _ _ e,ad _ _ hpi,ad _ _ hpi]
   exact h.inv.up i a b c2
 ·have hi2:aa s.was z false i=true:=hi
  show 0<i∧i<30∧aa s.here z true i=true
  by_cases e:i=z
  ·subst e;rw[ae]at hi2;cases hi2
  ·rw[ad _ _ e]at hi2 ⊢;exact h.inv.was i hi2
 ·show 0≤aa s.quota z 0 i∧(0<aa s.quota z 0 i→1≤aa s.period z 0 i)
  have:=h.inv.quo i a b
  unfold aa;split<;>omega
 ·have c2:aa s.here z true i=true:=c
  show 1≤aa s.wt z w i
  by_cases e:i=z
  ·subst e;rw[ae];exact hw
  ·rw[ad _ _ e]at c2 ⊢;exact h.inv.wt i a b c2
 ·have h1:=h.dep i a b
  have h2:=h.dep p hp.1 (by omega)
  unfold aa;split<;>omega
 ·obtain⟨a,b,c⟩:=h.inv.was i hi
  exact hne i a b c
theorem Ok.drop{s:SF}{d:Int→Nat}{m:Nat}{t:Int}(h:s.Ok d m t)(ht:0≤t){z:Int}(hz:0<z∧z<30)(hk:∀ i,0<i→i<30→¬(s.here i=true∧s.par i=z))(hw:s.was z=false):(s.kG z 0 0 false).Ok d m t:=by
 refine⟨⟨?_,fun i a b c=> ?_,fun i hi=> ?_,fun i a b=> ?_,fun i a b c=> ?_⟩,h.dep,yt h.set hw (fun i hi=> ?_) 0 0 false,AJ h.tk z 0 0 false,qB (by omega) h.small z 0 0 false,h.now⟩
 ·show aa s.here z false 0=true
  rw[ad _ _ (by omega)];exact h.inv.h0
 ·have c2:aa s.here z false i=true:=c
  show 0≤aa s.par z 0 i∧aa s.par z 0 i<10∧aa s.here z false (aa s.par z 0 i)=true∧d (aa s.par z 0 i)<d i
  by_cases e:i=z
  ·subst e;rw[ae]at c2;cases c2
  ·rw[ad _ _ e]at c2
   have hpi:¬s.par i=z:=fun q=>hk i (by omega) b ⟨c2,q⟩
   rw[ad _ _ e,ad _ _ hpi]
   exact h.inv.up i a b c2
 ·have hi2:aa s.was z false i=true:=hi
  show 0<i∧i<30∧aa s.here z false i=true
  by_cases e:i=z
  ·subst e;rw[ae]at hi2;cases hi2
  ·rw[ad _ _ e]at hi2 ⊢;exact h.inv.was i hi2
 ·show 0≤aa s.quota z 0 i∧(0<aa s.quota z 0 i→1≤aa s.period z 0 i)
  have:=h.inv.quo i a b
  unfold aa;split<;>omega
 ·have c2:aa s.here z false i=true:=c
  show 1≤aa s.wt z 0 i
  by_cases e:i=z
  ·subst e;rw[ae]at c2;cases c2
  ·rw[ad _ _ e]at c2 ⊢;exact h.inv.wt i a b c2
 ·obtain⟨a,b,c⟩:=h.inv.was i hi
  exact fun q=>hk i (by omega) b ⟨c,q⟩
theorem Ok.mV{s:SF}{d:Int→Nat}{m:Nat}{t:Int}(h:s.Ok d m t)(ht:0≤t)(n p w:Int):∃ d',(s.mV n p w).Ok d' (m+1) t:=by
 unfold SF.mV
 by_cases c:s.gj n p w=0
 ·rw[if_pos c]
  unfold gj at c
  split at c
  ·omega
  ·split at c
   ·omega
   ·have hh:s.here (10+n)=false:=by simpa using (by assumption:¬s.here (10+n)=true)
    exact⟨_,h.add ht ⟨by omega,by omega⟩ hh (Jl c) (by omega)⟩
 ·rw[if_neg c];exact⟨d,h.mono (by omega) (by omega)⟩
theorem Ok.sj{s:SF}{d:Int→Nat}{m:Nat}{t:Int}(h:s.Ok d m t)(ht:0≤t)(n:Int):(s.sj d n).Ok d m t:=by
 unfold SF.sj
 by_cases c:s.pw n=0
 ·rw[if_pos c]
  obtain⟨i1,i2,i3⟩:=DQ c
  obtain⟨w1,w2,w3,w4,_⟩:=w7 h.inv i1 i2 i3
  refine(h.ei n false).drop ht ⟨by omega,by omega⟩ (fun i a b q=> ?_) w2
  have:=(w1.up i a b q.1).2.1;omega
 ·rw[if_neg c];exact h
theorem Ok.move{s:SF}{d:Int→Nat}{m:Nat}{t:Int}(h:s.Ok d m t)(ht:0≤t)(n g:Int):∃ d',(s.move d n g).Ok d' (m+1) t:=by
 unfold SF.move
 by_cases c:s.nR n g=0
 ·rw[if_pos c]
  have hn:=s.L4 n
  have hg:=s.Me g
  unfold nR at c
  split at c
  ·omega
  ·obtain⟨i1,i2,i3⟩:=DQ (show s.pw n=0 by omega)
   obtain⟨k1,k2,k3⟩:=Jl c
   obtain⟨w1,w2,w3,w4,w5⟩:=w7 h.inv i1 i2 i3
   have hw:=h.ei n false
   refine⟨_,look_ok (s:=N8 d s n g) (w1.Ny (n:=10+n) (g:=g) ⟨by omega,by omega⟩ ⟨k1,k2,by rw[w3];exact k3⟩ w2 _ _) (fun i a b=> ?_) ⟨by omega,by omega,?_⟩ ((hw.set.x (10+n)).same rfl (fun i q=>zn fun j _ _=> ?_) (fun i q=>⟨?_,rfl,rfl,rfl,rfl⟩)) hw.tk (fun i a b=> ?_) hw.now⟩
   ·have h1:=h.dep i a b
    have h2:=h.dep g k1 (by omega)
    unfold aa;split<;>omega
   ·show(s.ei d n false).here (10+n)=true
    rw[w3];exact i3
   ·show((s.ei d n false).was j=true∧aa (s.ei d n false).par (10+n) g j=i)↔_
    by_cases e:j=10+n
    ·subst e;rw[w2];simp
    ·rw[ad _ _ e]
   ·exact ad _ _ q
   ·have:=hw.small i a b
    show 0≤aa (s.ei d n false).v (10+n) 0 i∧aa (s.ei d n false).v (10+n) 0 i≤2000000000*t∧_
    refine⟨?_,?_,this.2.2⟩<;>(unfold aa;split<;>omega)
 ·rw[if_neg c];exact⟨d,h.mono (by omega) (by omega)⟩
theorem Ok.hQ{s:SF}{d:Int→Nat}{m:Nat}{t:Int}(h:s.Ok d m t)(ht:0≤t):∀ k:Nat,k≤9→(SF.hQ d s k).Ok d m t∧(SF.hQ d s k).now=s.now
 | 0,_=>⟨h,rfl⟩
 | k+1,hk=>by
  obtain⟨h1,h2⟩:=h.hQ ht k (by omega)
  show(k6 d (SF.hQ d s k) ((k:Int)+1)).Ok d m t∧(k6 d (SF.hQ d s k) ((k:Int)+1)).now=s.now
  unfold k6
  split
  ·rename_i c
   refine⟨look_ok (s:= {SF.hQ d s k with used:=aa (SF.hQ d s k).used ((k:Int)+1) 0}) ⟨h1.inv.h0,h1.inv.up,h1.inv.was,h1.inv.quo,h1.inv.wt⟩ h1.dep ⟨by omega,by omega,c.1⟩ ((h1.set.x _).same rfl (fun _ _=>rfl) (fun i q=>⟨rfl,rfl,rfl,ad _ _ q,rfl⟩)) (fun i i0 i1=> ?_) (Small.used (by omega) h1.small _) h1.now,(fb _ _ _).2.2.2.2.2.2.2.2.2.2.trans h2⟩
   obtain⟨t1,t2,t3,t4,t5⟩:=h1.tk i i0 i1
   refine⟨t1,t2,t3,t4,?_⟩
   show aa _ _ 0 i=0
   unfold aa;split
   ·rfl
   ·exact t5
  ·exact⟨h1,h2⟩
theorem Ok.jV{s:SF}{d:Int→Nat}{m:Nat}{t:Int}(h:s.Ok d m t)(ht:0≤t):(s.jV d).Ok d m (t+1):=by
 obtain⟨h1,h2⟩:=h.hQ ht 9 (Nat.le_refl _)
 have hn:=h.now
 exact⟨⟨h1.inv.h0,h1.inv.up,h1.inv.was,h1.inv.quo,h1.inv.wt⟩,h1.dep,h1.set,h1.tk,Small.mono (s:=SF.hQ d s 9) h1.small (by omega),by show 0≤s.now+1∧s.now+1≤t+1;omega⟩
theorem EB{s:SF}{d:Int→Nat}(hI:s.Inv d):∀ (k:Nat) (a:Int),(0≤a∧a<30∧s.here a=true)→maxD d 30<k+d a→0≤AR s k a→10≤AR s k a∧AR s k a<30∧s.here (AR s k a)=true
 | 0,a,ha,hk,_=>by have:=maxD_le d 30 a ha.1 (by omega);omega
 | k+1,a,ha,hk,h0=>by
  by_cases c:10≤a
  ·rw[AI _ _ c];exact⟨c,ha.2⟩
  ·by_cases hb:s.cW a<0
   ·rw[FW _ _ c hb]at h0;omega
   ·rw[zh _ _ c hb]at h0 ⊢
    obtain⟨⟨b1,b2,b3⟩,b4,b5⟩:=nT (fun i hi=>⟨(hI.was i hi).1,(hI.was i hi).2.1⟩) hb
    have hbI:=hI.was _ b1
    have hd:=(hI.up _ b4 b5 hbI.2.2).2.2.2
    rw[b2]at hd
    exact EB hI k _ ⟨by omega,b5,hbI.2.2⟩ (by omega) h0
theorem J8{s:SF}{d:Int→Nat}(hI:(s.jV d).Inv d)(h:¬bX d s<0):10≤bX d s∧bX d s<30∧(s.jV d).here (bX d s)=true:=by
 unfold bX at h ⊢
 exact EB hI _ 0 ⟨by omega,by omega,hI.h0⟩ (by omega) (by omega)
theorem Ok.tick{s:SF}{d:Int→Nat}{m:Nat}{t:Int}(h:s.Ok d m t)(ht:0≤t)(hm:m≤900):(s.tick d).2.Ok d m (t+1):=by
 have h0:=h.jV ht
 unfold SF.tick
 split
 ·exact h0
 ·rename_i c
  obtain⟨w1,w2,w3⟩:=J8 h0.inv c
  obtain⟨h1,h2⟩:=h.hQ ht 9 (Nat.le_refl _)
  have hs:(s.jV d).Small (2000000000*t):=Small.mono (s:=SF.hQ d s 9) h1.small (by omega)
  obtain⟨a1,a2,a3,a4,a5⟩:=wa (d (bX d s)+1) (s.jV d) (bX d s) (2000000000*t) h0.inv (.inr ⟨by omega,w2,w3⟩) (h0.set.x _) h0.tk hs (Nat.le_refl _)
  have hd:=h0.dep (bX d s) (by omega) w2
  exact⟨a2,h0.dep,a1,a3,a4.mono (by push_cast;omega),by rw[a5];exact h0.now⟩
theorem AT:SF.init.Ok (fun _=>0) 0 0:=by
 have hh:∀ n:Int,SF.init.here n=true→n=0:=fun n h=>by
  have h2:aa (fun _:Int=>false) 0 true n=true:=h
  by_cases e:n=0
  ·exact e
  ·rw[ad _ _ e]at h2;cases h2
 have hw:∀ n:Int,SF.init.was n=false:=fun n=>by
  show aa (fun _:Int=>false) 0 false n=false
  unfold aa;split<;>rfl
 have hz:∀ n:Int,aa (fun _:Int=>(0:Int)) 0 0 n=0:=fun n=>by unfold aa;split<;>rfl
 refine⟨⟨ae (fun _:Int=>false) 0 true,fun n a b c=>(by have:=hh n c;omega),fun n h=>(by rw[hw n]at h;cases h),fun n a b=> ?_,fun n a b c=> ?_⟩,fun n a b=>Nat.le_refl _,fun n a b c=>(by have:=hh n c;omega),fun n a b=> ?_,fun n a b=> ?_,by show 0≤(0:Int)∧(0:Int)≤0;omega⟩
 ·show 0≤aa (fun _:Int=>(0:Int)) 0 0 n∧(0<aa (fun _:Int=>(0:Int)) 0 0 n→_)
  rw[hz];omega
 ·have:=hh n c;subst this
  show 1≤aa (fun _:Int=>(0:Int)) 0 1 0
  rw[ae];omega
 ·refine⟨hz n,?_,hz n,hz n,hz n⟩
  show aa (fun _:Int=>false) 0 false n=false
  unfold aa;split<;>rfl
 ·show 0≤aa (fun _:Int=>(0:Int)) 0 0 n∧aa (fun _:Int=>(0:Int)) 0 0 n≤_∧0≤aa (fun _:Int=>(0:Int)) 0 0 n∧aa (fun _:Int=>(0:Int)) 0 0 n≤_∧0≤aa (fun _:Int=>(0:Int)) 0 0 n∧aa (fun _:Int=>(0:Int)) 0 0 n≤_∧0≤aa (fun _:Int=>(0:Int)) 0 0 n∧aa (fun _:Int=>(0:Int)) 0 0 n≤_
  rw[hz];omega
end SF
end Go.X.Fa

namespace Go.X.Gr
open Go Go.X
theorem eW{f g:Int→Int} :∀ (k:Nat),(∀ j:Int,0≤j→j<k→f j=g j)→cL f k=cL g k
 | 0,_=>rfl
 | k+1,h=>by
  simp only[cL]
  rw[eW k (fun j h0 h1=>h j h0 (by omega)),h (k:Int) (by omega) (by omega)]
theorem ll(f g:Int→Int):∀ (k:Nat),cL (fun j=>f j+g j) k=cL f k+cL g k
 | 0=>rfl
 | k+1=>by simp only[cL];rw[ll f g k];omega
theorem wg(p:Int)(f:Int→Int):∀ (k:Nat),cL (fun j=>p*f j) k=p*cL f k
 | 0=>by simp[cL]
 | k+1=>by simp only[cL];rw[wg p f k,Int.mul_add]
theorem iD{f:Int→Int} :∀ (k:Nat),(∀ j:Int,0≤j→j<k→f j=0)→cL f k=0
 | 0,_=>rfl
 | k+1,h=>by
  simp only[cL]
  rw[iD k (fun j h0 h1=>h j h0 (by omega)),h (k:Int) (by omega) (by omega)];rfl
theorem Ap{f:Int→Int} :∀ (k:Nat),(∀ j:Int,0≤j→j<k→0≤f j)→0≤cL f k
 | 0,_=>Int.le_refl 0
 | k+1,h=>by
  have h1:=Ap k (fun j h0 h1=>h j h0 (by omega))
  have h2:=h (k:Int) (by omega) (by omega)
  simp only[cL];omega
theorem pL(v n:Int)(h0:0≤n):∀ (k:Nat),cL (fun j=>if j=n then v else 0) k=if n<k then v else 0
 | 0=>by simp only[cL];rw[if_neg (by omega)]
 | k+1=>by
  simp only[cL]
  rw[pL v n h0 k]
  by_cases h:(k:Int)=n
  ·rw[if_neg (by omega),if_pos h,if_pos (by omega)];omega
  ·rw[if_neg h]
   by_cases h2:n<k
   ·rw[if_pos h2,if_pos (by omega)];omega
   ·rw[if_neg h2,if_neg (by omega)];omega
namespace TG
theorem Ok.DG{s:TG}(h:s.Ok){n:Int}(h0:0≤n)(h1:n<10)(h2:s.here n=true)(h3:n≠0):0≤s.par n∧s.par n<10∧s.here (s.par n)=true:=by
 obtain⟨d,_,hd⟩:=h.mv
 obtain⟨_,_,h4⟩:=hd n h0 h1 h2
 exact⟨(h4 h3).1,(h4 h3).2.1,(h4 h3).2.2.1⟩
structure Inv (s:TG):Prop where
 ok:s.Ok
 own:∀ n,0≤n→n<10→s.here n=true→0≤s.left s.pr n∧0≤s.left s.pg n
theorem JP{s:TG}(h:s.Ok){f:Int→Int}(ho:∀ n,0≤n→n<10→s.here n=true→0≤s.left f n){n:Int}(h0:0≤n)(h1:n<10)(h2:s.here n=true):0≤f n:=by
 obtain⟨d,d0,hd⟩:=h.mv
 have key:∀ (k:Nat) (n:Int),0≤n→n<10→s.here n=true→4-d n≤k→0≤f n:=by
  intro k
  induction k with
  | zero=>
   intro n h0 h1 h2 hk
   have h3:=ho n h0 h1 h2
   unfold left at h3
   rw[iD 10 (fun j j0 j1=>by
    unfold dI
    refine if_neg (fun q=> ?_)
    have h4:=hd j j0 (by omega) q.1
    have h5:=hd n h0 h1 h2
    by_cases hj:j=0
    ·subst hj
     have:=h.root.2
     rw[q.2]at this;omega
    ·have:=(h4.2.2 hj).2.2.2
     rw[q.2]at this;omega)]at h3
   omega
  | succ k ih=>
   intro n h0 h1 h2 hk
   have h3:=ho n h0 h1 h2
   unfold left at h3
   have h6:=Ap (f:=s.dI f n) 10 (fun j j0 j1=>by
    unfold dI
    split
    ·rename_i q
     have h4:=hd j j0 (by omega) q.1
     refine ih j j0 (by omega) q.1 ?_
     by_cases hj:j=0
     ·subst hj
      have:=h.root.2
      rw[q.2]at this;omega
     ·have:=(h4.2.2 hj).2.2.2
      rw[q.2]at this;omega
    ·omega)
   omega
 exact key 4 n h0 h1 h2 (by omega)
theorem Inv.nn{s:TG}(h:s.Inv){n:Int}(h0:0≤n)(h1:n<10)(h2:s.here n=true):0≤s.pr n∧0≤s.pg n:=
 ⟨JP h.ok (fun n a b c=>(h.own n a b c).1) h0 h1 h2,JP h.ok (fun n a b c=>(h.own n a b c).2) h0 h1 h2⟩
theorem tF{s:TG} :∀ (l:List Int) (n x:Int),fP s.par n l→(∀ y∈l,s.here y=true)→0≤x→
  (l.count x:Int)-cL (fun k=>if s.here k=true∧s.par k=x then(l.count k:Int)else 0) 10=if x=n then 1 else 0
 | [],n,x,hw,_,hx=>by
  have hn:n<0:=hw
  rw[iD 10 (fun j _ _=>by simp)]
  simp;omega
 | y::r,n,x,hw,hh,hx=>by
  obtain⟨e1,h0,h1,h2⟩:=hw
  subst e1
  have ih:=tF r (s.par y) x h2 (fun z hz=>hh z (List.mem_cons_of_mem _ hz)) hx
  have hy:=hh y (by simp)
  have e2:cL (fun k=>if s.here k=true∧s.par k=x then((y::r).count k:Int)else 0) 10=cL (fun k=>if s.here k=true∧s.par k=x then(r.count k:Int)else 0) 10+cL (fun k=>if k=y then(if s.par y=x then 1 else 0)else 0) 10:=by
   rw[←ll]
   refine eW 10 (fun j j0 j1=> ?_)
   by_cases hj:j=y
   ·subst hj
    rw[List.count_cons_self]
    by_cases hp:s.par j=x
    ·simp only[hy,hp,and_self,if_true];push_cast;omega
    ·simp[hp]
   ·rw[List.count_cons_of_ne (fun e=>hj e.symm),if_neg hj];omega
  rw[e2,pL _ _ h0,if_pos (by omega)]
  by_cases hx2:x=y
  ·subst hx2
   rw[List.count_cons_self,if_pos rfl]
   push_cast
   by_cases h3:x=s.par x
   ·rw[if_pos h3]at ih;rw[if_pos h3.symm];omega
   ·rw[if_neg h3]at ih;rw[if_neg (fun e=>h3 e.symm)];omega
  ·rw[List.count_cons_of_ne (fun e=>hx2 e.symm),if_neg hx2]
   by_cases h3:x=s.par y
   ·rw[if_pos h3]at ih;rw[if_pos h3.symm];omega
   ·rw[if_neg h3]at ih;rw[if_neg (fun e=>h3 e.symm)];omega
theorem wv{s:TG}(h:s.Ok){n:Int}(h0:0≤n)(h1:n<10)(h2:s.here n=true)(f:Int→Int)(p:Int){x:Int}(hx:0≤x):s.left (fun y=>f y+p*((s.cr n).count y:Int)) x=s.left f x+if x=n then p else 0:=by
 obtain⟨w1,_,w3⟩:=h.cr h0 h1 h2
 have hc:=tF (s:=s) (s.cr n) n x w1 w3 hx
 unfold left
 have e:cL (s.dI (fun y=>f y+p*((s.cr n).count y:Int)) x) 10=cL (s.dI f x) 10+p*cL (fun k=>if s.here k=true∧s.par k=x then((s.cr n).count k:Int)else 0) 10:=by
  rw[←wg,←ll]
  refine eW 10 (fun j _ _=> ?_)
  unfold dI
  split
  ·rfl
  ·simp
 rw[e]
 have e3:p*((s.cr n).count x:Int)=p*cL (fun k=>if s.here k=true∧s.par k=x then((s.cr n).count k:Int)else 0) 10+(if x=n then p else 0):=by
  have:((s.cr n).count x:Int)=cL (fun k=>if s.here k=true∧s.par k=x then((s.cr n).count k:Int)else 0) 10+(if x=n then 1 else 0):=by omega
  rw[this,Int.mul_add]
  split<;>simp
 show f x+p*((s.cr n).count x:Int)-_=_
 omega
theorem Inv.lay{s:TG}(h:s.Inv){n:Int}(h0:0≤n)(h1:n<10)(h2:s.here n=true){p m:Int}(hp:0≤s.left s.pr n+p)(hm:0≤s.left s.pg n+m):(s.lay (s.cr n) p m).Inv:=by
 refine⟨h.ok.lay _ _ _,fun x x0 x1 x2=> ?_⟩
 have a:=wv h.ok h0 h1 h2 s.pr p x0
 have b:=wv h.ok h0 h1 h2 s.pg m x0
 have c:=h.own x x0 x1 x2
 have a2:(s.lay (s.cr n) p m).left (s.lay (s.cr n) p m).pr x=s.left s.pr x+if x=n then p else 0:=a
 have b2:(s.lay (s.cr n) p m).left (s.lay (s.cr n) p m).pg x=s.left s.pg x+if x=n then m else 0:=b
 rw[a2,b2]
 by_cases hx:x=n
 ·subst hx;rw[if_pos rfl,if_pos rfl];exact⟨hp,hm⟩
 ·rw[if_neg hx,if_neg hx];omega
theorem Inv.cg{s:TG}(h:s.Inv)(n p m:Int):(s.cg n p m).Inv:=by
 unfold TG.cg;split
 ·rename_i h0
  obtain⟨⟨n0,n1,n2⟩,p0,p1,m0,m1⟩:=oW h0
  have:=h.own n n0 n1 n2
  exact h.lay n0 n1 n2 (by omega) (by omega)
 ·exact h
theorem zp{s:TG}{n p m:Int}(h:s.dM n p m=0):p≤s.left s.pr n∧m≤s.left s.pg n:=by
 unfold dM at h
 split at h
 ·omega
 ·split at h
  ·assumption
  ·omega
theorem Inv.ea{s:TG}(h:s.Inv)(n p m:Int):(s.ea n p m).Inv:=by
 unfold TG.ea;split
 ·rename_i h0
  obtain⟨⟨n0,n1,n2⟩,p0,p1,m0,m1⟩:=qi h0
  have:=zp h0
  exact h.lay n0 n1 n2 (by omega) (by omega)
 ·exact h
theorem Inv.move{s:TG}(h:s.Inv)(a b p m:Int):(s.move a b p m).Inv:=by
 unfold TG.move;split
 ·exact h
 ·split
  ·exact(h.ea _ _ _).cg _ _ _
  ·exact h
theorem J6{s:TG}{a:Int}(h:s.s5 a=0):s.cI a=0∧¬(s.cr a).length=4∧0≤s.j7 a∧s.j7 a<10∧s.here (s.j7 a)=false∧s.free=some (s.j7 a).toNat:=by
 have h':=h
 unfold s5 at h
 split at h
 ·omega
 ·split at h
  ·omega
  ·split at h
   ·omega
   ·rename_i h1 h2 h3
    cases hf:s.free with
    | none=>exact absurd hf h3
    | some k=>
     have e:s.j7 a=(k:Int):=by unfold j7;rw[if_pos h',hf];rfl
     have hf2:=hf
     unfold free ck at hf2
     rw[List.find?_range_eq_some]at hf2
     have hk:k<10:=by simpa using hf2.2.1
     have hh:s.here (k:Int)=false:=by simpa using hf2.1
     rw[e]
     exact⟨by omega,h2,by omega,by omega,hh,by simp⟩
theorem Ok.len{s:TG}(h:s.Ok){d:Int→Nat}(d0:d 0=1)(hd:∀ n,0≤n→n<10→s.here n=true→1≤d n∧d n≤4∧(n≠0→0≤s.par n∧s.par n<10∧s.here (s.par n)=true∧d n=d (s.par n)+1)){n:Int}(h0:0≤n)(h1:n<10)(h2:s.here n=true):(s.cr n).length=d n:=
 (h.G7 5 (d n) (by have:=(hd n h0 h1 h2).2.1;omega) d d0 hd n h0 h1 h2 rfl).2.1
theorem Ok.put{s:TG}(h:s.Ok){a k:Int}(ha:s.cI a=0)(hl:¬(s.cr a).length=4)(k0:0≤k)(k1:k<10)(hk:s.here k=false):(s.put k a).Ok:=by
 obtain⟨a0,a1,a2⟩:=rG ha
 obtain⟨d,d0,hd⟩:=h.mv
 have hlen:=h.len d0 hd a0 a1 a2
 have hda:=hd a a0 a1 a2
 have hk0:k≠0:=fun e=>by subst e;rw[h.root.1]at hk;cases hk
 have hka:a≠k:=fun e=>by subst e;rw[a2]at hk;cases hk
 refine⟨⟨?_,?_⟩,fun x=>if x=k then d a+1 else d x,?_,fun n n0 n1 n2=> ?_⟩
 ·show aa s.here k true 0=true
  rw[ad _ _ (Ne.symm hk0)];exact h.root.1
 ·show aa s.par k a 0= -1
  rw[ad _ _ (Ne.symm hk0)];exact h.root.2
 ·show(if(0:Int)=k then d a+1 else d 0)=1
  rw[if_neg (Ne.symm hk0)];exact d0
 ·have e1:(s.put k a).par n=aa s.par k a n:=rfl
  have e2:∀ x,(s.put k a).here x=aa s.here k true x:=fun _=>rfl
  show 1≤(if n=k then d a+1 else d n)∧(if n=k then d a+1 else d n)≤4∧(n≠0→0≤(s.put k a).par n∧(s.put k a).par n<10∧(s.put k a).here ((s.put k a).par n)=true∧(if n=k then d a+1 else d n)=(if(s.put k a).par n=k then d a+1 else d ((s.put k a).par n))+1)
  by_cases hn:n=k
  ·subst hn
   rw[if_pos rfl,e1,ae,e2,ad _ _ hka,if_neg hka]
   exact⟨by omega,by omega,fun _=>⟨a0,a1,a2,rfl⟩⟩
  ·rw[e2,ad _ _ hn]at n2
   have h4:=hd n n0 n1 n2
   rw[if_neg hn,e1,ad _ _ hn]
   refine⟨h4.1,h4.2.1,fun q=> ?_⟩
   obtain⟨p0,p1,p2,p3⟩:=h4.2.2 q
   have hpk:s.par n≠k:=fun e=>by rw[e,hk]at p2;cases p2
   rw[e2,ad _ _ hpk,if_neg hpk]
   exact⟨p0,p1,p2,p3⟩
theorem wV{s:TG}(h:s.Ok){a k:Int}(hk:s.here k=false)(f:Int→Int){x:Int}(hx:s.here x=true):(s.put k a).left (aa f k 0) x=s.left f x:=by
 have hxk:x≠k:=fun e=>by subst e;rw[hx]at hk;cases hk
 unfold left
 rw[ad _ _ hxk]
 congr 1
 refine eW 10 (fun j j0 j1=> ?_)
 unfold dI
 show(if aa s.here k true j=true∧aa s.par k a j=x then aa f k 0 j else 0)=_
 by_cases hj:j=k
 ·subst hj;rw[ae,ae,ae,hk];simp
 ·rw[ad _ _ hj,ad _ _ hj,ad _ _ hj]
theorem xO{s:TG}(h:s.Ok){a k:Int}(hk:s.here k=false)(hk0:0≤k)(hka:a≠k)(f:Int→Int):(s.put k a).left (aa f k 0) k=0:=by
 unfold left
 rw[ae,iD]
 ·rfl
 ·intro j j0 j1
  unfold dI
  show(if aa s.here k true j=true∧aa s.par k a j=k then aa f k 0 j else 0)=0
  by_cases hj:j=k
  ·subst hj;rw[ae,ae,ae];simp
  ·rw[ad _ _ hj,ad _ _ hj,ad _ _ hj]
   refine if_neg (fun q=> ?_)
   by_cases hj0:j=0
   ·subst hj0;rw[h.root.2]at q;omega
   ·have:=(h.DG j0 (by omega) q.1 hj0).2.2
    rw[q.2,hk]at this;cases this
theorem Inv.add{s:TG}(h:s.Inv)(a:Int):(s.add a).Inv:=by
 unfold TG.add;split
 ·rename_i h0
  obtain⟨e1,e2,e3,e4,e5,_⟩:=J6 h0
  have hok:=h.ok.put e1 e2 e3 e4 e5
  refine⟨hok,fun x x0 x1 x2=> ?_⟩
  show 0≤(s.put (s.j7 a) a).left (aa s.pr (s.j7 a) 0) x∧0≤(s.put (s.j7 a) a).left (aa s.pg (s.j7 a) 0) x
  by_cases hx:x=s.j7 a
  ·have ha:a≠s.j7 a:=fun e=>by
    have:=(rG e1).2.2
    rw[e,e5]at this;cases this
   rw[hx,xO h.ok e5 e3 ha,xO h.ok e5 e3 ha];omega
  ·have hx2:s.here x=true:=by
    have:(s.put (s.j7 a) a).here x=aa s.here (s.j7 a) true x:=rfl
    rw[this,ad _ _ hx]at x2;exact x2
   rw[wV h.ok e5 _ hx2,wV h.ok e5 _ hx2]
   exact h.own x x0 x1 hx2
 ·exact h
theorem Lo{s:TG}{n:Int}(h:s.xQ n=false){j:Int}(j0:0≤j)(j1:j<10)(j2:s.here j=true):s.par j≠n:=fun e=>by
 rw[Ih j0 j1 j2 e]at h;cases h
theorem Ok.drop{s t:TG}(h:s.Ok){n:Int}(hn:n≠0)(hk:s.xQ n=false)(hh:t.here=aa s.here n false)(hp:∀ x,x≠n→t.par x=s.par x):t.Ok:=by
 obtain⟨d,d0,hd⟩:=h.mv
 refine⟨⟨by rw[hh,ad _ _ (Ne.symm hn)];exact h.root.1,by rw[hp 0 (Ne.symm hn)];exact h.root.2⟩,d,d0,fun x x0 x1 x2=> ?_⟩
 have hx:x≠n:=fun e=>by subst e;rw[hh,ae]at x2;cases x2
 rw[hh,ad _ _ hx]at x2
 have h4:=hd x x0 x1 x2
 rw[hp x hx]
 refine⟨h4.1,h4.2.1,fun q=> ?_⟩
 obtain⟨p0,p1,p2,p3⟩:=h4.2.2 q
 refine⟨p0,p1,?_,p3⟩
 rw[hh,ad _ _ (Lo hk x0 x1 x2)];exact p2
theorem uc(n:Int):TG.init.here n=decide (n=0):=by
 show aa (fun _=>false) 0 true n=_
 unfold aa;by_cases h:n=0<;>simp[h]
theorem Inv.init:TG.init.Inv:=by
 have hh:∀ n:Int,TG.init.here n=true→n=0:=fun n h=>by rw[uc]at h;simpa using h
 refine⟨⟨⟨by rw[uc];rfl,rfl⟩,fun _=>1,rfl,fun n n0 n1 n2=> ?_⟩,fun n n0 n1 n2=> ?_⟩
 ·have:=hh n n2;subst this
  exact⟨Nat.le_refl 1,by show 1≤4;omega,fun q=>absurd rfl q⟩
 ·have:=hh n n2;subst this
  decide+kernel
theorem Small.init:TG.init.Small 0:=fun n h0 h1=>by
 have:n=0∨n=1∨n=2∨n=3∨n=4∨n=5∨n=6∨n=7∨n=8∨n=9:=by omega
 rcases this with rfl | rfl | rfl | rfl | rfl | rfl | rfl | rfl | rfl | rfl<;>decide+kernel
theorem Small.add{s:TG}{B:Int}(h:s.Small B)(hB:0≤B)(a:Int):(s.add a).Small B:=by
 unfold TG.add;split
 ·intro n h0 h1
  show-B≤aa s.pr _ 0 n∧aa s.pr _ 0 n≤B∧ -B≤aa s.pg _ 0 n∧aa s.pg _ 0 n≤B
  have:=h n h0 h1
  unfold aa;split<;>omega
 ·exact h
theorem Small.move{s:TG}{B:Int}(h:s.Small B)(hO:s.Ok)(a b p m:Int):(s.move a b p m).Small (B+640):=by
 unfold TG.move;split
 ·exact h.mono (by omega)
 ·split
  ·exact((h.ea hO a p m).cg hO.ea b p m).mono (by omega)
  ·exact h.mono (by omega)
structure Rel (s t:TG):Prop where
 here:s.here=t.here
 gv:∀ n,0≤n→n<10→s.here n=true→s.gv n=t.gv n
theorem Rel.par{s t:TG}(h:Rel s t){n:Int}(h0:0≤n)(h1:n<10)(h2:s.here n=true):t.par n=s.par n:=(congrArg GV.par (h.gv n h0 h1 h2)).symm
theorem Rel.pr{s t:TG}(h:Rel s t){n:Int}(h0:0≤n)(h1:n<10)(h2:s.here n=true):t.pr n=s.pr n:=(congrArg GV.pr (h.gv n h0 h1 h2)).symm
theorem Rel.pg{s t:TG}(h:Rel s t){n:Int}(h0:0≤n)(h1:n<10)(h2:s.here n=true):t.pg n=s.pg n:=(congrArg GV.pg (h.gv n h0 h1 h2)).symm
theorem Rel.ok{s t:TG}(h:Rel s t)(hO:s.Ok):t.Ok:=by
 obtain⟨d,d0,hd⟩:=hO.mv
 have hr:=hO.root
 refine⟨⟨by rw[←h.here];exact hr.1,by rw[h.par (by omega) (by omega) hr.1];exact hr.2⟩,d,d0,fun n n0 n1 n2=> ?_⟩
 rw[←h.here]at n2 ⊢
 rw[h.par n0 n1 n2]
 exact hd n n0 n1 n2
theorem Rel.cr{s t:TG}(h:Rel s t)(hO:s.Ok){n:Int}(h0:0≤n)(h1:n<10)(h2:s.here n=true):t.cr n=s.cr n:=by
 obtain⟨w1,_,w3⟩:=hO.cr h0 h1 h2
 obtain⟨v1,_⟩:=(h.ok hO).cr h0 h1 (by rw[←h.here];exact h2)
 exact v1.unique (w1.congr (fun x hx=>by
  obtain⟨x0,x1⟩:=w1.range x hx
  exact h.par x0 x1 (w3 x hx)))
theorem Rel.cI{s t:TG}(h:Rel s t)(n:Int):t.cI n=s.cI n:=by unfold TG.cI;rw[h.here]
theorem Rel.kM{s t:TG}(h:Rel s t)(n p m:Int):t.kM n p m=s.kM n p m:=by unfold TG.kM;rw[h.cI]
theorem Rel.left{s t:TG}(h:Rel s t){n:Int}(h0:0≤n)(h1:n<10)(h2:s.here n=true):t.left t.pr n=s.left s.pr n∧t.left t.pg n=s.left s.pg n:=by
 unfold TG.left
 rw[h.pr h0 h1 h2,h.pg h0 h1 h2]
 have e1:cL (t.dI t.pr n) 10=cL (s.dI s.pr n) 10:=eW 10 (fun j j0 j1=>by
  unfold dI
  rw[←h.here]
  by_cases hj:s.here j=true
  ·rw[h.par j0 (by omega) hj,h.pr j0 (by omega) hj]
  ·simp[hj])
 have e2:cL (t.dI t.pg n) 10=cL (s.dI s.pg n) 10:=eW 10 (fun j j0 j1=>by
  unfold dI
  rw[←h.here]
  by_cases hj:s.here j=true
  ·rw[h.par j0 (by omega) hj,h.pg j0 (by omega) hj]
  ·simp[hj])
 rw[e1,e2];exact⟨rfl,rfl⟩
theorem Rel.dM{s t:TG}(h:Rel s t)(n p m:Int):t.dM n p m=s.dM n p m:=by
 unfold TG.dM
 rw[h.kM]
 by_cases hc:s.kM n p m=0
 ·obtain⟨⟨n0,n1,n2⟩,_⟩:=By hc
  rw[(h.left n0 n1 n2).1,(h.left n0 n1 n2).2]
 ·rw[if_pos hc,if_pos hc]
theorem Rel.room{s t:TG}(h:Rel s t)(hO:s.Ok){n:Int}(h0:0≤n)(h1:n<10)(h2:s.here n=true)(p m:Int):∀ x∈s.cr n,t.room p m x=s.room p m x:=fun x hx=>by
 obtain⟨w1,_,w3⟩:=hO.cr h0 h1 h2
 obtain⟨x0,x1⟩:=w1.range x hx
 unfold TG.room
 rw[h.gv x x0 x1 (w3 x hx)]
theorem all_congr{l:List Int}{p q:Int→Bool}(h:∀ x∈l,p x=q x):l.all p=l.all q:=by
 induction l with
 | nil=>rfl
 | cons x r ih=>simp only[List.all_cons,h x (by simp),ih (fun y hy=>h y (List.mem_cons_of_mem _ hy))]
theorem Rel.b8{s t:TG}(h:Rel s t)(hO:s.Ok)(n p m:Int):t.b8 n p m=s.b8 n p m:=by
 unfold TG.b8
 rw[h.kM]
 by_cases hc:s.kM n p m=0
 ·obtain⟨⟨n0,n1,n2⟩,_⟩:=By hc
  rw[h.cr hO n0 n1 n2,all_congr (h.room hO n0 n1 n2 p m)]
 ·rw[if_pos hc,if_pos hc]
theorem Rel.free{s t:TG}(h:Rel s t):t.free=s.free:=by unfold TG.free;rw[h.here]
theorem Rel.s5{s t:TG}(h:Rel s t)(hO:s.Ok)(a:Int):t.s5 a=s.s5 a:=by
 unfold TG.s5
 rw[h.cI,h.free]
 by_cases hc:s.cI a=0
 ·obtain⟨n0,n1,n2⟩:=rG hc
  rw[h.cr hO n0 n1 n2]
 ·rw[if_pos hc,if_pos hc]
theorem Rel.j7{s t:TG}(h:Rel s t)(hO:s.Ok)(a:Int):t.j7 a=s.j7 a:=by unfold TG.j7;rw[h.s5 hO,h.free]
theorem Rel.xQ{s t:TG}(h:Rel s t)(n:Int):t.xQ n=s.xQ n:=by
 rw[Bool.eq_iff_iff,oI,oI]
 unfold below
 rw[←h.here]
 constructor
 ·rintro⟨k,k0,k1,k2,k3⟩;exact⟨k,k0,k1,k2,by rw[←h.par k0 k1 k2];exact k3⟩
 ·rintro⟨k,k0,k1,k2,k3⟩;exact⟨k,k0,k1,k2,by rw[h.par k0 k1 k2];exact k3⟩
theorem zm{s t:TG}{n:Int}(h1:s.par n=t.par n)(h2:s.mp n=t.mp n)(h3:s.mg n=t.mg n)(h4:s.pr n=t.pr n)(h5:s.pg n=t.pg n):s.gv n=t.gv n:=by
 unfold TG.gv;rw[h1,h2,h3,h4,h5]
theorem Rel.eqs{s t:TG}(h:Rel s t){n:Int}(h0:0≤n)(h1:n<10)(h2:s.here n=true):s.par n=t.par n∧s.mp n=t.mp n∧s.mg n=t.mg n∧s.pr n=t.pr n∧s.pg n=t.pg n:=by
 have e:=h.gv n h0 h1 h2
 exact⟨congrArg GV.par e,congrArg GV.mp e,congrArg GV.mg e,congrArg GV.pr e,congrArg GV.pg e⟩
theorem Rel.lay{s t:TG}(h:Rel s t)(l:List Int)(p m:Int):Rel (s.lay l p m) (t.lay l p m):=⟨h.here,fun n h0 h1 h2=>by
 obtain⟨e1,e2,e3,e4,e5⟩:=h.eqs h0 h1 h2
 exact zm e1 e2 e3 (by show s.pr n+_=t.pr n+_;rw[e4]) (by show s.pg n+_=t.pg n+_;rw[e5])⟩
theorem Rel.cg{s t:TG}(h:Rel s t)(hO:s.Ok)(n p m:Int):Rel (s.cg n p m) (t.cg n p m):=by
 unfold TG.cg
 rw[h.b8 hO]
 by_cases hc:s.b8 n p m=0
 ·rw[if_pos hc,if_pos hc]
  obtain⟨⟨n0,n1,n2⟩,_⟩:=oW hc
  rw[h.cr hO n0 n1 n2];exact h.lay _ _ _
 ·rw[if_neg hc,if_neg hc];exact h
theorem Rel.ea{s t:TG}(h:Rel s t)(hO:s.Ok)(n p m:Int):Rel (s.ea n p m) (t.ea n p m):=by
 unfold TG.ea
 rw[h.dM]
 by_cases hc:s.dM n p m=0
 ·rw[if_pos hc,if_pos hc]
  obtain⟨⟨n0,n1,n2⟩,_⟩:=qi hc
  rw[h.cr hO n0 n1 n2];exact h.lay _ _ _
 ·rw[if_neg hc,if_neg hc];exact h
theorem Rel.nR{s t:TG}(h:Rel s t)(hO:s.Ok)(a b p m:Int):t.nR a b p m=s.nR a b p m:=by
 unfold TG.nR
 rw[h.cI,h.dM,(h.ea hO a p m).b8 hO.ea]
theorem Rel.move{s t:TG}(h:Rel s t)(hO:s.Ok)(a b p m:Int):Rel (s.move a b p m) (t.move a b p m):=by
 unfold TG.move
 rw[h.cI,h.dM,(h.ea hO a p m).b8 hO.ea]
 split
 ·exact h
 ·split
  ·exact(h.ea hO a p m).cg hO.ea b p m
  ·exact h
theorem Rel.put{s t:TG}(h:Rel s t)(k a:Int):Rel (s.put k a) (t.put k a):=by
 refine⟨by show aa s.here k true=aa t.here k true;rw[h.here],fun x h0 h1 h2=> ?_⟩
 by_cases hx:x=k
 ·subst hx
  exact zm (by show aa s.par x a x=aa t.par x a x;rw[ae,ae]) (by show aa s.mp x (-1) x=aa t.mp x (-1) x;rw[ae,ae]) (by show aa s.mg x (-1) x=aa t.mg x (-1) x;rw[ae,ae]) (by show aa s.pr x 0 x=aa t.pr x 0 x;rw[ae,ae]) (by show aa s.pg x 0 x=aa t.pg x 0 x;rw[ae,ae])
 ·have h3:s.here x=true:=by
   have:(s.put k a).here x=aa s.here k true x:=rfl
   rw[this,ad _ _ hx]at h2;exact h2
  obtain⟨e1,e2,e3,e4,e5⟩:=h.eqs h0 h1 h3
  exact zm (by show aa s.par k a x=aa t.par k a x;rw[ad _ _ hx,ad _ _ hx,e1]) (by show aa s.mp k (-1) x=aa t.mp k (-1) x;rw[ad _ _ hx,ad _ _ hx,e2]) (by show aa s.mg k (-1) x=aa t.mg k (-1) x;rw[ad _ _ hx,ad _ _ hx,e3]) (by show aa s.pr k 0 x=aa t.pr k 0 x;rw[ad _ _ hx,ad _ _ hx,e4]) (by show aa s.pg k 0 x=aa t.pg k 0 x;rw[ad _ _ hx,ad _ _ hx,e5])
theorem Rel.add{s t:TG}(h:Rel s t)(hO:s.Ok)(a:Int):Rel (s.add a) (t.add a):=by
 unfold TG.add
 rw[h.s5 hO,h.j7 hO]
 split
 ·exact h.put _ _
 ·exact h
theorem Rel.all{s t:TG}(h:Rel s t):t.all=s.all:=by unfold TG.all;rw[h.here]
end TG
end Go.X.Gr
