import Derived.Test.YthdinakloheinaaGreatDoorkFRM
set_option linter.all false
namespace Go.X.Fa
open Go Go.X
variable{m n p t w z:Int}{d:Int->Nat}{s:SF}
namespace SF
theorem Mb{t:SF}(h:∀ i,0<=i->i<30->((t.cv i=true/\t.aD i=m)↔(s.cv i=true/\s.aD i=m))):t.ie m=s.ie m:=by
 grind [qL]
theorem T7(h:∀ i,s.cv i=true->s.aD i≠m):s.ie m=false:=by
 grind [qL]
theorem Jk{t:SF}(ha:t.cO m=s.cO m)(hf:t.vZ m=s.vZ m)(hq:t.dE m=s.dE m)(hu:t.dL m=s.dL m)(hk:t.ie m=s.ie m):t.ready m=s.ready m:=by
 grind [ready]
def qN(s:SF)(n:Int):Prop:=∀ m,0<m->m<30->s.aa m=true->m≠n->s.cv m=s.ready m
def qN.go{t:SF}(h:s.qN n)(hh:t.aa=s.aa)(hp:t.aD=s.aD)(ho:∀ m,m≠n->t.cO m=s.cO m/\t.vZ m=s.vZ m/\t.dE m=s.dE m/\t.dL m=s.dL m/\t.cv m=s.cv m)(hr:t.cv n=t.ready n):t.qN (s.aD n):=fun m m0 m1 m2 m3=>by
 grind [Mb,qN,ready]
theorem qN.set(h:s.qN n)(hn:n<=0):s.nh:=fun m m0 m1 m2=>h m m0 m1 m2 og
theorem nh.x(h:s.nh)(n:Int):s.qN n:=fun m m0 m1 m2 _=>h m m0 m1 m2
theorem qN.same{t:SF}(h:s.qN n)(hh:t.aa=s.aa)(hk:∀ m,m≠n->t.ie m=s.ie m)(ho:∀ m,m≠n->t.cO m=s.cO m/\t.vZ m=s.vZ m/\t.dE m=s.dE m/\t.dL m=s.dL m/\t.cv m=s.cv m):t.qN n:=fun m m0 m1 m2 m3=>by
 grind [Jk,qN]
theorem Inv.ne(hI:s.Inv d)(n0:0<n)(n1:n<30)(n2:s.aa n=true):s.aD n≠n:=fun e=>by
 grind [Inv]
def Inv.next(hI:s.Inv d)(n0:0<n)(n1:n<30)(n2:s.aa n=true):s.aD n=0\/(0<s.aD n/\s.aD n<30/\s.aa (s.aD n)=true):=by
 grind [Inv]
def qN.ve{s:SF}{d:Int->Nat}(hI:s.Inv d){n:Int}(n0:0<n)(n1:n<30)(n2:s.aa n=true)(h:s.qN n):(s.ve n).qN (s.aD n):=by
 refine h.go rfl rfl (fun m c=>⟨rfl,rfl,rfl,rfl,ae _ _ c⟩) ?_;show ad s.cv n (s.ready n) n=SF.ready {s with cv:=ad s.cv n (s.ready n)} n;rw[aj,zP (hI.ne n0 n1 n2)]
theorem Jl(s:SF)(n m:Int)(h:m≠n):(s.zI n).dL m=s.dL m:=by
 show(if 0<s.dE n then ad s.dL n (s.dL n+1)else s.dL) m=s.dL m;grind [ae]
def qN.zI{s:SF}{d:Int->Nat}(hI:s.Inv d){n:Int}(n0:0<n)(n1:n<30)(n2:s.aa n=true)(h:s.qN n):(s.zI n).qN (s.aD n):=by
 refine h.go rfl rfl (fun m c=>⟨rfl,rfl,rfl,Jl _ _ _ c,ae _ _ c⟩) ?_;show ad s.cv n ((s.nM n).ready n) n=SF.ready {s.nM n with cv:=ad (s.nM n).cv n ((s.nM n).ready n)} n;rw[aj,zP (s:=s.nM n) (hI.ne n0 n1 n2)]
def FG{d:Int->Nat} :∀ (k:Nat) (s:SF) (n:Int),s.Inv d->(n=0\/(0<n/\n<30/\s.aa n=true))->s.qN n->d n+1<=k->(iv k s n).nh
 | 0,s,n,_,_,_,hk=>og
 | k+1,s,n,hI,hn,h,hk=>by
  rcases hn with rfl | ⟨n0,n1,n2⟩
  ·rw[mN _ _];exact h.set og
  ·rw[oZ _ _ n0];obtain⟨p0,p1,p2,p3⟩:=hI.up n n0 n1 n2;exact FG k (s.ve n) (s.aD n) (hI.ve n0 n1 n2) (hI.next n0 n1 n2) (h.ve hI n0 n1 n2) og
def Jm{d:Int->Nat} :∀ (k:Nat) (s:SF) (n B:Int),s.Inv d->(n=0\/(0<n/\n<30/\s.aa n=true))->s.qN n->s.Tk->s.bV B->d n+1<=k->
  (vN k s n).nh/\(vN k s n).Inv d/\(vN k s n).Tk/\(vN k s n).bV (B+1048576*k)/\(vN k s n).hQ=s.hQ
 | 0,s,n,B,_,_,_,_,_,hk=>og
 | k+1,s,n,B,hI,hn,h,hT,hS,hk=>by
  rcases hn with rfl | ⟨n0,n1,n2⟩
  ·rw[FE _ _ og];exact⟨h.set og,hI,hT,hS.mono og,rfl⟩
  ·rw[Oh _ _ n0];obtain⟨p0,p1,p2,p3⟩:=hI.up n n0 n1 n2;have hT2:(s.zI n).Tk:=fun m m0 m1=>by
    obtain⟨t1,t2,t3,t4,t5⟩:=hT m m0 m1;refine⟨?_,t2,t3,t4,?_⟩
    ·show ad s.eJ (s.aD n) _ m=0;grind [ae]
    ·by_cases c:m=n
     ·subst c;show(if 0<s.dE m then _ else s.dL) m=0;simp_all
     grind [Jl]
   obtain⟨a1,a2,a3,a4,a5⟩:=Jm k (s.zI n) (s.aD n) (B+1048576) (hI.zI n0 n1 n2) (hI.next n0 n1 n2) (h.zI hI n0 n1 n2) hT2 (hS.zI hI n0 n1 n2) og;exact⟨a1,a2,a3,a4.mono (by push_cast;omega),a5⟩
structure Ok (s:SF) (d:Int->Nat) (m:Nat) (t:Int):Prop where
 inv:s.Inv d
 aQ:∀ n,0<=n->n<30->d n<=m
 set:s.nh
 tk:s.Tk
 sP:s.bV (2000000000*t)
 hQ:0<=s.hQ/\s.hQ<=t
theorem Ok.mono{s:SF}{d:Int->Nat}{m m':Nat}{t t':Int}(h:s.Ok d m t)(hm:m<=m')(ht:t<=t'):s.Ok d m' t':=
 ⟨h.inv,fun n a b=>Nat.le_trans (h.aQ n a b) hm,h.set,h.tk,h.sP.mono og,by have:=h.hQ;omega⟩
def Ok.Mc{m:Nat}(h:s.Ok d m t):∀ n,0<=n->n<10->s.aa n=true->(∀ i,s.cv i=true->s.aD i≠n)->s.cv n=false:=fun n n0 n1 n2 n3=>by
 by_cases c:n=0
 ·subst c;cases q:s.cv 0 with
  | false=>rfl
  | true=>have:=(h.inv.cv 0 q).1;omega
 ·rw[h.set n og og n2];grind [ready,T7]
def xV{m:Nat}(hI:s.Inv d)(hd:∀ n,0<=n->n<30->d n<=m)(hn:0<n/\n<30/\s.aa n=true)(hX:s.qN n)(hT:s.Tk)(hS:s.bV (2000000000*t))(hw:0<=s.hQ/\s.hQ<=t):(look d s n).Ok d m t:=by
 obtain⟨a1,a2,a3,a4,a5,a6,a7,a8,a9,a10,a11⟩:=j8 (d n+1) s n;refine⟨tT hI (.inr hn),hd,FG _ _ _ hI (.inr hn) hX (Nat.le_refl _),fun i i0 i1=> ?_,bV.iv _ _ _ hI hS (.inr hn),?_⟩;all_goals grind [look,SF.Tk]
theorem Ok.gq{s:SF}{d:Int->Nat}{m:Nat}{t:Int}(h:s.Ok d m t)(n:Int)(on:Bool):(s.gq d n on).Ok d m t:=by
 by_cases c:s.xQ n=0
 ·obtain⟨i1,i2,i3⟩:=T2 c;rw[X9 c];exact xV (s:= {s with cO:=ad s.cO (10+n) on}) ⟨h.inv.h0,h.inv.up,h.inv.cv,h.inv.quo,h.inv.wt⟩ h.aQ ⟨og,og,i3⟩ ((h.set.x (10+n)).same rfl (fun _ _=>rfl) fun i q=>⟨ae _ _ q,rfl,rfl,rfl,rfl⟩) h.tk h.sP h.hQ
 grind [gq]
def Ok.freeze{s:SF}{d:Int->Nat}{m:Nat}{t:Int}(h:s.Ok d m t)(n:Int)(on:Bool):(s.freeze d n on).Ok d m t:=by
 unfold SF.freeze;by_cases c:s.EJ n=0
 ·rw[if_pos c];obtain⟨g0,g1⟩:s.vO n=0/\n≠0:=by
   have:=s.G7 n;unfold EJ at c;split at c
   ·omega
   ·split at c<;>omega
  obtain⟨i1,i2,i3⟩:=FA g0;refine xV (s:= {s with vZ:=ad s.vZ n on}) ⟨h.inv.h0,h.inv.up,h.inv.cv,h.inv.quo,h.inv.wt⟩ h.aQ ⟨og,og,i3⟩ ((h.set.x n).same rfl (fun _ _=>rfl) fun i q=>⟨rfl,ae _ _ q,rfl,rfl,rfl⟩) (fun i i0 i1=> ?_) h.sP h.hQ;obtain⟨t1,t2,t3⟩:=h.tk i i0 i1;exact⟨t1,by show ad s.vZ n on i=false;rw[ae _ _ og];exact t2,t3⟩
 ·rw[if_neg c];exact h
def Ok.xT{s:SF}{d:Int->Nat}{m:Nat}{t:Int}(h:s.Ok d m t)(ht:0<=t)(n q p:Int):(s.xT d n q p).Ok d m t:=by
 unfold SF.xT;by_cases c:s.s9 n q p=0
 ·rw[if_pos c];obtain⟨g0,g1,g2,g3⟩:s.vO n=0/\n≠0/\0<=q/\1<=p:=by
   have:=s.G7 n;unfold s9 at c;split at c
   ·omega
   ·split at c
    ·omega
    ·split at c<;>omega
  obtain⟨i1,i2,i3⟩:=FA g0;refine xV (s:=s.ab4 n q p) ⟨h.inv.h0,h.inv.up,h.inv.cv,fun i a b=> ?_,h.inv.wt⟩ h.aQ ⟨og,og,i3⟩ ((h.set.x n).same rfl (fun _ _=>rfl) fun i q=>⟨rfl,rfl,ae _ _ q,ae _ _ q,rfl⟩) (fun i i0 i1=> ?_) (fun i a b=> ?_) h.hQ
  ·show 0<=ad s.dE n q i/\(0<ad s.dE n q i->1<=ad s.eN n p i);have:=h.inv.quo i a b;unfold ad;split<;>omega
  ·obtain⟨t1,t2,t3,t4,t5⟩:=h.tk i i0 i1;refine⟨t1,t2,?_,?_,?_⟩
   ·show ad s.dE n q i=0;rw[ae _ _ og];exact t3
   ·show ad s.eN n p i=0;rw[ae _ _ og];exact t4
   ·show ad s.dL n 0 i=0;rw[ae _ _ og];exact t5
  ·exact bV.dL og h.sP n i a b
 ·rw[if_neg c];exact h
def Inv.ab9(hI:s.Inv d)(hn:s.aa z=false):s.cv z=false:=by
 grind [Inv]
def CQ{B:Int}(hB:0<=B)(h:s.bV B)(z p w:Int)(b:Bool):(s.p9 z p w b).bV B:=fun i a c=>by
 have hi:=h i a c;show 0<=ad s.v z 0 i/\ad s.v z 0 i<=B/\0<=ad s.eJ z 0 i/\ad s.eJ z 0 i<=B/\0<=ad s.vd z 0 i/\ad s.vd z 0 i<=B/\0<=ad s.dL z 0 i/\ad s.dL z 0 i<=B;unfold ad;split<;>omega
def Oj(h:s.Tk)(z p w:Int)(b:Bool):(s.p9 z p w b).Tk:=fun i a c=>by
 obtain⟨t1,t2,t3,t4,t5⟩:=h i a c;show ad s.eJ z 0 i=0/\ad s.vZ z false i=false/\ad s.dE z 0 i=0/\ad s.eN z 0 i=0/\ad s.dL z 0 i=0;grind [aj,ae]
def Jn(h:s.nh)(hw:s.cv z=false)(hk:∀ i,s.cv i=true->s.aD i≠z)(p w:Int)(b:Bool):(s.p9 z p w b).nh:=fun m m0 m1 m2=>by
 show ad s.cv z false m=_;by_cases e:m=z
 ·simp_all[ready,ad,T7,p9]
 ·have m3:ad s.aa z b m=true:=m2;rw[ae _ _ e]at m3 ⊢;rw[h m m0 m1 m3];refine(Jk (s:=s) (t:=s.p9 z p w b) (ae _ _ e) (ae _ _ e) (ae _ _ e) (ae _ _ e) (Mb fun i _ _=> ?_)).symm;show(ad s.cv z false i=true/\ad s.aD z p i=m)↔_;grind [aj,ae]
theorem Ok.add{m:Nat}(h:s.Ok d m t)(ht:0<=t)(hz:0<z/\z<30)(hn:s.aa z=false)(hp:0<=p/\p<10/\s.aa p=true)(hw:1<=w):(s.p9 z p w true).Ok (ad d z (d p+1)) (m+1) t:=by
 have hwz:=h.inv.ab9 hn;have hpz:¬p=z:=fun e=>by rw[e,hn]at hp;exact absurd hp.2.2 sq
 have fN:∀ i,0<i->i<30->s.aa i=true->¬s.aD i=z:=fun i a b c e=>by
  have:=(h.inv.up i a b c).2.2.1;simp_all
 refine⟨⟨?_,fun i a b c=> ?_,fun i hi=> ?_,fun i a b=> ?_,fun i a b c=> ?_⟩,fun i a b=> ?_,Jn h.set hwz (fun i hi=> ?_) p w true,Oj h.tk z p w true,CQ og h.sP z p w true,h.hQ⟩
 ·show ad s.aa z true 0=true;rw[ae _ _ og];exact h.inv.h0
 ·have c2:ad s.aa z true i=true:=c;show 0<=ad s.aD z p i/\ad s.aD z p i<10/\ad s.aa z true (ad s.aD z p i)=true/\ad d z (d p+1) (ad s.aD z p i)<ad d z (d p+1) i;by_cases e:i=z
  ·grind [ad]
  ·rw[ae _ _ e]at c2;have hpi:=fN i a b c2;rw[ae _ _ e,ae _ _ e,ae _ _ hpi,ae _ _ hpi];exact h.inv.up i a b c2
 ·have P7:ad s.cv z false i=true:=hi;show 0<i/\i<30/\ad s.aa z true i=true;by_cases e:i=z
  ·grind [ad]
  ·rw[ae _ _ e]at P7 ⊢;exact h.inv.cv i P7
 ·show 0<=ad s.dE z 0 i/\(0<ad s.dE z 0 i->1<=ad s.eN z 0 i);have:=h.inv.quo i a b;grind [ad]
 ·have c2:ad s.aa z true i=true:=c;show 1<=ad s.wt z w i;by_cases e:i=z
  ·grind [ad]
  ·rw[ae _ _ e]at c2 ⊢;exact h.inv.wt i a b c2
 ·have h1:=h.aQ i a b;grind [Ok.aQ,ad]
 ·obtain⟨a,b,c⟩:=h.inv.cv i hi;simp_all
theorem Ok.drop{m:Nat}(h:s.Ok d m t)(ht:0<=t)(hz:0<z/\z<30)(hk:∀ i,0<i->i<30->¬(s.aa i=true/\s.aD i=z))(hw:s.cv z=false):(s.p9 z 0 0 false).Ok d m t:=by
 refine⟨⟨?_,fun i a b c=> ?_,fun i hi=> ?_,fun i a b=> ?_,fun i a b c=> ?_⟩,h.aQ,Jn h.set hw (fun i hi=> ?_) 0 0 false,Oj h.tk z 0 0 false,CQ og h.sP z 0 0 false,h.hQ⟩
 ·show ad s.aa z false 0=true;rw[ae _ _ og];exact h.inv.h0
 ·have c2:ad s.aa z false i=true:=c;show 0<=ad s.aD z 0 i/\ad s.aD z 0 i<10/\ad s.aa z false (ad s.aD z 0 i)=true/\d (ad s.aD z 0 i)<d i;by_cases e:i=z
  ·grind [aj]
  ·rw[ae _ _ e]at c2;have hpi:¬s.aD i=z:=fun q=>hk i og b ⟨c2,q⟩;rw[ae _ _ e,ae _ _ hpi];exact h.inv.up i a b c2
 ·have P7:ad s.cv z false i=true:=hi;show 0<i/\i<30/\ad s.aa z false i=true;by_cases e:i=z
  ·grind [aj]
  ·rw[ae _ _ e]at P7 ⊢;exact h.inv.cv i P7
 ·show 0<=ad s.dE z 0 i/\(0<ad s.dE z 0 i->1<=ad s.eN z 0 i);have:=h.inv.quo i a b;grind [ad]
 ·have c2:ad s.aa z false i=true:=c;show 1<=ad s.wt z 0 i;by_cases e:i=z
  ·grind [aj]
  ·rw[ae _ _ e]at c2 ⊢;exact h.inv.wt i a b c2
 ·obtain⟨a,b,c⟩:=h.inv.cv i hi;simp_all
def Ok.s5{s:SF}{d:Int->Nat}{m:Nat}{t:Int}(h:s.Ok d m t)(ht:0<=t)(n p w:Int):∃ d',(s.s5 n p w).Ok d' (m+1) t:=by
 unfold SF.s5;by_cases c:s.lU n p w=0
 ·rw[if_pos c];unfold lU at c;split at c
  ·omega
  ·split at c
   ·omega
   ·have hh:s.aa n=false:=by simpa using (by assumption:¬s.aa n=true)
    have hn0:n≠0:=fun e=>by rw[e,h.inv.h0]at hh;cases hh
    exact⟨_,h.add ht ⟨og,og⟩ hh (FA c) og⟩
 ·rw[if_neg c];exact⟨d,h.mono og og⟩
def Ok.s8{s:SF}{d:Int->Nat}{m:Nat}{t:Int}(h:s.Ok d m t)(ht:0<=t)(n p w:Int):∃ d',(s.s8 n p w).Ok d' (m+1) t:=by
 unfold SF.s8;by_cases c:s.lV n p w=0
 ·rw[if_pos c];unfold lV at c;split at c
  ·omega
  ·split at c
   ·omega
   ·have hh:s.aa (10+n)=false:=by simpa using (by assumption:¬s.aa (10+n)=true)
    exact⟨_,h.add ht ⟨og,og⟩ hh (FA c) og⟩
 ·rw[if_neg c];exact⟨d,h.mono og og⟩
def Ok.o3{s:SF}{d:Int->Nat}{m:Nat}{t:Int}(h:s.Ok d m t)(ht:0<=t)(n:Int):(s.o3 n).Ok d m t:=by
 unfold SF.o3;by_cases c:s.nN n=0
 ·rw[if_pos c];have hg:=s.G7 n;unfold nN at c;split at c
  ·omega
  ·split at c
   ·omega
   ·rename_i c1 c2;obtain⟨i1,i2,i3⟩:=FA (show s.vO n=0 by omega);have hk:∀ i,0<i->i<30->¬(s.aa i=true/\s.aD i=n):=fun i a b q=>c2 (.inr (Of og b q.1 q.2));have hn0:n≠0:=fun e=>c2 (.inl e);refine h.drop ht ⟨og,og⟩ hk (h.Mc n i1 i2 i3 fun i hi=> ?_);obtain⟨a,b,c⟩:=h.inv.cv i hi;exact fun q=>hk i og b ⟨c,q⟩
 ·rw[if_neg c];exact h
def Ok.wb{s:SF}{d:Int->Nat}{m:Nat}{t:Int}(h:s.Ok d m t)(ht:0<=t)(n:Int):(s.wb d n).Ok d m t:=by
 unfold SF.wb;by_cases c:s.xQ n=0
 ·rw[if_pos c];obtain⟨i1,i2,i3⟩:=T2 c;obtain⟨w1,w2,w3,w4,_⟩:=Jj h.inv i1 i2 i3;refine(h.gq n false).drop ht ⟨og,og⟩ (fun i a b q=> ?_) w2;have:=(w1.up i a b q.1).2.1;omega
 ·rw[if_neg c];exact h
def Ok.move{s:SF}{d:Int->Nat}{m:Nat}{t:Int}(h:s.Ok d m t)(ht:0<=t)(n g:Int):∃ d',(s.move d n g).Ok d' (m+1) t:=by
 unfold SF.move;by_cases c:s.eK n g=0
 ·rw[if_pos c];have hn:=s.ab3 n;have hg:=s.G7 g;unfold eK at c;split at c
  ·omega
  ·obtain⟨i1,i2,i3⟩:=T2 (show s.xQ n=0 by omega);obtain⟨k1,k2,k3⟩:=FA c;obtain⟨w1,w2,w3,w4,w5⟩:=Jj h.inv i1 i2 i3;have hw:=h.gq n false;refine⟨_,xV (s:=mv1 d s n g) (w1.aaF (n:=10+n) (g:=g) ⟨og,og⟩ ⟨k1,k2,by rw[w3];exact k3⟩ w2 _ _) (fun i a b=> ?_) ⟨og,og,?_⟩ ((hw.set.x (10+n)).same rfl (fun i q=>Mb fun j _ _=> ?_) fun i q=>⟨?_,rfl,rfl,rfl,rfl⟩) hw.tk (fun i a b=> ?_) hw.hQ⟩
   ·have h1:=h.aQ i a b;have h2:=h.aQ g k1 og;unfold ad;split<;>omega
   ·show(s.gq d n false).aa (10+n)=true;rw[w3];exact i3
   ·show((s.gq d n false).cv j=true/\ad (s.gq d n false).aD (10+n) g j=i)↔_;by_cases e:j=10+n
    ·subst e;rw[w2];simp
    ·rw[ae _ _ e]
   ·exact ae _ _ q
   ·have:=hw.sP i a b;show 0<=ad (s.gq d n false).v (10+n) 0 i/\ad (s.gq d n false).v (10+n) 0 i<=2000000000*t/\_;refine⟨?_,?_,this.2.2⟩<;>(unfold ad;split<;>omega)
 ·rw[if_neg c];exact⟨d,h.mono og og⟩
theorem Ok.mM{s:SF}{d:Int->Nat}{m:Nat}{t:Int}(h:s.Ok d m t)(ht:0<=t):∀ k:Nat,k<=9->(SF.mM d s k).Ok d m t/\(SF.mM d s k).hQ=s.hQ
 | 0,_=>⟨h,rfl⟩
 | k+1,hk=>by
  obtain⟨h1,h2⟩:=h.mM ht k og;show(tN d (SF.mM d s k) ((k:Int)+1)).Ok d m t/\(tN d (SF.mM d s k) ((k:Int)+1)).hQ=s.hQ;unfold tN;split
  ·rename_i c;refine⟨xV (s:= {SF.mM d s k with dL:=ad (SF.mM d s k).dL ((k:Int)+1) 0}) ⟨h1.inv.h0,h1.inv.up,h1.inv.cv,h1.inv.quo,h1.inv.wt⟩ h1.aQ ⟨og,og,c.1⟩ ((h1.set.x _).same rfl (fun _ _=>rfl) fun i q=>⟨rfl,rfl,rfl,ae _ _ q,rfl⟩) (fun i i0 i1=> ?_) (bV.dL og h1.sP _) h1.hQ,(j8 _ _ _).2.2.2.2.2.2.2.2.2.2.trans h2⟩;obtain⟨t1,t2,t3,t4,t5⟩:=h1.tk i i0 i1;grind [ad]
  simp_all
def Ok.oX{s:SF}{d:Int->Nat}{m:Nat}{t:Int}(h:s.Ok d m t)(ht:0<=t):(s.oX d).Ok d m (t+1):=by
 obtain⟨h1,h2⟩:=h.mM ht 9 (Nat.le_refl _);have hn:=h.hQ;exact⟨⟨h1.inv.h0,h1.inv.up,h1.inv.cv,h1.inv.quo,h1.inv.wt⟩,h1.aQ,h1.set,h1.tk,bV.mono (s:=SF.mM d s 9) h1.sP og,by show 0<=s.hQ+1/\s.hQ+1<=t+1;omega⟩
def T8{s:SF}{d:Int->Nat}(hI:s.Inv d):∀ (k:Nat) (a:Int),(0<=a/\a<30/\s.aa a=true)->G6 d 30<k+d a->0<=Lv s k a->10<=Lv s k a/\Lv s k a<30/\s.aa (Lv s k a)=true
 | 0,a,ha,hk,_=>by have:=BX d 30 a ha.1 og;omega
 | k+1,a,ha,hk,h0=>by
  by_cases c:10<=a
  ·grind [Lv]
  ·by_cases hb:s.oW a<0
   ·grind [Lv]
   ·rw[L9 _ _ c hb]at h0 ⊢;obtain⟨⟨b1,b2,b3⟩,b4,b5⟩:=xU (fun i hi=>⟨(hI.cv i hi).1,(hI.cv i hi).2.1⟩) hb;have hbI:=hI.cv _ b1;have hd:=(hI.up _ b4 b5 hbI.2.2).2.2.2;rw[b2]at hd;exact T8 hI k _ ⟨og,b5,hbI.2.2⟩ og h0
def T9(hI:(s.oX d).Inv d)(h:¬dv d s<0):10<=dv d s/\dv d s<30/\(s.oX d).aa (dv d s)=true:=by
 unfold dv at h ⊢;exact T8 hI _ 0 ⟨og,og,hI.h0⟩ og og
def Ok.kM{s:SF}{d:Int->Nat}{m:Nat}{t:Int}(h:s.Ok d m t)(ht:0<=t)(hm:m<=900):(s.kM d).2.Ok d m (t+1):=by
 have h0:=h.oX ht;unfold SF.kM;split
 ·exact h0
 ·rename_i c;obtain⟨w1,w2,w3⟩:=T9 h0.inv c;obtain⟨h1,h2⟩:=h.mM ht 9 (Nat.le_refl _);have hs:(s.oX d).bV (2000000000*t):=bV.mono (s:=SF.mM d s 9) h1.sP og;obtain⟨a1,a2,a3,a4,a5⟩:=Jm (d (dv d s)+1) (s.oX d) (dv d s) (2000000000*t) h0.inv (.inr ⟨og,w2,w3⟩) (h0.set.x _) h0.tk hs (Nat.le_refl _);have hd:=h0.aQ (dv d s) og w2;exact⟨a2,h0.aQ,a1,a3,a4.mono (by push_cast;omega),by rw[a5];exact h0.hQ⟩
def Ol:SF.cC.Ok (fun _=>0) 0 0:=by
 have hh:∀ n:Int,SF.cC.aa n=true->n=0:=fun n h=>by
  have h2:ad (fun _:Int=>false) 0 true n=true:=h;grind [ae]
 have hw:∀ n:Int,SF.cC.cv n=false:=fun n=>by
  show ad (fun _:Int=>false) 0 false n=false;grind [ad]
 have hz:∀ n:Int,ad (fun _:Int=>(0:Int)) 0 0 n=0:=fun n=>by unfold ad;split<;>rfl
 refine⟨⟨aj (fun _:Int=>false) 0 true,fun n a b c=>(by have:=hh n c;omega),fun n h=>(by rw[hw n]at h;cases h),fun n a b=> ?_,fun n a b c=> ?_⟩,fun n a b=>Nat.le_refl _,fun n a b c=>(by have:=hh n c;omega),fun n a b=> ?_,fun n a b=> ?_,by show 0<=(0:Int)/\(0:Int)<=0;omega⟩
 ·show 0<=ad (fun _:Int=>(0:Int)) 0 0 n/\(0<ad (fun _:Int=>(0:Int)) 0 0 n->_);simp_all
 ·have:=hh n c;subst this;show 1<=ad (fun _:Int=>(0:Int)) 0 1 0;grind [aj]
 ·refine⟨hz n,?_,hz n,hz n,hz n⟩;show ad (fun _:Int=>false) 0 false n=false;grind [ad]
 ·show 0<=ad (fun _:Int=>(0:Int)) 0 0 n/\ad (fun _:Int=>(0:Int)) 0 0 n<=_/\0<=ad (fun _:Int=>(0:Int)) 0 0 n/\ad (fun _:Int=>(0:Int)) 0 0 n<=_/\0<=ad (fun _:Int=>(0:Int)) 0 0 n/\ad (fun _:Int=>(0:Int)) 0 0 n<=_/\0<=ad (fun _:Int=>(0:Int)) 0 0 n/\ad (fun _:Int=>(0:Int)) 0 0 n<=_;simp_all
end SF
namespace SF
def Jo(d:Int->Nat)(s:SF)(n:Int):(tN d s n).aa=s.aa:=by
 unfold tN;split
 ·exact mO _ _ _
 ·rfl
theorem vg(d:Int->Nat)(s:SF):∀ k,(mM d s k).aa=s.aa
 | 0=>rfl
 | k+1=>(Jo _ _ _).trans (vg d s k)
def FH:∀ (k:Nat) (s:SF) (n:Int),(vN k s n).aa=s.aa
 | 0,_,_=>rfl
 | k+1,s,n=>by
  unfold vN;split
  ·rfl
  ·exact FH k (s.zI n) (s.aD n)
theorem zQ(d:Int->Nat)(s:SF):(s.kM d).2.aa=s.aa:=by
 unfold kM;split
 ·exact vg d s 9
 ·exact(FH _ _ _).trans (vg d s 9)
theorem qP(d:Int->Nat)(s:SF)(n:Int)(on:Bool):(s.gq d n on).aa=s.aa:=by
 unfold gq;split
 ·exact mO _ _ _
 ·rfl
theorem Jp(d:Int->Nat)(s:SF)(n:Int)(on:Bool):(s.freeze d n on).aa=s.aa:=by
 unfold freeze;split
 ·exact mO _ _ _
 ·rfl
theorem Qp(d:Int->Nat)(s:SF)(n q p:Int):(s.xT d n q p).aa=s.aa:=by
 unfold xT;split
 ·exact mO _ _ _
 ·rfl
theorem Qq(d:Int->Nat)(s:SF)(n g:Int):(s.move d n g).aa=s.aa:=by
 unfold move;split
 ·exact(mO _ _ _).trans (qP d s n false)
 ·rfl
def FI(h:(s.s8 n p w).aa (10+m)=true):m=n\/s.aa (10+m)=true:=by
 unfold s8 at h;split at h
 ·by_cases e:m=n
  ·exact .inl e
  ·right;have h:ad s.aa (10+n) true (10+m)=true:=h;rwa[ae _ _ og]at h
 ·exact .inr h
def Me(m0:0<=m)(m1:m<20)(h:(s.wb d n).aa (10+m)=true):m≠n/\s.aa (10+m)=true:=by
 unfold wb at h;split at h
 ·have h:ad (s.gq d n false).aa (10+n) false (10+m)=true:=h;by_cases e:m=n
  ·subst e;rw[aj]at h;cases h
  ·rw[ae _ _ og,qP]at h;exact⟨e,h⟩
 ·rename_i c;refine⟨?_,h⟩;rintro rfl;exact c (by unfold xQ;rw[if_neg og,if_pos h])
def Qr(m0:0<=m)(h:(s.s5 n p w).aa (10+m)=true):s.aa (10+m)=true:=by
 unfold s5 at h;split at h
 ·rename_i c;have h:ad s.aa n true (10+m)=true:=h;unfold lU at c;rwa[ae _ _ (by intro e;rw[if_pos og]at c;omega)]at h
 ·exact h
def Mf(h:(s.o3 n).aa (10+m)=true):s.aa (10+m)=true:=by
 unfold o3 at h;split at h
 ·have h:ad s.aa n false (10+m)=true:=h;by_cases e:10+m=n
  ·rw[e,aj]at h;cases h
  ·rwa[ae _ _ e]at h
 ·exact h
def Ua{m:Nat}(h:s.Ok d m t)(ht:0<=t):(s.kM d).1<0\/(0<=(s.kM d).1/\(s.kM d).1<20/\(s.kM d).2.aa (10+(s.kM d).1)=true):=by
 rw[zQ];unfold kM;split
 ·left;show(-1:Int)<0;omega
 ·rename_i c;right;obtain⟨w1,w2,w3⟩:=T9 (h.oX ht).inv c;show 0<=dv d s-10/\dv d s-10<20/\s.aa (10+(dv d s-10))=true;rw[show 10+(dv d s-10)=dv d s by omega];exact⟨og,og,by rw[<-vg d s 9];exact w3⟩
end SF
end Go.X.Fa

namespace Go.X.Sg
open Go Go.X
variable{on:Bool}{h n:Int}{x:Nat}
def mA(f:Int->Bool):Nat->Nat
 | 0=>0
 | n+1=>mA f n|||(if f n then 2^n else 0)
theorem iH(f:Int->Bool)(n j:Nat):(mA f n).testBit j=(decide (j<n)&&f j):=by
 induction n with
 | zero=>simp[mA]
 | succ n ih=>
  simp only[mA,Nat.testBit_or,ih];by_cases h:j=n
  ·grind
  ·grind
def pH(f:Int->Bool):Nat:=mA f 9
theorem lX(f:Int->Bool)(j:Nat):(pH f).testBit j=(decide (j<9)&&f j):=iH f 9 j
def jL(f:Int->Bool):pH f<2^IntKind.u16.bits:=by
 refine Nat.lt_of_lt_of_le (m:=2^9) ?_ dq;apply Nat.lt_pow_two_of_testBit;grind [lX]
def iX(h:1<=n/\n<=8):2^n.toNat<2^IntKind.u16.bits:=Nat.pow_lt_pow_right og (by show n.toNat<16;omega)
def vh(h:1<=n/\n<=8:=by omega):IntKind.u16.wrap (1*2^(min n.toNat IntKind.u16.bits))=((2^n.toNat:Nat):Int):=by
 have:n=1\/n=2\/n=3\/n=4\/n=5\/n=6\/n=7\/n=8:=og;rcases this with rfl | rfl | rfl | rfl | rfl | rfl | rfl | rfl<;>decide
def Jq(f:Int->Bool)(h:1<=n/\n<=8:=by omega):pH f|||2^n.toNat=pH (ad f n true):=by
 apply Nat.eq_of_testBit_eq;grind [lX,ad]
def rU(f:Int->Bool)(h:1<=n/\n<=8:=by omega):lS (pH f) (2^n.toNat)=pH (ad f n false):=by
 apply Nat.eq_of_testBit_eq;grind [lX,ad,lS]
structure BS where
 dU:Int->Bool
 bj:Int->Bool
 jm:Int->Int
def BS.cC:BS:=⟨fun _=>false,fun _=>false,fun _=>0⟩
def BS.zR(s:BS)(n:Int):Int:=if n=3/\s.jm n=0 then 1 else s.jm n
def BS.num(n:Int):Bool:=decide (1<=n/\n<=8)
def BS.send(s:BS)(n:Int):Int×BS:=if BS.num n then(0,if s.zR n=1 then s else {s with dU:=ad s.dU n true})else(1,s)
def BS.dZ(s:BS)(n:Int)(on:Bool):Int×BS:=if BS.num n then(if n=1 then(8,s)else(0,{s with bj:=ad s.bj n on}))else(1,s)
def BS.set(s:BS)(n h:Int):Int×BS:=
 if BS.num n=true/\0<=h/\h<=2 then(if n=1 then(8,s)else
  (0,if({s with jm:=ad s.jm n h} :BS).zR n=1 then {dU:=ad s.dU n false,bj:=s.bj,jm:=ad s.jm n h} else {s with jm:=ad s.jm n h}))else(1,s)
def BS.first(s:BS)(h:Int):Int:=match dS (fun k=>s.dU k&&(!s.bj k&&decide (s.jm k=h))) 9 with
 | some k=>k
 | none=>0
def BS.take(s:BS):Int×BS:=(s.first 2,{s with dU:=ad s.dU (s.first 2) false})
def BS.bB(s:BS):BS:= {s with dU:=fun _=>false}
def dw(i:Nat):Value:=.int .u8 ((([0,1,28,2,29,14,24,3,30,22,20,15,25,17,4,8,31,27,13,23,21,19,16,7,26,12,18,6,11,5,10,9]:List Int)[i]?).getD 0)
def fC(s:BS)(i:Nat):Value:=
 if i=0 then .int .u16 (((pH s.dU):Nat):Int)else
 if i=1 then .int .u16 (((pH s.bj):Nat):Int)else
 if 2<=i/\(i-2)%1=0/\(i-2)/1<9 then iI (s.jm (((i-2)/1:Nat):Int))else
 undef
def n9(s:BS):(0+0)<11/\fC s (0+0)= .int .u16 (((pH s.dU):Nat):Int):=by
 grind [fC]
def oc(s:BS):(0+1)<11/\fC s (0+1)= .int .u16 (((pH s.bj):Nat):Int):=by
 grind [fC]
def ni(s:BS)(z0:Int)(q0:0<=z0/\z0<9:=by omega):((0+2)+z0.toNat*1)<11/\fC s ((0+2)+z0.toNat*1)=iI (s.jm z0):=by
 grind [fC]
def EK(s:BS)(z0:Int)(q0:0<=z0/\z0<9)(v:Int):((0+2)+z0.toNat*1)<11/\dJ (fC s) ((0+2)+z0.toNat*1) (iI (v))=fC ({s with jm:=ad s.jm z0 v}):=by
 grind [dJ,ad,fC]
theorem gJ(n:Int):BS.num n=true↔1<=n/\n<=8:=by simp[BS.num]
theorem EL{s:BS}{k:Int}(h0:0<=k/\k<9)(hw:s.dU k=true)(hh:s.bj k=false)(he:s.jm k=h)(hn:∀ j:Int,0<=j->j<k->¬(s.dU j=true/\s.bj j=false/\s.jm j=h)):s.first h=k:=by
 unfold BS.first
 rw[fq (k:=k) h0.1 og (by simp[hw,hh,he]) (fun j h1 h2=>by
  have:=hn j h1 h2
  simp only[not_and]at this
  cases q1:s.dU j<;>cases q2:s.bj j<;>simp
  exact this q1 q2)]
 show((k.toNat:Nat):Int)=k;omega
theorem EM{s:BS}(hn:∀ j:Int,0<=j->j<9->¬(s.dU j=true/\s.bj j=false/\s.jm j=h)):s.first h=0:=by
 grind [BS.first,ft]
def BS.tU(s:BS)(h:Int)(h0:s.dU 0=false):s.first h=0\/(1<=s.first h/\s.first h<=8):=by
 grind [BS.first,dS]
def afr{t:Nat}(ht:t<16):IntKind.u32.wrap (((2^t:Nat):Int))=((2^t:Nat):Int)/\IntKind.u32.wrap (((2^t:Nat):Int)*125613361)=((2^t*125613361%4294967296:Nat):Int)/\(((2^t*125613361%4294967296:Nat):Int)).fdiv (2^(min (27:Int).toNat IntKind.u32.bits))=((2^t*125613361%4294967296/134217728:Nat):Int)/\(2^t*125613361%4294967296/134217728)<32/\IntKind.i64.wrap (t:Int)=t:=by
 have:t=0\/t=1\/t=2\/t=3\/t=4\/t=5\/t=6\/t=7\/t=8\/t=9\/t=10\/t=11\/t=12\/t=13\/t=14\/t=15:=og;rcases this with rfl | rfl | rfl | rfl | rfl | rfl | rfl | rfl | rfl | rfl | rfl | rfl | rfl | rfl | rfl | rfl<;>decide
def Mg{t:Nat}(ht:t<16):0+(((2^t*125613361%4294967296/134217728:Nat):Int)).toNat*1<32/\dw (0+(((2^t*125613361%4294967296/134217728:Nat):Int)).toNat*1)= .int .u8 (t:Int):=by
 have:t=0\/t=1\/t=2\/t=3\/t=4\/t=5\/t=6\/t=7\/t=8\/t=9\/t=10\/t=11\/t=12\/t=13\/t=14\/t=15:=og;rcases this with rfl | rfl | rfl | rfl | rfl | rfl | rfl | rfl | rfl | rfl | rfl | rfl | rfl | rfl | rfl | rfl<;>exact⟨dq,rfl⟩
def Ya(h:0<x/\x<65536):IntKind.u16.wrap (0-(x:Int))=((2^16-x:Nat):Int):=by
 have:((0-(x:Int))%(2^16:Int))=((2^16-x:Nat):Int):=by
  omega
 simpa [IntKind.wrap,IntKind.signed,IntKind.bits]using this
def Yb(h:0<x/\x<65536):IntKind.u16.wrap ((x:Int)-1)=((x-1:Nat):Int):=by
 rw[show(x:Int)-1=((x-1:Nat):Int)from og];exact IS rfl (Nat.lt_of_le_of_lt (Nat.sub_le _ _) h.2)
def vi(s:BS){w':Int->Bool}(h:x=pH w'):(0+0)<11/\dJ (fC s) (0+0) (.int .u16 (x:Int))=fC {s with dU:=w'} :=by
 grind [dJ,fC]
def zS(s:BS){w':Int->Bool}(h:x=pH w'):(0+1)<11/\dJ (fC s) (0+1) (.int .u16 (x:Int))=fC {s with bj:=w'} :=by
 grind [dJ,fC]
def mP(s:BS):0+11<=11/\de (fC s) 0 11= .agg #[.int .u16 ((pH s.dU:Nat):Int),.int .u16 ((pH s.bj:Nat):Int),iI (s.jm 0),iI (s.jm 1),iI (s.jm 2),iI (s.jm 3),iI (s.jm 4),iI (s.jm 5),iI (s.jm 6),iI (s.jm 7),iI (s.jm 8)]:=⟨og,rfl⟩
def Ub{C:Nat->Value}(hC:∀ i,11<=i->C i=undef)(s:BS):0+11<=11/\cD C 0 [.int .u16 ((pH s.dU:Nat):Int),.int .u16 ((pH s.bj:Nat):Int),iI (s.jm 0),iI (s.jm 1),iI (s.jm 2),iI (s.jm 3),iI (s.jm 4),iI (s.jm 5),iI (s.jm 6),iI (s.jm 7),iI (s.jm 8)]=fC s:=by
 refine⟨og,?_⟩;funext i;match i with
 | 0=>rfl
 | 1=>rfl
 | 2=>rfl
 | 3=>rfl
 | 4=>rfl
 | 5=>rfl
 | 6=>rfl
 | 7=>rfl
 | 8=>rfl
 | 9=>rfl
 | 10=>rfl
 | k+11=>
  have e2:fC s (k+11)=undef:=by
   grind [fC]
  rw[e2];have:=hC (k+11) og;simp[cD,dJ,this]
def Qs:∀ i,i<11->cellsOf (Value.agg #[.int .u16 0,.int .u16 0,iI 0,iI 0,iI 0,iI 0,iI 0,iI 0,iI 0,iI 0,iI 0]).cells i=fC BS.cC i:=fun i hi=>match i,hi with
 | 0,_=>rfl
 | 1,_=>rfl
 | 2,_=>rfl
 | 3,_=>rfl
 | 4,_=>rfl
 | 5,_=>rfl
 | 6,_=>rfl
 | 7,_=>rfl
 | 8,_=>rfl
 | 9,_=>rfl
 | 10,_=>rfl
 | k+11,h=>absurd h og
theorem Mh{s:BS}(h:n<1\/n>8):s.send n=(1,s):=by
 grind [BS.send,gJ]
theorem Jr{s:BS}(h:1<=n/\n<=8)(hd:s.zR n=1):s.send n=(0,s):=by
 grind [BS.send,gJ]
theorem BS.Yc{s:BS}(h:1<=n/\n<=8)(hd:¬s.zR n=1):s.send n=(0,{s with dU:=ad s.dU n true}):=by
 grind [BS.send,gJ]
theorem wS{s:BS}(h:n<1\/n>8):s.dZ n on=(1,s):=by
 grind [BS.dZ,gJ]
theorem tV{s:BS}(h:n=1):s.dZ n on=(8,s):=by
 subst h;rfl
theorem BS.Om{s:BS}(h:1<=n/\n<=8)(h1:¬n=1):s.dZ n on=(0,{s with bj:=ad s.bj n on}):=by
 grind [BS.dZ,gJ]
theorem Qt{s:BS}(q:n<1\/n>8\/h<0\/h>2):s.set n h=(1,s):=by
 grind [BS.set,gJ]
theorem Mi{s:BS}(q:n=1)(q2:0<=h/\h<=2):s.set n h=(8,s):=by
 grind [BS.set,gJ]
theorem BS.Yd{s:BS}(q:1<=n/\n<=8)(q2:0<=h/\h<=2)(q1:¬n=1)(hd:({s with jm:=ad s.jm n h} :BS).zR n=1):s.set n h=(0,{dU:=ad s.dU n false,bj:=s.bj,jm:=ad s.jm n h}):=by
 grind [BS.set,gJ]
theorem BS.aca{s:BS}(q:1<=n/\n<=8)(q2:0<=h/\h<=2)(q1:¬n=1)(hd:¬({s with jm:=ad s.jm n h} :BS).zR n=1):s.set n h=(0,{s with jm:=ad s.jm n h}):=by
 grind [BS.set,gJ]
theorem Mj{f:Int->Bool}(h:f n=false):ad f n false=f:=cJ f h
theorem Ha{s:BS}(h:s.first 2=0)(h0:s.dU 0=false):s.take=(0,s):=by
 simp_all[BS.take,Mj]
theorem Uc(f:Int->Bool):pH f<512:=by
 have:pH f<2^9:=by
  apply Nat.lt_pow_two_of_testBit;grind [lX]
 omega
def Js{s:BS} :∀ i,11<=i->fC s i=undef:=by
 grind [fC]
end Go.X.Sg

namespace Go.X.Sp
open Go Go.X
variable{a k n p q z:Int}{w:Int->Int->Int}{aQ:Int->Nat}
structure SS where
 aa:Int->Bool
 aD:Int->Int
 dv:Int->Int->Int
 loc:Int->Int
structure FrS where
 p:Int
 f:Int->Int
def EN(k:Int):Int->Int:=fun q=>if 0<=q/\q<k then-1 else 0
theorem Jt(k:Int)(h:0<=k:=by omega):ad (EN k) k (-1)=EN (k+1):=by
 grind [ad,EN]
def Qu(p:Int):Array Value:= #[.bool true,iI p,iI (-1),iI (-1),iI (-1),iI (-1),iI (-1),iI (-1),iI (-1),iI (-1),iI (-1),iI (-1),iI (-1),iI (-1),iI (-1),iI (-1),iI (-1),iI (-1),iI (-1),iI (-1),iI (-1),iI (-1),iI (-1)]
def SS.is(s:SS)(n:Int):Int:=if n<0\/6<=n then 1 else if s.aa n then 0 else 2
def SS.jo(s:SS):Nat->Int->List Int
 | 0,_=>[]
 | k+1,n=>n::s.jo k (s.aD n)
structure SS.Deep (s:SS) (aQ:Int->Nat):Prop where
 d:∀ n,0<=n->n<6->s.aa n=true->1<=aQ n/\aQ n<=4/\((s.aD n= -1/\aQ n=1)\/(0<=s.aD n/\s.aD n<6/\s.aa (s.aD n)=true/\aQ n=aQ (s.aD n)+1))
def SS.dm(s:SS)(aQ:Int->Nat)(n:Int):List Int:=s.jo (aQ n) n
theorem SS.pP(s:SS):∀ (k:Nat) (n:Int),(s.jo k n).length=k
 | 0,_=>rfl
 | k+1,n=>by simp only[SS.jo,List.length_cons,s.pP k]
def eo(f:Int->Int):Nat->List Int
 | 0=>[]
 | k+1=>eo f k++(if f k>=0 then [f k]else [])
def SS.fU(s:SS)(n:Int):List Int:=eo (s.dv n) 21
def nO(f:Int->Int):∀ k,(eo f k).length<=k
 | 0=>by simp[eo]
 | k+1=>by
  have:=nO f k;grind [eo]
def gB(f:Int->Bool):Nat->List Int
 | 0=>[]
 | k+1=>gB f k++(if f k then [(k:Int)]else [])
def j9(f:Int->Bool):∀ k,(gB f k).length<=k
 | 0=>by simp[gB]
 | k+1=>by
  have:=j9 f k;grind [gB]
def SS.bU(s:SS)(p:Int):Int×Int:=if p<0\/20<=p then(0,1)else if s.loc p<0 then(0,2)else(s.loc p,0)
def SS.add(s:SS)(aQ:Int->Nat)(p:Int):Int×Int×SS:=
 if s.is p≠0 then(0,s.is p,s)else if aQ p=4 then(0,7,s)else
 match dS (fun k=> !s.aa k) 6 with
 | some k=>(k,0,{s with aa:=ad s.aa k true,aD:=ad s.aD k p})
 | none=>(0,4,s)
def SS.kids(s:SS)(n:Int):Option Nat:=dS (fun k=>s.aa k&&(s.aD k==n)) 6
def SS.drop(s:SS)(n:Int):Int×SS:=
 if s.is n≠0 then(s.is n,s)else if n=0\/(s.fU n).length>0 then(5,s)else
 match s.kids n with
 | some _=>(5,s)
 | none=>(0,{s with aa:=ad s.aa n false,aD:=ad s.aD n 0})
def SS.zero:SS:=⟨fun _=>false,fun _=>0,fun _ _=> -1,fun _=>0⟩
def SS.tW:SS:= {SS.zero with aa:=ad SS.zero.aa 0 true,aD:=ad SS.zero.aD 0 (-1)}
def SS.cC:SS:= {SS.tW with loc:=EN 20}
def Hb(w:Int->Int->Int)(a p:Int):Int->Int->Int:=match dS (fun q=>decide (w a (q+1)<0)) 20 with
 | some q=>cI w a ((q:Int)+1) p
 | none=>w
def kN(w:Int->Int->Int)(p:Int):List Int->(Int->Int->Int)
 | []=>w
 | a::r=>kN (Hb w a p) p r
def SS.mem(s:SS)(n:Int):List Int×Int:=if s.is n≠0 then([],s.is n)else(s.fU n,0)
def SS.jq(s:SS)(p n:Int):Int×Int:=if s.is n≠0 then(0,s.is n)else if p<0\/20<=p then(0,1)else
 match dS (fun q=>s.dv n q==p) 21 with
 | some q=>(q,0)
 | none=>(0,2)
def SS.fj(s:SS)(aQ:Int->Nat)(n p:Int):SS:= {s with loc:=ad s.loc p n,dv:=kN s.dv p (s.dm aQ n)}
def SS.enter(s:SS)(aQ:Int->Nat)(n p:Int):Int×Int×SS:=
 if s.is n≠0 then(0,s.is n,s)else if p<0\/20<=p then(0,1,s)else if 0<=s.loc p then(0,3,s)else
 (((s.fj aQ n p).jq p n).1,((s.fj aQ n p).jq p n).2,s.fj aQ n p)
def SS.left(s:SS)(p:Int):SS:= {s with dv:=fun n q=>if s.dv n q=p then-1 else s.dv n q,loc:=ad s.loc p (-1)}
def SS.gw(s:SS)(p:Int):Int×SS:=if(s.bU p).2≠0 then((s.bU p).2,s)else(0,s.left p)
def SS.find(s:SS)(n q:Int):Int×Int:=if s.is n≠0 then(0,s.is n)else if q<1\/20<q then(0,2)else if s.dv n q<0 then(0,2)else(s.dv n q,0)
def aL(s:SS)(i:Nat):Value:=
 if i%23=0/\i/23<6 then .bool (s.aa ((i/23:Nat):Int))else
 if 1<=i/\(i-1)%23=0/\(i-1)/23<6 then iI (s.aD (((i-1)/23:Nat):Int))else
 if 2<=i/\(i-2)/23<6/\((i-2)%23)%1=0/\((i-2)%23)/1<21 then iI (if s.aa (((i-2)/23:Nat):Int)then s.dv (((i-2)/23:Nat):Int) ((((i-2)%23)/1:Nat):Int)else 0)else
 if 138<=i/\(i-138)%1=0/\(i-138)/1<20 then iI (s.loc (((i-138)/1:Nat):Int))else
 undef
def kz(s:SS)(z0:Int)(q0:0<=z0/\z0<6:=by omega):(((0+0)+z0.toNat*23)+0)<158/\aL s (((0+0)+z0.toNat*23)+0)= .bool (s.aa z0):=by
 grind [aL]
def ly(s:SS)(z0:Int)(q0:0<=z0/\z0<6:=by omega):(((0+0)+z0.toNat*23)+1)<158/\aL s (((0+0)+z0.toNat*23)+1)=iI (s.aD z0):=by
 grind [aL]
def xW(s:SS)(z0:Int)(z1:Int)(q0:0<=z0/\z0<6)(q1:0<=z1/\z1<21):((((0+0)+z0.toNat*23)+2)+z1.toNat*1)<158/\aL s ((((0+0)+z0.toNat*23)+2)+z1.toNat*1)=iI (if s.aa z0 then s.dv z0 z1 else 0):=by
 grind [aL]
def lz(s:SS)(z0:Int)(z1:Int)(q0:0<=z0/\z0<6)(q1:0<=z1/\z1<21)(hc:s.aa z0=true):((((0+0)+z0.toNat*23)+2)+z1.toNat*1)<158/\aL s ((((0+0)+z0.toNat*23)+2)+z1.toNat*1)=iI (s.dv z0 z1):=by
 grind [aL]
def pQ(s:SS)(z0:Int)(z1:Int)(q0:0<=z0/\z0<6)(q1:0<=z1/\z1<21)(hc:s.aa z0=true)(v:Int):((((0+0)+z0.toNat*23)+2)+z1.toNat*1)<158/\dJ (aL s) ((((0+0)+z0.toNat*23)+2)+z1.toNat*1) (iI (v))=aL ({s with dv:=cI s.dv z0 z1 v}):=by
 refine⟨og,?_⟩;funext j;unfold dJ;grind [cI,aL]
def rV(s:SS)(z0:Int)(q0:0<=z0/\z0<20:=by omega):((0+138)+z0.toNat*1)<158/\aL s ((0+138)+z0.toNat*1)=iI (s.loc z0):=by
 grind [aL]
def rW(s:SS)(z0:Int)(q0:0<=z0/\z0<20)(v:Int):((0+138)+z0.toNat*1)<158/\dJ (aL s) ((0+138)+z0.toNat*1) (iI (v))=aL ({s with loc:=ad s.loc z0 v}):=by
 grind [dJ,ad,aL]
def wc(s:FrS)(i:Nat):Value:=
 if i=0 then .bool (true)else
 if i=1 then iI (s.p)else
 if 2<=i/\(i-2)%1=0/\(i-2)/1<21 then iI (s.f (((i-2)/1:Nat):Int))else
 undef
def CR(s:FrS)(z0:Int)(q0:0<=z0/\z0<21)(v:Int):((0+2)+z0.toNat*1)<23/\dJ (wc s) ((0+2)+z0.toNat*1) (iI (v))=wc ({s with f:=ad s.f z0 v}):=by
 grind [dJ,ad,wc]
def rX:Array Value:= #[.bool false,iI 0,iI 0,iI 0,iI 0,iI 0,iI 0,iI 0,iI 0,iI 0,iI 0,iI 0,iI 0,iI 0,iI 0,iI 0,iI 0,iI 0,iI 0,iI 0,iI 0,iI 0,iI 0]
theorem SS.jB(s:SS)(n:Int):(s.is n=0/\0<=n/\n<6/\s.aa n=true)\/(s.is n=1/\(n<0\/6<=n))\/(s.is n=2/\0<=n/\n<6/\s.aa n=false):=by
 grind [SS.is]
def Ud(p:Int):0+23<=23/\de (wc ⟨p,EN 21⟩) 0 23= .agg (Qu p):=⟨og,rfl⟩
theorem Ue(s:FrS):∀ i,23<=i->wc s i=undef:=by
 grind [wc]
theorem On(C:Nat->Value):∀ (vs:List Value) (o i:Nat),i<o->cD C o vs i=C i:=by
 intro vs;induction vs generalizing C with
 | nil=>intro o i _;rfl
 | cons v r ih=>
  intro o i h;rw[cD,ih _ _ _ og];simp[dJ];omega
theorem Hc(C:Nat->Value):∀ (vs:List Value) (o i:Nat),o+vs.length<=i->cD C o vs i=C i:=by
 intro vs;induction vs generalizing C with
 | nil=>intro o i _;rfl
 | cons v r ih=>
  intro o i h;simp only[List.length_cons]at h;rw[cD,ih _ _ _ og];simp[dJ];omega
def Oo(C:Nat->Value):∀ (vs:List Value) (o j:Nat) (v:Value),vs[j]? =some v->cD C o vs (o+j)=v:=by
 intro vs;induction vs generalizing C with
 | nil=>intro o j v h;simp at h
 | cons u r ih=>
  intro o j v h;cases j with
  | zero=>
   simp at h;rw[cD,On _ _ _ _ og];simp[dJ,h]
  | succ j=>
   simp at h;rw[cD,show o+(j+1)=o+1+j from og];exact ih _ _ _ _ h
def acb(C:Nat->Value)(hC:∀ i,23<=i->C i=undef)(p:Int):0+23<=23/\cD C 0 (Qu p).toList=wc ⟨p,EN 21⟩:=by
 refine⟨og,?_⟩;funext i;by_cases h:i<23
 ·have e:(Qu p).toList[i]? =some (wc ⟨p,EN 21⟩ i):=by
   have:i=0\/i=1\/i=2\/i=3\/i=4\/i=5\/i=6\/i=7\/i=8\/i=9\/i=10\/i=11\/i=12\/i=13\/i=14\/i=15\/i=16\/i=17\/i=18\/i=19\/i=20\/i=21\/i=22:=og;rcases this with rfl | rfl | rfl | rfl | rfl | rfl | rfl | rfl | rfl | rfl | rfl | rfl | rfl | rfl | rfl | rfl | rfl | rfl | rfl | rfl | rfl | rfl | rfl<;>rfl
  have:=Oo C (Qu p).toList 0 i _ e;simp_all
 ·rw[Hc _ _ _ _ (by show 0+23<=i;omega),hC i og,Ue _ i og]
def Uf(p:Int)(C:Nat->Value)(hC:∀ i,23<=i->C i=undef):0+23<=23/\cD C 0 [.bool true,iI p,iI 0,iI 0,iI 0,iI 0,iI 0,iI 0,iI 0,iI 0,iI 0,iI 0,iI 0,iI 0,iI 0,iI 0,iI 0,iI 0,iI 0,iI 0,iI 0,iI 0,iI 0]=wc ⟨p,EN 0⟩:=by
 refine⟨og,?_⟩;funext i;by_cases h:i<23
 ·have:i=0\/i=1\/i=2\/i=3\/i=4\/i=5\/i=6\/i=7\/i=8\/i=9\/i=10\/i=11\/i=12\/i=13\/i=14\/i=15\/i=16\/i=17\/i=18\/i=19\/i=20\/i=21\/i=22:=og;rcases this with rfl | rfl | rfl | rfl | rfl | rfl | rfl | rfl | rfl | rfl | rfl | rfl | rfl | rfl | rfl | rfl | rfl | rfl | rfl | rfl | rfl | rfl | rfl<;>rfl
 ·rw[Hc _ _ _ _ (by show 0+23<=i;omega),hC i og,Ue _ i og]
def Ju:∀ i,23<=i->cellsOf rX i=undef:=by
 simp_all[rX,cellsOf]
def CS(s:SS)(n:Int)(q:0<=n/\n<6)(hc:s.aa n=true):(((0+0)+n.toNat*23)+2)+21<=158/\de (aL s) (((0+0)+n.toNat*23)+2) 21= .agg (GR (s.dv n) 21):=by
 refine⟨og,?_⟩;unfold de GR;congr 2;apply List.map_congr_left;grind [aL]
def EO(f:Int->Int)(k:Nat):(f k>=0->eo f (k+1)=eo f k++[f k])/\(¬f k>=0->eo f (k+1)=eo f k):=by
 grind [eo]
def EP(f:Int->Int)(h:0<=k):(f k>=0->eo f (k+1).toNat=eo f k.toNat++[f k])/\(¬f k>=0->eo f (k+1).toNat=eo f k.toNat):=by
 have:=EO f k.toNat;grind
theorem SS.Jv{s:SS}(hi:s.is n=0)(hp:¬(p<0\/20<=p))(hq:0<=q/\q<21)(h:s.dv n q=p)(hn:∀ j:Int,0<=j->j<q->s.dv n j≠p):s.jq p n=(q,0):=by
 unfold SS.jq;rw[if_neg (by simp[hi]),if_neg hp,fq (k:=q) hq.1 og (by simpa using h) fun j h1 h2=>by simpa using hn j h1 h2];grind
theorem A2{s:SS}(hi:s.is n=0)(hp:¬(p<0\/20<=p))(hn:∀ j:Int,0<=j->j<21->s.dv n j≠p):s.jq p n=(0,2):=by
 grind [SS.jq,ft]
theorem CT{s:SS}(h:s.is n≠0):s.jq p n=(0,s.is n):=by grind [SS.jq]
theorem rY{s:SS}(h:s.is n=0)(hp:p<0\/20<=p):s.jq p n=(0,1):=by grind [SS.jq]
theorem Jw{s:SS}(h:s.is n≠0):s.find n q=(0,s.is n):=by grind [SS.find]
theorem rZ{s:SS}(h:s.is n=0)(hq:q<1\/20<q\/s.dv n q<0):s.find n q=(0,2):=by
 grind [SS.find]
theorem SS.Hd{s:SS}(h:s.is n=0)(hq:¬(q<1\/20<q))(hw:¬s.dv n q<0):s.find n q=(s.dv n q,0):=by
 grind [SS.find]
theorem Jy{s:SS}(h:p<0\/20<=p):s.bU p=(0,1):=by unfold SS.bU;rw[if_pos h]
theorem SS.Ye{s:SS}(hD:s.Deep aQ)(h:0<=n/\n<6/\s.aa n=true)(hp:s.aD n= -1):s.jo (aQ n) n=[n]:=by
 obtain⟨h1,_,h3⟩:=hD.d n h.1 h.2.1 h.2.2;grind [jo]
theorem SS.Jz{s:SS}(hD:s.Deep aQ)(h:0<=n/\n<6/\s.aa n=true)(hp:¬s.aD n= -1):s.jo (aQ n) n=n::s.jo (aQ (s.aD n)) (s.aD n)/\0<=s.aD n/\s.aD n<6/\s.aa (s.aD n)=true/\aQ (s.aD n)<aQ n:=by
 obtain⟨h1,_,h3⟩:=hD.d n h.1 h.2.1 h.2.2;grind [jo]
def SS.BZ(s:SS)(aQ:Int->Nat)(n:Int):(s.dm aQ n).length=aQ n:=s.pP _ _
theorem SS.He{s:SS}(h:s.is p≠0):s.add aQ p=(0,s.is p,s):=by grind [SS.add]
theorem SS.CU{s:SS}(h:s.is p=0)(h2:aQ p=4):s.add aQ p=(0,7,s):=by grind [SS.add]
theorem SS.CV{s:SS}(h:s.is p=0)(h2:¬aQ p=4)(hk:0<=k/\k<6)(hh:s.aa k=false)(hn:∀ j:Int,0<=j->j<k->s.aa j=true):s.add aQ p=(k,0,{s with aa:=ad s.aa k true,aD:=ad s.aD k p}):=by
 unfold SS.add;rw[if_neg (by simp[h]),if_neg h2,fq (k:=k) hk.1 og (by simp[hh]) fun j h1 h2=>by simp[hn j h1 h2]];grind
theorem JA{s:SS}(h:s.is p=0)(h2:¬aQ p=4)(hn:∀ j:Int,0<=j->j<6->s.aa j=true):s.add aQ p=(0,4,s):=by
 grind [SS.add,ft]
theorem JB{s:SS}(h:s.is n≠0):s.drop n=(s.is n,s):=by grind [SS.drop]
theorem xX{s:SS}(h:s.is n=0)(h2:n=0\/(s.fU n).length>0):s.drop n=(5,s):=by grind [SS.drop]
theorem JC{s:SS}(h:s.is n=0)(h2:¬(n=0\/(s.fU n).length>0))(hk:0<=k/\k<6)(hh:s.aa k=true)(hp:s.aD k=n)(hn:∀ j:Int,0<=j->j<k->¬(s.aa j=true/\s.aD j=n)):s.drop n=(5,s):=by
 unfold SS.drop SS.kids;rw[if_neg (by simp[h]),if_neg h2,fq (k:=k) hk.1 og (by simp[hh,hp]) (fun j h1 h2=>by have:=hn j h1 h2;simp only[not_and]at this;cases q:s.aa j<;>simp;exact this q)]
theorem SS.Yf{s:SS}(h:s.is n=0)(h2:¬(n=0\/(s.fU n).length>0))(hn:∀ j:Int,0<=j->j<6->¬(s.aa j=true/\s.aD j=n)):s.drop n=(0,{s with aa:=ad s.aa n false,aD:=ad s.aD n 0}):=by
 grind [SS.drop,SS.kids,ft]
def zT(f:Int->Bool)(h:0<=k):(f k=true->gB f (k+1).toNat=gB f k.toNat++[k])/\(f k=false->gB f (k+1).toNat=gB f k.toNat):=by
 have e:((k.toNat:Nat):Int)=k:=og;rw[show(k+1).toNat=k.toNat+1 from og];grind [gB]
def JD(s s':SS)(k:Int)(q:0<=k/\k<6)(vs:List Value)(hl:vs.length=23)(h0:vs[0]? =some (.bool (s'.aa k)))(h1:vs[1]? =some (iI (s'.aD k)))(h2:∀ j:Nat,j<21->vs[j+2]? =some (iI (if s'.aa k then s'.dv k j else 0)))(hh:∀ n,¬n=k->s'.aa n=s.aa n)(hp:∀ n,¬n=k->s'.aD n=s.aD n)(hw:s'.dv=s.dv)(ho:s'.loc=s.loc):0+0+k.toNat*23+23<=158/\cD (aL s) (0+0+k.toNat*23) vs=aL s':=by
 refine⟨og,?_⟩;funext i;by_cases ha:i<0+0+k.toNat*23
 ·rw[On _ _ _ _ ha];grind [aL]
 ·by_cases hb:i<0+0+k.toNat*23+23
  ·obtain⟨j,rfl⟩:∃ j,i=0+0+k.toNat*23+j:=⟨i-(0+0+k.toNat*23),og⟩;have hj:j<23:=og;apply Oo _ _ _ _ _;by_cases j0:j=0
   ·grind [aL]
   ·by_cases j1:j=1
    ·subst j1;rw[h1];exact congrArg some (ly s' k q).2.symm
    ·have h3:=(xW s' k ((j-2:Nat):Int) q og).2;have h4:=h2 (j-2) og;rw[show j-2+2=j from og]at h4;rw[h4,<-h3];congr 2;omega
  grind [Hc,aL]
def CW(s:SS)(k p:Int)(q:0<=k/\k<6)(hw:∀ j,s.dv k j= -1):0+0+k.toNat*23+23<=158/\cD (aL s) (0+0+k.toNat*23) (Qu p).toList=aL {s with aa:=ad s.aa k true,aD:=ad s.aD k p} :=by
 refine JD s _ k q _ rfl (by simp[ad];rfl) (by simp[ad];rfl) (fun j hj=> ?_) (fun n hn=>by simp[ad,hn]) (fun n hn=>by simp[ad,hn]) rfl rfl;simp only[ad,if_true,hw];have:j=0\/j=1\/j=2\/j=3\/j=4\/j=5\/j=6\/j=7\/j=8\/j=9\/j=10\/j=11\/j=12\/j=13\/j=14\/j=15\/j=16\/j=17\/j=18\/j=19\/j=20:=og;rcases this with rfl | rfl | rfl | rfl | rfl | rfl | rfl | rfl | rfl | rfl | rfl | rfl | rfl | rfl | rfl | rfl | rfl | rfl | rfl | rfl | rfl<;>rfl
def Mk(s:SS)(k:Int)(q:0<=k/\k<6):0+0+k.toNat*23+23<=158/\cD (aL s) (0+0+k.toNat*23) rX.toList=aL {s with aa:=ad s.aa k false,aD:=ad s.aD k 0} :=by
 refine JD s _ k q _ rfl (by simp[ad];rfl) (by simp[ad];rfl) (fun j hj=> ?_) (fun n hn=>by simp[ad,hn]) (fun n hn=>by simp[ad,hn]) rfl rfl;simp only[ad,if_true];have:j=0\/j=1\/j=2\/j=3\/j=4\/j=5\/j=6\/j=7\/j=8\/j=9\/j=10\/j=11\/j=12\/j=13\/j=14\/j=15\/j=16\/j=17\/j=18\/j=19\/j=20:=og;rcases this with rfl | rfl | rfl | rfl | rfl | rfl | rfl | rfl | rfl | rfl | rfl | rfl | rfl | rfl | rfl | rfl | rfl | rfl | rfl | rfl | rfl<;>rfl
def aaG:Array Value:= #[.bool false,iI 0,iI 0,iI 0,iI 0,iI 0,iI 0,iI 0,iI 0,iI 0,iI 0,iI 0,iI 0,iI 0,iI 0,iI 0,iI 0,iI 0,iI 0,iI 0,iI 0,iI 0,iI 0,.bool false,iI 0,iI 0,iI 0,iI 0,iI 0,iI 0,iI 0,iI 0,iI 0,iI 0,iI 0,iI 0,iI 0,iI 0,iI 0,iI 0,iI 0,iI 0,iI 0,iI 0,iI 0,iI 0,.bool false,iI 0,iI 0,iI 0,iI 0,iI 0,iI 0,iI 0,iI 0,iI 0,iI 0,iI 0,iI 0,iI 0,iI 0,iI 0,iI 0,iI 0,iI 0,iI 0,iI 0,iI 0,iI 0,.bool false,iI 0,iI 0,iI 0,iI 0,iI 0,iI 0,iI 0,iI 0,iI 0,iI 0,iI 0,iI 0,iI 0,iI 0,iI 0,iI 0,iI 0,iI 0,iI 0,iI 0,iI 0,iI 0,.bool false,iI 0,iI 0,iI 0,iI 0,iI 0,iI 0,iI 0,iI 0,iI 0,iI 0,iI 0,iI 0,iI 0,iI 0,iI 0,iI 0,iI 0,iI 0,iI 0,iI 0,iI 0,iI 0,.bool false,iI 0,iI 0,iI 0,iI 0,iI 0,iI 0,iI 0,iI 0,iI 0,iI 0,iI 0,iI 0,iI 0,iI 0,iI 0,iI 0,iI 0,iI 0,iI 0,iI 0,iI 0,iI 0,iI 0,iI 0,iI 0,iI 0,iI 0,iI 0,iI 0,iI 0,iI 0,iI 0,iI 0,iI 0,iI 0,iI 0,iI 0,iI 0,iI 0,iI 0,iI 0,iI 0]
set_option maxRecDepth 20000 in def Qv:∀ i,i<158->cellsOf aaG i=aL SS.zero i:=fun i hi=>match i,hi with
 | 0,_=>rfl
 | 1,_=>rfl
 | 2,_=>rfl
 | 3,_=>rfl
 | 4,_=>rfl
 | 5,_=>rfl
 | 6,_=>rfl
 | 7,_=>rfl
 | 8,_=>rfl
 | 9,_=>rfl
 | 10,_=>rfl
 | 11,_=>rfl
 | 12,_=>rfl
 | 13,_=>rfl
 | 14,_=>rfl
 | 15,_=>rfl
 | 16,_=>rfl
 | 17,_=>rfl
 | 18,_=>rfl
 | 19,_=>rfl
 | 20,_=>rfl
 | 21,_=>rfl
 | 22,_=>rfl
 | 23,_=>rfl
 | 24,_=>rfl
 | 25,_=>rfl
 | 26,_=>rfl
 | 27,_=>rfl
 | 28,_=>rfl
 | 29,_=>rfl
 | 30,_=>rfl
 | 31,_=>rfl
 | 32,_=>rfl
 | 33,_=>rfl
 | 34,_=>rfl
 | 35,_=>rfl
 | 36,_=>rfl
 | 37,_=>rfl
 | 38,_=>rfl
 | 39,_=>rfl
 | 40,_=>rfl
 | 41,_=>rfl
 | 42,_=>rfl
 | 43,_=>rfl
 | 44,_=>rfl
 | 45,_=>rfl
 | 46,_=>rfl
 | 47,_=>rfl
 | 48,_=>rfl
 | 49,_=>rfl
 | 50,_=>rfl
 | 51,_=>rfl
 | 52,_=>rfl
 | 53,_=>rfl
 | 54,_=>rfl
 | 55,_=>rfl
 | 56,_=>rfl
 | 57,_=>rfl
 | 58,_=>rfl
 | 59,_=>rfl
 | 60,_=>rfl
 | 61,_=>rfl
 | 62,_=>rfl
 | 63,_=>rfl
 | 64,_=>rfl
 | 65,_=>rfl
 | 66,_=>rfl
 | 67,_=>rfl
 | 68,_=>rfl
 | 69,_=>rfl
 | 70,_=>rfl
 | 71,_=>rfl
 | 72,_=>rfl
 | 73,_=>rfl
 | 74,_=>rfl
 | 75,_=>rfl
 | 76,_=>rfl
 | 77,_=>rfl
 | 78,_=>rfl
 | 79,_=>rfl
 | 80,_=>rfl
 | 81,_=>rfl
 | 82,_=>rfl
 | 83,_=>rfl
 | 84,_=>rfl
 | 85,_=>rfl
 | 86,_=>rfl
 | 87,_=>rfl
 | 88,_=>rfl
 | 89,_=>rfl
 | 90,_=>rfl
 | 91,_=>rfl
 | 92,_=>rfl
 | 93,_=>rfl
 | 94,_=>rfl
 | 95,_=>rfl
 | 96,_=>rfl
 | 97,_=>rfl
 | 98,_=>rfl
 | 99,_=>rfl
 | 100,_=>rfl
 | 101,_=>rfl
 | 102,_=>rfl
 | 103,_=>rfl
 | 104,_=>rfl
 | 105,_=>rfl
 | 106,_=>rfl
 | 107,_=>rfl
 | 108,_=>rfl
 | 109,_=>rfl
 | 110,_=>rfl
 | 111,_=>rfl
 | 112,_=>rfl
 | 113,_=>rfl
 | 114,_=>rfl
 | 115,_=>rfl
 | 116,_=>rfl
 | 117,_=>rfl
 | 118,_=>rfl
 | 119,_=>rfl
 | 120,_=>rfl
 | 121,_=>rfl
 | 122,_=>rfl
 | 123,_=>rfl
 | 124,_=>rfl
 | 125,_=>rfl
 | 126,_=>rfl
 | 127,_=>rfl
 | 128,_=>rfl
 | 129,_=>rfl
 | 130,_=>rfl
 | 131,_=>rfl
 | 132,_=>rfl
 | 133,_=>rfl
 | 134,_=>rfl
 | 135,_=>rfl
 | 136,_=>rfl
 | 137,_=>rfl
 | 138,_=>rfl
 | 139,_=>rfl
 | 140,_=>rfl
 | 141,_=>rfl
 | 142,_=>rfl
 | 143,_=>rfl
 | 144,_=>rfl
 | 145,_=>rfl
 | 146,_=>rfl
 | 147,_=>rfl
 | 148,_=>rfl
 | 149,_=>rfl
 | 150,_=>rfl
 | 151,_=>rfl
 | 152,_=>rfl
 | 153,_=>rfl
 | 154,_=>rfl
 | 155,_=>rfl
 | 156,_=>rfl
 | 157,_=>rfl
 | k+158,h=>absurd h og
theorem Ug:EN 0=fun _=>0:=by
 funext q;simp only[EN];rw[if_neg og]
theorem SS.o5{s s':SS}(h:s'.aD=s.aD):∀ (k:Nat) (n:Int),s'.jo k n=s.jo k n
 | 0,_=>rfl
 | k+1,n=>by simp only[SS.jo,h,SS.o5 h k]
def SS.Hf{s:SS}{aQ:Int->Nat}(hD:s.Deep aQ):∀ (k:Nat) (n:Int),aQ n=k->0<=n->n<6->s.aa n=true->∀ a∈s.jo k n,0<=a/\a<6/\s.aa a=true
 | 0,n,hk,h0,h6,hh,a,ha=>by have:=(hD.d n h0 h6 hh).1;omega
 | k+1,n,hk,h0,h6,hh,a,ha=>by
  obtain⟨_,_,h3⟩:=hD.d n h0 h6 hh;simp only[SS.jo,List.mem_cons]at ha;rcases ha with rfl | ha
  ·simp_all
  ·rcases h3 with⟨_,h4⟩ | ⟨h4,h5,h6',h7⟩
   ·simp_all[jo]
   ·exact SS.Hf hD k _ og h4 h5 h6' a ha
def r6{zs:List Int}(h:0<=z/\z<zs.length):jc zs z∈zs:=by
 grind [jc]
def FJ{s:SS}(hD:s.Deep aQ)(h:0<=n/\n<6/\s.aa n=true)(hz:0<=z/\z<(s.dm aQ n).length):0<=jc (s.dm aQ n) z/\jc (s.dm aQ n) z<6/\s.aa (jc (s.dm aQ n) z)=true:=
 SS.Hf hD _ n rfl h.1 h.2.1 h.2.2 _ (r6 hz)
theorem JE{zs:List Int}(h:0<=z/\z<zs.length):zs.drop z.toNat=jc zs z::zs.drop (z+1).toNat:=by
 grind [List.drop_eq_getElem_cons,jc]
theorem Qw(hk:1<=k/\k<=20)(h:w a k<0)(hn:∀ j:Int,1<=j->j<k->¬w a j<0):Hb w a p=cI w a k p:=by
 unfold Hb;rw[fq (k:=k-1) og og (by rw[show k-1+1=k from og];simpa using h) fun j h1 h2=>by simpa using hn (j+1) og og];grind
theorem Qx(hn:∀ j:Int,1<=j->j<21->¬w a j<0):Hb w a p=w:=by
 grind [Hb,ft]
theorem xY{s:SS}(h:s.is n≠0):s.enter aQ n p=(0,s.is n,s):=by grind [SS.enter]
theorem o6{s:SS}(h:s.is n=0)(h2:p<0\/20<=p):s.enter aQ n p=(0,1,s):=by grind [SS.enter]
theorem tX{s:SS}(h:s.is n=0)(h2:¬(p<0\/20<=p))(h3:0<=s.loc p):s.enter aQ n p=(0,3,s):=by grind [SS.enter]
theorem SS.xZ{s:SS}(h:s.is n=0)(h2:¬(p<0\/20<=p))(h3:¬ 0<=s.loc p):s.enter aQ n p=(((s.fj aQ n p).jq p n).1,((s.fj aQ n p).jq p n).2,s.fj aQ n p):=by grind [SS.enter]
def BF(w:Int->Int->Int)(a p k:Int):Int->Int->Int:=fun m q=>if m=a/\0<=q/\q<k/\w m q=p then-1 else w m q
theorem Qy(w:Int->Int->Int)(a p:Int):BF w a p 0=w:=by
 grind [BF]
theorem JF(hk:0<=k)(h:w a k=p):cI (BF w a p k) a k (-1)=BF w a p (k+1):=by
 grind [cI,BF]
theorem FK(h:¬w a k=p):BF w a p k=BF w a p (k+1):=by
 grind [BF]
def Ml(w:Int->Int->Int)(l:List Int)(p:Int):Int->Int->Int:=fun m q=>if m∈l/\0<=q/\q<21/\w m q=p then-1 else w m q
theorem Uh(w:Int->Int->Int)(p:Int):Ml w [] p=w:=by
 rfl
theorem Qz{l:List Int}(hp:0<=p)(hz:0<=z/\z<l.length):BF (Ml w (l.take z.toNat) p) (jc l z) p 21=Ml w (l.take (z+1).toNat) p:=by
 have h2:z.toNat<l.length:=og;have ht:l.take (z+1).toNat=l.take z.toNat++[jc l z]:=by
  rw[show(z+1).toNat=z.toNat+1 from og,List.take_add_one];grind [jc]
 grind [BF,Ml]
theorem Ui{s:SS}{l:List Int}(hW:∀ n q,s.dv n q=p->n∈l/\0<=q/\q<21):Ml s.dv l p=fun n q=>if s.dv n q=p then-1 else s.dv n q:=by
 grind [Ml]
structure SS.Inv (s:SS) (aQ:Int->Nat):Prop where
 D:s.Deep aQ
 A:∀ k,s.aa k=false->∀ j,s.dv k j= -1
 z:∀ n,s.dv n 0= -1
 lo:∀ n q,-1<=s.dv n q
 loc:∀ p,-1<=s.loc p/\s.loc p<6
 at_:∀ p,0<=p->p<20->0<=s.loc p->s.aa (s.loc p)=true
 mem:∀ n q p,0<=p->s.dv n q=p->p<20/\0<q/\q<21/\0<=s.loc p/\n∈s.dm aQ (s.loc p)
 inj:∀ n q q',0<=s.dv n q->s.dv n q'=s.dv n q->q'=q
 has:∀ p,0<=p->p<20->0<=s.loc p->∀ n∈s.dm aQ (s.loc p),∃ q,s.dv n q=p
theorem SS.Inv.cC:SS.cC.Inv (fun _=>1) where
 D:=⟨fun n h0 h6 hh=>by
  have hn:n=0:=by
   by_cases q:n=0
   ·exact q
   ·simp[SS.cC,SS.tW,SS.zero,ad,q]at hh
  subst hn
  exact⟨og,og,.inl ⟨by simp[SS.cC,SS.tW,ad],rfl⟩⟩⟩
 A:=fun _ _ _=>rfl
 z:=fun _=>rfl
 lo:=fun _ _=>by show(-1:Int)<= -1;omega
 loc:=fun p=>by
  show-1<=EN 20 p/\EN 20 p<6
  unfold EN;split<;>omega
 at_:=fun p h0 h1 h2=>by
  have:SS.cC.loc p= -1:=by show EN 20 p= -1;unfold EN;rw[if_pos ⟨h0,h1⟩]
  omega
 mem:=fun n q p h0 h1=>by
  have:SS.cC.dv n q= -1:=rfl
  omega
 inj:=fun n q q' h0 _=>by
  have:SS.cC.dv n q= -1:=rfl
  omega
 has:=fun p h0 h1 h2=>by
  have:SS.cC.loc p= -1:=by show EN 20 p= -1;unfold EN;rw[if_pos ⟨h0,h1⟩]
  omega
def SS.Oq{s:SS}{aQ:Int->Nat}(hD:s.Deep aQ):∀ (k:Nat) (n:Int),aQ n=k->0<=n->n<6->s.aa n=true->∀ a∈s.jo k n,aQ a<=k
 | 0,n,hk,h0,h6,hh,a,ha=>by have:=(hD.d n h0 h6 hh).1;omega
 | k+1,n,hk,h0,h6,hh,a,ha=>by
  obtain⟨_,_,h3⟩:=hD.d n h0 h6 hh;simp only[SS.jo,List.mem_cons]at ha;rcases ha with rfl | ha
  ·omega
  ·rcases h3 with⟨_,h4⟩ | ⟨h4,h5,h6',h7⟩
   ·simp_all[jo]
   ·have:=SS.Oq hD k _ og h4 h5 h6' a ha;omega
def SS.zU{s:SS}{aQ:Int->Nat}(hD:s.Deep aQ):∀ (k:Nat) (n:Int),aQ n=k->0<=n->n<6->s.aa n=true->(s.jo k n).Nodup
 | 0,n,_,_,_,_=>List.nodup_nil
 | k+1,n,hk,h0,h6,hh=>by
  obtain⟨_,_,h3⟩:=hD.d n h0 h6 hh;rw[SS.jo,List.nodup_cons];rcases h3 with⟨_,h4⟩ | ⟨h4,h5,h6',h7⟩
  ·simp_all[jo]
  ·refine⟨fun hm=> ?_,SS.zU hD k _ og h4 h5 h6'⟩;have:=SS.Oq hD k _ og h4 h5 h6' n hm;omega
def Yg(h:∃ q,1<=q/\q<=20/\w a q<0):∃ k,1<=k/\k<=20/\w a k<0/\Hb w a p=cI w a k p:=by
 unfold Hb;cases hf:dS (fun q=>decide (w a (q+1)<0)) 20 with
 | none=>
  exfalso;obtain⟨q,h1,h2,h3⟩:=h;unfold dS at hf;have:=List.find?_eq_none.1 hf (q-1).toNat (List.mem_range.2 og);simp only[show(((q-1).toNat:Nat):Int)+1=q from og]at this;simp[h3]at this
 | some k=>
  unfold dS at hf;have h1:=List.find?_some hf;have h2:=List.mem_range.1 (List.mem_of_find?_eq_some hf);exact⟨(k:Int)+1,og,og,by simpa using h1,rfl⟩
def zV(p:Int):∀ (l:List Int) (w:Int->Int->Int),l.Nodup->(∀ a∈l,∃ q,1<=q/\q<=20/\w a q<0)->
  (∀ a,¬a∈l->∀ q,kN w p l a q=w a q)/\(∀ a∈l,∃ k,1<=k/\k<=20/\w a k<0/\∀ q,kN w p l a q=if q=k then p else w a q)
 | [],w,_,_=>⟨fun _ _ _=>rfl,fun a ha=>by cases ha⟩
 | b::r,w,hn,hf=>by
  obtain⟨hb,hr⟩:=List.nodup_cons.1 hn;obtain⟨k,k1,k2,k3,k4⟩:=Yg (p:=p) (hf b sq);have fN:∀ a,¬a=b->∀ q,Hb w b p a q=w a q:=fun a ha q=>by rw[k4];simp[cI,ha]
  obtain⟨i1,i2⟩:=zV p r (Hb w b p) hr (fun a ha=>by
   have hab:¬a=b:=by rintro rfl;exact hb ha
   obtain⟨q,q1,q2,q3⟩:=hf a (by simp[ha])
   exact⟨q,q1,q2,by rw[fN a hab];exact q3⟩)
  refine⟨fun a ha q=> ?_,fun a ha=> ?_⟩
  ·simp only[List.mem_cons,not_or]at ha;rw[kN,i1 a ha.2,fN a ha.1]
  ·by_cases hab:a=b
   ·subst hab;refine⟨k,k1,k2,k3,fun q=> ?_⟩;rw[kN,i1 a hb,k4];simp[cI]
   ·have har:a∈r:=by simpa [hab]using ha
    obtain⟨j,j1,j2,j3,j4⟩:=i2 a har;refine⟨j,j1,j2,by rw[<-fN a hab];exact j3,fun q=> ?_⟩;rw[kN,j4,fN a hab]
def CL:∀ (n m:Nat) (f:Nat->Nat),n<m->(∀ i,i<m->f i<n)->∃ i j,i<j/\j<m/\f i=f j
 | 0,m,f,h,hf=>absurd (hf 0 h) og
 | n+1,m,f,h,hf=>by
  by_cases he:∃ i,i<m-1/\f i=f (m-1)
  ·obtain⟨i,h1,h2⟩:=he;exact⟨i,m-1,h1,og,h2⟩
  ·have fN:∀ i,i<m-1->¬f i=f (m-1):=fun i hi e=>he ⟨i,hi,e⟩;have hv:=hf (m-1) og;obtain⟨i,j,h1,h2,h3⟩:=CL n (m-1) (fun i=>if f i=n then f (m-1)else f i) og (fun i hi=>by
    have a1:=hf i og
    have a2:=fN i hi
    show(if f i=n then f (m-1)else f i)<n
    split<;>omega)
   refine⟨i,j,h1,og,?_⟩;have a1:=fN i og;have a2:=fN j og;split at h3<;>split at h3<;>omega
def SS.Inv.acd{s:SS}(h:s.Inv aQ)(hp:0<=p)(hl:¬ 0<=s.loc p)(n q:Int):¬s.dv n q=p:=fun e=>hl (h.mem n q p hp e).2.2.2.1
theorem SS.Inv.free{s:SS}(h:s.Inv aQ)(hp:0<=p/\p<20)(hl:¬ 0<=s.loc p)(a:Int):∃ q,1<=q/\q<=20/\s.dv a q<0:=by
 apply Classical.byContradiction;intro hc;have hg:∀ q:Int,1<=q->q<=20->0<=s.dv a q:=fun q h1 h2=>by
  simp_all
 have hx:∀ i:Nat,i<20->0<=s.dv a (i+1)/\s.dv a (i+1)<20/\¬s.dv a (i+1)=p:=fun i hi=>by
  have h0:=hg (i+1) og og;exact⟨h0,(h.mem a _ _ h0 rfl).1,h.acd hp.1 hl _ _⟩
 obtain⟨i,j,h1,h2,h3⟩:=CL 19 20 (fun i=>if s.dv a (i+1)>p then(s.dv a (i+1)-1).toNat else(s.dv a (i+1)).toNat) og (fun i hi=>by
  obtain⟨a1,a2,a3⟩:=hx i hi
  show(if s.dv a (i+1)>p then(s.dv a (i+1)-1).toNat else(s.dv a (i+1)).toNat)<19
  split<;>omega)
 obtain⟨a1,a2,a3⟩:=hx i og;obtain⟨b1,b2,b3⟩:=hx j h2;have he:s.dv a (i+1)=s.dv a (j+1):=by split at h3<;>split at h3<;>omega
 grind [SS.Inv.inj]
theorem SS.Inv.fj{s:SS}{aQ:Int->Nat}(h:s.Inv aQ){n p:Int}(hn:0<=n/\n<6/\s.aa n=true)(hp:0<=p/\p<20)(hl:¬ 0<=s.loc p):(s.fj aQ n p).Inv aQ:=by
 have mw:∀ m,(s.fj aQ n p).dm aQ m=s.dm aQ m:=fun m=>SS.o5 (s:=s) (s':=s.fj aQ n p) rfl _ _;obtain⟨e1,e2⟩:=zV p (s.dm aQ n) s.dv (SS.zU h.D _ n rfl hn.1 hn.2.1 hn.2.2) fun a _=>h.free hp hl a;have vV:∀ a∈s.dm aQ n,0<=a/\a<6/\s.aa a=true:=SS.Hf h.D _ n rfl hn.1 hn.2.1 hn.2.2;have hw:(s.fj aQ n p).dv=kN s.dv p (s.dm aQ n):=rfl;have Ix:(s.fj aQ n p).loc=ad s.loc p n:=rfl;have hq:∀ m q,(s.fj aQ n p).dv m q=s.dv m q\/((s.fj aQ n p).dv m q=p/\m∈s.dm aQ n/\1<=q/\q<=20):=fun m q=>by
  rw[hw];grind
 refine⟨⟨h.D.d⟩,fun k hk j=> ?_,fun m=> ?_,fun m q=> ?_,fun x=> ?_,fun x x0 x1 x2=> ?_,fun m q x x0 hx=> ?_,fun m q q' h0 he=> ?_,fun x x0 x1 x2 m hm=> ?_⟩
 ·grind [SS.fj,Inv]
 ·grind [Inv]
 ·grind [Inv]
 ·rw[Ix];unfold ad;split;all_goals grind [Inv]
 ·rw[Ix]at x2 ⊢;grind [ad,SS.fj,Inv]
 ·rw[Ix,mw];grind [ae,aj,Inv]
 ·rw[hw]at h0 he;by_cases hm:m∈s.dm aQ n
  ·obtain⟨k,k1,k2,k3,k4⟩:=e2 m hm;grind [Inv]
  grind [Inv]
 ·rw[hw];rw[Ix]at x2 hm;rw[mw]at hm;by_cases Ot:x=p
  ·grind [aj]
  ·rw[ae _ _ Ot]at x2 hm;obtain⟨q,hq⟩:=h.has x x0 x1 x2 m hm;grind
theorem SS.Inv.enter{s:SS}{aQ:Int->Nat}(h:s.Inv aQ)(n p:Int):(s.enter aQ n p).2.2.Inv aQ:=by
 by_cases h1:s.is n=0
 ·by_cases h2:p<0\/20<=p
  ·grind [o6]
  ·by_cases h3:0<=s.loc p
   ·grind [tX]
   ·rw[SS.xZ h1 h2 h3];rcases s.jB n with⟨_,q1,q2,q3⟩ | ⟨q,_⟩ | ⟨q,_⟩
    ·exact h.fj ⟨q1,q2,q3⟩ og h3
    all_goals omega
 grind [xY]
theorem SS.Inv.left{s:SS}{aQ:Int->Nat}(h:s.Inv aQ){p:Int}(hp:0<=p):(s.left p).Inv aQ:=by
 have mw:∀ m,(s.left p).dm aQ m=s.dm aQ m:=fun m=>SS.o5 (s:=s) (s':=s.left p) rfl _ _;have hw:∀ n q,(s.left p).dv n q=if s.dv n q=p then-1 else s.dv n q:=fun _ _=>rfl
 have Ix:(s.left p).loc=ad s.loc p (-1):=rfl;refine⟨⟨h.D.d⟩,fun k hk j=> ?_,fun m=> ?_,fun m q=> ?_,fun x=> ?_,fun x x0 x1 x2=> ?_,fun m q x x0 hx=> ?_,fun m q q' h0 he=> ?_,fun x x0 x1 x2 m hm=> ?_⟩
 ·rw[hw];split
  ·rfl
  ·exact h.A k hk j
 ·rw[hw];split
  ·rfl
  ·exact h.z m
 ·rw[hw];split
  ·omega
  ·exact h.lo m q
 ·rw[Ix];unfold ad;split
  ·omega
  ·exact h.loc x
 ·rw[Ix]at x2 ⊢;show s.aa _=true;by_cases Ot:x=p
  ·rw[Ot,aj]at x2;omega
  ·rw[ae _ _ Ot]at x2 ⊢;exact h.at_ x x0 x1 x2
 ·rw[hw]at hx;rw[Ix,mw];split at hx
  ·omega
  ·rename_i fN;rw[ae _ _ (by omega:¬x=p)];exact h.mem m q x x0 hx
 ·rw[hw]at h0 he;rw[hw m q]at he;by_cases c1:s.dv m q=p
  ·rw[if_pos c1]at h0;omega
  ·rw[if_neg c1]at h0 he;by_cases c2:s.dv m q'=p
   ·rw[if_pos c2]at he;omega
   ·rw[if_neg c2]at he;exact h.inj m q q' h0 he
 ·rw[Ix]at x2 hm;rw[mw]at hm;by_cases Ot:x=p
  ·rw[Ot,aj]at x2;omega
  ·rw[ae _ _ Ot]at x2 hm;obtain⟨q,hq⟩:=h.has x x0 x1 x2 m hm;exact⟨q,by rw[hw,hq,if_neg Ot]⟩
theorem SS.Inv.gw{s:SS}{aQ:Int->Nat}(h:s.Inv aQ)(p:Int):(s.gw p).2.Inv aQ:=by
 unfold SS.gw;by_cases h1:(s.bU p).2=0
 ·rw[if_neg (by simp[h1])];apply h.left;grind [Jy]
 simp_all
theorem SS.Mm{s s':SS}{aQ Yh:Int->Nat}(hD:s.Deep aQ)(hs:∀ n,0<=n->n<6->s.aa n=true->s'.aD n=s.aD n):∀ (k:Nat) (n:Int),aQ n=k->0<=n->n<6->s.aa n=true->s'.jo k n=s.jo k n
 | 0,_,_,_,_,_=>rfl
 | k+1,n,hk,h0,h6,hh=>by
  obtain⟨_,_,h3⟩:=hD.d n h0 h6 hh;rw[SS.jo,SS.jo,hs n h0 h6 hh];rcases h3 with⟨_,h4⟩ | ⟨h4,h5,h6',h7⟩
  ·simp_all[jo]
  ·rw[SS.Mm (Yh:=Yh) hD hs k _ og h4 h5 h6']
def SS.Uj(s:SS)(aQ:Int->Nat)(p:Int):Int->Nat:=if(s.add aQ p).2.1=0 then ad aQ (s.add aQ p).1 (aQ p+1)else aQ
theorem SS.Inv.afs{s:SS}(h:s.Inv aQ)(hp:0<=p/\p<6/\s.aa p=true)(hd:¬aQ p=4)(hk:0<=k/\k<6)(hh:s.aa k=false):({s with aa:=ad s.aa k true,aD:=ad s.aD k p} :SS).Inv (ad aQ k (aQ p+1)):=by
 have fN:∀ n,s.aa n=true->¬n=k:=by rintro n hn rfl;rw[hh]at hn;cases hn
 have mw:∀ n,0<=n->n<6->s.aa n=true->({s with aa:=ad s.aa k true,aD:=ad s.aD k p} :SS).dm (ad aQ k (aQ p+1)) n=s.dm aQ n:=fun n h0 h6 hn=>by
  unfold SS.dm;rw[ae _ _ (fN n hn)];exact SS.Mm (Yh:=aQ) h.D (fun m _ _ hm=>ae _ _ (fN m hm)) _ n rfl h0 h6 hn
 have Yi:∀ x,0<=x->x<20->0<=s.loc x->s.loc x<6/\s.aa (s.loc x)=true:=fun x x0 x1 x2=>⟨(h.loc x).2,h.at_ x x0 x1 x2⟩;refine⟨⟨fun n h0 h6 hn=> ?_⟩,fun m hm j=> ?_,h.z,h.lo,h.loc,fun x x0 x1 x2=> ?_,fun m q x x0 hx=> ?_,h.inj,fun x x0 x1 x2 m hm=> ?_⟩
 ·by_cases hnk:n=k
  ·subst hnk;show 1<=ad aQ n (aQ p+1) n/\ad aQ n (aQ p+1) n<=4/\((ad s.aD n p n= -1/\_)\/(0<=ad s.aD n p n/\ad s.aD n p n<6/\ad s.aa n true (ad s.aD n p n)=true/\ad aQ n (aQ p+1) n=ad aQ n (aQ p+1) (ad s.aD n p n)+1));rw[aj,aj,ae _ _ (fN p hp.2.2),ae _ _ (fN p hp.2.2)];have:=(h.D.d p hp.1 hp.2.1 hp.2.2).2.1;grind
  ·have hn':s.aa n=true:=by
    grind [ae]
   show 1<=ad aQ k (aQ p+1) n/\ad aQ k (aQ p+1) n<=4/\((ad s.aD k p n= -1/\ad aQ k (aQ p+1) n=1)\/(0<=ad s.aD k p n/\ad s.aD k p n<6/\ad s.aa k true (ad s.aD k p n)=true/\ad aQ k (aQ p+1) n=ad aQ k (aQ p+1) (ad s.aD k p n)+1));rw[ae _ _ hnk,ae _ _ hnk];obtain⟨a1,a2,a3⟩:=h.D.d n h0 h6 hn';grind [ad]
 ·grind [ae,Inv]
 all_goals grind [ae,Inv]
def SS.qQ(s:SS)(aQ:Int->Nat)(p:Int):((s.add aQ p).2.1≠0/\(s.add aQ p).1=0/\(s.add aQ p).2.2=s)\/(∃ k,s.is p=0/\¬aQ p=4/\(0<=k/\k<6)/\s.aa k=false/\s.add aQ p=(k,0,{s with aa:=ad s.aa k true,aD:=ad s.aD k p})):=by
 grind [SS.add,dS]
theorem SS.Inv.add{s:SS}{aQ:Int->Nat}(h:s.Inv aQ)(p:Int):(s.add aQ p).2.2.Inv (s.Uj aQ p):=by
 unfold SS.Uj;rcases s.qQ aQ p with⟨h1,_,h2⟩ | ⟨k,h1,h2,h3,h4,h5⟩
 ·simp_all
 ·rw[h5,if_pos rfl];rcases s.jB p with⟨_,q1,q2,q3⟩ | ⟨q,_⟩ | ⟨q,_⟩;all_goals grind [SS.Inv.afs]
def we{f:Int->Int} :∀ {k:Nat},¬(eo f k).length>0->∀ j:Nat,j<k->f j<0
 | 0,_,j,hj=>og
 | k+1,h,j,hj=>by
  simp only[eo,List.length_append]at h;by_cases hk:j=k
  ·subst hk;by_cases hf:f j>=0
   ·rw[if_pos hf]at h;simp at h
   ·omega
  ·exact we (k:=k) og j og
def SS.Inv.Yj{s:SS}(h:s.Inv aQ)(hm:¬(s.fU n).length>0)(j:Int):s.dv n j= -1:=by
 have h0:=h.lo n j;by_cases hj:0<=s.dv n j
 ·obtain⟨_,a2,a3,_⟩:=h.mem n j _ hj rfl;have:=we hm j.toNat og;grind
 omega
def SS.Inv.Yk{s:SS}(h:s.Inv aQ)(hm:¬(s.fU n).length>0)(hk:∀ j:Int,0<=j->j<6->¬(s.aa j=true/\s.aD j=n)):({s with aa:=ad s.aa n false,aD:=ad s.aD n 0} :SS).Inv aQ:=by
 have hh:∀ m,ad s.aa n false m=true->¬m=n/\s.aa m=true:=fun m hm=>by
  by_cases q:m=n
  ·rw[q,aj]at hm;cases hm
  ·rw[ae _ _ q]at hm;exact⟨q,hm⟩
 have hD:({s with aa:=ad s.aa n false,aD:=ad s.aD n 0} :SS).Deep aQ:=⟨fun m h0 h6 LR=>by
  obtain⟨q1,q2⟩:=hh m LR
  obtain⟨a1,a2,a3⟩:=h.D.d m h0 h6 q2
  refine⟨a1,a2,?_⟩
  show(ad s.aD n 0 m= -1/\_)\/(0<=ad s.aD n 0 m/\ad s.aD n 0 m<6/\ad s.aa n false (ad s.aD n 0 m)=true/\aQ m=aQ (ad s.aD n 0 m)+1)
  rw[ae _ _ q1]
  rcases a3 with a3 | ⟨b1,b2,b3,b4⟩
  ·exact .inl a3
  ·refine .inr ⟨b1,b2,?_,b4⟩
   rw[ae _ _ fun e=>hk m h0 h6 ⟨q2,e⟩]
   exact b3⟩
 have sW:=h.Yj hm;have hln:∀ x,0<=x->x<20->0<=s.loc x->¬s.loc x=n:=by
  intro x x0 x1 x2 e;have b1:=(h.D.d _ x2 (h.loc x).2 (h.at_ x x0 x1 x2)).1;have vV:n∈s.dm aQ (s.loc x):=by
   unfold SS.dm;obtain⟨d,hd⟩:∃ d,aQ (s.loc x)=d+1:=⟨aQ (s.loc x)-1,og⟩;rw[hd,SS.jo,e];simp
  obtain⟨q,hq⟩:=h.has x x0 x1 x2 n vV;have:=sW q;omega
 have mw:∀ m,0<=m->m<6->ad s.aa n false m=true->({s with aa:=ad s.aa n false,aD:=ad s.aD n 0} :SS).dm aQ m=s.dm aQ m:=fun m h0 h6 LR=>by
  unfold SS.dm;exact(SS.Mm (s:=({s with aa:=ad s.aa n false,aD:=ad s.aD n 0} :SS)) (s':=s) (Yh:=aQ) hD (fun m' _ _ hm'=>(ae s.aD 0 (hh m' hm').1).symm) _ m rfl h0 h6 LR).symm
 have Yi:∀ x,0<=x->x<20->0<=s.loc x->s.loc x<6/\ad s.aa n false (s.loc x)=true:=fun x x0 x1 x2=>⟨(h.loc x).2,by rw[ae _ _ (hln x x0 x1 x2)];exact h.at_ x x0 x1 x2⟩;refine⟨hD,fun m LR j=> ?_,h.z,h.lo,h.loc,fun x x0 x1 x2=>(Yi x x0 x1 x2).2,fun m q x x0 hx=> ?_,h.inj,fun x x0 x1 x2 m LR=> ?_⟩
 ·by_cases q:m=n
  ·subst q;exact sW j
  ·have:ad s.aa n false m=false:=LR;rw[ae _ _ q]at this;exact h.A m this j
 ·obtain⟨a1,a2,a3,a4,a5⟩:=h.mem m q x x0 hx;obtain⟨b1,b2⟩:=Yi x x0 a1 a4;exact⟨a1,a2,a3,a4,by rw[mw _ a4 b1 b2];exact a5⟩
 ·obtain⟨b1,b2⟩:=Yi x x0 x1 x2;rw[mw _ x2 b1 b2]at LR;exact h.has x x0 x1 x2 m LR
theorem SS.Inv.drop{s:SS}{aQ:Int->Nat}(h:s.Inv aQ)(n:Int):(s.drop n).2.Inv aQ:=by
 unfold SS.drop;by_cases h1:s.is n≠0
 ·simp_all
 ·rw[if_neg h1];by_cases h2:n=0\/(s.fU n).length>0
  ·simp_all
  ·rw[if_neg h2];cases hf:s.kids n with
   | some k=>exact h
   | none=>
    refine h.Yk og fun j h3 h4=> ?_;unfold SS.kids dS at hf;have:=List.find?_eq_none.1 hf j.toNat (List.mem_range.2 og);rw[show((j.toNat:Nat):Int)=j from og]at this;simp at this;rintro⟨e1,e2⟩;exact this e1 e2
theorem SS.Inv.Sw{s:SS}(h:s.Inv aQ)(n q:Int): -1<=s.dv n q/\s.dv n q<20:=by
 grind [Inv]
def SS.Yl(s:SS)(n:Int):(s.mem n).1.length<=21:=by
 unfold SS.mem;split
 ·simp
 ·exact nO _ _
end Go.X.Sp

namespace Go.X.Gr
open Go Go.X
variable{a k m n p:Int}
structure TG where
 aa:Int->Bool
 aD:Int->Int
 mp:Int->Int
 mg:Int->Int
 pr:Int->Int
 pg:Int->Int
def jo(aD:Int->Int):Nat->Int->List Int
 | 0,_=>[]
 | k+1,n=>if n<0 then []else n::jo aD k (aD n)
def tY(aD:Int->Int):Int->List Int->Prop
 | n,[]=>n<0
 | n,x::r=>x=n/\0<=n/\n<10/\tY aD (aD n) r
theorem tY.range{aD:Int->Int} :∀ {n:Int} {l:List Int},tY aD n l->∀ x∈l,0<=x/\x<10
 | _,[],_,_,h=>by simp at h
 | _,_::_,⟨h1,h2,h3,h4⟩,x,hx=>by
  rcases List.mem_cons.1 hx with rfl | hx
  ·subst h1;exact⟨h2,h3⟩
  ·exact tY.range h4 x hx
abbrev QA:= {x:Int//0<=x/\x<10}
def my(l:List QA):List Int:=l.map (·.1)
theorem FL(l:List QA)(x:QA):my (l++[x])=my l++[x.1]:=by simp[my]
def qS:∀ (l:List Int),(∀ x∈l,0<=x/\x<10)->∃ l':List QA,my l'=l
 | [],_=>⟨[],rfl⟩
 | x::r,h=>by
  obtain⟨r',hr⟩:=qS r fun y hy=>h y (List.mem_cons_of_mem _ hy);exact⟨⟨x,h x sq⟩::r',by simp[my]at*;exact hr⟩
def eC(f:Int->Int):Nat->Int
 | 0=>0
 | k+1=>eC f k+f (k:Int)
structure GV where
 aD:Int
 mp:Int
 mg:Int
 pr:Int
 pg:Int
def GV.cR(g:GV):Array Value:= #[iI g.aD,iI g.mp,iI g.mg,iI g.pr,iI g.pg]
def GV.room(g:GV)(p m:Int):Bool:=(decide (p=0)||decide (g.mp<0)||decide (g.pr+p<=g.mp))&&(decide (m=0)||decide (g.mg<0)||decide (g.pg+m<=g.mg))
namespace TG
def gv(s:TG)(n:Int):GV:=⟨s.aD n,s.mp n,s.mg n,s.pr n,s.pg n⟩
def ER(s:TG)(n:Int)(g:GV):TG:=⟨s.aa,ad s.aD n g.aD,ad s.mp n g.mp,ad s.mg n g.mg,ad s.pr n g.pr,ad s.pg n g.pg⟩
def dm(s:TG)(n:Int):List Int:=jo s.aD 5 n
def cF(s:TG)(n:Int):Int:=if n<0\/10<=n then 1 else if s.aa n=true then 0 else 2
def Sw(p m:Int):Int:=if p<0\/20<p\/m<0\/64<m then 1 else 0
def room(s:TG)(p m n:Int):Bool:=(s.gv n).room p m
def free(s:TG):Option Nat:=dS (fun n=> !s.aa n) 10
def put(s:TG)(k p:Int):TG:=⟨ad s.aa k true,ad s.aD k p,ad s.mp k (-1),ad s.mg k (-1),ad s.pr k 0,ad s.pg k 0⟩
def Et(s:TG)(k:Int):TG:=⟨ad s.aa k false,ad s.aD k 0,ad s.mp k 0,ad s.mg k 0,ad s.pr k 0,ad s.pg k 0⟩
def tZ(s:TG)(p:Int):Int:=if s.cF p≠0 then s.cF p else if(s.dm p).length=4 then 7 else if s.free=none then 4 else 0
def jS(s:TG)(p:Int):Int:=if s.tZ p=0 then((s.free.getD 0:Nat):Int)else 0
def add(s:TG)(p:Int):TG:=if s.tZ p=0 then s.put (s.jS p) p else s
def below(s:TG)(n:Int):Prop:=∃ k:Int,0<=k/\k<10/\s.aa k=true/\s.aD k=n
def lay(s:TG)(l:List Int)(p m:Int):TG:= {s with pr:=fun y=>s.pr y+p*(l.count y:Int),pg:=fun y=>s.pg y+m*(l.count y:Int)}
def o7(s:TG)(n p m:Int):Int:=if s.cF n≠0 then s.cF n else Sw p m
def cY(s:TG)(n p m:Int):Int:=if s.o7 n p m≠0 then s.o7 n p m else if(s.dm n).all (s.room p m)=true then 0 else 6
def bE(s:TG)(n p m:Int):TG:=if s.cY n p m=0 then s.lay (s.dm n) p m else s
def ie(s:TG)(f:Int->Int)(n k:Int):Int:=if s.aa k=true/\s.aD k=n then f k else 0
def left(s:TG)(f:Int->Int)(n:Int):Int:=f n-eC (s.ie f n) 10
def fP(s:TG)(n p m:Int):Int:=if s.o7 n p m≠0 then s.o7 n p m else if p<=s.left s.pr n/\m<=s.left s.pg n then 0 else 8
def dz(s:TG)(n p m:Int):TG:=if s.fP n p m=0 then s.lay (s.dm n) (-p) (-m)else s
def ka(s:TG)(n p m:Int):Int:=if s.cF n≠0 then s.cF n else if p< -1\/20<p\/m< -1\/64<m then 1 else 0
def jC(s:TG)(n p m:Int):TG:=if s.ka n p m=0 then {s with mp:=ad s.mp n p,mg:=ad s.mg n m} else s
def eK(s:TG)(a b p m:Int):Int:=if s.cF b≠0 then s.cF b else if s.fP a p m≠0 then s.fP a p m else(s.dz a p m).cY b p m
def move(s:TG)(a b p m:Int):TG:=if s.cF b≠0\/s.fP a p m≠0 then s else if(s.dz a p m).cY b p m=0 then(s.dz a p m).bE b p m else s
def iM(s:TG)(n p m:Int):Option Int:=if s.o7 n p m≠0 then none else(s.dm n).find? fun x=> !s.room p m x
def under(s:TG)(n o:Int):Bool:=if s.cF n≠0 then false else decide (o∈s.dm n)
structure Ok (s:TG):Prop where
 tW:s.aa 0=true/\s.aD 0= -1
 vP:∃ d:Int->Nat,d 0=1/\∀ n,0<=n->n<10->s.aa n=true->1<=d n/\d n<=4/\(n≠0->0<=s.aD n/\s.aD n<10/\s.aa (s.aD n)=true/\d n=d (s.aD n)+1)
def Mn(s:TG)(n:Int):0<=s.cF n:=by unfold cF;split<;>(try split)<;>omega
def lY{s:TG}(h:s.cF n=0):0<=n/\n<10/\s.aa n=true:=by
 grind [cF]
def Mo{s:TG}(h0:0<=n)(h1:n<10)(h2:s.aa n=true):s.cF n=0:=by
 grind [cF]
def A3(p m:Int):Sw p m=0↔0<=p/\p<=20/\0<=m/\m<=64:=by
 grind [Sw]
def ace(p m:Int):0<=Sw p m:=by unfold Sw;split<;>omega
def Uk(s:TG)(n p m:Int):0<=s.o7 n p m:=by unfold o7;have:=s.Mn n;have:=ace p m;split<;>omega
def aaK{s:TG}(h:s.o7 n p m=0:=by omega):(0<=n/\n<10/\s.aa n=true)/\0<=p/\p<=20/\0<=m/\m<=64:=by
 unfold o7 at h;split at h
 ·omega
 ·rename_i h1;exact⟨lY og,(A3 p m).1 h⟩
def wT(s:TG)(n p m:Int):0<=s.cY n p m:=by unfold cY;have:=s.Uk n p m;split<;>(try split)<;>omega
def Ul(s:TG)(n p m:Int):0<=s.fP n p m:=by unfold fP;have:=s.Uk n p m;split<;>(try split)<;>omega
def Ok.Um{s:TG}(h:s.Ok):∀ (f k:Nat),k<=f->∀ d:Int->Nat,d 0=1->(∀ n,0<=n->n<10->s.aa n=true->1<=d n/\d n<=4/\(n≠0->0<=s.aD n/\s.aD n<10/\s.aa (s.aD n)=true/\d n=d (s.aD n)+1))->
  ∀ n,0<=n->n<10->s.aa n=true->d n=k->tY s.aD n (jo s.aD f n)/\(jo s.aD f n).length=k/\∀ x∈jo s.aD f n,s.aa x=true
 | 0,k,hk,d,d0,hd,n,h0,h1,h2,h3=>by have:=(hd n h0 h1 h2).1;omega
 | f+1,k,hk,d,d0,hd,n,h0,h1,h2,h3=>by
  have h4:=hd n h0 h1 h2;unfold jo;rw[if_neg og];by_cases hn:n=0
  ·subst hn;have hp:s.aD 0= -1:=h.tW.2;have e:jo s.aD f (s.aD 0)=[]:=by rw[hp];cases f<;>simp[jo]
   grind [tY]
  ·obtain⟨p0,p1,p2,p3⟩:=h4.2.2 hn;obtain⟨q1,q2,q3⟩:=Ok.Um h f (k-1) og d d0 hd (s.aD n) p0 p1 p2 og;grind [tY]
theorem Ok.dm{s:TG}(h:s.Ok){n:Int}(h0:0<=n)(h1:n<10)(h2:s.aa n=true):tY s.aD n (s.dm n)/\(s.dm n).length<=4/\∀ x∈s.dm n,s.aa x=true:=by
 obtain⟨d,d0,hd⟩:=h.vP;have h3:=hd n h0 h1 h2;obtain⟨q1,q2,q3⟩:=h.Um 5 (d n) og d d0 hd n h0 h1 h2 rfl;exact⟨q1,by unfold TG.dm;omega,q3⟩
theorem Un(s:TG)(l:List Int)(x p m:Int):s.lay (l++[x]) p m= {s.lay l p m with pr:=ad (s.lay l p m).pr x ((s.lay l p m).pr x+p),pg:=ad (s.lay l p m).pg x ((s.lay l p m).pg x+m)} :=by
 have h:∀ (f:Int->Int) (q:Int),(fun y=>f y+q*((l++[x]).count y:Int))=ad (fun y=>f y+q*(l.count y:Int)) x (f x+q*(l.count x:Int)+q):=fun f q=>by
  funext y;unfold ad;by_cases hy:y=x
  ·subst hy;rw[if_pos rfl,List.count_append,List.count_singleton_self];grind
  grind
 simp_all[lay]
def Ym(s:TG)(p m:Int):s.lay [] p m=s:=by simp[lay]
theorem Uo(s:TG)(l:List Int)(p m:Int):(s.lay l (-p) (-m)).lay l p m=s:=by
 unfold lay;have h:∀ (f:Int->Int) (q:Int),(fun y=>f y+ -q*(l.count y:Int)+q*(l.count y:Int))=f:=fun f q=>by
  grind
 simp_all
def bV(s:TG)(B:Int):Prop:=∀ n,0<=n->n<10-> -B<=s.pr n/\s.pr n<=B/\ -B<=s.pg n/\s.pg n<=B
theorem bV.mono{s:TG}{B B':Int}(h:s.bV B)(hb:B<=B'):s.bV B':=fun n h0 h1=>by have:=h n h0 h1;omega
def Ou{c K:Int}(hc:0<=c)(hp: -K<=p/\p<=K)(hn:c<=n)(hK:0<=K:=by omega): -(K*n)<=p*c/\p*c<=K*n:=by
 have h1:p*c<=K*c:=Int.mul_le_mul_of_nonneg_right hp.2 hc;have h2: -K*c<=p*c:=Int.mul_le_mul_of_nonneg_right hp.1 hc;have h3:K*c<=K*n:=Int.mul_le_mul_of_nonneg_left hn hK;grind
theorem bV.lay{s:TG}{B:Int}(h:s.bV B){l:List Int}(hl:l.length<=5){p m:Int}(hp: -20<=p/\p<=20)(hm: -64<=m/\m<=64):(s.lay l p m).bV (B+320):=fun n h0 h1=>by
 have h2:=h n h0 h1;have hc:(l.count n:Int)<=5:=by have:=List.count_le_length (a:=n) (l:=l);omega
 have h3:=Ou (p:=p) (c:=l.count n) (K:=20) og hp hc;have h4:=Ou (p:=m) (c:=l.count n) (K:=64) og hm hc;show-(B+320)<=s.pr n+p*(l.count n:Int)/\s.pr n+p*(l.count n:Int)<=B+320/\ -(B+320)<=s.pg n+m*(l.count n:Int)/\s.pg n+m*(l.count n:Int)<=B+320;omega
end TG
def JG(s:TG)(f:Int->Int)(n:Int)(h:0<=k):eC (s.ie f n) (k+1).toNat=eC (s.ie f n) k.toNat+s.ie f n k:=by
 rw[show(k+1).toNat=k.toNat+1 from og];grind [eC]
def CX{f:Int->Int}{B:Int} :∀ (k:Nat),(∀ j:Int,0<=j->j<k-> -B<=f j/\f j<=B)-> -(B*k)<=eC f k/\eC f k<=B*k
 | 0,_=>by simp[eC]
 | k+1,h=>by
  have h1:=CX k fun j h0 h1=>h j h0 og;grind [eC]
def QB{s:TG}{B:Int}(h:s.bV B)(hB:0<=B/\B<=1000000000000)(hn:0<=n/\n<10)(h0:0<=k)(hk:k<=10:=by omega):(-(B*10)<=eC (s.ie s.pr n) k.toNat/\eC (s.ie s.pr n) k.toNat<=B*10)/\(-(B*10)<=eC (s.ie s.pg n) k.toNat/\eC (s.ie s.pg n) k.toNat<=B*10)/\s.bV B:=by
 have hm:B*(k.toNat:Int)<=B*10:=Int.mul_le_mul_of_nonneg_left og hB.1;have h1:=CX (f:=s.ie s.pr n) (B:=B) k.toNat (fun j j0 j1=>by
  have:=h j j0 og
  unfold TG.ie;split<;>omega)
 have h2:=CX (f:=s.ie s.pg n) (B:=B) k.toNat (fun j j0 j1=>by
  have:=h j j0 og
  unfold TG.ie;split<;>omega)
 grind
namespace TG
theorem Ok.lay{s:TG}(h:s.Ok)(l:List Int)(p m:Int):(s.lay l p m).Ok:=⟨h.tW,h.vP⟩
theorem Ok.dz{s:TG}(h:s.Ok){n p m:Int} :(s.dz n p m).Ok:=by
 unfold TG.dz;split
 ·exact h.lay _ _ _
 omega
theorem Up(s:TG)(a p m n:Int):(s.dz a p m).dm n=s.dm n:=by unfold TG.dz;split<;>rfl
def ya{s:TG}(h:s.fP n p m=0):(0<=n/\n<10/\s.aa n=true)/\0<=p/\p<=20/\0<=m/\m<=64:=by
 unfold fP at h;split at h
 ·omega
 ·exact aaK
def vj{s:TG}(h:s.cY n p m=0):(0<=n/\n<10/\s.aa n=true)/\0<=p/\p<=20/\0<=m/\m<=64:=by
 unfold cY at h;split at h
 ·omega
 ·exact aaK
theorem bV.dz{s:TG}{B:Int}(h:s.bV B)(hO:s.Ok)(n p m:Int):(s.dz n p m).bV (B+320):=by
 unfold TG.dz;split
 ·rename_i h0;obtain⟨⟨n0,n1,n2⟩,p0,p1,m0,m1⟩:=ya h0;have:=(hO.dm n0 n1 n2).2.1;exact h.lay og og og
 ·exact h.mono og
def bV.bE{s:TG}{B:Int}(h:s.bV B)(hO:s.Ok)(n p m:Int):(s.bE n p m).bV (B+320):=by
 unfold TG.bE;split
 ·rename_i h0;obtain⟨⟨n0,n1,n2⟩,p0,p1,m0,m1⟩:=vj h0;have:=(hO.dm n0 n1 n2).2.1;exact h.lay og og og
 ·exact h.mono og
end TG
namespace TG
def Hg(s:TG)(n:Int):Bool:=(List.range 10).any (fun k=>s.aa (k:Int)&&decide (s.aD (k:Int)=n))
def QC(s:TG)(n:Int):s.Hg n=true↔s.below n:=by
 unfold Hg below;simp only[List.any_eq_true,List.mem_range,Bool.and_eq_true,decide_eq_true_eq];constructor
 ·grind
 ·rintro⟨k,h1,h2,h3,h4⟩;refine⟨k.toNat,og,?_⟩;grind
theorem Ov{s:TG}(h0:0<=k)(h1:k<10)(h2:s.aa k=true)(h3:s.aD k=n):s.Hg n=true:=(s.QC n).2 ⟨k,h0,h1,h2,h3⟩
def Yn{s:TG}(h:∀ j:Int,0<=j->j<10->¬(s.aa j=true/\s.aD j=n)):s.Hg n=false:=by
 grind [Hg]
def dp(s:TG)(n:Int):Int:=if s.cF n≠0 then s.cF n else if n=0\/0<s.pr n\/0<s.pg n\/s.Hg n=true then 5 else 0
def dG(s:TG)(n:Int):TG:=if s.dp n=0 then s.Et n else s
def QD{s:TG}(h0:0<=k)(h1:k<10)(h2:s.aa k=false)(hn:∀ j:Int,0<=j->j<k->s.aa j=true):s.free=some k.toNat:=
 fq h0 h1 (by simp[h2]) fun j j0 j1=>by simp[hn j j0 j1]
theorem zW{s:TG}(hn:∀ j:Int,0<=j->j<10->s.aa j=true):s.free=none:=
 ft fun j j0 j1=>by simp[hn j j0 j1]
theorem CV{s:TG}(hi:s.cF a=0)(hd:¬(s.dm a).length=4)(h0:0<=k)(h1:k<10)(h2:s.aa k=false)(hn:∀ j:Int,0<=j->j<k->s.aa j=true):s.tZ a=0/\s.jS a=k/\s.add a=s.put k a:=by
 have hf:=QD h0 h1 h2 hn;grind [tZ,jS,add]
theorem r7{s:TG}(h:s.tZ a≠0):s.jS a=0/\s.add a=s:=by grind [jS,add]
theorem He{s:TG}(h:s.cF a≠0):s.tZ a=s.cF a:=by unfold tZ;rw[if_pos h]
theorem CU{s:TG}(h:s.cF a=0)(hd:(s.dm a).length=4):s.tZ a=7:=by grind [tZ]
def Uq{s:TG}(h:s.cF a=0)(hd:¬(s.dm a).length=4)(hn:∀ j:Int,0<=j->j<10->s.aa j=true):s.tZ a=4:=by
 grind [tZ,zW]
end TG
def bH(s:TG)(i:Nat):Value:=
 if i%5=0/\i/5<10 then iI (s.aD ((i/5:Nat):Int))else
 if 1<=i/\(i-1)%5=0/\(i-1)/5<10 then iI (s.mp (((i-1)/5:Nat):Int))else
 if 2<=i/\(i-2)%5=0/\(i-2)/5<10 then iI (s.mg (((i-2)/5:Nat):Int))else
 if 3<=i/\(i-3)%5=0/\(i-3)/5<10 then iI (s.pr (((i-3)/5:Nat):Int))else
 if 4<=i/\(i-4)%5=0/\(i-4)/5<10 then iI (s.pg (((i-4)/5:Nat):Int))else
 if 50<=i/\(i-50)%1=0/\(i-50)/1<10 then .bool (s.aa (((i-50)/1:Nat):Int))else
 undef
def gi(s:TG)(z0:Int)(q0:0<=z0/\z0<10:=by omega):(((0+0)+z0.toNat*5)+0)<60/\bH s (((0+0)+z0.toNat*5)+0)=iI (s.aD z0):=by
 refine⟨og,?_⟩;unfold bH;rw[if_pos og];grind
def mB(s:TG)(z0:Int)(q0:0<=z0/\z0<10):(((0+0)+z0.toNat*5)+1)<60/\bH s (((0+0)+z0.toNat*5)+1)=iI (s.mp z0):=by
 refine⟨og,?_⟩;unfold bH;rw[if_neg og];rw[if_pos og];grind
def td(s:TG)(z0:Int)(q0:0<=z0/\z0<10)(v:Int):(((0+0)+z0.toNat*5)+1)<60/\dJ (bH s) (((0+0)+z0.toNat*5)+1) (iI (v))=bH ({s with mp:=ad s.mp z0 v}):=by
 refine⟨og,?_⟩;funext j;grind [dJ,ad,bH]
def mD(s:TG)(z0:Int)(q0:0<=z0/\z0<10):(((0+0)+z0.toNat*5)+2)<60/\bH s (((0+0)+z0.toNat*5)+2)=iI (s.mg z0):=by
 refine⟨og,?_⟩;unfold bH;rw[if_neg og];grind
def te(s:TG)(z0:Int)(q0:0<=z0/\z0<10)(v:Int):(((0+0)+z0.toNat*5)+2)<60/\dJ (bH s) (((0+0)+z0.toNat*5)+2) (iI (v))=bH ({s with mg:=ad s.mg z0 v}):=by
 refine⟨og,?_⟩;funext j;grind [dJ,ad,bH]
def fG(s:TG)(z0:Int)(q0:0<=z0/\z0<10:=by omega):(((0+0)+z0.toNat*5)+3)<60/\bH s (((0+0)+z0.toNat*5)+3)=iI (s.pr z0):=by
 refine⟨og,?_⟩;grind [bH]
def wU(s:TG)(z0:Int)(q0:0<=z0/\z0<10)(v:Int):(((0+0)+z0.toNat*5)+3)<60/\dJ (bH s) (((0+0)+z0.toNat*5)+3) (iI (v))=bH ({s with pr:=ad s.pr z0 v}):=by
 refine⟨og,?_⟩;funext j;grind [dJ,ad,bH]
def fH(s:TG)(z0:Int)(q0:0<=z0/\z0<10:=by omega):(((0+0)+z0.toNat*5)+4)<60/\bH s (((0+0)+z0.toNat*5)+4)=iI (s.pg z0):=by
 grind [bH]
def wV(s:TG)(z0:Int)(q0:0<=z0/\z0<10)(v:Int):(((0+0)+z0.toNat*5)+4)<60/\dJ (bH s) (((0+0)+z0.toNat*5)+4) (iI (v))=bH ({s with pg:=ad s.pg z0 v}):=by
 refine⟨og,?_⟩;funext j;grind [dJ,ad,bH]
def BG(s:TG)(z0:Int)(q0:0<=z0/\z0<10):((0+50)+z0.toNat*1)<60/\bH s ((0+50)+z0.toNat*1)= .bool (s.aa z0):=by
 grind [bH]
def nQ(s:TG)(z0:Int)(q0:0<=z0/\z0<10)(v:Bool):((0+50)+z0.toNat*1)<60/\dJ (bH s) ((0+50)+z0.toNat*1) (.bool (v))=bH ({s with aa:=ad s.aa z0 v}):=by
 grind [dJ,ad,bH]
def ES(s:GV)(i:Nat):Value:=
 if i=0 then iI (s.aD)else
 if i=1 then iI (s.mp)else
 if i=2 then iI (s.mg)else
 if i=3 then iI (s.pr)else
 if i=4 then iI (s.pg)else
 undef
def qU(s:GV):(0+1)<5/\ES s (0+1)=iI (s.mp):=by
 grind [ES]
def gD(s:GV):(0+2)<5/\ES s (0+2)=iI (s.mg):=by
 grind [ES]
def ET(s:GV):(0+3)<5/\ES s (0+3)=iI (s.pr):=by
 grind [ES]
def qa(s:GV):(0+4)<5/\ES s (0+4)=iI (s.pg):=by
 grind [ES]
def JH(s:TG)(z:Int)(h:0<=z/\z<10:=by omega):0+0+z.toNat*5+5<=60/\de (bH s) (0+0+z.toNat*5) 5= .agg (s.gv z).cR:=by
 refine⟨og,?_⟩;have h0:=(gi s z h).2;have h1:=(mB s z h).2;have h2:=(mD s z h).2;have h3:=(fG s z h).2;have h4:=(fH s z h).2;simp only[de,List.range,List.range.loop,List.map_cons,List.map_nil];simp only[Nat.add_zero]at h0 ⊢;rw[h0,h1,h2,h3,h4];rfl
def wW(s:TG):0+50+10<=60/\de (bH s) (0+50) 10= .agg (P1 s.aa 10):=by
 refine⟨og,?_⟩;rfl
theorem iV(C:Nat->Value):∀ (vs:List Value) (i j:Nat),j<i->cD C i vs j=C j
 | [],_,_,_=>rfl
 | v::r,i,j,h=>by
  unfold cD;rw[iV (dJ C i v) r (i+1) j og];simp[dJ];omega
theorem gh:∀ (vs:List Value) (C:Nat->Value) (i j:Nat) (v:Value),vs[j]? =some v->cD C i vs (i+j)=v
 | [],_,_,_,_,h=>by simp at h
 | u::r,C,i,0,v,h=>by
  have h2:u=v:=by simpa using h
  unfold cD;rw[iV _ _ _ _ og,<-h2];simp[dJ]
 | u::r,C,i,j+1,v,h=>by
  unfold cD;have:=gh r (dJ C i u) (i+1) j v (by simpa using h);rw[show i+1+j=i+(j+1)from og]at this;exact this
theorem jA:∀ (vs:List Value) (C:Nat->Value) (i j:Nat),i+vs.length<=j->cD C i vs j=C j
 | [],_,_,_,_=>rfl
 | v::r,C,i,j,h=>by
  simp only[List.length_cons]at h;unfold cD;rw[jA r (dJ C i v) (i+1) j og];simp[dJ];omega
def zX(s:TG)(z:Int)(h:0<=z/\z<10)(g:GV):0+0+z.toNat*5+5<=60/\cD (bH s) (0+0+z.toNat*5) g.cR.toList=bH (s.ER z g):=by
 refine⟨og,?_⟩;funext i;have hl:g.cR.toList.length=5:=rfl;by_cases a1:i<0+0+z.toNat*5
 ·rw[iV _ _ _ _ a1];unfold bH;simp only[TG.ER];grind [ae]
 ·by_cases a2:i<0+0+z.toNat*5+5
  ·have h0:=(gi (s.ER z g) z h).2;have h1:=(mB (s.ER z g) z h).2;have h2:=(mD (s.ER z g) z h).2;have h3:=(fG (s.ER z g) z h).2;have h4:=(fH (s.ER z g) z h).2;simp only[TG.ER,aj]at h0 h1 h2 h3 h4;obtain⟨j,rfl⟩:∃ j,i=0+0+z.toNat*5+j:=⟨i-(0+0+z.toNat*5),og⟩;have hj:j=0\/j=1\/j=2\/j=3\/j=4:=og;rcases hj with rfl | rfl | rfl | rfl | rfl
   ·exact(gh g.cR.toList _ _ 0 _ rfl).trans h0.symm
   ·exact(gh g.cR.toList _ _ 1 _ rfl).trans h1.symm
   ·exact(gh g.cR.toList _ _ 2 _ rfl).trans h2.symm
   ·exact(gh g.cR.toList _ _ 3 _ rfl).trans h3.symm
   ·exact(gh g.cR.toList _ _ 4 _ rfl).trans h4.symm
  ·rw[jA _ _ _ _ og];unfold bH;simp only[TG.ER];grind [ae]
def Ur(g:GV):∀ i,i<5->cellsOf g.cR i=ES g i:=fun i h=>match i,h with
 | 0,_=>rfl
 | 1,_=>rfl
 | 2,_=>rfl
 | 3,_=>rfl
 | 4,_=>rfl
 | k+5,h=>absurd h og
def GV.zero:GV:=⟨0,0,0,0,0⟩
def TG.du:TG:=⟨fun _=>false,fun _=>0,fun _=>0,fun _=>0,fun _=>0,fun _=>0⟩
def TG.aft:TG:= {TG.du with aa:=ad (fun _=>false) 0 true}
def TG.cC:TG:=TG.aft.ER 0 ⟨-1,-1,-1,0,0⟩
set_option maxRecDepth 20000 in def afu:∀ i,i<60->cellsOf #[iI 0,iI 0,iI 0,iI 0,iI 0,iI 0,iI 0,iI 0,iI 0,iI 0,iI 0,iI 0,iI 0,iI 0,iI 0,iI 0,iI 0,iI 0,iI 0,iI 0,iI 0,iI 0,iI 0,iI 0,iI 0,iI 0,iI 0,iI 0,iI 0,iI 0,iI 0,iI 0,iI 0,iI 0,iI 0,iI 0,iI 0,iI 0,iI 0,iI 0,iI 0,iI 0,iI 0,iI 0,iI 0,iI 0,iI 0,iI 0,iI 0,iI 0,.bool false,.bool false,.bool false,.bool false,.bool false,.bool false,.bool false,.bool false,.bool false,.bool false] i=bH TG.du i:=fun i hi=>match i,hi with
 | 0,_=>rfl
 | 1,_=>rfl
 | 2,_=>rfl
 | 3,_=>rfl
 | 4,_=>rfl
 | 5,_=>rfl
 | 6,_=>rfl
 | 7,_=>rfl
 | 8,_=>rfl
 | 9,_=>rfl
 | 10,_=>rfl
 | 11,_=>rfl
 | 12,_=>rfl
 | 13,_=>rfl
 | 14,_=>rfl
 | 15,_=>rfl
 | 16,_=>rfl
 | 17,_=>rfl
 | 18,_=>rfl
 | 19,_=>rfl
 | 20,_=>rfl
 | 21,_=>rfl
 | 22,_=>rfl
 | 23,_=>rfl
 | 24,_=>rfl
 | 25,_=>rfl
 | 26,_=>rfl
 | 27,_=>rfl
 | 28,_=>rfl
 | 29,_=>rfl
 | 30,_=>rfl
 | 31,_=>rfl
 | 32,_=>rfl
 | 33,_=>rfl
 | 34,_=>rfl
 | 35,_=>rfl
 | 36,_=>rfl
 | 37,_=>rfl
 | 38,_=>rfl
 | 39,_=>rfl
 | 40,_=>rfl
 | 41,_=>rfl
 | 42,_=>rfl
 | 43,_=>rfl
 | 44,_=>rfl
 | 45,_=>rfl
 | 46,_=>rfl
 | 47,_=>rfl
 | 48,_=>rfl
 | 49,_=>rfl
 | 50,_=>rfl
 | 51,_=>rfl
 | 52,_=>rfl
 | 53,_=>rfl
 | 54,_=>rfl
 | 55,_=>rfl
 | 56,_=>rfl
 | 57,_=>rfl
 | 58,_=>rfl
 | 59,_=>rfl
 | k+60,h=>absurd h og
end Go.X.Gr
