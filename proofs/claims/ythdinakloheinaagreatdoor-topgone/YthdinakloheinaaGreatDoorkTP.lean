import Derived.Test.YthdinakloheinaaGreatDoorkFRM
set_option linter.all false
namespace Go.X.Fa
open Go Go.X
variable{m n p t w z:Int}{d:Int->Nat}{s:SF}
namespace SF
theorem Of{t:SF}(h:∀ i,0<=i->i<30->((t.cJ i=true/\t.aA i=m)↔(s.cJ i=true/\s.aA i=m))):t.gK m=s.gK m:=by
 grind [sc]
theorem Wr(h:∀ i,s.cJ i=true->s.aA i≠m):s.gK m=false:=by
 grind [sc]
theorem Ly{t:SF}(ha:t.di m=s.di m)(hf:t.xV m=s.xV m)(hq:t.ef m=s.ef m)(hu:t.ek m=s.ek m)(hk:t.gK m=s.gK m):t.ready m=s.ready m:=by
 grind [ready]
def si(s:SF)(n:Int):Prop:=∀ m,0<m->m<30->s.aa m=true->m≠n->s.cJ m=s.ready m
def si.go{t:SF}(h:s.si n)(hh:t.aa=s.aa)(hp:t.aA=s.aA)(ho:∀ m,m≠n->t.di m=s.di m/\t.xV m=s.xV m/\t.ef m=s.ef m/\t.ek m=s.ek m/\t.cJ m=s.cJ m)(hr:t.cJ n=t.ready n):t.si (s.aA n):=fun m m0 m1 m2 m3=>by
 grind [Of,si,ready]
theorem si.set(h:s.si n)(hn:n<=0):s.oc:=fun m m0 m1 m2=>h m m0 m1 m2 og
theorem oc.x(h:s.oc)(n:Int):s.si n:=fun m m0 m1 m2 _=>h m m0 m1 m2
theorem si.same{t:SF}(h:s.si n)(hh:t.aa=s.aa)(hk:∀ m,m≠n->t.gK m=s.gK m)(ho:∀ m,m≠n->t.di m=s.di m/\t.xV m=s.xV m/\t.ef m=s.ef m/\t.ek m=s.ek m/\t.cJ m=s.cJ m):t.si n:=fun m m0 m1 m2 m3=>by
 grind [Ly,si]
theorem Inv.ne(hI:s.Inv d)(n0:0<n)(n1:n<30)(n2:s.aa n=true):s.aA n≠n:=fun e=>by
 grind [Inv]
def Inv.next(hI:s.Inv d)(n0:0<n)(n1:n<30)(n2:s.aa n=true):s.aA n=0\/(0<s.aA n/\s.aA n<30/\s.aa (s.aA n)=true):=by
 grind [Inv]
def si.wM{s:SF}{d:Int->Nat}(hI:s.Inv d){n:Int}(n0:0<n)(n1:n<30)(n2:s.aa n=true)(h:s.si n):(s.wM n).si (s.aA n):=by
 refine h.go rfl rfl (fun m c=>⟨rfl,rfl,rfl,rfl,ae _ _ c⟩) ?_;show ad s.cJ n (s.ready n) n=SF.ready {s with cJ:=ad s.cJ n (s.ready n)} n;rw[ah,Bs (hI.ne n0 n1 n2)]
theorem LA(s:SF)(n m:Int)(h:m≠n):(s.Bl n).ek m=s.ek m:=by
 show(if 0<s.ef n then ad s.ek n (s.ek n+1)else s.ek) m=s.ek m;grind [ae]
def si.Bl{s:SF}{d:Int->Nat}(hI:s.Inv d){n:Int}(n0:0<n)(n1:n<30)(n2:s.aa n=true)(h:s.si n):(s.Bl n).si (s.aA n):=by
 refine h.go rfl rfl (fun m c=>⟨rfl,rfl,rfl,LA _ _ _ c,ae _ _ c⟩) ?_;show ad s.cJ n ((s.oO n).ready n) n=SF.ready {s.oO n with cJ:=ad (s.oO n).cJ n ((s.oO n).ready n)} n;rw[ah,Bs (s:=s.oO n) (hI.ne n0 n1 n2)]
def Hu{d:Int->Nat} :∀ (k:Nat) (s:SF) (n:Int),s.Inv d->(n=0\/(0<n/\n<30/\s.aa n=true))->s.si n->d n+1<=k->(iQ k s n).oc
 | 0,s,n,_,_,_,hk=>og
 | k+1,s,n,hI,hn,h,hk=>by
  rcases hn with rfl | ⟨n0,n1,n2⟩
  ·rw[nK _ _];exact h.set og
  ·rw[p9 _ _ n0];obtain⟨p0,p1,p2,p3⟩:=hI.up n n0 n1 n2;exact Hu k (s.wM n) (s.aA n) (hI.wM n0 n1 n2) (hI.next n0 n1 n2) (h.wM hI n0 n1 n2) og
def LB{d:Int->Nat} :∀ (k:Nat) (s:SF) (n B:Int),s.Inv d->(n=0\/(0<n/\n<30/\s.aa n=true))->s.si n->s.Tk->s.cb B->d n+1<=k->
  (xK k s n).oc/\(xK k s n).Inv d/\(xK k s n).Tk/\(xK k s n).cb (B+1048576*k)/\(xK k s n).iC=s.iC
 | 0,s,n,B,_,_,_,_,_,hk=>og
 | k+1,s,n,B,hI,hn,h,hT,hS,hk=>by
  rcases hn with rfl | ⟨n0,n1,n2⟩
  ·rw[Ht _ _ og];exact⟨h.set og,hI,hT,hS.mono og,rfl⟩
  ·rw[QJ _ _ n0];obtain⟨p0,p1,p2,p3⟩:=hI.up n n0 n1 n2;have hT2:(s.Bl n).Tk:=fun m m0 m1=>by
    obtain⟨t1,t2,t3,t4,t5⟩:=hT m m0 m1;refine⟨?_,t2,t3,t4,?_⟩
    ·show ad s.fk (s.aA n) _ m=0;grind [ae]
    ·by_cases c:m=n
     ·subst c;show(if 0<s.ef m then _ else s.ek) m=0;simp_all
     grind [LA]
   obtain⟨a1,a2,a3,a4,a5⟩:=LB k (s.Bl n) (s.aA n) (B+1048576) (hI.Bl n0 n1 n2) (hI.next n0 n1 n2) (h.Bl hI n0 n1 n2) hT2 (hS.Bl hI n0 n1 n2) og;exact⟨a1,a2,a3,a4.mono (by push_cast;omega),a5⟩
structure Ok(s:SF)(d:Int->Nat)(m:Nat)(t:Int):Prop where
 inv:s.Inv d
 aK:∀ n,0<=n->n<30->d n<=m
 set:s.oc
 tk:s.Tk
 uz:s.cb (2000000000*t)
 iC:0<=s.iC/\s.iC<=t
theorem Ok.mono{s:SF}{d:Int->Nat}{m m':Nat}{t t':Int}(h:s.Ok d m t)(hm:m<=m')(ht:t<=t'):s.Ok d m' t':=
 ⟨h.inv,fun n a b=>Nat.le_trans (h.aK n a b) hm,h.set,h.tk,h.uz.mono og,by have:=h.iC;omega⟩
def Ok.Og{m:Nat}(h:s.Ok d m t):∀ n,0<=n->n<10->s.aa n=true->(∀ i,s.cJ i=true->s.aA i≠n)->s.cJ n=false:=fun n n0 n1 n2 n3=>by
 by_cases c:n=0
 ·subst c;cases q:s.cJ 0 with
  | false=>rfl
  | true=>have:=(h.inv.cJ 0 q).1;omega
 ·rw[h.set n og og n2];grind [ready,Wr]
def zI{m:Nat}(hI:s.Inv d)(hd:∀ n,0<=n->n<30->d n<=m)(hn:0<n/\n<30/\s.aa n=true)(hX:s.si n)(hT:s.Tk)(hS:s.cb (2000000000*t))(hw:0<=s.iC/\s.iC<=t):(look d s n).Ok d m t:=by
 obtain⟨a1,a2,a3,a4,a5,a6,a7,a8,a9,a10,a11⟩:=kT (d n+1) s n;refine⟨vr hI (.inr hn),hd,Hu _ _ _ hI (.inr hn) hX (Nat.le_refl _),fun i i0 i1=> ?_,cb.iQ _ _ _ hI hS (.inr hn),?_⟩;all_goals grind [look,SF.Tk]
theorem Ok.gN{s:SF}{d:Int->Nat}{m:Nat}{t:Int}(h:s.Ok d m t)(n:Int)(on:Bool):(s.gN d n on).Ok d m t:=by
 by_cases c:s.zF n=0
 ·obtain⟨i1,i2,i3⟩:=Wm c;rw[aaQ c];exact zI (s:= {s with di:=ad s.di (10+n) on}) ⟨h.inv.h0,h.inv.up,h.inv.cJ,h.inv.quo,h.inv.wt⟩ h.aK ⟨og,og,i3⟩ ((h.set.x (10+n)).same rfl (fun _ _=>rfl) fun i q=>⟨ae _ _ q,rfl,rfl,rfl,rfl⟩) h.tk h.uz h.iC
 grind [gN]
def Ok.freeze{s:SF}{d:Int->Nat}{m:Nat}{t:Int}(h:s.Ok d m t)(n:Int)(on:Bool):(s.freeze d n on).Ok d m t:=by
 unfold SF.freeze;by_cases c:s.Gy n=0
 ·rw[if_pos c];obtain⟨g0,g1⟩:s.xL n=0/\n≠0:=by
   have:=s.Jd n;unfold Gy at c;split at c
   ·omega
   ·split at c<;>omega
  obtain⟨i1,i2,i3⟩:=Hq g0;refine zI (s:= {s with xV:=ad s.xV n on}) ⟨h.inv.h0,h.inv.up,h.inv.cJ,h.inv.quo,h.inv.wt⟩ h.aK ⟨og,og,i3⟩ ((h.set.x n).same rfl (fun _ _=>rfl) fun i q=>⟨rfl,ae _ _ q,rfl,rfl,rfl⟩) (fun i i0 i1=> ?_) h.uz h.iC;obtain⟨t1,t2,t3⟩:=h.tk i i0 i1;exact⟨t1,by show ad s.xV n on i=false;rw[ae _ _ og];exact t2,t3⟩
 ·rw[if_neg c];exact h
def Ok.zG{s:SF}{d:Int->Nat}{m:Nat}{t:Int}(h:s.Ok d m t)(ht:0<=t)(n q p:Int):(s.zG d n q p).Ok d m t:=by
 unfold SF.zG;by_cases c:s.uO n q p=0
 ·rw[if_pos c];obtain⟨g0,g1,g2,g3⟩:s.xL n=0/\n≠0/\0<=q/\1<=p:=by
   have:=s.Jd n;unfold uO at c;split at c
   ·omega
   ·split at c
    ·omega
    ·split at c<;>omega
  obtain⟨i1,i2,i3⟩:=Hq g0;refine zI (s:=s.ae5 n q p) ⟨h.inv.h0,h.inv.up,h.inv.cJ,fun i a b=> ?_,h.inv.wt⟩ h.aK ⟨og,og,i3⟩ ((h.set.x n).same rfl (fun _ _=>rfl) fun i q=>⟨rfl,rfl,ae _ _ q,ae _ _ q,rfl⟩) (fun i i0 i1=> ?_) (fun i a b=> ?_) h.iC
  ·show 0<=ad s.ef n q i/\(0<ad s.ef n q i->1<=ad s.ft n p i);have:=h.inv.quo i a b;unfold ad;split<;>omega
  ·obtain⟨t1,t2,t3,t4,t5⟩:=h.tk i i0 i1;refine⟨t1,t2,?_,?_,?_⟩
   ·show ad s.ef n q i=0;rw[ae _ _ og];exact t3
   ·show ad s.ft n p i=0;rw[ae _ _ og];exact t4
   ·show ad s.ek n 0 i=0;rw[ae _ _ og];exact t5
  ·exact cb.ek og h.uz n i a b
 ·rw[if_neg c];exact h
def Inv.afa(hI:s.Inv d)(hn:s.aa z=false):s.cJ z=false:=by
 grind [Inv]
def Em{B:Int}(hB:0<=B)(h:s.cb B)(z p w:Int)(b:Bool):(s.rk z p w b).cb B:=fun i a c=>by
 have hi:=h i a c;show 0<=ad s.v z 0 i/\ad s.v z 0 i<=B/\0<=ad s.fk z 0 i/\ad s.fk z 0 i<=B/\0<=ad s.wL z 0 i/\ad s.wL z 0 i<=B/\0<=ad s.ek z 0 i/\ad s.ek z 0 i<=B;unfold ad;split<;>omega
def QM(h:s.Tk)(z p w:Int)(b:Bool):(s.rk z p w b).Tk:=fun i a c=>by
 obtain⟨t1,t2,t3,t4,t5⟩:=h i a c;show ad s.fk z 0 i=0/\ad s.xV z false i=false/\ad s.ef z 0 i=0/\ad s.ft z 0 i=0/\ad s.ek z 0 i=0;grind [ah,ae]
def LC(h:s.oc)(hw:s.cJ z=false)(hk:∀ i,s.cJ i=true->s.aA i≠z)(p w:Int)(b:Bool):(s.rk z p w b).oc:=fun m m0 m1 m2=>by
 show ad s.cJ z false m=_;by_cases e:m=z
 ·simp_all[ready,ad,Wr,rk]
 ·have m3:ad s.aa z b m=true:=m2;rw[ae _ _ e]at m3 ⊢;rw[h m m0 m1 m3];refine(Ly (s:=s) (t:=s.rk z p w b) (ae _ _ e) (ae _ _ e) (ae _ _ e) (ae _ _ e) (Of fun i _ _=> ?_)).symm;show(ad s.cJ z false i=true/\ad s.aA z p i=m)↔_;grind [ah,ae]
theorem Ok.add{m:Nat}(h:s.Ok d m t)(ht:0<=t)(hz:0<z/\z<30)(hn:s.aa z=false)(hp:0<=p/\p<10/\s.aa p=true)(hw:1<=w):(s.rk z p w true).Ok (ad d z (d p+1)) (m+1) t:=by
 have hwz:=h.inv.afa hn;have hpz:¬p=z:=fun e=>by rw[e,hn]at hp;exact absurd hp.2.2 sq
 have gJ:∀ i,0<i->i<30->s.aa i=true->¬s.aA i=z:=fun i a b c e=>by
  have:=(h.inv.up i a b c).2.2.1;simp_all
 refine⟨⟨?_,fun i a b c=> ?_,fun i hi=> ?_,fun i a b=> ?_,fun i a b c=> ?_⟩,fun i a b=> ?_,LC h.set hwz (fun i hi=> ?_) p w true,QM h.tk z p w true,Em og h.uz z p w true,h.iC⟩
 ·show ad s.aa z true 0=true;rw[ae _ _ og];exact h.inv.h0
 ·have c2:ad s.aa z true i=true:=c;show 0<=ad s.aA z p i/\ad s.aA z p i<10/\ad s.aa z true (ad s.aA z p i)=true/\ad d z (d p+1) (ad s.aA z p i)<ad d z (d p+1) i;by_cases e:i=z
  ·grind [ad]
  ·rw[ae _ _ e]at c2;have hpi:=gJ i a b c2;rw[ae _ _ e,ae _ _ e,ae _ _ hpi,ae _ _ hpi];exact h.inv.up i a b c2
 ·have SD:ad s.cJ z false i=true:=hi;show 0<i/\i<30/\ad s.aa z true i=true;by_cases e:i=z
  ·grind [ad]
  ·rw[ae _ _ e]at SD ⊢;exact h.inv.cJ i SD
 ·show 0<=ad s.ef z 0 i/\(0<ad s.ef z 0 i->1<=ad s.ft z 0 i);have:=h.inv.quo i a b;grind [ad]
 ·have c2:ad s.aa z true i=true:=c;show 1<=ad s.wt z w i;by_cases e:i=z
  ·grind [ad]
  ·rw[ae _ _ e]at c2 ⊢;exact h.inv.wt i a b c2
 ·have h1:=h.aK i a b;grind [Ok.aK,ad]
 ·obtain⟨a,b,c⟩:=h.inv.cJ i hi;simp_all
theorem Ok.drop{m:Nat}(h:s.Ok d m t)(ht:0<=t)(hz:0<z/\z<30)(hk:∀ i,0<i->i<30->¬(s.aa i=true/\s.aA i=z))(hw:s.cJ z=false):(s.rk z 0 0 false).Ok d m t:=by
 refine⟨⟨?_,fun i a b c=> ?_,fun i hi=> ?_,fun i a b=> ?_,fun i a b c=> ?_⟩,h.aK,LC h.set hw (fun i hi=> ?_) 0 0 false,QM h.tk z 0 0 false,Em og h.uz z 0 0 false,h.iC⟩
 ·show ad s.aa z false 0=true;rw[ae _ _ og];exact h.inv.h0
 ·have c2:ad s.aa z false i=true:=c;show 0<=ad s.aA z 0 i/\ad s.aA z 0 i<10/\ad s.aa z false (ad s.aA z 0 i)=true/\d (ad s.aA z 0 i)<d i;by_cases e:i=z
  ·grind [ah]
  ·rw[ae _ _ e]at c2;have hpi:¬s.aA i=z:=fun q=>hk i og b ⟨c2,q⟩;rw[ae _ _ e,ae _ _ hpi];exact h.inv.up i a b c2
 ·have SD:ad s.cJ z false i=true:=hi;show 0<i/\i<30/\ad s.aa z false i=true;by_cases e:i=z
  ·grind [ah]
  ·rw[ae _ _ e]at SD ⊢;exact h.inv.cJ i SD
 ·show 0<=ad s.ef z 0 i/\(0<ad s.ef z 0 i->1<=ad s.ft z 0 i);have:=h.inv.quo i a b;grind [ad]
 ·have c2:ad s.aa z false i=true:=c;show 1<=ad s.wt z 0 i;by_cases e:i=z
  ·grind [ah]
  ·rw[ae _ _ e]at c2 ⊢;exact h.inv.wt i a b c2
 ·obtain⟨a,b,c⟩:=h.inv.cJ i hi;simp_all
def Ok.uM{s:SF}{d:Int->Nat}{m:Nat}{t:Int}(h:s.Ok d m t)(ht:0<=t)(n p w:Int):∃ d',(s.uM n p w).Ok d' (m+1) t:=by
 unfold SF.uM;by_cases c:s.mQ n p w=0
 ·rw[if_pos c];unfold mQ at c;split at c
  ·omega
  ·split at c
   ·omega
   ·have hh:s.aa n=false:=by simpa using (by assumption:¬s.aa n=true)
    have hn0:n≠0:=fun e=>by rw[e,h.inv.h0]at hh;cases hh
    exact⟨_,h.add ht ⟨og,og⟩ hh (Hq c) og⟩
 ·rw[if_neg c];exact⟨d,h.mono og og⟩
def Ok.uN{s:SF}{d:Int->Nat}{m:Nat}{t:Int}(h:s.Ok d m t)(ht:0<=t)(n p w:Int):∃ d',(s.uN n p w).Ok d' (m+1) t:=by
 unfold SF.uN;by_cases c:s.mR n p w=0
 ·rw[if_pos c];unfold mR at c;split at c
  ·omega
  ·split at c
   ·omega
   ·have hh:s.aa (10+n)=false:=by simpa using (by assumption:¬s.aa (10+n)=true)
    exact⟨_,h.add ht ⟨og,og⟩ hh (Hq c) og⟩
 ·rw[if_neg c];exact⟨d,h.mono og og⟩
def Ok.qa{s:SF}{d:Int->Nat}{m:Nat}{t:Int}(h:s.Ok d m t)(ht:0<=t)(n:Int):(s.qa n).Ok d m t:=by
 unfold SF.qa;by_cases c:s.oP n=0
 ·rw[if_pos c];have hg:=s.Jd n;unfold oP at c;split at c
  ·omega
  ·split at c
   ·omega
   ·rename_i c1 c2;obtain⟨i1,i2,i3⟩:=Hq (show s.xL n=0 by omega);have hk:∀ i,0<i->i<30->¬(s.aa i=true/\s.aA i=n):=fun i a b q=>c2 (.inr (QH og b q.1 q.2));have hn0:n≠0:=fun e=>c2 (.inl e);refine h.drop ht ⟨og,og⟩ hk (h.Og n i1 i2 i3 fun i hi=> ?_);obtain⟨a,b,c⟩:=h.inv.cJ i hi;exact fun q=>hk i og b ⟨c,q⟩
 ·rw[if_neg c];exact h
def Ok.xW{s:SF}{d:Int->Nat}{m:Nat}{t:Int}(h:s.Ok d m t)(ht:0<=t)(n:Int):(s.xW d n).Ok d m t:=by
 unfold SF.xW;by_cases c:s.zF n=0
 ·rw[if_pos c];obtain⟨i1,i2,i3⟩:=Wm c;obtain⟨w1,w2,w3,w4,_⟩:=Lx h.inv i1 i2 i3;refine(h.gN n false).drop ht ⟨og,og⟩ (fun i a b q=> ?_) w2;have:=(w1.up i a b q.1).2.1;omega
 ·rw[if_neg c];exact h
def Ok.move{s:SF}{d:Int->Nat}{m:Nat}{t:Int}(h:s.Ok d m t)(ht:0<=t)(n g:Int):∃ d',(s.move d n g).Ok d' (m+1) t:=by
 unfold SF.move;by_cases c:s.fl n g=0
 ·rw[if_pos c];have hn:=s.ae4 n;have hg:=s.Jd g;unfold fl at c;split at c
  ·omega
  ·obtain⟨i1,i2,i3⟩:=Wm (show s.zF n=0 by omega);obtain⟨k1,k2,k3⟩:=Hq c;obtain⟨w1,w2,w3,w4,w5⟩:=Lx h.inv i1 i2 i3;have hw:=h.gN n false;refine⟨_,zI (s:=mv1 d s n g) (w1.adD (n:=10+n) (g:=g) ⟨og,og⟩ ⟨k1,k2,by rw[w3];exact k3⟩ w2 _ _) (fun i a b=> ?_) ⟨og,og,?_⟩ ((hw.set.x (10+n)).same rfl (fun i q=>Of fun j _ _=> ?_) fun i q=>⟨?_,rfl,rfl,rfl,rfl⟩) hw.tk (fun i a b=> ?_) hw.iC⟩
   ·have h1:=h.aK i a b;have h2:=h.aK g k1 og;unfold ad;split<;>omega
   ·show(s.gN d n false).aa (10+n)=true;rw[w3];exact i3
   ·show((s.gN d n false).cJ j=true/\ad (s.gN d n false).aA (10+n) g j=i)↔_;by_cases e:j=10+n
    ·subst e;rw[w2];simp
    ·rw[ae _ _ e]
   ·exact ae _ _ q
   ·have:=hw.uz i a b;show 0<=ad (s.gN d n false).v (10+n) 0 i/\ad (s.gN d n false).v (10+n) 0 i<=2000000000*t/\_;refine⟨?_,?_,this.2.2⟩<;>(unfold ad;split<;>omega)
 ·rw[if_neg c];exact⟨d,h.mono og og⟩
theorem Ok.nJ{s:SF}{d:Int->Nat}{m:Nat}{t:Int}(h:s.Ok d m t)(ht:0<=t):∀ k:Nat,k<=9->(SF.nJ d s k).Ok d m t/\(SF.nJ d s k).iC=s.iC
 | 0,_=>⟨h,rfl⟩
 | k+1,hk=>by
  obtain⟨h1,h2⟩:=h.nJ ht k og;show(vl d (SF.nJ d s k) ((k:Int)+1)).Ok d m t/\(vl d (SF.nJ d s k) ((k:Int)+1)).iC=s.iC;unfold vl;split
  ·rename_i c;refine⟨zI (s:= {SF.nJ d s k with ek:=ad (SF.nJ d s k).ek ((k:Int)+1) 0}) ⟨h1.inv.h0,h1.inv.up,h1.inv.cJ,h1.inv.quo,h1.inv.wt⟩ h1.aK ⟨og,og,c.1⟩ ((h1.set.x _).same rfl (fun _ _=>rfl) fun i q=>⟨rfl,rfl,rfl,ae _ _ q,rfl⟩) (fun i i0 i1=> ?_) (cb.ek og h1.uz _) h1.iC,(kT _ _ _).2.2.2.2.2.2.2.2.2.2.trans h2⟩;obtain⟨t1,t2,t3,t4,t5⟩:=h1.tk i i0 i1;grind [ad]
  simp_all
def Ok.p7{s:SF}{d:Int->Nat}{m:Nat}{t:Int}(h:s.Ok d m t)(ht:0<=t):(s.p7 d).Ok d m (t+1):=by
 obtain⟨h1,h2⟩:=h.nJ ht 9 (Nat.le_refl _);have hn:=h.iC;exact⟨⟨h1.inv.h0,h1.inv.up,h1.inv.cJ,h1.inv.quo,h1.inv.wt⟩,h1.aK,h1.set,h1.tk,cb.mono (s:=SF.nJ d s 9) h1.uz og,by show 0<=s.iC+1/\s.iC+1<=t+1;omega⟩
def Ws{s:SF}{d:Int->Nat}(hI:s.Inv d):∀ (k:Nat) (a:Int),(0<=a/\a<30/\s.aa a=true)->Jc d 30<k+d a->0<=NJ s k a->10<=NJ s k a/\NJ s k a<30/\s.aa (NJ s k a)=true
 | 0,a,ha,hk,_=>by have:=Dt d 30 a ha.1 og;omega
 | k+1,a,ha,hk,h0=>by
  by_cases c:10<=a
  ·grind [NJ]
  ·by_cases hb:s.p6 a<0
   ·grind [NJ]
   ·rw[Od _ _ c hb]at h0 ⊢;obtain⟨⟨b1,b2,b3⟩,b4,b5⟩:=zH (fun i hi=>⟨(hI.cJ i hi).1,(hI.cJ i hi).2.1⟩) hb;have hbI:=hI.cJ _ b1;have hd:=(hI.up _ b4 b5 hbI.2.2).2.2.2;rw[b2]at hd;exact Ws hI k _ ⟨og,b5,hbI.2.2⟩ og h0
def Wt(hI:(s.p7 d).Inv d)(h:¬b8 d s<0):10<=b8 d s/\b8 d s<30/\(s.p7 d).aa (b8 d s)=true:=by
 unfold b8 at h ⊢;exact Ws hI _ 0 ⟨og,og,hI.h0⟩ og og
def Ok.l8{s:SF}{d:Int->Nat}{m:Nat}{t:Int}(h:s.Ok d m t)(ht:0<=t)(hm:m<=900):(s.l8 d).2.Ok d m (t+1):=by
 have h0:=h.p7 ht;unfold SF.l8;split
 ·exact h0
 ·rename_i c;obtain⟨w1,w2,w3⟩:=Wt h0.inv c;obtain⟨h1,h2⟩:=h.nJ ht 9 (Nat.le_refl _);have hs:(s.p7 d).cb (2000000000*t):=cb.mono (s:=SF.nJ d s 9) h1.uz og;obtain⟨a1,a2,a3,a4,a5⟩:=LB (d (b8 d s)+1) (s.p7 d) (b8 d s) (2000000000*t) h0.inv (.inr ⟨og,w2,w3⟩) (h0.set.x _) h0.tk hs (Nat.le_refl _);have hd:=h0.aK (b8 d s) og w2;exact⟨a2,h0.aK,a1,a3,a4.mono (by push_cast;omega),by rw[a5];exact h0.iC⟩
def QN:SF.cR.Ok (fun _=>0) 0 0:=by
 have hh:∀ n:Int,SF.cR.aa n=true->n=0:=fun n h=>by
  have h2:ad (fun _:Int=>false) 0 true n=true:=h;grind [ae]
 have hw:∀ n:Int,SF.cR.cJ n=false:=fun n=>by
  show ad (fun _:Int=>false) 0 false n=false;grind [ad]
 have hz:∀ n:Int,ad (fun _:Int=>(0:Int)) 0 0 n=0:=fun n=>by unfold ad;split<;>rfl
 refine⟨⟨ah (fun _:Int=>false) 0 true,fun n a b c=>(by have:=hh n c;omega),fun n h=>(by rw[hw n]at h;cases h),fun n a b=> ?_,fun n a b c=> ?_⟩,fun n a b=>Nat.le_refl _,fun n a b c=>(by have:=hh n c;omega),fun n a b=> ?_,fun n a b=> ?_,by show 0<=(0:Int)/\(0:Int)<=0;omega⟩
 ·show 0<=ad (fun _:Int=>(0:Int)) 0 0 n/\(0<ad (fun _:Int=>(0:Int)) 0 0 n->_);simp_all
 ·have:=hh n c;subst this;show 1<=ad (fun _:Int=>(0:Int)) 0 1 0;grind [ah]
 ·refine⟨hz n,?_,hz n,hz n,hz n⟩;show ad (fun _:Int=>false) 0 false n=false;grind [ad]
 ·show 0<=ad (fun _:Int=>(0:Int)) 0 0 n/\ad (fun _:Int=>(0:Int)) 0 0 n<=_/\0<=ad (fun _:Int=>(0:Int)) 0 0 n/\ad (fun _:Int=>(0:Int)) 0 0 n<=_/\0<=ad (fun _:Int=>(0:Int)) 0 0 n/\ad (fun _:Int=>(0:Int)) 0 0 n<=_/\0<=ad (fun _:Int=>(0:Int)) 0 0 n/\ad (fun _:Int=>(0:Int)) 0 0 n<=_;simp_all
end SF
namespace SF
def LD(d:Int->Nat)(s:SF)(n:Int):(vl d s n).aa=s.aa:=by
 unfold vl;split
 ·exact nL _ _ _
 ·rfl
theorem wO(d:Int->Nat)(s:SF):∀ k,(nJ d s k).aa=s.aa
 | 0=>rfl
 | k+1=>(LD _ _ _).trans (wO d s k)
def Hv:∀ (k:Nat) (s:SF) (n:Int),(xK k s n).aa=s.aa
 | 0,_,_=>rfl
 | k+1,s,n=>by
  unfold xK;split
  ·rfl
  ·exact Hv k (s.Bl n) (s.aA n)
theorem Bt(d:Int->Nat)(s:SF):(s.l8 d).2.aa=s.aa:=by
 unfold l8;split
 ·exact wO d s 9
 ·exact(Hv _ _ _).trans (wO d s 9)
theorem sj(d:Int->Nat)(s:SF)(n:Int)(on:Bool):(s.gN d n on).aa=s.aa:=by
 unfold gN;split
 ·exact nL _ _ _
 ·rfl
theorem LF(d:Int->Nat)(s:SF)(n:Int)(on:Bool):(s.freeze d n on).aa=s.aa:=by
 unfold freeze;split
 ·exact nL _ _ _
 ·rfl
theorem S7(d:Int->Nat)(s:SF)(n q p:Int):(s.zG d n q p).aa=s.aa:=by
 unfold zG;split
 ·exact nL _ _ _
 ·rfl
theorem S8(d:Int->Nat)(s:SF)(n g:Int):(s.move d n g).aa=s.aa:=by
 unfold move;split
 ·exact(nL _ _ _).trans (sj d s n false)
 ·rfl
def Hw(h:(s.uN n p w).aa (10+m)=true):m=n\/s.aa (10+m)=true:=by
 unfold uN at h;split at h
 ·by_cases e:m=n
  ·exact .inl e
  ·right;have h:ad s.aa (10+n) true (10+m)=true:=h;rwa[ae _ _ og]at h
 ·exact .inr h
def Oh(m0:0<=m)(m1:m<20)(h:(s.xW d n).aa (10+m)=true):m≠n/\s.aa (10+m)=true:=by
 unfold xW at h;split at h
 ·have h:ad (s.gN d n false).aa (10+n) false (10+m)=true:=h;by_cases e:m=n
  ·subst e;rw[ah]at h;cases h
  ·rw[ae _ _ og,sj]at h;exact⟨e,h⟩
 ·rename_i c;refine⟨?_,h⟩;rintro rfl;exact c (by unfold zF;rw[if_neg og,if_pos h])
def S9(m0:0<=m)(h:(s.uM n p w).aa (10+m)=true):s.aa (10+m)=true:=by
 unfold uM at h;split at h
 ·rename_i c;have h:ad s.aa n true (10+m)=true:=h;unfold mQ at c;rwa[ae _ _ (by intro e;rw[if_pos og]at c;omega)]at h
 ·exact h
def Oi(h:(s.qa n).aa (10+m)=true):s.aa (10+m)=true:=by
 unfold qa at h;split at h
 ·have h:ad s.aa n false (10+m)=true:=h;by_cases e:10+m=n
  ·rw[e,ah]at h;cases h
  ·rwa[ae _ _ e]at h
 ·exact h
def Wu{m:Nat}(h:s.Ok d m t)(ht:0<=t):(s.l8 d).1<0\/(0<=(s.l8 d).1/\(s.l8 d).1<20/\(s.l8 d).2.aa (10+(s.l8 d).1)=true):=by
 rw[Bt];unfold l8;split
 ·left;show(-1:Int)<0;omega
 ·rename_i c;right;obtain⟨w1,w2,w3⟩:=Wt (h.p7 ht).inv c;show 0<=b8 d s-10/\b8 d s-10<20/\s.aa (10+(b8 d s-10))=true;rw[show 10+(b8 d s-10)=b8 d s by omega];exact⟨og,og,by rw[<-wO d s 9];exact w3⟩
end SF
end Go.X.Fa

namespace Go.X.Sg
open Go Go.X
variable{on:Bool}{h n:Int}{x:Nat}
def nx(f:Int->Bool):Nat->Nat
 | 0=>0
 | n+1=>nx f n|||(if f n then 2^n else 0)
theorem jf(f:Int->Bool)(n j:Nat):(nx f n).testBit j=(decide (j<n)&&f j):=by
 induction n with
 | zero=>simp[nx]
 | succ n ih=>
  simp only[nx,Nat.testBit_or,ih];by_cases h:j=n
  ·grind
  ·grind
def qz(f:Int->Bool):Nat:=nx f 9
theorem mT(f:Int->Bool)(j:Nat):(qz f).testBit j=(decide (j<9)&&f j):=jf f 9 j
def kD(f:Int->Bool):qz f<2^IntKind.u16.bits:=by
 refine Nat.lt_of_lt_of_le (m:=2^9) ?_ dq;apply Nat.lt_pow_two_of_testBit;grind [mT]
def jE(h:1<=n/\n<=8):2^n.toNat<2^IntKind.u16.bits:=Nat.pow_lt_pow_right og (by show n.toNat<16;omega)
def wP(h:1<=n/\n<=8:=by omega):IntKind.u16.wrap (1*2^(min n.toNat IntKind.u16.bits))=((2^n.toNat:Nat):Int):=by
 have:n=1\/n=2\/n=3\/n=4\/n=5\/n=6\/n=7\/n=8:=og;rcases this with rfl | rfl | rfl | rfl | rfl | rfl | rfl | rfl<;>decide
def LG(f:Int->Bool)(h:1<=n/\n<=8:=by omega):qz f|||2^n.toNat=qz (ad f n true):=by
 apply Nat.eq_of_testBit_eq;grind [mT,ad]
def tu(f:Int->Bool)(h:1<=n/\n<=8:=by omega):mN (qz f) (2^n.toNat)=qz (ad f n false):=by
 apply Nat.eq_of_testBit_eq;grind [mT,ad,mN]
structure BS where
 dc:Int->Bool
 bu:Int->Bool
 kt:Int->Int
def BS.cR:BS:=⟨fun _=>false,fun _=>false,fun _=>0⟩
def BS.Bu(s:BS)(n:Int):Int:=if n=3/\s.kt n=0 then 1 else s.kt n
def BS.num(n:Int):Bool:=decide (1<=n/\n<=8)
def BS.send(s:BS)(n:Int):Int×BS:=if BS.num n then(0,if s.Bu n=1 then s else {s with dc:=ad s.dc n true})else(1,s)
def BS.dX(s:BS)(n:Int)(on:Bool):Int×BS:=if BS.num n then(if n=1 then(8,s)else(0,{s with bu:=ad s.bu n on}))else(1,s)
def BS.set(s:BS)(n h:Int):Int×BS:=
 if BS.num n=true/\0<=h/\h<=2 then(if n=1 then(8,s)else
  (0,if({s with kt:=ad s.kt n h} :BS).Bu n=1 then {dc:=ad s.dc n false,bu:=s.bu,kt:=ad s.kt n h} else {s with kt:=ad s.kt n h}))else(1,s)
def BS.first(s:BS)(h:Int):Int:=match dW (fun k=>s.dc k&&(!s.bu k&&decide (s.kt k=h))) 9 with
 | some k=>k
 | none=>0
def BS.take(s:BS):Int×BS:=(s.first 2,{s with dc:=ad s.dc (s.first 2) false})
def BS.aW(s:BS):BS:= {s with dc:=fun _=>false}
def cZ(i:Nat):Value:=.int .u8 ((([0,1,28,2,29,14,24,3,30,22,20,15,25,17,4,8,31,27,13,23,21,19,16,7,26,12,18,6,11,5,10,9]:List Int)[i]?).getD 0)
abbrev g8:aG:=.ro 0 0 32 cZ
def fQ(s:BS)(i:Nat):Value:=
 if i=0 then .int .u16 (((qz s.dc):Nat):Int)else
 if i=1 then .int .u16 (((qz s.bu):Nat):Int)else
 if 2<=i/\(i-2)%1=0/\(i-2)/1<9 then iI (s.kt (((i-2)/1:Nat):Int))else
 undef
abbrev f7(b0 o0:Nat)(s:BS):aG:=.cells b0 o0 11 (fQ s)
def pj(s:BS):(0+0)<11/\fQ s (0+0)= .int .u16 (((qz s.dc):Nat):Int):=by
 grind [fQ]
def po(s:BS):(0+1)<11/\fQ s (0+1)= .int .u16 (((qz s.bu):Nat):Int):=by
 grind [fQ]
def od(s:BS)(z0:Int)(q0:0<=z0/\z0<9:=by omega):((0+2)+z0.toNat*1)<11/\fQ s ((0+2)+z0.toNat*1)=iI (s.kt z0):=by
 grind [fQ]
def Gz(s:BS)(z0:Int)(q0:0<=z0/\z0<9)(v:Int):((0+2)+z0.toNat*1)<11/\ep (fQ s) ((0+2)+z0.toNat*1) (iI (v))=fQ ({s with kt:=ad s.kt z0 v}):=by
 grind [ep,ad,fQ]
theorem ig(n:Int):BS.num n=true↔1<=n/\n<=8:=by simp[BS.num]
theorem GA{s:BS}{k:Int}(h0:0<=k/\k<9)(hw:s.dc k=true)(hh:s.bu k=false)(he:s.kt k=h)(hn:∀ j:Int,0<=j->j<k->¬(s.dc j=true/\s.bu j=false/\s.kt j=h)):s.first h=k:=by
 unfold BS.first
 rw[fw (k:=k) h0.1 og (by simp[hw,hh,he]) (fun j h1 h2=>by
  have:=hn j h1 h2
  simp only[not_and]at this
  cases q1:s.dc j<;>cases q2:s.bu j<;>simp
  exact this q1 q2)]
 show((k.toNat:Nat):Int)=k;omega
theorem GB{s:BS}(hn:∀ j:Int,0<=j->j<9->¬(s.dc j=true/\s.bu j=false/\s.kt j=h)):s.first h=0:=by
 grind [BS.first,fx]
def BS.vt(s:BS)(h:Int)(h0:s.dc 0=false):s.first h=0\/(1<=s.first h/\s.first h<=8):=by
 grind [BS.first,dW]
def aiu{t:Nat}(ht:t<16):IntKind.u32.wrap (((2^t:Nat):Int))=((2^t:Nat):Int)/\IntKind.u32.wrap (((2^t:Nat):Int)*125613361)=((2^t*125613361%4294967296:Nat):Int)/\(((2^t*125613361%4294967296:Nat):Int)).fdiv (2^(min (27:Int).toNat IntKind.u32.bits))=((2^t*125613361%4294967296/134217728:Nat):Int)/\(2^t*125613361%4294967296/134217728)<32/\IntKind.i64.wrap (t:Int)=t:=by
 have:t=0\/t=1\/t=2\/t=3\/t=4\/t=5\/t=6\/t=7\/t=8\/t=9\/t=10\/t=11\/t=12\/t=13\/t=14\/t=15:=og;rcases this with rfl | rfl | rfl | rfl | rfl | rfl | rfl | rfl | rfl | rfl | rfl | rfl | rfl | rfl | rfl | rfl<;>decide
def Oj{t:Nat}(ht:t<16):0+(((2^t*125613361%4294967296/134217728:Nat):Int)).toNat*1<32/\cZ (0+(((2^t*125613361%4294967296/134217728:Nat):Int)).toNat*1)= .int .u8 (t:Int):=by
 have:t=0\/t=1\/t=2\/t=3\/t=4\/t=5\/t=6\/t=7\/t=8\/t=9\/t=10\/t=11\/t=12\/t=13\/t=14\/t=15:=og;rcases this with rfl | rfl | rfl | rfl | rfl | rfl | rfl | rfl | rfl | rfl | rfl | rfl | rfl | rfl | rfl | rfl<;>exact⟨dq,rfl⟩
def aaR(h:0<x/\x<65536):IntKind.u16.wrap (0-(x:Int))=((2^16-x:Nat):Int):=by
 have:((0-(x:Int))%(2^16:Int))=((2^16-x:Nat):Int):=by
  omega
 simpa [IntKind.wrap,IntKind.signed,IntKind.bits]using this
def aaS(h:0<x/\x<65536):IntKind.u16.wrap ((x:Int)-1)=((x-1:Nat):Int):=by
 rw[show(x:Int)-1=((x-1:Nat):Int)from og];exact oy rfl (Nat.lt_of_le_of_lt (Nat.sub_le _ _) h.2)
def wQ(s:BS){w':Int->Bool}(h:x=qz w'):(0+0)<11/\ep (fQ s) (0+0) (.int .u16 (x:Int))=fQ {s with dc:=w'} :=by
 grind [ep,fQ]
def Bv(s:BS){w':Int->Bool}(h:x=qz w'):(0+1)<11/\ep (fQ s) (0+1) (.int .u16 (x:Int))=fQ {s with bu:=w'} :=by
 grind [ep,fQ]
def nM(s:BS):0+11<=11/\dB (fQ s) 0 11= .agg #[.int .u16 ((qz s.dc:Nat):Int),.int .u16 ((qz s.bu:Nat):Int),iI (s.kt 0),iI (s.kt 1),iI (s.kt 2),iI (s.kt 3),iI (s.kt 4),iI (s.kt 5),iI (s.kt 6),iI (s.kt 7),iI (s.kt 8)]:=⟨og,rfl⟩
def Wv{C:Nat->Value}(hC:∀ i,11<=i->C i=undef)(s:BS):0+11<=11/\cY C 0 [.int .u16 ((qz s.dc:Nat):Int),.int .u16 ((qz s.bu:Nat):Int),iI (s.kt 0),iI (s.kt 1),iI (s.kt 2),iI (s.kt 3),iI (s.kt 4),iI (s.kt 5),iI (s.kt 6),iI (s.kt 7),iI (s.kt 8)]=fQ s:=by
 refine⟨og,?_⟩;funext i;match i with
 | 0=>rfl
 | 1=>rfl
 | 2=>rfl
 | 3=>rfl
 | 4=>rfl
 | 5=>rfl
 | 6=>rfl
 | 7=>rfl
 | 8=>rfl
 | 9=>rfl
 | 10=>rfl
 | k+11=>
  have e2:fQ s (k+11)=undef:=by
   grind [fQ]
  rw[e2];have:=hC (k+11) og;simp[cY,ep,this]
def Ta:∀ i,i<11->cellsOf (Value.agg #[.int .u16 0,.int .u16 0,iI 0,iI 0,iI 0,iI 0,iI 0,iI 0,iI 0,iI 0,iI 0]).cells i=fQ BS.cR i:=fun i hi=>match i,hi with
 | 0,_=>rfl
 | 1,_=>rfl
 | 2,_=>rfl
 | 3,_=>rfl
 | 4,_=>rfl
 | 5,_=>rfl
 | 6,_=>rfl
 | 7,_=>rfl
 | 8,_=>rfl
 | 9,_=>rfl
 | 10,_=>rfl
 | k+11,h=>absurd h og
theorem Ol{s:BS}(h:n<1\/n>8):s.send n=(1,s):=by
 grind [BS.send,ig]
theorem LH{s:BS}(h:1<=n/\n<=8)(hd:s.Bu n=1):s.send n=(0,s):=by
 grind [BS.send,ig]
theorem BS.aaT{s:BS}(h:1<=n/\n<=8)(hd:¬s.Bu n=1):s.send n=(0,{s with dc:=ad s.dc n true}):=by
 grind [BS.send,ig]
theorem yE{s:BS}(h:n<1\/n>8):s.dX n on=(1,s):=by
 grind [BS.dX,ig]
theorem vu{s:BS}(h:n=1):s.dX n on=(8,s):=by
 subst h;rfl
theorem BS.QO{s:BS}(h:1<=n/\n<=8)(h1:¬n=1):s.dX n on=(0,{s with bu:=ad s.bu n on}):=by
 grind [BS.dX,ig]
theorem Tc{s:BS}(q:n<1\/n>8\/h<0\/h>2):s.set n h=(1,s):=by
 grind [BS.set,ig]
theorem Om{s:BS}(q:n=1)(q2:0<=h/\h<=2):s.set n h=(8,s):=by
 grind [BS.set,ig]
theorem BS.aaU{s:BS}(q:1<=n/\n<=8)(q2:0<=h/\h<=2)(q1:¬n=1)(hd:({s with kt:=ad s.kt n h} :BS).Bu n=1):s.set n h=(0,{dc:=ad s.dc n false,bu:=s.bu,kt:=ad s.kt n h}):=by
 grind [BS.set,ig]
theorem BS.afb{s:BS}(q:1<=n/\n<=8)(q2:0<=h/\h<=2)(q1:¬n=1)(hd:¬({s with kt:=ad s.kt n h} :BS).Bu n=1):s.set n h=(0,{s with kt:=ad s.kt n h}):=by
 grind [BS.set,ig]
theorem On{f:Int->Bool}(h:f n=false):ad f n false=f:=da f h
theorem Jg{s:BS}(h:s.first 2=0)(h0:s.dc 0=false):s.take=(0,s):=by
 simp_all[BS.take,On]
theorem Ww(f:Int->Bool):qz f<512:=by
 have:qz f<2^9:=by
  apply Nat.lt_pow_two_of_testBit;grind [mT]
 omega
def LI{s:BS} :∀ i,11<=i->fQ s i=undef:=by
 grind [fQ]
end Go.X.Sg

namespace Go.X.Sp
open Go Go.X
variable{a k n p q z:Int}{w:Int->Int->Int}{aK:Int->Nat}
structure SS where
 aa:Int->Bool
 aA:Int->Int
 b8:Int->Int->Int
 loc:Int->Int
structure FrS where
 p:Int
 f:Int->Int
def GC(k:Int):Int->Int:=fun q=>if 0<=q/\q<k then-1 else 0
theorem LJ(k:Int)(h:0<=k:=by omega):ad (GC k) k (-1)=GC (k+1):=by
 grind [ad,GC]
def Td(p:Int):Array Value:= #[.bool true,iI p,iI (-1),iI (-1),iI (-1),iI (-1),iI (-1),iI (-1),iI (-1),iI (-1),iI (-1),iI (-1),iI (-1),iI (-1),iI (-1),iI (-1),iI (-1),iI (-1),iI (-1),iI (-1),iI (-1),iI (-1),iI (-1)]
def SS.is(s:SS)(n:Int):Int:=if n<0\/6<=n then 1 else if s.aa n then 0 else 2
def SS.jW(s:SS):Nat->Int->List Int
 | 0,_=>[]
 | k+1,n=>n::s.jW k (s.aA n)
structure SS.Deep (s:SS) (aK:Int->Nat):Prop where
 d:∀ n,0<=n->n<6->s.aa n=true->1<=aK n/\aK n<=4/\((s.aA n= -1/\aK n=1)\/(0<=s.aA n/\s.aA n<6/\s.aa (s.aA n)=true/\aK n=aK (s.aA n)+1))
def SS.cU(s:SS)(aK:Int->Nat)(n:Int):List Int:=s.jW (aK n) n
theorem SS.qL(s:SS):∀ (k:Nat) (n:Int),(s.jW k n).length=k
 | 0,_=>rfl
 | k+1,n=>by simp only[SS.jW,List.length_cons,s.qL k]
def eB(f:Int->Int):Nat->List Int
 | 0=>[]
 | k+1=>eB f k++(if f k>=0 then [f k]else [])
def SS.dY(s:SS)(n:Int):List Int:=eB (s.b8 n) 21
def oQ(f:Int->Int):∀ k,(eB f k).length<=k
 | 0=>by simp[eB]
 | k+1=>by
  have:=oQ f k;grind [eB]
def fF(f:Int->Bool):Nat->List Int
 | 0=>[]
 | k+1=>fF f k++(if f k then [(k:Int)]else [])
def mw(f:Int->Bool):∀ k,(fF f k).length<=k
 | 0=>by simp[fF]
 | k+1=>by
  have:=mw f k;grind [fF]
def SS.bZ(s:SS)(p:Int):Int×Int:=if p<0\/20<=p then(0,1)else if s.loc p<0 then(0,2)else(s.loc p,0)
def SS.add(s:SS)(aK:Int->Nat)(p:Int):Int×Int×SS:=
 if s.is p≠0 then(0,s.is p,s)else if aK p=4 then(0,7,s)else
 match dW (fun k=> !s.aa k) 6 with
 | some k=>(k,0,{s with aa:=ad s.aa k true,aA:=ad s.aA k p})
 | none=>(0,4,s)
def SS.kids(s:SS)(n:Int):Option Nat:=dW (fun k=>s.aa k&&(s.aA k==n)) 6
def SS.drop(s:SS)(n:Int):Int×SS:=
 if s.is n≠0 then(s.is n,s)else if n=0\/(s.dY n).length>0 then(5,s)else
 match s.kids n with
 | some _=>(5,s)
 | none=>(0,{s with aa:=ad s.aa n false,aA:=ad s.aA n 0})
def SS.zero:SS:=⟨fun _=>false,fun _=>0,fun _ _=> -1,fun _=>0⟩
def SS.pq:SS:= {SS.zero with aa:=ad SS.zero.aa 0 true,aA:=ad SS.zero.aA 0 (-1)}
def SS.cR:SS:= {SS.pq with loc:=GC 20}
def vv(w:Int->Int->Int)(a p:Int):Int->Int->Int:=match dW (fun q=>decide (w a (q+1)<0)) 20 with
 | some q=>bW w a ((q:Int)+1) p
 | none=>w
def jg(w:Int->Int->Int)(p:Int):List Int->(Int->Int->Int)
 | []=>w
 | a::r=>jg (vv w a p) p r
def SS.mem(s:SS)(n:Int):List Int×Int:=if s.is n≠0 then([],s.is n)else(s.dY n,0)
def SS.js(s:SS)(p n:Int):Int×Int:=if s.is n≠0 then(0,s.is n)else if p<0\/20<=p then(0,1)else
 match dW (fun q=>s.b8 n q==p) 21 with
 | some q=>(q,0)
 | none=>(0,2)
def SS.fI(s:SS)(aK:Int->Nat)(n p:Int):SS:= {s with loc:=ad s.loc p n,b8:=jg s.b8 p (s.cU aK n)}
def SS.enter(s:SS)(aK:Int->Nat)(n p:Int):Int×Int×SS:=
 if s.is n≠0 then(0,s.is n,s)else if p<0\/20<=p then(0,1,s)else if 0<=s.loc p then(0,3,s)else
 (((s.fI aK n p).js p n).1,((s.fI aK n p).js p n).2,s.fI aK n p)
def SS.left(s:SS)(p:Int):SS:= {s with b8:=fun n q=>if s.b8 n q=p then-1 else s.b8 n q,loc:=ad s.loc p (-1)}
def SS.fL(s:SS)(p:Int):Int×SS:=if(s.bZ p).2≠0 then((s.bZ p).2,s)else(0,s.left p)
def SS.find(s:SS)(n q:Int):Int×Int:=if s.is n≠0 then(0,s.is n)else if q<1\/20<q then(0,2)else if s.b8 n q<0 then(0,2)else(s.b8 n q,0)
def aM(s:SS)(i:Nat):Value:=
 if i%23=0/\i/23<6 then .bool (s.aa ((i/23:Nat):Int))else
 if 1<=i/\(i-1)%23=0/\(i-1)/23<6 then iI (s.aA (((i-1)/23:Nat):Int))else
 if 2<=i/\(i-2)/23<6/\((i-2)%23)%1=0/\((i-2)%23)/1<21 then iI (if s.aa (((i-2)/23:Nat):Int)then s.b8 (((i-2)/23:Nat):Int) ((((i-2)%23)/1:Nat):Int)else 0)else
 if 138<=i/\(i-138)%1=0/\(i-138)/1<20 then iI (s.loc (((i-138)/1:Nat):Int))else
 undef
abbrev bY(b0 o0:Nat)(s:SS):aG:=.cells b0 o0 158 (aM s)
def lv(s:SS)(z0:Int)(q0:0<=z0/\z0<6:=by omega):(((0+0)+z0.toNat*23)+0)<158/\aM s (((0+0)+z0.toNat*23)+0)= .bool (s.aa z0):=by
 grind [aM]
def l9(s:SS)(z0:Int)(q0:0<=z0/\z0<6:=by omega):(((0+0)+z0.toNat*23)+1)<158/\aM s (((0+0)+z0.toNat*23)+1)=iI (s.aA z0):=by
 grind [aM]
def zJ(s:SS)(z0:Int)(z1:Int)(q0:0<=z0/\z0<6)(q1:0<=z1/\z1<21):((((0+0)+z0.toNat*23)+2)+z1.toNat*1)<158/\aM s ((((0+0)+z0.toNat*23)+2)+z1.toNat*1)=iI (if s.aa z0 then s.b8 z0 z1 else 0):=by
 grind [aM]
def ma(s:SS)(z0:Int)(z1:Int)(q0:0<=z0/\z0<6)(q1:0<=z1/\z1<21)(hc:s.aa z0=true):((((0+0)+z0.toNat*23)+2)+z1.toNat*1)<158/\aM s ((((0+0)+z0.toNat*23)+2)+z1.toNat*1)=iI (s.b8 z0 z1):=by
 grind [aM]
def qM(s:SS)(z0:Int)(z1:Int)(q0:0<=z0/\z0<6)(q1:0<=z1/\z1<21)(hc:s.aa z0=true)(v:Int):((((0+0)+z0.toNat*23)+2)+z1.toNat*1)<158/\ep (aM s) ((((0+0)+z0.toNat*23)+2)+z1.toNat*1) (iI (v))=aM ({s with b8:=bW s.b8 z0 z1 v}):=by
 refine⟨og,?_⟩;funext j;unfold ep;grind [bW,aM]
def tv(s:SS)(z0:Int)(q0:0<=z0/\z0<20:=by omega):((0+138)+z0.toNat*1)<158/\aM s ((0+138)+z0.toNat*1)=iI (s.loc z0):=by
 grind [aM]
def tA(s:SS)(z0:Int)(q0:0<=z0/\z0<20)(v:Int):((0+138)+z0.toNat*1)<158/\ep (aM s) ((0+138)+z0.toNat*1) (iI (v))=aM ({s with loc:=ad s.loc z0 v}):=by
 grind [ep,ad,aM]
def xX(s:FrS)(i:Nat):Value:=
 if i=0 then .bool (true)else
 if i=1 then iI (s.p)else
 if 2<=i/\(i-2)%1=0/\(i-2)/1<21 then iI (s.f (((i-2)/1:Nat):Int))else
 undef
def En(s:FrS)(z0:Int)(q0:0<=z0/\z0<21)(v:Int):((0+2)+z0.toNat*1)<23/\ep (xX s) ((0+2)+z0.toNat*1) (iI (v))=xX ({s with f:=ad s.f z0 v}):=by
 grind [ep,ad,xX]
def tB:Array Value:= #[.bool false,iI 0,iI 0,iI 0,iI 0,iI 0,iI 0,iI 0,iI 0,iI 0,iI 0,iI 0,iI 0,iI 0,iI 0,iI 0,iI 0,iI 0,iI 0,iI 0,iI 0,iI 0,iI 0]
theorem SS.kg(s:SS)(n:Int):(s.is n=0/\0<=n/\n<6/\s.aa n=true)\/(s.is n=1/\(n<0\/6<=n))\/(s.is n=2/\0<=n/\n<6/\s.aa n=false):=by
 grind [SS.is]
def Wx(p:Int):0+23<=23/\dB (xX ⟨p,GC 21⟩) 0 23= .agg (Td p):=⟨og,rfl⟩
theorem Wy(s:FrS):∀ i,23<=i->xX s i=undef:=by
 grind [xX]
theorem QP(C:Nat->Value):∀ (vs:List Value) (o i:Nat),i<o->cY C o vs i=C i:=by
 intro vs;induction vs generalizing C with
 | nil=>intro o i _;rfl
 | cons v r ih=>
  intro o i h;rw[cY,ih _ _ _ og];simp[ep];omega
theorem Jh(C:Nat->Value):∀ (vs:List Value) (o i:Nat),o+vs.length<=i->cY C o vs i=C i:=by
 intro vs;induction vs generalizing C with
 | nil=>intro o i _;rfl
 | cons v r ih=>
  intro o i h;simp only[List.length_cons]at h;rw[cY,ih _ _ _ og];simp[ep];omega
def QQ(C:Nat->Value):∀ (vs:List Value) (o j:Nat) (v:Value),vs[j]? =some v->cY C o vs (o+j)=v:=by
 intro vs;induction vs generalizing C with
 | nil=>intro o j v h;simp at h
 | cons u r ih=>
  intro o j v h;cases j with
  | zero=>
   simp at h;rw[cY,QP _ _ _ _ og];simp[ep,h]
  | succ j=>
   simp at h;rw[cY,show o+(j+1)=o+1+j from og];exact ih _ _ _ _ h
def afc(C:Nat->Value)(hC:∀ i,23<=i->C i=undef)(p:Int):0+23<=23/\cY C 0 (Td p).toList=xX ⟨p,GC 21⟩:=by
 refine⟨og,?_⟩;funext i;by_cases h:i<23
 ·have e:(Td p).toList[i]? =some (xX ⟨p,GC 21⟩ i):=by
   have:i=0\/i=1\/i=2\/i=3\/i=4\/i=5\/i=6\/i=7\/i=8\/i=9\/i=10\/i=11\/i=12\/i=13\/i=14\/i=15\/i=16\/i=17\/i=18\/i=19\/i=20\/i=21\/i=22:=og;rcases this with rfl | rfl | rfl | rfl | rfl | rfl | rfl | rfl | rfl | rfl | rfl | rfl | rfl | rfl | rfl | rfl | rfl | rfl | rfl | rfl | rfl | rfl | rfl<;>rfl
  have:=QQ C (Td p).toList 0 i _ e;simp_all
 ·rw[Jh _ _ _ _ (by show 0+23<=i;omega),hC i og,Wy _ i og]
def Wz(p:Int)(C:Nat->Value)(hC:∀ i,23<=i->C i=undef):0+23<=23/\cY C 0 [.bool true,iI p,iI 0,iI 0,iI 0,iI 0,iI 0,iI 0,iI 0,iI 0,iI 0,iI 0,iI 0,iI 0,iI 0,iI 0,iI 0,iI 0,iI 0,iI 0,iI 0,iI 0,iI 0]=xX ⟨p,GC 0⟩:=by
 refine⟨og,?_⟩;funext i;by_cases h:i<23
 ·have:i=0\/i=1\/i=2\/i=3\/i=4\/i=5\/i=6\/i=7\/i=8\/i=9\/i=10\/i=11\/i=12\/i=13\/i=14\/i=15\/i=16\/i=17\/i=18\/i=19\/i=20\/i=21\/i=22:=og;rcases this with rfl | rfl | rfl | rfl | rfl | rfl | rfl | rfl | rfl | rfl | rfl | rfl | rfl | rfl | rfl | rfl | rfl | rfl | rfl | rfl | rfl | rfl | rfl<;>rfl
 ·rw[Jh _ _ _ _ (by show 0+23<=i;omega),hC i og,Wy _ i og]
def LK:∀ i,23<=i->cellsOf tB i=undef:=by
 simp_all[tB,cellsOf]
def Eo(s:SS)(n:Int)(q:0<=n/\n<6)(hc:s.aa n=true):(((0+0)+n.toNat*23)+2)+21<=158/\dB (aM s) (((0+0)+n.toNat*23)+2) 21= .agg (IZ (s.b8 n) 21):=by
 refine⟨og,?_⟩;unfold dB IZ;congr 2;apply List.map_congr_left;grind [aM]
def GD(f:Int->Int)(k:Nat):(f k>=0->eB f (k+1)=eB f k++[f k])/\(¬f k>=0->eB f (k+1)=eB f k):=by
 grind [eB]
def GF(f:Int->Int)(h:0<=k):(f k>=0->eB f (k+1).toNat=eB f k.toNat++[f k])/\(¬f k>=0->eB f (k+1).toNat=eB f k.toNat):=by
 have:=GD f k.toNat;grind
theorem SS.Ep{s:SS}(hi:s.is n=0)(hp:¬(p<0\/20<=p))(hq:0<=q/\q<21)(h:s.b8 n q=p)(hn:∀ j:Int,0<=j->j<q->s.b8 n j≠p):s.js p n=(q,0):=by
 unfold SS.js;rw[if_neg (by simp[hi]),if_neg hp,fw (k:=q) hq.1 og (by simpa using h) fun j h1 h2=>by simpa using hn j h1 h2];grind
theorem CG{s:SS}(hi:s.is n=0)(hp:¬(p<0\/20<=p))(hn:∀ j:Int,0<=j->j<21->s.b8 n j≠p):s.js p n=(0,2):=by
 grind [SS.js,fx]
theorem Er{s:SS}(h:s.is n≠0):s.js p n=(0,s.is n):=by grind [SS.js]
theorem tC{s:SS}(h:s.is n=0)(hp:p<0\/20<=p):s.js p n=(0,1):=by grind [SS.js]
theorem LL{s:SS}(h:s.is n≠0):s.find n q=(0,s.is n):=by grind [SS.find]
theorem tD{s:SS}(h:s.is n=0)(hq:q<1\/20<q\/s.b8 n q<0):s.find n q=(0,2):=by
 grind [SS.find]
theorem Oo{s:SS}(h:s.is n=0)(hq:¬(q<1\/20<q))(hw:¬s.b8 n q<0):s.find n q=(s.b8 n q,0):=by
 grind [SS.find]
theorem LN{s:SS}(h:p<0\/20<=p):s.bZ p=(0,1):=by unfold SS.bZ;rw[if_pos h]
theorem SS.aaV{s:SS}(hD:s.Deep aK)(h:0<=n/\n<6/\s.aa n=true)(hp:s.aA n= -1):s.jW (aK n) n=[n]:=by
 obtain⟨h1,_,h3⟩:=hD.d n h.1 h.2.1 h.2.2;grind [jW]
theorem SS.LO{s:SS}(hD:s.Deep aK)(h:0<=n/\n<6/\s.aa n=true)(hp:¬s.aA n= -1):s.jW (aK n) n=n::s.jW (aK (s.aA n)) (s.aA n)/\0<=s.aA n/\s.aA n<6/\s.aa (s.aA n)=true/\aK (s.aA n)<aK n:=by
 obtain⟨h1,_,h3⟩:=hD.d n h.1 h.2.1 h.2.2;grind [jW]
def SS.Du(s:SS)(aK:Int->Nat)(n:Int):(s.cU aK n).length=aK n:=s.qL _ _
theorem SS.Ji{s:SS}(h:s.is p≠0):s.add aK p=(0,s.is p,s):=by grind [SS.add]
theorem SS.Es{s:SS}(h:s.is p=0)(h2:aK p=4):s.add aK p=(0,7,s):=by grind [SS.add]
theorem SS.Et{s:SS}(h:s.is p=0)(h2:¬aK p=4)(hk:0<=k/\k<6)(hh:s.aa k=false)(hn:∀ j:Int,0<=j->j<k->s.aa j=true):s.add aK p=(k,0,{s with aa:=ad s.aa k true,aA:=ad s.aA k p}):=by
 unfold SS.add;rw[if_neg (by simp[h]),if_neg h2,fw (k:=k) hk.1 og (by simp[hh]) fun j h1 h2=>by simp[hn j h1 h2]];grind
theorem LP{s:SS}(h:s.is p=0)(h2:¬aK p=4)(hn:∀ j:Int,0<=j->j<6->s.aa j=true):s.add aK p=(0,4,s):=by
 grind [SS.add,fx]
theorem LQ{s:SS}(h:s.is n≠0):s.drop n=(s.is n,s):=by grind [SS.drop]
theorem zK{s:SS}(h:s.is n=0)(h2:n=0\/(s.dY n).length>0):s.drop n=(5,s):=by grind [SS.drop]
theorem LR{s:SS}(h:s.is n=0)(h2:¬(n=0\/(s.dY n).length>0))(hk:0<=k/\k<6)(hh:s.aa k=true)(hp:s.aA k=n)(hn:∀ j:Int,0<=j->j<k->¬(s.aa j=true/\s.aA j=n)):s.drop n=(5,s):=by
 unfold SS.drop SS.kids;rw[if_neg (by simp[h]),if_neg h2,fw (k:=k) hk.1 og (by simp[hh,hp]) (fun j h1 h2=>by have:=hn j h1 h2;simp only[not_and]at this;cases q:s.aa j<;>simp;exact this q)]
theorem SS.aaW{s:SS}(h:s.is n=0)(h2:¬(n=0\/(s.dY n).length>0))(hn:∀ j:Int,0<=j->j<6->¬(s.aa j=true/\s.aA j=n)):s.drop n=(0,{s with aa:=ad s.aa n false,aA:=ad s.aA n 0}):=by
 grind [SS.drop,SS.kids,fx]
def Bw(f:Int->Bool)(h:0<=k):(f k=true->fF f (k+1).toNat=fF f k.toNat++[k])/\(f k=false->fF f (k+1).toNat=fF f k.toNat):=by
 have e:((k.toNat:Nat):Int)=k:=og;rw[show(k+1).toNat=k.toNat+1 from og];grind [fF]
def LS(s s':SS)(k:Int)(q:0<=k/\k<6)(vs:List Value)(hl:vs.length=23)(h0:vs[0]? =some (.bool (s'.aa k)))(h1:vs[1]? =some (iI (s'.aA k)))(h2:∀ j:Nat,j<21->vs[j+2]? =some (iI (if s'.aa k then s'.b8 k j else 0)))(hh:∀ n,¬n=k->s'.aa n=s.aa n)(hp:∀ n,¬n=k->s'.aA n=s.aA n)(hw:s'.b8=s.b8)(ho:s'.loc=s.loc):0+0+k.toNat*23+23<=158/\cY (aM s) (0+0+k.toNat*23) vs=aM s':=by
 refine⟨og,?_⟩;funext i;by_cases ha:i<0+0+k.toNat*23
 ·rw[QP _ _ _ _ ha];grind [aM]
 ·by_cases hb:i<0+0+k.toNat*23+23
  ·obtain⟨j,rfl⟩:∃ j,i=0+0+k.toNat*23+j:=⟨i-(0+0+k.toNat*23),og⟩;have hj:j<23:=og;apply QQ _ _ _ _ _;by_cases j0:j=0
   ·grind [aM]
   ·by_cases j1:j=1
    ·subst j1;rw[h1];exact congrArg some (l9 s' k q).2.symm
    ·have h3:=(zJ s' k ((j-2:Nat):Int) q og).2;have h4:=h2 (j-2) og;rw[show j-2+2=j from og]at h4;rw[h4,<-h3];congr 2;omega
  grind [Jh,aM]
def Eu(s:SS)(k p:Int)(q:0<=k/\k<6)(hw:∀ j,s.b8 k j= -1):0+0+k.toNat*23+23<=158/\cY (aM s) (0+0+k.toNat*23) (Td p).toList=aM {s with aa:=ad s.aa k true,aA:=ad s.aA k p} :=by
 refine LS s _ k q _ rfl (by simp[ad];rfl) (by simp[ad];rfl) (fun j hj=> ?_) (fun n hn=>by simp[ad,hn]) (fun n hn=>by simp[ad,hn]) rfl rfl;simp only[ad,if_true,hw];have:j=0\/j=1\/j=2\/j=3\/j=4\/j=5\/j=6\/j=7\/j=8\/j=9\/j=10\/j=11\/j=12\/j=13\/j=14\/j=15\/j=16\/j=17\/j=18\/j=19\/j=20:=og;rcases this with rfl | rfl | rfl | rfl | rfl | rfl | rfl | rfl | rfl | rfl | rfl | rfl | rfl | rfl | rfl | rfl | rfl | rfl | rfl | rfl | rfl<;>rfl
def Oq(s:SS)(k:Int)(q:0<=k/\k<6):0+0+k.toNat*23+23<=158/\cY (aM s) (0+0+k.toNat*23) tB.toList=aM {s with aa:=ad s.aa k false,aA:=ad s.aA k 0} :=by
 refine LS s _ k q _ rfl (by simp[ad];rfl) (by simp[ad];rfl) (fun j hj=> ?_) (fun n hn=>by simp[ad,hn]) (fun n hn=>by simp[ad,hn]) rfl rfl;simp only[ad,if_true];have:j=0\/j=1\/j=2\/j=3\/j=4\/j=5\/j=6\/j=7\/j=8\/j=9\/j=10\/j=11\/j=12\/j=13\/j=14\/j=15\/j=16\/j=17\/j=18\/j=19\/j=20:=og;rcases this with rfl | rfl | rfl | rfl | rfl | rfl | rfl | rfl | rfl | rfl | rfl | rfl | rfl | rfl | rfl | rfl | rfl | rfl | rfl | rfl | rfl<;>rfl
def adE:Array Value:= #[.bool false,iI 0,iI 0,iI 0,iI 0,iI 0,iI 0,iI 0,iI 0,iI 0,iI 0,iI 0,iI 0,iI 0,iI 0,iI 0,iI 0,iI 0,iI 0,iI 0,iI 0,iI 0,iI 0,.bool false,iI 0,iI 0,iI 0,iI 0,iI 0,iI 0,iI 0,iI 0,iI 0,iI 0,iI 0,iI 0,iI 0,iI 0,iI 0,iI 0,iI 0,iI 0,iI 0,iI 0,iI 0,iI 0,.bool false,iI 0,iI 0,iI 0,iI 0,iI 0,iI 0,iI 0,iI 0,iI 0,iI 0,iI 0,iI 0,iI 0,iI 0,iI 0,iI 0,iI 0,iI 0,iI 0,iI 0,iI 0,iI 0,.bool false,iI 0,iI 0,iI 0,iI 0,iI 0,iI 0,iI 0,iI 0,iI 0,iI 0,iI 0,iI 0,iI 0,iI 0,iI 0,iI 0,iI 0,iI 0,iI 0,iI 0,iI 0,iI 0,.bool false,iI 0,iI 0,iI 0,iI 0,iI 0,iI 0,iI 0,iI 0,iI 0,iI 0,iI 0,iI 0,iI 0,iI 0,iI 0,iI 0,iI 0,iI 0,iI 0,iI 0,iI 0,iI 0,.bool false,iI 0,iI 0,iI 0,iI 0,iI 0,iI 0,iI 0,iI 0,iI 0,iI 0,iI 0,iI 0,iI 0,iI 0,iI 0,iI 0,iI 0,iI 0,iI 0,iI 0,iI 0,iI 0,iI 0,iI 0,iI 0,iI 0,iI 0,iI 0,iI 0,iI 0,iI 0,iI 0,iI 0,iI 0,iI 0,iI 0,iI 0,iI 0,iI 0,iI 0,iI 0,iI 0]
set_option maxRecDepth 20000 in def Te:∀ i,i<158->cellsOf adE i=aM SS.zero i:=fun i hi=>match i,hi with
 | 0,_=>rfl
 | 1,_=>rfl
 | 2,_=>rfl
 | 3,_=>rfl
 | 4,_=>rfl
 | 5,_=>rfl
 | 6,_=>rfl
 | 7,_=>rfl
 | 8,_=>rfl
 | 9,_=>rfl
 | 10,_=>rfl
 | 11,_=>rfl
 | 12,_=>rfl
 | 13,_=>rfl
 | 14,_=>rfl
 | 15,_=>rfl
 | 16,_=>rfl
 | 17,_=>rfl
 | 18,_=>rfl
 | 19,_=>rfl
 | 20,_=>rfl
 | 21,_=>rfl
 | 22,_=>rfl
 | 23,_=>rfl
 | 24,_=>rfl
 | 25,_=>rfl
 | 26,_=>rfl
 | 27,_=>rfl
 | 28,_=>rfl
 | 29,_=>rfl
 | 30,_=>rfl
 | 31,_=>rfl
 | 32,_=>rfl
 | 33,_=>rfl
 | 34,_=>rfl
 | 35,_=>rfl
 | 36,_=>rfl
 | 37,_=>rfl
 | 38,_=>rfl
 | 39,_=>rfl
 | 40,_=>rfl
 | 41,_=>rfl
 | 42,_=>rfl
 | 43,_=>rfl
 | 44,_=>rfl
 | 45,_=>rfl
 | 46,_=>rfl
 | 47,_=>rfl
 | 48,_=>rfl
 | 49,_=>rfl
 | 50,_=>rfl
 | 51,_=>rfl
 | 52,_=>rfl
 | 53,_=>rfl
 | 54,_=>rfl
 | 55,_=>rfl
 | 56,_=>rfl
 | 57,_=>rfl
 | 58,_=>rfl
 | 59,_=>rfl
 | 60,_=>rfl
 | 61,_=>rfl
 | 62,_=>rfl
 | 63,_=>rfl
 | 64,_=>rfl
 | 65,_=>rfl
 | 66,_=>rfl
 | 67,_=>rfl
 | 68,_=>rfl
 | 69,_=>rfl
 | 70,_=>rfl
 | 71,_=>rfl
 | 72,_=>rfl
 | 73,_=>rfl
 | 74,_=>rfl
 | 75,_=>rfl
 | 76,_=>rfl
 | 77,_=>rfl
 | 78,_=>rfl
 | 79,_=>rfl
 | 80,_=>rfl
 | 81,_=>rfl
 | 82,_=>rfl
 | 83,_=>rfl
 | 84,_=>rfl
 | 85,_=>rfl
 | 86,_=>rfl
 | 87,_=>rfl
 | 88,_=>rfl
 | 89,_=>rfl
 | 90,_=>rfl
 | 91,_=>rfl
 | 92,_=>rfl
 | 93,_=>rfl
 | 94,_=>rfl
 | 95,_=>rfl
 | 96,_=>rfl
 | 97,_=>rfl
 | 98,_=>rfl
 | 99,_=>rfl
 | 100,_=>rfl
 | 101,_=>rfl
 | 102,_=>rfl
 | 103,_=>rfl
 | 104,_=>rfl
 | 105,_=>rfl
 | 106,_=>rfl
 | 107,_=>rfl
 | 108,_=>rfl
 | 109,_=>rfl
 | 110,_=>rfl
 | 111,_=>rfl
 | 112,_=>rfl
 | 113,_=>rfl
 | 114,_=>rfl
 | 115,_=>rfl
 | 116,_=>rfl
 | 117,_=>rfl
 | 118,_=>rfl
 | 119,_=>rfl
 | 120,_=>rfl
 | 121,_=>rfl
 | 122,_=>rfl
 | 123,_=>rfl
 | 124,_=>rfl
 | 125,_=>rfl
 | 126,_=>rfl
 | 127,_=>rfl
 | 128,_=>rfl
 | 129,_=>rfl
 | 130,_=>rfl
 | 131,_=>rfl
 | 132,_=>rfl
 | 133,_=>rfl
 | 134,_=>rfl
 | 135,_=>rfl
 | 136,_=>rfl
 | 137,_=>rfl
 | 138,_=>rfl
 | 139,_=>rfl
 | 140,_=>rfl
 | 141,_=>rfl
 | 142,_=>rfl
 | 143,_=>rfl
 | 144,_=>rfl
 | 145,_=>rfl
 | 146,_=>rfl
 | 147,_=>rfl
 | 148,_=>rfl
 | 149,_=>rfl
 | 150,_=>rfl
 | 151,_=>rfl
 | 152,_=>rfl
 | 153,_=>rfl
 | 154,_=>rfl
 | 155,_=>rfl
 | 156,_=>rfl
 | 157,_=>rfl
 | k+158,h=>absurd h og
theorem WA:GC 0=fun _=>0:=by
 funext q;simp only[GC];rw[if_neg og]
theorem SS.nN{s s':SS}(h:s'.aA=s.aA):∀ (k:Nat) (n:Int),s'.jW k n=s.jW k n
 | 0,_=>rfl
 | k+1,n=>by simp only[SS.jW,h,SS.nN h k]
def SS.Jj{s:SS}{aK:Int->Nat}(hD:s.Deep aK):∀ (k:Nat) (n:Int),aK n=k->0<=n->n<6->s.aa n=true->∀ a∈s.jW k n,0<=a/\a<6/\s.aa a=true
 | 0,n,hk,h0,h6,hh,a,ha=>by have:=(hD.d n h0 h6 hh).1;omega
 | k+1,n,hk,h0,h6,hh,a,ha=>by
  obtain⟨_,_,h3⟩:=hD.d n h0 h6 hh;simp only[SS.jW,List.mem_cons]at ha;rcases ha with rfl | ha
  ·simp_all
  ·rcases h3 with⟨_,h4⟩ | ⟨h4,h5,h6',h7⟩
   ·simp_all[jW]
   ·exact SS.Jj hD k _ og h4 h5 h6' a ha
def tE{zs:List Int}(h:0<=z/\z<zs.length):jK zs z∈zs:=by
 grind [jK]
def Hy{s:SS}(hD:s.Deep aK)(h:0<=n/\n<6/\s.aa n=true)(hz:0<=z/\z<(s.cU aK n).length):0<=jK (s.cU aK n) z/\jK (s.cU aK n) z<6/\s.aa (jK (s.cU aK n) z)=true:=
 SS.Jj hD _ n rfl h.1 h.2.1 h.2.2 _ (tE hz)
theorem LU{zs:List Int}(h:0<=z/\z<zs.length):zs.drop z.toNat=jK zs z::zs.drop (z+1).toNat:=by
 grind [List.drop_eq_getElem_cons,jK]
theorem Tf(hk:1<=k/\k<=20)(h:w a k<0)(hn:∀ j:Int,1<=j->j<k->¬w a j<0):vv w a p=bW w a k p:=by
 unfold vv;rw[fw (k:=k-1) og og (by rw[show k-1+1=k from og];simpa using h) fun j h1 h2=>by simpa using hn (j+1) og og];grind
theorem Tg(hn:∀ j:Int,1<=j->j<21->¬w a j<0):vv w a p=w:=by
 grind [vv,fx]
theorem zL{s:SS}(h:s.is n≠0):s.enter aK n p=(0,s.is n,s):=by grind [SS.enter]
theorem qd{s:SS}(h:s.is n=0)(h2:p<0\/20<=p):s.enter aK n p=(0,1,s):=by grind [SS.enter]
theorem vw{s:SS}(h:s.is n=0)(h2:¬(p<0\/20<=p))(h3:0<=s.loc p):s.enter aK n p=(0,3,s):=by grind [SS.enter]
theorem SS.zM{s:SS}(h:s.is n=0)(h2:¬(p<0\/20<=p))(h3:¬ 0<=s.loc p):s.enter aK n p=(((s.fI aK n p).js p n).1,((s.fI aK n p).js p n).2,s.fI aK n p):=by grind [SS.enter]
def De(w:Int->Int->Int)(a p k:Int):Int->Int->Int:=fun m q=>if m=a/\0<=q/\q<k/\w m q=p then-1 else w m q
theorem Th(w:Int->Int->Int)(a p:Int):De w a p 0=w:=by
 grind [De]
theorem LV(hk:0<=k)(h:w a k=p):bW (De w a p k) a k (-1)=De w a p (k+1):=by
 grind [bW,De]
theorem Hz(h:¬w a k=p):De w a p k=De w a p (k+1):=by
 grind [De]
def Ot(w:Int->Int->Int)(l:List Int)(p:Int):Int->Int->Int:=fun m q=>if m∈l/\0<=q/\q<21/\w m q=p then-1 else w m q
theorem WB(w:Int->Int->Int)(p:Int):Ot w [] p=w:=by
 rfl
theorem Ti{l:List Int}(hp:0<=p)(hz:0<=z/\z<l.length):De (Ot w (l.take z.toNat) p) (jK l z) p 21=Ot w (l.take (z+1).toNat) p:=by
 have h2:z.toNat<l.length:=og;have ht:l.take (z+1).toNat=l.take z.toNat++[jK l z]:=by
  rw[show(z+1).toNat=z.toNat+1 from og,List.take_add_one];grind [jK]
 grind [De,Ot]
theorem WC{s:SS}{l:List Int}(hW:∀ n q,s.b8 n q=p->n∈l/\0<=q/\q<21):Ot s.b8 l p=fun n q=>if s.b8 n q=p then-1 else s.b8 n q:=by
 grind [Ot]
structure SS.Inv (s:SS) (aK:Int->Nat):Prop where
 D:s.Deep aK
 A:∀ k,s.aa k=false->∀ j,s.b8 k j= -1
 z:∀ n,s.b8 n 0= -1
 lo:∀ n q,-1<=s.b8 n q
 loc:∀ p,-1<=s.loc p/\s.loc p<6
 at_:∀ p,0<=p->p<20->0<=s.loc p->s.aa (s.loc p)=true
 mem:∀ n q p,0<=p->s.b8 n q=p->p<20/\0<q/\q<21/\0<=s.loc p/\n∈s.cU aK (s.loc p)
 inj:∀ n q q',0<=s.b8 n q->s.b8 n q'=s.b8 n q->q'=q
 has:∀ p,0<=p->p<20->0<=s.loc p->∀ n∈s.cU aK (s.loc p),∃ q,s.b8 n q=p
theorem SS.Inv.cR:SS.cR.Inv (fun _=>1) where
 D:=⟨fun n h0 h6 hh=>by
  have hn:n=0:=by
   by_cases q:n=0
   ·exact q
   ·simp[SS.cR,SS.pq,SS.zero,ad,q]at hh
  subst hn
  exact⟨og,og,.inl ⟨by simp[SS.cR,SS.pq,ad],rfl⟩⟩⟩
 A:=fun _ _ _=>rfl
 z:=fun _=>rfl
 lo:=fun _ _=>by show(-1:Int)<= -1;omega
 loc:=fun p=>by
  show-1<=GC 20 p/\GC 20 p<6
  unfold GC;split<;>omega
 at_:=fun p h0 h1 h2=>by
  have:SS.cR.loc p= -1:=by show GC 20 p= -1;unfold GC;rw[if_pos ⟨h0,h1⟩]
  omega
 mem:=fun n q p h0 h1=>by
  have:SS.cR.b8 n q= -1:=rfl
  omega
 inj:=fun n q q' h0 _=>by
  have:SS.cR.b8 n q= -1:=rfl
  omega
 has:=fun p h0 h1 h2=>by
  have:SS.cR.loc p= -1:=by show GC 20 p= -1;unfold GC;rw[if_pos ⟨h0,h1⟩]
  omega
def SS.QR{s:SS}{aK:Int->Nat}(hD:s.Deep aK):∀ (k:Nat) (n:Int),aK n=k->0<=n->n<6->s.aa n=true->∀ a∈s.jW k n,aK a<=k
 | 0,n,hk,h0,h6,hh,a,ha=>by have:=(hD.d n h0 h6 hh).1;omega
 | k+1,n,hk,h0,h6,hh,a,ha=>by
  obtain⟨_,_,h3⟩:=hD.d n h0 h6 hh;simp only[SS.jW,List.mem_cons]at ha;rcases ha with rfl | ha
  ·omega
  ·rcases h3 with⟨_,h4⟩ | ⟨h4,h5,h6',h7⟩
   ·simp_all[jW]
   ·have:=SS.QR hD k _ og h4 h5 h6' a ha;omega
def SS.wR{s:SS}{aK:Int->Nat}(hD:s.Deep aK):∀ (k:Nat) (n:Int),aK n=k->0<=n->n<6->s.aa n=true->(s.jW k n).Nodup
 | 0,n,_,_,_,_=>List.nodup_nil
 | k+1,n,hk,h0,h6,hh=>by
  obtain⟨_,_,h3⟩:=hD.d n h0 h6 hh;rw[SS.jW,List.nodup_cons];rcases h3 with⟨_,h4⟩ | ⟨h4,h5,h6',h7⟩
  ·simp_all[jW]
  ·refine⟨fun hm=> ?_,SS.wR hD k _ og h4 h5 h6'⟩;have:=SS.QR hD k _ og h4 h5 h6' n hm;omega
def aaX(h:∃ q,1<=q/\q<=20/\w a q<0):∃ k,1<=k/\k<=20/\w a k<0/\vv w a p=bW w a k p:=by
 unfold vv;cases hf:dW (fun q=>decide (w a (q+1)<0)) 20 with
 | none=>
  exfalso;obtain⟨q,h1,h2,h3⟩:=h;unfold dW at hf;have:=List.find?_eq_none.1 hf (q-1).toNat (List.mem_range.2 og);simp only[show(((q-1).toNat:Nat):Int)+1=q from og]at this;simp[h3]at this
 | some k=>
  unfold dW at hf;have h1:=List.find?_some hf;have h2:=List.mem_range.1 (List.mem_of_find?_eq_some hf);exact⟨(k:Int)+1,og,og,by simpa using h1,rfl⟩
def wS(p:Int):∀ (l:List Int) (w:Int->Int->Int),l.Nodup->(∀ a∈l,∃ q,1<=q/\q<=20/\w a q<0)->
  (∀ a,¬a∈l->∀ q,jg w p l a q=w a q)/\(∀ a∈l,∃ k,1<=k/\k<=20/\w a k<0/\∀ q,jg w p l a q=if q=k then p else w a q)
 | [],w,_,_=>⟨fun _ _ _=>rfl,fun a ha=>by cases ha⟩
 | b::r,w,hn,hf=>by
  obtain⟨hb,hr⟩:=List.nodup_cons.1 hn;obtain⟨k,k1,k2,k3,k4⟩:=aaX (p:=p) (hf b sq);have gJ:∀ a,¬a=b->∀ q,vv w b p a q=w a q:=fun a ha q=>by rw[k4];simp[bW,ha]
  obtain⟨i1,i2⟩:=wS p r (vv w b p) hr (fun a ha=>by
   have WD:¬a=b:=by rintro rfl;exact hb ha
   obtain⟨q,q1,q2,q3⟩:=hf a (by simp[ha])
   exact⟨q,q1,q2,by rw[gJ a WD];exact q3⟩)
  refine⟨fun a ha q=> ?_,fun a ha=> ?_⟩
  ·simp only[List.mem_cons,not_or]at ha;rw[jg,i1 a ha.2,gJ a ha.1]
  ·by_cases WD:a=b
   ·subst WD;refine⟨k,k1,k2,k3,fun q=> ?_⟩;rw[jg,i1 a hb,k4];simp[bW]
   ·have har:a∈r:=by simpa [WD]using ha
    obtain⟨j,j1,j2,j3,j4⟩:=i2 a har;refine⟨j,j1,j2,by rw[<-gJ a WD];exact j3,fun q=> ?_⟩;rw[jg,j4,gJ a WD]
def Eh:∀ (n m:Nat) (f:Nat->Nat),n<m->(∀ i,i<m->f i<n)->∃ i j,i<j/\j<m/\f i=f j
 | 0,m,f,h,hf=>absurd (hf 0 h) og
 | n+1,m,f,h,hf=>by
  by_cases he:∃ i,i<m-1/\f i=f (m-1)
  ·obtain⟨i,h1,h2⟩:=he;exact⟨i,m-1,h1,og,h2⟩
  ·have gJ:∀ i,i<m-1->¬f i=f (m-1):=fun i hi e=>he ⟨i,hi,e⟩;have hv:=hf (m-1) og;obtain⟨i,j,h1,h2,h3⟩:=Eh n (m-1) (fun i=>if f i=n then f (m-1)else f i) og (fun i hi=>by
    have a1:=hf i og
    have a2:=gJ i hi
    show(if f i=n then f (m-1)else f i)<n
    split<;>omega)
   refine⟨i,j,h1,og,?_⟩;have a1:=gJ i og;have a2:=gJ j og;split at h3<;>split at h3<;>omega
def SS.Inv.afd{s:SS}(h:s.Inv aK)(hp:0<=p)(hl:¬ 0<=s.loc p)(n q:Int):¬s.b8 n q=p:=fun e=>hl (h.mem n q p hp e).2.2.2.1
theorem SS.Inv.free{s:SS}(h:s.Inv aK)(hp:0<=p/\p<20)(hl:¬ 0<=s.loc p)(a:Int):∃ q,1<=q/\q<=20/\s.b8 a q<0:=by
 apply Classical.byContradiction;intro hc;have hg:∀ q:Int,1<=q->q<=20->0<=s.b8 a q:=fun q h1 h2=>by
  simp_all
 have hx:∀ i:Nat,i<20->0<=s.b8 a (i+1)/\s.b8 a (i+1)<20/\¬s.b8 a (i+1)=p:=fun i hi=>by
  have h0:=hg (i+1) og og;exact⟨h0,(h.mem a _ _ h0 rfl).1,h.afd hp.1 hl _ _⟩
 obtain⟨i,j,h1,h2,h3⟩:=Eh 19 20 (fun i=>if s.b8 a (i+1)>p then(s.b8 a (i+1)-1).toNat else(s.b8 a (i+1)).toNat) og (fun i hi=>by
  obtain⟨a1,a2,a3⟩:=hx i hi
  show(if s.b8 a (i+1)>p then(s.b8 a (i+1)-1).toNat else(s.b8 a (i+1)).toNat)<19
  split<;>omega)
 obtain⟨a1,a2,a3⟩:=hx i og;obtain⟨b1,b2,b3⟩:=hx j h2;have he:s.b8 a (i+1)=s.b8 a (j+1):=by split at h3<;>split at h3<;>omega
 grind [SS.Inv.inj]
theorem SS.Inv.fI{s:SS}{aK:Int->Nat}(h:s.Inv aK){n p:Int}(hn:0<=n/\n<6/\s.aa n=true)(hp:0<=p/\p<20)(hl:¬ 0<=s.loc p):(s.fI aK n p).Inv aK:=by
 have me:∀ m,(s.fI aK n p).cU aK m=s.cU aK m:=fun m=>SS.nN (s:=s) (s':=s.fI aK n p) rfl _ _;obtain⟨e1,e2⟩:=wS p (s.cU aK n) s.b8 (SS.wR h.D _ n rfl hn.1 hn.2.1 hn.2.2) fun a _=>h.free hp hl a;have xH:∀ a∈s.cU aK n,0<=a/\a<6/\s.aa a=true:=SS.Jj h.D _ n rfl hn.1 hn.2.1 hn.2.2;have hw:(s.fI aK n p).b8=jg s.b8 p (s.cU aK n):=rfl;have LW:(s.fI aK n p).loc=ad s.loc p n:=rfl;have hq:∀ m q,(s.fI aK n p).b8 m q=s.b8 m q\/((s.fI aK n p).b8 m q=p/\m∈s.cU aK n/\1<=q/\q<=20):=fun m q=>by
  rw[hw];grind
 refine⟨⟨h.D.d⟩,fun k hk j=> ?_,fun m=> ?_,fun m q=> ?_,fun x=> ?_,fun x x0 x1 x2=> ?_,fun m q x x0 hx=> ?_,fun m q q' h0 he=> ?_,fun x x0 x1 x2 m hm=> ?_⟩
 ·grind [SS.fI,Inv]
 ·grind [Inv]
 ·grind [Inv]
 ·rw[LW];unfold ad;split;all_goals grind [Inv]
 ·rw[LW]at x2 ⊢;grind [ad,SS.fI,Inv]
 ·rw[LW,me];grind [ae,ah,Inv]
 ·rw[hw]at h0 he;by_cases hm:m∈s.cU aK n
  ·obtain⟨k,k1,k2,k3,k4⟩:=e2 m hm;grind [Inv]
  grind [Inv]
 ·rw[hw];rw[LW]at x2 hm;rw[me]at hm;by_cases QT:x=p
  ·grind [ah]
  ·rw[ae _ _ QT]at x2 hm;obtain⟨q,hq⟩:=h.has x x0 x1 x2 m hm;grind
theorem SS.Inv.enter{s:SS}{aK:Int->Nat}(h:s.Inv aK)(n p:Int):(s.enter aK n p).2.2.Inv aK:=by
 by_cases h1:s.is n=0
 ·by_cases h2:p<0\/20<=p
  ·grind [qd]
  ·by_cases h3:0<=s.loc p
   ·grind [vw]
   ·rw[SS.zM h1 h2 h3];rcases s.kg n with⟨_,q1,q2,q3⟩ | ⟨q,_⟩ | ⟨q,_⟩
    ·exact h.fI ⟨q1,q2,q3⟩ og h3
    all_goals omega
 grind [zL]
theorem SS.Inv.left{s:SS}{aK:Int->Nat}(h:s.Inv aK){p:Int}(hp:0<=p):(s.left p).Inv aK:=by
 have me:∀ m,(s.left p).cU aK m=s.cU aK m:=fun m=>SS.nN (s:=s) (s':=s.left p) rfl _ _;have hw:∀ n q,(s.left p).b8 n q=if s.b8 n q=p then-1 else s.b8 n q:=fun _ _=>rfl
 have LW:(s.left p).loc=ad s.loc p (-1):=rfl;refine⟨⟨h.D.d⟩,fun k hk j=> ?_,fun m=> ?_,fun m q=> ?_,fun x=> ?_,fun x x0 x1 x2=> ?_,fun m q x x0 hx=> ?_,fun m q q' h0 he=> ?_,fun x x0 x1 x2 m hm=> ?_⟩
 ·rw[hw];split
  ·rfl
  ·exact h.A k hk j
 ·rw[hw];split
  ·rfl
  ·exact h.z m
 ·rw[hw];split
  ·omega
  ·exact h.lo m q
 ·rw[LW];unfold ad;split
  ·omega
  ·exact h.loc x
 ·rw[LW]at x2 ⊢;show s.aa _=true;by_cases QT:x=p
  ·rw[QT,ah]at x2;omega
  ·rw[ae _ _ QT]at x2 ⊢;exact h.at_ x x0 x1 x2
 ·rw[hw]at hx;rw[LW,me];split at hx
  ·omega
  ·rename_i gJ;rw[ae _ _ (by omega:¬x=p)];exact h.mem m q x x0 hx
 ·rw[hw]at h0 he;rw[hw m q]at he;by_cases c1:s.b8 m q=p
  ·rw[if_pos c1]at h0;omega
  ·rw[if_neg c1]at h0 he;by_cases c2:s.b8 m q'=p
   ·rw[if_pos c2]at he;omega
   ·rw[if_neg c2]at he;exact h.inj m q q' h0 he
 ·rw[LW]at x2 hm;rw[me]at hm;by_cases QT:x=p
  ·rw[QT,ah]at x2;omega
  ·rw[ae _ _ QT]at x2 hm;obtain⟨q,hq⟩:=h.has x x0 x1 x2 m hm;exact⟨q,by rw[hw,hq,if_neg QT]⟩
theorem SS.Inv.fL{s:SS}{aK:Int->Nat}(h:s.Inv aK)(p:Int):(s.fL p).2.Inv aK:=by
 unfold SS.fL;by_cases h1:(s.bZ p).2=0
 ·rw[if_neg (by simp[h1])];apply h.left;grind [LN]
 simp_all
theorem SS.rm{s s':SS}{aK aaY:Int->Nat}(hD:s.Deep aK)(hs:∀ n,0<=n->n<6->s.aa n=true->s'.aA n=s.aA n):∀ (k:Nat) (n:Int),aK n=k->0<=n->n<6->s.aa n=true->s'.jW k n=s.jW k n
 | 0,_,_,_,_,_=>rfl
 | k+1,n,hk,h0,h6,hh=>by
  obtain⟨_,_,h3⟩:=hD.d n h0 h6 hh;rw[SS.jW,SS.jW,hs n h0 h6 hh];rcases h3 with⟨_,h4⟩ | ⟨h4,h5,h6',h7⟩
  ·simp_all[jW]
  ·rw[SS.rm (aaY:=aaY) hD hs k _ og h4 h5 h6']
def SS.WE(s:SS)(aK:Int->Nat)(p:Int):Int->Nat:=if(s.add aK p).2.1=0 then ad aK (s.add aK p).1 (aK p+1)else aK
theorem SS.Inv.aiv{s:SS}(h:s.Inv aK)(hp:0<=p/\p<6/\s.aa p=true)(hd:¬aK p=4)(hk:0<=k/\k<6)(hh:s.aa k=false):({s with aa:=ad s.aa k true,aA:=ad s.aA k p} :SS).Inv (ad aK k (aK p+1)):=by
 have gJ:∀ n,s.aa n=true->¬n=k:=by rintro n hn rfl;rw[hh]at hn;cases hn
 have me:∀ n,0<=n->n<6->s.aa n=true->({s with aa:=ad s.aa k true,aA:=ad s.aA k p} :SS).cU (ad aK k (aK p+1)) n=s.cU aK n:=fun n h0 h6 hn=>by
  unfold SS.cU;rw[ae _ _ (gJ n hn)];exact SS.rm (aaY:=aK) h.D (fun m _ _ hm=>ae _ _ (gJ m hm)) _ n rfl h0 h6 hn
 have GG:∀ x,0<=x->x<20->0<=s.loc x->s.loc x<6/\s.aa (s.loc x)=true:=fun x x0 x1 x2=>⟨(h.loc x).2,h.at_ x x0 x1 x2⟩;refine⟨⟨fun n h0 h6 hn=> ?_⟩,fun m hm j=> ?_,h.z,h.lo,h.loc,fun x x0 x1 x2=> ?_,fun m q x x0 hx=> ?_,h.inj,fun x x0 x1 x2 m hm=> ?_⟩
 ·by_cases hnk:n=k
  ·subst hnk;show 1<=ad aK n (aK p+1) n/\ad aK n (aK p+1) n<=4/\((ad s.aA n p n= -1/\_)\/(0<=ad s.aA n p n/\ad s.aA n p n<6/\ad s.aa n true (ad s.aA n p n)=true/\ad aK n (aK p+1) n=ad aK n (aK p+1) (ad s.aA n p n)+1));rw[ah,ah,ae _ _ (gJ p hp.2.2),ae _ _ (gJ p hp.2.2)];have:=(h.D.d p hp.1 hp.2.1 hp.2.2).2.1;grind
  ·have hn':s.aa n=true:=by
    grind [ae]
   show 1<=ad aK k (aK p+1) n/\ad aK k (aK p+1) n<=4/\((ad s.aA k p n= -1/\ad aK k (aK p+1) n=1)\/(0<=ad s.aA k p n/\ad s.aA k p n<6/\ad s.aa k true (ad s.aA k p n)=true/\ad aK k (aK p+1) n=ad aK k (aK p+1) (ad s.aA k p n)+1));rw[ae _ _ hnk,ae _ _ hnk];obtain⟨a1,a2,a3⟩:=h.D.d n h0 h6 hn';grind [ad]
 ·grind [ae,Inv]
 all_goals grind [ae,Inv]
def SS.pJ(s:SS)(aK:Int->Nat)(p:Int):((s.add aK p).2.1≠0/\(s.add aK p).1=0/\(s.add aK p).2.2=s)\/(∃ k,s.is p=0/\¬aK p=4/\(0<=k/\k<6)/\s.aa k=false/\s.add aK p=(k,0,{s with aa:=ad s.aa k true,aA:=ad s.aA k p})):=by
 grind [SS.add,dW]
theorem SS.Inv.add{s:SS}{aK:Int->Nat}(h:s.Inv aK)(p:Int):(s.add aK p).2.2.Inv (s.WE aK p):=by
 unfold SS.WE;rcases s.pJ aK p with⟨h1,_,h2⟩ | ⟨k,h1,h2,h3,h4,h5⟩
 ·simp_all
 ·rw[h5,if_pos rfl];rcases s.kg p with⟨_,q1,q2,q3⟩ | ⟨q,_⟩ | ⟨q,_⟩;all_goals grind [SS.Inv.aiv]
def xY{f:Int->Int} :∀ {k:Nat},¬(eB f k).length>0->∀ j:Nat,j<k->f j<0
 | 0,_,j,hj=>og
 | k+1,h,j,hj=>by
  simp only[eB,List.length_append]at h;by_cases hk:j=k
  ·subst hk;by_cases hf:f j>=0
   ·rw[if_pos hf]at h;simp at h
   ·omega
  ·exact xY (k:=k) og j og
def SS.Inv.aaZ{s:SS}(h:s.Inv aK)(hm:¬(s.dY n).length>0)(j:Int):s.b8 n j= -1:=by
 have h0:=h.lo n j;by_cases hj:0<=s.b8 n j
 ·obtain⟨_,a2,a3,_⟩:=h.mem n j _ hj rfl;have:=xY hm j.toNat og;grind
 omega
def SS.Inv.aa0{s:SS}(h:s.Inv aK)(hm:¬(s.dY n).length>0)(hk:∀ j:Int,0<=j->j<6->¬(s.aa j=true/\s.aA j=n)):({s with aa:=ad s.aa n false,aA:=ad s.aA n 0} :SS).Inv aK:=by
 have hh:∀ m,ad s.aa n false m=true->¬m=n/\s.aa m=true:=fun m hm=>by
  by_cases q:m=n
  ·rw[q,ah]at hm;cases hm
  ·rw[ae _ _ q]at hm;exact⟨q,hm⟩
 have hD:({s with aa:=ad s.aa n false,aA:=ad s.aA n 0} :SS).Deep aK:=⟨fun m h0 h6 ZV=>by
  obtain⟨q1,q2⟩:=hh m ZV
  obtain⟨a1,a2,a3⟩:=h.D.d m h0 h6 q2
  refine⟨a1,a2,?_⟩
  show(ad s.aA n 0 m= -1/\_)\/(0<=ad s.aA n 0 m/\ad s.aA n 0 m<6/\ad s.aa n false (ad s.aA n 0 m)=true/\aK m=aK (ad s.aA n 0 m)+1)
  rw[ae _ _ q1]
  rcases a3 with a3 | ⟨b1,b2,b3,b4⟩
  ·exact .inl a3
  ·refine .inr ⟨b1,b2,?_,b4⟩
   rw[ae _ _ fun e=>hk m h0 h6 ⟨q2,e⟩]
   exact b3⟩
 have rK:=h.aaZ hm;have hln:∀ x,0<=x->x<20->0<=s.loc x->¬s.loc x=n:=by
  intro x x0 x1 x2 e;have b1:=(h.D.d _ x2 (h.loc x).2 (h.at_ x x0 x1 x2)).1;have xH:n∈s.cU aK (s.loc x):=by
   unfold SS.cU;obtain⟨d,hd⟩:∃ d,aK (s.loc x)=d+1:=⟨aK (s.loc x)-1,og⟩;rw[hd,SS.jW,e];simp
  obtain⟨q,hq⟩:=h.has x x0 x1 x2 n xH;have:=rK q;omega
 have me:∀ m,0<=m->m<6->ad s.aa n false m=true->({s with aa:=ad s.aa n false,aA:=ad s.aA n 0} :SS).cU aK m=s.cU aK m:=fun m h0 h6 ZV=>by
  unfold SS.cU;exact(SS.rm (s:=({s with aa:=ad s.aa n false,aA:=ad s.aA n 0} :SS)) (s':=s) (aaY:=aK) hD (fun m' _ _ hm'=>(ae s.aA 0 (hh m' hm').1).symm) _ m rfl h0 h6 ZV).symm
 have GG:∀ x,0<=x->x<20->0<=s.loc x->s.loc x<6/\ad s.aa n false (s.loc x)=true:=fun x x0 x1 x2=>⟨(h.loc x).2,by rw[ae _ _ (hln x x0 x1 x2)];exact h.at_ x x0 x1 x2⟩;refine⟨hD,fun m ZV j=> ?_,h.z,h.lo,h.loc,fun x x0 x1 x2=>(GG x x0 x1 x2).2,fun m q x x0 hx=> ?_,h.inj,fun x x0 x1 x2 m ZV=> ?_⟩
 ·by_cases q:m=n
  ·subst q;exact rK j
  ·have:ad s.aa n false m=false:=ZV;rw[ae _ _ q]at this;exact h.A m this j
 ·obtain⟨a1,a2,a3,a4,a5⟩:=h.mem m q x x0 hx;obtain⟨b1,b2⟩:=GG x x0 a1 a4;exact⟨a1,a2,a3,a4,by rw[me _ a4 b1 b2];exact a5⟩
 ·obtain⟨b1,b2⟩:=GG x x0 x1 x2;rw[me _ x2 b1 b2]at ZV;exact h.has x x0 x1 x2 m ZV
theorem SS.Inv.drop{s:SS}{aK:Int->Nat}(h:s.Inv aK)(n:Int):(s.drop n).2.Inv aK:=by
 unfold SS.drop;by_cases h1:s.is n≠0
 ·simp_all
 ·rw[if_neg h1];by_cases h2:n=0\/(s.dY n).length>0
  ·simp_all
  ·rw[if_neg h2];cases hf:s.kids n with
   | some k=>exact h
   | none=>
    refine h.aa0 og fun j h3 h4=> ?_;unfold SS.kids dW at hf;have:=List.find?_eq_none.1 hf j.toNat (List.mem_range.2 og);rw[show((j.toNat:Nat):Int)=j from og]at this;simp at this;rintro⟨e1,e2⟩;exact this e1 e2
theorem SS.Inv.ZZ{s:SS}(h:s.Inv aK)(n q:Int): -1<=s.b8 n q/\s.b8 n q<20:=by
 grind [Inv]
def SS.aa1(s:SS)(n:Int):(s.mem n).1.length<=21:=by
 unfold SS.mem;split
 ·simp
 ·exact oQ _ _
end Go.X.Sp
