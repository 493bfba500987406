import Derived.Test.YthdinakloheinaaGreatDoorkFRM
set_option linter.all false
namespace Go.X.Fa
open Go Go.X
variable{m n p t w z:Int}{d:Int->Nat}{s:SF}
namespace SF
theorem L8{t:SF}(h:∀ i,0<=i->i<30->((t.ck i=true/\t.aA i=m)↔(s.ck i=true/\s.aA i=m))):t.gF m=s.gF m:=by
 grind [qU]
theorem TY(h:∀ i,s.ck i=true->s.aA i≠m):s.gF m=false:=by
 grind [qU]
theorem Js{t:SF}(ha:t.cO m=s.cO m)(hf:t.vW m=s.vW m)(hq:t.dL m=s.dL m)(hu:t.dQ m=s.dQ m)(hk:t.gF m=s.gF m):t.ready m=s.ready m:=by
 grind [ready]
def qW(s:SF)(n:Int):Prop:=∀ m,0<m->m<30->s.aa m=true->m≠n->s.ck m=s.ready m
def qW.go{t:SF}(h:s.qW n)(hh:t.aa=s.aa)(hp:t.aA=s.aA)(ho:∀ m,m≠n->t.cO m=s.cO m/\t.vW m=s.vW m/\t.dL m=s.dL m/\t.dQ m=s.dQ m/\t.ck m=s.ck m)(hr:t.ck n=t.ready n):t.qW (s.aA n):=fun m m0 m1 m2 m3=>by
 grind [L8,qW,ready]
theorem qW.set(h:s.qW n)(hn:n<=0):s.nh:=fun m m0 m1 m2=>h m m0 m1 m2 og
theorem nh.x(h:s.nh)(n:Int):s.qW n:=fun m m0 m1 m2 _=>h m m0 m1 m2
theorem qW.same{t:SF}(h:s.qW n)(hh:t.aa=s.aa)(hk:∀ m,m≠n->t.gF m=s.gF m)(ho:∀ m,m≠n->t.cO m=s.cO m/\t.vW m=s.vW m/\t.dL m=s.dL m/\t.dQ m=s.dQ m/\t.ck m=s.ck m):t.qW n:=fun m m0 m1 m2 m3=>by
 grind [Js,qW]
theorem Inv.ne(hI:s.Inv d)(n0:0<n)(n1:n<30)(n2:s.aa n=true):s.aA n≠n:=fun e=>by
 grind [Inv]
def Inv.next(hI:s.Inv d)(n0:0<n)(n1:n<30)(n2:s.aa n=true):s.aA n=0\/(0<s.aA n/\s.aA n<30/\s.aa (s.aA n)=true):=by
 grind [Inv]
def qW.ve{s:SF}{d:Int->Nat}(hI:s.Inv d){n:Int}(n0:0<n)(n1:n<30)(n2:s.aa n=true)(h:s.qW n):(s.ve n).qW (s.aA n):=by
 refine h.go rfl rfl (fun m c=>⟨rfl,rfl,rfl,rfl,ae _ _ c⟩) ?_;show ad s.ck n (s.ready n) n=SF.ready {s with ck:=ad s.ck n (s.ready n)} n;rw[aj,zP (hI.ne n0 n1 n2)]
theorem Jt(s:SF)(n m:Int)(h:m≠n):(s.zI n).dQ m=s.dQ m:=by
 show(if 0<s.dL n then ad s.dQ n (s.dQ n+1)else s.dQ) m=s.dQ m;grind [ae]
def qW.zI{s:SF}{d:Int->Nat}(hI:s.Inv d){n:Int}(n0:0<n)(n1:n<30)(n2:s.aa n=true)(h:s.qW n):(s.zI n).qW (s.aA n):=by
 refine h.go rfl rfl (fun m c=>⟨rfl,rfl,rfl,Jt _ _ _ c,ae _ _ c⟩) ?_;show ad s.ck n ((s.nW n).ready n) n=SF.ready {s.nW n with ck:=ad (s.nW n).ck n ((s.nW n).ready n)} n;rw[aj,zP (s:=s.nW n) (hI.ne n0 n1 n2)]
def FR{d:Int->Nat} :∀ (k:Nat) (s:SF) (n:Int),s.Inv d->(n=0\/(0<n/\n<30/\s.aa n=true))->s.qW n->d n+1<=k->(iv k s n).nh
 | 0,s,n,_,_,_,hk=>og
 | k+1,s,n,hI,hn,h,hk=>by
  rcases hn with rfl | ⟨n0,n1,n2⟩
  ·rw[mN _ _];exact h.set og
  ·rw[o9 _ _ n0];obtain⟨p0,p1,p2,p3⟩:=hI.up n n0 n1 n2;exact FR k (s.ve n) (s.aA n) (hI.ve n0 n1 n2) (hI.next n0 n1 n2) (h.ve hI n0 n1 n2) og
def Ju{d:Int->Nat} :∀ (k:Nat) (s:SF) (n B:Int),s.Inv d->(n=0\/(0<n/\n<30/\s.aa n=true))->s.qW n->s.Tk->s.bU B->d n+1<=k->
  (vL k s n).nh/\(vL k s n).Inv d/\(vL k s n).Tk/\(vL k s n).bU (B+1048576*k)/\(vL k s n).ie=s.ie
 | 0,s,n,B,_,_,_,_,_,hk=>og
 | k+1,s,n,B,hI,hn,h,hT,hS,hk=>by
  rcases hn with rfl | ⟨n0,n1,n2⟩
  ·rw[FQ _ _ og];exact⟨h.set og,hI,hT,hS.mono og,rfl⟩
  ·rw[Od _ _ n0];obtain⟨p0,p1,p2,p3⟩:=hI.up n n0 n1 n2;have hT2:(s.zI n).Tk:=fun m m0 m1=>by
    obtain⟨t1,t2,t3,t4,t5⟩:=hT m m0 m1;refine⟨?_,t2,t3,t4,?_⟩
    ·show ad s.eM (s.aA n) _ m=0;grind [ae]
    ·by_cases c:m=n
     ·subst c;show(if 0<s.dL m then _ else s.dQ) m=0;simp_all
     grind [Jt]
   obtain⟨a1,a2,a3,a4,a5⟩:=Ju k (s.zI n) (s.aA n) (B+1048576) (hI.zI n0 n1 n2) (hI.next n0 n1 n2) (h.zI hI n0 n1 n2) hT2 (hS.zI hI n0 n1 n2) og;exact⟨a1,a2,a3,a4.mono (by push_cast;omega),a5⟩
structure Ok (s:SF) (d:Int->Nat) (m:Nat) (t:Int):Prop where
 eG:s.Inv d
 aV:∀ n,0<=n->n<30->d n<=m
 set:s.nh
 tk:s.Tk
 sS:s.bU (2000000000*t)
 ie:0<=s.ie/\s.ie<=t
theorem Ok.mono{s:SF}{d:Int->Nat}{m m':Nat}{t t':Int}(h:s.Ok d m t)(hm:m<=m')(ht:t<=t'):s.Ok d m' t':=
 ⟨h.eG,fun n a b=>Nat.le_trans (h.aV n a b) hm,h.set,h.tk,h.sS.mono og,by have:=h.ie;omega⟩
def Ok.L9{m:Nat}(h:s.Ok d m t):∀ n,0<=n->n<10->s.aa n=true->(∀ i,s.ck i=true->s.aA i≠n)->s.ck n=false:=fun n n0 n1 n2 n3=>by
 by_cases c:n=0
 ·subst c;cases q:s.ck 0 with
  | false=>rfl
  | true=>have:=(h.eG.ck 0 q).1;omega
 ·rw[h.set n og og n2];grind [ready,TY]
def xX{m:Nat}(hI:s.Inv d)(hd:∀ n,0<=n->n<30->d n<=m)(hn:0<n/\n<30/\s.aa n=true)(hX:s.qW n)(hT:s.Tk)(hS:s.bU (2000000000*t))(hw:0<=s.ie/\s.ie<=t):(look d s n).Ok d m t:=by
 obtain⟨a1,a2,a3,a4,a5,a6,a7,a8,a9,a10,a11⟩:=ke (d n+1) s n;refine⟨tZ hI (.inr hn),hd,FR _ _ _ hI (.inr hn) hX (Nat.le_refl _),fun i i0 i1=> ?_,bU.iv _ _ _ hI hS (.inr hn),?_⟩;all_goals grind [look,SF.Tk]
theorem Ok.gq{s:SF}{d:Int->Nat}{m:Nat}{t:Int}(h:s.Ok d m t)(n:Int)(on:Bool):(s.gq d n on).Ok d m t:=by
 by_cases c:s.tA n=0
 ·obtain⟨i1,i2,i3⟩:=TT c;rw[X4 c];exact xX (s:= {s with cO:=ad s.cO (10+n) on}) ⟨h.eG.h0,h.eG.up,h.eG.ck,h.eG.quo,h.eG.wt⟩ h.aV ⟨og,og,i3⟩ ((h.set.x (10+n)).same rfl (fun _ _=>rfl) fun i q=>⟨ae _ _ q,rfl,rfl,rfl,rfl⟩) h.tk h.sS h.ie
 grind [gq]
def Ok.freeze{s:SF}{d:Int->Nat}{m:Nat}{t:Int}(h:s.Ok d m t)(n:Int)(on:Bool):(s.freeze d n on).Ok d m t:=by
 unfold SF.freeze;by_cases c:s.EZ n=0
 ·rw[if_pos c];obtain⟨g0,g1⟩:s.vM n=0/\n≠0:=by
   have:=s.Hj n;unfold EZ at c;split at c
   ·omega
   ·split at c<;>omega
  obtain⟨i1,i2,i3⟩:=FN g0;refine xX (s:= {s with vW:=ad s.vW n on}) ⟨h.eG.h0,h.eG.up,h.eG.ck,h.eG.quo,h.eG.wt⟩ h.aV ⟨og,og,i3⟩ ((h.set.x n).same rfl (fun _ _=>rfl) fun i q=>⟨rfl,ae _ _ q,rfl,rfl,rfl⟩) (fun i i0 i1=> ?_) h.sS h.ie;obtain⟨t1,t2,t3⟩:=h.tk i i0 i1;exact⟨t1,by show ad s.vW n on i=false;rw[ae _ _ og];exact t2,t3⟩
 ·rw[if_neg c];exact h
def Ok.xV{s:SF}{d:Int->Nat}{m:Nat}{t:Int}(h:s.Ok d m t)(ht:0<=t)(n q p:Int):(s.xV d n q p).Ok d m t:=by
 unfold SF.xV;by_cases c:s.tf n q p=0
 ·rw[if_pos c];obtain⟨g0,g1,g2,g3⟩:s.vM n=0/\n≠0/\0<=q/\1<=p:=by
   have:=s.Hj n;unfold tf at c;split at c
   ·omega
   ·split at c
    ·omega
    ·split at c<;>omega
  obtain⟨i1,i2,i3⟩:=FN g0;refine xX (s:=s.abY n q p) ⟨h.eG.h0,h.eG.up,h.eG.ck,fun i a b=> ?_,h.eG.wt⟩ h.aV ⟨og,og,i3⟩ ((h.set.x n).same rfl (fun _ _=>rfl) fun i q=>⟨rfl,rfl,ae _ _ q,ae _ _ q,rfl⟩) (fun i i0 i1=> ?_) (fun i a b=> ?_) h.ie
  ·show 0<=ad s.dL n q i/\(0<ad s.dL n q i->1<=ad s.eT n p i);have:=h.eG.quo i a b;unfold ad;split<;>omega
  ·obtain⟨t1,t2,t3,t4,t5⟩:=h.tk i i0 i1;refine⟨t1,t2,?_,?_,?_⟩
   ·show ad s.dL n q i=0;rw[ae _ _ og];exact t3
   ·show ad s.eT n p i=0;rw[ae _ _ og];exact t4
   ·show ad s.dQ n 0 i=0;rw[ae _ _ og];exact t5
  ·exact bU.dQ og h.sS n i a b
 ·rw[if_neg c];exact h
def Inv.ab3(hI:s.Inv d)(hn:s.aa z=false):s.ck z=false:=by
 grind [Inv]
def CT{B:Int}(hB:0<=B)(h:s.bU B)(z p w:Int)(b:Bool):(s.ql z p w b).bU B:=fun i a c=>by
 have hi:=h i a c;show 0<=ad s.v z 0 i/\ad s.v z 0 i<=B/\0<=ad s.eM z 0 i/\ad s.eM z 0 i<=B/\0<=ad s.tT z 0 i/\ad s.tT z 0 i<=B/\0<=ad s.dQ z 0 i/\ad s.dQ z 0 i<=B;unfold ad;split<;>omega
def Of(h:s.Tk)(z p w:Int)(b:Bool):(s.ql z p w b).Tk:=fun i a c=>by
 obtain⟨t1,t2,t3,t4,t5⟩:=h i a c;show ad s.eM z 0 i=0/\ad s.vW z false i=false/\ad s.dL z 0 i=0/\ad s.eT z 0 i=0/\ad s.dQ z 0 i=0;grind [aj,ae]
def Jv(h:s.nh)(hw:s.ck z=false)(hk:∀ i,s.ck i=true->s.aA i≠z)(p w:Int)(b:Bool):(s.ql z p w b).nh:=fun m m0 m1 m2=>by
 show ad s.ck z false m=_;by_cases e:m=z
 ·simp_all[ready,ad,TY,ql]
 ·have m3:ad s.aa z b m=true:=m2;rw[ae _ _ e]at m3 ⊢;rw[h m m0 m1 m3];refine(Js (s:=s) (t:=s.ql z p w b) (ae _ _ e) (ae _ _ e) (ae _ _ e) (ae _ _ e) (L8 fun i _ _=> ?_)).symm;show(ad s.ck z false i=true/\ad s.aA z p i=m)↔_;grind [aj,ae]
theorem Ok.add{m:Nat}(h:s.Ok d m t)(ht:0<=t)(hz:0<z/\z<30)(hn:s.aa z=false)(hp:0<=p/\p<10/\s.aa p=true)(hw:1<=w):(s.ql z p w true).Ok (ad d z (d p+1)) (m+1) t:=by
 have hwz:=h.eG.ab3 hn;have hpz:¬p=z:=fun e=>by rw[e,hn]at hp;exact absurd hp.2.2 sq
 have gY:∀ i,0<i->i<30->s.aa i=true->¬s.aA i=z:=fun i a b c e=>by
  have:=(h.eG.up i a b c).2.2.1;simp_all
 refine⟨⟨?_,fun i a b c=> ?_,fun i hi=> ?_,fun i a b=> ?_,fun i a b c=> ?_⟩,fun i a b=> ?_,Jv h.set hwz (fun i hi=> ?_) p w true,Of h.tk z p w true,CT og h.sS z p w true,h.ie⟩
 ·show ad s.aa z true 0=true;rw[ae _ _ og];exact h.eG.h0
 ·have c2:ad s.aa z true i=true:=c;show 0<=ad s.aA z p i/\ad s.aA z p i<10/\ad s.aa z true (ad s.aA z p i)=true/\ad d z (d p+1) (ad s.aA z p i)<ad d z (d p+1) i;by_cases e:i=z
  ·grind [ad]
  ·rw[ae _ _ e]at c2;have hpi:=gY i a b c2;rw[ae _ _ e,ae _ _ e,ae _ _ hpi,ae _ _ hpi];exact h.eG.up i a b c2
 ·have P3:ad s.ck z false i=true:=hi;show 0<i/\i<30/\ad s.aa z true i=true;by_cases e:i=z
  ·grind [ad]
  ·rw[ae _ _ e]at P3 ⊢;exact h.eG.ck i P3
 ·show 0<=ad s.dL z 0 i/\(0<ad s.dL z 0 i->1<=ad s.eT z 0 i);have:=h.eG.quo i a b;grind [ad]
 ·have c2:ad s.aa z true i=true:=c;show 1<=ad s.wt z w i;by_cases e:i=z
  ·grind [ad]
  ·rw[ae _ _ e]at c2 ⊢;exact h.eG.wt i a b c2
 ·have h1:=h.aV i a b;grind [Ok.aV,ad]
 ·obtain⟨a,b,c⟩:=h.eG.ck i hi;simp_all
theorem Ok.drop{m:Nat}(h:s.Ok d m t)(ht:0<=t)(hz:0<z/\z<30)(hk:∀ i,0<i->i<30->¬(s.aa i=true/\s.aA i=z))(hw:s.ck z=false):(s.ql z 0 0 false).Ok d m t:=by
 refine⟨⟨?_,fun i a b c=> ?_,fun i hi=> ?_,fun i a b=> ?_,fun i a b c=> ?_⟩,h.aV,Jv h.set hw (fun i hi=> ?_) 0 0 false,Of h.tk z 0 0 false,CT og h.sS z 0 0 false,h.ie⟩
 ·show ad s.aa z false 0=true;rw[ae _ _ og];exact h.eG.h0
 ·have c2:ad s.aa z false i=true:=c;show 0<=ad s.aA z 0 i/\ad s.aA z 0 i<10/\ad s.aa z false (ad s.aA z 0 i)=true/\d (ad s.aA z 0 i)<d i;by_cases e:i=z
  ·grind [aj]
  ·rw[ae _ _ e]at c2;have hpi:¬s.aA i=z:=fun q=>hk i og b ⟨c2,q⟩;rw[ae _ _ e,ae _ _ hpi];exact h.eG.up i a b c2
 ·have P3:ad s.ck z false i=true:=hi;show 0<i/\i<30/\ad s.aa z false i=true;by_cases e:i=z
  ·grind [aj]
  ·rw[ae _ _ e]at P3 ⊢;exact h.eG.ck i P3
 ·show 0<=ad s.dL z 0 i/\(0<ad s.dL z 0 i->1<=ad s.eT z 0 i);have:=h.eG.quo i a b;grind [ad]
 ·have c2:ad s.aa z false i=true:=c;show 1<=ad s.wt z 0 i;by_cases e:i=z
  ·grind [aj]
  ·rw[ae _ _ e]at c2 ⊢;exact h.eG.wt i a b c2
 ·obtain⟨a,b,c⟩:=h.eG.ck i hi;simp_all
def Ok.td{s:SF}{d:Int->Nat}{m:Nat}{t:Int}(h:s.Ok d m t)(ht:0<=t)(n p w:Int):∃ d',(s.td n p w).Ok d' (m+1) t:=by
 unfold SF.td;by_cases c:s.lY n p w=0
 ·rw[if_pos c];unfold lY at c;split at c
  ·omega
  ·split at c
   ·omega
   ·have hh:s.aa n=false:=by simpa using (by assumption:¬s.aa n=true)
    have hn0:n≠0:=fun e=>by rw[e,h.eG.h0]at hh;cases hh
    exact⟨_,h.add ht ⟨og,og⟩ hh (FN c) og⟩
 ·rw[if_neg c];exact⟨d,h.mono og og⟩
def Ok.te{s:SF}{d:Int->Nat}{m:Nat}{t:Int}(h:s.Ok d m t)(ht:0<=t)(n p w:Int):∃ d',(s.te n p w).Ok d' (m+1) t:=by
 unfold SF.te;by_cases c:s.lZ n p w=0
 ·rw[if_pos c];unfold lZ at c;split at c
  ·omega
  ·split at c
   ·omega
   ·have hh:s.aa (10+n)=false:=by simpa using (by assumption:¬s.aa (10+n)=true)
    exact⟨_,h.add ht ⟨og,og⟩ hh (FN c) og⟩
 ·rw[if_neg c];exact⟨d,h.mono og og⟩
def Ok.pd{s:SF}{d:Int->Nat}{m:Nat}{t:Int}(h:s.Ok d m t)(ht:0<=t)(n:Int):(s.pd n).Ok d m t:=by
 unfold SF.pd;by_cases c:s.nX n=0
 ·rw[if_pos c];have hg:=s.Hj n;unfold nX at c;split at c
  ·omega
  ·split at c
   ·omega
   ·rename_i c1 c2;obtain⟨i1,i2,i3⟩:=FN (show s.vM n=0 by omega);have hk:∀ i,0<i->i<30->¬(s.aa i=true/\s.aA i=n):=fun i a b q=>c2 (.inr (Ob og b q.1 q.2));have hn0:n≠0:=fun e=>c2 (.inl e);refine h.drop ht ⟨og,og⟩ hk (h.L9 n i1 i2 i3 fun i hi=> ?_);obtain⟨a,b,c⟩:=h.eG.ck i hi;exact fun q=>hk i og b ⟨c,q⟩
 ·rw[if_neg c];exact h
def Ok.vY{s:SF}{d:Int->Nat}{m:Nat}{t:Int}(h:s.Ok d m t)(ht:0<=t)(n:Int):(s.vY d n).Ok d m t:=by
 unfold SF.vY;by_cases c:s.tA n=0
 ·rw[if_pos c];obtain⟨i1,i2,i3⟩:=TT c;obtain⟨w1,w2,w3,w4,_⟩:=Jr h.eG i1 i2 i3;refine(h.gq n false).drop ht ⟨og,og⟩ (fun i a b q=> ?_) w2;have:=(w1.up i a b q.1).2.1;omega
 ·rw[if_neg c];exact h
def Ok.move{s:SF}{d:Int->Nat}{m:Nat}{t:Int}(h:s.Ok d m t)(ht:0<=t)(n g:Int):∃ d',(s.move d n g).Ok d' (m+1) t:=by
 unfold SF.move;by_cases c:s.eN n g=0
 ·rw[if_pos c];have hn:=s.abX n;have hg:=s.Hj g;unfold eN at c;split at c
  ·omega
  ·obtain⟨i1,i2,i3⟩:=TT (show s.tA n=0 by omega);obtain⟨k1,k2,k3⟩:=FN c;obtain⟨w1,w2,w3,w4,w5⟩:=Jr h.eG i1 i2 i3;have hw:=h.gq n false;refine⟨_,xX (s:=mv1 d s n g) (w1.aay (n:=10+n) (g:=g) ⟨og,og⟩ ⟨k1,k2,by rw[w3];exact k3⟩ w2 _ _) (fun i a b=> ?_) ⟨og,og,?_⟩ ((hw.set.x (10+n)).same rfl (fun i q=>L8 fun j _ _=> ?_) fun i q=>⟨?_,rfl,rfl,rfl,rfl⟩) hw.tk (fun i a b=> ?_) hw.ie⟩
   ·have h1:=h.aV i a b;have h2:=h.aV g k1 og;unfold ad;split<;>omega
   ·show(s.gq d n false).aa (10+n)=true;rw[w3];exact i3
   ·show((s.gq d n false).ck j=true/\ad (s.gq d n false).aA (10+n) g j=i)↔_;by_cases e:j=10+n
    ·subst e;rw[w2];simp
    ·rw[ae _ _ e]
   ·exact ae _ _ q
   ·have:=hw.sS i a b;show 0<=ad (s.gq d n false).v (10+n) 0 i/\ad (s.gq d n false).v (10+n) 0 i<=2000000000*t/\_;refine⟨?_,?_,this.2.2⟩<;>(unfold ad;split<;>omega)
 ·rw[if_neg c];exact⟨d,h.mono og og⟩
theorem Ok.mM{s:SF}{d:Int->Nat}{m:Nat}{t:Int}(h:s.Ok d m t)(ht:0<=t):∀ k:Nat,k<=9->(SF.mM d s k).Ok d m t/\(SF.mM d s k).ie=s.ie
 | 0,_=>⟨h,rfl⟩
 | k+1,hk=>by
  obtain⟨h1,h2⟩:=h.mM ht k og;show(tU d (SF.mM d s k) ((k:Int)+1)).Ok d m t/\(tU d (SF.mM d s k) ((k:Int)+1)).ie=s.ie;unfold tU;split
  ·rename_i c;refine⟨xX (s:= {SF.mM d s k with dQ:=ad (SF.mM d s k).dQ ((k:Int)+1) 0}) ⟨h1.eG.h0,h1.eG.up,h1.eG.ck,h1.eG.quo,h1.eG.wt⟩ h1.aV ⟨og,og,c.1⟩ ((h1.set.x _).same rfl (fun _ _=>rfl) fun i q=>⟨rfl,rfl,rfl,ae _ _ q,rfl⟩) (fun i i0 i1=> ?_) (bU.dQ og h1.sS _) h1.ie,(ke _ _ _).2.2.2.2.2.2.2.2.2.2.trans h2⟩;obtain⟨t1,t2,t3,t4,t5⟩:=h1.tk i i0 i1;grind [ad]
  simp_all
def Ok.o7{s:SF}{d:Int->Nat}{m:Nat}{t:Int}(h:s.Ok d m t)(ht:0<=t):(s.o7 d).Ok d m (t+1):=by
 obtain⟨h1,h2⟩:=h.mM ht 9 (Nat.le_refl _);have hn:=h.ie;exact⟨⟨h1.eG.h0,h1.eG.up,h1.eG.ck,h1.eG.quo,h1.eG.wt⟩,h1.aV,h1.set,h1.tk,bU.mono (s:=SF.mM d s 9) h1.sS og,by show 0<=s.ie+1/\s.ie+1<=t+1;omega⟩
def TZ{s:SF}{d:Int->Nat}(hI:s.Inv d):∀ (k:Nat) (a:Int),(0<=a/\a<30/\s.aa a=true)->Hi d 30<k+d a->0<=Lx s k a->10<=Lx s k a/\Lx s k a<30/\s.aa (Lx s k a)=true
 | 0,a,ha,hk,_=>by have:=BZ d 30 a ha.1 og;omega
 | k+1,a,ha,hk,h0=>by
  by_cases c:10<=a
  ·grind [Lx]
  ·by_cases hb:s.o6 a<0
   ·grind [Lx]
   ·rw[L6 _ _ c hb]at h0 ⊢;obtain⟨⟨b1,b2,b3⟩,b4,b5⟩:=xW (fun i hi=>⟨(hI.ck i hi).1,(hI.ck i hi).2.1⟩) hb;have hbI:=hI.ck _ b1;have hd:=(hI.up _ b4 b5 hbI.2.2).2.2.2;rw[b2]at hd;exact TZ hI k _ ⟨og,b5,hbI.2.2⟩ og h0
def T1(hI:(s.o7 d).Inv d)(h:¬dE d s<0):10<=dE d s/\dE d s<30/\(s.o7 d).aa (dE d s)=true:=by
 unfold dE at h ⊢;exact TZ hI _ 0 ⟨og,og,hI.h0⟩ og og
def Ok.lR{s:SF}{d:Int->Nat}{m:Nat}{t:Int}(h:s.Ok d m t)(ht:0<=t)(hm:m<=900):(s.lR d).2.Ok d m (t+1):=by
 have h0:=h.o7 ht;unfold SF.lR;split
 ·exact h0
 ·rename_i c;obtain⟨w1,w2,w3⟩:=T1 h0.eG c;obtain⟨h1,h2⟩:=h.mM ht 9 (Nat.le_refl _);have hs:(s.o7 d).bU (2000000000*t):=bU.mono (s:=SF.mM d s 9) h1.sS og;obtain⟨a1,a2,a3,a4,a5⟩:=Ju (d (dE d s)+1) (s.o7 d) (dE d s) (2000000000*t) h0.eG (.inr ⟨og,w2,w3⟩) (h0.set.x _) h0.tk hs (Nat.le_refl _);have hd:=h0.aV (dE d s) og w2;exact⟨a2,h0.aV,a1,a3,a4.mono (by push_cast;omega),by rw[a5];exact h0.ie⟩
def Og:SF.cP.Ok (fun _=>0) 0 0:=by
 have hh:∀ n:Int,SF.cP.aa n=true->n=0:=fun n h=>by
  have h2:ad (fun _:Int=>false) 0 true n=true:=h;grind [ae]
 have hw:∀ n:Int,SF.cP.ck n=false:=fun n=>by
  show ad (fun _:Int=>false) 0 false n=false;grind [ad]
 have hz:∀ n:Int,ad (fun _:Int=>(0:Int)) 0 0 n=0:=fun n=>by unfold ad;split<;>rfl
 refine⟨⟨aj (fun _:Int=>false) 0 true,fun n a b c=>(by have:=hh n c;omega),fun n h=>(by rw[hw n]at h;cases h),fun n a b=> ?_,fun n a b c=> ?_⟩,fun n a b=>Nat.le_refl _,fun n a b c=>(by have:=hh n c;omega),fun n a b=> ?_,fun n a b=> ?_,by show 0<=(0:Int)/\(0:Int)<=0;omega⟩
 ·show 0<=ad (fun _:Int=>(0:Int)) 0 0 n/\(0<ad (fun _:Int=>(0:Int)) 0 0 n->_);simp_all
 ·have:=hh n c;subst this;show 1<=ad (fun _:Int=>(0:Int)) 0 1 0;grind [aj]
 ·refine⟨hz n,?_,hz n,hz n,hz n⟩;show ad (fun _:Int=>false) 0 false n=false;grind [ad]
 ·show 0<=ad (fun _:Int=>(0:Int)) 0 0 n/\ad (fun _:Int=>(0:Int)) 0 0 n<=_/\0<=ad (fun _:Int=>(0:Int)) 0 0 n/\ad (fun _:Int=>(0:Int)) 0 0 n<=_/\0<=ad (fun _:Int=>(0:Int)) 0 0 n/\ad (fun _:Int=>(0:Int)) 0 0 n<=_/\0<=ad (fun _:Int=>(0:Int)) 0 0 n/\ad (fun _:Int=>(0:Int)) 0 0 n<=_;simp_all
end SF
namespace SF
def Jw(d:Int->Nat)(s:SF)(n:Int):(tU d s n).aa=s.aa:=by
 unfold tU;split
 ·exact mO _ _ _
 ·rfl
theorem vg(d:Int->Nat)(s:SF):∀ k,(mM d s k).aa=s.aa
 | 0=>rfl
 | k+1=>(Jw _ _ _).trans (vg d s k)
def FT:∀ (k:Nat) (s:SF) (n:Int),(vL k s n).aa=s.aa
 | 0,_,_=>rfl
 | k+1,s,n=>by
  unfold vL;split
  ·rfl
  ·exact FT k (s.zI n) (s.aA n)
theorem zQ(d:Int->Nat)(s:SF):(s.lR d).2.aa=s.aa:=by
 unfold lR;split
 ·exact vg d s 9
 ·exact(FT _ _ _).trans (vg d s 9)
theorem qX(d:Int->Nat)(s:SF)(n:Int)(on:Bool):(s.gq d n on).aa=s.aa:=by
 unfold gq;split
 ·exact mO _ _ _
 ·rfl
theorem Jy(d:Int->Nat)(s:SF)(n:Int)(on:Bool):(s.freeze d n on).aa=s.aa:=by
 unfold freeze;split
 ·exact mO _ _ _
 ·rfl
theorem Qk(d:Int->Nat)(s:SF)(n q p:Int):(s.xV d n q p).aa=s.aa:=by
 unfold xV;split
 ·exact mO _ _ _
 ·rfl
theorem Ql(d:Int->Nat)(s:SF)(n g:Int):(s.move d n g).aa=s.aa:=by
 unfold move;split
 ·exact(mO _ _ _).trans (qX d s n false)
 ·rfl
def FU(h:(s.te n p w).aa (10+m)=true):m=n\/s.aa (10+m)=true:=by
 unfold te at h;split at h
 ·by_cases e:m=n
  ·exact .inl e
  ·right;have h:ad s.aa (10+n) true (10+m)=true:=h;rwa[ae _ _ og]at h
 ·exact .inr h
def Ma(m0:0<=m)(m1:m<20)(h:(s.vY d n).aa (10+m)=true):m≠n/\s.aa (10+m)=true:=by
 unfold vY at h;split at h
 ·have h:ad (s.gq d n false).aa (10+n) false (10+m)=true:=h;by_cases e:m=n
  ·subst e;rw[aj]at h;cases h
  ·rw[ae _ _ og,qX]at h;exact⟨e,h⟩
 ·rename_i c;refine⟨?_,h⟩;rintro rfl;exact c (by unfold tA;rw[if_neg og,if_pos h])
def Qm(m0:0<=m)(h:(s.td n p w).aa (10+m)=true):s.aa (10+m)=true:=by
 unfold td at h;split at h
 ·rename_i c;have h:ad s.aa n true (10+m)=true:=h;unfold lY at c;rwa[ae _ _ (by intro e;rw[if_pos og]at c;omega)]at h
 ·exact h
def Mb(h:(s.pd n).aa (10+m)=true):s.aa (10+m)=true:=by
 unfold pd at h;split at h
 ·have h:ad s.aa n false (10+m)=true:=h;by_cases e:10+m=n
  ·rw[e,aj]at h;cases h
  ·rwa[ae _ _ e]at h
 ·exact h
def T2{m:Nat}(h:s.Ok d m t)(ht:0<=t):(s.lR d).1<0\/(0<=(s.lR d).1/\(s.lR d).1<20/\(s.lR d).2.aa (10+(s.lR d).1)=true):=by
 rw[zQ];unfold lR;split
 ·left;show(-1:Int)<0;omega
 ·rename_i c;right;obtain⟨w1,w2,w3⟩:=T1 (h.o7 ht).eG c;show 0<=dE d s-10/\dE d s-10<20/\s.aa (10+(dE d s-10))=true;rw[show 10+(dE d s-10)=dE d s by omega];exact⟨og,og,by rw[<-vg d s 9];exact w3⟩
end SF
end Go.X.Fa

namespace Go.X.Sg
open Go Go.X
variable{on:Bool}{h n:Int}{x:Nat}
def mD(f:Int->Bool):Nat->Nat
 | 0=>0
 | n+1=>mD f n|||(if f n then 2^n else 0)
theorem iL(f:Int->Bool)(n j:Nat):(mD f n).testBit j=(decide (j<n)&&f j):=by
 induction n with
 | zero=>simp[mD]
 | succ n ih=>
  simp only[mD,Nat.testBit_or,ih];by_cases h:j=n
  ·grind
  ·grind
def pM(f:Int->Bool):Nat:=mD f 9
theorem l6(f:Int->Bool)(j:Nat):(pM f).testBit j=(decide (j<9)&&f j):=iL f 9 j
def jP(f:Int->Bool):pM f<2^IntKind.u16.bits:=by
 refine Nat.lt_of_lt_of_le (m:=2^9) ?_ dq;apply Nat.lt_pow_two_of_testBit;grind [l6]
def iZ(h:1<=n/\n<=8):2^n.toNat<2^IntKind.u16.bits:=Nat.pow_lt_pow_right og (by show n.toNat<16;omega)
def vh(h:1<=n/\n<=8:=by omega):IntKind.u16.wrap (1*2^(min n.toNat IntKind.u16.bits))=((2^n.toNat:Nat):Int):=by
 have:n=1\/n=2\/n=3\/n=4\/n=5\/n=6\/n=7\/n=8:=og;rcases this with rfl | rfl | rfl | rfl | rfl | rfl | rfl | rfl<;>decide
def Jz(f:Int->Bool)(h:1<=n/\n<=8:=by omega):pM f|||2^n.toNat=pM (ad f n true):=by
 apply Nat.eq_of_testBit_eq;grind [l6,ad]
def r6(f:Int->Bool)(h:1<=n/\n<=8:=by omega):lU (pM f) (2^n.toNat)=pM (ad f n false):=by
 apply Nat.eq_of_testBit_eq;grind [l6,ad,lU]
structure BS where
 dX:Int->Bool
 bj:Int->Bool
 kf:Int->Int
def BS.cP:BS:=⟨fun _=>false,fun _=>false,fun _=>0⟩
def BS.zR(s:BS)(n:Int):Int:=if n=3/\s.kf n=0 then 1 else s.kf n
def BS.num(n:Int):Bool:=decide (1<=n/\n<=8)
def BS.send(s:BS)(n:Int):Int×BS:=if BS.num n then(0,if s.zR n=1 then s else {s with dX:=ad s.dX n true})else(1,s)
def BS.ea(s:BS)(n:Int)(on:Bool):Int×BS:=if BS.num n then(if n=1 then(8,s)else(0,{s with bj:=ad s.bj n on}))else(1,s)
def BS.set(s:BS)(n h:Int):Int×BS:=
 if BS.num n=true/\0<=h/\h<=2 then(if n=1 then(8,s)else
  (0,if({s with kf:=ad s.kf n h} :BS).zR n=1 then {dX:=ad s.dX n false,bj:=s.bj,kf:=ad s.kf n h} else {s with kf:=ad s.kf n h}))else(1,s)
def BS.first(s:BS)(h:Int):Int:=match dW (fun k=>s.dX k&&(!s.bj k&&decide (s.kf k=h))) 9 with
 | some k=>k
 | none=>0
def BS.take(s:BS):Int×BS:=(s.first 2,{s with dX:=ad s.dX (s.first 2) false})
def BS.bA(s:BS):BS:= {s with dX:=fun _=>false}
def dp(i:Nat):Value:=.int .u8 ((([0,1,28,2,29,14,24,3,30,22,20,15,25,17,4,8,31,27,13,23,21,19,16,7,26,12,18,6,11,5,10,9]:List Int)[i]?).getD 0)
def fF(s:BS)(i:Nat):Value:=
 if i=0 then .int .u16 (((pM s.dX):Nat):Int)else
 if i=1 then .int .u16 (((pM s.bj):Nat):Int)else
 if 2<=i/\(i-2)%1=0/\(i-2)/1<9 then iI (s.kf (((i-2)/1:Nat):Int))else
 undef
def oz(s:BS):(0+0)<11/\fF s (0+0)= .int .u16 (((pM s.dX):Nat):Int):=by
 grind [fF]
def oA(s:BS):(0+1)<11/\fF s (0+1)= .int .u16 (((pM s.bj):Nat):Int):=by
 grind [fF]
def ni(s:BS)(z0:Int)(q0:0<=z0/\z0<9:=by omega):((0+2)+z0.toNat*1)<11/\fF s ((0+2)+z0.toNat*1)=iI (s.kf z0):=by
 grind [fF]
def E0(s:BS)(z0:Int)(q0:0<=z0/\z0<9)(v:Int):((0+2)+z0.toNat*1)<11/\dP (fF s) ((0+2)+z0.toNat*1) (iI (v))=fF ({s with kf:=ad s.kf z0 v}):=by
 grind [dP,ad,fF]
theorem gK(n:Int):BS.num n=true↔1<=n/\n<=8:=by simp[BS.num]
theorem E1{s:BS}{k:Int}(h0:0<=k/\k<9)(hw:s.dX k=true)(hh:s.bj k=false)(he:s.kf k=h)(hn:∀ j:Int,0<=j->j<k->¬(s.dX j=true/\s.bj j=false/\s.kf j=h)):s.first h=k:=by
 unfold BS.first
 rw[fx (k:=k) h0.1 og (by simp[hw,hh,he]) (fun j h1 h2=>by
  have:=hn j h1 h2
  simp only[not_and]at this
  cases q1:s.dX j<;>cases q2:s.bj j<;>simp
  exact this q1 q2)]
 show((k.toNat:Nat):Int)=k;omega
theorem E2{s:BS}(hn:∀ j:Int,0<=j->j<9->¬(s.dX j=true/\s.bj j=false/\s.kf j=h)):s.first h=0:=by
 grind [BS.first,fy]
def BS.ua(s:BS)(h:Int)(h0:s.dX 0=false):s.first h=0\/(1<=s.first h/\s.first h<=8):=by
 grind [BS.first,dW]
def afb{t:Nat}(ht:t<16):IntKind.u32.wrap (((2^t:Nat):Int))=((2^t:Nat):Int)/\IntKind.u32.wrap (((2^t:Nat):Int)*125613361)=((2^t*125613361%4294967296:Nat):Int)/\(((2^t*125613361%4294967296:Nat):Int)).fdiv (2^(min (27:Int).toNat IntKind.u32.bits))=((2^t*125613361%4294967296/134217728:Nat):Int)/\(2^t*125613361%4294967296/134217728)<32/\IntKind.i64.wrap (t:Int)=t:=by
 have:t=0\/t=1\/t=2\/t=3\/t=4\/t=5\/t=6\/t=7\/t=8\/t=9\/t=10\/t=11\/t=12\/t=13\/t=14\/t=15:=og;rcases this with rfl | rfl | rfl | rfl | rfl | rfl | rfl | rfl | rfl | rfl | rfl | rfl | rfl | rfl | rfl | rfl<;>decide
def Mc{t:Nat}(ht:t<16):0+(((2^t*125613361%4294967296/134217728:Nat):Int)).toNat*1<32/\dp (0+(((2^t*125613361%4294967296/134217728:Nat):Int)).toNat*1)= .int .u8 (t:Int):=by
 have:t=0\/t=1\/t=2\/t=3\/t=4\/t=5\/t=6\/t=7\/t=8\/t=9\/t=10\/t=11\/t=12\/t=13\/t=14\/t=15:=og;rcases this with rfl | rfl | rfl | rfl | rfl | rfl | rfl | rfl | rfl | rfl | rfl | rfl | rfl | rfl | rfl | rfl<;>exact⟨dq,rfl⟩
def X5(h:0<x/\x<65536):IntKind.u16.wrap (0-(x:Int))=((2^16-x:Nat):Int):=by
 have:((0-(x:Int))%(2^16:Int))=((2^16-x:Nat):Int):=by
  omega
 simpa [IntKind.wrap,IntKind.signed,IntKind.bits]using this
def X6(h:0<x/\x<65536):IntKind.u16.wrap ((x:Int)-1)=((x-1:Nat):Int):=by
 rw[show(x:Int)-1=((x-1:Nat):Int)from og];exact I1 rfl (Nat.lt_of_le_of_lt (Nat.sub_le _ _) h.2)
def vi(s:BS){w':Int->Bool}(h:x=pM w'):(0+0)<11/\dP (fF s) (0+0) (.int .u16 (x:Int))=fF {s with dX:=w'} :=by
 grind [dP,fF]
def zS(s:BS){w':Int->Bool}(h:x=pM w'):(0+1)<11/\dP (fF s) (0+1) (.int .u16 (x:Int))=fF {s with bj:=w'} :=by
 grind [dP,fF]
def mP(s:BS):0+11<=11/\dv (fF s) 0 11= .agg #[.int .u16 ((pM s.dX:Nat):Int),.int .u16 ((pM s.bj:Nat):Int),iI (s.kf 0),iI (s.kf 1),iI (s.kf 2),iI (s.kf 3),iI (s.kf 4),iI (s.kf 5),iI (s.kf 6),iI (s.kf 7),iI (s.kf 8)]:=⟨og,rfl⟩
def T3{C:Nat->Value}(hC:∀ i,11<=i->C i=undef)(s:BS):0+11<=11/\cD C 0 [.int .u16 ((pM s.dX:Nat):Int),.int .u16 ((pM s.bj:Nat):Int),iI (s.kf 0),iI (s.kf 1),iI (s.kf 2),iI (s.kf 3),iI (s.kf 4),iI (s.kf 5),iI (s.kf 6),iI (s.kf 7),iI (s.kf 8)]=fF s:=by
 refine⟨og,?_⟩;funext i;match i with
 | 0=>rfl
 | 1=>rfl
 | 2=>rfl
 | 3=>rfl
 | 4=>rfl
 | 5=>rfl
 | 6=>rfl
 | 7=>rfl
 | 8=>rfl
 | 9=>rfl
 | 10=>rfl
 | k+11=>
  have e2:fF s (k+11)=undef:=by
   grind [fF]
  rw[e2];have:=hC (k+11) og;simp[cD,dP,this]
def Qn:∀ i,i<11->cellsOf (Value.agg #[.int .u16 0,.int .u16 0,iI 0,iI 0,iI 0,iI 0,iI 0,iI 0,iI 0,iI 0,iI 0]).cells i=fF BS.cP i:=fun i hi=>match i,hi with
 | 0,_=>rfl
 | 1,_=>rfl
 | 2,_=>rfl
 | 3,_=>rfl
 | 4,_=>rfl
 | 5,_=>rfl
 | 6,_=>rfl
 | 7,_=>rfl
 | 8,_=>rfl
 | 9,_=>rfl
 | 10,_=>rfl
 | k+11,h=>absurd h og
theorem Me{s:BS}(h:n<1\/n>8):s.send n=(1,s):=by
 grind [BS.send,gK]
theorem JA{s:BS}(h:1<=n/\n<=8)(hd:s.zR n=1):s.send n=(0,s):=by
 grind [BS.send,gK]
theorem BS.X7{s:BS}(h:1<=n/\n<=8)(hd:¬s.zR n=1):s.send n=(0,{s with dX:=ad s.dX n true}):=by
 grind [BS.send,gK]
theorem wS{s:BS}(h:n<1\/n>8):s.ea n on=(1,s):=by
 grind [BS.ea,gK]
theorem ub{s:BS}(h:n=1):s.ea n on=(8,s):=by
 subst h;rfl
theorem BS.Oh{s:BS}(h:1<=n/\n<=8)(h1:¬n=1):s.ea n on=(0,{s with bj:=ad s.bj n on}):=by
 grind [BS.ea,gK]
theorem Qo{s:BS}(q:n<1\/n>8\/h<0\/h>2):s.set n h=(1,s):=by
 grind [BS.set,gK]
theorem Mf{s:BS}(q:n=1)(q2:0<=h/\h<=2):s.set n h=(8,s):=by
 grind [BS.set,gK]
theorem BS.X8{s:BS}(q:1<=n/\n<=8)(q2:0<=h/\h<=2)(q1:¬n=1)(hd:({s with kf:=ad s.kf n h} :BS).zR n=1):s.set n h=(0,{dX:=ad s.dX n false,bj:=s.bj,kf:=ad s.kf n h}):=by
 grind [BS.set,gK]
theorem BS.ab4{s:BS}(q:1<=n/\n<=8)(q2:0<=h/\h<=2)(q1:¬n=1)(hd:¬({s with kf:=ad s.kf n h} :BS).zR n=1):s.set n h=(0,{s with kf:=ad s.kf n h}):=by
 grind [BS.set,gK]
theorem Mg{f:Int->Bool}(h:f n=false):ad f n false=f:=cH f h
theorem Hm{s:BS}(h:s.first 2=0)(h0:s.dX 0=false):s.take=(0,s):=by
 simp_all[BS.take,Mg]
theorem T4(f:Int->Bool):pM f<512:=by
 have:pM f<2^9:=by
  apply Nat.lt_pow_two_of_testBit;grind [l6]
 omega
def JB{s:BS} :∀ i,11<=i->fF s i=undef:=by
 grind [fF]
end Go.X.Sg

namespace Go.X.Sp
open Go Go.X
variable{a k n p q z:Int}{w:Int->Int->Int}{aV:Int->Nat}
structure SS where
 aa:Int->Bool
 aA:Int->Int
 dE:Int->Int->Int
 loc:Int->Int
structure FrS where
 p:Int
 f:Int->Int
def E3(k:Int):Int->Int:=fun q=>if 0<=q/\q<k then-1 else 0
theorem JC(k:Int)(h:0<=k:=by omega):ad (E3 k) k (-1)=E3 (k+1):=by
 grind [ad,E3]
def Qp(p:Int):Array Value:= #[.bool true,iI p,iI (-1),iI (-1),iI (-1),iI (-1),iI (-1),iI (-1),iI (-1),iI (-1),iI (-1),iI (-1),iI (-1),iI (-1),iI (-1),iI (-1),iI (-1),iI (-1),iI (-1),iI (-1),iI (-1),iI (-1),iI (-1)]
def SS.is(s:SS)(n:Int):Int:=if n<0\/6<=n then 1 else if s.aa n then 0 else 2
def SS.jo(s:SS):Nat->Int->List Int
 | 0,_=>[]
 | k+1,n=>n::s.jo k (s.aA n)
structure SS.Deep (s:SS) (aV:Int->Nat):Prop where
 d:∀ n,0<=n->n<6->s.aa n=true->1<=aV n/\aV n<=4/\((s.aA n= -1/\aV n=1)\/(0<=s.aA n/\s.aA n<6/\s.aa (s.aA n)=true/\aV n=aV (s.aA n)+1))
def SS.cX(s:SS)(aV:Int->Nat)(n:Int):List Int:=s.jo (aV n) n
theorem SS.pV(s:SS):∀ (k:Nat) (n:Int),(s.jo k n).length=k
 | 0,_=>rfl
 | k+1,n=>by simp only[SS.jo,List.length_cons,s.pV k]
def eo(f:Int->Int):Nat->List Int
 | 0=>[]
 | k+1=>eo f k++(if f k>=0 then [f k]else [])
def SS.fU(s:SS)(n:Int):List Int:=eo (s.dE n) 21
def nY(f:Int->Int):∀ k,(eo f k).length<=k
 | 0=>by simp[eo]
 | k+1=>by
  have:=nY f k;grind [eo]
def fM(f:Int->Bool):Nat->List Int
 | 0=>[]
 | k+1=>fM f k++(if f k then [(k:Int)]else [])
def kg(f:Int->Bool):∀ k,(fM f k).length<=k
 | 0=>by simp[fM]
 | k+1=>by
  have:=kg f k;grind [fM]
def SS.bS(s:SS)(p:Int):Int×Int:=if p<0\/20<=p then(0,1)else if s.loc p<0 then(0,2)else(s.loc p,0)
def SS.add(s:SS)(aV:Int->Nat)(p:Int):Int×Int×SS:=
 if s.is p≠0 then(0,s.is p,s)else if aV p=4 then(0,7,s)else
 match dW (fun k=> !s.aa k) 6 with
 | some k=>(k,0,{s with aa:=ad s.aa k true,aA:=ad s.aA k p})
 | none=>(0,4,s)
def SS.kids(s:SS)(n:Int):Option Nat:=dW (fun k=>s.aa k&&(s.aA k==n)) 6
def SS.drop(s:SS)(n:Int):Int×SS:=
 if s.is n≠0 then(s.is n,s)else if n=0\/(s.fU n).length>0 then(5,s)else
 match s.kids n with
 | some _=>(5,s)
 | none=>(0,{s with aa:=ad s.aa n false,aA:=ad s.aA n 0})
def SS.zero:SS:=⟨fun _=>false,fun _=>0,fun _ _=> -1,fun _=>0⟩
def SS.qm:SS:= {SS.zero with aa:=ad SS.zero.aa 0 true,aA:=ad SS.zero.aA 0 (-1)}
def SS.cP:SS:= {SS.qm with loc:=E3 20}
def Hn(w:Int->Int->Int)(a p:Int):Int->Int->Int:=match dW (fun q=>decide (w a (q+1)<0)) 20 with
 | some q=>cL w a ((q:Int)+1) p
 | none=>w
def kO(w:Int->Int->Int)(p:Int):List Int->(Int->Int->Int)
 | []=>w
 | a::r=>kO (Hn w a p) p r
def SS.mem(s:SS)(n:Int):List Int×Int:=if s.is n≠0 then([],s.is n)else(s.fU n,0)
def SS.jB(s:SS)(p n:Int):Int×Int:=if s.is n≠0 then(0,s.is n)else if p<0\/20<=p then(0,1)else
 match dW (fun q=>s.dE n q==p) 21 with
 | some q=>(q,0)
 | none=>(0,2)
def SS.fu(s:SS)(aV:Int->Nat)(n p:Int):SS:= {s with loc:=ad s.loc p n,dE:=kO s.dE p (s.cX aV n)}
def SS.enter(s:SS)(aV:Int->Nat)(n p:Int):Int×Int×SS:=
 if s.is n≠0 then(0,s.is n,s)else if p<0\/20<=p then(0,1,s)else if 0<=s.loc p then(0,3,s)else
 (((s.fu aV n p).jB p n).1,((s.fu aV n p).jB p n).2,s.fu aV n p)
def SS.left(s:SS)(p:Int):SS:= {s with dE:=fun n q=>if s.dE n q=p then-1 else s.dE n q,loc:=ad s.loc p (-1)}
def SS.gx(s:SS)(p:Int):Int×SS:=if(s.bS p).2≠0 then((s.bS p).2,s)else(0,s.left p)
def SS.find(s:SS)(n q:Int):Int×Int:=if s.is n≠0 then(0,s.is n)else if q<1\/20<q then(0,2)else if s.dE n q<0 then(0,2)else(s.dE n q,0)
def aK(s:SS)(i:Nat):Value:=
 if i%23=0/\i/23<6 then .bool (s.aa ((i/23:Nat):Int))else
 if 1<=i/\(i-1)%23=0/\(i-1)/23<6 then iI (s.aA (((i-1)/23:Nat):Int))else
 if 2<=i/\(i-2)/23<6/\((i-2)%23)%1=0/\((i-2)%23)/1<21 then iI (if s.aa (((i-2)/23:Nat):Int)then s.dE (((i-2)/23:Nat):Int) ((((i-2)%23)/1:Nat):Int)else 0)else
 if 138<=i/\(i-138)%1=0/\(i-138)/1<20 then iI (s.loc (((i-138)/1:Nat):Int))else
 undef
def kE(s:SS)(z0:Int)(q0:0<=z0/\z0<6:=by omega):(((0+0)+z0.toNat*23)+0)<158/\aK s (((0+0)+z0.toNat*23)+0)= .bool (s.aa z0):=by
 grind [aK]
def lD(s:SS)(z0:Int)(q0:0<=z0/\z0<6:=by omega):(((0+0)+z0.toNat*23)+1)<158/\aK s (((0+0)+z0.toNat*23)+1)=iI (s.aA z0):=by
 grind [aK]
def xY(s:SS)(z0:Int)(z1:Int)(q0:0<=z0/\z0<6)(q1:0<=z1/\z1<21):((((0+0)+z0.toNat*23)+2)+z1.toNat*1)<158/\aK s ((((0+0)+z0.toNat*23)+2)+z1.toNat*1)=iI (if s.aa z0 then s.dE z0 z1 else 0):=by
 grind [aK]
def lE(s:SS)(z0:Int)(z1:Int)(q0:0<=z0/\z0<6)(q1:0<=z1/\z1<21)(hc:s.aa z0=true):((((0+0)+z0.toNat*23)+2)+z1.toNat*1)<158/\aK s ((((0+0)+z0.toNat*23)+2)+z1.toNat*1)=iI (s.dE z0 z1):=by
 grind [aK]
def pW(s:SS)(z0:Int)(z1:Int)(q0:0<=z0/\z0<6)(q1:0<=z1/\z1<21)(hc:s.aa z0=true)(v:Int):((((0+0)+z0.toNat*23)+2)+z1.toNat*1)<158/\dP (aK s) ((((0+0)+z0.toNat*23)+2)+z1.toNat*1) (iI (v))=aK ({s with dE:=cL s.dE z0 z1 v}):=by
 refine⟨og,?_⟩;funext j;unfold dP;grind [cL,aK]
def r7(s:SS)(z0:Int)(q0:0<=z0/\z0<20:=by omega):((0+138)+z0.toNat*1)<158/\aK s ((0+138)+z0.toNat*1)=iI (s.loc z0):=by
 grind [aK]
def r8(s:SS)(z0:Int)(q0:0<=z0/\z0<20)(v:Int):((0+138)+z0.toNat*1)<158/\dP (aK s) ((0+138)+z0.toNat*1) (iI (v))=aK ({s with loc:=ad s.loc z0 v}):=by
 grind [dP,ad,aK]
def vZ(s:FrS)(i:Nat):Value:=
 if i=0 then .bool (true)else
 if i=1 then iI (s.p)else
 if 2<=i/\(i-2)%1=0/\(i-2)/1<21 then iI (s.f (((i-2)/1:Nat):Int))else
 undef
def CU(s:FrS)(z0:Int)(q0:0<=z0/\z0<21)(v:Int):((0+2)+z0.toNat*1)<23/\dP (vZ s) ((0+2)+z0.toNat*1) (iI (v))=vZ ({s with f:=ad s.f z0 v}):=by
 grind [dP,ad,vZ]
def r9:Array Value:= #[.bool false,iI 0,iI 0,iI 0,iI 0,iI 0,iI 0,iI 0,iI 0,iI 0,iI 0,iI 0,iI 0,iI 0,iI 0,iI 0,iI 0,iI 0,iI 0,iI 0,iI 0,iI 0,iI 0]
theorem SS.jC(s:SS)(n:Int):(s.is n=0/\0<=n/\n<6/\s.aa n=true)\/(s.is n=1/\(n<0\/6<=n))\/(s.is n=2/\0<=n/\n<6/\s.aa n=false):=by
 grind [SS.is]
def T5(p:Int):0+23<=23/\dv (vZ ⟨p,E3 21⟩) 0 23= .agg (Qp p):=⟨og,rfl⟩
theorem T6(s:FrS):∀ i,23<=i->vZ s i=undef:=by
 grind [vZ]
theorem Oi(C:Nat->Value):∀ (vs:List Value) (o i:Nat),i<o->cD C o vs i=C i:=by
 intro vs;induction vs generalizing C with
 | nil=>intro o i _;rfl
 | cons v r ih=>
  intro o i h;rw[cD,ih _ _ _ og];simp[dP];omega
theorem Ho(C:Nat->Value):∀ (vs:List Value) (o i:Nat),o+vs.length<=i->cD C o vs i=C i:=by
 intro vs;induction vs generalizing C with
 | nil=>intro o i _;rfl
 | cons v r ih=>
  intro o i h;simp only[List.length_cons]at h;rw[cD,ih _ _ _ og];simp[dP];omega
def Oj(C:Nat->Value):∀ (vs:List Value) (o j:Nat) (v:Value),vs[j]? =some v->cD C o vs (o+j)=v:=by
 intro vs;induction vs generalizing C with
 | nil=>intro o j v h;simp at h
 | cons u r ih=>
  intro o j v h;cases j with
  | zero=>
   simp at h;rw[cD,Oi _ _ _ _ og];simp[dP,h]
  | succ j=>
   simp at h;rw[cD,show o+(j+1)=o+1+j from og];exact ih _ _ _ _ h
def ab5(C:Nat->Value)(hC:∀ i,23<=i->C i=undef)(p:Int):0+23<=23/\cD C 0 (Qp p).toList=vZ ⟨p,E3 21⟩:=by
 refine⟨og,?_⟩;funext i;by_cases h:i<23
 ·have e:(Qp p).toList[i]? =some (vZ ⟨p,E3 21⟩ i):=by
   have:i=0\/i=1\/i=2\/i=3\/i=4\/i=5\/i=6\/i=7\/i=8\/i=9\/i=10\/i=11\/i=12\/i=13\/i=14\/i=15\/i=16\/i=17\/i=18\/i=19\/i=20\/i=21\/i=22:=og;rcases this with rfl | rfl | rfl | rfl | rfl | rfl | rfl | rfl | rfl | rfl | rfl | rfl | rfl | rfl | rfl | rfl | rfl | rfl | rfl | rfl | rfl | rfl | rfl<;>rfl
  have:=Oj C (Qp p).toList 0 i _ e;simp_all
 ·rw[Ho _ _ _ _ (by show 0+23<=i;omega),hC i og,T6 _ i og]
def T7(p:Int)(C:Nat->Value)(hC:∀ i,23<=i->C i=undef):0+23<=23/\cD C 0 [.bool true,iI p,iI 0,iI 0,iI 0,iI 0,iI 0,iI 0,iI 0,iI 0,iI 0,iI 0,iI 0,iI 0,iI 0,iI 0,iI 0,iI 0,iI 0,iI 0,iI 0,iI 0,iI 0]=vZ ⟨p,E3 0⟩:=by
 refine⟨og,?_⟩;funext i;by_cases h:i<23
 ·have:i=0\/i=1\/i=2\/i=3\/i=4\/i=5\/i=6\/i=7\/i=8\/i=9\/i=10\/i=11\/i=12\/i=13\/i=14\/i=15\/i=16\/i=17\/i=18\/i=19\/i=20\/i=21\/i=22:=og;rcases this with rfl | rfl | rfl | rfl | rfl | rfl | rfl | rfl | rfl | rfl | rfl | rfl | rfl | rfl | rfl | rfl | rfl | rfl | rfl | rfl | rfl | rfl | rfl<;>rfl
 ·rw[Ho _ _ _ _ (by show 0+23<=i;omega),hC i og,T6 _ i og]
def JD:∀ i,23<=i->cellsOf r9 i=undef:=by
 simp_all[r9,cellsOf]
def CV(s:SS)(n:Int)(q:0<=n/\n<6)(hc:s.aa n=true):(((0+0)+n.toNat*23)+2)+21<=158/\dv (aK s) (((0+0)+n.toNat*23)+2) 21= .agg (wF (s.dE n) 21):=by
 refine⟨og,?_⟩;unfold dv wF;congr 2;apply List.map_congr_left;grind [aK]
def E4(f:Int->Int)(k:Nat):(f k>=0->eo f (k+1)=eo f k++[f k])/\(¬f k>=0->eo f (k+1)=eo f k):=by
 grind [eo]
def E5(f:Int->Int)(h:0<=k):(f k>=0->eo f (k+1).toNat=eo f k.toNat++[f k])/\(¬f k>=0->eo f (k+1).toNat=eo f k.toNat):=by
 have:=E4 f k.toNat;grind
theorem SS.JE{s:SS}(hi:s.is n=0)(hp:¬(p<0\/20<=p))(hq:0<=q/\q<21)(h:s.dE n q=p)(hn:∀ j:Int,0<=j->j<q->s.dE n j≠p):s.jB p n=(q,0):=by
 unfold SS.jB;rw[if_neg (by simp[hi]),if_neg hp,fx (k:=q) hq.1 og (by simpa using h) fun j h1 h2=>by simpa using hn j h1 h2];grind
theorem Ba{s:SS}(hi:s.is n=0)(hp:¬(p<0\/20<=p))(hn:∀ j:Int,0<=j->j<21->s.dE n j≠p):s.jB p n=(0,2):=by
 grind [SS.jB,fy]
theorem CW{s:SS}(h:s.is n≠0):s.jB p n=(0,s.is n):=by grind [SS.jB]
theorem sa{s:SS}(h:s.is n=0)(hp:p<0\/20<=p):s.jB p n=(0,1):=by grind [SS.jB]
theorem JF{s:SS}(h:s.is n≠0):s.find n q=(0,s.is n):=by grind [SS.find]
theorem sc{s:SS}(h:s.is n=0)(hq:q<1\/20<q\/s.dE n q<0):s.find n q=(0,2):=by
 grind [SS.find]
theorem Mh{s:SS}(h:s.is n=0)(hq:¬(q<1\/20<q))(hw:¬s.dE n q<0):s.find n q=(s.dE n q,0):=by
 grind [SS.find]
theorem JG{s:SS}(h:p<0\/20<=p):s.bS p=(0,1):=by unfold SS.bS;rw[if_pos h]
theorem SS.X9{s:SS}(hD:s.Deep aV)(h:0<=n/\n<6/\s.aa n=true)(hp:s.aA n= -1):s.jo (aV n) n=[n]:=by
 obtain⟨h1,_,h3⟩:=hD.d n h.1 h.2.1 h.2.2;grind [jo]
theorem SS.JH{s:SS}(hD:s.Deep aV)(h:0<=n/\n<6/\s.aa n=true)(hp:¬s.aA n= -1):s.jo (aV n) n=n::s.jo (aV (s.aA n)) (s.aA n)/\0<=s.aA n/\s.aA n<6/\s.aa (s.aA n)=true/\aV (s.aA n)<aV n:=by
 obtain⟨h1,_,h3⟩:=hD.d n h.1 h.2.1 h.2.2;grind [jo]
def SS.B0(s:SS)(aV:Int->Nat)(n:Int):(s.cX aV n).length=aV n:=s.pV _ _
theorem SS.Hp{s:SS}(h:s.is p≠0):s.add aV p=(0,s.is p,s):=by grind [SS.add]
theorem SS.CX{s:SS}(h:s.is p=0)(h2:aV p=4):s.add aV p=(0,7,s):=by grind [SS.add]
theorem SS.CY{s:SS}(h:s.is p=0)(h2:¬aV p=4)(hk:0<=k/\k<6)(hh:s.aa k=false)(hn:∀ j:Int,0<=j->j<k->s.aa j=true):s.add aV p=(k,0,{s with aa:=ad s.aa k true,aA:=ad s.aA k p}):=by
 unfold SS.add;rw[if_neg (by simp[h]),if_neg h2,fx (k:=k) hk.1 og (by simp[hh]) fun j h1 h2=>by simp[hn j h1 h2]];grind
theorem JI{s:SS}(h:s.is p=0)(h2:¬aV p=4)(hn:∀ j:Int,0<=j->j<6->s.aa j=true):s.add aV p=(0,4,s):=by
 grind [SS.add,fy]
theorem JJ{s:SS}(h:s.is n≠0):s.drop n=(s.is n,s):=by grind [SS.drop]
theorem xZ{s:SS}(h:s.is n=0)(h2:n=0\/(s.fU n).length>0):s.drop n=(5,s):=by grind [SS.drop]
theorem JK{s:SS}(h:s.is n=0)(h2:¬(n=0\/(s.fU n).length>0))(hk:0<=k/\k<6)(hh:s.aa k=true)(hp:s.aA k=n)(hn:∀ j:Int,0<=j->j<k->¬(s.aa j=true/\s.aA j=n)):s.drop n=(5,s):=by
 unfold SS.drop SS.kids;rw[if_neg (by simp[h]),if_neg h2,fx (k:=k) hk.1 og (by simp[hh,hp]) (fun j h1 h2=>by have:=hn j h1 h2;simp only[not_and]at this;cases q:s.aa j<;>simp;exact this q)]
theorem SS.Ya{s:SS}(h:s.is n=0)(h2:¬(n=0\/(s.fU n).length>0))(hn:∀ j:Int,0<=j->j<6->¬(s.aa j=true/\s.aA j=n)):s.drop n=(0,{s with aa:=ad s.aa n false,aA:=ad s.aA n 0}):=by
 grind [SS.drop,SS.kids,fy]
def zT(f:Int->Bool)(h:0<=k):(f k=true->fM f (k+1).toNat=fM f k.toNat++[k])/\(f k=false->fM f (k+1).toNat=fM f k.toNat):=by
 have e:((k.toNat:Nat):Int)=k:=og;rw[show(k+1).toNat=k.toNat+1 from og];grind [fM]
def JM(s s':SS)(k:Int)(q:0<=k/\k<6)(vs:List Value)(hl:vs.length=23)(h0:vs[0]? =some (.bool (s'.aa k)))(h1:vs[1]? =some (iI (s'.aA k)))(h2:∀ j:Nat,j<21->vs[j+2]? =some (iI (if s'.aa k then s'.dE k j else 0)))(hh:∀ n,¬n=k->s'.aa n=s.aa n)(hp:∀ n,¬n=k->s'.aA n=s.aA n)(hw:s'.dE=s.dE)(ho:s'.loc=s.loc):0+0+k.toNat*23+23<=158/\cD (aK s) (0+0+k.toNat*23) vs=aK s':=by
 refine⟨og,?_⟩;funext i;by_cases ha:i<0+0+k.toNat*23
 ·rw[Oi _ _ _ _ ha];grind [aK]
 ·by_cases hb:i<0+0+k.toNat*23+23
  ·obtain⟨j,rfl⟩:∃ j,i=0+0+k.toNat*23+j:=⟨i-(0+0+k.toNat*23),og⟩;have hj:j<23:=og;apply Oj _ _ _ _ _;by_cases j0:j=0
   ·grind [aK]
   ·by_cases j1:j=1
    ·subst j1;rw[h1];exact congrArg some (lD s' k q).2.symm
    ·have h3:=(xY s' k ((j-2:Nat):Int) q og).2;have h4:=h2 (j-2) og;rw[show j-2+2=j from og]at h4;rw[h4,<-h3];congr 2;omega
  grind [Ho,aK]
def CZ(s:SS)(k p:Int)(q:0<=k/\k<6)(hw:∀ j,s.dE k j= -1):0+0+k.toNat*23+23<=158/\cD (aK s) (0+0+k.toNat*23) (Qp p).toList=aK {s with aa:=ad s.aa k true,aA:=ad s.aA k p} :=by
 refine JM s _ k q _ rfl (by simp[ad];rfl) (by simp[ad];rfl) (fun j hj=> ?_) (fun n hn=>by simp[ad,hn]) (fun n hn=>by simp[ad,hn]) rfl rfl;simp only[ad,if_true,hw];have:j=0\/j=1\/j=2\/j=3\/j=4\/j=5\/j=6\/j=7\/j=8\/j=9\/j=10\/j=11\/j=12\/j=13\/j=14\/j=15\/j=16\/j=17\/j=18\/j=19\/j=20:=og;rcases this with rfl | rfl | rfl | rfl | rfl | rfl | rfl | rfl | rfl | rfl | rfl | rfl | rfl | rfl | rfl | rfl | rfl | rfl | rfl | rfl | rfl<;>rfl
def Mi(s:SS)(k:Int)(q:0<=k/\k<6):0+0+k.toNat*23+23<=158/\cD (aK s) (0+0+k.toNat*23) r9.toList=aK {s with aa:=ad s.aa k false,aA:=ad s.aA k 0} :=by
 refine JM s _ k q _ rfl (by simp[ad];rfl) (by simp[ad];rfl) (fun j hj=> ?_) (fun n hn=>by simp[ad,hn]) (fun n hn=>by simp[ad,hn]) rfl rfl;simp only[ad,if_true];have:j=0\/j=1\/j=2\/j=3\/j=4\/j=5\/j=6\/j=7\/j=8\/j=9\/j=10\/j=11\/j=12\/j=13\/j=14\/j=15\/j=16\/j=17\/j=18\/j=19\/j=20:=og;rcases this with rfl | rfl | rfl | rfl | rfl | rfl | rfl | rfl | rfl | rfl | rfl | rfl | rfl | rfl | rfl | rfl | rfl | rfl | rfl | rfl | rfl<;>rfl
def aaz:Array Value:= #[.bool false,iI 0,iI 0,iI 0,iI 0,iI 0,iI 0,iI 0,iI 0,iI 0,iI 0,iI 0,iI 0,iI 0,iI 0,iI 0,iI 0,iI 0,iI 0,iI 0,iI 0,iI 0,iI 0,.bool false,iI 0,iI 0,iI 0,iI 0,iI 0,iI 0,iI 0,iI 0,iI 0,iI 0,iI 0,iI 0,iI 0,iI 0,iI 0,iI 0,iI 0,iI 0,iI 0,iI 0,iI 0,iI 0,.bool false,iI 0,iI 0,iI 0,iI 0,iI 0,iI 0,iI 0,iI 0,iI 0,iI 0,iI 0,iI 0,iI 0,iI 0,iI 0,iI 0,iI 0,iI 0,iI 0,iI 0,iI 0,iI 0,.bool false,iI 0,iI 0,iI 0,iI 0,iI 0,iI 0,iI 0,iI 0,iI 0,iI 0,iI 0,iI 0,iI 0,iI 0,iI 0,iI 0,iI 0,iI 0,iI 0,iI 0,iI 0,iI 0,.bool false,iI 0,iI 0,iI 0,iI 0,iI 0,iI 0,iI 0,iI 0,iI 0,iI 0,iI 0,iI 0,iI 0,iI 0,iI 0,iI 0,iI 0,iI 0,iI 0,iI 0,iI 0,iI 0,.bool false,iI 0,iI 0,iI 0,iI 0,iI 0,iI 0,iI 0,iI 0,iI 0,iI 0,iI 0,iI 0,iI 0,iI 0,iI 0,iI 0,iI 0,iI 0,iI 0,iI 0,iI 0,iI 0,iI 0,iI 0,iI 0,iI 0,iI 0,iI 0,iI 0,iI 0,iI 0,iI 0,iI 0,iI 0,iI 0,iI 0,iI 0,iI 0,iI 0,iI 0,iI 0,iI 0]
set_option maxRecDepth 20000 in def Qq:∀ i,i<158->cellsOf aaz i=aK SS.zero i:=fun i hi=>match i,hi with
 | 0,_=>rfl
 | 1,_=>rfl
 | 2,_=>rfl
 | 3,_=>rfl
 | 4,_=>rfl
 | 5,_=>rfl
 | 6,_=>rfl
 | 7,_=>rfl
 | 8,_=>rfl
 | 9,_=>rfl
 | 10,_=>rfl
 | 11,_=>rfl
 | 12,_=>rfl
 | 13,_=>rfl
 | 14,_=>rfl
 | 15,_=>rfl
 | 16,_=>rfl
 | 17,_=>rfl
 | 18,_=>rfl
 | 19,_=>rfl
 | 20,_=>rfl
 | 21,_=>rfl
 | 22,_=>rfl
 | 23,_=>rfl
 | 24,_=>rfl
 | 25,_=>rfl
 | 26,_=>rfl
 | 27,_=>rfl
 | 28,_=>rfl
 | 29,_=>rfl
 | 30,_=>rfl
 | 31,_=>rfl
 | 32,_=>rfl
 | 33,_=>rfl
 | 34,_=>rfl
 | 35,_=>rfl
 | 36,_=>rfl
 | 37,_=>rfl
 | 38,_=>rfl
 | 39,_=>rfl
 | 40,_=>rfl
 | 41,_=>rfl
 | 42,_=>rfl
 | 43,_=>rfl
 | 44,_=>rfl
 | 45,_=>rfl
 | 46,_=>rfl
 | 47,_=>rfl
 | 48,_=>rfl
 | 49,_=>rfl
 | 50,_=>rfl
 | 51,_=>rfl
 | 52,_=>rfl
 | 53,_=>rfl
 | 54,_=>rfl
 | 55,_=>rfl
 | 56,_=>rfl
 | 57,_=>rfl
 | 58,_=>rfl
 | 59,_=>rfl
 | 60,_=>rfl
 | 61,_=>rfl
 | 62,_=>rfl
 | 63,_=>rfl
 | 64,_=>rfl
 | 65,_=>rfl
 | 66,_=>rfl
 | 67,_=>rfl
 | 68,_=>rfl
 | 69,_=>rfl
 | 70,_=>rfl
 | 71,_=>rfl
 | 72,_=>rfl
 | 73,_=>rfl
 | 74,_=>rfl
 | 75,_=>rfl
 | 76,_=>rfl
 | 77,_=>rfl
 | 78,_=>rfl
 | 79,_=>rfl
 | 80,_=>rfl
 | 81,_=>rfl
 | 82,_=>rfl
 | 83,_=>rfl
 | 84,_=>rfl
 | 85,_=>rfl
 | 86,_=>rfl
 | 87,_=>rfl
 | 88,_=>rfl
 | 89,_=>rfl
 | 90,_=>rfl
 | 91,_=>rfl
 | 92,_=>rfl
 | 93,_=>rfl
 | 94,_=>rfl
 | 95,_=>rfl
 | 96,_=>rfl
 | 97,_=>rfl
 | 98,_=>rfl
 | 99,_=>rfl
 | 100,_=>rfl
 | 101,_=>rfl
 | 102,_=>rfl
 | 103,_=>rfl
 | 104,_=>rfl
 | 105,_=>rfl
 | 106,_=>rfl
 | 107,_=>rfl
 | 108,_=>rfl
 | 109,_=>rfl
 | 110,_=>rfl
 | 111,_=>rfl
 | 112,_=>rfl
 | 113,_=>rfl
 | 114,_=>rfl
 | 115,_=>rfl
 | 116,_=>rfl
 | 117,_=>rfl
 | 118,_=>rfl
 | 119,_=>rfl
 | 120,_=>rfl
 | 121,_=>rfl
 | 122,_=>rfl
 | 123,_=>rfl
 | 124,_=>rfl
 | 125,_=>rfl
 | 126,_=>rfl
 | 127,_=>rfl
 | 128,_=>rfl
 | 129,_=>rfl
 | 130,_=>rfl
 | 131,_=>rfl
 | 132,_=>rfl
 | 133,_=>rfl
 | 134,_=>rfl
 | 135,_=>rfl
 | 136,_=>rfl
 | 137,_=>rfl
 | 138,_=>rfl
 | 139,_=>rfl
 | 140,_=>rfl
 | 141,_=>rfl
 | 142,_=>rfl
 | 143,_=>rfl
 | 144,_=>rfl
 | 145,_=>rfl
 | 146,_=>rfl
 | 147,_=>rfl
 | 148,_=>rfl
 | 149,_=>rfl
 | 150,_=>rfl
 | 151,_=>rfl
 | 152,_=>rfl
 | 153,_=>rfl
 | 154,_=>rfl
 | 155,_=>rfl
 | 156,_=>rfl
 | 157,_=>rfl
 | k+158,h=>absurd h og
theorem T8:E3 0=fun _=>0:=by
 funext q;simp only[E3];rw[if_neg og]
theorem SS.pf{s s':SS}(h:s'.aA=s.aA):∀ (k:Nat) (n:Int),s'.jo k n=s.jo k n
 | 0,_=>rfl
 | k+1,n=>by simp only[SS.jo,h,SS.pf h k]
def SS.Hq{s:SS}{aV:Int->Nat}(hD:s.Deep aV):∀ (k:Nat) (n:Int),aV n=k->0<=n->n<6->s.aa n=true->∀ a∈s.jo k n,0<=a/\a<6/\s.aa a=true
 | 0,n,hk,h0,h6,hh,a,ha=>by have:=(hD.d n h0 h6 hh).1;omega
 | k+1,n,hk,h0,h6,hh,a,ha=>by
  obtain⟨_,_,h3⟩:=hD.d n h0 h6 hh;simp only[SS.jo,List.mem_cons]at ha;rcases ha with rfl | ha
  ·simp_all
  ·rcases h3 with⟨_,h4⟩ | ⟨h4,h5,h6',h7⟩
   ·simp_all[jo]
   ·exact SS.Hq hD k _ og h4 h5 h6' a ha
def se{zs:List Int}(h:0<=z/\z<zs.length):gh zs z∈zs:=by
 grind [gh]
def FV{s:SS}(hD:s.Deep aV)(h:0<=n/\n<6/\s.aa n=true)(hz:0<=z/\z<(s.cX aV n).length):0<=gh (s.cX aV n) z/\gh (s.cX aV n) z<6/\s.aa (gh (s.cX aV n) z)=true:=
 SS.Hq hD _ n rfl h.1 h.2.1 h.2.2 _ (se hz)
theorem JN{zs:List Int}(h:0<=z/\z<zs.length):zs.drop z.toNat=gh zs z::zs.drop (z+1).toNat:=by
 grind [List.drop_eq_getElem_cons,gh]
theorem Qr(hk:1<=k/\k<=20)(h:w a k<0)(hn:∀ j:Int,1<=j->j<k->¬w a j<0):Hn w a p=cL w a k p:=by
 unfold Hn;rw[fx (k:=k-1) og og (by rw[show k-1+1=k from og];simpa using h) fun j h1 h2=>by simpa using hn (j+1) og og];grind
theorem Qs(hn:∀ j:Int,1<=j->j<21->¬w a j<0):Hn w a p=w:=by
 grind [Hn,fy]
theorem ya{s:SS}(h:s.is n≠0):s.enter aV n p=(0,s.is n,s):=by grind [SS.enter]
theorem ph{s:SS}(h:s.is n=0)(h2:p<0\/20<=p):s.enter aV n p=(0,1,s):=by grind [SS.enter]
theorem uc{s:SS}(h:s.is n=0)(h2:¬(p<0\/20<=p))(h3:0<=s.loc p):s.enter aV n p=(0,3,s):=by grind [SS.enter]
theorem SS.yb{s:SS}(h:s.is n=0)(h2:¬(p<0\/20<=p))(h3:¬ 0<=s.loc p):s.enter aV n p=(((s.fu aV n p).jB p n).1,((s.fu aV n p).jB p n).2,s.fu aV n p):=by grind [SS.enter]
def BJ(w:Int->Int->Int)(a p k:Int):Int->Int->Int:=fun m q=>if m=a/\0<=q/\q<k/\w m q=p then-1 else w m q
theorem Qt(w:Int->Int->Int)(a p:Int):BJ w a p 0=w:=by
 grind [BJ]
theorem JO(hk:0<=k)(h:w a k=p):cL (BJ w a p k) a k (-1)=BJ w a p (k+1):=by
 grind [cL,BJ]
theorem FW(h:¬w a k=p):BJ w a p k=BJ w a p (k+1):=by
 grind [BJ]
def Mj(w:Int->Int->Int)(l:List Int)(p:Int):Int->Int->Int:=fun m q=>if m∈l/\0<=q/\q<21/\w m q=p then-1 else w m q
theorem T9(w:Int->Int->Int)(p:Int):Mj w [] p=w:=by
 rfl
theorem Qu{l:List Int}(hp:0<=p)(hz:0<=z/\z<l.length):BJ (Mj w (l.take z.toNat) p) (gh l z) p 21=Mj w (l.take (z+1).toNat) p:=by
 have h2:z.toNat<l.length:=og;have ht:l.take (z+1).toNat=l.take z.toNat++[gh l z]:=by
  rw[show(z+1).toNat=z.toNat+1 from og,List.take_add_one];grind [gh]
 grind [BJ,Mj]
theorem Ua{s:SS}{l:List Int}(hW:∀ n q,s.dE n q=p->n∈l/\0<=q/\q<21):Mj s.dE l p=fun n q=>if s.dE n q=p then-1 else s.dE n q:=by
 grind [Mj]
structure SS.Inv (s:SS) (aV:Int->Nat):Prop where
 D:s.Deep aV
 A:∀ k,s.aa k=false->∀ j,s.dE k j= -1
 z:∀ n,s.dE n 0= -1
 lo:∀ n q,-1<=s.dE n q
 loc:∀ p,-1<=s.loc p/\s.loc p<6
 at_:∀ p,0<=p->p<20->0<=s.loc p->s.aa (s.loc p)=true
 mem:∀ n q p,0<=p->s.dE n q=p->p<20/\0<q/\q<21/\0<=s.loc p/\n∈s.cX aV (s.loc p)
 inj:∀ n q q',0<=s.dE n q->s.dE n q'=s.dE n q->q'=q
 has:∀ p,0<=p->p<20->0<=s.loc p->∀ n∈s.cX aV (s.loc p),∃ q,s.dE n q=p
theorem SS.Inv.cP:SS.cP.Inv (fun _=>1) where
 D:=⟨fun n h0 h6 hh=>by
  have hn:n=0:=by
   by_cases q:n=0
   ·exact q
   ·simp[SS.cP,SS.qm,SS.zero,ad,q]at hh
  subst hn
  exact⟨og,og,.inl ⟨by simp[SS.cP,SS.qm,ad],rfl⟩⟩⟩
 A:=fun _ _ _=>rfl
 z:=fun _=>rfl
 lo:=fun _ _=>by show(-1:Int)<= -1;omega
 loc:=fun p=>by
  show-1<=E3 20 p/\E3 20 p<6
  unfold E3;split<;>omega
 at_:=fun p h0 h1 h2=>by
  have:SS.cP.loc p= -1:=by show E3 20 p= -1;unfold E3;rw[if_pos ⟨h0,h1⟩]
  omega
 mem:=fun n q p h0 h1=>by
  have:SS.cP.dE n q= -1:=rfl
  omega
 inj:=fun n q q' h0 _=>by
  have:SS.cP.dE n q= -1:=rfl
  omega
 has:=fun p h0 h1 h2=>by
  have:SS.cP.loc p= -1:=by show E3 20 p= -1;unfold E3;rw[if_pos ⟨h0,h1⟩]
  omega
def SS.Ol{s:SS}{aV:Int->Nat}(hD:s.Deep aV):∀ (k:Nat) (n:Int),aV n=k->0<=n->n<6->s.aa n=true->∀ a∈s.jo k n,aV a<=k
 | 0,n,hk,h0,h6,hh,a,ha=>by have:=(hD.d n h0 h6 hh).1;omega
 | k+1,n,hk,h0,h6,hh,a,ha=>by
  obtain⟨_,_,h3⟩:=hD.d n h0 h6 hh;simp only[SS.jo,List.mem_cons]at ha;rcases ha with rfl | ha
  ·omega
  ·rcases h3 with⟨_,h4⟩ | ⟨h4,h5,h6',h7⟩
   ·simp_all[jo]
   ·have:=SS.Ol hD k _ og h4 h5 h6' a ha;omega
def SS.zU{s:SS}{aV:Int->Nat}(hD:s.Deep aV):∀ (k:Nat) (n:Int),aV n=k->0<=n->n<6->s.aa n=true->(s.jo k n).Nodup
 | 0,n,_,_,_,_=>List.nodup_nil
 | k+1,n,hk,h0,h6,hh=>by
  obtain⟨_,_,h3⟩:=hD.d n h0 h6 hh;rw[SS.jo,List.nodup_cons];rcases h3 with⟨_,h4⟩ | ⟨h4,h5,h6',h7⟩
  ·simp_all[jo]
  ·refine⟨fun hm=> ?_,SS.zU hD k _ og h4 h5 h6'⟩;have:=SS.Ol hD k _ og h4 h5 h6' n hm;omega
def Yb(h:∃ q,1<=q/\q<=20/\w a q<0):∃ k,1<=k/\k<=20/\w a k<0/\Hn w a p=cL w a k p:=by
 unfold Hn;cases hf:dW (fun q=>decide (w a (q+1)<0)) 20 with
 | none=>
  exfalso;obtain⟨q,h1,h2,h3⟩:=h;unfold dW at hf;have:=List.find?_eq_none.1 hf (q-1).toNat (List.mem_range.2 og);simp only[show(((q-1).toNat:Nat):Int)+1=q from og]at this;simp[h3]at this
 | some k=>
  unfold dW at hf;have h1:=List.find?_some hf;have h2:=List.mem_range.1 (List.mem_of_find?_eq_some hf);exact⟨(k:Int)+1,og,og,by simpa using h1,rfl⟩
def zV(p:Int):∀ (l:List Int) (w:Int->Int->Int),l.Nodup->(∀ a∈l,∃ q,1<=q/\q<=20/\w a q<0)->
  (∀ a,¬a∈l->∀ q,kO w p l a q=w a q)/\(∀ a∈l,∃ k,1<=k/\k<=20/\w a k<0/\∀ q,kO w p l a q=if q=k then p else w a q)
 | [],w,_,_=>⟨fun _ _ _=>rfl,fun a ha=>by cases ha⟩
 | b::r,w,hn,hf=>by
  obtain⟨hb,hr⟩:=List.nodup_cons.1 hn;obtain⟨k,k1,k2,k3,k4⟩:=Yb (p:=p) (hf b sq);have gY:∀ a,¬a=b->∀ q,Hn w b p a q=w a q:=fun a ha q=>by rw[k4];simp[cL,ha]
  obtain⟨i1,i2⟩:=zV p r (Hn w b p) hr (fun a ha=>by
   have hab:¬a=b:=by rintro rfl;exact hb ha
   obtain⟨q,q1,q2,q3⟩:=hf a (by simp[ha])
   exact⟨q,q1,q2,by rw[gY a hab];exact q3⟩)
  refine⟨fun a ha q=> ?_,fun a ha=> ?_⟩
  ·simp only[List.mem_cons,not_or]at ha;rw[kO,i1 a ha.2,gY a ha.1]
  ·by_cases hab:a=b
   ·subst hab;refine⟨k,k1,k2,k3,fun q=> ?_⟩;rw[kO,i1 a hb,k4];simp[cL]
   ·have har:a∈r:=by simpa [hab]using ha
    obtain⟨j,j1,j2,j3,j4⟩:=i2 a har;refine⟨j,j1,j2,by rw[<-gY a hab];exact j3,fun q=> ?_⟩;rw[kO,j4,gY a hab]
def CO:∀ (n m:Nat) (f:Nat->Nat),n<m->(∀ i,i<m->f i<n)->∃ i j,i<j/\j<m/\f i=f j
 | 0,m,f,h,hf=>absurd (hf 0 h) og
 | n+1,m,f,h,hf=>by
  by_cases he:∃ i,i<m-1/\f i=f (m-1)
  ·obtain⟨i,h1,h2⟩:=he;exact⟨i,m-1,h1,og,h2⟩
  ·have gY:∀ i,i<m-1->¬f i=f (m-1):=fun i hi e=>he ⟨i,hi,e⟩;have hv:=hf (m-1) og;obtain⟨i,j,h1,h2,h3⟩:=CO n (m-1) (fun i=>if f i=n then f (m-1)else f i) og (fun i hi=>by
    have a1:=hf i og
    have a2:=gY i hi
    show(if f i=n then f (m-1)else f i)<n
    split<;>omega)
   refine⟨i,j,h1,og,?_⟩;have a1:=gY i og;have a2:=gY j og;split at h3<;>split at h3<;>omega
def SS.Inv.ab6{s:SS}(h:s.Inv aV)(hp:0<=p)(hl:¬ 0<=s.loc p)(n q:Int):¬s.dE n q=p:=fun e=>hl (h.mem n q p hp e).2.2.2.1
theorem SS.Inv.free{s:SS}(h:s.Inv aV)(hp:0<=p/\p<20)(hl:¬ 0<=s.loc p)(a:Int):∃ q,1<=q/\q<=20/\s.dE a q<0:=by
 apply Classical.byContradiction;intro hc;have hg:∀ q:Int,1<=q->q<=20->0<=s.dE a q:=fun q h1 h2=>by
  simp_all
 have hx:∀ i:Nat,i<20->0<=s.dE a (i+1)/\s.dE a (i+1)<20/\¬s.dE a (i+1)=p:=fun i hi=>by
  have h0:=hg (i+1) og og;exact⟨h0,(h.mem a _ _ h0 rfl).1,h.ab6 hp.1 hl _ _⟩
 obtain⟨i,j,h1,h2,h3⟩:=CO 19 20 (fun i=>if s.dE a (i+1)>p then(s.dE a (i+1)-1).toNat else(s.dE a (i+1)).toNat) og (fun i hi=>by
  obtain⟨a1,a2,a3⟩:=hx i hi
  show(if s.dE a (i+1)>p then(s.dE a (i+1)-1).toNat else(s.dE a (i+1)).toNat)<19
  split<;>omega)
 obtain⟨a1,a2,a3⟩:=hx i og;obtain⟨b1,b2,b3⟩:=hx j h2;have he:s.dE a (i+1)=s.dE a (j+1):=by split at h3<;>split at h3<;>omega
 grind [SS.Inv.inj]
theorem SS.Inv.fu{s:SS}{aV:Int->Nat}(h:s.Inv aV){n p:Int}(hn:0<=n/\n<6/\s.aa n=true)(hp:0<=p/\p<20)(hl:¬ 0<=s.loc p):(s.fu aV n p).Inv aV:=by
 have kY:∀ m,(s.fu aV n p).cX aV m=s.cX aV m:=fun m=>SS.pf (s:=s) (s':=s.fu aV n p) rfl _ _;obtain⟨e1,e2⟩:=zV p (s.cX aV n) s.dE (SS.zU h.D _ n rfl hn.1 hn.2.1 hn.2.2) fun a _=>h.free hp hl a;have vS:∀ a∈s.cX aV n,0<=a/\a<6/\s.aa a=true:=SS.Hq h.D _ n rfl hn.1 hn.2.1 hn.2.2;have hw:(s.fu aV n p).dE=kO s.dE p (s.cX aV n):=rfl;have JP:(s.fu aV n p).loc=ad s.loc p n:=rfl;have hq:∀ m q,(s.fu aV n p).dE m q=s.dE m q\/((s.fu aV n p).dE m q=p/\m∈s.cX aV n/\1<=q/\q<=20):=fun m q=>by
  rw[hw];grind
 refine⟨⟨h.D.d⟩,fun k hk j=> ?_,fun m=> ?_,fun m q=> ?_,fun x=> ?_,fun x x0 x1 x2=> ?_,fun m q x x0 hx=> ?_,fun m q q' h0 he=> ?_,fun x x0 x1 x2 m hm=> ?_⟩
 ·grind [SS.fu,Inv]
 ·grind [Inv]
 ·grind [Inv]
 ·rw[JP];unfold ad;split;all_goals grind [Inv]
 ·rw[JP]at x2 ⊢;grind [ad,SS.fu,Inv]
 ·rw[JP,kY];grind [ae,aj,Inv]
 ·rw[hw]at h0 he;by_cases hm:m∈s.cX aV n
  ·obtain⟨k,k1,k2,k3,k4⟩:=e2 m hm;grind [Inv]
  grind [Inv]
 ·rw[hw];rw[JP]at x2 hm;rw[kY]at hm;by_cases Om:x=p
  ·grind [aj]
  ·rw[ae _ _ Om]at x2 hm;obtain⟨q,hq⟩:=h.has x x0 x1 x2 m hm;grind
theorem SS.Inv.enter{s:SS}{aV:Int->Nat}(h:s.Inv aV)(n p:Int):(s.enter aV n p).2.2.Inv aV:=by
 by_cases h1:s.is n=0
 ·by_cases h2:p<0\/20<=p
  ·grind [ph]
  ·by_cases h3:0<=s.loc p
   ·grind [uc]
   ·rw[SS.yb h1 h2 h3];rcases s.jC n with⟨_,q1,q2,q3⟩ | ⟨q,_⟩ | ⟨q,_⟩
    ·exact h.fu ⟨q1,q2,q3⟩ og h3
    all_goals omega
 grind [ya]
theorem SS.Inv.left{s:SS}{aV:Int->Nat}(h:s.Inv aV){p:Int}(hp:0<=p):(s.left p).Inv aV:=by
 have kY:∀ m,(s.left p).cX aV m=s.cX aV m:=fun m=>SS.pf (s:=s) (s':=s.left p) rfl _ _;have hw:∀ n q,(s.left p).dE n q=if s.dE n q=p then-1 else s.dE n q:=fun _ _=>rfl
 have JP:(s.left p).loc=ad s.loc p (-1):=rfl;refine⟨⟨h.D.d⟩,fun k hk j=> ?_,fun m=> ?_,fun m q=> ?_,fun x=> ?_,fun x x0 x1 x2=> ?_,fun m q x x0 hx=> ?_,fun m q q' h0 he=> ?_,fun x x0 x1 x2 m hm=> ?_⟩
 ·rw[hw];split
  ·rfl
  ·exact h.A k hk j
 ·rw[hw];split
  ·rfl
  ·exact h.z m
 ·rw[hw];split
  ·omega
  ·exact h.lo m q
 ·rw[JP];unfold ad;split
  ·omega
  ·exact h.loc x
 ·rw[JP]at x2 ⊢;show s.aa _=true;by_cases Om:x=p
  ·rw[Om,aj]at x2;omega
  ·rw[ae _ _ Om]at x2 ⊢;exact h.at_ x x0 x1 x2
 ·rw[hw]at hx;rw[JP,kY];split at hx
  ·omega
  ·rename_i gY;rw[ae _ _ (by omega:¬x=p)];exact h.mem m q x x0 hx
 ·rw[hw]at h0 he;rw[hw m q]at he;by_cases c1:s.dE m q=p
  ·rw[if_pos c1]at h0;omega
  ·rw[if_neg c1]at h0 he;by_cases c2:s.dE m q'=p
   ·rw[if_pos c2]at he;omega
   ·rw[if_neg c2]at he;exact h.inj m q q' h0 he
 ·rw[JP]at x2 hm;rw[kY]at hm;by_cases Om:x=p
  ·rw[Om,aj]at x2;omega
  ·rw[ae _ _ Om]at x2 hm;obtain⟨q,hq⟩:=h.has x x0 x1 x2 m hm;exact⟨q,by rw[hw,hq,if_neg Om]⟩
theorem SS.Inv.gx{s:SS}{aV:Int->Nat}(h:s.Inv aV)(p:Int):(s.gx p).2.Inv aV:=by
 unfold SS.gx;by_cases h1:(s.bS p).2=0
 ·rw[if_neg (by simp[h1])];apply h.left;grind [JG]
 simp_all
theorem SS.Mk{s s':SS}{aV Yc:Int->Nat}(hD:s.Deep aV)(hs:∀ n,0<=n->n<6->s.aa n=true->s'.aA n=s.aA n):∀ (k:Nat) (n:Int),aV n=k->0<=n->n<6->s.aa n=true->s'.jo k n=s.jo k n
 | 0,_,_,_,_,_=>rfl
 | k+1,n,hk,h0,h6,hh=>by
  obtain⟨_,_,h3⟩:=hD.d n h0 h6 hh;rw[SS.jo,SS.jo,hs n h0 h6 hh];rcases h3 with⟨_,h4⟩ | ⟨h4,h5,h6',h7⟩
  ·simp_all[jo]
  ·rw[SS.Mk (Yc:=Yc) hD hs k _ og h4 h5 h6']
def SS.Ub(s:SS)(aV:Int->Nat)(p:Int):Int->Nat:=if(s.add aV p).2.1=0 then ad aV (s.add aV p).1 (aV p+1)else aV
theorem SS.Inv.afc{s:SS}(h:s.Inv aV)(hp:0<=p/\p<6/\s.aa p=true)(hd:¬aV p=4)(hk:0<=k/\k<6)(hh:s.aa k=false):({s with aa:=ad s.aa k true,aA:=ad s.aA k p} :SS).Inv (ad aV k (aV p+1)):=by
 have gY:∀ n,s.aa n=true->¬n=k:=by rintro n hn rfl;rw[hh]at hn;cases hn
 have kY:∀ n,0<=n->n<6->s.aa n=true->({s with aa:=ad s.aa k true,aA:=ad s.aA k p} :SS).cX (ad aV k (aV p+1)) n=s.cX aV n:=fun n h0 h6 hn=>by
  unfold SS.cX;rw[ae _ _ (gY n hn)];exact SS.Mk (Yc:=aV) h.D (fun m _ _ hm=>ae _ _ (gY m hm)) _ n rfl h0 h6 hn
 have Yd:∀ x,0<=x->x<20->0<=s.loc x->s.loc x<6/\s.aa (s.loc x)=true:=fun x x0 x1 x2=>⟨(h.loc x).2,h.at_ x x0 x1 x2⟩;refine⟨⟨fun n h0 h6 hn=> ?_⟩,fun m hm j=> ?_,h.z,h.lo,h.loc,fun x x0 x1 x2=> ?_,fun m q x x0 hx=> ?_,h.inj,fun x x0 x1 x2 m hm=> ?_⟩
 ·by_cases hnk:n=k
  ·subst hnk;show 1<=ad aV n (aV p+1) n/\ad aV n (aV p+1) n<=4/\((ad s.aA n p n= -1/\_)\/(0<=ad s.aA n p n/\ad s.aA n p n<6/\ad s.aa n true (ad s.aA n p n)=true/\ad aV n (aV p+1) n=ad aV n (aV p+1) (ad s.aA n p n)+1));rw[aj,aj,ae _ _ (gY p hp.2.2),ae _ _ (gY p hp.2.2)];have:=(h.D.d p hp.1 hp.2.1 hp.2.2).2.1;grind
  ·have hn':s.aa n=true:=by
    grind [ae]
   show 1<=ad aV k (aV p+1) n/\ad aV k (aV p+1) n<=4/\((ad s.aA k p n= -1/\ad aV k (aV p+1) n=1)\/(0<=ad s.aA k p n/\ad s.aA k p n<6/\ad s.aa k true (ad s.aA k p n)=true/\ad aV k (aV p+1) n=ad aV k (aV p+1) (ad s.aA k p n)+1));rw[ae _ _ hnk,ae _ _ hnk];obtain⟨a1,a2,a3⟩:=h.D.d n h0 h6 hn';grind [ad]
 ·grind [ae,Inv]
 all_goals grind [ae,Inv]
def SS.qY(s:SS)(aV:Int->Nat)(p:Int):((s.add aV p).2.1≠0/\(s.add aV p).1=0/\(s.add aV p).2.2=s)\/(∃ k,s.is p=0/\¬aV p=4/\(0<=k/\k<6)/\s.aa k=false/\s.add aV p=(k,0,{s with aa:=ad s.aa k true,aA:=ad s.aA k p})):=by
 grind [SS.add,dW]
theorem SS.Inv.add{s:SS}{aV:Int->Nat}(h:s.Inv aV)(p:Int):(s.add aV p).2.2.Inv (s.Ub aV p):=by
 unfold SS.Ub;rcases s.qY aV p with⟨h1,_,h2⟩ | ⟨k,h1,h2,h3,h4,h5⟩
 ·simp_all
 ·rw[h5,if_pos rfl];rcases s.jC p with⟨_,q1,q2,q3⟩ | ⟨q,_⟩ | ⟨q,_⟩;all_goals grind [SS.Inv.afc]
def wb{f:Int->Int} :∀ {k:Nat},¬(eo f k).length>0->∀ j:Nat,j<k->f j<0
 | 0,_,j,hj=>og
 | k+1,h,j,hj=>by
  simp only[eo,List.length_append]at h;by_cases hk:j=k
  ·subst hk;by_cases hf:f j>=0
   ·rw[if_pos hf]at h;simp at h
   ·omega
  ·exact wb (k:=k) og j og
def SS.Inv.Ye{s:SS}(h:s.Inv aV)(hm:¬(s.fU n).length>0)(j:Int):s.dE n j= -1:=by
 have h0:=h.lo n j;by_cases hj:0<=s.dE n j
 ·obtain⟨_,a2,a3,_⟩:=h.mem n j _ hj rfl;have:=wb hm j.toNat og;grind
 omega
def SS.Inv.Yf{s:SS}(h:s.Inv aV)(hm:¬(s.fU n).length>0)(hk:∀ j:Int,0<=j->j<6->¬(s.aa j=true/\s.aA j=n)):({s with aa:=ad s.aa n false,aA:=ad s.aA n 0} :SS).Inv aV:=by
 have hh:∀ m,ad s.aa n false m=true->¬m=n/\s.aa m=true:=fun m hm=>by
  by_cases q:m=n
  ·rw[q,aj]at hm;cases hm
  ·rw[ae _ _ q]at hm;exact⟨q,hm⟩
 have hD:({s with aa:=ad s.aa n false,aA:=ad s.aA n 0} :SS).Deep aV:=⟨fun m h0 h6 W2=>by
  obtain⟨q1,q2⟩:=hh m W2
  obtain⟨a1,a2,a3⟩:=h.D.d m h0 h6 q2
  refine⟨a1,a2,?_⟩
  show(ad s.aA n 0 m= -1/\_)\/(0<=ad s.aA n 0 m/\ad s.aA n 0 m<6/\ad s.aa n false (ad s.aA n 0 m)=true/\aV m=aV (ad s.aA n 0 m)+1)
  rw[ae _ _ q1]
  rcases a3 with a3 | ⟨b1,b2,b3,b4⟩
  ·exact .inl a3
  ·refine .inr ⟨b1,b2,?_,b4⟩
   rw[ae _ _ fun e=>hk m h0 h6 ⟨q2,e⟩]
   exact b3⟩
 have vH:=h.Ye hm;have hln:∀ x,0<=x->x<20->0<=s.loc x->¬s.loc x=n:=by
  intro x x0 x1 x2 e;have b1:=(h.D.d _ x2 (h.loc x).2 (h.at_ x x0 x1 x2)).1;have vS:n∈s.cX aV (s.loc x):=by
   unfold SS.cX;obtain⟨d,hd⟩:∃ d,aV (s.loc x)=d+1:=⟨aV (s.loc x)-1,og⟩;rw[hd,SS.jo,e];simp
  obtain⟨q,hq⟩:=h.has x x0 x1 x2 n vS;have:=vH q;omega
 have kY:∀ m,0<=m->m<6->ad s.aa n false m=true->({s with aa:=ad s.aa n false,aA:=ad s.aA n 0} :SS).cX aV m=s.cX aV m:=fun m h0 h6 W2=>by
  unfold SS.cX;exact(SS.Mk (s:=({s with aa:=ad s.aa n false,aA:=ad s.aA n 0} :SS)) (s':=s) (Yc:=aV) hD (fun m' _ _ hm'=>(ae s.aA 0 (hh m' hm').1).symm) _ m rfl h0 h6 W2).symm
 have Yd:∀ x,0<=x->x<20->0<=s.loc x->s.loc x<6/\ad s.aa n false (s.loc x)=true:=fun x x0 x1 x2=>⟨(h.loc x).2,by rw[ae _ _ (hln x x0 x1 x2)];exact h.at_ x x0 x1 x2⟩;refine⟨hD,fun m W2 j=> ?_,h.z,h.lo,h.loc,fun x x0 x1 x2=>(Yd x x0 x1 x2).2,fun m q x x0 hx=> ?_,h.inj,fun x x0 x1 x2 m W2=> ?_⟩
 ·by_cases q:m=n
  ·subst q;exact vH j
  ·have:ad s.aa n false m=false:=W2;rw[ae _ _ q]at this;exact h.A m this j
 ·obtain⟨a1,a2,a3,a4,a5⟩:=h.mem m q x x0 hx;obtain⟨b1,b2⟩:=Yd x x0 a1 a4;exact⟨a1,a2,a3,a4,by rw[kY _ a4 b1 b2];exact a5⟩
 ·obtain⟨b1,b2⟩:=Yd x x0 x1 x2;rw[kY _ x2 b1 b2]at W2;exact h.has x x0 x1 x2 m W2
theorem SS.Inv.drop{s:SS}{aV:Int->Nat}(h:s.Inv aV)(n:Int):(s.drop n).2.Inv aV:=by
 unfold SS.drop;by_cases h1:s.is n≠0
 ·simp_all
 ·rw[if_neg h1];by_cases h2:n=0\/(s.fU n).length>0
  ·simp_all
  ·rw[if_neg h2];cases hf:s.kids n with
   | some k=>exact h
   | none=>
    refine h.Yf og fun j h3 h4=> ?_;unfold SS.kids dW at hf;have:=List.find?_eq_none.1 hf j.toNat (List.mem_range.2 og);rw[show((j.toNat:Nat):Int)=j from og]at this;simp at this;rintro⟨e1,e2⟩;exact this e1 e2
theorem SS.Inv.W8{s:SS}(h:s.Inv aV)(n q:Int): -1<=s.dE n q/\s.dE n q<20:=by
 grind [Inv]
def SS.Yg(s:SS)(n:Int):(s.mem n).1.length<=21:=by
 unfold SS.mem;split
 ·simp
 ·exact nY _ _
end Go.X.Sp
