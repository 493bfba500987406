import Derived.Test.YthdinakloheinaaGreatDoorkNP
import Derived.Test.YthdinakloheinaaGreatDoorXClose
set_option linter.all false
namespace Go.X.Tr
open Go Go.X
variable{x:ByteArray}
def Qy{l:List ByteArray}{p:Nat}(hp:p<=l.length)(h1:∀ i,i<p->blt (n9 l i) x=true)(h2:p<l.length->blt (n9 l p) x=false):eo l x=p:=by
 grind [nY,BK,yc]
theorem Dg{l:List ByteArray}(hl:fj l)(h:oX l x=true):eo (l.eraseIdx (eo l x)) x=eo l x:=by
 obtain⟨p1,p2⟩:=lP.1 h;refine Qy (by rw[List.length_eraseIdx,if_pos p1];omega) (fun i hi=> ?_) fun hi=> ?_;all_goals grind [F2,Hy,fj]
theorem HC{α:Type}(y:α):∀ (l:List α) (p:Nat),p<l.length->(l.eraseIdx p).insertIdx p (l.getD p y)=l
 | x::l,0,_=>sq
 | x::l,p+1,h=>by
  rw[List.eraseIdx_cons_succ,List.insertIdx_succ_cons,List.getD_cons_succ,HC y l p (by simpa using h)]
namespace FF
def abV{s:FF}{n:Int}(hl:fj (s.aN n))(h:oX (s.aN n) x=true)(hk:(s.aN n).length=(s.kids n).length):(s.ek n x).sL n x (dg (s.kids n) (eo (s.aN n) x))=s:=by
 obtain⟨p1,p2⟩:=lP.1 h;have e1:((s.ek n x).aN n)=(s.aN n).eraseIdx (eo (s.aN n) x):=au _ _ _;have e2:((s.ek n x).kids n)=(s.kids n).eraseIdx (eo (s.aN n) x):=au _ _ _;have a1:=HC ByteArray.empty (s.aN n) _ p1;have a2:=HC (0:Int) (s.kids n) (eo (s.aN n) x) og;rw[show(s.aN n).getD (eo (s.aN n) x) ByteArray.empty=x from p2]at a1;have b1:ae (s.ek n x).aN n (((s.ek n x).aN n).insertIdx (eo ((s.ek n x).aN n) x) x)=s.aN:=by
  rw[e1,Dg hl h,a1];funext j;unfold ae;split;all_goals simp_all[ai,ek]
 have b2:ae (s.ek n x).kids n (((s.ek n x).kids n).insertIdx (eo ((s.ek n x).aN n) x) (dg (s.kids n) (eo (s.aN n) x)))=s.kids:=by
  rw[e2,e1,Dg hl h,show dg (s.kids n) (eo (s.aN n) x)=(s.kids n).getD (eo (s.aN n) x) 0 from by simp[dg],a2];funext j;unfold ae;split;all_goals simp_all[ai,ek]
 simp_all[sL,ek]
def Ch(s:FF)(d:Int->Nat)(k:Int):Prop:=∀ n,0<=n->n<40->s.aU n=2->n≠k->s.up n=n\/(0<=s.up n/\s.up n<40/\s.aU (s.up n)=2/\d (s.up n)<d n)
theorem Dh{s t:FF}(h:t.up=s.up)(k:Int):∀ (f:Nat) (n:Int),zV t f n k=zV s f n k
 | 0,n=>rfl
 | f+1,n=>by unfold zV;rw[h,Dh h k f]
theorem zX{s:FF}{d:Int->Nat}{k:Int}(hc:s.Ch d k):∀ (f g:Nat) (n:Int),0<=n->n<40->s.aU n=2->d n<=f->d n<=g->zV s f n k=zV s g n k
 | 0,0,_,_,_,_,_,_=>rfl
 | 0,g+1,n,h1,h2,h3,h4,h5=>by
  unfold zV;by_cases c:n=k
  ·rw[if_pos c];simp[c]
  ·rw[if_neg c];rcases hc n h1 h2 h3 c with u | ⟨_,_,_,u⟩
   ·rw[if_pos u];simp[c]
   ·omega
 | f+1,0,n,h1,h2,h3,h4,h5=>by
  unfold zV;by_cases c:n=k
  ·rw[if_pos c];simp[c]
  ·rw[if_neg c];rcases hc n h1 h2 h3 c with u | ⟨_,_,_,u⟩
   ·rw[if_pos u];simp[c]
   ·omega
 | f+1,g+1,n,h1,h2,h3,h4,h5=>by
  unfold zV;by_cases c:n=k
  ·rw[if_pos c,if_pos c]
  ·rw[if_neg c,if_neg c];by_cases c2:s.up n=n
   ·rw[if_pos c2,if_pos c2]
   ·rw[if_neg c2,if_neg c2];rcases hc n h1 h2 h3 c with u | ⟨u1,u2,u3,u4⟩
    ·exact absurd u c2
    ·exact zX hc f g _ u1 u2 u3 og og
theorem J5(d:Int->Nat)(s:FF)(k:Int):J2 d s k k=true:=by
 unfold J2;cases d k with
 | zero=>simp[zV]
 | succ f=>simp[zV]
theorem yi{s:FF}{d:Int->Nat}{k n:Int}(hc:s.Ch d k)(h1:0<=n)(h2:n<40)(h3:s.aU n=2)(h4:n≠k):J2 d s n k=if s.up n=n then false else J2 d s (s.up n) k:=by
 unfold J2;rw[zX hc (d n) (d n+1) n h1 h2 h3 og og];grind [zV,zX,Ch]
def dR.ch{s:FF}{d:Int->Nat}{k:Int}(h:s.dR d k (-1)):s.Ch d k:=fun n h1 h2 h3 h4=>by
 rcases h.up n h1 h2 h3 h4 og with g | ⟨g1,g2,g3,_,g5⟩;all_goals omega
def dR.chI{s:FF}{d:Int->Nat}(h:s.Inv d)(k:Int):s.Ch d k:=fun n h1 h2 h3 h4=>by
 rcases h.up n h1 h2 h3 og og with g | ⟨g1,g2,g3,_,g5⟩;all_goals omega
def tC(d:Int->Nat)(s:FF)(k to:Int):Int->Nat:=fun x=>d x+(if J2 d s x k=true then d to+1 else 0)
def dR.ahK{s:FF}{d:Int->Nat}{k to:Int}(h:s.dR d k (-1))(h1:0<=k)(h2:k<40)(h3:s.aU k=2)(h4:0<=to)(h5:to<40)(h6:s.aU to=2)(hu:J2 d s to k=false):dR {s with up:=ae s.up k to} (tC d s k to) k (-1)/\tC d s k to to<tC d s k to k:=by
 have c0:s.F3 k=0:=by
  have a:=(h.num k h1 h2).2;grind [dR.Iq]
 have hc:=h.ch;have FP:∀ m,ae s.up k to m=if m=k then to else s.up m:=fun m=>rfl
 refine⟨⟨h.kinds,h.jd,h.Mj,fun n a b j hj=> ?_,h.data,⟨h.roots.1,fun r hr=> ?_⟩,fun n a b c hk hq=> ?_,h.num,h.zero,h.pos,h.Iq⟩,?_⟩
 ·grind [dR.kids,HB,yi,tC]
 ·grind [dR.roots,J4]
 ·show(n∈s.roots/\ae s.up k to n=n)\/(0<=ae s.up k to n/\ae s.up k to n<40/\s.aU (ae s.up k to n)=2/\n∈s.kids (ae s.up k to n)/\tC d s k to (ae s.up k to n)<tC d s k to n);rw[FP,if_neg hk];rcases h.up n a b c hk hq with g | ⟨g1,g2,g3,g4,g5⟩;all_goals grind [yi,tC]
 grind [tC,J5]
structure Ok (s:FF) (d:Int->Nat) (B:Int):Prop where
 dS:s.Inv d
 bj:∀ n,0<=n->n<40->s.bj n<=B
 nn:0<=B
def Ok.sh{s:FF}{d:Int->Nat}{B:Int}(h:s.Ok d B)(hB:B<=1000000):s.Sh:=h.dS.sh fun n a b=>Int.le_trans (h.bj n a b) hB
theorem Di(s:FF):∀ k:Nat,k<=40->s.vL k= -1\/(40-(k:Int)<=s.vL k/\s.vL k<40/\s.aU (s.vL k)=0)
 | 0,_=>.inl rfl
 | k+1,h=>by
  unfold vL;split
  ·rename_i c;exact .inr ⟨og,og,c⟩
  ·rcases Di s k og with g | ⟨g1,g2,g3⟩
   ·exact .inl g
   ·exact .inr ⟨og,g2,g3⟩
def yj{s:FF}(h:¬s.free<0):0<=s.free/\s.free<40/\s.aU s.free=0:=by
 grind [Di,free]
section
variable {s:FF} {d:Int->Nat} {B:Int}
def Ok.yg(h:s.Ok d B):∃ d',s.yg.Ok d' (B+1):=by
 have hn:=h.nn;unfold FF.yg;split
 ·rename_i c;unfold p6 at c;split at c
  ·omega
  ·split at c
   ·omega
   ·rename_i c1 c2;obtain⟨f1,f2,f3⟩:=yj c2;have hr:=h.dS.roots.1;have h1:=h.dS.fresh (k:=2) (t:=(s.roots.length:Int)) (u:=s.free) f1 f2 f3 (.inr rfl) 0;have h2:=h1.rB f1 f2 (au _ _ _) (au _ _ _) (show s.roots.length<4 by omega);refine⟨_,h2,fun n a b=> ?_,og⟩;show ae s.bj s.free 0 n<=_;unfold ae;split
    ·omega
    ·have:=h.bj n a b;omega
 ·exact⟨d,h.dS,fun n a b=>by have:=h.bj n a b;omega,og⟩
def uZ{s:FF}{n:Int}(h:s.eX n x=0):s.cx n 2=0/\jW x=true/\oX (s.aN n) x=false/\(s.aN n).length≠8:=by
 grind [eX]
def Of{s:FF}{n:Int}(h:s.fC n x=0):s.cx n 2=0/\oX (s.aN n) x=true/\s.bK n x=dg (s.kids n) (eo (s.aN n) x):=by
 grind [fC,bK]
theorem Ok.gF(h:s.Inv d){n:Int}(h0:s.fC n x=0):0<=n/\n<40/\s.aU n=2/\s.bK n x∈s.kids n/\oX (s.aN n) x=true/\dg (s.kids n) (eo (s.aN n) x)=s.bK n x:=by
 obtain⟨a,b,c⟩:=Of h0;obtain⟨i1,i2,i3,i4⟩:=je a;grind [dR.jd,lP,dg]
theorem Ok.make(h:s.Ok d B)(n:Int)(x:ByteArray)(k:Int):∃ d',(s.make n x k).Ok d' (B+1):=by
 have hn:=h.nn;unfold FF.make;split
 ·rename_i c;unfold mj at c;split at c
  ·omega
  ·split at c
   ·omega
   ·split at c
    ·omega
    ·rename_i c0 c1 c2;obtain⟨f1,f2,f3⟩:=yj c2;obtain⟨a1,a2,a3,a4⟩:=uZ (show s.eX n x=0 by omega);obtain⟨i1,i2,_,i4⟩:=je a1;have i5:=i4 og;have gK:n≠s.free:=fun e=>by rw[<-e]at f3;omega
     have h1:=h.dS.fresh (k:=k) (t:=s.dy n) (u:=n) f1 f2 f3 og (d n+1);have e1:(s.js s.free k (s.dy n) 1 n).aU n=s.aU n:=ai _ _ gK;have e2:(s.js s.free k (s.dy n) 1 n).aN n=s.aN n:=ai _ _ gK;have e3:(s.js s.free k (s.dy n) 1 n).dy n=s.dy n:=ai _ _ gK;have h2:=h1.put (n:=n) (x:=x) i1 i2 (by rw[e1];exact i5) (by rw[e2];exact a3) (by rw[e2];have:=(h.dS.jd n i1 i2).2.2.1;omega) a2 ⟨f1,f2,by
      rw[show(s.js s.free k (s.dy n) 1 n).aU s.free=k from au _ _ _];omega⟩ (by rw[e3];exact au _ _ _) fun _=>⟨au _ _ _,by rw[ai _ _ gK,au];omega⟩
     refine⟨_,h2,fun m a b=> ?_,og⟩;show ae s.bj s.free 0 m<=_;unfold ae;split
     ·omega
     ·have:=h.bj m a b;omega
 ·exact⟨d,h.dS,fun n a b=>by have:=h.bj n a b;omega,og⟩
def Ok.zU(h:s.Ok d B)(k n:Int)(x:ByteArray):(s.zU k n x).Ok d (B+1):=by
 have hn:=h.nn;unfold FF.zU;split
 ·rename_i c;unfold tN at c;split at c
  ·omega
  ·split at c
   ·omega
   ·split at c
    ·omega
    ·rename_i c0 c1 c2;obtain⟨a1,a2,a3,a4⟩:=uZ (show s.eX n x=0 by omega);obtain⟨i1,i2,_,i4⟩:=je a1;obtain⟨j1,j2,_,j4⟩:=je (show s.cx k 1=0 by omega);have i5:=i4 og;have j5:=j4 og;have h1:=h.dS.abU j1 j2 j5;have h2:=h1.put (n:=n) (x:=x) i1 i2 i5 a3 (by show(s.aN n).length<8;have:=(h.dS.jd n i1 i2).2.2.1;omega) a2 ⟨j1,j2,by show s.aU k≠0;omega⟩ (show s.dy k=s.dy n by omega) (fun g=>by
      have g2:s.aU k=2:=g
      omega)
     exact⟨h2,fun m a b=>by have:=h.bj m a b;show s.bj m<=_;omega,og⟩
 ·exact⟨h.dS,fun n a b=>by have:=h.bj n a b;omega,og⟩
def Ok.ed(h:s.Ok d B)(n:Int)(x:ByteArray):(s.ed n x).Ok d (B+1):=by
 have hn:=h.nn;unfold FF.ed;split
 ·rename_i c;unfold cY at c;split at c
  ·omega
  ·split at c
   ·omega
   ·rename_i c0 c1;obtain⟨i1,i2,i3,i4,i5,i6⟩:=Ok.gF h.dS (show s.fC n x=0 by omega);obtain⟨k1,k2,k3,k4,k5⟩:=h.dS.kids n i1 i2 _ i4;have h1:=h.dS.cut (k:=s.bK n x) i1 i2 i5 i6;have h2:=h1.Ud k3;have hk:s.aU (s.bK n x)=2->s.kids (s.bK n x)=[]/\s.bj (s.bK n x)=0:=fun g=>by
     have g1:=(h.dS.num _ k1 k2).1;have g2:¬(0<(s.kids (s.bK n x)).length\/0<s.bj (s.bK n x)):=fun q=>c1 ⟨g,q⟩;exact⟨List.eq_nil_of_length_eq_zero og,og⟩
    have gK:s.bK n x≠n\/s.aU (s.bK n x)≠2:=by
     by_cases g:s.aU (s.bK n x)=2
     ·left;intro e;rw[e]at i4 hk g;rw[(hk g).1]at i4;cases i4
     ·exact .inr g
    have hkk:s.kids (s.bK n x)=[]:=by
     by_cases g:s.aU (s.bK n x)=2
     ·exact(hk g).1
     ·exact(h.dS.Ml k1 k2 g).1
    have hkn:s.bK n x≠n:=fun e=>by rw[e]at hkk;rw[hkk]at i4;cases i4
    have hb:∀ m,0<=m->m<40->s.bj m<=B+1:=fun m a b=>by have:=h.bj m a b;omega
    unfold qL;split
    ·rename_i c2;have h3:=h2.aeW k1 k2 c2.1 c2.2 (by
      show ae s.kids n _ (s.bK n x)=[]
      rw[ai _ _ hkn];exact hkk)
     refine⟨h3,fun m a b=> ?_,og⟩;show ae s.bj _ 0 m<=_;unfold ae;split
     ·omega
     ·exact hb m a b
    ·rename_i c2;have g0:s.aU (s.bK n x)≠2:=fun g=>by
      refine c2 ⟨?_,(hk g).2⟩;show ae s.bG _ _ (s.bK n x)=0;rw[au];show s.bG (s.bK n x)-1=0;have:=h.dS.Iq _ k1 k2 g og;omega
     refine⟨h2.Ya (fun _ _ _=> ?_) fun _ _=>g0,hb,og⟩;have a1:=(h2.num _ k1 k2);have a2:¬(ae s.bG (s.bK n x) (s.bG (s.bK n x)-1) (s.bK n x)=0/\s.bj (s.bK n x)=0):=c2;have a3:(0:Int)<=s.bj (s.bK n x):=a1.1;have a4:ae s.bG (s.bK n x) (s.bG (s.bK n x)-1) (s.bK n x)=_:=a1.2;show 0<ae s.bG (s.bK n x) (s.bG (s.bK n x)-1) (s.bK n x)\/0<s.bj (s.bK n x);rw[if_neg (show ¬s.bK n x=(-1:Int) by omega)]at a4;omega
 ·exact⟨h.dS,fun n a b=>by have:=h.bj n a b;omega,og⟩
theorem Ok.dP(h:s.Ok d B)(n:Int):(s.dP n).Ok d (B+1):=by
 have hn:=h.nn;unfold FF.dP;split
 ·rename_i c;obtain⟨i1,i2,i3⟩:=vG c;have Qx:∀ m,ae s.bj n (s.bj n+1) m=if m=n then s.bj n+1 else s.bj m:=fun m=>rfl
  have a0:=(h.dS.num n i1 i2).1;refine⟨⟨h.dS.kinds,h.dS.jd,h.dS.Mj,h.dS.kids,h.dS.data,h.dS.roots,h.dS.up,fun m a b=> ?_,fun m a b c=> ?_,fun m a b c e=> ?_,h.dS.Iq⟩,fun m a b=> ?_,og⟩
  ·obtain⟨a1,a2⟩:=h.dS.num m a b;refine⟨?_,a2⟩;show 0<=ae s.bj n _ m;rw[Qx];split<;>omega
  ·obtain⟨b1,b2⟩:=h.dS.zero m a b c;have:m≠n:=fun e=>by subst e;exact i3 c
   exact⟨b1,by show ae s.bj n _ m=0;rw[Qx,if_neg this];exact b2⟩
  ·show 0<s.bG m\/0<ae s.bj n _ m;rw[Qx];split
   ·omega
   ·exact h.dS.pos m a b c e
  ·show ae s.bj n _ m<=_;have:=h.bj m a b;have:=h.bj n i1 i2;rw[Qx];split<;>omega
 ·exact⟨h.dS,fun n a b=>by have:=h.bj n a b;omega,og⟩
theorem Ok.kz(h:s.Ok d B)(n:Int):(s.kz n).Ok d (B+1):=by
 have hn:=h.nn;unfold FF.kz;split
 ·rename_i c;unfold Dd at c;split at c
  ·omega
  ·split at c
   ·omega
   ·rename_i c0 c1;obtain⟨i1,i2,i3⟩:=vG (show s.cx n 0=0 by omega);have a0:=(h.dS.num n i1 i2).1;have Qx:∀ m,ae s.bj n (s.bj n-1) m=if m=n then s.bj n-1 else s.bj m:=fun m=>rfl
    have hw:=h.dS.weak n;have h2:dR {s with bj:=ae s.bj n (s.bj n-1)} d (-1) n:=⟨hw.kinds,hw.jd,hw.Mj,hw.kids,hw.data,hw.roots,hw.up,fun m a b=>by
      obtain⟨a1,a2⟩:=hw.num m a b
      refine⟨?_,a2⟩
      show 0<=ae s.bj n _ m
      rw[Qx];split<;>omega,fun m a b c=>by
      obtain⟨b1,b2⟩:=hw.zero m a b c
      have:m≠n:=fun e=>by subst e;exact i3 c
      exact⟨b1,by show ae s.bj n _ m=0;rw[Qx,if_neg this];exact b2⟩,fun m a b c e=>by
      show 0<s.bG m\/0<ae s.bj n _ m
      rw[Qx,if_neg e]
      exact hw.pos m a b c e,hw.Iq⟩
    have hb:∀ m,0<=m->m<40->ae s.bj n (s.bj n-1) m<=B+1:=fun m a b=>by
     have h1:=h.bj m a b;have h3:=h.bj n i1 i2;rw[Qx];split<;>omega
    unfold qL;split
    ·rename_i c2;have g0:s.aU n≠2:=fun g=>by
      have g1:=h.dS.Iq n i1 i2 g og;have g2:s.bG n=0:=c2.1;omega
     have h3:=h2.aeW i1 i2 c2.1 c2.2 (h.dS.Ml i1 i2 g0).1;refine⟨h3,fun m a b=> ?_,og⟩;show ae (ae s.bj n (s.bj n-1)) n 0 m<=_;have:=hb m a b;rw[show ae (ae s.bj n (s.bj n-1)) n 0 m=if m=n then 0 else ae s.bj n (s.bj n-1) m from rfl];split<;>omega
    ·rename_i c2;have a4:=(h.dS.num n i1 i2).2;rw[if_neg (show ¬n=(-1:Int) by omega)]at a4;have a5:¬(s.bG n=0/\ae s.bj n (s.bj n-1) n=0):=c2;rw[au]at a5;refine⟨⟨h2.kinds,h2.jd,h2.Mj,h2.kids,h2.data,h2.roots,h.dS.up,h2.num,h2.zero,fun m a b c _=> ?_,h.dS.Iq⟩,hb,og⟩;by_cases e:m=n
     ·subst e;show 0<s.bG m\/0<ae s.bj m _ m;rw[au];omega
     ·exact h2.pos m a b c e
 ·exact⟨h.dS,fun n a b=>by have:=h.bj n a b;omega,og⟩
theorem Ok.data(h:s.Ok d B){n:Int}(hk:s.aU n=1)(x:ByteArray)(hx:x.size<=40):Ok {s with data:=ae s.data n x} d (B+1):=by
 have hn:=h.nn;refine⟨⟨h.dS.kinds,h.dS.jd,h.dS.Mj,h.dS.kids,fun m a b=> ?_,h.dS.roots,h.dS.up,h.dS.num,h.dS.zero,h.dS.pos,h.dS.Iq⟩,fun m a b=>by have:=h.bj m a b;show s.bj m<=_;omega,og⟩;show(ae s.data n x m).size<=40/\(s.aU m≠1->ae s.data n x m=ByteArray.empty);rw[show ae s.data n x m=if m=n then x else s.data m from rfl];split
 ·simp_all
 ·exact h.dS.data m a b
def Ok.up1(h:s.Ok d B):s.Ok d (B+1):=⟨h.dS,fun n a b=>by have:=h.bj n a b;omega,by have:=h.nn;omega⟩
theorem ym(x:ByteArray)(a:Nat)(y:ByteArray):(Wv x a y).size=max x.size (a+y.size):=by
 unfold Wv;rw[<-ByteArray.size_data];simp
theorem Ok.cg(h:s.Ok d B)(n a:Int)(x:ByteArray):(s.cg n a x).Ok d (B+1):=by
 unfold FF.cg;split
 ·rename_i c;obtain⟨c,_⟩:=c;unfold eW at c;split at c
  ·omega
  ·split at c
   ·omega
   ·split at c
    ·omega
    ·obtain⟨i1,i2,_,i4⟩:=je (show s.cx n 1=0 by omega);apply h.data (i4 og) _;rw[ym];have:=(h.dS.data n i1 i2).1;omega
 ·exact h.up1
theorem Ok.move(h:s.Ok d B)(n:Int)(x:ByteArray)(to:Int)(y:ByteArray):∃ d',(s.move d n x to y).Ok d' (B+1):=by
 have hn:=h.nn;unfold FF.move;split
 ·exact⟨d,h.up1⟩
 ·rename_i c;have hb:∀ m,0<=m->m<40->s.bj m<=B+1:=fun m a b=>by have:=h.bj m a b;omega
  have c':s.fN d n x to=0:=og;unfold fN at c';split at c'
  ·omega
  ·split at c'
   ·omega
   ·split at c'
    ·omega
    ·split at c'
     ·omega
     ·rename_i c0 c1 c2 c3;obtain⟨i1,i2,i3,i4,i5,i6⟩:=Ok.gF h.dS (show s.fC n x=0 by omega);obtain⟨k1,k2,k3,k4,k5⟩:=h.dS.kids n i1 i2 _ i4;have h1:=h.dS.cut (k:=s.bK n x) i1 i2 i5 i6;obtain⟨r1,r2,r3,r4⟩:=h.dS.jd n i1 i2;split
      ·refine⟨d,?_,fun m a b=>hb m a b,og⟩;have e:=abV r1 i5 r2;rw[i6]at e;rw[e];exact h.dS
      ·rename_i c4;obtain⟨a1,a2,a3,a4⟩:=uZ (show(s.ek n x).eX to y=0 by omega);obtain⟨t1,t2,_,t4⟩:=je a1;have t5:s.aU to=2:=t4 og;have hlen:((s.ek n x).aN to).length<8:=by have:=(h1.jd to t1 t2).2.2.1;omega
       split
       ·rename_i c5;have hu:J2 d (s.ek n x) to (s.bK n x)=false:=by
         have e:J2 d (s.ek n x) to (s.bK n x)=J2 d s to (s.bK n x):=Dh (s:=s) (t:=s.ek n x) rfl _ _ _;rw[e];cases g:J2 d s to (s.bK n x)with
         | false=>rfl
         | true=>exact absurd ⟨c5,g⟩ c3
        obtain⟨g1,g2⟩:=h1.ahK k1 k2 c5 t1 t2 t5 hu;have h3:=g1.put (n:=to) (x:=y) t1 t2 t5 a3 hlen a2 ⟨k1,k2,k3⟩ (show s.dy (s.bK n x)=s.dy to by omega) fun _=>⟨au _ _ _,g2⟩;exact⟨_,h3,fun m a b=>hb m a b,og⟩
       ·rename_i c5;have h3:=h1.put (n:=to) (x:=y) t1 t2 t5 a3 hlen a2 ⟨k1,k2,k3⟩ (show s.dy (s.bK n x)=s.dy to by omega) fun g=>absurd g c5;exact⟨d,h3,fun m a b=>hb m a b,og⟩
def J6:dm.Ok (fun _=>0) 0:=by
 have hc:∀ k,dm.F3 k=0:=fun k=>by
  rfl
 refine⟨⟨fun _ _ _=>.inl rfl,fun _ _ _=>⟨fj.nil,rfl,by simp[dm],fun _=>rfl⟩,fun _ _ _ x hx=>by simp[dm]at hx,fun _ _ _ k hk=>by simp[dm]at hk,fun _ _ _=>⟨by simp[dm],fun _=>rfl⟩,⟨by simp[dm],fun r hr=>by simp[dm]at hr⟩,fun _ _ _ c=>by simp[dm]at c,fun m a b=>⟨by simp[dm],?_⟩,fun _ _ _ _=>⟨rfl,rfl⟩,fun _ _ _ c=>absurd rfl c,fun _ _ _ c=>by simp[dm]at c⟩,fun _ _ _=>by simp[dm],Int.le_refl _⟩;rw[hc,if_neg (show ¬m=(-1:Int) by omega)];rfl
end
theorem Sh.ek{s:FF}(h:s.Sh){n:Int}{x:ByteArray}(h1:0<=n)(h2:n<40)(hx:oX (s.aN n) x=true):(s.ek n x).Sh:=by
 obtain⟨p1,p2⟩:=lP.1 hx;obtain⟨r1,r2,r3,r4⟩:=h.jd n h1 h2;have hm:∀ m,(s.ek n x).kids m=if m=n then(s.kids n).eraseIdx (eo (s.aN n) x)else s.kids m:=fun m=>rfl
 have hnm:∀ m,(s.ek n x).aN m=if m=n then(s.aN n).eraseIdx (eo (s.aN n) x)else s.aN m:=fun m=>rfl
 refine⟨fun m a b=> ?_,fun m a b j hj=> ?_,h.data,h.roots,h.num⟩
 ·rw[hm,hnm];by_cases c:m=n
  ·subst c;rw[if_pos rfl,if_pos rfl,List.length_eraseIdx,if_pos p1,List.length_eraseIdx,if_pos og];exact⟨r1.Oc _ p1,og,og,fun q=>by rw[r4 q];rfl⟩
  ·rw[if_neg c,if_neg c];exact h.jd m a b
 ·rw[hm]at hj;split at hj
  ·rename_i c;subst c;exact h.kids m a b j (List.mem_of_mem_eraseIdx hj)
  ·exact h.kids m a b j hj
theorem Sh.js{s:FF}(h:s.Sh)(z k t l u:Int)(hl: -1000000<=l/\l<=1000000):(s.js z k t l u).Sh:=by
 refine⟨fun m a b=> ?_,fun m a b j hj=> ?_,fun m a b=> ?_,h.roots,fun m a b=> ?_⟩
 ·show fj (ae s.aN z [] m)/\(ae s.aN z [] m).length=(ae s.kids z [] m).length/\(ae s.aN z [] m).length<=8/\(ae s.aU z k m≠2->ae s.aN z [] m=[]);unfold ae;by_cases c:m=z
  ·simp only[c,if_true];exact⟨fj.nil,sq,sq,sq⟩
  ·simp only[c,if_false];exact h.jd m a b
 ·have Lt:j∈ae s.kids z [] m:=hj;unfold ae at Lt;split at Lt
  ·cases Lt
  ·exact h.kids m a b j Lt
 ·show(ae s.data z _ m).size<=40;unfold ae;split
  ·simp
  ·exact h.data m a b
 ·show-1000000<=ae s.bG z l m/\ae s.bG z l m<=1000000/\0<=ae s.bj z 0 m/\ae s.bj z 0 m<=1000000;have:=h.num m a b;unfold ae;split<;>omega
theorem Sh.gF{s:FF}(h:s.Sh){n:Int}(h0:s.fC n x=0):0<=n/\n<40/\s.aU n=2/\0<=s.bK n x/\s.bK n x<40/\oX (s.aN n) x=true:=by
 obtain⟨a,b,c⟩:=Of h0;obtain⟨i1,i2,i3,i4⟩:=je a;obtain⟨r1,r2,r3,r4⟩:=h.jd n i1 i2;obtain⟨p1,p2⟩:=lP.1 b;have:=rH (l:=s.kids n) (p:=eo (s.aN n) x) og;have h3:=h.kids n i1 i2 (s.bK n x) (by rw[c];simpa [dg]using this);simp_all
theorem zR{α:Type}(f:Int->α)(z:Int)(a b:α):ae (ae f z a) z b=ae f z b:=by
 grind [ae]
theorem Yb(s:FF)(z k t l u v:Int):({s.js z k t l u with up:=ae (s.js z k t l u).up z v} :FF)=s.js z k t l v:=by
 grind [js,zR]
end FF
end Go.X.Tr

namespace Go.X.Tr
open Go Go.X
variable{z:Int}
namespace FF
theorem wJ(s:FF):∀ (i:Nat),i<=40->(∀ j:Int,0<=j->j<i->s.aU j≠0)->s.vL (40-i)=s.free
 | 0,_,_=>rfl
 | i+1,h,ho=>by
  rw[<-wJ s i og fun j a b=>ho j a og];obtain⟨k,hk⟩:∃ k,40-i=k+1:=⟨39-i,og⟩;grind [vL]
def pJ{s:FF}{i:Int}(h1:0<=i)(h2:i<40)(ho:∀ j,0<=j->j<i->s.aU j≠0)(hz:s.aU i=0):s.free=i:=by
 have h:=wJ s i.toNat og fun j a b=>ho j a og;rw[<-h];obtain⟨k,hk⟩:∃ k,40-i.toNat=k+1:=⟨39-i.toNat,og⟩;grind [vL]
theorem zD{s:FF}(ho:∀ j,0<=j->j<40->s.aU j≠0):s.free= -1:=by
 have h:=wJ s 40 (Nat.le_refl _) fun j a b=>ho j a og;rw[<-h];rfl
end FF
theorem ox{α:Type}(l:List α)(i:Nat)(y:α)(h:i<l.length):l.take (i+1)=l.take i++[l.getD i y]:=by
 simp_all
namespace FF
end FF
theorem XQ.mono{P:Program}{ops:Array Oper}{Q:Exit->Act->World->Prop}{n:Fr}{L:PF}{M M':World->Prop}{B:Ax}{f:Nat}{l:Array Bool}(hm:∀ w,M w->M' w)(h:XQ P n ops Q B f l L M'):XQ P n ops Q B f l L M:=fun hc a w ha hw hJ=>h hc a w ha (hm w hw) hJ
section
variable {W w:World} {S:Nat->Nat->Prop} {H F:List aK}
theorem yo(h:0<=z/\z<40):ax z.toNat=true:=by show Nat.blt z.toNat 40=true;simp;omega
def Ue(x:aK):∀ (L:List aK),cI (x::L) L [x]
 | []=>.nil
 | _::r=>.cons (.av .aa) (Ue x r)
def na{e:TypeId}{s:FC}(hz:0<=z/\z<40)(hp:cI H [.aV ax (s.aX e)] F)(h:XM W S H w):XM W S (jN (s.nP z) (s.nC z) e (s.aN z):: .aV (iS ax z.toNat) (s.aX e)::F) w:=by
 have h1:=oe z.toNat (yo hz) (h.b8 hp.b8);have e1:(s.aX e z.toNat).Ce=jN (s.nP z) (s.nC z) e (s.aN z):=by
  grind [FC.aX]
 simp_all
def yq{e:TypeId}{s:FC}(hz:0<=z/\z<40)(hp:cI H [.aV ax (s.aY e)] F)(h:XM W S H w):XM W S (db (s.kP z) (s.kC z) e (s.kids z):: .aV (iS ax z.toNat) (s.aY e)::F) w:=by
 have h1:=oe z.toNat (yo hz) (h.b8 hp.b8);have e1:(s.aY e z.toNat).Ce=db (s.kP z) (s.kC z) e (s.kids z):=by
  grind [FC.aY]
 simp_all
theorem Qz(e:TypeId)(s t:FC)(z:Int)(hz:0<=z/\z<40)(l:List ByteArray)(p:Option Addr)(c:Nat)(h1:t.aN=ae s.aN z l)(h2:t.nP=ae s.nP z p)(h3:t.nC=ae s.nC z c):xe (s.aX e) z.toNat ⟨.slice p l.length c,e,1,l.length,strs l⟩=t.aX e:=by
 funext i;unfold FC.aX;rw[h1,h2,h3];grind [pt,lE,ae]
theorem QA(e:TypeId)(s t:FC)(z:Int)(hz:0<=z/\z<40)(l:List Int)(p:Option Addr)(c:Nat)(h1:t.kids=ae s.kids z l)(h2:t.kP=ae s.kP z p)(h3:t.kC=ae s.kC z c):xe (s.aY e) z.toNat ⟨.slice p l.length c,e,1,l.length,fL l⟩=t.aY e:=by
 funext i;unfold FC.aY;rw[h1,h2,h3];grind [pt,lE,ae]
def ly{e:TypeId}{s:FC}(t:FC){n c:Nat}{p:Option Addr}{l:List ByteArray}(hz:0<=z/\z<40)(hn:n=l.length)(h1:t.aN=ae s.aN z l)(h2:t.nP=ae s.nP z p)(h3:t.nC=ae s.nC z c)(hp:cI H [.row (.slice p n c) e 1 n (strs l),.aV (iS ax z.toNat) (s.aX e)] F)(h:XM W S H w):XM W S (.aV ax (t.aX e)::F) w:=by
 subst hn;have h4:=qk (x:=⟨.slice p l.length c,e,1,l.length,strs l⟩) z.toNat (uB _ _) (h.b8 hp.b8);rw[Fb (yo hz),Qz e s t z hz l p c h1 h2 h3]at h4;exact h4
def u5{e:TypeId}{s:FC}(t:FC){n c:Nat}{p:Option Addr}{l:List Int}(hz:0<=z/\z<40)(hn:n=l.length)(h1:t.kids=ae s.kids z l)(h2:t.kP=ae s.kP z p)(h3:t.kC=ae s.kC z c)(hp:cI H [.row (.slice p n c) e 1 n (fL l),.aV (iS ax z.toNat) (s.aY e)] F)(h:XM W S H w):XM W S (.aV ax (t.aY e)::F) w:=by
 subst hn;have h4:=qk (x:=⟨.slice p l.length c,e,1,l.length,fL l⟩) z.toNat (uB _ _) (h.b8 hp.b8);rw[Fb (yo hz),QA e s t z hz l p c h1 h2 h3]at h4;exact h4
def Og{e:TypeId}{s:FC}(t:FC)(hz:0<=z/\z<40)(h1:t.aN=ae s.aN z [])(h2:t.nP=ae s.nP z none)(h3:t.nC=ae s.nC z 0)(hp:cI H [.aV ax (s.aX e)] F)(h:XM W S H w):XM W S (.aV ax (t.aX e)::F) w:=by
 have h4:=(XM.pick (Ue _ _) (na hz hp h)).fc e 1;exact ly (s:=s) t (p:=none) (c:=0) (n:=0) (l:=[]) hz rfl h1 h2 h3 (.cons .aa (.cons .aa (by
  have hq:∀ L:List aK,cI L [] L:=fun L=>.nil
  exact hq _))) h4
def Oh{e:TypeId}{s:FC}(t:FC)(hz:0<=z/\z<40)(h1:t.kids=ae s.kids z [])(h2:t.kP=ae s.kP z none)(h3:t.kC=ae s.kC z 0)(hp:cI H [.aV ax (s.aY e)] F)(h:XM W S H w):XM W S (.aV ax (t.aY e)::F) w:=by
 have h4:=(XM.pick (Ue _ _) (yq hz hp h)).fc e 1;exact u5 (s:=s) t (p:=none) (c:=0) (n:=0) (l:=[]) hz rfl h1 h2 h3 (pz 2) h4
end
def FC.wK(s:FC)(z k t l u:Int):FC:=⟨s.toFF.js z k t l u,ae s.nP z none,ae s.nC z 0,ae s.kP z none,ae s.kC z 0,s.rP,s.rC⟩
def FC.aeZ(s:FC)(n:Int)(x:ByteArray)(k:Int)(p:Option Addr)(c:Nat)(p2:Option Addr)(c2:Nat):FC:=⟨s.toFF.sL n x k,ae s.nP n p,ae s.nC n c,ae s.kP n p2,ae s.kC n c2,s.rP,s.rC⟩
abbrev F5(k t l u:Int):aH.U:=⟨k,t,l,0,ByteArray.empty,u,[],none,0,[],none,0⟩
def yr(k t l u:Int):Array Value:= #[iI k,iI t,iI l,iI 0,.string ⟨#[]⟩,.slice none 0 0,.slice none 0 0,iI u]
def J7(s:FC)(z k t l u:Int)(hz:0<=z/\z<40:=by omega):0+0+z.toNat*8+8<=321/\cB (aH s) (0+0+z.toNat*8) (yr k t l u).toList=aH (s.wK z k t l u):=
 aH.SU s (s.wK z k t l u) z hz _ rfl (fun j hj=>by
  have e:aH.un (s.wK z k t l u) z=F5 k t l u:=by
   unfold aH.un FC.wK FF.js
   simp only[au]
  rw[e]
  match j,hj with
  | 0,_=>rfl
  | 1,_=>rfl
  | 2,_=>rfl
  | 3,_=>rfl
  | 4,_=>rfl
  | 5,_=>rfl
  | 6,_=>rfl
  | 7,_=>rfl
  | j+8,h=>exact absurd h og) (fun y hy=>by
  unfold aH.un FC.wK FF.js
  simp only[ai _ _ hy]) rfl
def mE(s:FC):0+320<321/\aH s (0+320)= .slice s.rP s.roots.length s.rC:=by grind [aH]
def ET(s:FC)(l:List Int)(p:Option Addr)(c n:Nat)(hn:n=l.length):0+320<321/\dE (aH s) (0+320) (.slice p n c)=aH {s with roots:=l,rP:=p,rC:=c} :=by
 subst hn;refine⟨og,?_⟩;funext i;unfold dE aH;by_cases hi:i=0+320
 ·simp_all
 ·rw[if_neg hi];by_cases c1:i<320
  ·rw[if_pos c1,if_pos c1];rfl
  grind
def J8(k t l u:Int):∀ i,i<8->cellsOf (yr k t l u) i=aH.cell (F5 k t l u) i:=fun i h=>match i,h with
 | 0,_=>rfl
 | 1,_=>rfl
 | 2,_=>rfl
 | 3,_=>rfl
 | 4,_=>rfl
 | 5,_=>rfl
 | 6,_=>rfl
 | 7,_=>rfl
 | j+8,h=>absurd h og
def Uf(k t l u:Int):0+8<=8/\dc (aH.cell (F5 k t l u)) 0 8= .agg (yr k t l u):=⟨og,rfl⟩
def J9:Array Value:=((List.range 321).map (aH FC.dm)).toArray
def Mm:J9.size=321:=by simp[J9]
def QB:∀ i,i<321->cellsOf J9 i=aH FC.dm i:=fun i hi=>by simp[cellsOf,J9,hi]
def FC.ae0(s:FC)(n:Int)(x:ByteArray):FC:=⟨s.toFF.ek n x,ae s.nP n (s.nP n),ae s.nC n (s.nC n),ae s.kP n (s.kP n),ae s.kC n (s.kC n),s.rP,s.rC⟩
theorem Dj{t:FC}{X:FF}(h:t.toFF=X)(z v:Int):({t with bG:=ae t.bG z v} :FC).toFF= {X with bG:=ae X.bG z v} :=by rw[<-h]
theorem Yc{t:FC}{X:FF}(h:t.toFF=X)(z v:Int):({t with bj:=ae t.bj z v} :FC).toFF= {X with bj:=ae X.bj z v} :=by rw[<-h]
theorem ae1{t:FC}{X:FF}(h:t.toFF=X)(z v:Int):({t with up:=ae t.up z v} :FC).toFF= {X with up:=ae X.up z v} :=by rw[<-h]
def A2{W w:World}{S:Nat->Nat->Prop}{H:List aK}(r:Nat->pQ)(e:TypeId)(hr:∀ i,r i=⟨.slice none 0 0,e,1,0,[]⟩)(h:XM W S H w):XM W S (.aV ax r::H) w:=by
 have hr0:w.ownsRow 0 e 1 (.slice none 0 0) 0 []:=(h.fc e 1).eT.1 (.row (.slice none 0 0) e 1 0 []) sq;refine⟨⟨fun x hx=> ?_,List.pairwise_cons.2 ⟨fun x hx _ b o h1 h2=> ?_,h.eT.2⟩⟩,h.eK,fun x hx hw b o hb=> ?_⟩
 ·rcases List.mem_cons.1 hx with rfl | hx
  ·exact⟨fun i _=>by rw[hr];exact hr0,fun i j b _ _ _ h1 _=>by rw[hr]at h1;cases h1⟩
  ·exact h.eT.1 x hx
 ·obtain⟨i,_,hb⟩:=h1;rw[hr]at hb;cases hb
 ·rcases List.mem_cons.1 hx with rfl | hx
  ·obtain⟨i,_,hb⟩:=hb;rw[hr]at hb;cases hb
  ·exact h.Em x hx hw b o hb
def HD{W w:World}{S:Nat->Nat->Prop}{H:List aK}(h:XM W S H w):XM W S (.aV ax (FC.dm.aX 9):: .aV ax (FC.dm.aY 3)::db none 0 3 []::H) w:=
 A2 _ 9 (fun _=>rfl) (A2 _ 3 (fun _=>rfl) (h.fc 3 1))
structure NV where
 aU:Int
 bG:Int
 bj:Int
 size:Int
def NV.cO(x:NV):Array Value:= #[iI x.aU,iI x.bG,iI x.bj,iI x.size]
def NV.zero:NV:=⟨0,0,0,0⟩
def nQ(x:NV)(i:Nat):Value:=if i=0 then iI x.aU else if i=1 then iI x.bG else if i=2 then iI x.bj else if i=3 then iI x.size else undef
def oz(x:NV):∀ i,i<4->cellsOf x.cO i=nQ x i:=fun i h=>match i,h with
 | 0,_=>rfl
 | 1,_=>rfl
 | 2,_=>rfl
 | 3,_=>rfl
 | j+4,h=>absurd h og
def qM(x:NV):0+4<=4/\dc (nQ x) 0 4= .agg x.cO:=⟨og,rfl⟩
def lS(y x:NV):0+4<=4/\cB (nQ y) 0 x.cO.toList=nQ x:=by
 refine⟨og,?_⟩;funext i;match i with
 | 0=>rfl
 | 1=>rfl
 | 2=>rfl
 | 3=>rfl
 | k+4=>simp[cB,dE,NV.cO,nQ]
def wL(x:NV):0+0<4/\nQ x (0+0)=iI x.aU:=⟨og,rfl⟩
def Ka(x:NV):0+1<4/\nQ x (0+1)=iI x.bG:=⟨og,rfl⟩
def Mn(x:NV):0+2<4/\nQ x (0+2)=iI x.bj:=⟨og,rfl⟩
def Mo(x:NV):0+3<4/\nQ x (0+3)=iI x.size:=⟨og,rfl⟩
def FF.Ww(s:FF)(n:Int):NV:=if s.cx n 0=0 then⟨s.aU n,s.bG n,s.bj n,max ((s.data n).size:Int) ((s.kids n).length:Int)⟩else NV.zero
def Oi(u:aH.U):Array Value:= #[iI u.aU,iI u.dy,iI u.bG,iI u.bj,.string u.data,.slice u.nP u.aN.length u.nC,.slice u.kP u.kids.length u.kC,iI u.up]
def QC(s:FC)(z:Int)(h:0<=z/\z<40):0+0+z.toNat*8+8<=321/\dc (aH s) (0+0+z.toNat*8) 8= .agg (Oi (aH.un s z)):=by
 refine⟨og,?_⟩;have q:=aH.at_ s z h;simp only[dc,List.range,List.range.loop,List.map_cons,List.map_nil];rw[q 0 og,q 1 og,q 2 og,q 3 og,q 4 og,q 5 og,q 6 og,q 7 og];rfl
def Ug(u0 u:aH.U):0+8<=8/\cB (aH.cell u0) 0 (Oi u).toList=aH.cell u:=by
 refine⟨og,?_⟩;funext i;match i with
 | 0=>rfl
 | 1=>rfl
 | 2=>rfl
 | 3=>rfl
 | 4=>rfl
 | 5=>rfl
 | 6=>rfl
 | 7=>rfl
 | k+8=>
  have e1:∀ u:aH.U,aH.cell u (k+8)=undef:=fun u=>by unfold aH.cell;iterate 8 rw[if_neg og]
  have e2:cB (aH.cell u0) 0 (Oi u).toList (k+8)=aH.cell u0 (k+8):=by simp[cB,dE,Oi]
  rw[e2,e1,e1]
def Yd(u:aH.U):0+0<8/\aH.cell u (0+0)=iI u.aU:=⟨og,rfl⟩
def Ye(u:aH.U):0+2<8/\aH.cell u (0+2)=iI u.bG:=⟨og,rfl⟩
def Yf(u:aH.U):0+3<8/\aH.cell u (0+3)=iI u.bj:=⟨og,rfl⟩
def Yg(u:aH.U):0+4<8/\aH.cell u (0+4)= .string u.data:=⟨og,rfl⟩
def Yh(u:aH.U):0+6<8/\aH.cell u (0+6)= .slice u.kP u.kids.length u.kC:=⟨og,rfl⟩
theorem abX(l:List UInt8)(i:Nat)(h:i<(ByteArray.mk l.toArray).size)(h2:i<l.length):(ByteArray.mk l.toArray)[i]'h=l[i]'h2:=rfl
theorem abY(d:ByteArray)(a:Nat)(x:ByteArray)(i:Nat)(h:i<(Wv d a x).size):(Wv d a x)[i]=if a<=i/\i<a+x.size then x.get! (i-a)else if i<d.size then d.get! i else 0:=by
 have hs:=FF.ym d a x;grind [abX,Wv]
def Mp{x:ByteArray}{j:Nat}(h:j<x.size):(x.data.toList.map bv)[j]? =some (bv (x.get! j)):=by
 rw[List.getElem?_map];have h2:j<x.data.toList.length:=by rw[Array.length_toList];exact h
 rw[List.getElem?_eq_getElem h2];show some (bv (x.data.toList[j]))=some (bv (x.data[j]!));simp_all
theorem Mq(x:ByteArray):(x.data.toList.map bv).length=x.size:=by simp_all
def Uh(d:ByteArray)(a:Nat)(x:ByteArray)(i:Nat)(h:i<(Wv d a x).size):cB (cB (fun _=>bv 0) 0 (d.data.toList.map bv)) a (x.data.toList.map bv) i=bv (Wv d a x)[i]:=by
 rw[abY];by_cases c1:i<a
 ·rw[iL _ _ _ _ c1,if_neg og];by_cases c2:i<d.size
  ·rw[if_pos c2];have:=fQ (d.data.toList.map bv) (fun _=>bv 0) 0 i _ (Mp c2);simp_all
  grind [jm,Mq]
 ·by_cases c3:i<a+x.size
  ·rw[if_pos ⟨og,c3⟩];have:=fQ (x.data.toList.map bv) (cB (fun _=>bv 0) 0 (d.data.toList.map bv)) a (i-a) _ (Mp (x:=x) (j:=i-a) og);simp_all
  ·rw[if_neg og,jm _ _ _ _ (by rw[Mq];omega)];by_cases c2:i<d.size
   ·rw[if_pos c2];have:=fQ (d.data.toList.map bv) (fun _=>bv 0) 0 i _ (Mp c2);simp_all
   grind [jm,Mq]
end Go.X.Tr

namespace Go.X.Tr
open Go Go.X
variable{J K n:Int}{d:Int->Nat}
namespace FF
theorem Dk(s:FF)(n:Int):(s.qL n).roots=s.roots:=by unfold qL;split<;>rfl
theorem wM(s:FF)(n:Int)(x:ByteArray)(k:Int):(s.make n x k).roots=s.roots:=by unfold make;split<;>rfl
def Dm(s:FF)(k n:Int)(x:ByteArray):(s.zU k n x).roots=s.roots:=by unfold zU;split<;>rfl
def yt(s:FF)(n:Int)(x:ByteArray):(s.ed n x).roots=s.roots:=by
 unfold ed;split
 ·rw[Dk];rfl
 rfl
def Dn(d:Int->Nat)(s:FF)(n:Int)(x:ByteArray)(to:Int)(y:ByteArray):(s.move d n x to y).roots=s.roots:=by
 unfold move;split
 ·rfl
 ·split
  ·rfl
  ·split<;>rfl
def Mr(s:FF)(n:Int):(s.dP n).roots=s.roots:=by unfold dP;split<;>rfl
theorem mF(s:FF)(n:Int):(s.kz n).roots=s.roots:=by
 grind [kz,Dk]
def Kb(s:FF)(n a:Int)(x:ByteArray):(s.cg n a x).roots=s.roots:=by grind [cg]
end FF
def HE(x:jP):∀ i,i<8->cellsOf #[.string x.aU,iI x.a,iI x.b,iI x.c,.int .u64 x.iJ,.bool x.on,.string x.s,.string x.t] i=fM x i:=fun i hi=>match i,hi with
 | 0,_=>rfl
 | 1,_=>rfl
 | 2,_=>rfl
 | 3,_=>rfl
 | 4,_=>rfl
 | 5,_=>rfl
 | 6,_=>rfl
 | 7,_=>rfl
 | k+8,h=>absurd h og
namespace FF
def Kc{x:ByteArray}(h:jW x=true):x.size<=8:=by
 grind [jW]
def Ui{s:FF}(h:s.cx n 0=0):(s.Ww n).aU=s.aU n/\(s.Ww n).bG=s.bG n/\(s.Ww n).bj=s.bj n:=by
 grind [FF.Ww]
structure Way (s:FF) (d:Int->Nat) (a k:Int):Prop where
 nn:0<=k
 kv:0<=a/\a<40
 Iq:s.aU a=2
 HF:∃ L:List Int,(L.length:Int)=k/\L.Nodup/\∀ z∈L,(0<=z/\z<40)/\d a<d z
def Way.step{s:FF}{a k:Int}(h:s.Way d a k):((a::h.HF.choose).length:Int)=k+1/\(a::h.HF.choose).Nodup/\∀ z∈a::h.HF.choose,0<=z/\z<40:=by
 obtain⟨l1,l2,l3⟩:=h.HF.choose_spec;refine⟨by rw[List.length_cons];omega,List.nodup_cons.2 ⟨fun q=> ?_,l2⟩,fun z hz=> ?_⟩
 ·grind
 ·rcases List.mem_cons.1 hz with rfl | hz
  ·exact h.kv
  simp_all
end FF
structure OS where
 aU:Int->Int
 n:Int->Int
 at_:Int->Int
 cG:Int->Int
 cg:Int->Bool
namespace OS
def is(s:OS)(n:Int):Int:=if n<0\/24<=n then 1 else if s.cG n=0 then 2 else 0
def mG(s:OS):Nat->Int
 | 0=> -1
 | k+1=>if 0<=mG s k then mG s k else if s.cG (k:Int)=0 then(k:Int)else-1
def first(s:OS):Int:=mG s 24
def fq(s:OS)(m:Int):Nat->List Int
 | 0=>[]
 | k+1=>if s.cG (k:Int)=0/\((fq s m k).length:Int)<m then fq s m k++[(k:Int)]else fq s m k
def lay(s:OS)(z k n:Int)(w:Bool):OS:=⟨ae s.aU z k,ae s.n z n,ae s.at_ z 0,ae s.cG z 1,ae s.cg z w⟩
def Hd(s:OS)(z:Int):OS:=⟨ae s.aU z 0,ae s.n z 0,ae s.at_ z 0,ae s.cG z 0,ae s.cg z false⟩
def move(s:OS)(z d:Int):OS:= {s with at_:=ae s.at_ z (s.at_ z+d)}
def dm:OS:=⟨fun _=>0,fun _=>0,fun _=>0,fun _=>0,fun _=>false⟩
def Dp(s:OS):Nat->Int
 | 0=>0
 | k+1=>Dp s k+(if 0<s.cG (k:Int)then 1 else 0)
def opens(s:OS):Int:=Dp s 24
structure Inv (s:OS) (J:Int):Prop where
 cG:∀ n,0<=n->n<24->0<=s.cG n/\s.cG n<=J
 at_:∀ n,0<=n->n<24->0<=s.at_ n/\s.at_ n<=40
 aU:∀ n,0<=n->n<24->s.cG n≠0->s.aU n=1\/s.aU n=2\/s.aU n=3
 cg:∀ n,0<=n->n<24->s.aU n≠1->s.cg n=false
theorem Ms{s:OS}(h:s.is n=0):0<=n/\n<24/\s.cG n≠0:=by
 grind [is]
theorem tQ(s:OS):∀ k:Nat,(s.mG k= -1/\∀ j:Int,0<=j->j<k->s.cG j≠0)\/(0<=s.mG k/\s.mG k<k/\s.cG (s.mG k)=0/\∀ j:Int,0<=j->j<s.mG k->s.cG j≠0)
 | 0=>.inl ⟨rfl,fun j a b=>og⟩
 | k+1=>by
  unfold mG;rcases tQ s k with⟨h1,h2⟩ | ⟨h1,h2,h3,h4⟩
  ·rw[if_neg og];by_cases c:s.cG (k:Int)=0
   ·rw[if_pos c];exact .inr ⟨og,og,c,fun j a b=>h2 j a og⟩
   ·rw[if_neg c];refine .inl ⟨rfl,fun j a b=> ?_⟩;by_cases e:j=(k:Int)
    ·subst e;exact c
    ·exact h2 j a og
  ·rw[if_pos h1];exact .inr ⟨h1,og,h3,h4⟩
def Dq{s:OS}{i:Int}(h1:0<=i)(h2:i<24)(ho:∀ j,0<=j->j<i->s.cG j≠0)(hz:s.cG i=0):s.first=i:=by
 grind [first,tQ]
theorem nc{s:OS}(h:¬s.first<0):0<=s.first/\s.first<24/\s.cG s.first=0:=by
 grind [first,tQ]
theorem HG(s:OS):∀ k,s.fq 1 k=if 0<=s.mG k then [s.mG k]else []
 | 0=>rfl
 | k+1=>by
  unfold fq mG;rw[HG s k];by_cases c:0<=s.mG k
  ·simp only[c,if_true,List.length_singleton];rw[if_neg og]
  ·simp only[c,if_false,List.length_nil];by_cases q:s.cG (k:Int)=0
   ·rw[if_pos ⟨q,og⟩,if_pos q,if_pos og];rfl
   ·rw[if_neg fun h=>q h.1,if_neg q,if_neg og]
def F6(s:OS)(m:Int):∀ k,(s.fq m k).length<=k
 | 0=>Nat.le_refl _
 | k+1=>by
  have:=F6 s m k;grind [fq]
def Mt(s:OS)(m:Int){i:Int}(h:0<=i):s.fq m (i+1).toNat=if s.cG i=0/\((s.fq m i.toNat).length:Int)<m then s.fq m i.toNat++[i]else s.fq m i.toNat:=by
 rw[show(i+1).toNat=i.toNat+1 by omega];grind [fq]
theorem BL{s:OS}(h:((s.fq 1 24).length:Int)<1):s.first<0:=by
 rw[HG]at h;grind [first]
def Uj{s:OS}(h:¬((s.fq 1 24).length:Int)<1):¬s.first<0/\s.fq 1 24=[s.first]:=by
 rw[HG]at h ⊢;grind [first]
end OS
def nD(F:FF)(O:OS)(n:Int):Int:=if F.cx n 1≠0 then F.cx n 1 else if O.first<0 then 4 else 0
def tS(F:FF)(O:OS)(n:Int):Int:=if nD F O n=0 then O.first else 0
def mH(F:FF)(O:OS)(n:Int):FF:=if nD F O n=0 then F.dP n else F
def p7(F:FF)(O:OS)(n:Int)(w:Bool):OS:=if nD F O n=0 then O.lay O.first 1 n w else O
def p8(O:OS)(n:Int):OS:=if O.is n=0 then {O with cG:=ae O.cG n (O.cG n+1)} else O
def Kd(O:OS)(n:Int):OS:= {O with cG:=ae O.cG n (O.cG n-1)}
def Oj(O:OS)(n:Int):Prop:=O.is n=0/\¬ 0<O.cG n-1
instance (O:OS) (n:Int):Decidable (Oj O n):=by unfold Oj;infer_instance
def jY(F:FF)(P:PS)(O:OS)(n:Int):Int:=if O.is n≠0 then O.is n else if 0<O.cG n-1 then 0 else if O.aU n=1 then F.Dd (O.n n)else(P.mm (O.n n) (decide (O.aU n=3)) (-1)).1
def mI(F:FF)(O:OS)(n:Int):FF:=if Oj O n/\O.aU n=1 then F.kz (O.n n)else F
def kA(P:PS)(O:OS)(n:Int):PS:=if Oj O n/\¬O.aU n=1 then(P.mm (O.n n) (decide (O.aU n=3)) (-1)).2 else P
def kB(O:OS)(n:Int):OS:=if O.is n≠0 then O else if 0<O.cG n-1 then Kd O n else O.Hd n
def tT(F:FF)(P:PS)(O:OS)(n m:Int):Int:=if O.is n≠0 then O.is n else if O.aU n=3 then 8 else if O.aU n=2 then(P.mZ (O.n n) m).2.1 else F.lQ (O.n n) (O.at_ n) m
def tU(F:FF)(P:PS)(O:OS)(n m:Int):ByteArray:=if O.is n≠0 then⟨#[]⟩else if O.aU n=3 then⟨#[]⟩else if O.aU n=2 then(P.mZ (O.n n) m).1 else F.ky (O.n n) (O.at_ n) m
def p9(P:PS)(O:OS)(n m:Int):PS:=if O.is n=0/\O.aU n=2 then(P.mZ (O.n n) m).2.2 else P
def qa(F:FF)(O:OS)(n m:Int):OS:=if O.is n=0/\¬O.aU n=3/\¬O.aU n=2 then O.move n ((F.ky (O.n n) (O.at_ n) m).size)else O
def iG(F:FF)(P:PS)(O:OS)(n:Int)(x:ByteArray):Int:=if O.is n≠0 then O.is n else if O.aU n=3 then(P.cg (O.n n) x).2.1 else if O.aU n=2\/O.cg n=false then 8 else F.eW (O.n n) (O.at_ n) x
def Dr(O:OS)(n:Int):Prop:=O.is n=0/\¬O.aU n=3/\¬(O.aU n=2\/O.cg n=false)
instance (O:OS) (n:Int):Decidable (Dr O n):=by unfold Dr;infer_instance
def jf(F:FF)(P:PS)(O:OS)(n:Int)(x:ByteArray):Int:=if O.is n=0/\O.aU n=3 then(P.cg (O.n n) x).1 else if Dr O n/\F.eW (O.n n) (O.at_ n) x=0 then(x.size:Int)else 0
def lT(P:PS)(O:OS)(n:Int)(x:ByteArray):PS:=if O.is n=0/\O.aU n=3 then(P.cg (O.n n) x).2.2 else P
def fW(F:FF)(O:OS)(n:Int)(x:ByteArray):FF:=if Dr O n then F.cg (O.n n) (O.at_ n) x else F
def jg(F:FF)(O:OS)(n:Int)(x:ByteArray):OS:=if Dr O n/\F.eW (O.n n) (O.at_ n) x=0 then O.move n (x.size)else O
def nf(O:OS)(n a:Int):Int:=if O.is n≠0 then O.is n else if O.aU n≠1 then 11 else if a<0\/40<a then 1 else 0
def vM(O:OS)(n a:Int):OS:=if nf O n a=0 then {O with at_:=ae O.at_ n a} else O
theorem OS.jo(s:OS)(n:Int):(s.is n=0/\0<=n/\n<24/\¬s.cG n=0)\/(s.is n=1/\(n<0\/24<=n))\/(s.is n=2/\0<=n/\n<24/\s.cG n=0):=by
 unfold OS.is;split;all_goals omega
def aag(x:Int):(fL [x])[0+(0:Int).toNat*1]? =some (iI x):=rfl
theorem OS.Ke(O:OS)(n:Int):(Kd O n).Hd n=O.Hd n:=by
 unfold OS.Hd Kd;simp only[FF.zR]
def FF.Kf{s:FF}(h:s.Sh)(n a m:Int):(s.ky n a m).size<=40/\(0<=a->a<=40->a+((s.ky n a m).size:Int)<=40):=by
 unfold ky;split
 ·rename_i e;have e1:s.cx n 1=0/\0<=a/\0<=m:=by
   grind [lQ]
  obtain⟨i1,i2,_⟩:=je e1.1;have hd:=h.data n i1 i2;grind [ByteArray.size_extract]
 simp_all
namespace OS
def jx(s:OS):Int:=(s.lay s.first 2 0 false).first
def Ol(s:OS):∀ k:Nat,0<=s.Dp k/\s.Dp k<=k
 | 0=>by simp[Dp]
 | k+1=>by
  have:=Ol s k;grind [Dp]
def zY{s:OS}(h:∀ n,0<=n->n<24->0<=s.cG n)(m:Int)(hm:0<=m):∀ k:Nat,k<=24->((s.fq m k).length:Int)=min m (k-s.Dp k)
 | 0,_=>by simp[fq,Dp];omega
 | k+1,hk=>by
  have ih:=zY h m hm k og;grind [fq,Dp]
def HH(s:OS):∀ k:Nat,(s.fq 2 k=[]/\∀ j:Int,0<=j->j<k->s.cG j≠0)\/(∃ a:Int,s.fq 2 k=[a]/\0<=a/\a<k/\s.cG a=0/\∀ j:Int,0<=j->j<k->j≠a->s.cG j≠0)\/
  (∃ a b:Int,s.fq 2 k=[a,b]/\0<=a/\a<b/\b<k/\s.cG a=0/\s.cG b=0/\∀ j:Int,0<=j->j<b->j≠a->s.cG j≠0)
 | 0=>.inl ⟨rfl,fun j a b=>og⟩
 | k+1=>by
  unfold fq;rcases HH s k with⟨h1,h2⟩ | ⟨a,h1,h2,h3,h4,h5⟩ | ⟨a,b,h1,h2,h3,h4,h5,h6,h7⟩
  ·rw[h1];by_cases c:s.cG (k:Int)=0
   ·rw[if_pos ⟨c,sq⟩];exact .inr (.inl ⟨k,rfl,og,og,c,fun j x y z=>h2 j x og⟩)
   ·rw[if_neg fun q=>c q.1];refine .inl ⟨rfl,fun j x y=> ?_⟩;by_cases e:j=(k:Int)
    ·subst e;exact c
    ·exact h2 j x og
  ·rw[h1];by_cases c:s.cG (k:Int)=0
   ·rw[if_pos ⟨c,sq⟩];exact .inr (.inr ⟨a,k,rfl,h2,h3,og,h4,c,fun j x y z=>h5 j x og z⟩)
   ·rw[if_neg fun q=>c q.1];refine .inr (.inl ⟨a,rfl,h2,og,h4,fun j x y z=> ?_⟩);by_cases e:j=(k:Int)
    ·subst e;exact c
    ·exact h5 j x og z
  ·rw[h1,if_neg fun q=>by have:=q.2;simp at this];exact .inr (.inr ⟨a,b,rfl,h2,h3,og,h5,h6,h7⟩)
def Uk{s:OS}(h:((s.fq 2 24).length:Int)<2):s.first<0\/s.jx<0:=by
 rcases s.HH 24 with⟨h1,h2⟩ | ⟨a,h1,h2,h3,h4,h5⟩ | ⟨a,b,h1,_⟩
 ·grind [nc]
 ·right;have e:s.first=a:=Dq h2 h3 (fun j x y=>h5 j x og og) h4
  refine Decidable.byContradiction fun c=> ?_;have q:=nc (s:=s.lay s.first 2 0 false) c;have q3:=q.2.2;rw[show(s.lay s.first 2 0 false).cG=ae s.cG s.first 1 from rfl,show(s.lay s.first 2 0 false).first=s.jx from rfl]at q3;by_cases z:s.jx=a;all_goals grind [au,ai,jx]
 simp_all
def QD{s:OS}(h:¬((s.fq 2 24).length:Int)<2):¬s.first<0/\¬s.jx<0/\s.fq 2 24=[s.first,s.jx]:=by
 rcases s.HH 24 with⟨h1,h2⟩ | ⟨a,h1,h2,h3,h4,h5⟩ | ⟨a,b,h1,h2,h3,h4,h5,h6,h7⟩
 ·simp_all
 ·simp_all
 ·have e:s.first=a:=Dq h2 og (fun j x y=>h7 j x og og) h5
  have e2:s.jx=b:=by
   unfold jx;refine Dq og og (fun j x y=> ?_) ?_
   ·show ae s.cG s.first 1 j≠0
    grind [au,ai]
   ·show ae s.cG s.first 1 b=0
    grind [ai]
  grind
def Kg(s:OS):0<=s.opens/\s.opens<=24:=by
 have:=s.Ol 24;grind [opens]
end OS
def Om(O:OS)(m:Int):Bool:=decide (m<1)||decide (m<=24-O.opens)
def kD(P:PS)(O:OS):Int:=if O.first<0\/O.jx<0 then 4 else P.make.2.1
def nF(P:PS)(O:OS):PS:=if O.first<0\/O.jx<0 then P else P.make.2.2
def nG(P:PS)(O:OS):OS:=if kD P O=0 then(O.lay O.first 2 P.make.1 false).lay O.jx 3 P.make.1 false else O
def nH(P:PS)(O:OS):Int:=if kD P O=0 then O.first else 0
def o3(P:PS)(O:OS):Int:=if kD P O=0 then O.jx else 0
def Ul(x y:Int):(fL [x,y])[0+(0:Int).toNat*1]? =some (iI x):=rfl
def Um(x y:Int):(fL [x,y])[0+(1:Int).toNat*1]? =some (iI y):=rfl
theorem PS.Un{s:PS}(h:s.Inv K)(hK:0<=K):(s.make).2.2.Inv (K+1):=by
 unfold PS.make;cases hf:dv (fun k=>s.e k 0+s.e k 1==0) 8 with
 | none=>exact h.mono og
 | some k=>
  have hz:s.e k 0+s.e k 1=0:=by
   grind [dv]
  refine⟨fun n=> ?_,fun n=> ?_,fun n hn=> ?_,h.len⟩
  ·grind [cr,Inv]
  ·grind [cr,Inv]
  ·grind [cr,Inv]
def PS.Uo{s:PS}{d:Int}{w:Bool}(h:s.Inv K)(hd:d=1\/d= -1):(s.mm n w d).2.Inv (K+1):=by
 unfold PS.mm;by_cases h1:s.is n≠0
 ·grind [PS.Inv.mono]
 rw[if_neg h1];by_cases h2:s.e n (Ip w)=0
 ·grind [PS.Inv.mono]
 rw[if_neg h2];have b0:=h.e0;have b1:=h.e1;have hw:Ip w=0\/Ip w=1:=by cases w<;>simp[Ip]
 refine⟨fun m=> ?_,fun m=> ?_,fun m hm=> ?_,fun m=> ?_⟩;all_goals grind [cr,ae,ByteArray.size,Inv]
theorem PS.Up{s:PS}{m:Int}(h:s.Inv K):(s.mZ n m).2.2.Inv (K+1):=by
 have hh:=h.mono (show K<=K+1 by omega);unfold PS.mZ;split
 ·omega
 ·split
  ·omega
  ·split
   ·omega
   ·split;all_goals grind [ae,ByteArray.size_extract,Inv]
theorem PS.QE{s:PS}{t:ByteArray}(h:s.Inv K):(s.cg n t).2.2.Inv (K+1):=by
 have hh:=h.mono (show K<=K+1 by omega);unfold PS.cg;split
 ·omega
 ·split
  ·omega
  ·rename_i h1;split
   ·omega
   ·split;all_goals grind [ae,ByteArray.size_extract,Inv]
theorem OS.Inv.mono{s:OS}{J':Int}(h:s.Inv J)(hJ:J<=J'):s.Inv J':=
 ⟨fun n a b=>⟨(h.cG n a b).1,Int.le_trans (h.cG n a b).2 hJ⟩,h.at_,h.aU,h.cg⟩
theorem OS.Inv.dm:OS.dm.Inv 1:=
 ⟨fun _ _ _=>by simp[OS.dm],fun _ _ _=>by simp[OS.dm],fun n _ _ h=>absurd rfl h,fun _ _ _ _=>rfl⟩
theorem OS.Inv.lay{s:OS}{J:Int}(h:s.Inv J)(hJ:1<=J)(z k n:Int)(w:Bool)(hk:k=1\/k=2\/k=3)(hw:k≠1->w=false):(s.lay z k n w).Inv J:=by
 refine⟨fun y a b=> ?_,fun y a b=> ?_,fun y a b c=> ?_,fun y a b c=> ?_⟩
 ·show 0<=ae s.cG z 1 y/\ae s.cG z 1 y<=J;by_cases q:y=z;all_goals grind [au,ai,Inv]
 ·show 0<=ae s.at_ z 0 y/\ae s.at_ z 0 y<=40;by_cases q:y=z;all_goals grind [au,ai,Inv]
 ·show ae s.aU z k y=1\/ae s.aU z k y=2\/ae s.aU z k y=3;by_cases q:y=z
  ·grind [au]
  ·rw[ai _ _ q];refine h.aU y a b ?_;have c':ae s.cG z 1 y≠0:=c;grind [ai]
 ·show ae s.cg z w y=false;have c':ae s.aU z k y≠1:=c;by_cases q:y=z;all_goals grind [au,ai,Inv]
theorem OS.Inv.aah{s:OS}{J':Int}(h:s.Inv J)(hJ:J<=J')(n r:Int)(hr:0<=r/\r<=J')(hn:s.cG n≠0):({s with cG:=ae s.cG n r} :OS).Inv J':=by
 refine⟨fun y a b=> ?_,h.at_,fun y a b c=> ?_,h.cg⟩
 ·show 0<=ae s.cG n r y/\ae s.cG n r y<=J';by_cases q:y=n;all_goals grind [Inv,ae]
 grind [ai,Inv]
theorem OS.Inv.atI{s:OS}(h:s.Inv J)(n r:Int)(hr:0<=r/\r<=40):({s with at_:=ae s.at_ n r} :OS).Inv J:=by
 refine⟨h.cG,fun y a b=> ?_,h.aU,h.cg⟩;show 0<=ae s.at_ n r y/\ae s.at_ n r y<=40;by_cases q:y=n;all_goals grind [Inv,ae]
theorem OS.Inv.Hd{s:OS}{J:Int}(h:s.Inv J)(hJ:0<=J)(z:Int):(s.Hd z).Inv J:=by
 refine⟨fun y a b=> ?_,fun y a b=> ?_,fun y a b c=> ?_,fun y a b c=> ?_⟩
 ·show 0<=ae s.cG z 0 y/\ae s.cG z 0 y<=J;by_cases q:y=z;all_goals grind [au,ai,Inv]
 ·show 0<=ae s.at_ z 0 y/\ae s.at_ z 0 y<=40;by_cases q:y=z;all_goals grind [au,ai,Inv]
 ·show ae s.aU z 0 y=1\/ae s.aU z 0 y=2\/ae s.aU z 0 y=3;have c':ae s.cG z 0 y≠0:=c;by_cases q:y=z;all_goals grind [au,ai,Inv]
 ·show ae s.cg z false y=false;have c':ae s.aU z 0 y≠1:=c;by_cases q:y=z;all_goals grind [au,ai,Inv]
def OS.Inv.Mu{O:OS}(h:O.Inv J)(hJ:1<=J)(P:PS):(nG P O).Inv (J+1):=by
 grind [nG,lay,OS.Inv.mono]
def OS.Inv.aai{O:OS}(h:O.Inv J)(n:Int):(p8 O n).Inv (J+1):=by
 grind [p8,Ms,OS.Inv.aah,OS.Inv.mono,Inv]
def OS.Inv.close{O:OS}(h:O.Inv J)(n:Int):(kB O n).Inv (J+1):=by
 have h0:=h.cG 0 og og;unfold kB;split
 ·grind [OS.Inv.mono]
 ·rename_i c;obtain⟨i1,i2,i3⟩:=OS.Ms (Decidable.not_not.1 c);have:=h.cG n i1 i2;split
  ·exact h.aah og n _ og i3
  ·exact(h.Hd og n).mono og
theorem OS.Inv.mZ{O:OS}(h:O.Inv J){F:FF}(hF:F.Sh)(n m:Int):(qa F O n m).Inv (J+1):=by
 unfold qa;split
 ·rename_i c;obtain⟨i1,i2,i3⟩:=OS.Ms c.1;have h2:=h.at_ n i1 i2;have h3:=(FF.Kf hF (O.n n) (O.at_ n) m).2 h2.1 h2.2;exact(h.atI n _ og).mono og
 grind [OS.Inv.mono]
def FF.QF{F:FF}{a:Int}{x:ByteArray}(h:F.eW n a x=0):0<=a/\a+x.size<=40:=by
 grind [eW]
def OS.Inv.abZ{O:OS}(h:O.Inv J)(F:FF)(n:Int)(x:ByteArray):(jg F O n x).Inv (J+1):=by
 unfold jg;split
 ·rename_i c;obtain⟨i1,i2,i3⟩:=OS.Ms c.1.1;have h2:=h.at_ n i1 i2;have h3:=FF.QF c.2;exact(h.atI n _ og).mono og
 grind [OS.Inv.mono]
def OS.Inv.Mv{O:OS}(h:O.Inv J)(n a:Int):(vM O n a).Inv (J+1):=by
 grind [vM,nf,OS.Inv.atI,OS.Inv.mono]
def Mw{P:PS}(h:P.Inv K)(hK:0<=K)(O:OS):(nF P O).Inv (K+1):=by
 grind [nF,PS.Inv.mono,PS.Un]
def Mx{P:PS}(h:P.Inv K)(O:OS)(n m:Int):(p9 P O n m).Inv (K+1):=by
 grind [p9,PS.Up,PS.Inv.mono]
def Kh{P:PS}(h:P.Inv K)(O:OS)(n:Int)(x:ByteArray):(lT P O n x).Inv (K+1):=by
 grind [lT,PS.QE,PS.Inv.mono]
def zZ{F:FF}{B:Int}(h:F.Ok d B)(O:OS)(n:Int):(mH F O n).Ok d (B+1):=by
 unfold mH;split
 ·exact h.dP n
 ·exact h.up1
def Ds{F:FF}{B:Int}(h:F.Ok d B)(O:OS)(n:Int)(x:ByteArray):(fW F O n x).Ok d (B+1):=by
 unfold fW;split
 ·exact h.cg (O.n n) (O.at_ n) x
 ·exact h.up1
def rX(F:FF)(O:OS)(n:Int):(mH F O n).roots=F.roots:=by
 unfold mH;split
 ·exact FF.Mr _ _
 rfl
theorem yv(F:FF)(O:OS)(n:Int):(mI F O n).roots=F.roots:=by
 grind [mI,FF.mF]
theorem EU(F:FF)(O:OS)(n:Int)(x:ByteArray):(fW F O n x).roots=F.roots:=by
 unfold fW;split
 ·exact FF.Kb _ _ _ _
 rfl
end Go.X.Tr
