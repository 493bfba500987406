import Derived.Test.YthdinakloheinaaGreatDoorkNP
import Derived.Test.YthdinakloheinaaGreatDoorXClose
set_option linter.all false
namespace Go.X.Tr
open Go Go.X
variable{x:ByteArray}
def P6{l:List ByteArray}{p:Nat}(hp:p<=l.length)(h1:∀ i,i<p->blt (oc l i) x=true)(h2:p<l.length->blt (oc l p) x=false):eh l x=p:=by
 grind [nX,Bt,xG]
theorem CT{l:List ByteArray}(hl:fg l)(h:oT l x=true):eh (l.eraseIdx (eh l x)) x=eh l x:=by
 obtain⟨p1,p2⟩:=lY.1 h;refine P6 (by rw[List.length_eraseIdx,if_pos p1];omega) (fun i hi=> ?_) fun hi=> ?_;all_goals grind [FG,GX,fg]
theorem G2{α:Type}(y:α):∀ (l:List α) (p:Nat),p<l.length->(l.eraseIdx p).insertIdx p (l.getD p y)=l
 | x::l,0,_=>sq
 | x::l,p+1,h=>by
  rw[List.eraseIdx_cons_succ,List.insertIdx_succ_cons,List.getD_cons_succ,G2 y l p (by simpa using h)]
namespace FF
def aby{s:FF}{n:Int}(hl:fg (s.aI n))(h:oT (s.aI n) x=true)(hk:(s.aI n).length=(s.kids n).length):(s.ef n x).sN n x (il (s.kids n) (eh (s.aI n) x))=s:=by
 obtain⟨p1,p2⟩:=lY.1 h;have e1:((s.ef n x).aI n)=(s.aI n).eraseIdx (eh (s.aI n) x):=aj _ _ _;have e2:((s.ef n x).kids n)=(s.kids n).eraseIdx (eh (s.aI n) x):=aj _ _ _;have a1:=G2 ByteArray.empty (s.aI n) _ p1;have a2:=G2 (0:Int) (s.kids n) (eh (s.aI n) x) og;rw[show(s.aI n).getD (eh (s.aI n) x) ByteArray.empty=x from p2]at a1;have b1:ad (s.ef n x).aI n (((s.ef n x).aI n).insertIdx (eh ((s.ef n x).aI n) x) x)=s.aI:=by
  rw[e1,CT hl h,a1];funext j;unfold ad;split;all_goals simp_all[ae,ef]
 have b2:ad (s.ef n x).kids n (((s.ef n x).kids n).insertIdx (eh ((s.ef n x).aI n) x) (il (s.kids n) (eh (s.aI n) x)))=s.kids:=by
  rw[e2,e1,CT hl h,show il (s.kids n) (eh (s.aI n) x)=(s.kids n).getD (eh (s.aI n) x) 0 from by simp[il],a2];funext j;unfold ad;split;all_goals simp_all[ae,ef]
 simp_all[sN,ef]
def Ch(s:FF)(d:Int->Nat)(k:Int):Prop:=∀ n,0<=n->n<40->s.aN n=2->n≠k->s.up n=n\/(0<=s.up n/\s.up n<40/\s.aN (s.up n)=2/\d (s.up n)<d n)
theorem CU{s t:FF}(h:t.up=s.up)(k:Int):∀ (f:Nat) (n:Int),zD t f n k=zD s f n k
 | 0,n=>rfl
 | f+1,n=>by unfold zD;rw[h,CU h k f]
theorem zG{s:FF}{d:Int->Nat}{k:Int}(hc:s.Ch d k):∀ (f g:Nat) (n:Int),0<=n->n<40->s.aN n=2->d n<=f->d n<=g->zD s f n k=zD s g n k
 | 0,0,_,_,_,_,_,_=>rfl
 | 0,g+1,n,h1,h2,h3,h4,h5=>by
  unfold zD;by_cases c:n=k
  ·rw[if_pos c];simp[c]
  ·rw[if_neg c];rcases hc n h1 h2 h3 c with u | ⟨_,_,_,u⟩
   ·rw[if_pos u];simp[c]
   ·omega
 | f+1,0,n,h1,h2,h3,h4,h5=>by
  unfold zD;by_cases c:n=k
  ·rw[if_pos c];simp[c]
  ·rw[if_neg c];rcases hc n h1 h2 h3 c with u | ⟨_,_,_,u⟩
   ·rw[if_pos u];simp[c]
   ·omega
 | f+1,g+1,n,h1,h2,h3,h4,h5=>by
  unfold zD;by_cases c:n=k
  ·rw[if_pos c,if_pos c]
  ·rw[if_neg c,if_neg c];by_cases c2:s.up n=n
   ·rw[if_pos c2,if_pos c2]
   ·rw[if_neg c2,if_neg c2];rcases hc n h1 h2 h3 c with u | ⟨u1,u2,u3,u4⟩
    ·exact absurd u c2
    ·exact zG hc f g _ u1 u2 u3 og og
theorem JE(d:Int->Nat)(s:FF)(k:Int):JB d s k k=true:=by
 unfold JB;cases d k with
 | zero=>simp[zD]
 | succ f=>simp[zD]
theorem xL{s:FF}{d:Int->Nat}{k n:Int}(hc:s.Ch d k)(h1:0<=n)(h2:n<40)(h3:s.aN n=2)(h4:n≠k):JB d s n k=if s.up n=n then false else JB d s (s.up n) k:=by
 unfold JB;rw[zG hc (d n) (d n+1) n h1 h2 h3 og og];grind [zD,zG,Ch]
def dJ.ch{s:FF}{d:Int->Nat}{k:Int}(h:s.dJ d k (-1)):s.Ch d k:=fun n h1 h2 h3 h4=>by
 rcases h.up n h1 h2 h3 h4 og with g | ⟨g1,g2,g3,_,g5⟩;all_goals omega
def dJ.chI{s:FF}{d:Int->Nat}(h:s.Inv d)(k:Int):s.Ch d k:=fun n h1 h2 h3 h4=>by
 rcases h.up n h1 h2 h3 og og with g | ⟨g1,g2,g3,_,g5⟩;all_goals omega
def tA(d:Int->Nat)(s:FF)(k to:Int):Int->Nat:=fun x=>d x+(if JB d s x k=true then d to+1 else 0)
def dJ.ahv{s:FF}{d:Int->Nat}{k to:Int}(h:s.dJ d k (-1))(h1:0<=k)(h2:k<40)(h3:s.aN k=2)(h4:0<=to)(h5:to<40)(h6:s.aN to=2)(hu:JB d s to k=false):dJ {s with up:=ad s.up k to} (tA d s k to) k (-1)/\tA d s k to to<tA d s k to k:=by
 have c0:s.FH k=0:=by
  have a:=(h.num k h1 h2).2;grind [dJ.HT]
 have hc:=h.ch;have KQ:∀ m,ad s.up k to m=if m=k then to else s.up m:=fun m=>rfl
 refine⟨⟨h.kinds,h.jh,h.LS,fun n a b j hj=> ?_,h.data,⟨h.roots.1,fun r hr=> ?_⟩,fun n a b c hk hq=> ?_,h.num,h.zero,h.pos,h.HT⟩,?_⟩
 ·grind [dJ.kids,G1,xL,tA]
 ·grind [dJ.roots,JD]
 ·show(n∈s.roots/\ad s.up k to n=n)\/(0<=ad s.up k to n/\ad s.up k to n<40/\s.aN (ad s.up k to n)=2/\n∈s.kids (ad s.up k to n)/\tA d s k to (ad s.up k to n)<tA d s k to n);rw[KQ,if_neg hk];rcases h.up n a b c hk hq with g | ⟨g1,g2,g3,g4,g5⟩;all_goals grind [xL,tA]
 grind [tA,JE]
structure Ok (s:FF) (d:Int->Nat) (B:Int):Prop where
 ec:s.Inv d
 aX:∀ n,0<=n->n<40->s.aX n<=B
 nn:0<=B
def Ok.sh{s:FF}{d:Int->Nat}{B:Int}(h:s.Ok d B)(hB:B<=1000000):s.Sh:=h.ec.sh fun n a b=>Int.le_trans (h.aX n a b) hB
theorem CV(s:FF):∀ k:Nat,k<=40->s.vB k= -1\/(40-(k:Int)<=s.vB k/\s.vB k<40/\s.aN (s.vB k)=0)
 | 0,_=>.inl rfl
 | k+1,h=>by
  unfold vB;split
  ·rename_i c;exact .inr ⟨og,og,c⟩
  ·rcases CV s k og with g | ⟨g1,g2,g3⟩
   ·exact .inl g
   ·exact .inr ⟨og,g2,g3⟩
def xM{s:FF}(h:¬s.free<0):0<=s.free/\s.free<40/\s.aN s.free=0:=by
 grind [CV,free]
section
variable {s:FF} {d:Int->Nat} {B:Int}
def Ok.AK(h:s.Ok d B):∃ d',s.AK.Ok d' (B+1):=by
 have hn:=h.nn;unfold FF.AK;split
 ·rename_i c;unfold p6 at c;split at c
  ·omega
  ·split at c
   ·omega
   ·rename_i c1 c2;obtain⟨f1,f2,f3⟩:=xM c2;have hr:=h.ec.roots.1;have h1:=h.ec.fresh (k:=2) (t:=(s.roots.length:Int)) (u:=s.free) f1 f2 f3 (.inr rfl) 0;have h2:=h1.nU f1 f2 (aj _ _ _) (aj _ _ _) (show s.roots.length<4 by omega);refine⟨_,h2,fun n a b=> ?_,og⟩;show ad s.aX s.free 0 n<=_;unfold ad;split
    ·omega
    ·have:=h.aX n a b;omega
 ·exact⟨d,h.ec,fun n a b=>by have:=h.aX n a b;omega,og⟩
def uP{s:FF}{n:Int}(h:s.eX n x=0):s.cI n 2=0/\jY x=true/\oT (s.aI n) x=false/\(s.aI n).length≠8:=by
 grind [eX]
def NK{s:FF}{n:Int}(h:s.fx n x=0):s.cI n 2=0/\oT (s.aI n) x=true/\s.bH n x=il (s.kids n) (eh (s.aI n) x):=by
 grind [fx,bH]
theorem Ok.gx(h:s.Inv d){n:Int}(h0:s.fx n x=0):0<=n/\n<40/\s.aN n=2/\s.bH n x∈s.kids n/\oT (s.aI n) x=true/\il (s.kids n) (eh (s.aI n) x)=s.bH n x:=by
 obtain⟨a,b,c⟩:=NK h0;obtain⟨i1,i2,i3,i4⟩:=ji a;grind [dJ.jh,lY,il]
theorem Ok.make(h:s.Ok d B)(n:Int)(x:ByteArray)(k:Int):∃ d',(s.make n x k).Ok d' (B+1):=by
 have hn:=h.nn;unfold FF.make;split
 ·rename_i c;unfold mw at c;split at c
  ·omega
  ·split at c
   ·omega
   ·split at c
    ·omega
    ·rename_i c0 c1 c2;obtain⟨f1,f2,f3⟩:=xM c2;obtain⟨a1,a2,a3,a4⟩:=uP (show s.eX n x=0 by omega);obtain⟨i1,i2,_,i4⟩:=ji a1;have i5:=i4 og;have fM:n≠s.free:=fun e=>by rw[<-e]at f3;omega
     have h1:=h.ec.fresh (k:=k) (t:=s.du n) (u:=n) f1 f2 f3 og (d n+1);have e1:(s.jz s.free k (s.du n) 1 n).aN n=s.aN n:=ae _ _ fM;have e2:(s.jz s.free k (s.du n) 1 n).aI n=s.aI n:=ae _ _ fM;have e3:(s.jz s.free k (s.du n) 1 n).du n=s.du n:=ae _ _ fM;have h2:=h1.put (n:=n) (x:=x) i1 i2 (by rw[e1];exact i5) (by rw[e2];exact a3) (by rw[e2];have:=(h.ec.jh n i1 i2).2.2.1;omega) a2 ⟨f1,f2,by
      rw[show(s.jz s.free k (s.du n) 1 n).aN s.free=k from aj _ _ _];omega⟩ (by rw[e3];exact aj _ _ _) fun _=>⟨aj _ _ _,by rw[ae _ _ fM,aj];omega⟩
     refine⟨_,h2,fun m a b=> ?_,og⟩;show ad s.aX s.free 0 m<=_;unfold ad;split
     ·omega
     ·have:=h.aX m a b;omega
 ·exact⟨d,h.ec,fun n a b=>by have:=h.aX n a b;omega,og⟩
def Ok.zC(h:s.Ok d B)(k n:Int)(x:ByteArray):(s.zC k n x).Ok d (B+1):=by
 have hn:=h.nn;unfold FF.zC;split
 ·rename_i c;unfold tH at c;split at c
  ·omega
  ·split at c
   ·omega
   ·split at c
    ·omega
    ·rename_i c0 c1 c2;obtain⟨a1,a2,a3,a4⟩:=uP (show s.eX n x=0 by omega);obtain⟨i1,i2,_,i4⟩:=ji a1;obtain⟨j1,j2,_,j4⟩:=ji (show s.cI k 1=0 by omega);have i5:=i4 og;have j5:=j4 og;have h1:=h.ec.abx j1 j2 j5;have h2:=h1.put (n:=n) (x:=x) i1 i2 i5 a3 (by show(s.aI n).length<8;have:=(h.ec.jh n i1 i2).2.2.1;omega) a2 ⟨j1,j2,by show s.aN k≠0;omega⟩ (show s.du k=s.du n by omega) (fun g=>by
      have g2:s.aN k=2:=g
      omega)
     exact⟨h2,fun m a b=>by have:=h.aX m a b;show s.aX m<=_;omega,og⟩
 ·exact⟨h.ec,fun n a b=>by have:=h.aX n a b;omega,og⟩
def Ok.eS(h:s.Ok d B)(n:Int)(x:ByteArray):(s.eS n x).Ok d (B+1):=by
 have hn:=h.nn;unfold FF.eS;split
 ·rename_i c;unfold fA at c;split at c
  ·omega
  ·split at c
   ·omega
   ·rename_i c0 c1;obtain⟨i1,i2,i3,i4,i5,i6⟩:=Ok.gx h.ec (show s.fx n x=0 by omega);obtain⟨k1,k2,k3,k4,k5⟩:=h.ec.kids n i1 i2 _ i4;have h1:=h.ec.cut (k:=s.bH n x) i1 i2 i5 i6;have h2:=h1.TR k3;have hk:s.aN (s.bH n x)=2->s.kids (s.bH n x)=[]/\s.aX (s.bH n x)=0:=fun g=>by
     have g1:=(h.ec.num _ k1 k2).1;have g2:¬(0<(s.kids (s.bH n x)).length\/0<s.aX (s.bH n x)):=fun q=>c1 ⟨g,q⟩;exact⟨List.eq_nil_of_length_eq_zero og,og⟩
    have fM:s.bH n x≠n\/s.aN (s.bH n x)≠2:=by
     by_cases g:s.aN (s.bH n x)=2
     ·left;intro e;rw[e]at i4 hk g;rw[(hk g).1]at i4;cases i4
     ·exact .inr g
    have hkk:s.kids (s.bH n x)=[]:=by
     by_cases g:s.aN (s.bH n x)=2
     ·exact(hk g).1
     ·exact(h.ec.LV k1 k2 g).1
    have hkn:s.bH n x≠n:=fun e=>by rw[e]at hkk;rw[hkk]at i4;cases i4
    have hb:∀ m,0<=m->m<40->s.aX m<=B+1:=fun m a b=>by have:=h.aX m a b;omega
    unfold qP;split
    ·rename_i c2;have h3:=h2.aeJ k1 k2 c2.1 c2.2 (by
      show ad s.kids n _ (s.bH n x)=[]
      rw[ae _ _ hkn];exact hkk)
     refine⟨h3,fun m a b=> ?_,og⟩;show ad s.aX _ 0 m<=_;unfold ad;split
     ·omega
     ·exact hb m a b
    ·rename_i c2;have g0:s.aN (s.bH n x)≠2:=fun g=>by
      refine c2 ⟨?_,(hk g).2⟩;show ad s.bF _ _ (s.bH n x)=0;rw[aj];show s.bF (s.bH n x)-1=0;have:=h.ec.HT _ k1 k2 g og;omega
     refine⟨h2.XT (fun _ _ _=> ?_) fun _ _=>g0,hb,og⟩;have a1:=(h2.num _ k1 k2);have a2:¬(ad s.bF (s.bH n x) (s.bF (s.bH n x)-1) (s.bH n x)=0/\s.aX (s.bH n x)=0):=c2;have a3:(0:Int)<=s.aX (s.bH n x):=a1.1;have a4:ad s.bF (s.bH n x) (s.bF (s.bH n x)-1) (s.bH n x)=_:=a1.2;show 0<ad s.bF (s.bH n x) (s.bF (s.bH n x)-1) (s.bH n x)\/0<s.aX (s.bH n x);rw[if_neg (show ¬s.bH n x=(-1:Int) by omega)]at a4;omega
 ·exact⟨h.ec,fun n a b=>by have:=h.aX n a b;omega,og⟩
theorem Ok.dy(h:s.Ok d B)(n:Int):(s.dy n).Ok d (B+1):=by
 have hn:=h.nn;unfold FF.dy;split
 ·rename_i c;obtain⟨i1,i2,i3⟩:=vw c;have P5:∀ m,ad s.aX n (s.aX n+1) m=if m=n then s.aX n+1 else s.aX m:=fun m=>rfl
  have a0:=(h.ec.num n i1 i2).1;refine⟨⟨h.ec.kinds,h.ec.jh,h.ec.LS,h.ec.kids,h.ec.data,h.ec.roots,h.ec.up,fun m a b=> ?_,fun m a b c=> ?_,fun m a b c e=> ?_,h.ec.HT⟩,fun m a b=> ?_,og⟩
  ·obtain⟨a1,a2⟩:=h.ec.num m a b;refine⟨?_,a2⟩;show 0<=ad s.aX n _ m;rw[P5];split<;>omega
  ·obtain⟨b1,b2⟩:=h.ec.zero m a b c;have:m≠n:=fun e=>by subst e;exact i3 c
   exact⟨b1,by show ad s.aX n _ m=0;rw[P5,if_neg this];exact b2⟩
  ·show 0<s.bF m\/0<ad s.aX n _ m;rw[P5];split
   ·omega
   ·exact h.ec.pos m a b c e
  ·show ad s.aX n _ m<=_;have:=h.aX m a b;have:=h.aX n i1 i2;rw[P5];split<;>omega
 ·exact⟨h.ec,fun n a b=>by have:=h.aX n a b;omega,og⟩
theorem Ok.kE(h:s.Ok d B)(n:Int):(s.kE n).Ok d (B+1):=by
 have hn:=h.nn;unfold FF.kE;split
 ·rename_i c;unfold CQ at c;split at c
  ·omega
  ·split at c
   ·omega
   ·rename_i c0 c1;obtain⟨i1,i2,i3⟩:=vw (show s.cI n 0=0 by omega);have a0:=(h.ec.num n i1 i2).1;have P5:∀ m,ad s.aX n (s.aX n-1) m=if m=n then s.aX n-1 else s.aX m:=fun m=>rfl
    have hw:=h.ec.weak n;have h2:dJ {s with aX:=ad s.aX n (s.aX n-1)} d (-1) n:=⟨hw.kinds,hw.jh,hw.LS,hw.kids,hw.data,hw.roots,hw.up,fun m a b=>by
      obtain⟨a1,a2⟩:=hw.num m a b
      refine⟨?_,a2⟩
      show 0<=ad s.aX n _ m
      rw[P5];split<;>omega,fun m a b c=>by
      obtain⟨b1,b2⟩:=hw.zero m a b c
      have:m≠n:=fun e=>by subst e;exact i3 c
      exact⟨b1,by show ad s.aX n _ m=0;rw[P5,if_neg this];exact b2⟩,fun m a b c e=>by
      show 0<s.bF m\/0<ad s.aX n _ m
      rw[P5,if_neg e]
      exact hw.pos m a b c e,hw.HT⟩
    have hb:∀ m,0<=m->m<40->ad s.aX n (s.aX n-1) m<=B+1:=fun m a b=>by
     have h1:=h.aX m a b;have h3:=h.aX n i1 i2;rw[P5];split<;>omega
    unfold qP;split
    ·rename_i c2;have g0:s.aN n≠2:=fun g=>by
      have g1:=h.ec.HT n i1 i2 g og;have g2:s.bF n=0:=c2.1;omega
     have h3:=h2.aeJ i1 i2 c2.1 c2.2 (h.ec.LV i1 i2 g0).1;refine⟨h3,fun m a b=> ?_,og⟩;show ad (ad s.aX n (s.aX n-1)) n 0 m<=_;have:=hb m a b;rw[show ad (ad s.aX n (s.aX n-1)) n 0 m=if m=n then 0 else ad s.aX n (s.aX n-1) m from rfl];split<;>omega
    ·rename_i c2;have a4:=(h.ec.num n i1 i2).2;rw[if_neg (show ¬n=(-1:Int) by omega)]at a4;have a5:¬(s.bF n=0/\ad s.aX n (s.aX n-1) n=0):=c2;rw[aj]at a5;refine⟨⟨h2.kinds,h2.jh,h2.LS,h2.kids,h2.data,h2.roots,h.ec.up,h2.num,h2.zero,fun m a b c _=> ?_,h.ec.HT⟩,hb,og⟩;by_cases e:m=n
     ·subst e;show 0<s.bF m\/0<ad s.aX m _ m;rw[aj];omega
     ·exact h2.pos m a b c e
 ·exact⟨h.ec,fun n a b=>by have:=h.aX n a b;omega,og⟩
theorem Ok.data(h:s.Ok d B){n:Int}(hk:s.aN n=1)(x:ByteArray)(hx:x.size<=40):Ok {s with data:=ad s.data n x} d (B+1):=by
 have hn:=h.nn;refine⟨⟨h.ec.kinds,h.ec.jh,h.ec.LS,h.ec.kids,fun m a b=> ?_,h.ec.roots,h.ec.up,h.ec.num,h.ec.zero,h.ec.pos,h.ec.HT⟩,fun m a b=>by have:=h.aX m a b;show s.aX m<=_;omega,og⟩;show(ad s.data n x m).size<=40/\(s.aN m≠1->ad s.data n x m=ByteArray.empty);rw[show ad s.data n x m=if m=n then x else s.data m from rfl];split
 ·simp_all
 ·exact h.ec.data m a b
def Ok.up1(h:s.Ok d B):s.Ok d (B+1):=⟨h.ec,fun n a b=>by have:=h.aX n a b;omega,by have:=h.nn;omega⟩
theorem xN(x:ByteArray)(a:Nat)(y:ByteArray):(V8 x a y).size=max x.size (a+y.size):=by
 unfold V8;rw[<-ByteArray.size_data];simp
theorem Ok.b7(h:s.Ok d B)(n a:Int)(x:ByteArray):(s.b7 n a x).Ok d (B+1):=by
 unfold FF.b7;split
 ·rename_i c;obtain⟨c,_⟩:=c;unfold eT at c;split at c
  ·omega
  ·split at c
   ·omega
   ·split at c
    ·omega
    ·obtain⟨i1,i2,_,i4⟩:=ji (show s.cI n 1=0 by omega);refine h.data (i4 og) _ ?_;rw[xN];have:=(h.ec.data n i1 i2).1;omega
 ·exact h.up1
def Ok.move(h:s.Ok d B)(n:Int)(x:ByteArray)(to:Int)(y:ByteArray):∃ d',(s.move d n x to y).Ok d' (B+1):=by
 have hn:=h.nn;unfold FF.move;split
 ·exact⟨d,h.up1⟩
 ·rename_i c;have hb:∀ m,0<=m->m<40->s.aX m<=B+1:=fun m a b=>by have:=h.aX m a b;omega
  have c':s.fK d n x to=0:=og;unfold fK at c';split at c'
  ·omega
  ·split at c'
   ·omega
   ·split at c'
    ·omega
    ·split at c'
     ·omega
     ·rename_i c0 c1 c2 c3;obtain⟨i1,i2,i3,i4,i5,i6⟩:=Ok.gx h.ec (show s.fx n x=0 by omega);obtain⟨k1,k2,k3,k4,k5⟩:=h.ec.kids n i1 i2 _ i4;have h1:=h.ec.cut (k:=s.bH n x) i1 i2 i5 i6;obtain⟨r1,r2,r3,r4⟩:=h.ec.jh n i1 i2;split
      ·refine⟨d,?_,fun m a b=>hb m a b,og⟩;have e:=aby r1 i5 r2;rw[i6]at e;rw[e];exact h.ec
      ·rename_i c4;obtain⟨a1,a2,a3,a4⟩:=uP (show(s.ef n x).eX to y=0 by omega);obtain⟨t1,t2,_,t4⟩:=ji a1;have t5:s.aN to=2:=t4 og;have hlen:((s.ef n x).aI to).length<8:=by have:=(h1.jh to t1 t2).2.2.1;omega
       split
       ·rename_i c5;have hu:JB d (s.ef n x) to (s.bH n x)=false:=by
         have e:JB d (s.ef n x) to (s.bH n x)=JB d s to (s.bH n x):=CU (s:=s) (t:=s.ef n x) rfl _ _ _;rw[e];cases g:JB d s to (s.bH n x)with
         | false=>rfl
         | true=>exact absurd ⟨c5,g⟩ c3
        obtain⟨g1,g2⟩:=h1.ahv k1 k2 c5 t1 t2 t5 hu;have h3:=g1.put (n:=to) (x:=y) t1 t2 t5 a3 hlen a2 ⟨k1,k2,k3⟩ (show s.du (s.bH n x)=s.du to by omega) fun _=>⟨aj _ _ _,g2⟩;exact⟨_,h3,fun m a b=>hb m a b,og⟩
       ·rename_i c5;have h3:=h1.put (n:=to) (x:=y) t1 t2 t5 a3 hlen a2 ⟨k1,k2,k3⟩ (show s.du (s.bH n x)=s.du to by omega) fun g=>absurd g c5;exact⟨d,h3,fun m a b=>hb m a b,og⟩
def JF:dc.Ok (fun _=>0) 0:=by
 have hc:∀ k,dc.FH k=0:=fun k=>by
  rfl
 refine⟨⟨fun _ _ _=>.inl rfl,fun _ _ _=>⟨fg.nil,rfl,by simp[dc],fun _=>rfl⟩,fun _ _ _ x hx=>by simp[dc]at hx,fun _ _ _ k hk=>by simp[dc]at hk,fun _ _ _=>⟨by simp[dc],fun _=>rfl⟩,⟨by simp[dc],fun r hr=>by simp[dc]at hr⟩,fun _ _ _ c=>by simp[dc]at c,fun m a b=>⟨by simp[dc],?_⟩,fun _ _ _ _=>⟨rfl,rfl⟩,fun _ _ _ c=>absurd rfl c,fun _ _ _ c=>by simp[dc]at c⟩,fun _ _ _=>by simp[dc],Int.le_refl _⟩;rw[hc,if_neg (show ¬m=(-1:Int) by omega)];rfl
end
theorem Sh.ef{s:FF}(h:s.Sh){n:Int}{x:ByteArray}(h1:0<=n)(h2:n<40)(hx:oT (s.aI n) x=true):(s.ef n x).Sh:=by
 obtain⟨p1,p2⟩:=lY.1 hx;obtain⟨r1,r2,r3,r4⟩:=h.jh n h1 h2;have hm:∀ m,(s.ef n x).kids m=if m=n then(s.kids n).eraseIdx (eh (s.aI n) x)else s.kids m:=fun m=>rfl
 have hnm:∀ m,(s.ef n x).aI m=if m=n then(s.aI n).eraseIdx (eh (s.aI n) x)else s.aI m:=fun m=>rfl
 refine⟨fun m a b=> ?_,fun m a b j hj=> ?_,h.data,h.roots,h.num⟩
 ·rw[hm,hnm];by_cases c:m=n
  ·subst c;rw[if_pos rfl,if_pos rfl,List.length_eraseIdx,if_pos p1,List.length_eraseIdx,if_pos og];exact⟨r1.NH _ p1,og,og,fun q=>by rw[r4 q];rfl⟩
  ·rw[if_neg c,if_neg c];exact h.jh m a b
 ·rw[hm]at hj;split at hj
  ·rename_i c;subst c;exact h.kids m a b j (List.mem_of_mem_eraseIdx hj)
  ·exact h.kids m a b j hj
theorem Sh.jz{s:FF}(h:s.Sh)(z k t l u:Int)(hl: -1000000<=l/\l<=1000000):(s.jz z k t l u).Sh:=by
 refine⟨fun m a b=> ?_,fun m a b j hj=> ?_,fun m a b=> ?_,h.roots,fun m a b=> ?_⟩
 ·show fg (ad s.aI z [] m)/\(ad s.aI z [] m).length=(ad s.kids z [] m).length/\(ad s.aI z [] m).length<=8/\(ad s.aN z k m≠2->ad s.aI z [] m=[]);unfold ad;by_cases c:m=z
  ·simp only[c,if_true];exact⟨fg.nil,sq,sq,sq⟩
  ·simp only[c,if_false];exact h.jh m a b
 ·have H9:j∈ad s.kids z [] m:=hj;unfold ad at H9;split at H9
  ·cases H9
  ·exact h.kids m a b j H9
 ·show(ad s.data z _ m).size<=40;unfold ad;split
  ·simp
  ·exact h.data m a b
 ·show-1000000<=ad s.bF z l m/\ad s.bF z l m<=1000000/\0<=ad s.aX z 0 m/\ad s.aX z 0 m<=1000000;have:=h.num m a b;unfold ad;split<;>omega
theorem Sh.gx{s:FF}(h:s.Sh){n:Int}(h0:s.fx n x=0):0<=n/\n<40/\s.aN n=2/\0<=s.bH n x/\s.bH n x<40/\oT (s.aI n) x=true:=by
 obtain⟨a,b,c⟩:=NK h0;obtain⟨i1,i2,i3,i4⟩:=ji a;obtain⟨r1,r2,r3,r4⟩:=h.jh n i1 i2;obtain⟨p1,p2⟩:=lY.1 b;have:=rH (l:=s.kids n) (p:=eh (s.aI n) x) og;have h3:=h.kids n i1 i2 (s.bH n x) (by rw[c];simpa [il]using this);simp_all
theorem zz{α:Type}(f:Int->α)(z:Int)(a b:α):ad (ad f z a) z b=ad f z b:=by
 grind [ad]
theorem XU(s:FF)(z k t l u v:Int):({s.jz z k t l u with up:=ad (s.jz z k t l u).up z v} :FF)=s.jz z k t l v:=by
 grind [jz,zz]
end FF
end Go.X.Tr

namespace Go.X.Tr
open Go Go.X
variable{z:Int}
namespace FF
theorem wm(s:FF):∀ (i:Nat),i<=40->(∀ j:Int,0<=j->j<i->s.aN j≠0)->s.vB (40-i)=s.free
 | 0,_,_=>rfl
 | i+1,h,ho=>by
  rw[<-wm s i og fun j a b=>ho j a og];obtain⟨k,hk⟩:∃ k,40-i=k+1:=⟨39-i,og⟩;grind [vB]
def pL{s:FF}{i:Int}(h1:0<=i)(h2:i<40)(ho:∀ j,0<=j->j<i->s.aN j≠0)(hz:s.aN i=0):s.free=i:=by
 have h:=wm s i.toNat og fun j a b=>ho j a og;rw[<-h];obtain⟨k,hk⟩:∃ k,40-i.toNat=k+1:=⟨39-i.toNat,og⟩;grind [vB]
def Fg{s:FF}(ho:∀ j,0<=j->j<40->s.aN j≠0):s.free= -1:=by
 have h:=wm s 40 (Nat.le_refl _) fun j a b=>ho j a og;rw[<-h];rfl
end FF
theorem oy{α:Type}(l:List α)(i:Nat)(y:α)(h:i<l.length):l.take (i+1)=l.take i++[l.getD i y]:=by
 simp_all
namespace FF
end FF
theorem XQ.mono{P:Program}{ops:Array Oper}{Q:Exit->Act->World->Prop}{n:Fr}{L:PF}{M M':World->Prop}{B:Ae}{f:Nat}{l:Array Bool}(hm:∀ w,M w->M' w)(h:XQ P n ops Q B f l L M'):XQ P n ops Q B f l L M:=fun hc a w ha hw hJ=>h hc a w ha (hm w hw) hJ
section
variable {W w:World} {S:Nat->Nat->Prop} {H F:List aB}
theorem xO(h:0<=z/\z<40):av z.toNat=true:=by show Nat.blt z.toNat 40=true;simp;omega
def TT(x:aB):∀ (L:List aB),cO (x::L) L [x]
 | []=>.nil
 | _::r=>.cons (.ao .aa) (TT x r)
def nj{e:TypeId}{s:FC}(hz:0<=z/\z<40)(hp:cO H [.bk av (s.bu e)] F)(h:XM W S H w):XM W S (jR (s.nP z) (s.nC z) e (s.aI z):: .bk (jc av z.toNat) (s.bu e)::F) w:=by
 have h1:=om z.toNat (xO hz) (h.b8 hp.b8);have e1:(s.bu e z.toNat).BU=jR (s.nP z) (s.nC z) e (s.aI z):=by
  grind [FC.bu]
 simp_all
def xP{e:TypeId}{s:FC}(hz:0<=z/\z<40)(hp:cO H [.bk av (s.bA e)] F)(h:XM W S H w):XM W S (dE (s.kP z) (s.kC z) e (s.kids z):: .bk (jc av z.toNat) (s.bA e)::F) w:=by
 have h1:=om z.toNat (xO hz) (h.b8 hp.b8);have e1:(s.bA e z.toNat).BU=dE (s.kP z) (s.kC z) e (s.kids z):=by
  grind [FC.bA]
 simp_all
theorem P7(e:TypeId)(s t:FC)(z:Int)(hz:0<=z/\z<40)(l:List ByteArray)(p:Option Addr)(c:Nat)(h1:t.aI=ad s.aI z l)(h2:t.nP=ad s.nP z p)(h3:t.nC=ad s.nC z c):AY (s.bu e) z.toNat ⟨.slice p l.length c,e,1,l.length,strs l⟩=t.bu e:=by
 funext i;unfold FC.bu;rw[h1,h2,h3];grind [mT,lL,ad]
theorem P8(e:TypeId)(s t:FC)(z:Int)(hz:0<=z/\z<40)(l:List Int)(p:Option Addr)(c:Nat)(h1:t.kids=ad s.kids z l)(h2:t.kP=ad s.kP z p)(h3:t.kC=ad s.kC z c):AY (s.bA e) z.toNat ⟨.slice p l.length c,e,1,l.length,fI l⟩=t.bA e:=by
 funext i;unfold FC.bA;rw[h1,h2,h3];grind [mT,lL,ad]
def lA{e:TypeId}{s:FC}(t:FC){n c:Nat}{p:Option Addr}{l:List ByteArray}(hz:0<=z/\z<40)(hn:n=l.length)(h1:t.aI=ad s.aI z l)(h2:t.nP=ad s.nP z p)(h3:t.nC=ad s.nC z c)(hp:cO H [.row (.slice p n c) e 1 n (strs l),.bk (jc av z.toNat) (s.bu e)] F)(h:XM W S H w):XM W S (.bk av (t.bu e)::F) w:=by
 subst hn;have h4:=qo (x:=⟨.slice p l.length c,e,1,l.length,strs l⟩) z.toNat (uq _ _) (h.b8 hp.b8);rw[EU (xO hz),P7 e s t z hz l p c h1 h2 h3]at h4;exact h4
def uQ{e:TypeId}{s:FC}(t:FC){n c:Nat}{p:Option Addr}{l:List Int}(hz:0<=z/\z<40)(hn:n=l.length)(h1:t.kids=ad s.kids z l)(h2:t.kP=ad s.kP z p)(h3:t.kC=ad s.kC z c)(hp:cO H [.row (.slice p n c) e 1 n (fI l),.bk (jc av z.toNat) (s.bA e)] F)(h:XM W S H w):XM W S (.bk av (t.bA e)::F) w:=by
 subst hn;have h4:=qo (x:=⟨.slice p l.length c,e,1,l.length,fI l⟩) z.toNat (uq _ _) (h.b8 hp.b8);rw[EU (xO hz),P8 e s t z hz l p c h1 h2 h3]at h4;exact h4
def NL{e:TypeId}{s:FC}(t:FC)(hz:0<=z/\z<40)(h1:t.aI=ad s.aI z [])(h2:t.nP=ad s.nP z none)(h3:t.nC=ad s.nC z 0)(hp:cO H [.bk av (s.bu e)] F)(h:XM W S H w):XM W S (.bk av (t.bu e)::F) w:=by
 have h4:=(XM.pick (TT _ _) (nj hz hp h)).ft e 1;exact lA (s:=s) t (p:=none) (c:=0) (n:=0) (l:=[]) hz rfl h1 h2 h3 (.cons .aa (.cons .aa (by
  have hq:∀ L:List aB,cO L [] L:=fun L=>.nil
  exact hq _))) h4
def NM{e:TypeId}{s:FC}(t:FC)(hz:0<=z/\z<40)(h1:t.kids=ad s.kids z [])(h2:t.kP=ad s.kP z none)(h3:t.kC=ad s.kC z 0)(hp:cO H [.bk av (s.bA e)] F)(h:XM W S H w):XM W S (.bk av (t.bA e)::F) w:=by
 have h4:=(XM.pick (TT _ _) (xP hz hp h)).ft e 1;exact uQ (s:=s) t (p:=none) (c:=0) (n:=0) (l:=[]) hz rfl h1 h2 h3 (pz 2) h4
end
def FC.wo(s:FC)(z k t l u:Int):FC:=⟨s.toFF.jz z k t l u,ad s.nP z none,ad s.nC z 0,ad s.kP z none,ad s.kC z 0,s.rP,s.rC⟩
def FC.aeL(s:FC)(n:Int)(x:ByteArray)(k:Int)(p:Option Addr)(c:Nat)(p2:Option Addr)(c2:Nat):FC:=⟨s.toFF.sN n x k,ad s.nP n p,ad s.nC n c,ad s.kP n p2,ad s.kC n c2,s.rP,s.rC⟩
abbrev FJ(k t l u:Int):aC.U:=⟨k,t,l,0,ByteArray.empty,u,[],none,0,[],none,0⟩
def xQ(k t l u:Int):Array Value:= #[iI k,iI t,iI l,iI 0,.string ⟨#[]⟩,.slice none 0 0,.slice none 0 0,iI u]
def JG(s:FC)(z k t l u:Int)(hz:0<=z/\z<40:=by omega):0+0+z.toNat*8+8<=321/\cC (aC s) (0+0+z.toNat*8) (xQ k t l u).toList=aC (s.wo z k t l u):=
 aC.Sx s (s.wo z k t l u) z hz _ rfl (fun j hj=>by
  have e:aC.un (s.wo z k t l u) z=FJ k t l u:=by
   unfold aC.un FC.wo FF.jz
   simp only[aj]
  rw[e]
  match j,hj with
  | 0,_=>rfl
  | 1,_=>rfl
  | 2,_=>rfl
  | 3,_=>rfl
  | 4,_=>rfl
  | 5,_=>rfl
  | 6,_=>rfl
  | 7,_=>rfl
  | j+8,h=>exact absurd h og) (fun y hy=>by
  unfold aC.un FC.wo FF.jz
  simp only[ae _ _ hy]) rfl
def mK(s:FC):0+320<321/\aC s (0+320)= .slice s.rP s.roots.length s.rC:=by grind [aC]
def EC(s:FC)(l:List Int)(p:Option Addr)(c n:Nat)(hn:n=l.length):0+320<321/\dL (aC s) (0+320) (.slice p n c)=aC {s with roots:=l,rP:=p,rC:=c} :=by
 subst hn;refine⟨og,?_⟩;funext i;unfold dL aC;by_cases hi:i=0+320
 ·simp_all
 ·rw[if_neg hi];by_cases c1:i<320
  ·rw[if_pos c1,if_pos c1];rfl
  grind
def JH(k t l u:Int):∀ i,i<8->cellsOf (xQ k t l u) i=aC.cell (FJ k t l u) i:=fun i h=>match i,h with
 | 0,_=>rfl
 | 1,_=>rfl
 | 2,_=>rfl
 | 3,_=>rfl
 | 4,_=>rfl
 | 5,_=>rfl
 | 6,_=>rfl
 | 7,_=>rfl
 | j+8,h=>absurd h og
def TU(k t l u:Int):0+8<=8/\cZ (aC.cell (FJ k t l u)) 0 8= .agg (xQ k t l u):=⟨og,rfl⟩
def JI:Array Value:=((List.range 321).map (aC FC.dc)).toArray
def LW:JI.size=321:=by simp[JI]
def P9:∀ i,i<321->cellsOf JI i=aC FC.dc i:=fun i hi=>by simp[cellsOf,JI,hi]
def FC.aeM(s:FC)(n:Int)(x:ByteArray):FC:=⟨s.toFF.ef n x,ad s.nP n (s.nP n),ad s.nC n (s.nC n),ad s.kP n (s.kP n),ad s.kC n (s.kC n),s.rP,s.rC⟩
theorem CW{t:FC}{X:FF}(h:t.toFF=X)(z v:Int):({t with bF:=ad t.bF z v} :FC).toFF= {X with bF:=ad X.bF z v} :=by rw[<-h]
theorem XV{t:FC}{X:FF}(h:t.toFF=X)(z v:Int):({t with aX:=ad t.aX z v} :FC).toFF= {X with aX:=ad X.aX z v} :=by rw[<-h]
theorem aeN{t:FC}{X:FF}(h:t.toFF=X)(z v:Int):({t with up:=ad t.up z v} :FC).toFF= {X with up:=ad X.up z v} :=by rw[<-h]
def AL{W w:World}{S:Nat->Nat->Prop}{H:List aB}(r:Nat->pQ)(e:TypeId)(hr:∀ i,r i=⟨.slice none 0 0,e,1,0,[]⟩)(h:XM W S H w):XM W S (.bk av r::H) w:=by
 have hr0:w.ownsRow 0 e 1 (.slice none 0 0) 0 []:=(h.ft e 1).eY.1 (.row (.slice none 0 0) e 1 0 []) sq;refine⟨⟨fun x hx=> ?_,List.pairwise_cons.2 ⟨fun x hx _ b o h1 h2=> ?_,h.eY.2⟩⟩,h.eG,fun x hx hw b o hb=> ?_⟩
 ·rcases List.mem_cons.1 hx with rfl | hx
  ·exact⟨fun i _=>by rw[hr];exact hr0,fun i j b _ _ _ h1 _=>by rw[hr]at h1;cases h1⟩
  ·exact h.eY.1 x hx
 ·obtain⟨i,_,hb⟩:=h1;rw[hr]at hb;cases hb
 ·rcases List.mem_cons.1 hx with rfl | hx
  ·obtain⟨i,_,hb⟩:=hb;rw[hr]at hb;cases hb
  ·exact h.D8 x hx hw b o hb
def G3{W w:World}{S:Nat->Nat->Prop}{H:List aB}(h:XM W S H w):XM W S (.bk av (FC.dc.bu 9):: .bk av (FC.dc.bA 3)::dE none 0 3 []::H) w:=
 AL _ 9 (fun _=>rfl) (AL _ 3 (fun _=>rfl) (h.ft 3 1))
structure NV where
 aN:Int
 bF:Int
 aX:Int
 size:Int
def NV.cQ(x:NV):Array Value:= #[iI x.aN,iI x.bF,iI x.aX,iI x.size]
def NV.zero:NV:=⟨0,0,0,0⟩
def nQ(x:NV)(i:Nat):Value:=if i=0 then iI x.aN else if i=1 then iI x.bF else if i=2 then iI x.aX else if i=3 then iI x.size else undef
def oA(x:NV):∀ i,i<4->cellsOf x.cQ i=nQ x i:=fun i h=>match i,h with
 | 0,_=>rfl
 | 1,_=>rfl
 | 2,_=>rfl
 | 3,_=>rfl
 | j+4,h=>absurd h og
def qQ(x:NV):0+4<=4/\cZ (nQ x) 0 4= .agg x.cQ:=⟨og,rfl⟩
def l6(y x:NV):0+4<=4/\cC (nQ y) 0 x.cQ.toList=nQ x:=by
 refine⟨og,?_⟩;funext i;match i with
 | 0=>rfl
 | 1=>rfl
 | 2=>rfl
 | 3=>rfl
 | k+4=>simp[cC,dL,NV.cQ,nQ]
def wq(x:NV):0+0<4/\nQ x (0+0)=iI x.aN:=⟨og,rfl⟩
def JJ(x:NV):0+1<4/\nQ x (0+1)=iI x.bF:=⟨og,rfl⟩
def LX(x:NV):0+2<4/\nQ x (0+2)=iI x.aX:=⟨og,rfl⟩
def LY(x:NV):0+3<4/\nQ x (0+3)=iI x.size:=⟨og,rfl⟩
def FF.V9(s:FF)(n:Int):NV:=if s.cI n 0=0 then⟨s.aN n,s.bF n,s.aX n,max ((s.data n).size:Int) ((s.kids n).length:Int)⟩else NV.zero
def NN(u:aC.U):Array Value:= #[iI u.aN,iI u.du,iI u.bF,iI u.aX,.string u.data,.slice u.nP u.aI.length u.nC,.slice u.kP u.kids.length u.kC,iI u.up]
def Qa(s:FC)(z:Int)(h:0<=z/\z<40):0+0+z.toNat*8+8<=321/\cZ (aC s) (0+0+z.toNat*8) 8= .agg (NN (aC.un s z)):=by
 refine⟨og,?_⟩;have q:=aC.at_ s z h;simp only[cZ,List.range,List.range.loop,List.map_cons,List.map_nil];rw[q 0 og,q 1 og,q 2 og,q 3 og,q 4 og,q 5 og,q 6 og,q 7 og];rfl
def TV(u0 u:aC.U):0+8<=8/\cC (aC.cell u0) 0 (NN u).toList=aC.cell u:=by
 refine⟨og,?_⟩;funext i;match i with
 | 0=>rfl
 | 1=>rfl
 | 2=>rfl
 | 3=>rfl
 | 4=>rfl
 | 5=>rfl
 | 6=>rfl
 | 7=>rfl
 | k+8=>
  have e1:∀ u:aC.U,aC.cell u (k+8)=undef:=fun u=>by unfold aC.cell;iterate 8 rw[if_neg og]
  have e2:cC (aC.cell u0) 0 (NN u).toList (k+8)=aC.cell u0 (k+8):=by simp[cC,dL,NN]
  rw[e2,e1,e1]
def XW(u:aC.U):0+0<8/\aC.cell u (0+0)=iI u.aN:=⟨og,rfl⟩
def XX(u:aC.U):0+2<8/\aC.cell u (0+2)=iI u.bF:=⟨og,rfl⟩
def XY(u:aC.U):0+3<8/\aC.cell u (0+3)=iI u.aX:=⟨og,rfl⟩
def XZ(u:aC.U):0+4<8/\aC.cell u (0+4)= .string u.data:=⟨og,rfl⟩
def X0(u:aC.U):0+6<8/\aC.cell u (0+6)= .slice u.kP u.kids.length u.kC:=⟨og,rfl⟩
theorem abA(l:List UInt8)(i:Nat)(h:i<(ByteArray.mk l.toArray).size)(h2:i<l.length):(ByteArray.mk l.toArray)[i]'h=l[i]'h2:=rfl
theorem abB(d:ByteArray)(a:Nat)(x:ByteArray)(i:Nat)(h:i<(V8 d a x).size):(V8 d a x)[i]=if a<=i/\i<a+x.size then x.get! (i-a)else if i<d.size then d.get! i else 0:=by
 have hs:=FF.xN d a x;grind [abA,V8]
def LZ{x:ByteArray}{j:Nat}(h:j<x.size):(x.data.toList.map bv)[j]? =some (bv (x.get! j)):=by
 rw[List.getElem?_map];have h2:j<x.data.toList.length:=by rw[Array.length_toList];exact h
 rw[List.getElem?_eq_getElem h2];show some (bv (x.data.toList[j]))=some (bv (x.data[j]!));simp_all
theorem L0(x:ByteArray):(x.data.toList.map bv).length=x.size:=by simp_all
def TW(d:ByteArray)(a:Nat)(x:ByteArray)(i:Nat)(h:i<(V8 d a x).size):cC (cC (fun _=>bv 0) 0 (d.data.toList.map bv)) a (x.data.toList.map bv) i=bv (V8 d a x)[i]:=by
 rw[abB];by_cases c1:i<a
 ·rw[iL _ _ _ _ c1,if_neg og];by_cases c2:i<d.size
  ·rw[if_pos c2];have:=fN (d.data.toList.map bv) (fun _=>bv 0) 0 i _ (LZ c2);simp_all
  grind [jw,L0]
 ·by_cases c3:i<a+x.size
  ·rw[if_pos ⟨og,c3⟩];have:=fN (x.data.toList.map bv) (cC (fun _=>bv 0) 0 (d.data.toList.map bv)) a (i-a) _ (LZ (x:=x) (j:=i-a) og);simp_all
  ·rw[if_neg og,jw _ _ _ _ (by rw[L0];omega)];by_cases c2:i<d.size
   ·rw[if_pos c2];have:=fN (d.data.toList.map bv) (fun _=>bv 0) 0 i _ (LZ c2);simp_all
   grind [jw,L0]
end Go.X.Tr

namespace Go.X.Tr
open Go Go.X
variable{J K n:Int}{d:Int->Nat}
namespace FF
theorem CX(s:FF)(n:Int):(s.qP n).roots=s.roots:=by unfold qP;split<;>rfl
theorem wu(s:FF)(n:Int)(x:ByteArray)(k:Int):(s.make n x k).roots=s.roots:=by unfold make;split<;>rfl
def CY(s:FF)(k n:Int)(x:ByteArray):(s.zC k n x).roots=s.roots:=by unfold zC;split<;>rfl
def xT(s:FF)(n:Int)(x:ByteArray):(s.eS n x).roots=s.roots:=by
 unfold eS;split
 ·rw[CX];rfl
 rfl
def CZ(d:Int->Nat)(s:FF)(n:Int)(x:ByteArray)(to:Int)(y:ByteArray):(s.move d n x to y).roots=s.roots:=by
 unfold move;split
 ·rfl
 ·split
  ·rfl
  ·split<;>rfl
def L3(s:FF)(n:Int):(s.dy n).roots=s.roots:=by unfold dy;split<;>rfl
theorem mL(s:FF)(n:Int):(s.kE n).roots=s.roots:=by
 grind [kE,CX]
def JK(s:FF)(n a:Int)(x:ByteArray):(s.b7 n a x).roots=s.roots:=by grind [b7]
end FF
def G4(x:iV):∀ i,i<8->cellsOf #[.string x.aN,iI x.a,iI x.b,iI x.c,.int .u64 x.im,.bool x.on,.string x.s,.string x.t] i=eJ x i:=fun i hi=>match i,hi with
 | 0,_=>rfl
 | 1,_=>rfl
 | 2,_=>rfl
 | 3,_=>rfl
 | 4,_=>rfl
 | 5,_=>rfl
 | 6,_=>rfl
 | 7,_=>rfl
 | k+8,h=>absurd h og
namespace FF
def JM{x:ByteArray}(h:jY x=true):x.size<=8:=by
 grind [jY]
def TX{s:FF}(h:s.cI n 0=0):(s.V9 n).aN=s.aN n/\(s.V9 n).bF=s.bF n/\(s.V9 n).aX=s.aX n:=by
 grind [FF.V9]
structure Way (s:FF) (d:Int->Nat) (a k:Int):Prop where
 nn:0<=k
 jA:0<=a/\a<40
 HT:s.aN a=2
 G5:∃ L:List Int,(L.length:Int)=k/\L.Nodup/\∀ z∈L,(0<=z/\z<40)/\d a<d z
def Way.step{s:FF}{a k:Int}(h:s.Way d a k):((a::h.G5.choose).length:Int)=k+1/\(a::h.G5.choose).Nodup/\∀ z∈a::h.G5.choose,0<=z/\z<40:=by
 obtain⟨l1,l2,l3⟩:=h.G5.choose_spec;refine⟨by rw[List.length_cons];omega,List.nodup_cons.2 ⟨fun q=> ?_,l2⟩,fun z hz=> ?_⟩
 ·grind
 ·rcases List.mem_cons.1 hz with rfl | hz
  ·exact h.jA
  simp_all
end FF
structure OS where
 aN:Int->Int
 n:Int->Int
 at_:Int->Int
 cG:Int->Int
 b7:Int->Bool
namespace OS
def is(s:OS)(n:Int):Int:=if n<0\/24<=n then 1 else if s.cG n=0 then 2 else 0
def mM(s:OS):Nat->Int
 | 0=> -1
 | k+1=>if 0<=mM s k then mM s k else if s.cG (k:Int)=0 then(k:Int)else-1
def first(s:OS):Int:=mM s 24
def fl(s:OS)(m:Int):Nat->List Int
 | 0=>[]
 | k+1=>if s.cG (k:Int)=0/\((fl s m k).length:Int)<m then fl s m k++[(k:Int)]else fl s m k
def lay(s:OS)(z k n:Int)(w:Bool):OS:=⟨ad s.aN z k,ad s.n z n,ad s.at_ z 0,ad s.cG z 1,ad s.b7 z w⟩
def Gz(s:OS)(z:Int):OS:=⟨ad s.aN z 0,ad s.n z 0,ad s.at_ z 0,ad s.cG z 0,ad s.b7 z false⟩
def move(s:OS)(z d:Int):OS:= {s with at_:=ad s.at_ z (s.at_ z+d)}
def dc:OS:=⟨fun _=>0,fun _=>0,fun _=>0,fun _=>0,fun _=>false⟩
def C4(s:OS):Nat->Int
 | 0=>0
 | k+1=>C4 s k+(if 0<s.cG (k:Int)then 1 else 0)
def opens(s:OS):Int:=C4 s 24
structure Inv (s:OS) (J:Int):Prop where
 cG:∀ n,0<=n->n<24->0<=s.cG n/\s.cG n<=J
 at_:∀ n,0<=n->n<24->0<=s.at_ n/\s.at_ n<=40
 aN:∀ n,0<=n->n<24->s.cG n≠0->s.aN n=1\/s.aN n=2\/s.aN n=3
 b7:∀ n,0<=n->n<24->s.aN n≠1->s.b7 n=false
theorem L4{s:OS}(h:s.is n=0):0<=n/\n<24/\s.cG n≠0:=by
 grind [is]
theorem tM(s:OS):∀ k:Nat,(s.mM k= -1/\∀ j:Int,0<=j->j<k->s.cG j≠0)\/(0<=s.mM k/\s.mM k<k/\s.cG (s.mM k)=0/\∀ j:Int,0<=j->j<s.mM k->s.cG j≠0)
 | 0=>.inl ⟨rfl,fun j a b=>og⟩
 | k+1=>by
  unfold mM;rcases tM s k with⟨h1,h2⟩ | ⟨h1,h2,h3,h4⟩
  ·rw[if_neg og];by_cases c:s.cG (k:Int)=0
   ·rw[if_pos c];exact .inr ⟨og,og,c,fun j a b=>h2 j a og⟩
   ·rw[if_neg c];refine .inl ⟨rfl,fun j a b=> ?_⟩;by_cases e:j=(k:Int)
    ·subst e;exact c
    ·exact h2 j a og
  ·rw[if_pos h1];exact .inr ⟨h1,og,h3,h4⟩
def C5{s:OS}{i:Int}(h1:0<=i)(h2:i<24)(ho:∀ j,0<=j->j<i->s.cG j≠0)(hz:s.cG i=0):s.first=i:=by
 grind [first,tM]
theorem nk{s:OS}(h:¬s.first<0):0<=s.first/\s.first<24/\s.cG s.first=0:=by
 grind [first,tM]
theorem G6(s:OS):∀ k,s.fl 1 k=if 0<=s.mM k then [s.mM k]else []
 | 0=>rfl
 | k+1=>by
  unfold fl mM;rw[G6 s k];by_cases c:0<=s.mM k
  ·simp only[c,if_true,List.length_singleton];rw[if_neg og]
  ·simp only[c,if_false,List.length_nil];by_cases q:s.cG (k:Int)=0
   ·rw[if_pos ⟨q,og⟩,if_pos q,if_pos og];rfl
   ·rw[if_neg fun h=>q h.1,if_neg q,if_neg og]
def FK(s:OS)(m:Int):∀ k,(s.fl m k).length<=k
 | 0=>Nat.le_refl _
 | k+1=>by
  have:=FK s m k;grind [fl]
def L5(s:OS)(m:Int){i:Int}(h:0<=i):s.fl m (i+1).toNat=if s.cG i=0/\((s.fl m i.toNat).length:Int)<m then s.fl m i.toNat++[i]else s.fl m i.toNat:=by
 rw[show(i+1).toNat=i.toNat+1 by omega];grind [fl]
theorem Bu{s:OS}(h:((s.fl 1 24).length:Int)<1):s.first<0:=by
 rw[G6]at h;grind [first]
def TY{s:OS}(h:¬((s.fl 1 24).length:Int)<1):¬s.first<0/\s.fl 1 24=[s.first]:=by
 rw[G6]at h ⊢;grind [first]
end OS
def nG(F:FF)(O:OS)(n:Int):Int:=if F.cI n 1≠0 then F.cI n 1 else if O.first<0 then 4 else 0
def tN(F:FF)(O:OS)(n:Int):Int:=if nG F O n=0 then O.first else 0
def mN(F:FF)(O:OS)(n:Int):FF:=if nG F O n=0 then F.dy n else F
def p7(F:FF)(O:OS)(n:Int)(w:Bool):OS:=if nG F O n=0 then O.lay O.first 1 n w else O
def p8(O:OS)(n:Int):OS:=if O.is n=0 then {O with cG:=ad O.cG n (O.cG n+1)} else O
def JN(O:OS)(n:Int):OS:= {O with cG:=ad O.cG n (O.cG n-1)}
def NO(O:OS)(n:Int):Prop:=O.is n=0/\¬ 0<O.cG n-1
instance (O:OS) (n:Int):Decidable (NO O n):=by unfold NO;infer_instance
def j7(F:FF)(P:PS)(O:OS)(n:Int):Int:=if O.is n≠0 then O.is n else if 0<O.cG n-1 then 0 else if O.aN n=1 then F.CQ (O.n n)else(P.mA (O.n n) (decide (O.aN n=3)) (-1)).1
def mO(F:FF)(O:OS)(n:Int):FF:=if NO O n/\O.aN n=1 then F.kE (O.n n)else F
def kF(P:PS)(O:OS)(n:Int):PS:=if NO O n/\¬O.aN n=1 then(P.mA (O.n n) (decide (O.aN n=3)) (-1)).2 else P
def kG(O:OS)(n:Int):OS:=if O.is n≠0 then O else if 0<O.cG n-1 then JN O n else O.Gz n
def tO(F:FF)(P:PS)(O:OS)(n m:Int):Int:=if O.is n≠0 then O.is n else if O.aN n=3 then 8 else if O.aN n=2 then(P.mJ (O.n n) m).2.1 else F.lZ (O.n n) (O.at_ n) m
def tP(F:FF)(P:PS)(O:OS)(n m:Int):ByteArray:=if O.is n≠0 then⟨#[]⟩else if O.aN n=3 then⟨#[]⟩else if O.aN n=2 then(P.mJ (O.n n) m).1 else F.kA (O.n n) (O.at_ n) m
def p9(P:PS)(O:OS)(n m:Int):PS:=if O.is n=0/\O.aN n=2 then(P.mJ (O.n n) m).2.2 else P
def qa(F:FF)(O:OS)(n m:Int):OS:=if O.is n=0/\¬O.aN n=3/\¬O.aN n=2 then O.move n ((F.kA (O.n n) (O.at_ n) m).size)else O
def iE(F:FF)(P:PS)(O:OS)(n:Int)(x:ByteArray):Int:=if O.is n≠0 then O.is n else if O.aN n=3 then(P.b7 (O.n n) x).2.1 else if O.aN n=2\/O.b7 n=false then 8 else F.eT (O.n n) (O.at_ n) x
def C6(O:OS)(n:Int):Prop:=O.is n=0/\¬O.aN n=3/\¬(O.aN n=2\/O.b7 n=false)
instance (O:OS) (n:Int):Decidable (C6 O n):=by unfold C6;infer_instance
def jj(F:FF)(P:PS)(O:OS)(n:Int)(x:ByteArray):Int:=if O.is n=0/\O.aN n=3 then(P.b7 (O.n n) x).1 else if C6 O n/\F.eT (O.n n) (O.at_ n) x=0 then(x.size:Int)else 0
def l7(P:PS)(O:OS)(n:Int)(x:ByteArray):PS:=if O.is n=0/\O.aN n=3 then(P.b7 (O.n n) x).2.2 else P
def fQ(F:FF)(O:OS)(n:Int)(x:ByteArray):FF:=if C6 O n then F.b7 (O.n n) (O.at_ n) x else F
def jl(F:FF)(O:OS)(n:Int)(x:ByteArray):OS:=if C6 O n/\F.eT (O.n n) (O.at_ n) x=0 then O.move n (x.size)else O
def nl(O:OS)(n a:Int):Int:=if O.is n≠0 then O.is n else if O.aN n≠1 then 11 else if a<0\/40<a then 1 else 0
def vC(O:OS)(n a:Int):OS:=if nl O n a=0 then {O with at_:=ad O.at_ n a} else O
theorem OS.jx(s:OS)(n:Int):(s.is n=0/\0<=n/\n<24/\¬s.cG n=0)\/(s.is n=1/\(n<0\/24<=n))\/(s.is n=2/\0<=n/\n<24/\s.cG n=0):=by
 unfold OS.is;split;all_goals omega
def ZL(x:Int):(fI [x])[0+(0:Int).toNat*1]? =some (iI x):=rfl
theorem OS.JO(O:OS)(n:Int):(JN O n).Gz n=O.Gz n:=by
 unfold OS.Gz JN;simp only[FF.zz]
def FF.JP{s:FF}(h:s.Sh)(n a m:Int):(s.kA n a m).size<=40/\(0<=a->a<=40->a+((s.kA n a m).size:Int)<=40):=by
 unfold kA;split
 ·rename_i e;have e1:s.cI n 1=0/\0<=a/\0<=m:=by
   grind [lZ]
  obtain⟨i1,i2,_⟩:=ji e1.1;have hd:=h.data n i1 i2;grind [ByteArray.size_extract]
 simp_all
namespace OS
def jE(s:OS):Int:=(s.lay s.first 2 0 false).first
def NP(s:OS):∀ k:Nat,0<=s.C4 k/\s.C4 k<=k
 | 0=>by simp[C4]
 | k+1=>by
  have:=NP s k;grind [C4]
def zH{s:OS}(h:∀ n,0<=n->n<24->0<=s.cG n)(m:Int)(hm:0<=m):∀ k:Nat,k<=24->((s.fl m k).length:Int)=min m (k-s.C4 k)
 | 0,_=>by simp[fl,C4];omega
 | k+1,hk=>by
  have ih:=zH h m hm k og;grind [fl,C4]
def G7(s:OS):∀ k:Nat,(s.fl 2 k=[]/\∀ j:Int,0<=j->j<k->s.cG j≠0)\/(∃ a:Int,s.fl 2 k=[a]/\0<=a/\a<k/\s.cG a=0/\∀ j:Int,0<=j->j<k->j≠a->s.cG j≠0)\/
  (∃ a b:Int,s.fl 2 k=[a,b]/\0<=a/\a<b/\b<k/\s.cG a=0/\s.cG b=0/\∀ j:Int,0<=j->j<b->j≠a->s.cG j≠0)
 | 0=>.inl ⟨rfl,fun j a b=>og⟩
 | k+1=>by
  unfold fl;rcases G7 s k with⟨h1,h2⟩ | ⟨a,h1,h2,h3,h4,h5⟩ | ⟨a,b,h1,h2,h3,h4,h5,h6,h7⟩
  ·rw[h1];by_cases c:s.cG (k:Int)=0
   ·rw[if_pos ⟨c,sq⟩];exact .inr (.inl ⟨k,rfl,og,og,c,fun j x y z=>h2 j x og⟩)
   ·rw[if_neg fun q=>c q.1];refine .inl ⟨rfl,fun j x y=> ?_⟩;by_cases e:j=(k:Int)
    ·subst e;exact c
    ·exact h2 j x og
  ·rw[h1];by_cases c:s.cG (k:Int)=0
   ·rw[if_pos ⟨c,sq⟩];exact .inr (.inr ⟨a,k,rfl,h2,h3,og,h4,c,fun j x y z=>h5 j x og z⟩)
   ·rw[if_neg fun q=>c q.1];refine .inr (.inl ⟨a,rfl,h2,og,h4,fun j x y z=> ?_⟩);by_cases e:j=(k:Int)
    ·subst e;exact c
    ·exact h5 j x og z
  ·rw[h1,if_neg fun q=>by have:=q.2;simp at this];exact .inr (.inr ⟨a,b,rfl,h2,h3,og,h5,h6,h7⟩)
def TZ{s:OS}(h:((s.fl 2 24).length:Int)<2):s.first<0\/s.jE<0:=by
 rcases s.G7 24 with⟨h1,h2⟩ | ⟨a,h1,h2,h3,h4,h5⟩ | ⟨a,b,h1,_⟩
 ·grind [nk]
 ·right;have e:s.first=a:=C5 h2 h3 (fun j x y=>h5 j x og og) h4
  refine Decidable.byContradiction fun c=> ?_;have q:=nk (s:=s.lay s.first 2 0 false) c;have q3:=q.2.2;rw[show(s.lay s.first 2 0 false).cG=ad s.cG s.first 1 from rfl,show(s.lay s.first 2 0 false).first=s.jE from rfl]at q3;by_cases z:s.jE=a;all_goals grind [aj,ae,jE]
 simp_all
def Qb{s:OS}(h:¬((s.fl 2 24).length:Int)<2):¬s.first<0/\¬s.jE<0/\s.fl 2 24=[s.first,s.jE]:=by
 rcases s.G7 24 with⟨h1,h2⟩ | ⟨a,h1,h2,h3,h4,h5⟩ | ⟨a,b,h1,h2,h3,h4,h5,h6,h7⟩
 ·simp_all
 ·simp_all
 ·have e:s.first=a:=C5 h2 og (fun j x y=>h7 j x og og) h5
  have e2:s.jE=b:=by
   unfold jE;refine C5 og og (fun j x y=> ?_) ?_
   ·show ad s.cG s.first 1 j≠0
    grind [aj,ae]
   ·show ad s.cG s.first 1 b=0
    grind [ae]
  grind
def JQ(s:OS):0<=s.opens/\s.opens<=24:=by
 have:=s.NP 24;grind [opens]
end OS
def NQ(O:OS)(m:Int):Bool:=decide (m<1)||decide (m<=24-O.opens)
def kH(P:PS)(O:OS):Int:=if O.first<0\/O.jE<0 then 4 else P.make.2.1
def nH(P:PS)(O:OS):PS:=if O.first<0\/O.jE<0 then P else P.make.2.2
def nI(P:PS)(O:OS):OS:=if kH P O=0 then(O.lay O.first 2 P.make.1 false).lay O.jE 3 P.make.1 false else O
def nJ(P:PS)(O:OS):Int:=if kH P O=0 then O.first else 0
def oY(P:PS)(O:OS):Int:=if kH P O=0 then O.jE else 0
def T1(x y:Int):(fI [x,y])[0+(0:Int).toNat*1]? =some (iI x):=rfl
def T2(x y:Int):(fI [x,y])[0+(1:Int).toNat*1]? =some (iI y):=rfl
theorem PS.T3{s:PS}(h:s.Inv K)(hK:0<=K):(s.make).2.2.Inv (K+1):=by
 unfold PS.make;cases hf:dv (fun k=>s.e k 0+s.e k 1==0) 8 with
 | none=>exact h.mono og
 | some k=>
  have hz:s.e k 0+s.e k 1=0:=by
   grind [dv]
  refine⟨fun n=> ?_,fun n=> ?_,fun n hn=> ?_,h.len⟩
  ·grind [cv,Inv]
  ·grind [cv,Inv]
  ·grind [cv,Inv]
def PS.T4{s:PS}{d:Int}{w:Bool}(h:s.Inv K)(hd:d=1\/d= -1):(s.mA n w d).2.Inv (K+1):=by
 unfold PS.mA;by_cases h1:s.is n≠0
 ·grind [PS.Inv.mono]
 rw[if_neg h1];by_cases h2:s.e n (HS w)=0
 ·grind [PS.Inv.mono]
 rw[if_neg h2];have b0:=h.e0;have b1:=h.e1;have hw:HS w=0\/HS w=1:=by cases w<;>simp[HS]
 refine⟨fun m=> ?_,fun m=> ?_,fun m hm=> ?_,fun m=> ?_⟩;all_goals grind [cv,ad,ByteArray.size,Inv]
theorem PS.T5{s:PS}{m:Int}(h:s.Inv K):(s.mJ n m).2.2.Inv (K+1):=by
 have hh:=h.mono (show K<=K+1 by omega);unfold PS.mJ;split
 ·omega
 ·split
  ·omega
  ·split
   ·omega
   ·split;all_goals grind [ad,ByteArray.size_extract,Inv]
theorem PS.Qc{s:PS}{t:ByteArray}(h:s.Inv K):(s.b7 n t).2.2.Inv (K+1):=by
 have hh:=h.mono (show K<=K+1 by omega);unfold PS.b7;split
 ·omega
 ·split
  ·omega
  ·rename_i h1;split
   ·omega
   ·split;all_goals grind [ad,ByteArray.size_extract,Inv]
theorem OS.Inv.mono{s:OS}{J':Int}(h:s.Inv J)(hJ:J<=J'):s.Inv J':=
 ⟨fun n a b=>⟨(h.cG n a b).1,Int.le_trans (h.cG n a b).2 hJ⟩,h.at_,h.aN,h.b7⟩
theorem OS.Inv.dc:OS.dc.Inv 1:=
 ⟨fun _ _ _=>by simp[OS.dc],fun _ _ _=>by simp[OS.dc],fun n _ _ h=>absurd rfl h,fun _ _ _ _=>rfl⟩
theorem OS.Inv.lay{s:OS}{J:Int}(h:s.Inv J)(hJ:1<=J)(z k n:Int)(w:Bool)(hk:k=1\/k=2\/k=3)(hw:k≠1->w=false):(s.lay z k n w).Inv J:=by
 refine⟨fun y a b=> ?_,fun y a b=> ?_,fun y a b c=> ?_,fun y a b c=> ?_⟩
 ·show 0<=ad s.cG z 1 y/\ad s.cG z 1 y<=J;by_cases q:y=z;all_goals grind [aj,ae,Inv]
 ·show 0<=ad s.at_ z 0 y/\ad s.at_ z 0 y<=40;by_cases q:y=z;all_goals grind [aj,ae,Inv]
 ·show ad s.aN z k y=1\/ad s.aN z k y=2\/ad s.aN z k y=3;by_cases q:y=z
  ·grind [aj]
  ·rw[ae _ _ q];refine h.aN y a b ?_;have c':ad s.cG z 1 y≠0:=c;grind [ae]
 ·show ad s.b7 z w y=false;have c':ad s.aN z k y≠1:=c;by_cases q:y=z;all_goals grind [aj,ae,Inv]
theorem OS.Inv.ZM{s:OS}{J':Int}(h:s.Inv J)(hJ:J<=J')(n r:Int)(hr:0<=r/\r<=J')(hn:s.cG n≠0):({s with cG:=ad s.cG n r} :OS).Inv J':=by
 refine⟨fun y a b=> ?_,h.at_,fun y a b c=> ?_,h.b7⟩
 ·show 0<=ad s.cG n r y/\ad s.cG n r y<=J';by_cases q:y=n;all_goals grind [Inv,ad]
 grind [ae,Inv]
theorem OS.Inv.atI{s:OS}(h:s.Inv J)(n r:Int)(hr:0<=r/\r<=40):({s with at_:=ad s.at_ n r} :OS).Inv J:=by
 refine⟨h.cG,fun y a b=> ?_,h.aN,h.b7⟩;show 0<=ad s.at_ n r y/\ad s.at_ n r y<=40;by_cases q:y=n;all_goals grind [Inv,ad]
theorem OS.Inv.Gz{s:OS}{J:Int}(h:s.Inv J)(hJ:0<=J)(z:Int):(s.Gz z).Inv J:=by
 refine⟨fun y a b=> ?_,fun y a b=> ?_,fun y a b c=> ?_,fun y a b c=> ?_⟩
 ·show 0<=ad s.cG z 0 y/\ad s.cG z 0 y<=J;by_cases q:y=z;all_goals grind [aj,ae,Inv]
 ·show 0<=ad s.at_ z 0 y/\ad s.at_ z 0 y<=40;by_cases q:y=z;all_goals grind [aj,ae,Inv]
 ·show ad s.aN z 0 y=1\/ad s.aN z 0 y=2\/ad s.aN z 0 y=3;have c':ad s.cG z 0 y≠0:=c;by_cases q:y=z;all_goals grind [aj,ae,Inv]
 ·show ad s.b7 z false y=false;have c':ad s.aN z 0 y≠1:=c;by_cases q:y=z;all_goals grind [aj,ae,Inv]
def OS.Inv.JR{O:OS}(h:O.Inv J)(hJ:1<=J)(P:PS):(nI P O).Inv (J+1):=by
 grind [nI,lay,OS.Inv.mono]
def OS.Inv.ZN{O:OS}(h:O.Inv J)(n:Int):(p8 O n).Inv (J+1):=by
 grind [p8,L4,OS.Inv.ZM,OS.Inv.mono,Inv]
def OS.Inv.close{O:OS}(h:O.Inv J)(n:Int):(kG O n).Inv (J+1):=by
 have h0:=h.cG 0 og og;unfold kG;split
 ·grind [OS.Inv.mono]
 ·rename_i c;obtain⟨i1,i2,i3⟩:=OS.L4 (Decidable.not_not.1 c);have:=h.cG n i1 i2;split
  ·exact h.ZM og n _ og i3
  ·exact(h.Gz og n).mono og
theorem OS.Inv.mJ{O:OS}(h:O.Inv J){F:FF}(hF:F.Sh)(n m:Int):(qa F O n m).Inv (J+1):=by
 unfold qa;split
 ·rename_i c;obtain⟨i1,i2,i3⟩:=OS.L4 c.1;have h2:=h.at_ n i1 i2;have h3:=(FF.JP hF (O.n n) (O.at_ n) m).2 h2.1 h2.2;exact(h.atI n _ og).mono og
 grind [OS.Inv.mono]
def FF.Qd{F:FF}{a:Int}{x:ByteArray}(h:F.eT n a x=0):0<=a/\a+x.size<=40:=by
 grind [eT]
def OS.Inv.abC{O:OS}(h:O.Inv J)(F:FF)(n:Int)(x:ByteArray):(jl F O n x).Inv (J+1):=by
 unfold jl;split
 ·rename_i c;obtain⟨i1,i2,i3⟩:=OS.L4 c.1.1;have h2:=h.at_ n i1 i2;have h3:=FF.Qd c.2;exact(h.atI n _ og).mono og
 grind [OS.Inv.mono]
def OS.Inv.JS{O:OS}(h:O.Inv J)(n a:Int):(vC O n a).Inv (J+1):=by
 grind [vC,nl,OS.Inv.atI,OS.Inv.mono]
def L6{P:PS}(h:P.Inv K)(hK:0<=K)(O:OS):(nH P O).Inv (K+1):=by
 grind [nH,PS.Inv.mono,PS.T3]
def L7{P:PS}(h:P.Inv K)(O:OS)(n m:Int):(p9 P O n m).Inv (K+1):=by
 grind [p9,PS.T5,PS.Inv.mono]
def JT{P:PS}(h:P.Inv K)(O:OS)(n:Int)(x:ByteArray):(l7 P O n x).Inv (K+1):=by
 grind [l7,PS.Qc,PS.Inv.mono]
def zI{F:FF}{B:Int}(h:F.Ok d B)(O:OS)(n:Int):(mN F O n).Ok d (B+1):=by
 unfold mN;split
 ·exact h.dy n
 ·exact h.up1
def C7{F:FF}{B:Int}(h:F.Ok d B)(O:OS)(n:Int)(x:ByteArray):(fQ F O n x).Ok d (B+1):=by
 unfold fQ;split
 ·exact h.b7 (O.n n) (O.at_ n) x
 ·exact h.up1
def rY(F:FF)(O:OS)(n:Int):(mN F O n).roots=F.roots:=by
 unfold mN;split
 ·exact FF.L3 _ _
 rfl
theorem xU(F:FF)(O:OS)(n:Int):(mO F O n).roots=F.roots:=by
 grind [mO,FF.mL]
theorem ED(F:FF)(O:OS)(n:Int)(x:ByteArray):(fQ F O n x).roots=F.roots:=by
 unfold fQ;split
 ·exact FF.JK _ _ _ _
 rfl
end Go.X.Tr
