import Derived.Test.YthdinakloheinaaGreatDoorkNP
import Derived.Test.YthdinakloheinaaGreatDoorXBytes
import Derived.Test.YthdinakloheinaaGreatDoorXClose
import Derived.Test.YthdinakloheinaaGreatDoorkNOP
namespace Go.X.Tr
open Go Go.X
theorem Cs{l:List ByteArray}{x:ByteArray}{p:Nat}(hp:p≤l.length)(h1:∀ i,i<p→blt (ji l i) x=true)(h2:p<l.length→blt (ji l p) x=false):cK l x=p:=by
 have h3:=kJ l x
 rcases Nat.lt_trichotomy (cK l x) p with c | c | c
 ·have a:=h1 _ c
  rw[qc l x (by omega)]at a;cases a
 ·exact c
 ·have a:=lS l x p c
  rw[h2 (by omega)]at a;cases a
theorem qU{l:List ByteArray}(hl:eb l){x:ByteArray}(h:iJ l x=true):cK (l.eraseIdx (cK l x)) x=cK l x:=by
 obtain⟨p1,p2⟩:=gX.1 h
 refine Cs (by rw[List.length_eraseIdx,if_pos p1];omega) (fun i hi=> ?_) (fun hi=> ?_)
 ·rw[mj,if_pos hi];exact lS l x i hi
 ·rw[List.length_eraseIdx,if_pos p1]at hi
  rw[mj,if_neg (by omega)]
  exact u9 hl x (by omega) (by omega)
theorem vB{α:Type}(y:α):∀ (l:List α) (p:Nat),p<l.length→(l.eraseIdx p).insertIdx p (l.getD p y)=l
 | x::l,0,_=>by simp
 | x::l,p+1,h=>by
  rw[List.eraseIdx_cons_succ,List.insertIdx_succ_cons,List.getD_cons_succ,vB y l p (by simpa using h)]
namespace FF
theorem J2{s:FF}{n:Int}{x:ByteArray}(hl:eb (s.names n))(h:iJ (s.names n) x=true)(hk:(s.names n).length=(s.kids n).length):(s.di n x).mM n x (ep (s.kids n) (cK (s.names n) x))=s:=by
 obtain⟨p1,p2⟩:=gX.1 h
 have e1:((s.di n x).names n)=(s.names n).eraseIdx (cK (s.names n) x):=ae _ _ _
 have e2:((s.di n x).kids n)=(s.kids n).eraseIdx (cK (s.names n) x):=ae _ _ _
 have a1:=vB ByteArray.empty (s.names n) _ p1
 have a2:=vB (0:Int) (s.kids n) (cK (s.names n) x) (by omega)
 rw[show(s.names n).getD (cK (s.names n) x) ByteArray.empty=x from p2]at a1
 have b1:aa (s.di n x).names n (((s.di n x).names n).insertIdx (cK ((s.di n x).names n) x) x)=s.names:=by
  rw[e1,qU hl h,a1]
  funext j;unfold aa;split
  ·rename_i c;rw[c]
  ·show aa s.names n _ j=_;rw[ad _ _ (by assumption)]
 have b2:aa (s.di n x).kids n (((s.di n x).kids n).insertIdx (cK ((s.di n x).names n) x) (ep (s.kids n) (cK (s.names n) x)))=s.kids:=by
  rw[e2,e1,qU hl h,show ep (s.kids n) (cK (s.names n) x)=(s.kids n).getD (cK (s.names n) x) 0 from by simp[ep],a2]
  funext j;unfold aa;split
  ·rename_i c;rw[c]
  ·show aa s.kids n _ j=_;rw[ad _ _ (by assumption)]
 unfold mM
 rw[b1,b2]
 rfl
def Ch(s:FF)(d:Int→Nat)(k:Int):Prop:=∀ n,0≤n→n<40→s.kind n=2→n≠k→s.up n=n∨(0≤s.up n∧s.up n<40∧s.kind (s.up n)=2∧d (s.up n)<d n)
theorem q7{s t:FF}(h:t.up=s.up)(k:Int):∀ (f:Nat) (n:Int),oB t f n k=oB s f n k
 | 0,n=>rfl
 | f+1,n=>by unfold oB;rw[h,q7 h k f]
theorem po{s:FF}{d:Int→Nat}{k:Int}(hc:s.Ch d k):∀ (f g:Nat) (n:Int),0≤n→n<40→s.kind n=2→d n≤f→d n≤g→oB s f n k=oB s g n k
 | 0,0,_,_,_,_,_,_=>rfl
 | 0,g+1,n,h1,h2,h3,h4,h5=>by
  unfold oB
  by_cases c:n=k
  ·rw[if_pos c];simp[c]
  ·rw[if_neg c]
   rcases hc n h1 h2 h3 c with u | ⟨_,_,_,u⟩
   ·rw[if_pos u];simp[c]
   ·omega
 | f+1,0,n,h1,h2,h3,h4,h5=>by
  unfold oB
  by_cases c:n=k
  ·rw[if_pos c];simp[c]
  ·rw[if_neg c]
   rcases hc n h1 h2 h3 c with u | ⟨_,_,_,u⟩
   ·rw[if_pos u];simp[c]
   ·omega
 | f+1,g+1,n,h1,h2,h3,h4,h5=>by
  unfold oB
  by_cases c:n=k
  ·rw[if_pos c,if_pos c]
  ·rw[if_neg c,if_neg c]
   by_cases c2:s.up n=n
   ·rw[if_pos c2,if_pos c2]
   ·rw[if_neg c2,if_neg c2]
    rcases hc n h1 h2 h3 c with u | ⟨u1,u2,u3,u4⟩
    ·exact absurd u c2
    ·exact po hc f g _ u1 u2 u3 (by omega) (by omega)
theorem E4(d:Int→Nat)(s:FF)(k:Int):DA d s k k=true:=by
 unfold DA
 cases d k with
 | zero=>simp[oB]
 | succ f=>simp[oB]
theorem xG{s:FF}{d:Int→Nat}{k n:Int}(hc:s.Ch d k)(h1:0≤n)(h2:n<40)(h3:s.kind n=2)(h4:n≠k):DA d s n k=if s.up n=n then false else DA d s (s.up n) k:=by
 unfold DA
 rw[po hc (d n) (d n+1) n h1 h2 h3 (by omega) (by omega)]
 conv=>lhs;unfold oB
 rw[if_neg h4]
 by_cases c2:s.up n=n
 ·rw[if_pos c2,if_pos c2]
 ·rw[if_neg c2,if_neg c2]
  rcases hc n h1 h2 h3 h4 with u | ⟨u1,u2,u3,u4⟩
  ·exact absurd u c2
  ·exact po hc _ _ _ u1 u2 u3 (by omega) (by omega)
theorem fw.ch{s:FF}{d:Int→Nat}{k:Int}(h:s.fw d k (-1)):s.Ch d k:=fun n h1 h2 h3 h4=>by
 rcases h.up n h1 h2 h3 h4 (by omega)with g | ⟨g1,g2,g3,_,g5⟩
 ·exact .inl g.2
 ·exact .inr ⟨g1,g2,g3,g5⟩
def mv(d:Int→Nat)(s:FF)(k to:Int):Int→Nat:=fun x=>d x+(if DA d s x k=true then d to+1 else 0)
theorem fw.N5{s:FF}{d:Int→Nat}{k to:Int}(h:s.fw d k (-1))(h1:0≤k)(h2:k<40)(h3:s.kind k=2)(h4:0≤to)(h5:to<40)(h6:s.kind to=2)(hu:DA d s to k=false):fw {s with up:=aa s.up k to} (mv d s k to) k (-1)∧mv d s k to to<mv d s k to k:=by
 have c0:s.p6 k=0:=by
  have a:=(h.num k h1 h2).2
  have b:=h.dir k h1 h2 h3 (by omega)
  rw[if_pos rfl]at a
  omega
 have hc:=h.ch
 have hup:∀ m,aa s.up k to m=if m=k then to else s.up m:=fun m=>rfl
 refine⟨⟨h.kinds,h.rise,h.nok,fun n a b j hj=> ?_,h.data,⟨h.roots.1,fun r hr=> ?_⟩,fun n a b c hk hq=> ?_,h.num,h.zero,h.pos,h.dir⟩,?_⟩
 ·have hj':j∈s.kids n:=hj
  obtain⟨g1,g2,g3,g4,g5⟩:=h.kids n a b j hj'
  have hjk:j≠k:=fun e=>by subst e;have:=vE ⟨a,b⟩ hj';omega
  refine⟨g1,g2,g3,g4,fun g=> ?_⟩
  obtain⟨g6,g7⟩:=g5 g
  refine⟨by show aa s.up k to j=n;rw[hup,if_neg hjk];exact g6,?_⟩
  have e:=xG hc g1 g2 g hjk
  have hnj:¬n=j:=fun e=>by rw[e]at g7;omega
  rw[g6,if_neg hnj]at e
  unfold mv
  rw[e]
  omega
 ·have hr':r∈s.roots:=hr
  obtain⟨g1,g2,g3,g4⟩:=h.roots.2 r hr'
  have:r≠k:=fun e=>by subst e;have:=rL hr';omega
  exact⟨g1,g2,g3,by show aa s.up k to r=r;rw[hup,if_neg this];exact g4⟩
 ·show(n∈s.roots∧aa s.up k to n=n)∨(0≤aa s.up k to n∧aa s.up k to n<40∧s.kind (aa s.up k to n)=2∧n∈s.kids (aa s.up k to n)∧mv d s k to (aa s.up k to n)<mv d s k to n)
  rw[hup,if_neg hk]
  rcases h.up n a b c hk hq with g | ⟨g1,g2,g3,g4,g5⟩
  ·exact .inl g
  ·refine .inr ⟨g1,g2,g3,g4,?_⟩
   have e:=xG hc a b c hk
   have hne:¬s.up n=n:=fun e=>by rw[e]at g5;omega
   rw[if_neg hne]at e
   unfold mv
   rw[e]
   omega
 ·unfold mv
  rw[hu,E4]
  simp
  omega
structure Ok (s:FF) (d:Int→Nat) (B:Int):Prop where
 inv:s.Inv d
 held:∀ n,0≤n→n<40→s.held n≤B
 nn:0≤B
theorem Ok.sh{s:FF}{d:Int→Nat}{B:Int}(h:s.Ok d B)(hB:B≤1000000):s.Sh:=h.inv.sh fun n a b=>Int.le_trans (h.held n a b) hB
theorem qt(s:FF):∀ k:Nat,k≤40→s.mw k= -1∨(40-(k:Int)≤s.mw k∧s.mw k<40∧s.kind (s.mw k)=0)
 | 0,_=>.inl rfl
 | k+1,h=>by
  unfold mw
  split
  ·rename_i c;exact .inr ⟨by omega,by omega,c⟩
  ·rcases qt s k (by omega)with g | ⟨g1,g2,g3⟩
   ·exact .inl g
   ·exact .inr ⟨by omega,g2,g3⟩
theorem AE{s:FF}(h:¬s.free<0):0≤s.free∧s.free<40∧s.kind s.free=0:=by
 have:=qt s 40 (Nat.le_refl _)
 unfold free at h ⊢
 rcases this with g | ⟨g1,g2,g3⟩
 ·omega
 ·exact⟨by omega,g2,g3⟩
section
variable {s:FF} {d:Int→Nat} {B:Int}
theorem Ok.pR(h:s.Ok d B):∃ d',s.pR.Ok d' (B+1):=by
 have hn:=h.nn
 unfold FF.pR
 split
 ·rename_i c
  unfold jv at c
  split at c
  ·omega
  ·split at c
   ·omega
   ·rename_i c1 c2
    obtain⟨f1,f2,f3⟩:=AE c2
    have hr:=h.inv.roots.1
    have h1:=h.inv.fresh (k:=2) (t:=(s.roots.length:Int)) (u:=s.free) f1 f2 f3 (.inr rfl) 0
    have h2:=h1.root f1 f2 (ae _ _ _) (ae _ _ _) (show s.roots.length<4 by omega)
    refine⟨_,h2,fun n a b=> ?_,by omega⟩
    show aa s.held s.free 0 n≤_
    unfold aa;split
    ·omega
    ·have:=h.held n a b;omega
 ·exact⟨d,h.inv,fun n a b=>by have:=h.held n a b;omega,by omega⟩
theorem Ic{s:FF}{n:Int}{x:ByteArray}(h:s.xL n x=0):s.cI n 2=0∧sy x=true∧iJ (s.names n) x=false∧(s.names n).length≠8:=by
 unfold xL at h
 split at h
 ·omega
 ·split at h
  ·omega
  ·split at h
   ·omega
   ·split at h
    ·omega
    ·refine⟨by omega,?_,?_,by assumption⟩
     ·cases c:sy x with
      | true=>rfl
      | false=>contradiction
     ·cases c:iJ (s.names n) x with
      | false=>rfl
      | true=>contradiction
theorem z8{s:FF}{n:Int}{x:ByteArray}(h:s.gY n x=0):s.cI n 2=0∧iJ (s.names n) x=true∧s.dV n x=ep (s.kids n) (cK (s.names n) x):=by
 have h2:=h
 unfold gY at h
 split at h
 ·omega
 ·split at h
  ·exact⟨by omega,by assumption,by unfold dV;rw[if_pos h2]⟩
  ·omega
theorem Ok.dI(h:s.Inv d){n:Int}{x:ByteArray}(h0:s.gY n x=0):0≤n∧n<40∧s.kind n=2∧s.dV n x∈s.kids n∧iJ (s.names n) x=true∧ep (s.kids n) (cK (s.names n) x)=s.dV n x:=by
 obtain⟨a,b,c⟩:=z8 h0
 obtain⟨i1,i2,i3,i4⟩:=ou a
 obtain⟨r1,r2,r3,r4⟩:=h.rise n i1 i2
 obtain⟨p1,p2⟩:=gX.1 b
 refine⟨i1,i2,i4 (by omega),?_,b,c.symm⟩
 rw[c]
 have:=ja (l:=s.kids n) (p:=cK (s.names n) x) (by omega)
 simpa [ep]using this
theorem Ok.hold(h:s.Ok d B)(n:Int):(s.hold n).Ok d (B+1):=by
 have hn:=h.nn
 unfold FF.hold
 split
 ·rename_i c
  obtain⟨i1,i2,i3⟩:=pN c
  have hhe:∀ m,aa s.held n (s.held n+1) m=if m=n then s.held n+1 else s.held m:=fun m=>rfl
  have a0:=(h.inv.num n i1 i2).1
  refine⟨⟨h.inv.kinds,h.inv.rise,h.inv.nok,h.inv.kids,h.inv.data,h.inv.roots,h.inv.up,fun m a b=> ?_,fun m a b c=> ?_,fun m a b c e=> ?_,h.inv.dir⟩,fun m a b=> ?_,by omega⟩
  ·obtain⟨a1,a2⟩:=h.inv.num m a b
   refine⟨?_,a2⟩
   show 0≤aa s.held n _ m
   rw[hhe];split<;>omega
  ·obtain⟨b1,b2⟩:=h.inv.zero m a b c
   have:m≠n:=fun e=>by subst e;exact i3 c
   exact⟨b1,by show aa s.held n _ m=0;rw[hhe,if_neg this];exact b2⟩
  ·show 0<s.links m∨0<aa s.held n _ m
   rw[hhe];split
   ·omega
   ·exact h.inv.pos m a b c e
  ·show aa s.held n _ m≤_
   have:=h.held m a b
   have:=h.held n i1 i2
   rw[hhe];split<;>omega
 ·exact⟨h.inv,fun n a b=>by have:=h.held n a b;omega,by omega⟩
theorem Ok.gW(h:s.Ok d B)(n:Int):(s.gW n).Ok d (B+1):=by
 have hn:=h.nn
 unfold FF.gW
 split
 ·rename_i c
  unfold letE at c
  split at c
  ·omega
  ·split at c
   ·omega
   ·rename_i c0 c1
    obtain⟨i1,i2,i3⟩:=pN (show s.cI n 0=0 by omega)
    have a0:=(h.inv.num n i1 i2).1
    have hhe:∀ m,aa s.held n (s.held n-1) m=if m=n then s.held n-1 else s.held m:=fun m=>rfl
    have hw:=h.inv.LW n
    have h2:fw {s with held:=aa s.held n (s.held n-1)} d (-1) n:=⟨hw.kinds,hw.rise,hw.nok,hw.kids,hw.data,hw.roots,hw.up,fun m a b=>by
      obtain⟨a1,a2⟩:=hw.num m a b
      refine⟨?_,a2⟩
      show 0≤aa s.held n _ m
      rw[hhe];split<;>omega,fun m a b c=>by
      obtain⟨b1,b2⟩:=hw.zero m a b c
      have:m≠n:=fun e=>by subst e;exact i3 c
      exact⟨b1,by show aa s.held n _ m=0;rw[hhe,if_neg this];exact b2⟩,fun m a b c e=>by
      show 0<s.links m∨0<aa s.held n _ m
      rw[hhe,if_neg e]
      exact hw.pos m a b c e,hw.dir⟩
    have hb:∀ m,0≤m→m<40→aa s.held n (s.held n-1) m≤B+1:=fun m a b=>by
     have h1:=h.held m a b
     have h3:=h.held n i1 i2
     rw[hhe];split<;>omega
    unfold mD
    split
    ·rename_i c2
     have g0:s.kind n≠2:=fun g=>by
      have g1:=h.inv.dir n i1 i2 g (by omega)
      have g2:s.links n=0:=c2.1
      omega
     have h3:=h2.NH i1 i2 c2.1 c2.2 (h.inv.Fx i1 i2 g0).1
     refine⟨h3,fun m a b=> ?_,by omega⟩
     show aa (aa s.held n (s.held n-1)) n 0 m≤_
     have:=hb m a b
     rw[show aa (aa s.held n (s.held n-1)) n 0 m=if m=n then 0 else aa s.held n (s.held n-1) m from rfl]
     split<;>omega
    ·rename_i c2
     have a4:=(h.inv.num n i1 i2).2
     rw[if_neg (show ¬n=(-1:Int) by omega)]at a4
     have a5:¬(s.links n=0∧aa s.held n (s.held n-1) n=0):=c2
     rw[ae]at a5
     refine⟨⟨h2.kinds,h2.rise,h2.nok,h2.kids,h2.data,h2.roots,h.inv.up,h2.num,h2.zero,fun m a b c _=> ?_,h.inv.dir⟩,hb,by omega⟩
     by_cases e:m=n
     ·subst e
      show 0<s.links m∨0<aa s.held m _ m
      rw[ae]
      omega
     ·exact h2.pos m a b c e
 ·exact⟨h.inv,fun n a b=>by have:=h.held n a b;omega,by omega⟩
theorem Ok.data(h:s.Ok d B){n:Int}(hk:s.kind n=1)(x:ByteArray)(hx:x.size≤40):Ok {s with data:=aa s.data n x} d (B+1):=by
 have hn:=h.nn
 refine⟨⟨h.inv.kinds,h.inv.rise,h.inv.nok,h.inv.kids,fun m a b=> ?_,h.inv.roots,h.inv.up,h.inv.num,h.inv.zero,h.inv.pos,h.inv.dir⟩,fun m a b=>by have:=h.held m a b;show s.held m≤_;omega,by omega⟩
 show(aa s.data n x m).size≤40∧(s.kind m≠1→aa s.data n x m=ByteArray.empty)
 rw[show aa s.data n x m=if m=n then x else s.data m from rfl]
 split
 ·rename_i c;subst c;exact⟨hx,fun q=>absurd hk q⟩
 ·exact h.inv.data m a b
theorem Ok.NB(h:s.Ok d B):s.Ok d (B+1):=⟨h.inv,fun n a b=>by have:=h.held n a b;omega,by have:=h.nn;omega⟩
theorem n9(x:ByteArray)(a:Nat)(y:ByteArray):(Iz x a y).size=max x.size (a+y.size):=by
 unfold Iz;rw[←ByteArray.size_data];simp
theorem Ok.write(h:s.Ok d B)(n a:Int)(x:ByteArray):(s.write n a x).Ok d (B+1):=by
 unfold FF.write
 split
 ·rename_i c
  obtain⟨c,_⟩:=c
  unfold bR at c
  split at c
  ·omega
  ·split at c
   ·omega
   ·split at c
    ·omega
    ·obtain⟨i1,i2,_,i4⟩:=ou (show s.cI n 1=0 by omega)
     refine h.data (i4 (by omega)) _ ?_
     rw[n9]
     have:=(h.inv.data n i1 i2).1
     omega
 ·exact h.NB
theorem Ok.move(h:s.Ok d B)(n:Int)(x:ByteArray)(to:Int)(y:ByteArray):∃ d',(s.move d n x to y).Ok d' (B+1):=by
 have hn:=h.nn
 unfold FF.move
 split
 ·exact⟨d,h.NB⟩
 ·rename_i c
  have hb:∀ m,0≤m→m<40→s.held m≤B+1:=fun m a b=>by have:=h.held m a b;omega
  have c':s.sD d n x to=0:=by omega
  unfold sD at c'
  split at c'
  ·omega
  ·split at c'
   ·omega
   ·split at c'
    ·omega
    ·split at c'
     ·omega
     ·rename_i c0 c1 c2 c3
      obtain⟨i1,i2,i3,i4,i5,i6⟩:=Ok.dI h.inv (show s.gY n x=0 by omega)
      obtain⟨k1,k2,k3,k4,k5⟩:=h.inv.kids n i1 i2 _ i4
      have h1:=h.inv.cut (k:=s.dV n x) i1 i2 i5 i6
      obtain⟨r1,r2,r3,r4⟩:=h.inv.rise n i1 i2
      split
      ·refine⟨d,?_,fun m a b=>hb m a b,by omega⟩
       have e:=J2 r1 i5 r2
       rw[i6]at e
       rw[e]
       exact h.inv
      ·rename_i c4
       obtain⟨a1,a2,a3,a4⟩:=Ic (show(s.di n x).xL to y=0 by omega)
       obtain⟨t1,t2,_,t4⟩:=ou a1
       have t5:s.kind to=2:=t4 (by omega)
       have hlen:((s.di n x).names to).length<8:=by have:=(h1.rise to t1 t2).2.2.1;omega
       split
       ·rename_i c5
        have hu:DA d (s.di n x) to (s.dV n x)=false:=by
         have e:DA d (s.di n x) to (s.dV n x)=DA d s to (s.dV n x):=q7 (s:=s) (t:=s.di n x) rfl _ _ _
         rw[e]
         cases g:DA d s to (s.dV n x)with
         | false=>rfl
         | true=>exact absurd ⟨c5,g⟩ c3
        obtain⟨g1,g2⟩:=h1.N5 k1 k2 c5 t1 t2 t5 hu
        have h3:=g1.put (n:=to) (x:=y) t1 t2 t5 a3 hlen a2 ⟨k1,k2,k3⟩ (show s.tree (s.dV n x)=s.tree to by omega) (fun _=>⟨ae _ _ _,g2⟩)
        exact⟨_,h3,fun m a b=>hb m a b,by omega⟩
       ·rename_i c5
        have h3:=h1.put (n:=to) (x:=y) t1 t2 t5 a3 hlen a2 ⟨k1,k2,k3⟩ (show s.tree (s.dV n x)=s.tree to by omega) (fun g=>absurd g c5)
        exact⟨d,h3,fun m a b=>hb m a b,by omega⟩
theorem vV:void.Ok (fun _=>0) 0:=by
 have hc:∀ k,void.p6 k=0:=fun k=>by
  have:∀ N,nj (fun _=>[]) k N=0:=fun N=>by
   induction N with
   | zero=>rfl
   | succ N ih=>unfold nj;rw[ih];rfl
  show nj (fun _=>[]) k 40+([]:List Int).count k=0
  rw[this];rfl
 refine⟨⟨fun _ _ _=>.inl rfl,fun _ _ _=>⟨eb.nil,rfl,by simp[void],fun _=>rfl⟩,fun _ _ _ x hx=>by simp[void]at hx,fun _ _ _ k hk=>by simp[void]at hk,fun _ _ _=>⟨by simp[void],fun _=>rfl⟩,⟨by simp[void],fun r hr=>by simp[void]at hr⟩,fun _ _ _ c=>by simp[void]at c,fun m a b=>⟨by simp[void],?_⟩,fun _ _ _ _=>⟨rfl,rfl⟩,fun _ _ _ c=>absurd rfl c,fun _ _ _ c=>by simp[void]at c⟩,fun _ _ _=>by simp[void],Int.le_refl _⟩
 rw[hc,if_neg (show ¬m=(-1:Int) by omega)];rfl
end
theorem Sh.di{s:FF}(h:s.Sh){n:Int}{x:ByteArray}(h1:0≤n)(h2:n<40)(hx:iJ (s.names n) x=true):(s.di n x).Sh:=by
 obtain⟨p1,p2⟩:=gX.1 hx
 obtain⟨r1,r2,r3,r4⟩:=h.rise n h1 h2
 have hm:∀ m,(s.di n x).kids m=if m=n then(s.kids n).eraseIdx (cK (s.names n) x)else s.kids m:=fun m=>rfl
 have hnm:∀ m,(s.di n x).names m=if m=n then(s.names n).eraseIdx (cK (s.names n) x)else s.names m:=fun m=>rfl
 refine⟨fun m a b=> ?_,fun m a b j hj=> ?_,h.data,h.roots,h.num⟩
 ·rw[hm,hnm]
  by_cases c:m=n
  ·subst c
   rw[if_pos rfl,if_pos rfl,List.length_eraseIdx,if_pos p1,List.length_eraseIdx,if_pos (by omega)]
   exact⟨r1.erase _ p1,by omega,by omega,fun q=>by rw[r4 q];rfl⟩
  ·rw[if_neg c,if_neg c]
   exact h.rise m a b
 ·rw[hm]at hj
  split at hj
  ·rename_i c;subst c;exact h.kids m a b j (List.mem_of_mem_eraseIdx hj)
  ·exact h.kids m a b j hj
theorem Sh.mM{s:FF}(h:s.Sh){n:Int}{x:ByteArray}{k:Int}(h1:0≤n)(h2:n<40)(hn:s.kind n=2)(hx:iJ (s.names n) x=false)(hl:(s.names n).length<8)(hk:0≤k∧k<40):(s.mM n x k).Sh:=by
 obtain⟨r1,r2,r3,r4⟩:=h.rise n h1 h2
 have hpl:=kJ (s.names n) x
 have hp:cK (s.names n) x≤(s.kids n).length:=by omega
 have hm:∀ m,(s.mM n x k).kids m=if m=n then(s.kids n).insertIdx (cK (s.names n) x) k else s.kids m:=fun m=>rfl
 have hnm:∀ m,(s.mM n x k).names m=if m=n then(s.names n).insertIdx (cK (s.names n) x) x else s.names m:=fun m=>rfl
 refine⟨fun m a b=> ?_,fun m a b j hj=> ?_,h.data,h.roots,h.num⟩
 ·rw[hm,hnm]
  by_cases c:m=n
  ·subst c
   rw[if_pos rfl,if_pos rfl,List.length_insertIdx,if_pos hpl,List.length_insertIdx,if_pos hp]
   exact⟨r1.insert hx,by omega,by omega,fun q=>absurd hn q⟩
  ·rw[if_neg c,if_neg c]
   exact h.rise m a b
 ·rw[hm]at hj
  split at hj
  ·rename_i c;subst c
   rcases(List.mem_insertIdx hp).1 hj with rfl | hj
   ·exact hk
   ·exact h.kids m a b j hj
  ·exact h.kids m a b j hj
theorem Sh.dI{s:FF}(h:s.Sh){n:Int}{x:ByteArray}(h0:s.gY n x=0):0≤n∧n<40∧s.kind n=2∧0≤s.dV n x∧s.dV n x<40∧iJ (s.names n) x=true:=by
 obtain⟨a,b,c⟩:=z8 h0
 obtain⟨i1,i2,i3,i4⟩:=ou a
 obtain⟨r1,r2,r3,r4⟩:=h.rise n i1 i2
 obtain⟨p1,p2⟩:=gX.1 b
 have:=ja (l:=s.kids n) (p:=cK (s.names n) x) (by omega)
 have h3:=h.kids n i1 i2 (s.dV n x) (by rw[c];simpa [ep]using this)
 exact⟨i1,i2,i4 (by omega),h3.1,h3.2,b⟩
theorem oy{α:Type}(f:Int→α)(z:Int)(a b:α):aa (aa f z a) z b=aa f z b:=by
 funext j;unfold aa;split<;>rfl
theorem HM(s:FF)(z k t l u v:Int):({s.gm z k t l u with up:=aa (s.gm z k t l u).up z v} :FF)=s.gm z k t l v:=by
 unfold gm
 simp only[oy]
end FF
end Go.X.Tr

namespace Go.X.Tr
open Go Go.X
namespace FF
theorem mI(s:FF):∀ (i:Nat),i≤40→(∀ j:Int,0≤j→j<i→s.kind j≠0)→s.mw (40-i)=s.free
 | 0,_,_=>rfl
 | i+1,h,ho=>by
  rw[←mI s i (by omega) (fun j a b=>ho j a (by omega))]
  obtain⟨k,hk⟩:∃ k,40-i=k+1:=⟨39-i,by omega⟩
  rw[hk,show 40-(i+1)=k by omega]
  conv=>rhs;unfold mw
  rw[if_neg]
  have:=ho (i:Int) (by omega) (by omega)
  rw[show(39-(k:Int))=(i:Int) by omega]
  exact this
theorem iZ{s:FF}{i:Int}(h1:0≤i)(h2:i<40)(ho:∀ j,0≤j→j<i→s.kind j≠0)(hz:s.kind i=0):s.free=i:=by
 have h:=mI s i.toNat (by omega) (fun j a b=>ho j a (by omega))
 rw[←h]
 obtain⟨k,hk⟩:∃ k,40-i.toNat=k+1:=⟨39-i.toNat,by omega⟩
 rw[hk]
 unfold mw
 rw[show(39-(k:Int))=i by omega,if_pos hz]
theorem tQ{s:FF}(ho:∀ j,0≤j→j<40→s.kind j≠0):s.free= -1:=by
 have h:=mI s 40 (Nat.le_refl _) (fun j a b=>ho j a (by omega))
 rw[←h];rfl
end FF
theorem iB{α:Type}(l:List α)(i:Nat)(y:α)(h:i<l.length):l.take (i+1)=l.take i++[l.getD i y]:=by
 rw[List.take_add_one,List.getD,List.getElem?_eq_getElem h];rfl
namespace FF
end FF
end Go.X.Tr

namespace Go.X.Tr
open Go Go.X
theorem XQ.mono{P:Program}{ops:Array Oper}{Q:Exit→Act→World→Prop}{n:Fr}{L:PF}{M M':World→Prop}{B:pD}{f:Nat}{l:Array Bool}(hm:∀ w,M w→M' w)(h:XQ P n ops Q B f l L M'):XQ P n ops Q B f l L M:=fun hc a w ha hw hJ=>h hc a w ha (hm w hw) hJ
section
variable {W w:World} {S:Nat→Nat→Prop} {H F:List ax}
theorem nG{z:Int}(h:0≤z∧z<40):ai z.toNat=true:=by show Nat.blt z.toNat 40=true;simp;omega
theorem D3(x:ax):∀ (L:List ax),bF (x::L) L [x]
 | []=>.nil
 | _::r=>.cons (.there .here) (D3 x r)
theorem XM.JK{e:TypeId}{s:FC}{z:Int}(hz:0≤z∧z<40)(hp:bF H [.fam ai (s.aJ e)] F)(h:XM W S H w):XM W S (uO (s.nP z) (s.nC z) e (s.names z):: .fam (eA ai z.toNat) (s.aJ e)::F) w:=by
 have h1:=XM.oK z.toNat (nG hz) (h.perm hp.perm)
 have e1:(s.aJ e z.toNat).oM=uO (s.nP z) (s.nC z) e (s.names z):=by
  unfold FC.aJ iu.oM
  simp only[show((z.toNat:Nat):Int)=z from by omega]
 rw[e1]at h1
 exact h1
theorem XM.JA{e:TypeId}{s:FC}{z:Int}(hz:0≤z∧z<40)(hp:bF H [.fam ai (s.aK e)] F)(h:XM W S H w):XM W S (bk (s.kP z) (s.kC z) e (s.kids z):: .fam (eA ai z.toNat) (s.aK e)::F) w:=by
 have h1:=XM.oK z.toNat (nG hz) (h.perm hp.perm)
 have e1:(s.aK e z.toNat).oM=bk (s.kP z) (s.kC z) e (s.kids z):=by
  unfold FC.aK iu.oM
  simp only[show((z.toNat:Nat):Int)=z from by omega]
 rw[e1]at h1
 exact h1
theorem BQ(e:TypeId)(s t:FC)(z:Int)(hz:0≤z∧z<40)(l:List ByteArray)(p:Option Addr)(c:Nat)(h1:t.names=aa s.names z l)(h2:t.nP=aa s.nP z p)(h3:t.nC=aa s.nC z c):pV (s.aJ e) z.toNat ⟨.slice p l.length c,e,1,l.length,strs l⟩=t.aJ e:=by
 funext i
 unfold FC.aJ
 rw[h1,h2,h3]
 by_cases hi:i=z.toNat
 ·subst hi
  rw[gK]
  simp only[show((z.toNat:Nat):Int)=z from by omega,ae]
 ·rw[gg _ _ hi]
  have hi2:¬(i:Int)=z:=by omega
  simp only[ad _ _ hi2]
theorem CX(e:TypeId)(s t:FC)(z:Int)(hz:0≤z∧z<40)(l:List Int)(p:Option Addr)(c:Nat)(h1:t.kids=aa s.kids z l)(h2:t.kP=aa s.kP z p)(h3:t.kC=aa s.kC z c):pV (s.aK e) z.toNat ⟨.slice p l.length c,e,1,l.length,ints l⟩=t.aK e:=by
 funext i
 unfold FC.aK
 rw[h1,h2,h3]
 by_cases hi:i=z.toNat
 ·subst hi
  rw[gK]
  simp only[show((z.toNat:Nat):Int)=z from by omega,ae]
 ·rw[gg _ _ hi]
  have hi2:¬(i:Int)=z:=by omega
  simp only[ad _ _ hi2]
theorem XM.EY{e:TypeId}{s:FC}(t:FC){z:Int}{n c:Nat}{p:Option Addr}{l:List ByteArray}(hz:0≤z∧z<40)(hn:n=l.length)(h1:t.names=aa s.names z l)(h2:t.nP=aa s.nP z p)(h3:t.nC=aa s.nC z c)(hp:bF H [.row (.slice p n c) e 1 n (strs l),.fam (eA ai z.toNat) (s.aJ e)] F)(h:XM W S H w):XM W S (.fam ai (t.aJ e)::F) w:=by
 subst hn
 have h4:=XM.uG (x:=⟨.slice p l.length c,e,1,l.length,strs l⟩) z.toNat (lV _ _) (h.perm hp.perm)
 rw[uK (nG hz),BQ e s t z hz l p c h1 h2 h3]at h4
 exact h4
theorem XM.Ee{e:TypeId}{s:FC}(t:FC){z:Int}{n c:Nat}{p:Option Addr}{l:List Int}(hz:0≤z∧z<40)(hn:n=l.length)(h1:t.kids=aa s.kids z l)(h2:t.kP=aa s.kP z p)(h3:t.kC=aa s.kC z c)(hp:bF H [.row (.slice p n c) e 1 n (ints l),.fam (eA ai z.toNat) (s.aK e)] F)(h:XM W S H w):XM W S (.fam ai (t.aK e)::F) w:=by
 subst hn
 have h4:=XM.uG (x:=⟨.slice p l.length c,e,1,l.length,ints l⟩) z.toNat (lV _ _) (h.perm hp.perm)
 rw[uK (nG hz),CX e s t z hz l p c h1 h2 h3]at h4
 exact h4
theorem XM.Nk{e:TypeId}{s:FC}(t:FC){z:Int}(hz:0≤z∧z<40)(h1:t.names=aa s.names z [])(h2:t.nP=aa s.nP z none)(h3:t.nC=aa s.nC z 0)(hp:bF H [.fam ai (s.aJ e)] F)(h:XM W S H w):XM W S (.fam ai (t.aJ e)::F) w:=by
 have h4:=(XM.pick (D3 _ _) (XM.JK hz hp h)).dH e 1
 exact XM.EY (s:=s) t (p:=none) (c:=0) (n:=0) (l:=[]) hz rfl h1 h2 h3 (.cons .here (.cons .here (by
  have hq:∀ L:List ax,bF L [] L:=fun L=>.nil
  exact hq _))) h4
theorem XM.MX{e:TypeId}{s:FC}(t:FC){z:Int}(hz:0≤z∧z<40)(h1:t.kids=aa s.kids z [])(h2:t.kP=aa s.kP z none)(h3:t.kC=aa s.kC z 0)(hp:bF H [.fam ai (s.aK e)] F)(h:XM W S H w):XM W S (.fam ai (t.aK e)::F) w:=by
 have h4:=(XM.pick (D3 _ _) (XM.JA hz hp h)).dH e 1
 exact XM.Ee (s:=s) t (p:=none) (c:=0) (n:=0) (l:=[]) hz rfl h1 h2 h3 (.cons .here (.cons .here .nil)) h4
end
def FC.o6(s:FC)(z k t l u:Int):FC:=⟨s.toFF.gm z k t l u,aa s.nP z none,aa s.nC z 0,aa s.kP z none,aa s.kC z 0,s.rP,s.rC⟩
abbrev tx(k t l u:Int):av.U:=⟨k,t,l,0,ByteArray.empty,u,[],none,0,[],none,0⟩
def ry(k t l u:Int):Array Value:= #[.int .i64 k,.int .i64 t,.int .i64 l,.int .i64 0,.string ⟨#[]⟩,.slice none 0 0,.slice none 0 0,.int .i64 u]
theorem vP(s:FC)(z k t l u:Int)(hz:0≤z∧z<40):0+0+z.toNat*8+8≤321∧bQ (av s) (0+0+z.toNat*8) (ry k t l u).toList=av (s.o6 z k t l u):=
 av.E9 s (s.o6 z k t l u) z hz _ rfl (fun j hj=>by
  have e:av.un (s.o6 z k t l u) z=tx k t l u:=by
   unfold av.un FC.o6 FF.gm
   simp only[ae]
  rw[e]
  match j,hj with
  | 0,_=>rfl
  | 1,_=>rfl
  | 2,_=>rfl
  | 3,_=>rfl
  | 4,_=>rfl
  | 5,_=>rfl
  | 6,_=>rfl
  | 7,_=>rfl
  | j+8,h=>exact absurd h (by omega)) (fun y hy=>by
  unfold av.un FC.o6 FF.gm
  simp only[ad _ _ hy]) rfl
theorem gz(s:FC):0+320<321∧av s (0+320)= .slice s.rP s.roots.length s.rC:=⟨by omega,by unfold av;rw[if_neg (by omega),if_pos (by omega)]⟩
theorem sU(s:FC)(l:List Int)(p:Option Addr)(c n:Nat)(hn:n=l.length):0+320<321∧cH (av s) (0+320) (.slice p n c)=av {s with roots:=l,rP:=p,rC:=c} :=by
 subst hn
 refine⟨by omega,?_⟩
 funext i
 unfold cH av
 by_cases hi:i=0+320
 ·rw[if_pos hi,if_neg (by omega),if_pos (by omega)]
 ·rw[if_neg hi]
  by_cases c1:i<320
  ·rw[if_pos c1,if_pos c1];rfl
  ·rw[if_neg c1,if_neg c1,if_neg (by omega),if_neg (by omega)]
theorem wj(k t l u:Int):∀ i,i<8→cellsOf (ry k t l u) i=av.cell (tx k t l u) i:=fun i h=>match i,h with
 | 0,_=>rfl
 | 1,_=>rfl
 | 2,_=>rfl
 | 3,_=>rfl
 | 4,_=>rfl
 | 5,_=>rfl
 | 6,_=>rfl
 | 7,_=>rfl
 | j+8,h=>absurd h (by omega)
theorem FQ(k t l u:Int):0+8≤8∧cq (av.cell (tx k t l u)) 0 8= .agg (ry k t l u):=⟨by omega,rfl⟩
def wo:Array Value:=((List.range 321).map (av FC.void)).toArray
theorem zX:wo.size=321:=by simp[wo]
theorem De:∀ i,i<321→cellsOf wo i=av FC.void i:=fun i hi=>by simp[cellsOf,wo,hi]
theorem ID{t:FC}{X:FF}(h:t.toFF=X)(z v:Int):({t with held:=aa t.held z v} :FC).toFF= {X with held:=aa X.held z v} :=by rw[←h]
theorem XM.xw{W w:World}{S:Nat→Nat→Prop}{H:List ax}(r:Nat→iu)(e:TypeId)(hr:∀ i,r i=⟨.slice none 0 0,e,1,0,[]⟩)(h:XM W S H w):XM W S (.fam ai r::H) w:=by
 have hr0:w.ownsRow 0 e 1 (.slice none 0 0) 0 []:=(h.dH e 1).good.1 (.row (.slice none 0 0) e 1 0 []) (by simp)
 refine⟨⟨fun x hx=> ?_,List.pairwise_cons.2 ⟨fun x hx _ b o h1 h2=> ?_,h.good.2⟩⟩,h.keep,fun x hx hw b o hb=> ?_⟩
 ·rcases List.mem_cons.1 hx with rfl | hx
  ·exact⟨fun i _=>by rw[hr];exact hr0,fun i j b _ _ _ h1 _=>by rw[hr]at h1;cases h1⟩
  ·exact h.good.1 x hx
 ·obtain⟨i,_,hb⟩:=h1;rw[hr]at hb;cases hb
 ·rcases List.mem_cons.1 hx with rfl | hx
  ·obtain⟨i,_,hb⟩:=hb;rw[hr]at hb;cases hb
  ·exact h.mine x hx hw b o hb
theorem XM.Dd{W w:World}{S:Nat→Nat→Prop}{H:List ax}(h:XM W S H w):XM W S (.fam ai (FC.void.aJ 9):: .fam ai (FC.void.aK 3)::bk none 0 3 []::H) w:=
 XM.xw _ 9 (fun _=>rfl) (XM.xw _ 3 (fun _=>rfl) (h.dH 3 1))
structure NV where
 kind:Int
 links:Int
 held:Int
 size:Int
def NV.arr(x:NV):Array Value:= #[.int .i64 x.kind,.int .i64 x.links,.int .i64 x.held,.int .i64 x.size]
def NV.zero:NV:=⟨0,0,0,0⟩
def ui(x:NV)(i:Nat):Value:=if i=0 then .int .i64 x.kind else if i=1 then .int .i64 x.links else if i=2 then .int .i64 x.held else if i=3 then .int .i64 x.size else undef
theorem CR(x:NV):∀ i,i<4→cellsOf x.arr i=ui x i:=fun i h=>match i,h with
 | 0,_=>rfl
 | 1,_=>rfl
 | 2,_=>rfl
 | 3,_=>rfl
 | j+4,h=>absurd h (by omega)
theorem ur(x:NV):0+4≤4∧cq (ui x) 0 4= .agg x.arr:=⟨by omega,rfl⟩
theorem xq(y x:NV):0+4≤4∧bQ (ui y) 0 x.arr.toList=ui x:=by
 refine⟨by omega,?_⟩
 funext i
 match i with
 | 0=>rfl
 | 1=>rfl
 | 2=>rfl
 | 3=>rfl
 | k+4=>simp[bQ,cH,NV.arr,ui]
def FF.Mq(s:FF)(n:Int):NV:=if s.cI n 0=0 then⟨s.kind n,s.links n,s.held n,max ((s.data n).size:Int) ((s.kids n).length:Int)⟩else NV.zero
def AW(u:av.U):Array Value:= #[.int .i64 u.kind,.int .i64 u.tree,.int .i64 u.links,.int .i64 u.held,.string u.data,.slice u.nP u.names.length u.nC,.slice u.kP u.kids.length u.kC,.int .i64 u.up]
theorem Ce(s:FC)(z:Int)(h:0≤z∧z<40):0+0+z.toNat*8+8≤321∧cq (av s) (0+0+z.toNat*8) 8= .agg (AW (av.un s z)):=by
 refine⟨by omega,?_⟩
 have q:=av.at_ s z h
 simp only[cq,List.range,List.range.loop,List.map_cons,List.map_nil]
 rw[q 0 (by omega),q 1 (by omega),q 2 (by omega),q 3 (by omega),q 4 (by omega),q 5 (by omega),q 6 (by omega),q 7 (by omega)]
 rfl
theorem Gs(u0 u:av.U):0+8≤8∧bQ (av.cell u0) 0 (AW u).toList=av.cell u:=by
 refine⟨by omega,?_⟩
 funext i
 match i with
 | 0=>rfl
 | 1=>rfl
 | 2=>rfl
 | 3=>rfl
 | 4=>rfl
 | 5=>rfl
 | 6=>rfl
 | 7=>rfl
 | k+8=>
  have e1:∀ u:av.U,av.cell u (k+8)=undef:=fun u=>by unfold av.cell;iterate 8 rw[if_neg (by omega)]
  have e2:bQ (av.cell u0) 0 (AW u).toList (k+8)=av.cell u0 (k+8):=by simp[bQ,cH,AW]
  rw[e2,e1,e1]
theorem Hj(u:av.U):0+0<8∧av.cell u (0+0)= .int .i64 u.kind:=⟨by omega,rfl⟩
theorem Hi(u:av.U):0+2<8∧av.cell u (0+2)= .int .i64 u.links:=⟨by omega,rfl⟩
theorem Iy(u:av.U):0+3<8∧av.cell u (0+3)= .int .i64 u.held:=⟨by omega,rfl⟩
theorem I2(u:av.U):0+4<8∧av.cell u (0+4)= .string u.data:=⟨by omega,rfl⟩
theorem I5(u:av.U):0+6<8∧av.cell u (0+6)= .slice u.kP u.kids.length u.kC:=⟨by omega,rfl⟩
theorem LF(l:List UInt8)(i:Nat)(h:i<(ByteArray.mk l.toArray).size)(h2:i<l.length):(ByteArray.mk l.toArray)[i]'h=l[i]'h2:=rfl
theorem L8(d:ByteArray)(a:Nat)(x:ByteArray)(i:Nat)(h:i<(Iz d a x).size):(Iz d a x)[i]=if a≤i∧i<a+x.size then x.get! (i-a)else if i<d.size then d.get! i else 0:=by
 have hs:=FF.n9 d a x
 refine(LF _ i h (by rw[List.length_map,List.length_range];omega)).trans ?_
 rw[List.getElem_map,List.getElem_range]
theorem ze{x:ByteArray}{j:Nat}(h:j<x.size):(x.data.toList.map bv)[j]? =some (bv (x.get! j)):=by
 rw[List.getElem?_map]
 have h2:j<x.data.toList.length:=by rw[Array.length_toList];exact h
 rw[List.getElem?_eq_getElem h2]
 show some (bv (x.data.toList[j]))=some (bv (x.data[j]!))
 rw[Array.getElem_toList,getElem!_pos x.data j h]
theorem yD(x:ByteArray):(x.data.toList.map bv).length=x.size:=by rw[List.length_map,Array.length_toList];rfl
theorem DZ(d:ByteArray)(a:Nat)(x:ByteArray)(i:Nat)(h:i<(Iz d a x).size):bQ (bQ (fun _=>bv 0) 0 (d.data.toList.map bv)) a (x.data.toList.map bv) i=bv (Iz d a x)[i]:=by
 rw[L8]
 by_cases c1:i<a
 ·rw[ej _ _ _ _ c1,if_neg (by omega)]
  by_cases c2:i<d.size
  ·rw[if_pos c2]
   have:=dg (d.data.toList.map bv) (fun _=>bv 0) 0 i _ (ze c2)
   rwa[Nat.zero_add]at this
  ·rw[if_neg c2,eJ _ _ _ _ (by rw[yD];omega)]
 ·by_cases c3:i<a+x.size
  ·rw[if_pos ⟨by omega,c3⟩]
   have:=dg (x.data.toList.map bv) (bQ (fun _=>bv 0) 0 (d.data.toList.map bv)) a (i-a) _ (ze (x:=x) (j:=i-a) (by omega))
   rwa[show a+(i-a)=i by omega]at this
  ·rw[if_neg (by omega),eJ _ _ _ _ (by rw[yD];omega)]
   by_cases c2:i<d.size
   ·rw[if_pos c2]
    have:=dg (d.data.toList.map bv) (fun _=>bv 0) 0 i _ (ze c2)
    rwa[Nat.zero_add]at this
   ·rw[if_neg c2,eJ _ _ _ _ (by rw[yD];omega)]
end Go.X.Tr

namespace Go.X.Tr
open Go Go.X
end Go.X.Tr

namespace Go.X.Tr
open Go Go.X
namespace FF
theorem yG(s:FF)(n:Int):(s.mD n).roots=s.roots:=by unfold mD;split<;>rfl
theorem iV(s:FF)(n:Int):(s.gW n).roots=s.roots:=by
 unfold gW;split
 ·rw[yG]
 ·rfl
theorem xh(s:FF)(n a:Int)(x:ByteArray):(s.write n a x).roots=s.roots:=by unfold write;split<;>rfl
end FF
end Go.X.Tr

namespace Go.X.Tr
open Go Go.X
namespace FF
structure Way (s:FF) (d:Int→Nat) (a k:Int):Prop where
 nn:0≤k
 gL:0≤a∧a<40
 dir:s.kind a=2
 list:∃ L:List Int,(L.length:Int)=k∧L.Nodup∧∀ z∈L,(0≤z∧z<40)∧d a<d z
theorem Way.start{s:FF}{d:Int→Nat}{n:Int}(h1:0≤n)(h2:n<40)(h:s.kind n=2):s.Way d n 0:=⟨by omega,⟨h1,h2⟩,h,[],rfl,List.nodup_nil,fun z hz=>by cases hz⟩
theorem Way.step{s:FF}{d:Int→Nat}{a k:Int}(h:s.Way d a k):((a::h.list.choose).length:Int)=k+1∧(a::h.list.choose).Nodup∧∀ z∈a::h.list.choose,0≤z∧z<40:=by
 obtain⟨l1,l2,l3⟩:=h.list.choose_spec
 refine⟨by rw[List.length_cons];omega,List.nodup_cons.2 ⟨fun q=> ?_,l2⟩,fun z hz=> ?_⟩
 ·have:=(l3 a q).2;omega
 ·rcases List.mem_cons.1 hz with rfl | hz
  ·exact h.gL
  ·exact(l3 z hz).1
end FF
end Go.X.Tr

namespace Go.X.Tr
open Go Go.X
structure OS where
 kind:Int→Int
 n:Int→Int
 at_:Int→Int
 refs:Int→Int
 write:Int→Bool
namespace OS
def is(s:OS)(n:Int):Int:=if n<0∨24≤n then 1 else if s.refs n=0 then 2 else 0
def jz(s:OS):Nat→Int
 | 0=> -1
 | k+1=>if 0≤jz s k then jz s k else if s.refs (k:Int)=0 then(k:Int)else-1
def first(s:OS):Int:=jz s 24
def dQ(s:OS)(m:Int):Nat→List Int
 | 0=>[]
 | k+1=>if s.refs (k:Int)=0∧((dQ s m k).length:Int)<m then dQ s m k++[(k:Int)]else dQ s m k
def lay(s:OS)(z k n:Int)(w:Bool):OS:=⟨aa s.kind z k,aa s.n z n,aa s.at_ z 0,aa s.refs z 1,aa s.write z w⟩
def He(s:OS)(z:Int):OS:=⟨aa s.kind z 0,aa s.n z 0,aa s.at_ z 0,aa s.refs z 0,aa s.write z false⟩
def move(s:OS)(z d:Int):OS:= {s with at_:=aa s.at_ z (s.at_ z+d)}
def void:OS:=⟨fun _=>0,fun _=>0,fun _=>0,fun _=>0,fun _=>false⟩
structure Inv (s:OS) (J:Int):Prop where
 refs:∀ n,0≤n→n<24→0≤s.refs n∧s.refs n≤J
 at_:∀ n,0≤n→n<24→0≤s.at_ n∧s.at_ n≤40
 kind:∀ n,0≤n→n<24→s.refs n≠0→s.kind n=1∨s.kind n=2∨s.kind n=3
 write:∀ n,0≤n→n<24→s.kind n≠1→s.write n=false
theorem Fg{s:OS}{n:Int}(h:s.is n=0):0≤n∧n<24∧s.refs n≠0:=by
 unfold is at h
 split at h
 ·omega
 ·split at h
  ·omega
  ·exact⟨by omega,by omega,by assumption⟩
theorem lj(s:OS):∀ k:Nat,(s.jz k= -1∧∀ j:Int,0≤j→j<k→s.refs j≠0)∨(0≤s.jz k∧s.jz k<k∧s.refs (s.jz k)=0∧∀ j:Int,0≤j→j<s.jz k→s.refs j≠0)
 | 0=>.inl ⟨rfl,fun j a b=>by omega⟩
 | k+1=>by
  unfold jz
  rcases lj s k with⟨h1,h2⟩ | ⟨h1,h2,h3,h4⟩
  ·rw[if_neg (by omega)]
   by_cases c:s.refs (k:Int)=0
   ·rw[if_pos c];exact .inr ⟨by omega,by omega,c,fun j a b=>h2 j a (by omega)⟩
   ·rw[if_neg c]
    refine .inl ⟨rfl,fun j a b=> ?_⟩
    by_cases e:j=(k:Int)
    ·subst e;exact c
    ·exact h2 j a (by omega)
  ·rw[if_pos h1];exact .inr ⟨h1,by omega,h3,h4⟩
theorem si{s:OS}{i:Int}(h1:0≤i)(h2:i<24)(ho:∀ j,0≤j→j<i→s.refs j≠0)(hz:s.refs i=0):s.first=i:=by
 unfold first
 rcases s.lj 24 with⟨h3,h4⟩ | ⟨h3,h4,h5,h6⟩
 ·exact absurd hz (h4 i h1 h2)
 ·rcases Int.lt_trichotomy (s.jz 24) i with c | c | c
  ·exact absurd h5 (ho _ h3 c)
  ·exact c
  ·exact absurd hz (h6 i h1 c)
theorem jY{s:OS}(h:¬s.first<0):0≤s.first∧s.first<24∧s.refs s.first=0:=by
 unfold first at h ⊢
 rcases s.lj 24 with⟨h3,h4⟩ | ⟨h3,h4,h5,h6⟩
 ·omega
 ·exact⟨h3,h4,h5⟩
theorem uJ(s:OS)(m:Int):∀ k,(s.dQ m k).length≤k
 | 0=>Nat.le_refl _
 | k+1=>by
  have:=uJ s m k
  unfold dQ;split
  ·rw[List.length_append,List.length_singleton];omega
  ·omega
theorem zL(s:OS)(m:Int){i:Int}(h:0≤i):s.dQ m (i+1).toNat=if s.refs i=0∧((s.dQ m i.toNat).length:Int)<m then s.dQ m i.toNat++[i]else s.dQ m i.toNat:=by
 rw[show(i+1).toNat=i.toNat+1 by omega]
 conv=>lhs;unfold dQ
 rw[show((i.toNat:Nat):Int)=i by omega]
end OS
def L6(F:FF)(O:OS)(n:Int):Int:=if F.cI n 1≠0 then F.cI n 1 else if O.first<0 then 4 else 0
def GI(F:FF)(O:OS)(n:Int)(w:Bool):OS:=if L6 F O n=0 then O.lay O.first 1 n w else O
def mJ(O:OS)(n:Int):OS:=if O.is n=0 then {O with refs:=aa O.refs n (O.refs n+1)} else O
def vR(O:OS)(n:Int):OS:= {O with refs:=aa O.refs n (O.refs n-1)}
def Bs(O:OS)(n:Int):Prop:=O.is n=0∧¬ 0<O.refs n-1
instance (O:OS) (n:Int):Decidable (Bs O n):=by unfold Bs;infer_instance
def df(F:FF)(P:PS)(O:OS)(n:Int):Int:=if O.is n≠0 then O.is n else if 0<O.refs n-1 then 0 else if O.kind n=1 then F.letE (O.n n)else(P.gD (O.n n) (decide (O.kind n=3)) (-1)).1
def gH(F:FF)(O:OS)(n:Int):FF:=if Bs O n∧O.kind n=1 then F.gW (O.n n)else F
def fx(P:PS)(O:OS)(n:Int):PS:=if Bs O n∧¬O.kind n=1 then(P.gD (O.n n) (decide (O.kind n=3)) (-1)).2 else P
def eK(O:OS)(n:Int):OS:=if O.is n≠0 then O else if 0<O.refs n-1 then vR O n else O.He n
def c9(F:FF)(P:PS)(O:OS)(n:Int)(x:ByteArray):Int:=if O.is n≠0 then O.is n else if O.kind n=3 then(P.write (O.n n) x).2.1 else if O.kind n=2∨O.write n=false then 8 else F.bR (O.n n) (O.at_ n) x
def pC(O:OS)(n:Int):Prop:=O.is n=0∧¬O.kind n=3∧¬(O.kind n=2∨O.write n=false)
instance (O:OS) (n:Int):Decidable (pC O n):=by unfold pC;infer_instance
def de(F:FF)(P:PS)(O:OS)(n:Int)(x:ByteArray):Int:=if O.is n=0∧O.kind n=3 then(P.write (O.n n) x).1 else if pC O n∧F.bR (O.n n) (O.at_ n) x=0 then(x.size:Int)else 0
def dp(P:PS)(O:OS)(n:Int)(x:ByteArray):PS:=if O.is n=0∧O.kind n=3 then(P.write (O.n n) x).2.2 else P
def dt(F:FF)(O:OS)(n:Int)(x:ByteArray):FF:=if pC O n then F.write (O.n n) (O.at_ n) x else F
def dc(F:FF)(O:OS)(n:Int)(x:ByteArray):OS:=if pC O n∧F.bR (O.n n) (O.at_ n) x=0 then O.move n (x.size)else O
theorem OS.dh(s:OS)(n:Int):(s.is n=0∧0≤n∧n<24∧¬s.refs n=0)∨(s.is n=1∧(n<0∨24≤n))∨(s.is n=2∧0≤n∧n<24∧s.refs n=0):=by
 unfold OS.is;split
 ·exact .inr (.inl ⟨rfl,by assumption⟩)
 ·split
  ·exact .inr (.inr ⟨rfl,by omega,by omega,by assumption⟩)
  ·exact .inl ⟨rfl,by omega,by omega,by assumption⟩
theorem OS.wX(O:OS)(n:Int):(vR O n).He n=O.He n:=by
 unfold OS.He vR
 simp only[FF.oy]
namespace OS
def second(s:OS):Int:=(s.lay s.first 2 0 false).first
theorem uV(s:OS):∀ k:Nat,(s.dQ 2 k=[]∧∀ j:Int,0≤j→j<k→s.refs j≠0)∨(∃ a:Int,s.dQ 2 k=[a]∧0≤a∧a<k∧s.refs a=0∧∀ j:Int,0≤j→j<k→j≠a→s.refs j≠0)∨
  (∃ a b:Int,s.dQ 2 k=[a,b]∧0≤a∧a<b∧b<k∧s.refs a=0∧s.refs b=0∧∀ j:Int,0≤j→j<b→j≠a→s.refs j≠0)
 | 0=>.inl ⟨rfl,fun j a b=>by omega⟩
 | k+1=>by
  unfold dQ
  rcases uV s k with⟨h1,h2⟩ | ⟨a,h1,h2,h3,h4,h5⟩ | ⟨a,b,h1,h2,h3,h4,h5,h6,h7⟩
  ·rw[h1]
   by_cases c:s.refs (k:Int)=0
   ·rw[if_pos ⟨c,by simp⟩]
    exact .inr (.inl ⟨k,rfl,by omega,by omega,c,fun j x y z=>h2 j x (by omega)⟩)
   ·rw[if_neg (fun q=>c q.1)]
    refine .inl ⟨rfl,fun j x y=> ?_⟩
    by_cases e:j=(k:Int)
    ·subst e;exact c
    ·exact h2 j x (by omega)
  ·rw[h1]
   by_cases c:s.refs (k:Int)=0
   ·rw[if_pos ⟨c,by simp⟩]
    exact .inr (.inr ⟨a,k,rfl,h2,h3,by omega,h4,c,fun j x y z=>h5 j x (by omega) z⟩)
   ·rw[if_neg (fun q=>c q.1)]
    refine .inr (.inl ⟨a,rfl,h2,by omega,h4,fun j x y z=> ?_⟩)
    by_cases e:j=(k:Int)
    ·subst e;exact c
    ·exact h5 j x (by omega) z
  ·rw[h1,if_neg (fun q=>by have:=q.2;simp at this)]
   exact .inr (.inr ⟨a,b,rfl,h2,h3,by omega,h5,h6,h7⟩)
theorem Fe{s:OS}(h:((s.dQ 2 24).length:Int)<2):s.first<0∨s.second<0:=by
 rcases s.uV 24 with⟨h1,h2⟩ | ⟨a,h1,h2,h3,h4,h5⟩ | ⟨a,b,h1,_⟩
 ·left
  refine Decidable.byContradiction fun c=> ?_
  have:=jY c
  exact h2 _ this.1 this.2.1 this.2.2
 ·right
  have e:s.first=a:=si h2 h3 (fun j x y=>h5 j x (by omega) (by omega)) h4
  refine Decidable.byContradiction fun c=> ?_
  have q:=jY (s:=s.lay s.first 2 0 false) c
  have q3:=q.2.2
  rw[show(s.lay s.first 2 0 false).refs=aa s.refs s.first 1 from rfl,show(s.lay s.first 2 0 false).first=s.second from rfl]at q3
  by_cases z:s.second=a
  ·rw[e,z,ae]at q3;omega
  ·rw[e,ad _ _ z]at q3
   exact h5 _ q.1 q.2.1 z q3
 ·rw[h1]at h;simp at h
theorem Dj{s:OS}(h:¬((s.dQ 2 24).length:Int)<2):¬s.first<0∧¬s.second<0∧s.dQ 2 24=[s.first,s.second]:=by
 rcases s.uV 24 with⟨h1,h2⟩ | ⟨a,h1,h2,h3,h4,h5⟩ | ⟨a,b,h1,h2,h3,h4,h5,h6,h7⟩
 ·rw[h1]at h;simp at h
 ·rw[h1]at h;simp at h
 ·have e:s.first=a:=si h2 (by omega) (fun j x y=>h7 j x (by omega) (by omega)) h5
  have e2:s.second=b:=by
   unfold second
   refine si (by omega) (by omega) (fun j x y=> ?_) ?_
   ·show aa s.refs s.first 1 j≠0
    rw[e]
    by_cases z:j=a
    ·rw[z,ae];omega
    ·rw[ad _ _ z];exact h7 j x y z
   ·show aa s.refs s.first 1 b=0
    rw[e,ad _ _ (by omega)];exact h6
  exact⟨by omega,by omega,by rw[h1,e,e2]⟩
end OS
def eL(P:PS)(O:OS):Int:=if O.first<0∨O.second<0 then 4 else P.make.2.1
def fX(P:PS)(O:OS):PS:=if O.first<0∨O.second<0 then P else P.make.2.2
def gk(P:PS)(O:OS):OS:=if eL P O=0 then(O.lay O.first 2 P.make.1 false).lay O.second 3 P.make.1 false else O
def fZ(P:PS)(O:OS):Int:=if eL P O=0 then O.first else 0
def gG(P:PS)(O:OS):Int:=if eL P O=0 then O.second else 0
theorem GK(x y:Int):(ints [x,y])[0+(0:Int).toNat*1]? =some (.int .i64 x):=rfl
theorem Gy(x y:Int):(ints [x,y])[0+(1:Int).toNat*1]? =some (.int .i64 y):=rfl
end Go.X.Tr

namespace Go.X.Tr
open Go Go.X
theorem PS.ER{s:PS}{K:Int}(h:s.Inv K)(hK:0≤K):(s.make).2.2.Inv (K+1):=by
 unfold PS.make
 cases hf:ck (fun k=>s.e k 0+s.e k 1==0) 8 with
 | none=>exact h.mono (by omega)
 | some k=>
  have hz:s.e k 0+s.e k 1=0:=by
   unfold ck at hf
   have:=List.find?_some hf
   simpa using this
  refine⟨fun n=> ?_,fun n=> ?_,fun n hn=> ?_,h.len⟩
  ·have:=h.e0 n
   simp only[aX];split<;>(try split)<;>omega
  ·have:=h.e1 n
   simp only[aX];split<;>(try split)<;>omega
  ·simp only[aX]at hn
   by_cases hnk:n=k
   ·subst hnk;exact h.cl _ hz
   ·refine h.cl n ?_
    simpa [hnk]using hn
theorem PS.GD{s:PS}{K n d:Int}{w:Bool}(h:s.Inv K)(hd:d=1∨d= -1):(s.gD n w d).2.Inv (K+1):=by
 unfold PS.gD
 by_cases h1:s.is n≠0
 ·rw[if_pos h1];exact h.mono (by omega)
 rw[if_neg h1]
 by_cases h2:s.e n (uj w)=0
 ·rw[if_pos h2];exact h.mono (by omega)
 rw[if_neg h2]
 have b0:=h.e0
 have b1:=h.e1
 have hw:uj w=0∨uj w=1:=by cases w<;>simp[uj]
 refine⟨fun m=> ?_,fun m=> ?_,fun m hm=> ?_,fun m=> ?_⟩
 ·have c0:=b0 m;have c1:=b1 m
  simp only[aX]
  rcases hw with hw | hw<;>rw[hw]at h2 ⊢ <;>split
  ·rename_i q;obtain⟨rfl,_⟩:=q;omega
  ·omega
  ·rename_i q;simp at q
  ·omega
 ·have c0:=b0 m;have c1:=b1 m
  simp only[aX]
  rcases hw with hw | hw<;>rw[hw]at h2 ⊢ <;>split
  ·rename_i q;simp at q
  ·omega
  ·rename_i q;obtain⟨rfl,_⟩:=q;omega
  ·omega
 ·simp only[aX]at hm
  by_cases hmn:m=n
  ·subst hmn
   have:s.e m 0+s.e m 1+d=0:=by
    rcases hw with hw | hw<;>rw[hw]at hm<;>simp at hm<;>omega
   simp only[this,if_true,aa]
  ·have:s.b m=⟨#[]⟩:=h.cl m (by simpa [hmn]using hm)
   split
   ·simp[aa,hmn,this]
   ·exact this
 ·have:=h.len m
  split
  ·simp only[aa];split
   ·simp[ByteArray.size]
   ·exact this
  ·exact this
theorem PS.Cu{s:PS}{K n:Int}{t:ByteArray}(h:s.Inv K):(s.write n t).2.2.Inv (K+1):=by
 have hh:=h.mono (show K≤K+1 by omega)
 unfold PS.write
 split
 ·exact hh
 ·split
  ·exact hh
  ·rename_i h1
   split
   ·exact hh
   ·split
    ·exact hh
    ·refine⟨hh.e0,hh.e1,fun j hj=> ?_,fun j=> ?_⟩
     ·have:=h.cl j hj
      simp only[aa];split
      ·rename_i q;subst q
       have:=h.e0 j;have:=h.e1 j
       simp only at hj
       omega
      ·exact this
     ·have:=h.len j
      simp only[aa];split
      ·rename_i q;subst q
       rw[ByteArray.size_append,ByteArray.size_extract]
       omega
      ·exact this
theorem OS.Inv.mono{s:OS}{J J':Int}(h:s.Inv J)(hJ:J≤J'):s.Inv J':=
 ⟨fun n a b=>⟨(h.refs n a b).1,Int.le_trans (h.refs n a b).2 hJ⟩,h.at_,h.kind,h.write⟩
theorem OS.Inv.void:OS.void.Inv 1:=
 ⟨fun _ _ _=>by simp[OS.void],fun _ _ _=>by simp[OS.void],fun n _ _ h=>absurd rfl h,fun _ _ _ _=>rfl⟩
theorem OS.Inv.lay{s:OS}{J:Int}(h:s.Inv J)(hJ:1≤J)(z k n:Int)(w:Bool)(hk:k=1∨k=2∨k=3)(hw:k≠1→w=false):(s.lay z k n w).Inv J:=by
 refine⟨fun y a b=> ?_,fun y a b=> ?_,fun y a b c=> ?_,fun y a b c=> ?_⟩
 ·show 0≤aa s.refs z 1 y∧aa s.refs z 1 y≤J
  by_cases q:y=z
  ·rw[q,ae];omega
  ·rw[ad _ _ q];exact h.refs y a b
 ·show 0≤aa s.at_ z 0 y∧aa s.at_ z 0 y≤40
  by_cases q:y=z
  ·rw[q,ae];omega
  ·rw[ad _ _ q];exact h.at_ y a b
 ·show aa s.kind z k y=1∨aa s.kind z k y=2∨aa s.kind z k y=3
  by_cases q:y=z
  ·rw[q,ae];exact hk
  ·rw[ad _ _ q];refine h.kind y a b ?_
   have c':aa s.refs z 1 y≠0:=c
   rw[ad _ _ q]at c';exact c'
 ·show aa s.write z w y=false
  have c':aa s.kind z k y≠1:=c
  by_cases q:y=z
  ·rw[q,ae]at c' ⊢;exact hw c'
  ·rw[ad _ _ q]at c' ⊢;exact h.write y a b c'
theorem OS.Inv.JE{s:OS}{J J':Int}(h:s.Inv J)(hJ:J≤J')(n r:Int)(hr:0≤r∧r≤J')(hn:s.refs n≠0):({s with refs:=aa s.refs n r} :OS).Inv J':=by
 refine⟨fun y a b=> ?_,h.at_,fun y a b c=> ?_,h.write⟩
 ·show 0≤aa s.refs n r y∧aa s.refs n r y≤J'
  by_cases q:y=n
  ·rw[q,ae];omega
  ·rw[ad _ _ q];have:=h.refs y a b;omega
 ·refine h.kind y a b ?_
  by_cases q:y=n
  ·rw[q];exact hn
  ·have c':aa s.refs n r y≠0:=c
   rw[ad _ _ q]at c';exact c'
theorem OS.Inv.Ou{s:OS}{J:Int}(h:s.Inv J)(n r:Int)(hr:0≤r∧r≤40):({s with at_:=aa s.at_ n r} :OS).Inv J:=by
 refine⟨h.refs,fun y a b=> ?_,h.kind,h.write⟩
 show 0≤aa s.at_ n r y∧aa s.at_ n r y≤40
 by_cases q:y=n
 ·rw[q,ae];omega
 ·rw[ad _ _ q];exact h.at_ y a b
theorem OS.Inv.He{s:OS}{J:Int}(h:s.Inv J)(hJ:0≤J)(z:Int):(s.He z).Inv J:=by
 refine⟨fun y a b=> ?_,fun y a b=> ?_,fun y a b c=> ?_,fun y a b c=> ?_⟩
 ·show 0≤aa s.refs z 0 y∧aa s.refs z 0 y≤J
  by_cases q:y=z
  ·rw[q,ae];omega
  ·rw[ad _ _ q];exact h.refs y a b
 ·show 0≤aa s.at_ z 0 y∧aa s.at_ z 0 y≤40
  by_cases q:y=z
  ·rw[q,ae];omega
  ·rw[ad _ _ q];exact h.at_ y a b
 ·show aa s.kind z 0 y=1∨aa s.kind z 0 y=2∨aa s.kind z 0 y=3
  have c':aa s.refs z 0 y≠0:=c
  by_cases q:y=z
  ·rw[q,ae]at c';exact absurd rfl c'
  ·rw[ad _ _ q]at c' ⊢;exact h.kind y a b c'
 ·show aa s.write z false y=false
  have c':aa s.kind z 0 y≠1:=c
  by_cases q:y=z
  ·rw[q,ae]
  ·rw[ad _ _ q]at c' ⊢;exact h.write y a b c'
theorem OS.Inv.node{O:OS}{J:Int}(h:O.Inv J)(hJ:1≤J)(F:FF)(n:Int)(w:Bool):(GI F O n w).Inv (J+1):=by
 unfold GI;split
 ·exact(h.lay hJ _ 1 n w (.inl rfl) (fun q=>absurd rfl q)).mono (by omega)
 ·exact h.mono (by omega)
theorem OS.Inv.pipe{O:OS}{J:Int}(h:O.Inv J)(hJ:1≤J)(P:PS):(gk P O).Inv (J+1):=by
 unfold gk;split
 ·exact((h.lay hJ _ 2 _ false (.inr (.inl rfl)) (fun _=>rfl)).lay hJ _ 3 _ false (.inr (.inr rfl)) (fun _=>rfl)).mono (by omega)
 ·exact h.mono (by omega)
theorem OS.Inv.share{O:OS}{J:Int}(h:O.Inv J)(n:Int):(mJ O n).Inv (J+1):=by
 unfold mJ;split
 ·rename_i c
  obtain⟨i1,i2,i3⟩:=OS.Fg c
  have:=h.refs n i1 i2
  exact h.JE (by omega) n _ (by omega) i3
 ·exact h.mono (by omega)
theorem OS.Inv.close{O:OS}{J:Int}(h:O.Inv J)(n:Int):(eK O n).Inv (J+1):=by
 have h0:=h.refs 0 (by omega) (by omega)
 unfold eK;split
 ·exact h.mono (by omega)
 ·rename_i c
  obtain⟨i1,i2,i3⟩:=OS.Fg (Decidable.not_not.1 c)
  have:=h.refs n i1 i2
  split
  ·exact h.JE (by omega) n _ (by omega) i3
  ·exact(h.He (by omega) n).mono (by omega)
theorem FF.Cr{F:FF}{n a:Int}{x:ByteArray}(h:F.bR n a x=0):0≤a∧a+x.size≤40:=by
 unfold FF.bR at h
 split at h
 ·omega
 ·split at h
  ·omega
  ·split at h
   ·omega
   ·omega
theorem OS.Inv.Lq{O:OS}{J:Int}(h:O.Inv J)(F:FF)(n:Int)(x:ByteArray):(dc F O n x).Inv (J+1):=by
 unfold dc;split
 ·rename_i c
  obtain⟨i1,i2,i3⟩:=OS.Fg c.1.1
  have h2:=h.at_ n i1 i2
  have h3:=FF.Cr c.2
  exact(h.Ou n _ (by omega)).mono (by omega)
 ·exact h.mono (by omega)
theorem zV{P:PS}{K:Int}(h:P.Inv K)(hK:0≤K)(O:OS):(fX P O).Inv (K+1):=by
 unfold fX;split
 ·exact h.mono (by omega)
 ·exact PS.ER h hK
theorem wh{P:PS}{K:Int}(h:P.Inv K)(O:OS)(n:Int)(x:ByteArray):(dp P O n x).Inv (K+1):=by
 unfold dp;split
 ·exact PS.Cu h
 ·exact h.mono (by omega)
theorem qN{F:FF}{d:Int→Nat}{B:Int}(h:F.Ok d B)(O:OS)(n:Int)(x:ByteArray):(dt F O n x).Ok d (B+1):=by
 unfold dt;split
 ·exact h.write (O.n n) (O.at_ n) x
 ·exact h.NB
theorem nw(F:FF)(O:OS)(n:Int):(gH F O n).roots=F.roots:=by
 unfold gH;split
 ·exact FF.iV _ _
 ·rfl
theorem sO(F:FF)(O:OS)(n:Int)(x:ByteArray):(dt F O n x).roots=F.roots:=by
 unfold dt;split
 ·exact FF.xh _ _ _ _
 ·rfl
end Go.X.Tr
