import Derived.Test.YthdinakloheinaaGreatDoorkNP
import Derived.Test.YthdinakloheinaaGreatDoorXBytes
import Derived.Test.YthdinakloheinaaGreatDoorLM
import Derived.Test.YthdinakloheinaaGreatDoorkNOP
namespace Go.X.Tr
open Go Go.X
theorem Ce{l:List ByteArray}{x:ByteArray}{p:Nat}(hp:p≤l.length)(h1:∀ i,i<p→blt (jf l i) x=true)(h2:p<l.length→blt (jf l p) x=false):cF l x=p:=by
 have h3:=kh l x
 rcases Nat.lt_trichotomy (cF l x) p with c | c | c
 ·have a:=h1 _ c
  rw[qc l x (by omega)]at a;cases a
 ·exact c
 ·have a:=lI l x p c
  rw[h2 (by omega)]at a;cases a
theorem qk{l:List ByteArray}(hl:dV l){x:ByteArray}(h:iY l x=true):cF (l.eraseIdx (cF l x)) x=cF l x:=by
 obtain⟨p1,p2⟩:=gW.1 h
 refine Ce (by rw[List.length_eraseIdx,if_pos p1];omega) (fun i hi=> ?_) (fun hi=> ?_)
 ·rw[lM,if_pos hi];exact lI l x i hi
 ·rw[List.length_eraseIdx,if_pos p1]at hi
  rw[lM,if_neg (by omega)]
  exact uM hl x (by omega) (by omega)
theorem vB{α:Type}(y:α):∀ (l:List α) (p:Nat),p<l.length→(l.eraseIdx p).insertIdx p (l.getD p y)=l
 | x::l,0,_=>by simp
 | x::l,p+1,h=>by
  rw[List.eraseIdx_cons_succ,List.insertIdx_succ_cons,List.getD_cons_succ,vB y l p (by simpa using h)]
namespace FF
theorem Lv{s:FF}{n:Int}{x:ByteArray}(hl:dV (s.names n))(h:iY (s.names n) x=true)(hk:(s.names n).length=(s.kids n).length):(s.dc n x).mD n x (ep (s.kids n) (cF (s.names n) x))=s:=by
 obtain⟨p1,p2⟩:=gW.1 h
 have e1:((s.dc n x).names n)=(s.names n).eraseIdx (cF (s.names n) x):=ae _ _ _
 have e2:((s.dc n x).kids n)=(s.kids n).eraseIdx (cF (s.names n) x):=ae _ _ _
 have a1:=vB ByteArray.empty (s.names n) _ p1
 have a2:=vB (0:Int) (s.kids n) (cF (s.names n) x) (by omega)
 rw[show(s.names n).getD (cF (s.names n) x) ByteArray.empty=x from p2]at a1
 have b1:aa (s.dc n x).names n (((s.dc n x).names n).insertIdx (cF ((s.dc n x).names n) x) x)=s.names:=by
  rw[e1,qk hl h,a1]
  funext j;unfold aa;split
  ·rename_i c;rw[c]
  ·show aa s.names n _ j=_;rw[ad _ _ (by assumption)]
 have b2:aa (s.dc n x).kids n (((s.dc n x).kids n).insertIdx (cF ((s.dc n x).names n) x) (ep (s.kids n) (cF (s.names n) x)))=s.kids:=by
  rw[e2,e1,qk hl h,show ep (s.kids n) (cF (s.names n) x)=(s.kids n).getD (cF (s.names n) x) 0 from by simp[ep],a2]
  funext j;unfold aa;split
  ·rename_i c;rw[c]
  ·show aa s.kids n _ j=_;rw[ad _ _ (by assumption)]
 unfold mD
 rw[b1,b2]
 rfl
def Ch(s:FF)(d:Int→Nat)(k:Int):Prop:=∀ n,0≤n→n<40→s.kind n=2→n≠k→s.up n=n∨(0≤s.up n∧s.up n<40∧s.kind (s.up n)=2∧d (s.up n)<d n)
theorem qS{s t:FF}(h:t.up=s.up)(k:Int):∀ (f:Nat) (n:Int),oF t f n k=oF s f n k
 | 0,n=>rfl
 | f+1,n=>by unfold oF;rw[h,qS h k f]
theorem oC{s:FF}{d:Int→Nat}{k:Int}(hc:s.Ch d k):∀ (f g:Nat) (n:Int),0≤n→n<40→s.kind n=2→d n≤f→d n≤g→oF s f n k=oF s g n k
 | 0,0,_,_,_,_,_,_=>rfl
 | 0,g+1,n,h1,h2,h3,h4,h5=>by
  unfold oF
  by_cases c:n=k
  ·rw[if_pos c];simp[c]
  ·rw[if_neg c]
   rcases hc n h1 h2 h3 c with u | ⟨_,_,_,u⟩
   ·rw[if_pos u];simp[c]
   ·omega
 | f+1,0,n,h1,h2,h3,h4,h5=>by
  unfold oF
  by_cases c:n=k
  ·rw[if_pos c];simp[c]
  ·rw[if_neg c]
   rcases hc n h1 h2 h3 c with u | ⟨_,_,_,u⟩
   ·rw[if_pos u];simp[c]
   ·omega
 | f+1,g+1,n,h1,h2,h3,h4,h5=>by
  unfold oF
  by_cases c:n=k
  ·rw[if_pos c,if_pos c]
  ·rw[if_neg c,if_neg c]
   by_cases c2:s.up n=n
   ·rw[if_pos c2,if_pos c2]
   ·rw[if_neg c2,if_neg c2]
    rcases hc n h1 h2 h3 c with u | ⟨u1,u2,u3,u4⟩
    ·exact absurd u c2
    ·exact oC hc f g _ u1 u2 u3 (by omega) (by omega)
theorem Ef(d:Int→Nat)(s:FF)(k:Int):Di d s k k=true:=by
 unfold Di
 cases d k with
 | zero=>simp[oF]
 | succ f=>simp[oF]
theorem wQ{s:FF}{d:Int→Nat}{k n:Int}(hc:s.Ch d k)(h1:0≤n)(h2:n<40)(h3:s.kind n=2)(h4:n≠k):Di d s n k=if s.up n=n then false else Di d s (s.up n) k:=by
 unfold Di
 rw[oC hc (d n) (d n+1) n h1 h2 h3 (by omega) (by omega)]
 conv=>lhs;unfold oF
 rw[if_neg h4]
 by_cases c2:s.up n=n
 ·rw[if_pos c2,if_pos c2]
 ·rw[if_neg c2,if_neg c2]
  rcases hc n h1 h2 h3 h4 with u | ⟨u1,u2,u3,u4⟩
  ·exact absurd u c2
  ·exact oC hc _ _ _ u1 u2 u3 (by omega) (by omega)
theorem fu.ch{s:FF}{d:Int→Nat}{k:Int}(h:s.fu d k (-1)):s.Ch d k:=fun n h1 h2 h3 h4=>by
 rcases h.up n h1 h2 h3 h4 (by omega)with g | ⟨g1,g2,g3,_,g5⟩
 ·exact .inl g.2
 ·exact .inr ⟨g1,g2,g3,g5⟩
def me(d:Int→Nat)(s:FF)(k to:Int):Int→Nat:=fun x=>d x+(if Di d s x k=true then d to+1 else 0)
theorem fu.NU{s:FF}{d:Int→Nat}{k to:Int}(h:s.fu d k (-1))(h1:0≤k)(h2:k<40)(h3:s.kind k=2)(h4:0≤to)(h5:to<40)(h6:s.kind to=2)(hu:Di d s to k=false):fu {s with up:=aa s.up k to} (me d s k to) k (-1)∧me d s k to to<me d s k to k:=by
 have c0:s.il k=0:=by
  have a:=(h.num k h1 h2).2
  have b:=h.dir k h1 h2 h3 (by omega)
  rw[if_pos rfl]at a
  omega
 have hc:=h.ch
 have hup:∀ m,aa s.up k to m=if m=k then to else s.up m:=fun m=>rfl
 refine⟨⟨h.kinds,h.rise,h.nok,fun n a b j hj=> ?_,h.data,⟨h.roots.1,fun r hr=> ?_⟩,fun n a b c hk hq=> ?_,h.num,h.zero,h.pos,h.dir⟩,?_⟩
 ·have hj':j∈s.kids n:=hj
  obtain⟨g1,g2,g3,g4,g5⟩:=h.kids n a b j hj'
  have hjk:j≠k:=fun e=>by subst e;have:=uL ⟨a,b⟩ hj';omega
  refine⟨g1,g2,g3,g4,fun g=> ?_⟩
  obtain⟨g6,g7⟩:=g5 g
  refine⟨by show aa s.up k to j=n;rw[hup,if_neg hjk];exact g6,?_⟩
  have e:=wQ hc g1 g2 g hjk
  have hnj:¬n=j:=fun e=>by rw[e]at g7;omega
  rw[g6,if_neg hnj]at e
  unfold me
  rw[e]
  omega
 ·have hr':r∈s.roots:=hr
  obtain⟨g1,g2,g3,g4⟩:=h.roots.2 r hr'
  have:r≠k:=fun e=>by subst e;have:=qN hr';omega
  exact⟨g1,g2,g3,by show aa s.up k to r=r;rw[hup,if_neg this];exact g4⟩
 ·show(n∈s.roots∧aa s.up k to n=n)∨(0≤aa s.up k to n∧aa s.up k to n<40∧s.kind (aa s.up k to n)=2∧n∈s.kids (aa s.up k to n)∧me d s k to (aa s.up k to n)<me d s k to n)
  rw[hup,if_neg hk]
  rcases h.up n a b c hk hq with g | ⟨g1,g2,g3,g4,g5⟩
  ·exact .inl g
  ·refine .inr ⟨g1,g2,g3,g4,?_⟩
   have e:=wQ hc a b c hk
   have hne:¬s.up n=n:=fun e=>by rw[e]at g5;omega
   rw[if_neg hne]at e
   unfold me
   rw[e]
   omega
 ·unfold me
  rw[hu,Ef]
  simp
  omega
structure Ok (s:FF) (d:Int→Nat) (B:Int):Prop where
 inv:s.Inv d
 held:∀ n,0≤n→n<40→s.held n≤B
 nn:0≤B
theorem Ok.sh{s:FF}{d:Int→Nat}{B:Int}(h:s.Ok d B)(hB:B≤1000000):s.Sh:=h.inv.sh fun n a b=>Int.le_trans (h.held n a b) hB
theorem qZ(s:FF):∀ k:Nat,k≤40→s.mj k= -1∨(40-(k:Int)≤s.mj k∧s.mj k<40∧s.kind (s.mj k)=0)
 | 0,_=>.inl rfl
 | k+1,h=>by
  unfold mj
  split
  ·rename_i c;exact .inr ⟨by omega,by omega,c⟩
  ·rcases qZ s k (by omega)with g | ⟨g1,g2,g3⟩
   ·exact .inl g
   ·exact .inr ⟨by omega,g2,g3⟩
theorem AL{s:FF}(h:¬s.free<0):0≤s.free∧s.free<40∧s.kind s.free=0:=by
 have:=qZ s 40 (Nat.le_refl _)
 unfold free at h ⊢
 rcases this with g | ⟨g1,g2,g3⟩
 ·omega
 ·exact⟨by omega,g2,g3⟩
section
variable {s:FF} {d:Int→Nat} {B:Int}
theorem Ok.pG(h:s.Ok d B):∃ d',s.pG.Ok d' (B+1):=by
 have hn:=h.nn
 unfold FF.pG
 split
 ·rename_i c
  unfold jw at c
  split at c
  ·omega
  ·split at c
   ·omega
   ·rename_i c1 c2
    obtain⟨f1,f2,f3⟩:=AL c2
    have hr:=h.inv.roots.1
    have h1:=h.inv.fresh (k:=2) (t:=(s.roots.length:Int)) (u:=s.free) f1 f2 f3 (.inr rfl) 0
    have h2:=h1.root f1 f2 (ae _ _ _) (ae _ _ _) (show s.roots.length<4 by omega)
    refine⟨_,h2,fun n a b=> ?_,by omega⟩
    show aa s.held s.free 0 n≤_
    unfold aa;split
    ·omega
    ·have:=h.held n a b;omega
 ·exact⟨d,h.inv,fun n a b=>by have:=h.held n a b;omega,by omega⟩
theorem Hq{s:FF}{n:Int}{x:ByteArray}(h:s.xt n x=0):s.cx n 2=0∧qC x=true∧iY (s.names n) x=false∧(s.names n).length≠8:=by
 unfold xt at h
 split at h
 ·omega
 ·split at h
  ·omega
  ·split at h
   ·omega
   ·split at h
    ·omega
    ·refine⟨by omega,?_,?_,by assumption⟩
     ·cases c:qC x with
      | true=>rfl
      | false=>contradiction
     ·cases c:iY (s.names n) x with
      | false=>rfl
      | true=>contradiction
theorem zM{s:FF}{n:Int}{x:ByteArray}(h:s.gY n x=0):s.cx n 2=0∧iY (s.names n) x=true∧s.dM n x=ep (s.kids n) (cF (s.names n) x):=by
 have h2:=h
 unfold gY at h
 split at h
 ·omega
 ·split at h
  ·exact⟨by omega,by assumption,by unfold dM;rw[if_pos h2]⟩
  ·omega
theorem Ok.eb(h:s.Inv d){n:Int}{x:ByteArray}(h0:s.gY n x=0):0≤n∧n<40∧s.kind n=2∧s.dM n x∈s.kids n∧iY (s.names n) x=true∧ep (s.kids n) (cF (s.names n) x)=s.dM n x:=by
 obtain⟨a,b,c⟩:=zM h0
 obtain⟨i1,i2,i3,i4⟩:=ly a
 obtain⟨r1,r2,r3,r4⟩:=h.rise n i1 i2
 obtain⟨p1,p2⟩:=gW.1 b
 refine⟨i1,i2,i4 (by omega),?_,b,c.symm⟩
 rw[c]
 have:=jo (l:=s.kids n) (p:=cF (s.names n) x) (by omega)
 simpa [ep]using this
theorem Ok.hold(h:s.Ok d B)(n:Int):(s.hold n).Ok d (B+1):=by
 have hn:=h.nn
 unfold FF.hold
 split
 ·rename_i c
  obtain⟨i1,i2,i3⟩:=po c
  have hhe:∀ m,aa s.held n (s.held n+1) m=if m=n then s.held n+1 else s.held m:=fun m=>rfl
  have a0:=(h.inv.num n i1 i2).1
  refine⟨⟨h.inv.kinds,h.inv.rise,h.inv.nok,h.inv.kids,h.inv.data,h.inv.roots,h.inv.up,fun m a b=> ?_,fun m a b c=> ?_,fun m a b c e=> ?_,h.inv.dir⟩,fun m a b=> ?_,by omega⟩
  ·obtain⟨a1,a2⟩:=h.inv.num m a b
   refine⟨?_,a2⟩
   show 0≤aa s.held n _ m
   rw[hhe];split<;>omega
  ·obtain⟨b1,b2⟩:=h.inv.zero m a b c
   have:m≠n:=fun e=>by subst e;exact i3 c
   exact⟨b1,by show aa s.held n _ m=0;rw[hhe,if_neg this];exact b2⟩
  ·show 0<s.links m∨0<aa s.held n _ m
   rw[hhe];split
   ·omega
   ·exact h.inv.pos m a b c e
  ·show aa s.held n _ m≤_
   have:=h.held m a b
   have:=h.held n i1 i2
   rw[hhe];split<;>omega
 ·exact⟨h.inv,fun n a b=>by have:=h.held n a b;omega,by omega⟩
theorem Ok.gU(h:s.Ok d B)(n:Int):(s.gU n).Ok d (B+1):=by
 have hn:=h.nn
 unfold FF.gU
 split
 ·rename_i c
  unfold letE at c
  split at c
  ·omega
  ·split at c
   ·omega
   ·rename_i c0 c1
    obtain⟨i1,i2,i3⟩:=po (show s.cx n 0=0 by omega)
    have a0:=(h.inv.num n i1 i2).1
    have hhe:∀ m,aa s.held n (s.held n-1) m=if m=n then s.held n-1 else s.held m:=fun m=>rfl
    have hw:=h.inv.Lb n
    have h2:fu {s with held:=aa s.held n (s.held n-1)} d (-1) n:=⟨hw.kinds,hw.rise,hw.nok,hw.kids,hw.data,hw.roots,hw.up,fun m a b=>by
      obtain⟨a1,a2⟩:=hw.num m a b
      refine⟨?_,a2⟩
      show 0≤aa s.held n _ m
      rw[hhe];split<;>omega,fun m a b c=>by
      obtain⟨b1,b2⟩:=hw.zero m a b c
      have:m≠n:=fun e=>by subst e;exact i3 c
      exact⟨b1,by show aa s.held n _ m=0;rw[hhe,if_neg this];exact b2⟩,fun m a b c e=>by
      show 0<s.links m∨0<aa s.held n _ m
      rw[hhe,if_neg e]
      exact hw.pos m a b c e,hw.dir⟩
    have hb:∀ m,0≤m→m<40→aa s.held n (s.held n-1) m≤B+1:=fun m a b=>by
     have h1:=h.held m a b
     have h3:=h.held n i1 i2
     rw[hhe];split<;>omega
    unfold mn
    split
    ·rename_i c2
     have g0:s.kind n≠2:=fun g=>by
      have g1:=h.inv.dir n i1 i2 g (by omega)
      have g2:s.links n=0:=c2.1
      omega
     have h3:=h2.NM i1 i2 c2.1 c2.2 (h.inv.Ez i1 i2 g0).1
     refine⟨h3,fun m a b=> ?_,by omega⟩
     show aa (aa s.held n (s.held n-1)) n 0 m≤_
     have:=hb m a b
     rw[show aa (aa s.held n (s.held n-1)) n 0 m=if m=n then 0 else aa s.held n (s.held n-1) m from rfl]
     split<;>omega
    ·rename_i c2
     have a4:=(h.inv.num n i1 i2).2
     rw[if_neg (show ¬n=(-1:Int) by omega)]at a4
     have a5:¬(s.links n=0∧aa s.held n (s.held n-1) n=0):=c2
     rw[ae]at a5
     refine⟨⟨h2.kinds,h2.rise,h2.nok,h2.kids,h2.data,h2.roots,h.inv.up,h2.num,h2.zero,fun m a b c _=> ?_,h.inv.dir⟩,hb,by omega⟩
     by_cases e:m=n
     ·subst e
      show 0<s.links m∨0<aa s.held m _ m
      rw[ae]
      omega
     ·exact h2.pos m a b c e
 ·exact⟨h.inv,fun n a b=>by have:=h.held n a b;omega,by omega⟩
theorem Ok.data(h:s.Ok d B){n:Int}(hk:s.kind n=1)(x:ByteArray)(hx:x.size≤40):Ok {s with data:=aa s.data n x} d (B+1):=by
 have hn:=h.nn
 refine⟨⟨h.inv.kinds,h.inv.rise,h.inv.nok,h.inv.kids,fun m a b=> ?_,h.inv.roots,h.inv.up,h.inv.num,h.inv.zero,h.inv.pos,h.inv.dir⟩,fun m a b=>by have:=h.held m a b;show s.held m≤_;omega,by omega⟩
 show(aa s.data n x m).size≤40∧(s.kind m≠1→aa s.data n x m=ByteArray.empty)
 rw[show aa s.data n x m=if m=n then x else s.data m from rfl]
 split
 ·rename_i c;subst c;exact⟨hx,fun q=>absurd hk q⟩
 ·exact h.inv.data m a b
theorem Ok.Ny(h:s.Ok d B):s.Ok d (B+1):=⟨h.inv,fun n a b=>by have:=h.held n a b;omega,by have:=h.nn;omega⟩
theorem nB(x:ByteArray)(a:Nat)(y:ByteArray):(IS x a y).size=max x.size (a+y.size):=by
 unfold IS;rw[←ByteArray.size_data];simp
theorem Ok.write(h:s.Ok d B)(n a:Int)(x:ByteArray):(s.write n a x).Ok d (B+1):=by
 unfold FF.write
 split
 ·rename_i c
  obtain⟨c,_⟩:=c
  unfold b7 at c
  split at c
  ·omega
  ·split at c
   ·omega
   ·split at c
    ·omega
    ·obtain⟨i1,i2,_,i4⟩:=ly (show s.cx n 1=0 by omega)
     refine h.data (i4 (by omega)) _ ?_
     rw[nB]
     have:=(h.inv.data n i1 i2).1
     omega
 ·exact h.Ny
theorem Ok.move(h:s.Ok d B)(n:Int)(x:ByteArray)(to:Int)(y:ByteArray):∃ d',(s.move d n x to y).Ok d' (B+1):=by
 have hn:=h.nn
 unfold FF.move
 split
 ·exact⟨d,h.Ny⟩
 ·rename_i c
  have hb:∀ m,0≤m→m<40→s.held m≤B+1:=fun m a b=>by have:=h.held m a b;omega
  have c':s.qF d n x to=0:=by omega
  unfold qF at c'
  split at c'
  ·omega
  ·split at c'
   ·omega
   ·split at c'
    ·omega
    ·split at c'
     ·omega
     ·rename_i c0 c1 c2 c3
      obtain⟨i1,i2,i3,i4,i5,i6⟩:=Ok.eb h.inv (show s.gY n x=0 by omega)
      obtain⟨k1,k2,k3,k4,k5⟩:=h.inv.kids n i1 i2 _ i4
      have h1:=h.inv.cut (k:=s.dM n x) i1 i2 i5 i6
      obtain⟨r1,r2,r3,r4⟩:=h.inv.rise n i1 i2
      split
      ·refine⟨d,?_,fun m a b=>hb m a b,by omega⟩
       have e:=Lv r1 i5 r2
       rw[i6]at e
       rw[e]
       exact h.inv
      ·rename_i c4
       obtain⟨a1,a2,a3,a4⟩:=Hq (show(s.dc n x).xt to y=0 by omega)
       obtain⟨t1,t2,_,t4⟩:=ly a1
       have t5:s.kind to=2:=t4 (by omega)
       have hlen:((s.dc n x).names to).length<8:=by have:=(h1.rise to t1 t2).2.2.1;omega
       split
       ·rename_i c5
        have hu:Di d (s.dc n x) to (s.dM n x)=false:=by
         have e:Di d (s.dc n x) to (s.dM n x)=Di d s to (s.dM n x):=qS (s:=s) (t:=s.dc n x) rfl _ _ _
         rw[e]
         cases g:Di d s to (s.dM n x)with
         | false=>rfl
         | true=>exact absurd ⟨c5,g⟩ c3
        obtain⟨g1,g2⟩:=h1.NU k1 k2 c5 t1 t2 t5 hu
        have h3:=g1.put (n:=to) (x:=y) t1 t2 t5 a3 hlen a2 ⟨k1,k2,k3⟩ (show s.tree (s.dM n x)=s.tree to by omega) (fun _=>⟨ae _ _ _,g2⟩)
        exact⟨_,h3,fun m a b=>hb m a b,by omega⟩
       ·rename_i c5
        have h3:=h1.put (n:=to) (x:=y) t1 t2 t5 a3 hlen a2 ⟨k1,k2,k3⟩ (show s.tree (s.dM n x)=s.tree to by omega) (fun g=>absurd g c5)
        exact⟨d,h3,fun m a b=>hb m a b,by omega⟩
theorem w6:void.Ok (fun _=>0) 0:=by
 have hc:∀ k,void.il k=0:=fun k=>by
  have:∀ N,nj (fun _=>[]) k N=0:=fun N=>by
   induction N with
   | zero=>rfl
   | succ N ih=>unfold nj;rw[ih];rfl
  show nj (fun _=>[]) k 40+([]:List Int).count k=0
  rw[this];rfl
 refine⟨⟨fun _ _ _=>.inl rfl,fun _ _ _=>⟨dV.nil,rfl,by simp[void],fun _=>rfl⟩,fun _ _ _ x hx=>by simp[void]at hx,fun _ _ _ k hk=>by simp[void]at hk,fun _ _ _=>⟨by simp[void],fun _=>rfl⟩,⟨by simp[void],fun r hr=>by simp[void]at hr⟩,fun _ _ _ c=>by simp[void]at c,fun m a b=>⟨by simp[void],?_⟩,fun _ _ _ _=>⟨rfl,rfl⟩,fun _ _ _ c=>absurd rfl c,fun _ _ _ c=>by simp[void]at c⟩,fun _ _ _=>by simp[void],Int.le_refl _⟩
 rw[hc,if_neg (show ¬m=(-1:Int) by omega)];rfl
end
theorem Sh.dc{s:FF}(h:s.Sh){n:Int}{x:ByteArray}(h1:0≤n)(h2:n<40)(hx:iY (s.names n) x=true):(s.dc n x).Sh:=by
 obtain⟨p1,p2⟩:=gW.1 hx
 obtain⟨r1,r2,r3,r4⟩:=h.rise n h1 h2
 have hm:∀ m,(s.dc n x).kids m=if m=n then(s.kids n).eraseIdx (cF (s.names n) x)else s.kids m:=fun m=>rfl
 have hnm:∀ m,(s.dc n x).names m=if m=n then(s.names n).eraseIdx (cF (s.names n) x)else s.names m:=fun m=>rfl
 refine⟨fun m a b=> ?_,fun m a b j hj=> ?_,h.data,h.roots,h.num⟩
 ·rw[hm,hnm]
  by_cases c:m=n
  ·subst c
   rw[if_pos rfl,if_pos rfl,List.length_eraseIdx,if_pos p1,List.length_eraseIdx,if_pos (by omega)]
   exact⟨r1.erase _ p1,by omega,by omega,fun q=>by rw[r4 q];rfl⟩
  ·rw[if_neg c,if_neg c]
   exact h.rise m a b
 ·rw[hm]at hj
  split at hj
  ·rename_i c;subst c;exact h.kids m a b j (List.mem_of_mem_eraseIdx hj)
  ·exact h.kids m a b j hj
theorem Sh.mD{s:FF}(h:s.Sh){n:Int}{x:ByteArray}{k:Int}(h1:0≤n)(h2:n<40)(hn:s.kind n=2)(hx:iY (s.names n) x=false)(hl:(s.names n).length<8)(hk:0≤k∧k<40):(s.mD n x k).Sh:=by
 obtain⟨r1,r2,r3,r4⟩:=h.rise n h1 h2
 have hpl:=kh (s.names n) x
 have hp:cF (s.names n) x≤(s.kids n).length:=by omega
 have hm:∀ m,(s.mD n x k).kids m=if m=n then(s.kids n).insertIdx (cF (s.names n) x) k else s.kids m:=fun m=>rfl
 have hnm:∀ m,(s.mD n x k).names m=if m=n then(s.names n).insertIdx (cF (s.names n) x) x else s.names m:=fun m=>rfl
 refine⟨fun m a b=> ?_,fun m a b j hj=> ?_,h.data,h.roots,h.num⟩
 ·rw[hm,hnm]
  by_cases c:m=n
  ·subst c
   rw[if_pos rfl,if_pos rfl,List.length_insertIdx,if_pos hpl,List.length_insertIdx,if_pos hp]
   exact⟨r1.insert hx,by omega,by omega,fun q=>absurd hn q⟩
  ·rw[if_neg c,if_neg c]
   exact h.rise m a b
 ·rw[hm]at hj
  split at hj
  ·rename_i c;subst c
   rcases(List.mem_insertIdx hp).1 hj with rfl | hj
   ·exact hk
   ·exact h.kids m a b j hj
  ·exact h.kids m a b j hj
theorem Sh.eb{s:FF}(h:s.Sh){n:Int}{x:ByteArray}(h0:s.gY n x=0):0≤n∧n<40∧s.kind n=2∧0≤s.dM n x∧s.dM n x<40∧iY (s.names n) x=true:=by
 obtain⟨a,b,c⟩:=zM h0
 obtain⟨i1,i2,i3,i4⟩:=ly a
 obtain⟨r1,r2,r3,r4⟩:=h.rise n i1 i2
 obtain⟨p1,p2⟩:=gW.1 b
 have:=jo (l:=s.kids n) (p:=cF (s.names n) x) (by omega)
 have h3:=h.kids n i1 i2 (s.dM n x) (by rw[c];simpa [ep]using this)
 exact⟨i1,i2,i4 (by omega),h3.1,h3.2,b⟩
theorem ov{α:Type}(f:Int→α)(z:Int)(a b:α):aa (aa f z a) z b=aa f z b:=by
 funext j;unfold aa;split<;>rfl
theorem HA(s:FF)(z k t l u v:Int):({s.gk z k t l u with up:=aa (s.gk z k t l u).up z v} :FF)=s.gk z k t l v:=by
 unfold gk
 simp only[ov]
end FF
end Go.X.Tr

namespace Go.X.Tr
open Go Go.X
namespace FF
theorem mE(s:FF):∀ (i:Nat),i≤40→(∀ j:Int,0≤j→j<i→s.kind j≠0)→s.mj (40-i)=s.free
 | 0,_,_=>rfl
 | i+1,h,ho=>by
  rw[←mE s i (by omega) (fun j a b=>ho j a (by omega))]
  obtain⟨k,hk⟩:∃ k,40-i=k+1:=⟨39-i,by omega⟩
  rw[hk,show 40-(i+1)=k by omega]
  conv=>rhs;unfold mj
  rw[if_neg]
  have:=ho (i:Int) (by omega) (by omega)
  rw[show(39-(k:Int))=(i:Int) by omega]
  exact this
theorem je{s:FF}{i:Int}(h1:0≤i)(h2:i<40)(ho:∀ j,0≤j→j<i→s.kind j≠0)(hz:s.kind i=0):s.free=i:=by
 have h:=mE s i.toNat (by omega) (fun j a b=>ho j a (by omega))
 rw[←h]
 obtain⟨k,hk⟩:∃ k,40-i.toNat=k+1:=⟨39-i.toNat,by omega⟩
 rw[hk]
 unfold mj
 rw[show(39-(k:Int))=i by omega,if_pos hz]
theorem s5{s:FF}(ho:∀ j,0≤j→j<40→s.kind j≠0):s.free= -1:=by
 have h:=mE s 40 (Nat.le_refl _) (fun j a b=>ho j a (by omega))
 rw[←h];rfl
end FF
theorem iB{α:Type}(l:List α)(i:Nat)(y:α)(h:i<l.length):l.take (i+1)=l.take i++[l.getD i y]:=by
 rw[List.take_add_one,List.getD,List.getElem?_eq_getElem h];rfl
namespace FF
end FF
end Go.X.Tr

namespace Go.X.Tr
open Go Go.X
theorem XQ.mono{P:Program}{ops:Array Oper}{Q:Exit→Act→World→Prop}{n:Fr}{L:PF}{M M':World→Prop}{B:pw}{f:Nat}{l:Array Bool}(hm:∀ w,M w→M' w)(h:XQ P n ops Q B f l L M'):XQ P n ops Q B f l L M:=fun hc a w ha hw hJ=>h hc a w ha (hm w hw) hJ
section
variable {W w:World} {S:Nat→Nat→Prop} {H F:List ax}
theorem mV{z:Int}(h:0≤z∧z<40):ai z.toNat=true:=by show Nat.blt z.toNat 40=true;simp;omega
theorem Dj(x:ax):∀ (L:List ax),bB (x::L) L [x]
 | []=>.nil
 | _::r=>.cons (.there .here) (Dj x r)
theorem XM.Jj{e:TypeId}{s:FC}{z:Int}(hz:0≤z∧z<40)(hp:bB H [.fam ai (s.aD e)] F)(h:XM W S H w):XM W S (vi (s.nP z) (s.nC z) e (s.names z):: .fam (eA ai z.toNat) (s.aD e)::F) w:=by
 have h1:=XM.oO z.toNat (mV hz) (h.perm hp.perm)
 have e1:(s.aD e z.toNat).oW=vi (s.nP z) (s.nC z) e (s.names z):=by
  unfold FC.aD iq.oW
  simp only[show((z.toNat:Nat):Int)=z from by omega]
 rw[e1]at h1
 exact h1
theorem XM.Jg{e:TypeId}{s:FC}{z:Int}(hz:0≤z∧z<40)(hp:bB H [.fam ai (s.aF e)] F)(h:XM W S H w):XM W S (aZ (s.kP z) (s.kC z) e (s.kids z):: .fam (eA ai z.toNat) (s.aF e)::F) w:=by
 have h1:=XM.oO z.toNat (mV hz) (h.perm hp.perm)
 have e1:(s.aF e z.toNat).oW=aZ (s.kP z) (s.kC z) e (s.kids z):=by
  unfold FC.aF iq.oW
  simp only[show((z.toNat:Nat):Int)=z from by omega]
 rw[e1]at h1
 exact h1
theorem BA(e:TypeId)(s t:FC)(z:Int)(hz:0≤z∧z<40)(l:List ByteArray)(p:Option Addr)(c:Nat)(h1:t.names=aa s.names z l)(h2:t.nP=aa s.nP z p)(h3:t.nC=aa s.nC z c):pM (s.aD e) z.toNat ⟨.slice p l.length c,e,1,l.length,strs l⟩=t.aD e:=by
 funext i
 unfold FC.aD
 rw[h1,h2,h3]
 by_cases hi:i=z.toNat
 ·subst hi
  rw[gP]
  simp only[show((z.toNat:Nat):Int)=z from by omega,ae]
 ·rw[gr _ _ hi]
  have hi2:¬(i:Int)=z:=by omega
  simp only[ad _ _ hi2]
theorem Cv(e:TypeId)(s t:FC)(z:Int)(hz:0≤z∧z<40)(l:List Int)(p:Option Addr)(c:Nat)(h1:t.kids=aa s.kids z l)(h2:t.kP=aa s.kP z p)(h3:t.kC=aa s.kC z c):pM (s.aF e) z.toNat ⟨.slice p l.length c,e,1,l.length,ints l⟩=t.aF e:=by
 funext i
 unfold FC.aF
 rw[h1,h2,h3]
 by_cases hi:i=z.toNat
 ·subst hi
  rw[gP]
  simp only[show((z.toNat:Nat):Int)=z from by omega,ae]
 ·rw[gr _ _ hi]
  have hi2:¬(i:Int)=z:=by omega
  simp only[ad _ _ hi2]
theorem XM.EM{e:TypeId}{s:FC}(t:FC){z:Int}{n c:Nat}{p:Option Addr}{l:List ByteArray}(hz:0≤z∧z<40)(hn:n=l.length)(h1:t.names=aa s.names z l)(h2:t.nP=aa s.nP z p)(h3:t.nC=aa s.nC z c)(hp:bB H [.row (.slice p n c) e 1 n (strs l),.fam (eA ai z.toNat) (s.aD e)] F)(h:XM W S H w):XM W S (.fam ai (t.aD e)::F) w:=by
 subst hn
 have h4:=XM.uf (x:=⟨.slice p l.length c,e,1,l.length,strs l⟩) z.toNat (lT _ _) (h.perm hp.perm)
 rw[tM (mV hz),BA e s t z hz l p c h1 h2 h3]at h4
 exact h4
theorem XM.GP{e:TypeId}{s:FC}(t:FC){z:Int}{n c:Nat}{p:Option Addr}{l:List Int}(hz:0≤z∧z<40)(hn:n=l.length)(h1:t.kids=aa s.kids z l)(h2:t.kP=aa s.kP z p)(h3:t.kC=aa s.kC z c)(hp:bB H [.row (.slice p n c) e 1 n (ints l),.fam (eA ai z.toNat) (s.aF e)] F)(h:XM W S H w):XM W S (.fam ai (t.aF e)::F) w:=by
 subst hn
 have h4:=XM.uf (x:=⟨.slice p l.length c,e,1,l.length,ints l⟩) z.toNat (lT _ _) (h.perm hp.perm)
 rw[tM (mV hz),Cv e s t z hz l p c h1 h2 h3]at h4
 exact h4
theorem XM.Mk{e:TypeId}{s:FC}(t:FC){z:Int}(hz:0≤z∧z<40)(h1:t.names=aa s.names z [])(h2:t.nP=aa s.nP z none)(h3:t.nC=aa s.nC z 0)(hp:bB H [.fam ai (s.aD e)] F)(h:XM W S H w):XM W S (.fam ai (t.aD e)::F) w:=by
 have h4:=(XM.pick (Dj _ _) (XM.Jj hz hp h)).dG e 1
 exact XM.EM (s:=s) t (p:=none) (c:=0) (n:=0) (l:=[]) hz rfl h1 h2 h3 (.cons .here (.cons .here (by
  have hq:∀ L:List ax,bB L [] L:=fun L=>.nil
  exact hq _))) h4
theorem XM.M1{e:TypeId}{s:FC}(t:FC){z:Int}(hz:0≤z∧z<40)(h1:t.kids=aa s.kids z [])(h2:t.kP=aa s.kP z none)(h3:t.kC=aa s.kC z 0)(hp:bB H [.fam ai (s.aF e)] F)(h:XM W S H w):XM W S (.fam ai (t.aF e)::F) w:=by
 have h4:=(XM.pick (Dj _ _) (XM.Jg hz hp h)).dG e 1
 exact XM.GP (s:=s) t (p:=none) (c:=0) (n:=0) (l:=[]) hz rfl h1 h2 h3 (.cons .here (.cons .here .nil)) h4
end
def FC.oq(s:FC)(z k t l u:Int):FC:=⟨s.toFF.gk z k t l u,aa s.nP z none,aa s.nC z 0,aa s.kP z none,aa s.kC z 0,s.rP,s.rC⟩
abbrev sY(k t l u:Int):ay.U:=⟨k,t,l,0,ByteArray.empty,u,[],none,0,[],none,0⟩
def rh(k t l u:Int):Array Value:= #[.int .i64 k,.int .i64 t,.int .i64 l,.int .i64 0,.string ⟨#[]⟩,.slice none 0 0,.slice none 0 0,.int .i64 u]
theorem vM(s:FC)(z k t l u:Int)(hz:0≤z∧z<40):0+0+z.toNat*8+8≤321∧bL (ay s) (0+0+z.toNat*8) (rh k t l u).toList=ay (s.oq z k t l u):=
 ay.E7 s (s.oq z k t l u) z hz _ rfl (fun j hj=>by
  have e:ay.un (s.oq z k t l u) z=sY k t l u:=by
   unfold ay.un FC.oq FF.gk
   simp only[ae]
  rw[e]
  match j,hj with
  | 0,_=>rfl
  | 1,_=>rfl
  | 2,_=>rfl
  | 3,_=>rfl
  | 4,_=>rfl
  | 5,_=>rfl
  | 6,_=>rfl
  | 7,_=>rfl
  | j+8,h=>exact absurd h (by omega)) (fun y hy=>by
  unfold ay.un FC.oq FF.gk
  simp only[ad _ _ hy]) rfl
theorem gz(s:FC):0+320<321∧ay s (0+320)= .slice s.rP s.roots.length s.rC:=⟨by omega,by unfold ay;rw[if_neg (by omega),if_pos (by omega)]⟩
theorem sF(s:FC)(l:List Int)(p:Option Addr)(c n:Nat)(hn:n=l.length):0+320<321∧cH (ay s) (0+320) (.slice p n c)=ay {s with roots:=l,rP:=p,rC:=c} :=by
 subst hn
 refine⟨by omega,?_⟩
 funext i
 unfold cH ay
 by_cases hi:i=0+320
 ·rw[if_pos hi,if_neg (by omega),if_pos (by omega)]
 ·rw[if_neg hi]
  by_cases c1:i<320
  ·rw[if_pos c1,if_pos c1];rfl
  ·rw[if_neg c1,if_neg c1,if_neg (by omega),if_neg (by omega)]
theorem wM(k t l u:Int):∀ i,i<8→cellsOf (rh k t l u) i=ay.cell (sY k t l u) i:=fun i h=>match i,h with
 | 0,_=>rfl
 | 1,_=>rfl
 | 2,_=>rfl
 | 3,_=>rfl
 | 4,_=>rfl
 | 5,_=>rfl
 | 6,_=>rfl
 | 7,_=>rfl
 | j+8,h=>absurd h (by omega)
theorem DJ(k t l u:Int):0+8≤8∧bW (ay.cell (sY k t l u)) 0 8= .agg (rh k t l u):=⟨by omega,rfl⟩
def wV:Array Value:=((List.range 321).map (ay FC.void)).toArray
theorem yY:wV.size=321:=by simp[wV]
theorem CL:∀ i,i<321→cellsOf wV i=ay FC.void i:=fun i hi=>by simp[cellsOf,wV,hi]
theorem IU{t:FC}{X:FF}(h:t.toFF=X)(z v:Int):({t with held:=aa t.held z v} :FC).toFF= {X with held:=aa X.held z v} :=by rw[←h]
theorem XM.wZ{W w:World}{S:Nat→Nat→Prop}{H:List ax}(r:Nat→iq)(e:TypeId)(hr:∀ i,r i=⟨.slice none 0 0,e,1,0,[]⟩)(h:XM W S H w):XM W S (.fam ai r::H) w:=by
 have hr0:w.ownsRow 0 e 1 (.slice none 0 0) 0 []:=(h.dG e 1).good.1 (.row (.slice none 0 0) e 1 0 []) (by simp)
 refine⟨⟨fun x hx=> ?_,List.pairwise_cons.2 ⟨fun x hx _ b o h1 h2=> ?_,h.good.2⟩⟩,h.keep,fun x hx hw b o hb=> ?_⟩
 ·rcases List.mem_cons.1 hx with rfl | hx
  ·exact⟨fun i _=>by rw[hr];exact hr0,fun i j b _ _ _ h1 _=>by rw[hr]at h1;cases h1⟩
  ·exact h.good.1 x hx
 ·obtain⟨i,_,hb⟩:=h1;rw[hr]at hb;cases hb
 ·rcases List.mem_cons.1 hx with rfl | hx
  ·obtain⟨i,_,hb⟩:=hb;rw[hr]at hb;cases hb
  ·exact h.mine x hx hw b o hb
theorem XM.Ci{W w:World}{S:Nat→Nat→Prop}{H:List ax}(h:XM W S H w):XM W S (.fam ai (FC.void.aD 9):: .fam ai (FC.void.aF 3)::aZ none 0 3 []::H) w:=
 XM.wZ _ 9 (fun _=>rfl) (XM.wZ _ 3 (fun _=>rfl) (h.dG 3 1))
structure NV where
 kind:Int
 links:Int
 held:Int
 size:Int
def NV.arr(x:NV):Array Value:= #[.int .i64 x.kind,.int .i64 x.links,.int .i64 x.held,.int .i64 x.size]
def NV.zero:NV:=⟨0,0,0,0⟩
def ur(x:NV)(i:Nat):Value:=if i=0 then .int .i64 x.kind else if i=1 then .int .i64 x.links else if i=2 then .int .i64 x.held else if i=3 then .int .i64 x.size else undef
theorem BV(x:NV):∀ i,i<4→cellsOf x.arr i=ur x i:=fun i h=>match i,h with
 | 0,_=>rfl
 | 1,_=>rfl
 | 2,_=>rfl
 | 3,_=>rfl
 | j+4,h=>absurd h (by omega)
theorem uA(x:NV):0+4≤4∧bW (ur x) 0 4= .agg x.arr:=⟨by omega,rfl⟩
theorem xF(y x:NV):0+4≤4∧bL (ur y) 0 x.arr.toList=ur x:=by
 refine⟨by omega,?_⟩
 funext i
 match i with
 | 0=>rfl
 | 1=>rfl
 | 2=>rfl
 | 3=>rfl
 | k+4=>simp[bL,cH,NV.arr,ur]
def FF.Mb(s:FF)(n:Int):NV:=if s.cx n 0=0 then⟨s.kind n,s.links n,s.held n,max ((s.data n).size:Int) ((s.kids n).length:Int)⟩else NV.zero
def AG(u:ay.U):Array Value:= #[.int .i64 u.kind,.int .i64 u.tree,.int .i64 u.links,.int .i64 u.held,.string u.data,.slice u.nP u.names.length u.nC,.slice u.kP u.kids.length u.kC,.int .i64 u.up]
theorem Bl(s:FC)(z:Int)(h:0≤z∧z<40):0+0+z.toNat*8+8≤321∧bW (ay s) (0+0+z.toNat*8) 8= .agg (AG (ay.un s z)):=by
 refine⟨by omega,?_⟩
 have q:=ay.at_ s z h
 simp only[bW,List.range,List.range.loop,List.map_cons,List.map_nil]
 rw[q 0 (by omega),q 1 (by omega),q 2 (by omega),q 3 (by omega),q 4 (by omega),q 5 (by omega),q 6 (by omega),q 7 (by omega)]
 rfl
theorem Gb(u0 u:ay.U):0+8≤8∧bL (ay.cell u0) 0 (AG u).toList=ay.cell u:=by
 refine⟨by omega,?_⟩
 funext i
 match i with
 | 0=>rfl
 | 1=>rfl
 | 2=>rfl
 | 3=>rfl
 | 4=>rfl
 | 5=>rfl
 | 6=>rfl
 | 7=>rfl
 | k+8=>
  have e1:∀ u:ay.U,ay.cell u (k+8)=undef:=fun u=>by unfold ay.cell;iterate 8 rw[if_neg (by omega)]
  have e2:bL (ay.cell u0) 0 (AG u).toList (k+8)=ay.cell u0 (k+8):=by simp[bL,cH,AG]
  rw[e2,e1,e1]
theorem Ie(u:ay.U):0+0<8∧ay.cell u (0+0)= .int .i64 u.kind:=⟨by omega,rfl⟩
theorem I6(u:ay.U):0+2<8∧ay.cell u (0+2)= .int .i64 u.links:=⟨by omega,rfl⟩
theorem HY(u:ay.U):0+3<8∧ay.cell u (0+3)= .int .i64 u.held:=⟨by omega,rfl⟩
theorem He(u:ay.U):0+4<8∧ay.cell u (0+4)= .string u.data:=⟨by omega,rfl⟩
theorem IP(u:ay.U):0+6<8∧ay.cell u (0+6)= .slice u.kP u.kids.length u.kC:=⟨by omega,rfl⟩
theorem KR(l:List UInt8)(i:Nat)(h:i<(ByteArray.mk l.toArray).size)(h2:i<l.length):(ByteArray.mk l.toArray)[i]'h=l[i]'h2:=rfl
theorem JT(d:ByteArray)(a:Nat)(x:ByteArray)(i:Nat)(h:i<(IS d a x).size):(IS d a x)[i]=if a≤i∧i<a+x.size then x.get! (i-a)else if i<d.size then d.get! i else 0:=by
 have hs:=FF.nB d a x
 refine(KR _ i h (by rw[List.length_map,List.length_range];omega)).trans ?_
 rw[List.getElem_map,List.getElem_range]
theorem za{x:ByteArray}{j:Nat}(h:j<x.size):(x.data.toList.map bv)[j]? =some (bv (x.get! j)):=by
 rw[List.getElem?_map]
 have h2:j<x.data.toList.length:=by rw[Array.length_toList];exact h
 rw[List.getElem?_eq_getElem h2]
 show some (bv (x.data.toList[j]))=some (bv (x.data[j]!))
 rw[Array.getElem_toList,getElem!_pos x.data j h]
theorem zA(x:ByteArray):(x.data.toList.map bv).length=x.size:=by rw[List.length_map,Array.length_toList];rfl
theorem Gh(d:ByteArray)(a:Nat)(x:ByteArray)(i:Nat)(h:i<(IS d a x).size):bL (bL (fun _=>bv 0) 0 (d.data.toList.map bv)) a (x.data.toList.map bv) i=bv (IS d a x)[i]:=by
 rw[JT]
 by_cases c1:i<a
 ·rw[ef _ _ _ _ c1,if_neg (by omega)]
  by_cases c2:i<d.size
  ·rw[if_pos c2]
   have:=da (d.data.toList.map bv) (fun _=>bv 0) 0 i _ (za c2)
   rwa[Nat.zero_add]at this
  ·rw[if_neg c2,eH _ _ _ _ (by rw[zA];omega)]
 ·by_cases c3:i<a+x.size
  ·rw[if_pos ⟨by omega,c3⟩]
   have:=da (x.data.toList.map bv) (bL (fun _=>bv 0) 0 (d.data.toList.map bv)) a (i-a) _ (za (x:=x) (j:=i-a) (by omega))
   rwa[show a+(i-a)=i by omega]at this
  ·rw[if_neg (by omega),eH _ _ _ _ (by rw[zA];omega)]
   by_cases c2:i<d.size
   ·rw[if_pos c2]
    have:=da (d.data.toList.map bv) (fun _=>bv 0) 0 i _ (za c2)
    rwa[Nat.zero_add]at this
   ·rw[if_neg c2,eH _ _ _ _ (by rw[zA];omega)]
end Go.X.Tr

namespace Go.X.Tr
open Go Go.X
end Go.X.Tr

namespace Go.X.Tr
open Go Go.X
namespace FF
theorem yL(s:FF)(n:Int):(s.mn n).roots=s.roots:=by unfold mn;split<;>rfl
theorem iR(s:FF)(n:Int):(s.gU n).roots=s.roots:=by
 unfold gU;split
 ·rw[yL]
 ·rfl
theorem vN(s:FF)(n a:Int)(x:ByteArray):(s.write n a x).roots=s.roots:=by unfold write;split<;>rfl
end FF
end Go.X.Tr

namespace Go.X.Tr
open Go Go.X
namespace FF
structure Way (s:FF) (d:Int→Nat) (a k:Int):Prop where
 nn:0≤k
 gg:0≤a∧a<40
 dir:s.kind a=2
 list:∃ L:List Int,(L.length:Int)=k∧L.Nodup∧∀ z∈L,(0≤z∧z<40)∧d a<d z
theorem Way.start{s:FF}{d:Int→Nat}{n:Int}(h1:0≤n)(h2:n<40)(h:s.kind n=2):s.Way d n 0:=⟨by omega,⟨h1,h2⟩,h,[],rfl,List.nodup_nil,fun z hz=>by cases hz⟩
theorem Way.step{s:FF}{d:Int→Nat}{a k:Int}(h:s.Way d a k):((a::h.list.choose).length:Int)=k+1∧(a::h.list.choose).Nodup∧∀ z∈a::h.list.choose,0≤z∧z<40:=by
 obtain⟨l1,l2,l3⟩:=h.list.choose_spec
 refine⟨by rw[List.length_cons];omega,List.nodup_cons.2 ⟨fun q=> ?_,l2⟩,fun z hz=> ?_⟩
 ·have:=(l3 a q).2;omega
 ·rcases List.mem_cons.1 hz with rfl | hz
  ·exact h.gg
  ·exact(l3 z hz).1
theorem Way.next{s:FF}{d:Int→Nat}{a k:Int}(hI:s.Inv d)(h:s.Way d a k)(hu:s.up a≠a):s.Way d (s.up a) (k+1)∧d (s.up a)<d a:=by
 have hk:=h.nn
 rcases hI.up a h.gg.1 h.gg.2 h.dir (by have:=h.gg;omega) (by have:=h.gg;omega)with g | ⟨g1,g2,g3,g4,g5⟩
 ·exact absurd g.2 hu
 ·obtain⟨l1,l2,l3⟩:=h.step
  refine⟨⟨by omega,⟨g1,g2⟩,g3,a::h.list.choose,l1,l2,fun z hz=>⟨l3 z hz,?_⟩⟩,g5⟩
  rcases List.mem_cons.1 hz with rfl | hz
  ·exact g5
  ·have:=(h.list.choose_spec.2.2 z hz).2;omega
end FF
end Go.X.Tr

namespace Go.X.Tr
open Go Go.X
structure OS where
 kind:Int→Int
 n:Int→Int
 at_:Int→Int
 refs:Int→Int
 write:Int→Bool
namespace OS
def is(s:OS)(n:Int):Int:=if n<0∨24≤n then 1 else if s.refs n=0 then 2 else 0
def jC(s:OS):Nat→Int
 | 0=> -1
 | k+1=>if 0≤jC s k then jC s k else if s.refs (k:Int)=0 then(k:Int)else-1
def first(s:OS):Int:=jC s 24
def dN(s:OS)(m:Int):Nat→List Int
 | 0=>[]
 | k+1=>if s.refs (k:Int)=0∧((dN s m k).length:Int)<m then dN s m k++[(k:Int)]else dN s m k
def lay(s:OS)(z k n:Int)(w:Bool):OS:=⟨aa s.kind z k,aa s.n z n,aa s.at_ z 0,aa s.refs z 1,aa s.write z w⟩
def GS(s:OS)(z:Int):OS:=⟨aa s.kind z 0,aa s.n z 0,aa s.at_ z 0,aa s.refs z 0,aa s.write z false⟩
def move(s:OS)(z d:Int):OS:= {s with at_:=aa s.at_ z (s.at_ z+d)}
def void:OS:=⟨fun _=>0,fun _=>0,fun _=>0,fun _=>0,fun _=>false⟩
structure Inv (s:OS) (J:Int):Prop where
 refs:∀ n,0≤n→n<24→0≤s.refs n∧s.refs n≤J
 at_:∀ n,0≤n→n<24→0≤s.at_ n∧s.at_ n≤40
 kind:∀ n,0≤n→n<24→s.refs n≠0→s.kind n=1∨s.kind n=2∨s.kind n=3
 write:∀ n,0≤n→n<24→s.kind n≠1→s.write n=false
theorem yW{s:OS}{n:Int}(h:s.is n=0):0≤n∧n<24∧s.refs n≠0:=by
 unfold is at h
 split at h
 ·omega
 ·split at h
  ·omega
  ·exact⟨by omega,by omega,by assumption⟩
theorem lx(s:OS):∀ k:Nat,(s.jC k= -1∧∀ j:Int,0≤j→j<k→s.refs j≠0)∨(0≤s.jC k∧s.jC k<k∧s.refs (s.jC k)=0∧∀ j:Int,0≤j→j<s.jC k→s.refs j≠0)
 | 0=>.inl ⟨rfl,fun j a b=>by omega⟩
 | k+1=>by
  unfold jC
  rcases lx s k with⟨h1,h2⟩ | ⟨h1,h2,h3,h4⟩
  ·rw[if_neg (by omega)]
   by_cases c:s.refs (k:Int)=0
   ·rw[if_pos c];exact .inr ⟨by omega,by omega,c,fun j a b=>h2 j a (by omega)⟩
   ·rw[if_neg c]
    refine .inl ⟨rfl,fun j a b=> ?_⟩
    by_cases e:j=(k:Int)
    ·subst e;exact c
    ·exact h2 j a (by omega)
  ·rw[if_pos h1];exact .inr ⟨h1,by omega,h3,h4⟩
theorem rI{s:OS}{i:Int}(h1:0≤i)(h2:i<24)(ho:∀ j,0≤j→j<i→s.refs j≠0)(hz:s.refs i=0):s.first=i:=by
 unfold first
 rcases s.lx 24 with⟨h3,h4⟩ | ⟨h3,h4,h5,h6⟩
 ·exact absurd hz (h4 i h1 h2)
 ·rcases Int.lt_trichotomy (s.jC 24) i with c | c | c
  ·exact absurd h5 (ho _ h3 c)
  ·exact c
  ·exact absurd hz (h6 i h1 c)
theorem jL{s:OS}(h:¬s.first<0):0≤s.first∧s.first<24∧s.refs s.first=0:=by
 unfold first at h ⊢
 rcases s.lx 24 with⟨h3,h4⟩ | ⟨h3,h4,h5,h6⟩
 ·omega
 ·exact⟨h3,h4,h5⟩
theorem tE(s:OS)(m:Int):∀ k,(s.dN m k).length≤k
 | 0=>Nat.le_refl _
 | k+1=>by
  have:=tE s m k
  unfold dN;split
  ·rw[List.length_append,List.length_singleton];omega
  ·omega
theorem yw(s:OS)(m:Int){i:Int}(h:0≤i):s.dN m (i+1).toNat=if s.refs i=0∧((s.dN m i.toNat).length:Int)<m then s.dN m i.toNat++[i]else s.dN m i.toNat:=by
 rw[show(i+1).toNat=i.toNat+1 by omega]
 conv=>lhs;unfold dN
 rw[show((i.toNat:Nat):Int)=i by omega]
end OS
def Kd(F:FF)(O:OS)(n:Int):Int:=if F.cx n 1≠0 then F.cx n 1 else if O.first<0 then 4 else 0
def EY(F:FF)(O:OS)(n:Int)(w:Bool):OS:=if Kd F O n=0 then O.lay O.first 1 n w else O
def jx(O:OS)(n:Int):OS:=if O.is n=0 then {O with refs:=aa O.refs n (O.refs n+1)} else O
def gq(O:OS)(n:Int):OS:= {O with refs:=aa O.refs n (O.refs n-1)}
def zQ(O:OS)(n:Int):Prop:=O.is n=0∧¬ 0<O.refs n-1
instance (O:OS) (n:Int):Decidable (zQ O n):=by unfold zQ;infer_instance
def ki(F:FF)(P:PS)(O:OS)(n:Int):Int:=if O.is n≠0 then O.is n else if 0<O.refs n-1 then 0 else if O.kind n=1 then F.letE (O.n n)else(P.gB (O.n n) (decide (O.kind n=3)) (-1)).1
def gG(F:FF)(O:OS)(n:Int):FF:=if zQ O n∧O.kind n=1 then F.gU (O.n n)else F
def eK(P:PS)(O:OS)(n:Int):PS:=if zQ O n∧¬O.kind n=1 then(P.gB (O.n n) (decide (O.kind n=3)) (-1)).2 else P
def eh(O:OS)(n:Int):OS:=if O.is n≠0 then O else if 0<O.refs n-1 then gq O n else O.GS n
def gF(F:FF)(P:PS)(O:OS)(n m:Int):Int:=if O.is n≠0 then O.is n else if O.kind n=3 then 8 else if O.kind n=2 then(P.read (O.n n) m).2.1 else F.ew (O.n n) (O.at_ n) m
def gJ(F:FF)(P:PS)(O:OS)(n m:Int):ByteArray:=if O.is n≠0 then⟨#[]⟩else if O.kind n=3 then⟨#[]⟩else if O.kind n=2 then(P.read (O.n n) m).1 else F.ek (O.n n) (O.at_ n) m
def fL(P:PS)(O:OS)(n m:Int):PS:=if O.is n=0∧O.kind n=2 then(P.read (O.n n) m).2.2 else P
def fM(F:FF)(O:OS)(n m:Int):OS:=if O.is n=0∧¬O.kind n=3∧¬O.kind n=2 then O.move n ((F.ek (O.n n) (O.at_ n) m).size)else O
def dh(F:FF)(P:PS)(O:OS)(n:Int)(x:ByteArray):Int:=if O.is n≠0 then O.is n else if O.kind n=3 then(P.write (O.n n) x).2.1 else if O.kind n=2∨O.write n=false then 8 else F.b7 (O.n n) (O.at_ n) x
def ri(O:OS)(n:Int):Prop:=O.is n=0∧¬O.kind n=3∧¬(O.kind n=2∨O.write n=false)
instance (O:OS) (n:Int):Decidable (ri O n):=by unfold ri;infer_instance
def dt(F:FF)(P:PS)(O:OS)(n:Int)(x:ByteArray):Int:=if O.is n=0∧O.kind n=3 then(P.write (O.n n) x).1 else if ri O n∧F.b7 (O.n n) (O.at_ n) x=0 then(x.size:Int)else 0
def du(P:PS)(O:OS)(n:Int)(x:ByteArray):PS:=if O.is n=0∧O.kind n=3 then(P.write (O.n n) x).2.2 else P
def dg(F:FF)(O:OS)(n:Int)(x:ByteArray):FF:=if ri O n then F.write (O.n n) (O.at_ n) x else F
def dv(F:FF)(O:OS)(n:Int)(x:ByteArray):OS:=if ri O n∧F.b7 (O.n n) (O.at_ n) x=0 then O.move n (x.size)else O
theorem OS.db(s:OS)(n:Int):(s.is n=0∧0≤n∧n<24∧¬s.refs n=0)∨(s.is n=1∧(n<0∨24≤n))∨(s.is n=2∧0≤n∧n<24∧s.refs n=0):=by
 unfold OS.is;split
 ·exact .inr (.inl ⟨rfl,by assumption⟩)
 ·split
  ·exact .inr (.inr ⟨rfl,by omega,by omega,by assumption⟩)
  ·exact .inl ⟨rfl,by omega,by omega,by assumption⟩
theorem OS.wP(O:OS)(n:Int):(gq O n).GS n=O.GS n:=by
 unfold OS.GS gq
 simp only[FF.ov]
theorem FF.vW{s:FF}(h:s.Sh)(n a m:Int):(s.ek n a m).size≤40∧(0≤a→a≤40→a+((s.ek n a m).size:Int)≤40):=by
 unfold ek
 split
 ·rename_i e
  have e1:s.cx n 1=0∧0≤a∧0≤m:=by
   unfold ew at e
   split at e
   ·omega
   ·split at e
    ·omega
    ·omega
  obtain⟨i1,i2,_⟩:=ly e1.1
  have hd:=h.data n i1 i2
  rw[ByteArray.size_extract]
  omega
 ·exact⟨by simp,fun _ h2=>by simpa using h2⟩
namespace OS
def second(s:OS):Int:=(s.lay s.first 2 0 false).first
theorem vc(s:OS):∀ k:Nat,(s.dN 2 k=[]∧∀ j:Int,0≤j→j<k→s.refs j≠0)∨(∃ a:Int,s.dN 2 k=[a]∧0≤a∧a<k∧s.refs a=0∧∀ j:Int,0≤j→j<k→j≠a→s.refs j≠0)∨
  (∃ a b:Int,s.dN 2 k=[a,b]∧0≤a∧a<b∧b<k∧s.refs a=0∧s.refs b=0∧∀ j:Int,0≤j→j<b→j≠a→s.refs j≠0)
 | 0=>.inl ⟨rfl,fun j a b=>by omega⟩
 | k+1=>by
  unfold dN
  rcases vc s k with⟨h1,h2⟩ | ⟨a,h1,h2,h3,h4,h5⟩ | ⟨a,b,h1,h2,h3,h4,h5,h6,h7⟩
  ·rw[h1]
   by_cases c:s.refs (k:Int)=0
   ·rw[if_pos ⟨c,by simp⟩]
    exact .inr (.inl ⟨k,rfl,by omega,by omega,c,fun j x y z=>h2 j x (by omega)⟩)
   ·rw[if_neg (fun q=>c q.1)]
    refine .inl ⟨rfl,fun j x y=> ?_⟩
    by_cases e:j=(k:Int)
    ·subst e;exact c
    ·exact h2 j x (by omega)
  ·rw[h1]
   by_cases c:s.refs (k:Int)=0
   ·rw[if_pos ⟨c,by simp⟩]
    exact .inr (.inr ⟨a,k,rfl,h2,h3,by omega,h4,c,fun j x y z=>h5 j x (by omega) z⟩)
   ·rw[if_neg (fun q=>c q.1)]
    refine .inr (.inl ⟨a,rfl,h2,by omega,h4,fun j x y z=> ?_⟩)
    by_cases e:j=(k:Int)
    ·subst e;exact c
    ·exact h5 j x (by omega) z
  ·rw[h1,if_neg (fun q=>by have:=q.2;simp at this)]
   exact .inr (.inr ⟨a,b,rfl,h2,h3,by omega,h5,h6,h7⟩)
theorem Dm{s:OS}(h:((s.dN 2 24).length:Int)<2):s.first<0∨s.second<0:=by
 rcases s.vc 24 with⟨h1,h2⟩ | ⟨a,h1,h2,h3,h4,h5⟩ | ⟨a,b,h1,_⟩
 ·left
  refine Decidable.byContradiction fun c=> ?_
  have:=jL c
  exact h2 _ this.1 this.2.1 this.2.2
 ·right
  have e:s.first=a:=rI h2 h3 (fun j x y=>h5 j x (by omega) (by omega)) h4
  refine Decidable.byContradiction fun c=> ?_
  have q:=jL (s:=s.lay s.first 2 0 false) c
  have q3:=q.2.2
  rw[show(s.lay s.first 2 0 false).refs=aa s.refs s.first 1 from rfl,show(s.lay s.first 2 0 false).first=s.second from rfl]at q3
  by_cases z:s.second=a
  ·rw[e,z,ae]at q3;omega
  ·rw[e,ad _ _ z]at q3
   exact h5 _ q.1 q.2.1 z q3
 ·rw[h1]at h;simp at h
theorem Cm{s:OS}(h:¬((s.dN 2 24).length:Int)<2):¬s.first<0∧¬s.second<0∧s.dN 2 24=[s.first,s.second]:=by
 rcases s.vc 24 with⟨h1,h2⟩ | ⟨a,h1,h2,h3,h4,h5⟩ | ⟨a,b,h1,h2,h3,h4,h5,h6,h7⟩
 ·rw[h1]at h;simp at h
 ·rw[h1]at h;simp at h
 ·have e:s.first=a:=rI h2 (by omega) (fun j x y=>h7 j x (by omega) (by omega)) h5
  have e2:s.second=b:=by
   unfold second
   refine rI (by omega) (by omega) (fun j x y=> ?_) ?_
   ·show aa s.refs s.first 1 j≠0
    rw[e]
    by_cases z:j=a
    ·rw[z,ae];omega
    ·rw[ad _ _ z];exact h7 j x y z
   ·show aa s.refs s.first 1 b=0
    rw[e,ad _ _ (by omega)];exact h6
  exact⟨by omega,by omega,by rw[h1,e,e2]⟩
end OS
def eI(P:PS)(O:OS):Int:=if O.first<0∨O.second<0 then 4 else P.make.2.1
def gm(P:PS)(O:OS):PS:=if O.first<0∨O.second<0 then P else P.make.2.2
def gj(P:PS)(O:OS):OS:=if eI P O=0 then(O.lay O.first 2 P.make.1 false).lay O.second 3 P.make.1 false else O
def fH(P:PS)(O:OS):Int:=if eI P O=0 then O.first else 0
def gl(P:PS)(O:OS):Int:=if eI P O=0 then O.second else 0
theorem DA(x y:Int):(ints [x,y])[0+(0:Int).toNat*1]? =some (.int .i64 x):=rfl
theorem Fc(x y:Int):(ints [x,y])[0+(1:Int).toNat*1]? =some (.int .i64 y):=rfl
end Go.X.Tr

namespace Go.X.Tr
open Go Go.X
theorem PS.ER{s:PS}{K:Int}(h:s.Inv K)(hK:0≤K):(s.make).2.2.Inv (K+1):=by
 unfold PS.make
 cases hf:b6 (fun k=>s.e k 0+s.e k 1==0) 8 with
 | none=>exact h.mono (by omega)
 | some k=>
  have hz:s.e k 0+s.e k 1=0:=by
   unfold b6 at hf
   have:=List.find?_some hf
   simpa using this
  refine⟨fun n=> ?_,fun n=> ?_,fun n hn=> ?_,h.len⟩
  ·have:=h.e0 n
   simp only[aI];split<;>(try split)<;>omega
  ·have:=h.e1 n
   simp only[aI];split<;>(try split)<;>omega
  ·simp only[aI]at hn
   by_cases hnk:n=k
   ·subst hnk;exact h.cl _ hz
   ·refine h.cl n ?_
    simpa [hnk]using hn
theorem PS.En{s:PS}{K n d:Int}{w:Bool}(h:s.Inv K)(hd:d=1∨d= -1):(s.gB n w d).2.Inv (K+1):=by
 unfold PS.gB
 by_cases h1:s.is n≠0
 ·rw[if_pos h1];exact h.mono (by omega)
 rw[if_neg h1]
 by_cases h2:s.e n (sZ w)=0
 ·rw[if_pos h2];exact h.mono (by omega)
 rw[if_neg h2]
 have b0:=h.e0
 have b1:=h.e1
 have hw:sZ w=0∨sZ w=1:=by cases w<;>simp[sZ]
 refine⟨fun m=> ?_,fun m=> ?_,fun m hm=> ?_,fun m=> ?_⟩
 ·have c0:=b0 m;have c1:=b1 m
  simp only[aI]
  rcases hw with hw | hw<;>rw[hw]at h2 ⊢ <;>split
  ·rename_i q;obtain⟨rfl,_⟩:=q;omega
  ·omega
  ·rename_i q;simp at q
  ·omega
 ·have c0:=b0 m;have c1:=b1 m
  simp only[aI]
  rcases hw with hw | hw<;>rw[hw]at h2 ⊢ <;>split
  ·rename_i q;simp at q
  ·omega
  ·rename_i q;obtain⟨rfl,_⟩:=q;omega
  ·omega
 ·simp only[aI]at hm
  by_cases hmn:m=n
  ·subst hmn
   have:s.e m 0+s.e m 1+d=0:=by
    rcases hw with hw | hw<;>rw[hw]at hm<;>simp at hm<;>omega
   simp only[this,if_true,aa]
  ·have:s.b m=⟨#[]⟩:=h.cl m (by simpa [hmn]using hm)
   split
   ·simp[aa,hmn,this]
   ·exact this
 ·have:=h.len m
  split
  ·simp only[aa];split
   ·simp[ByteArray.size]
   ·exact this
  ·exact this
theorem PS.D3{s:PS}{K n m:Int}(h:s.Inv K):(s.read n m).2.2.Inv (K+1):=by
 have hh:=h.mono (show K≤K+1 by omega)
 unfold PS.read
 split
 ·exact hh
 ·split
  ·exact hh
  ·split
   ·exact hh
   ·split
    ·exact hh
    ·refine⟨hh.e0,hh.e1,fun j hj=> ?_,fun j=> ?_⟩
     ·have:=h.cl j hj
      simp only[aa];split
      ·rename_i q;subst q;rw[this]
       rw[tO]
       simp[ByteArray.size_extract];simp[ByteArray.size]
      ·exact this
     ·have:=h.len j
      simp only[aa];split
      ·rename_i q;subst q;rw[ByteArray.size_extract];omega
      ·exact this
theorem PS.B1{s:PS}{K n:Int}{t:ByteArray}(h:s.Inv K):(s.write n t).2.2.Inv (K+1):=by
 have hh:=h.mono (show K≤K+1 by omega)
 unfold PS.write
 split
 ·exact hh
 ·split
  ·exact hh
  ·rename_i h1
   split
   ·exact hh
   ·split
    ·exact hh
    ·refine⟨hh.e0,hh.e1,fun j hj=> ?_,fun j=> ?_⟩
     ·have:=h.cl j hj
      simp only[aa];split
      ·rename_i q;subst q
       have:=h.e0 j;have:=h.e1 j
       simp only at hj
       omega
      ·exact this
     ·have:=h.len j
      simp only[aa];split
      ·rename_i q;subst q
       rw[ByteArray.size_append,ByteArray.size_extract]
       omega
      ·exact this
theorem OS.Inv.mono{s:OS}{J J':Int}(h:s.Inv J)(hJ:J≤J'):s.Inv J':=
 ⟨fun n a b=>⟨(h.refs n a b).1,Int.le_trans (h.refs n a b).2 hJ⟩,h.at_,h.kind,h.write⟩
theorem OS.Inv.void:OS.void.Inv 1:=
 ⟨fun _ _ _=>by simp[OS.void],fun _ _ _=>by simp[OS.void],fun n _ _ h=>absurd rfl h,fun _ _ _ _=>rfl⟩
theorem OS.Inv.lay{s:OS}{J:Int}(h:s.Inv J)(hJ:1≤J)(z k n:Int)(w:Bool)(hk:k=1∨k=2∨k=3)(hw:k≠1→w=false):(s.lay z k n w).Inv J:=by
 refine⟨fun y a b=> ?_,fun y a b=> ?_,fun y a b c=> ?_,fun y a b c=> ?_⟩
 ·show 0≤aa s.refs z 1 y∧aa s.refs z 1 y≤J
  by_cases q:y=z
  ·rw[q,ae];omega
  ·rw[ad _ _ q];exact h.refs y a b
 ·show 0≤aa s.at_ z 0 y∧aa s.at_ z 0 y≤40
  by_cases q:y=z
  ·rw[q,ae];omega
  ·rw[ad _ _ q];exact h.at_ y a b
 ·show aa s.kind z k y=1∨aa s.kind z k y=2∨aa s.kind z k y=3
  by_cases q:y=z
  ·rw[q,ae];exact hk
  ·rw[ad _ _ q];refine h.kind y a b ?_
   have c':aa s.refs z 1 y≠0:=c
   rw[ad _ _ q]at c';exact c'
 ·show aa s.write z w y=false
  have c':aa s.kind z k y≠1:=c
  by_cases q:y=z
  ·rw[q,ae]at c' ⊢;exact hw c'
  ·rw[ad _ _ q]at c' ⊢;exact h.write y a b c'
theorem OS.Inv.Jv{s:OS}{J J':Int}(h:s.Inv J)(hJ:J≤J')(n r:Int)(hr:0≤r∧r≤J')(hn:s.refs n≠0):({s with refs:=aa s.refs n r} :OS).Inv J':=by
 refine⟨fun y a b=> ?_,h.at_,fun y a b c=> ?_,h.write⟩
 ·show 0≤aa s.refs n r y∧aa s.refs n r y≤J'
  by_cases q:y=n
  ·rw[q,ae];omega
  ·rw[ad _ _ q];have:=h.refs y a b;omega
 ·refine h.kind y a b ?_
  by_cases q:y=n
  ·rw[q];exact hn
  ·have c':aa s.refs n r y≠0:=c
   rw[ad _ _ q]at c';exact c'
theorem OS.Inv.Om{s:OS}{J:Int}(h:s.Inv J)(n r:Int)(hr:0≤r∧r≤40):({s with at_:=aa s.at_ n r} :OS).Inv J:=by
 refine⟨h.refs,fun y a b=> ?_,h.kind,h.write⟩
 show 0≤aa s.at_ n r y∧aa s.at_ n r y≤40
 by_cases q:y=n
 ·rw[q,ae];omega
 ·rw[ad _ _ q];exact h.at_ y a b
theorem OS.Inv.GS{s:OS}{J:Int}(h:s.Inv J)(hJ:0≤J)(z:Int):(s.GS z).Inv J:=by
 refine⟨fun y a b=> ?_,fun y a b=> ?_,fun y a b c=> ?_,fun y a b c=> ?_⟩
 ·show 0≤aa s.refs z 0 y∧aa s.refs z 0 y≤J
  by_cases q:y=z
  ·rw[q,ae];omega
  ·rw[ad _ _ q];exact h.refs y a b
 ·show 0≤aa s.at_ z 0 y∧aa s.at_ z 0 y≤40
  by_cases q:y=z
  ·rw[q,ae];omega
  ·rw[ad _ _ q];exact h.at_ y a b
 ·show aa s.kind z 0 y=1∨aa s.kind z 0 y=2∨aa s.kind z 0 y=3
  have c':aa s.refs z 0 y≠0:=c
  by_cases q:y=z
  ·rw[q,ae]at c';exact absurd rfl c'
  ·rw[ad _ _ q]at c' ⊢;exact h.kind y a b c'
 ·show aa s.write z false y=false
  have c':aa s.kind z 0 y≠1:=c
  by_cases q:y=z
  ·rw[q,ae]
  ·rw[ad _ _ q]at c' ⊢;exact h.write y a b c'
theorem OS.Inv.node{O:OS}{J:Int}(h:O.Inv J)(hJ:1≤J)(F:FF)(n:Int)(w:Bool):(EY F O n w).Inv (J+1):=by
 unfold EY;split
 ·exact(h.lay hJ _ 1 n w (.inl rfl) (fun q=>absurd rfl q)).mono (by omega)
 ·exact h.mono (by omega)
theorem OS.Inv.pipe{O:OS}{J:Int}(h:O.Inv J)(hJ:1≤J)(P:PS):(gj P O).Inv (J+1):=by
 unfold gj;split
 ·exact((h.lay hJ _ 2 _ false (.inr (.inl rfl)) (fun _=>rfl)).lay hJ _ 3 _ false (.inr (.inr rfl)) (fun _=>rfl)).mono (by omega)
 ·exact h.mono (by omega)
theorem OS.Inv.share{O:OS}{J:Int}(h:O.Inv J)(n:Int):(jx O n).Inv (J+1):=by
 unfold jx;split
 ·rename_i c
  obtain⟨i1,i2,i3⟩:=OS.yW c
  have:=h.refs n i1 i2
  exact h.Jv (by omega) n _ (by omega) i3
 ·exact h.mono (by omega)
theorem OS.Inv.close{O:OS}{J:Int}(h:O.Inv J)(n:Int):(eh O n).Inv (J+1):=by
 have h0:=h.refs 0 (by omega) (by omega)
 unfold eh;split
 ·exact h.mono (by omega)
 ·rename_i c
  obtain⟨i1,i2,i3⟩:=OS.yW (Decidable.not_not.1 c)
  have:=h.refs n i1 i2
  split
  ·exact h.Jv (by omega) n _ (by omega) i3
  ·exact(h.GS (by omega) n).mono (by omega)
theorem OS.Inv.read{O:OS}{J:Int}(h:O.Inv J){F:FF}(hF:F.Sh)(n m:Int):(fM F O n m).Inv (J+1):=by
 unfold fM;split
 ·rename_i c
  obtain⟨i1,i2,i3⟩:=OS.yW c.1
  have h2:=h.at_ n i1 i2
  have h3:=(FF.vW hF (O.n n) (O.at_ n) m).2 h2.1 h2.2
  exact(h.Om n _ (by omega)).mono (by omega)
 ·exact h.mono (by omega)
theorem FF.Da{F:FF}{n a:Int}{x:ByteArray}(h:F.b7 n a x=0):0≤a∧a+x.size≤40:=by
 unfold FF.b7 at h
 split at h
 ·omega
 ·split at h
  ·omega
  ·split at h
   ·omega
   ·omega
theorem OS.Inv.Kc{O:OS}{J:Int}(h:O.Inv J)(F:FF)(n:Int)(x:ByteArray):(dv F O n x).Inv (J+1):=by
 unfold dv;split
 ·rename_i c
  obtain⟨i1,i2,i3⟩:=OS.yW c.1.1
  have h2:=h.at_ n i1 i2
  have h3:=FF.Da c.2
  exact(h.Om n _ (by omega)).mono (by omega)
 ·exact h.mono (by omega)
theorem zl{P:PS}{K:Int}(h:P.Inv K)(hK:0≤K)(O:OS):(gm P O).Inv (K+1):=by
 unfold gm;split
 ·exact h.mono (by omega)
 ·exact PS.ER h hK
theorem yp{P:PS}{K:Int}(h:P.Inv K)(O:OS)(n m:Int):(fL P O n m).Inv (K+1):=by
 unfold fL;split
 ·exact PS.D3 h
 ·exact h.mono (by omega)
theorem wJ{P:PS}{K:Int}(h:P.Inv K)(O:OS)(n:Int)(x:ByteArray):(du P O n x).Inv (K+1):=by
 unfold du;split
 ·exact PS.B1 h
 ·exact h.mono (by omega)
theorem qL{F:FF}{d:Int→Nat}{B:Int}(h:F.Ok d B)(O:OS)(n:Int)(x:ByteArray):(dg F O n x).Ok d (B+1):=by
 unfold dg;split
 ·exact h.write (O.n n) (O.at_ n) x
 ·exact h.Ny
theorem vy(F:FF)(O:OS)(n:Int):(gG F O n).roots=F.roots:=by
 unfold gG;split
 ·exact FF.iR _ _
 ·rfl
theorem sV(F:FF)(O:OS)(n:Int)(x:ByteArray):(dg F O n x).roots=F.roots:=by
 unfold dg;split
 ·exact FF.vN _ _ _ _
 ·rfl
end Go.X.Tr
