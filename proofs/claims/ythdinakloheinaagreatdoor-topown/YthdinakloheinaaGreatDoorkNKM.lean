import Derived.Test.YthdinakloheinaaGreatDoorkNL
import Derived.Test.YthdinakloheinaaGreatDoorkJXCF
import Derived.Lib.SplitLaws
set_option linter.all false
namespace Go.X.Tr
open Go Go.X
theorem Gb(v k:Int):∀ (l:List Int) (i:Nat),i<=l.length->(l.insertIdx i v).count k=l.count k+(if v=k then 1 else 0)
 | l,0,_=>by rw[List.insertIdx_zero,List.count_cons];simp
 | [],i+1,h=>by simp at h
 | x::l,i+1,h=>by
  rw[List.insertIdx_succ_cons,List.count_cons,List.count_cons,Gb v k l i (by simpa using h)];omega
theorem Aj(k:Int):∀ (l:List Int) (i:Nat),i<l.length->(l.eraseIdx i).count k+(if l.getD i 0=k then 1 else 0)=l.count k
 | x::l,0,_=>by rw[List.eraseIdx_cons_zero,List.count_cons];simp
 | x::l,i+1,h=>by
  rw[List.eraseIdx_cons_succ,List.count_cons,List.count_cons,<-Aj k l i (by simpa using h),List.getD_cons_succ];omega
theorem MJ{l:List Int}{i:Nat}{k:Int}(hi:i<l.length)(h:k∈l)(hk:l.getD i 0≠k):k∈l.eraseIdx i:=by
 have h1:=Aj k l i hi;grind
def r6{l:List Int}{p:Nat}(h:p<l.length):l.getD p 0∈l:=by
 simp_all
def Du(f:Int->List Int)(z:Int)(l:List Int)(k:Int):∀ N:Nat,FF.HD (ad f z l) k N+(if 0<=z/\z<N then(f z).count k else 0)=FF.HD f k N+(if 0<=z/\z<N then l.count k else 0)
 | 0=>by rw[if_neg og,if_neg og];rfl
 | N+1=>by
  have ih:=Du f z l k N;unfold FF.HD;grind [ad]
theorem YP(f:Int->List Int)(k:Int){z:Int}{N:Nat}(hz:0<=z/\z<N):(f z).count k<=FF.HD f k N:=by
 have:=Du f z [] k N;grind
def OF(f:Int->List Int)(k:Int)(B:Nat):∀ N:Nat,(∀ n:Nat,n<N->(f (n:Int)).length<=B)->FF.HD f k N<=N*B
 | 0,_=>by simp[FF.HD]
 | N+1,h=>by
  have ih:=OF f k B N fun n hn=>h n og;have h1:=h N og;have h2:=List.count_le_length (a:=k) (l:=f (N:Int));unfold FF.HD;grind
namespace FF
def OG{s t:FF}{z:Int}{l:List Int}(h1:t.kids=ad s.kids z l)(h2:t.roots=s.roots)(hz:0<=z/\z<40)(k:Int):t.Ga k+(s.kids z).count k=s.Ga k+l.count k:=by
 have:=Du s.kids z l k 40;grind [Ga]
theorem Kb{s t:FF}(h1:t.kids=s.kids)(h2:t.roots=s.roots)(k:Int):t.Ga k=s.Ga k:=by grind [Ga]
theorem HE{s:FF}{n k:Int}(hn:0<=n/\n<40)(h:k∈s.kids n):1<=s.Ga k:=by
 grind [YP,Ga]
theorem Kc{s:FF}{k:Int}(h:k∈s.roots):1<=s.Ga k:=by
 grind [Ga]
section
variable {s:FF} {d:Int->Nat} {e q:Int}
def dQ.MK(h:s.dQ d e q){n:Int}(h1:0<=n)(h2:n<40)(hk:s.aN n≠2):s.kids n=[]/\s.aI n=[]:=by
 grind [dQ.js]
def dQ.acu(h:s.dQ d e q)(k:Int):s.Ga k<=324:=by
 have h1:=OF s.kids k 8 40 (fun n hn=>by
  obtain⟨_,a,b,_⟩:=h.js n og og
  omega)
 grind [dQ.roots,Ga]
def dQ.sh(h:s.dQ d e q)(hB:∀ n,0<=n->n<40->s.bj n<=1000000):s.Sh where
 js:=h.js
 kids:=fun n h1 h2 k hk=>⟨(h.kids n h1 h2 k hk).1,(h.kids n h1 h2 k hk).2.1⟩
 data:=fun n h1 h2=>(h.data n h1 h2).1
 roots:=⟨h.roots.1,fun r hr=>⟨(h.roots.2 r hr).1,(h.roots.2 r hr).2.1⟩⟩
 num:=fun n h1 h2=>by
  obtain⟨a,b⟩:=h.num n h1 h2
  have c:=h.acu n
  have e:=hB n h1 h2
  split at b<;>omega
def dQ.ail(h:s.dQ d e q){z:Int}(h1:0<=z)(h2:z<40)(hz:s.aN z=0):s.Ga z=0/\z≠e:=by
 obtain⟨_,b⟩:=h.num z h1 h2;grind [dQ.zero]
theorem dQ.cut(h:s.dQ d (-1) q){n:Int}{x:ByteArray}{k:Int}(h1:0<=n)(h2:n<40)(hx:ph (s.aI n) x=true)(hk:jc (s.kids n) (ey (s.aI n) x)=k):(s.ew n x).dQ d k q:=by
 obtain⟨p1,p2⟩:=ma.1 hx;obtain⟨r1,r2,r3,r4⟩:=h.js n h1 h2;have hp:ey (s.aI n) x<(s.kids n).length:=og;have BU:(s.kids n).getD (ey (s.aI n) x) 0=k:=by simpa [jc]using hk
 have hkr:0<=k:=by
  have:=r6 hp;rw[BU]at this;exact(h.kids n h1 h2 k this).1
 have hm:∀ m,(s.ew n x).kids m=if m=n then(s.kids n).eraseIdx (ey (s.aI n) x)else s.kids m:=fun m=>rfl
 have hnm:∀ m,(s.ew n x).aI m=if m=n then(s.aI n).eraseIdx (ey (s.aI n) x)else s.aI m:=fun m=>rfl
 have sub:∀ m j,j∈(s.ew n x).kids m->j∈s.kids m:=fun m j hj=>by
  grind [List.mem_of_mem_eraseIdx]
 refine⟨h.kinds,fun m a b=> ?_,fun m a b y hy=> ?_,fun m a b j hj=>h.kids m a b j (sub m j hj),h.data,h.roots,fun m a b c fN hnq=> ?_,fun m a b=> ?_,h.zero,h.pos,h.Ka⟩
 ·grind [fk.OE,dQ.js,ew]
 ·grind [dQ.MI,List.mem_of_mem_eraseIdx]
 ·rcases h.up m a b c og hnq with g | ⟨g1,g2,g3,g4,g5⟩;all_goals grind [ew,MJ]
 ·obtain⟨a1,a2⟩:=h.num m a b;have h3:=OG (s:=s) (t:=s.ew n x) (z:=n) rfl rfl ⟨h1,h2⟩ m;grind [Aj,ew]
theorem dQ.put{k:Int}(h:s.dQ d k q){n:Int}{x:ByteArray}(h1:0<=n)(h2:n<40)(hn:s.aN n=2)(hx:ph (s.aI n) x=false)(hl:(s.aI n).length<8)(ok:ki x=true)(hk:0<=k/\k<40/\s.aN k≠0)(ht:s.dD k=s.dD n)(hd:s.aN k=2->s.up k=n/\d n<d k):(s.ti n x k).dQ d (-1) q:=by
 obtain⟨r1,r2,r3,r4⟩:=h.js n h1 h2;have hpl:=ot (s.aI n) x;have hp:ey (s.aI n) x<=(s.kids n).length:=og;have hm:∀ m,(s.ti n x k).kids m=if m=n then(s.kids n).insertIdx (ey (s.aI n) x) k else s.kids m:=fun m=>rfl
 have hnm:∀ m,(s.ti n x k).aI m=if m=n then(s.aI n).insertIdx (ey (s.aI n) x) x else s.aI m:=fun m=>rfl
 refine⟨h.kinds,fun m a b=> ?_,fun m a b y hy=> ?_,fun m a b j hj=> ?_,h.data,h.roots,fun m a b c _ hnq=> ?_,fun m a b=> ?_,h.zero,h.pos,h.Ka⟩
 ·grind [fk.insert,dQ.js,ti]
 ·grind [List.mem_insertIdx,dQ.MI]
 ·rw[hm]at hj;split at hj
  ·rename_i c;subst c;rcases(List.mem_insertIdx hp).1 hj with rfl | hj
   ·grind [ti]
   ·exact h.kids m a b j hj
  ·exact h.kids m a b j hj
 ·by_cases c3:m=k
  ·grind [ti,List.mem_insertIdx]
  ·rcases h.up m a b c c3 hnq with g | ⟨g1,g2,g3,g4,g5⟩;all_goals grind [ti,List.mem_insertIdx]
 ·obtain⟨a1,a2⟩:=h.num m a b;have h3:=OG (s:=s) (t:=s.ti n x k) (z:=n) rfl rfl ⟨h1,h2⟩ m;have h4:=Gb k m (s.kids n) _ hp;grind [ti]
def dQ.fresh(h:s.dQ d (-1) (-1)){z k t u:Int}(h1:0<=z)(h2:z<40)(hz:s.aN z=0)(hk:k=1\/k=2)(N:Nat):(s.jE z k t 1 u).dQ (ad d z N) z (-1):=by
 obtain⟨c0,_⟩:=h.ail h1 h2 hz;obtain⟨k0,n0⟩:=h.MK h1 h2 og;obtain⟨l0,e0⟩:=h.zero z h1 h2 hz;have hm:(s.jE z k t 1 u).kids=s.kids:=cJ _ k0;have hnm:(s.jE z k t 1 u).aI=s.aI:=cJ _ n0;have IA:∀ m,(s.jE z k t 1 u).aN m=if m=z then k else s.aN m:=fun m=>rfl
 have htr:∀ m,(s.jE z k t 1 u).dD m=if m=z then t else s.dD m:=fun m=>rfl
 have Ly:∀ m,(s.jE z k t 1 u).up m=if m=z then u else s.up m:=fun m=>rfl
 have hdt:∀ m,(s.jE z k t 1 u).data m=if m=z then ByteArray.empty else s.data m:=fun m=>rfl
 have hli:∀ m,(s.jE z k t 1 u).bK m=if m=z then 1 else s.bK m:=fun m=>rfl
 have Q4:∀ m,(s.jE z k t 1 u).bj m=if m=z then 0 else s.bj m:=fun m=>rfl
 have PR:(s.jE z k t 1 u).roots=s.roots:=rfl;have hdd:∀ m,ad d z N m=if m=z then N else d m:=fun m=>rfl
 have nz:∀ m j,0<=m->m<40->j∈s.kids m->m≠z/\j≠z:=by
  grind [HE]
 refine⟨fun m a b=> ?_,fun m a b=> ?_,fun m a b y hy=> ?_,fun m a b j hj=> ?_,fun m a b=> ?_,⟨h.roots.1,fun r hr=> ?_⟩,fun m a b c fN _=> ?_,fun m a b=> ?_,fun m a b c=> ?_,fun m a b c _=> ?_,fun m a b c _=> ?_⟩
 ·grind [dQ.kinds]
 ·rw[hnm,hm,IA];grind [dQ.js]
 ·grind [dQ.MI]
 ·grind [dQ.kids]
 ·rw[hdt,IA];split
  ·simp_all
  grind [dQ.data]
 ·grind [dQ.roots]
 ·rw[IA,if_neg fN]at c;rw[Ly,IA,hm,hdd,hdd,if_neg fN,if_neg fN,PR];rcases h.up m a b c og og with g | ⟨g1,g2,g3,g4,g5⟩;all_goals grind
 ·obtain⟨a1,a2⟩:=h.num m a b;grind [Kb]
 ·grind [dQ.zero]
 ·rw[IA]at c;rw[hli,Q4];split at c
  ·omega
  ·rename_i c2;rw[if_neg c2,if_neg c2];exact h.pos m a b c og
 grind [dQ.Ka]
theorem dQ.tW{z:Int}(h:s.dQ d z q)(h1:0<=z)(h2:z<40)(hz:s.aN z=2)(hu:s.up z=z)(hl:s.roots.length<4):dQ {s with roots:=s.roots++[z]} d (-1) q:=by
 refine⟨h.kinds,h.js,h.MI,h.kids,h.data,⟨by simp;omega,fun r hr=> ?_⟩,fun m a b c _ hnq=> ?_,fun m a b=> ?_,h.zero,h.pos,h.Ka⟩
 ·grind [dQ.roots]
 ·by_cases c2:m=z
  ·simp_all
  ·rcases h.up m a b c c2 hnq with⟨g1,g2⟩ | g;all_goals simp_all
 ·obtain⟨a1,a2⟩:=h.num m a b;grind [Ga]
def dQ.acy(h:s.dQ d (-1) (-1)){k:Int}(h1:0<=k)(h2:k<40)(hk:s.aN k=1):dQ {s with bK:=ad s.bK k (s.bK k+1)} d k (-1):=by
 have hli:∀ m,ad s.bK k (s.bK k+1) m=if m=k then s.bK k+1 else s.bK m:=fun m=>rfl
 refine⟨h.kinds,h.js,h.MI,h.kids,h.data,h.roots,fun m a b c _ _=>h.up m a b c og og,fun m a b=> ?_,fun m a b c=> ?_,fun m a b c _=> ?_,fun m a b c _=> ?_⟩
 ·obtain⟨a1,a2⟩:=h.num m a b;grind [Ga]
 ·grind [dQ.zero]
 ·show 0<ad s.bK k _ m\/_;rw[hli];obtain⟨a1,a2⟩:=h.num m a b;split
  ·simp_all
  ·exact h.pos m a b c og
 grind [dQ.Ka]
def dQ.U3{k:Int}(h:s.dQ d k (-1))(hk:s.aN k≠0):dQ {s with bK:=ad s.bK k (s.bK k-1)} d (-1) k:=by
 have hli:∀ m,ad s.bK k (s.bK k-1) m=if m=k then s.bK k-1 else s.bK m:=fun m=>rfl
 refine⟨h.kinds,h.js,h.MI,h.kids,h.data,h.roots,fun m a b c _ hq=>h.up m a b c hq og,fun m a b=> ?_,fun m a b c=> ?_,fun m a b c hq=> ?_,fun m a b c hq=> ?_⟩
 ·obtain⟨a1,a2⟩:=h.num m a b;grind [Ga]
 ·grind [dQ.zero]
 ·show 0<ad s.bK k _ m\/_;rw[hli,if_neg hq];exact h.pos m a b c og
 grind [dQ.Ka]
def dQ.ain(h:s.dQ d e q)(h1:0<=q->q<40->s.aN q≠0->0<s.bK q\/0<s.bj q)(h2:0<=q->q<40->s.aN q≠2):s.dQ d e (-1):=
 ⟨h.kinds,h.js,h.MI,h.kids,h.data,h.roots,fun m a b c he _=>h.up m a b c he fun e=>by subst e;exact h2 a b c,h.num,h.zero,fun m a b c _=>by
  by_cases e:m=q
  ·subst e;exact h1 a b c
  ·exact h.pos m a b c e,fun m a b c _=>h.Ka m a b c fun e=>by subst e;exact h2 a b c⟩
def dQ.weak(h:s.dQ d e (-1))(q:Int):s.dQ d e q:=
 ⟨h.kinds,h.js,h.MI,h.kids,h.data,h.roots,fun m a b c he _=>h.up m a b c he og,h.num,h.zero,fun m a b c _=>h.pos m a b c og,fun m a b c _=>h.Ka m a b c og⟩
def dQ.afI(h:s.dQ d (-1) q)(h1:0<=q)(h2:q<40)(hl:s.bK q=0)(hh:s.bj q=0)(hk:s.kids q=[]):(s.jE q 0 0 0 0).dQ d (-1) (-1):=by
 have c0:s.Ga q=0:=by
  have:=(h.num q h1 h2).2;omega
 have n0:s.aI q=[]:=List.eq_nil_of_length_eq_zero (by rw[(h.js q h1 h2).2.1,hk];rfl);have hm:(s.jE q 0 0 0 0).kids=s.kids:=cJ _ hk;have hnm:(s.jE q 0 0 0 0).aI=s.aI:=cJ _ n0;have IA:∀ m,(s.jE q 0 0 0 0).aN m=if m=q then 0 else s.aN m:=fun m=>rfl
 have htr:∀ m,(s.jE q 0 0 0 0).dD m=if m=q then 0 else s.dD m:=fun m=>rfl
 have Ly:∀ m,(s.jE q 0 0 0 0).up m=if m=q then 0 else s.up m:=fun m=>rfl
 have hdt:∀ m,(s.jE q 0 0 0 0).data m=if m=q then ByteArray.empty else s.data m:=fun m=>rfl
 have hli:∀ m,(s.jE q 0 0 0 0).bK m=if m=q then 0 else s.bK m:=fun m=>rfl
 have Q4:∀ m,(s.jE q 0 0 0 0).bj m=if m=q then 0 else s.bj m:=fun m=>rfl
 have PR:(s.jE q 0 0 0 0).roots=s.roots:=rfl;have nz:∀ m j,0<=m->m<40->j∈s.kids m->m≠q/\j≠q:=by
  grind [HE]
 refine⟨fun m a b=> ?_,fun m a b=> ?_,fun m a b y hy=> ?_,fun m a b j hj=> ?_,fun m a b=> ?_,⟨h.roots.1,fun r hr=> ?_⟩,fun m a b c _ _=> ?_,fun m a b=> ?_,fun m a b c=> ?_,fun m a b c _=> ?_,fun m a b c _=> ?_⟩
 ·grind [dQ.kinds]
 ·rw[hnm,hm,IA];grind [dQ.js]
 ·grind [dQ.MI]
 ·rw[hm]at hj;obtain⟨n1,n2⟩:=nz m j a b hj;rw[IA,htr,htr,Ly,if_neg n2,if_neg n2,if_neg n1,if_neg n2];exact h.kids m a b j hj
 ·rw[hdt,IA];split
  ·simp_all
  grind [dQ.data]
 ·grind [Kc,dQ.roots]
 ·have fN:m≠q:=fun e=>by subst e;rw[IA,if_pos rfl]at c;omega
  rw[IA,if_neg fN]at c;rw[Ly,IA,hm,if_neg fN,PR];rcases h.up m a b c og fN with g | ⟨g1,g2,g3,g4,g5⟩;all_goals grind
 ·obtain⟨a1,a2⟩:=h.num m a b;grind [Kb]
 ·grind [dQ.zero]
 ·rw[IA]at c;rw[hli,Q4];split at c
  ·omega
  ·rename_i c2;rw[if_neg c2,if_neg c2];exact h.pos m a b c c2
 grind [dQ.Ka]
end
end FF
end Go.X.Tr

namespace Go.X.Tr
open Go Go.X
variable{x:ByteArray}
def Q5{l:List ByteArray}{p:Nat}(hp:p<=l.length)(h1:∀ i,i<p->blt (oA l i) x=true)(h2:p<l.length->blt (oA l p) x=false):ey l x=p:=by
 grind [ot,B7,yC]
theorem Dv{l:List ByteArray}(hl:fk l)(h:ph l x=true):ey (l.eraseIdx (ey l x)) x=ey l x:=by
 obtain⟨p1,p2⟩:=ma.1 h;refine Q5 (by rw[List.length_eraseIdx,if_pos p1];omega) (fun i hi=> ?_) fun hi=> ?_;all_goals grind [F9,HB,fk]
theorem HF{α:Type}(y:α):∀ (l:List α) (p:Nat),p<l.length->(l.eraseIdx p).insertIdx p (l.getD p y)=l
 | x::l,0,_=>sq
 | x::l,p+1,h=>by
  rw[List.eraseIdx_cons_succ,List.insertIdx_succ_cons,List.getD_cons_succ,HF y l p (by simpa using h)]
namespace FF
def acz{s:FF}{n:Int}(hl:fk (s.aI n))(h:ph (s.aI n) x=true)(hk:(s.aI n).length=(s.kids n).length):(s.ew n x).ti n x (jc (s.kids n) (ey (s.aI n) x))=s:=by
 obtain⟨p1,p2⟩:=ma.1 h;have e1:((s.ew n x).aI n)=(s.aI n).eraseIdx (ey (s.aI n) x):=aj _ _ _;have e2:((s.ew n x).kids n)=(s.kids n).eraseIdx (ey (s.aI n) x):=aj _ _ _;have a1:=HF ByteArray.empty (s.aI n) _ p1;have a2:=HF (0:Int) (s.kids n) (ey (s.aI n) x) og;rw[show(s.aI n).getD (ey (s.aI n) x) ByteArray.empty=x from p2]at a1;have b1:ad (s.ew n x).aI n (((s.ew n x).aI n).insertIdx (ey ((s.ew n x).aI n) x) x)=s.aI:=by
  rw[e1,Dv hl h,a1];funext j;unfold ad;split;all_goals simp_all[ae,ew]
 have b2:ad (s.ew n x).kids n (((s.ew n x).kids n).insertIdx (ey ((s.ew n x).aI n) x) (jc (s.kids n) (ey (s.aI n) x)))=s.kids:=by
  rw[e2,e1,Dv hl h,show jc (s.kids n) (ey (s.aI n) x)=(s.kids n).getD (ey (s.aI n) x) 0 from by simp[jc],a2];funext j;unfold ad;split;all_goals simp_all[ae,ew]
 simp_all[ti,ew]
def Ch(s:FF)(d:Int->Nat)(k:Int):Prop:=∀ n,0<=n->n<40->s.aN n=2->n≠k->s.up n=n\/(0<=s.up n/\s.up n<40/\s.aN (s.up n)=2/\d (s.up n)<d n)
theorem Dw{s t:FF}(h:t.up=s.up)(k:Int):∀ (f:Nat) (n:Int),Ai t f n k=Ai s f n k
 | 0,n=>rfl
 | f+1,n=>by unfold Ai;rw[h,Dw h k f]
theorem Ak{s:FF}{d:Int->Nat}{k:Int}(hc:s.Ch d k):∀ (f g:Nat) (n:Int),0<=n->n<40->s.aN n=2->d n<=f->d n<=g->Ai s f n k=Ai s g n k
 | 0,0,_,_,_,_,_,_=>rfl
 | 0,g+1,n,h1,h2,h3,h4,h5=>by
  unfold Ai;by_cases c:n=k
  ·rw[if_pos c];simp[c]
  ·rw[if_neg c];rcases hc n h1 h2 h3 c with u | ⟨_,_,_,u⟩
   ·rw[if_pos u];simp[c]
   ·omega
 | f+1,0,n,h1,h2,h3,h4,h5=>by
  unfold Ai;by_cases c:n=k
  ·rw[if_pos c];simp[c]
  ·rw[if_neg c];rcases hc n h1 h2 h3 c with u | ⟨_,_,_,u⟩
   ·rw[if_pos u];simp[c]
   ·omega
 | f+1,g+1,n,h1,h2,h3,h4,h5=>by
  unfold Ai;by_cases c:n=k
  ·rw[if_pos c,if_pos c]
  ·rw[if_neg c,if_neg c];by_cases c2:s.up n=n
   ·rw[if_pos c2,if_pos c2]
   ·rw[if_neg c2,if_neg c2];rcases hc n h1 h2 h3 c with u | ⟨u1,u2,u3,u4⟩
    ·exact absurd u c2
    ·exact Ak hc f g _ u1 u2 u3 og og
theorem Kd(d:Int->Nat)(s:FF)(k:Int):J9 d s k k=true:=by
 unfold J9;cases d k with
 | zero=>simp[Ai]
 | succ f=>simp[Ai]
theorem yJ{s:FF}{d:Int->Nat}{k n:Int}(hc:s.Ch d k)(h1:0<=n)(h2:n<40)(h3:s.aN n=2)(h4:n≠k):J9 d s n k=if s.up n=n then false else J9 d s (s.up n) k:=by
 unfold J9;rw[Ak hc (d n) (d n+1) n h1 h2 h3 og og];grind [Ai,Ak,Ch]
def dQ.ch{s:FF}{d:Int->Nat}{k:Int}(h:s.dQ d k (-1)):s.Ch d k:=fun n h1 h2 h3 h4=>by
 rcases h.up n h1 h2 h3 h4 og with g | ⟨g1,g2,g3,_,g5⟩;all_goals omega
def dQ.chI{s:FF}{d:Int->Nat}(h:s.Inv d)(k:Int):s.Ch d k:=fun n h1 h2 h3 h4=>by
 rcases h.up n h1 h2 h3 og og with g | ⟨g1,g2,g3,_,g5⟩;all_goals omega
def vP(d:Int->Nat)(s:FF)(k to:Int):Int->Nat:=fun x=>d x+(if J9 d s x k=true then d to+1 else 0)
def dQ.aio{s:FF}{d:Int->Nat}{k to:Int}(h:s.dQ d k (-1))(h1:0<=k)(h2:k<40)(h3:s.aN k=2)(h4:0<=to)(h5:to<40)(h6:s.aN to=2)(hu:J9 d s to k=false):dQ {s with up:=ad s.up k to} (vP d s k to) k (-1)/\vP d s k to to<vP d s k to k:=by
 have c0:s.Ga k=0:=by
  have a:=(h.num k h1 h2).2;grind [dQ.Ka]
 have hc:=h.ch;have Ly:∀ m,ad s.up k to m=if m=k then to else s.up m:=fun m=>rfl
 refine⟨⟨h.kinds,h.js,h.MI,fun n a b j hj=> ?_,h.data,⟨h.roots.1,fun r hr=> ?_⟩,fun n a b c hk hq=> ?_,h.num,h.zero,h.pos,h.Ka⟩,?_⟩
 ·grind [dQ.kids,HE,yJ,vP]
 ·grind [dQ.roots,Kc]
 ·show(n∈s.roots/\ad s.up k to n=n)\/(0<=ad s.up k to n/\ad s.up k to n<40/\s.aN (ad s.up k to n)=2/\n∈s.kids (ad s.up k to n)/\vP d s k to (ad s.up k to n)<vP d s k to n);rw[Ly,if_neg hk];rcases h.up n a b c hk hq with g | ⟨g1,g2,g3,g4,g5⟩;all_goals grind [yJ,vP]
 grind [vP,Kd]
structure Ok (s:FF) (d:Int->Nat) (B:Int):Prop where
 inv:s.Inv d
 bj:∀ n,0<=n->n<40->s.bj n<=B
 nn:0<=B
def Ok.sh{s:FF}{d:Int->Nat}{B:Int}(h:s.Ok d B)(hB:B<=1000000):s.Sh:=h.inv.sh fun n a b=>Int.le_trans (h.bj n a b) hB
theorem Dx(s:FF):∀ k:Nat,k<=40->s.wm k= -1\/(40-(k:Int)<=s.wm k/\s.wm k<40/\s.aN (s.wm k)=0)
 | 0,_=>.inl rfl
 | k+1,h=>by
  unfold wm;split
  ·rename_i c;exact .inr ⟨og,og,c⟩
  ·rcases Dx s k og with g | ⟨g1,g2,g3⟩
   ·exact .inl g
   ·exact .inr ⟨og,g2,g3⟩
def yK{s:FF}(h:¬s.free<0):0<=s.free/\s.free<40/\s.aN s.free=0:=by
 grind [Dx,free]
section
variable {s:FF} {d:Int->Nat} {B:Int}
def Ok.yF(h:s.Ok d B):∃ d',s.yF.Ok d' (B+1):=by
 have hn:=h.nn;unfold FF.yF;split
 ·rename_i c;unfold qf at c;split at c
  ·omega
  ·split at c
   ·omega
   ·rename_i c1 c2;obtain⟨f1,f2,f3⟩:=yK c2;have hr:=h.inv.roots.1;have h1:=h.inv.fresh (k:=2) (t:=(s.roots.length:Int)) (u:=s.free) f1 f2 f3 (.inr rfl) 0;have h2:=h1.tW f1 f2 (aj _ _ _) (aj _ _ _) (show s.roots.length<4 by omega);refine⟨_,h2,fun n a b=> ?_,og⟩;show ad s.bj s.free 0 n<=_;unfold ad;split
    ·omega
    ·have:=h.bj n a b;omega
 ·exact⟨d,h.inv,fun n a b=>by have:=h.bj n a b;omega,og⟩
def vw{s:FF}{n:Int}(h:s.fe n x=0):s.cF n 2=0/\ki x=true/\ph (s.aI n) x=false/\(s.aI n).length≠8:=by
 grind [fe]
def OH{s:FF}{n:Int}(h:s.fK n x=0):s.cF n 2=0/\ph (s.aI n) x=true/\s.bM n x=jc (s.kids n) (ey (s.aI n) x):=by
 grind [fK,bM]
theorem Ok.ie(h:s.Inv d){n:Int}(h0:s.fK n x=0):0<=n/\n<40/\s.aN n=2/\s.bM n x∈s.kids n/\ph (s.aI n) x=true/\jc (s.kids n) (ey (s.aI n) x)=s.bM n x:=by
 obtain⟨a,b,c⟩:=OH h0;obtain⟨i1,i2,i3,i4⟩:=jt a;grind [dQ.js,ma,jc]
theorem Ok.make(h:s.Ok d B)(n:Int)(x:ByteArray)(k:Int):∃ d',(s.make n x k).Ok d' (B+1):=by
 have hn:=h.nn;unfold FF.make;split
 ·rename_i c;unfold mG at c;split at c
  ·omega
  ·split at c
   ·omega
   ·split at c
    ·omega
    ·rename_i c0 c1 c2;obtain⟨f1,f2,f3⟩:=yK c2;obtain⟨a1,a2,a3,a4⟩:=vw (show s.fe n x=0 by omega);obtain⟨i1,i2,_,i4⟩:=jt a1;have i5:=i4 og;have fN:n≠s.free:=fun e=>by rw[<-e]at f3;omega
     have h1:=h.inv.fresh (k:=k) (t:=s.dD n) (u:=n) f1 f2 f3 og (d n+1);have e1:(s.jE s.free k (s.dD n) 1 n).aN n=s.aN n:=ae _ _ fN;have e2:(s.jE s.free k (s.dD n) 1 n).aI n=s.aI n:=ae _ _ fN;have e3:(s.jE s.free k (s.dD n) 1 n).dD n=s.dD n:=ae _ _ fN;have h2:=h1.put (n:=n) (x:=x) i1 i2 (by rw[e1];exact i5) (by rw[e2];exact a3) (by rw[e2];have:=(h.inv.js n i1 i2).2.2.1;omega) a2 ⟨f1,f2,by
      rw[show(s.jE s.free k (s.dD n) 1 n).aN s.free=k from aj _ _ _];omega⟩ (by rw[e3];exact aj _ _ _) fun _=>⟨aj _ _ _,by rw[ae _ _ fN,aj];omega⟩
     refine⟨_,h2,fun m a b=> ?_,og⟩;show ad s.bj s.free 0 m<=_;unfold ad;split
     ·omega
     ·have:=h.bj m a b;omega
 ·exact⟨d,h.inv,fun n a b=>by have:=h.bj n a b;omega,og⟩
def Ok.Dr(h:s.Ok d B)(k n:Int)(x:ByteArray):(s.Dr k n x).Ok d (B+1):=by
 have hn:=h.nn;unfold FF.Dr;split
 ·rename_i c;unfold uo at c;split at c
  ·omega
  ·split at c
   ·omega
   ·split at c
    ·omega
    ·rename_i c0 c1 c2;obtain⟨a1,a2,a3,a4⟩:=vw (show s.fe n x=0 by omega);obtain⟨i1,i2,_,i4⟩:=jt a1;obtain⟨j1,j2,_,j4⟩:=jt (show s.cF k 1=0 by omega);have i5:=i4 og;have j5:=j4 og;have h1:=h.inv.acy j1 j2 j5;have h2:=h1.put (n:=n) (x:=x) i1 i2 i5 a3 (by show(s.aI n).length<8;have:=(h.inv.js n i1 i2).2.2.1;omega) a2 ⟨j1,j2,by show s.aN k≠0;omega⟩ (show s.dD k=s.dD n by omega) (fun g=>by
      have g2:s.aN k=2:=g
      omega)
     exact⟨h2,fun m a b=>by have:=h.bj m a b;show s.bj m<=_;omega,og⟩
 ·exact⟨h.inv,fun n a b=>by have:=h.bj n a b;omega,og⟩
def Ok.dG(h:s.Ok d B)(n:Int)(x:ByteArray):(s.dG n x).Ok d (B+1):=by
 have hn:=h.nn;unfold FF.dG;split
 ·rename_i c;unfold dp at c;split at c
  ·omega
  ·split at c
   ·omega
   ·rename_i c0 c1;obtain⟨i1,i2,i3,i4,i5,i6⟩:=Ok.ie h.inv (show s.fK n x=0 by omega);obtain⟨k1,k2,k3,k4,k5⟩:=h.inv.kids n i1 i2 _ i4;have h1:=h.inv.cut (k:=s.bM n x) i1 i2 i5 i6;have h2:=h1.U3 k3;have hk:s.aN (s.bM n x)=2->s.kids (s.bM n x)=[]/\s.bj (s.bM n x)=0:=fun g=>by
     have g1:=(h.inv.num _ k1 k2).1;have g2:¬(0<(s.kids (s.bM n x)).length\/0<s.bj (s.bM n x)):=fun q=>c1 ⟨g,q⟩;exact⟨List.eq_nil_of_length_eq_zero og,og⟩
    have fN:s.bM n x≠n\/s.aN (s.bM n x)≠2:=by
     by_cases g:s.aN (s.bM n x)=2
     ·left;intro e;rw[e]at i4 hk g;rw[(hk g).1]at i4;cases i4
     ·exact .inr g
    have hkk:s.kids (s.bM n x)=[]:=by
     by_cases g:s.aN (s.bM n x)=2
     ·exact(hk g).1
     ·exact(h.inv.MK k1 k2 g).1
    have hkn:s.bM n x≠n:=fun e=>by rw[e]at hkk;rw[hkk]at i4;cases i4
    have hb:∀ m,0<=m->m<40->s.bj m<=B+1:=fun m a b=>by have:=h.bj m a b;omega
    unfold q8;split
    ·rename_i c2;have h3:=h2.afI k1 k2 c2.1 c2.2 (by
      show ad s.kids n _ (s.bM n x)=[]
      rw[ae _ _ hkn];exact hkk)
     refine⟨h3,fun m a b=> ?_,og⟩;show ad s.bj _ 0 m<=_;unfold ad;split
     ·omega
     ·exact hb m a b
    ·rename_i c2;have g0:s.aN (s.bM n x)≠2:=fun g=>by
      refine c2 ⟨?_,(hk g).2⟩;show ad s.bK _ _ (s.bM n x)=0;rw[aj];show s.bK (s.bM n x)-1=0;have:=h.inv.Ka _ k1 k2 g og;omega
     refine⟨h2.ain (fun _ _ _=> ?_) fun _ _=>g0,hb,og⟩;have a1:=(h2.num _ k1 k2);have a2:¬(ad s.bK (s.bM n x) (s.bK (s.bM n x)-1) (s.bM n x)=0/\s.bj (s.bM n x)=0):=c2;have a3:(0:Int)<=s.bj (s.bM n x):=a1.1;have a4:ad s.bK (s.bM n x) (s.bK (s.bM n x)-1) (s.bM n x)=_:=a1.2;show 0<ad s.bK (s.bM n x) (s.bK (s.bM n x)-1) (s.bM n x)\/0<s.bj (s.bM n x);rw[if_neg (show ¬s.bM n x=(-1:Int) by omega)]at a4;omega
 ·exact⟨h.inv,fun n a b=>by have:=h.bj n a b;omega,og⟩
theorem Ok.dZ(h:s.Ok d B)(n:Int):(s.dZ n).Ok d (B+1):=by
 have hn:=h.nn;unfold FF.dZ;split
 ·rename_i c;obtain⟨i1,i2,i3⟩:=yG c;have Q4:∀ m,ad s.bj n (s.bj n+1) m=if m=n then s.bj n+1 else s.bj m:=fun m=>rfl
  have a0:=(h.inv.num n i1 i2).1;refine⟨⟨h.inv.kinds,h.inv.js,h.inv.MI,h.inv.kids,h.inv.data,h.inv.roots,h.inv.up,fun m a b=> ?_,fun m a b c=> ?_,fun m a b c e=> ?_,h.inv.Ka⟩,fun m a b=> ?_,og⟩
  ·obtain⟨a1,a2⟩:=h.inv.num m a b;refine⟨?_,a2⟩;show 0<=ad s.bj n _ m;rw[Q4];split<;>omega
  ·obtain⟨b1,b2⟩:=h.inv.zero m a b c;have:m≠n:=fun e=>by subst e;exact i3 c
   exact⟨b1,by show ad s.bj n _ m=0;rw[Q4,if_neg this];exact b2⟩
  ·show 0<s.bK m\/0<ad s.bj n _ m;rw[Q4];split
   ·omega
   ·exact h.inv.pos m a b c e
  ·show ad s.bj n _ m<=_;have:=h.bj m a b;have:=h.bj n i1 i2;rw[Q4];split<;>omega
 ·exact⟨h.inv,fun n a b=>by have:=h.bj n a b;omega,og⟩
theorem Ok.kO(h:s.Ok d B)(n:Int):(s.kO n).Ok d (B+1):=by
 have hn:=h.nn;unfold FF.kO;split
 ·rename_i c;unfold Ds at c;split at c
  ·omega
  ·split at c
   ·omega
   ·rename_i c0 c1;obtain⟨i1,i2,i3⟩:=yG (show s.cF n 0=0 by omega);have a0:=(h.inv.num n i1 i2).1;have Q4:∀ m,ad s.bj n (s.bj n-1) m=if m=n then s.bj n-1 else s.bj m:=fun m=>rfl
    have hw:=h.inv.weak n;have h2:dQ {s with bj:=ad s.bj n (s.bj n-1)} d (-1) n:=⟨hw.kinds,hw.js,hw.MI,hw.kids,hw.data,hw.roots,hw.up,fun m a b=>by
      obtain⟨a1,a2⟩:=hw.num m a b
      refine⟨?_,a2⟩
      show 0<=ad s.bj n _ m
      rw[Q4];split<;>omega,fun m a b c=>by
      obtain⟨b1,b2⟩:=hw.zero m a b c
      have:m≠n:=fun e=>by subst e;exact i3 c
      exact⟨b1,by show ad s.bj n _ m=0;rw[Q4,if_neg this];exact b2⟩,fun m a b c e=>by
      show 0<s.bK m\/0<ad s.bj n _ m
      rw[Q4,if_neg e]
      exact hw.pos m a b c e,hw.Ka⟩
    have hb:∀ m,0<=m->m<40->ad s.bj n (s.bj n-1) m<=B+1:=fun m a b=>by
     have h1:=h.bj m a b;have h3:=h.bj n i1 i2;rw[Q4];split<;>omega
    unfold q8;split
    ·rename_i c2;have g0:s.aN n≠2:=fun g=>by
      have g1:=h.inv.Ka n i1 i2 g og;have g2:s.bK n=0:=c2.1;omega
     have h3:=h2.afI i1 i2 c2.1 c2.2 (h.inv.MK i1 i2 g0).1;refine⟨h3,fun m a b=> ?_,og⟩;show ad (ad s.bj n (s.bj n-1)) n 0 m<=_;have:=hb m a b;rw[show ad (ad s.bj n (s.bj n-1)) n 0 m=if m=n then 0 else ad s.bj n (s.bj n-1) m from rfl];split<;>omega
    ·rename_i c2;have a4:=(h.inv.num n i1 i2).2;rw[if_neg (show ¬n=(-1:Int) by omega)]at a4;have a5:¬(s.bK n=0/\ad s.bj n (s.bj n-1) n=0):=c2;rw[aj]at a5;refine⟨⟨h2.kinds,h2.js,h2.MI,h2.kids,h2.data,h2.roots,h.inv.up,h2.num,h2.zero,fun m a b c _=> ?_,h.inv.Ka⟩,hb,og⟩;by_cases e:m=n
     ·subst e;show 0<s.bK m\/0<ad s.bj m _ m;rw[aj];omega
     ·exact h2.pos m a b c e
 ·exact⟨h.inv,fun n a b=>by have:=h.bj n a b;omega,og⟩
theorem Ok.data(h:s.Ok d B){n:Int}(hk:s.aN n=1)(x:ByteArray)(hx:x.size<=40):Ok {s with data:=ad s.data n x} d (B+1):=by
 have hn:=h.nn;refine⟨⟨h.inv.kinds,h.inv.js,h.inv.MI,h.inv.kids,fun m a b=> ?_,h.inv.roots,h.inv.up,h.inv.num,h.inv.zero,h.inv.pos,h.inv.Ka⟩,fun m a b=>by have:=h.bj m a b;show s.bj m<=_;omega,og⟩;show(ad s.data n x m).size<=40/\(s.aN m≠1->ad s.data n x m=ByteArray.empty);rw[show ad s.data n x m=if m=n then x else s.data m from rfl];split
 ·simp_all
 ·exact h.inv.data m a b
def Ok.up1(h:s.Ok d B):s.Ok d (B+1):=⟨h.inv,fun n a b=>by have:=h.bj n a b;omega,by have:=h.nn;omega⟩
theorem yL(x:ByteArray)(a:Nat)(y:ByteArray):(Xh x a y).size=max x.size (a+y.size):=by
 unfold Xh;rw[<-ByteArray.size_data];simp
theorem Ok.cb(h:s.Ok d B)(n a:Int)(x:ByteArray):(s.cb n a x).Ok d (B+1):=by
 unfold FF.cb;split
 ·rename_i c;obtain⟨c,_⟩:=c;unfold fc at c;split at c
  ·omega
  ·split at c
   ·omega
   ·split at c
    ·omega
    ·obtain⟨i1,i2,_,i4⟩:=jt (show s.cF n 1=0 by omega);refine h.data (i4 og) _ ?_;rw[yL];have:=(h.inv.data n i1 i2).1;omega
 ·exact h.up1
def Ok.move(h:s.Ok d B)(n:Int)(x:ByteArray)(to:Int)(y:ByteArray):∃ d',(s.move d n x to y).Ok d' (B+1):=by
 have hn:=h.nn;unfold FF.move;split
 ·exact⟨d,h.up1⟩
 ·rename_i c;have hb:∀ m,0<=m->m<40->s.bj m<=B+1:=fun m a b=>by have:=h.bj m a b;omega
  have c':s.fX d n x to=0:=og;unfold fX at c';split at c'
  ·omega
  ·split at c'
   ·omega
   ·split at c'
    ·omega
    ·split at c'
     ·omega
     ·rename_i c0 c1 c2 c3;obtain⟨i1,i2,i3,i4,i5,i6⟩:=Ok.ie h.inv (show s.fK n x=0 by omega);obtain⟨k1,k2,k3,k4,k5⟩:=h.inv.kids n i1 i2 _ i4;have h1:=h.inv.cut (k:=s.bM n x) i1 i2 i5 i6;obtain⟨r1,r2,r3,r4⟩:=h.inv.js n i1 i2;split
      ·refine⟨d,?_,fun m a b=>hb m a b,og⟩;have e:=acz r1 i5 r2;rw[i6]at e;rw[e];exact h.inv
      ·rename_i c4;obtain⟨a1,a2,a3,a4⟩:=vw (show(s.ew n x).fe to y=0 by omega);obtain⟨t1,t2,_,t4⟩:=jt a1;have t5:s.aN to=2:=t4 og;have hlen:((s.ew n x).aI to).length<8:=by have:=(h1.js to t1 t2).2.2.1;omega
       split
       ·rename_i c5;have hu:J9 d (s.ew n x) to (s.bM n x)=false:=by
         have e:J9 d (s.ew n x) to (s.bM n x)=J9 d s to (s.bM n x):=Dw (s:=s) (t:=s.ew n x) rfl _ _ _;rw[e];cases g:J9 d s to (s.bM n x)with
         | false=>rfl
         | true=>exact absurd ⟨c5,g⟩ c3
        obtain⟨g1,g2⟩:=h1.aio k1 k2 c5 t1 t2 t5 hu;have h3:=g1.put (n:=to) (x:=y) t1 t2 t5 a3 hlen a2 ⟨k1,k2,k3⟩ (show s.dD (s.bM n x)=s.dD to by omega) fun _=>⟨aj _ _ _,g2⟩;exact⟨_,h3,fun m a b=>hb m a b,og⟩
       ·rename_i c5;have h3:=h1.put (n:=to) (x:=y) t1 t2 t5 a3 hlen a2 ⟨k1,k2,k3⟩ (show s.dD (s.bM n x)=s.dD to by omega) fun g=>absurd g c5;exact⟨d,h3,fun m a b=>hb m a b,og⟩
def Ke:du.Ok (fun _=>0) 0:=by
 have hc:∀ k,du.Ga k=0:=fun k=>by
  rfl
 refine⟨⟨fun _ _ _=>.inl rfl,fun _ _ _=>⟨fk.nil,rfl,by simp[du],fun _=>rfl⟩,fun _ _ _ x hx=>by simp[du]at hx,fun _ _ _ k hk=>by simp[du]at hk,fun _ _ _=>⟨by simp[du],fun _=>rfl⟩,⟨by simp[du],fun r hr=>by simp[du]at hr⟩,fun _ _ _ c=>by simp[du]at c,fun m a b=>⟨by simp[du],?_⟩,fun _ _ _ _=>⟨rfl,rfl⟩,fun _ _ _ c=>absurd rfl c,fun _ _ _ c=>by simp[du]at c⟩,fun _ _ _=>by simp[du],Int.le_refl _⟩;rw[hc,if_neg (show ¬m=(-1:Int) by omega)];rfl
end
theorem Sh.ew{s:FF}(h:s.Sh){n:Int}{x:ByteArray}(h1:0<=n)(h2:n<40)(hx:ph (s.aI n) x=true):(s.ew n x).Sh:=by
 obtain⟨p1,p2⟩:=ma.1 hx;obtain⟨r1,r2,r3,r4⟩:=h.js n h1 h2;have hm:∀ m,(s.ew n x).kids m=if m=n then(s.kids n).eraseIdx (ey (s.aI n) x)else s.kids m:=fun m=>rfl
 have hnm:∀ m,(s.ew n x).aI m=if m=n then(s.aI n).eraseIdx (ey (s.aI n) x)else s.aI m:=fun m=>rfl
 refine⟨fun m a b=> ?_,fun m a b j hj=> ?_,h.data,h.roots,h.num⟩
 ·rw[hm,hnm];by_cases c:m=n
  ·subst c;rw[if_pos rfl,if_pos rfl,List.length_eraseIdx,if_pos p1,List.length_eraseIdx,if_pos og];exact⟨r1.OE _ p1,og,og,fun q=>by rw[r4 q];rfl⟩
  ·rw[if_neg c,if_neg c];exact h.js m a b
 ·rw[hm]at hj;split at hj
  ·rename_i c;subst c;exact h.kids m a b j (List.mem_of_mem_eraseIdx hj)
  ·exact h.kids m a b j hj
theorem Sh.jE{s:FF}(h:s.Sh)(z k t l u:Int)(hl: -1000000<=l/\l<=1000000):(s.jE z k t l u).Sh:=by
 refine⟨fun m a b=> ?_,fun m a b j hj=> ?_,fun m a b=> ?_,h.roots,fun m a b=> ?_⟩
 ·show fk (ad s.aI z [] m)/\(ad s.aI z [] m).length=(ad s.kids z [] m).length/\(ad s.aI z [] m).length<=8/\(ad s.aN z k m≠2->ad s.aI z [] m=[]);unfold ad;by_cases c:m=z
  ·simp only[c,if_true];exact⟨fk.nil,sq,sq,sq⟩
  ·simp only[c,if_false];exact h.js m a b
 ·have IM:j∈ad s.kids z [] m:=hj;unfold ad at IM;split at IM
  ·cases IM
  ·exact h.kids m a b j IM
 ·show(ad s.data z _ m).size<=40;unfold ad;split
  ·simp
  ·exact h.data m a b
 ·show-1000000<=ad s.bK z l m/\ad s.bK z l m<=1000000/\0<=ad s.bj z 0 m/\ad s.bj z 0 m<=1000000;have:=h.num m a b;unfold ad;split<;>omega
theorem Sh.ie{s:FF}(h:s.Sh){n:Int}(h0:s.fK n x=0):0<=n/\n<40/\s.aN n=2/\0<=s.bM n x/\s.bM n x<40/\ph (s.aI n) x=true:=by
 obtain⟨a,b,c⟩:=OH h0;obtain⟨i1,i2,i3,i4⟩:=jt a;obtain⟨r1,r2,r3,r4⟩:=h.js n i1 i2;obtain⟨p1,p2⟩:=ma.1 b;have:=r6 (l:=s.kids n) (p:=ey (s.aI n) x) og;have h3:=h.kids n i1 i2 (s.bM n x) (by rw[c];simpa [jc]using this);simp_all
theorem Gc{α:Type}(f:Int->α)(z:Int)(a b:α):ad (ad f z a) z b=ad f z b:=by
 grind [ad]
theorem YQ(s:FF)(z k t l u v:Int):({s.jE z k t l u with up:=ad (s.jE z k t l u).up z v} :FF)=s.jE z k t l v:=by
 grind [jE,Gc]
end FF
end Go.X.Tr

namespace Go.X.Tr
open Go Go.X
variable{z:Int}
namespace FF
theorem xa(s:FF):∀ (i:Nat),i<=40->(∀ j:Int,0<=j->j<i->s.aN j≠0)->s.wm (40-i)=s.free
 | 0,_,_=>rfl
 | i+1,h,ho=>by
  rw[<-xa s i og fun j a b=>ho j a og];obtain⟨k,hk⟩:∃ k,40-i=k+1:=⟨39-i,og⟩;grind [wm]
def pV{s:FF}{i:Int}(h1:0<=i)(h2:i<40)(ho:∀ j,0<=j->j<i->s.aN j≠0)(hz:s.aN i=0):s.free=i:=by
 have h:=xa s i.toNat og fun j a b=>ho j a og;rw[<-h];obtain⟨k,hk⟩:∃ k,40-i.toNat=k+1:=⟨39-i.toNat,og⟩;grind [wm]
theorem zW{s:FF}(ho:∀ j,0<=j->j<40->s.aN j≠0):s.free= -1:=by
 have h:=xa s 40 (Nat.le_refl _) fun j a b=>ho j a og;rw[<-h];rfl
end FF
namespace FF
end FF
section
variable {W w:World} {S:Nat->Nat->Prop} {H F:List aF}
theorem yM(h:0<=z/\z<40):au z.toNat=true:=by show Nat.blt z.toNat 40=true;simp;omega
def U4(x:aF):∀ (L:List aF),cG (x::L) L [x]
 | []=>.nil
 | _::r=>.cons (.ao .aa) (U4 x r)
def nB{e:TypeId}{s:FC}(hz:0<=z/\z<40)(hp:cG H [.aW au (s.bd e)] F)(h:XM W S H w):XM W S (jZ (s.nP z) (s.nC z) e (s.aI z):: .aW (ji au z.toNat) (s.bd e)::F) w:=by
 have h1:=oC z.toNat (yM hz) (h.b8 hp.b8);have e1:(s.bd e z.toNat).Cx=jZ (s.nP z) (s.nC z) e (s.aI z):=by
  grind [FC.bd]
 simp_all
def yN{e:TypeId}{s:FC}(hz:0<=z/\z<40)(hp:cG H [.aW au (s.bh e)] F)(h:XM W S H w):XM W S (dh (s.kP z) (s.kC z) e (s.kids z):: .aW (ji au z.toNat) (s.bh e)::F) w:=by
 have h1:=oC z.toNat (yM hz) (h.b8 hp.b8);have e1:(s.bh e z.toNat).Cx=dh (s.kP z) (s.kC z) e (s.kids z):=by
  grind [FC.bh]
 simp_all
theorem Q6(e:TypeId)(s t:FC)(z:Int)(hz:0<=z/\z<40)(l:List ByteArray)(p:Option Addr)(c:Nat)(h1:t.aI=ad s.aI z l)(h2:t.nP=ad s.nP z p)(h3:t.nC=ad s.nC z c):BA (s.bd e) z.toNat ⟨.slice p l.length c,e,1,l.length,strs l⟩=t.bd e:=by
 funext i;unfold FC.bd;rw[h1,h2,h3];grind [nf,lT,ad]
theorem Q7(e:TypeId)(s t:FC)(z:Int)(hz:0<=z/\z<40)(l:List Int)(p:Option Addr)(c:Nat)(h1:t.kids=ad s.kids z l)(h2:t.kP=ad s.kP z p)(h3:t.kC=ad s.kC z c):BA (s.bh e) z.toNat ⟨.slice p l.length c,e,1,l.length,fS l⟩=t.bh e:=by
 funext i;unfold FC.bh;rw[h1,h2,h3];grind [nf,lT,ad]
def lM{e:TypeId}{s:FC}(t:FC){n c:Nat}{p:Option Addr}{l:List ByteArray}(hz:0<=z/\z<40)(hn:n=l.length)(h1:t.aI=ad s.aI z l)(h2:t.nP=ad s.nP z p)(h3:t.nC=ad s.nC z c)(hp:cG H [.row (.slice p n c) e 1 n (strs l),.aW (ji au z.toNat) (s.bd e)] F)(h:XM W S H w):XM W S (.aW au (t.bd e)::F) w:=by
 subst hn;have h4:=qy (x:=⟨.slice p l.length c,e,1,l.length,strs l⟩) z.toNat (uY _ _) (h.b8 hp.b8);rw[Fo (yM hz),Q6 e s t z hz l p c h1 h2 h3]at h4;exact h4
def vx{e:TypeId}{s:FC}(t:FC){n c:Nat}{p:Option Addr}{l:List Int}(hz:0<=z/\z<40)(hn:n=l.length)(h1:t.kids=ad s.kids z l)(h2:t.kP=ad s.kP z p)(h3:t.kC=ad s.kC z c)(hp:cG H [.row (.slice p n c) e 1 n (fS l),.aW (ji au z.toNat) (s.bh e)] F)(h:XM W S H w):XM W S (.aW au (t.bh e)::F) w:=by
 subst hn;have h4:=qy (x:=⟨.slice p l.length c,e,1,l.length,fS l⟩) z.toNat (uY _ _) (h.b8 hp.b8);rw[Fo (yM hz),Q7 e s t z hz l p c h1 h2 h3]at h4;exact h4
def OJ{e:TypeId}{s:FC}(t:FC)(hz:0<=z/\z<40)(h1:t.aI=ad s.aI z [])(h2:t.nP=ad s.nP z none)(h3:t.nC=ad s.nC z 0)(hp:cG H [.aW au (s.bd e)] F)(h:XM W S H w):XM W S (.aW au (t.bd e)::F) w:=by
 have h4:=(XM.pick (U4 _ _) (nB hz hp h)).fF e 1;exact lM (s:=s) t (p:=none) (c:=0) (n:=0) (l:=[]) hz rfl h1 h2 h3 (.cons .aa (.cons .aa (by
  have hq:∀ L:List aF,cG L [] L:=fun L=>.nil
  exact hq _))) h4
def OK{e:TypeId}{s:FC}(t:FC)(hz:0<=z/\z<40)(h1:t.kids=ad s.kids z [])(h2:t.kP=ad s.kP z none)(h3:t.kC=ad s.kC z 0)(hp:cG H [.aW au (s.bh e)] F)(h:XM W S H w):XM W S (.aW au (t.bh e)::F) w:=by
 have h4:=(XM.pick (U4 _ _) (yN hz hp h)).fF e 1;exact vx (s:=s) t (p:=none) (c:=0) (n:=0) (l:=[]) hz rfl h1 h2 h3 (pz 2) h4
end
def FC.xc(s:FC)(z k t l u:Int):FC:=⟨s.toFF.jE z k t l u,ad s.nP z none,ad s.nC z 0,ad s.kP z none,ad s.kC z 0,s.rP,s.rC⟩
def FC.afK(s:FC)(n:Int)(x:ByteArray)(k:Int)(p:Option Addr)(c:Nat)(p2:Option Addr)(c2:Nat):FC:=⟨s.toFF.ti n x k,ad s.nP n p,ad s.nC n c,ad s.kP n p2,ad s.kC n c2,s.rP,s.rC⟩
abbrev Gd(k t l u:Int):aC.U:=⟨k,t,l,0,ByteArray.empty,u,[],none,0,[],none,0⟩
def yO(k t l u:Int):Array Value:= #[iI k,iI t,iI l,iI 0,.string ⟨#[]⟩,.slice none 0 0,.slice none 0 0,iI u]
def Kf(s:FC)(z k t l u:Int)(hz:0<=z/\z<40:=by omega):0+0+z.toNat*8+8<=321/\cD (aC s) (0+0+z.toNat*8) (yO k t l u).toList=aC (s.xc z k t l u):=
 aC.TX s (s.xc z k t l u) z hz _ rfl (fun j hj=>by
  have e:aC.un (s.xc z k t l u) z=Gd k t l u:=by
   unfold aC.un FC.xc FF.jE
   simp only[aj]
  rw[e]
  match j,hj with
  | 0,_=>rfl
  | 1,_=>rfl
  | 2,_=>rfl
  | 3,_=>rfl
  | 4,_=>rfl
  | 5,_=>rfl
  | 6,_=>rfl
  | 7,_=>rfl
  | j+8,h=>exact absurd h og) (fun y hy=>by
  unfold aC.un FC.xc FF.jE
  simp only[ae _ _ hy]) rfl
def mV(s:FC):0+320<321/\aC s (0+320)= .slice s.rP s.roots.length s.rC:=by grind [aC]
def E1(s:FC)(l:List Int)(p:Option Addr)(c n:Nat)(hn:n=l.length):0+320<321/\dJ (aC s) (0+320) (.slice p n c)=aC {s with roots:=l,rP:=p,rC:=c} :=by
 subst hn;refine⟨og,?_⟩;funext i;unfold dJ aC;by_cases hi:i=0+320
 ·simp_all
 ·rw[if_neg hi];by_cases c1:i<320
  ·rw[if_pos c1,if_pos c1];rfl
  grind
def Kg(k t l u:Int):∀ i,i<8->cellsOf (yO k t l u) i=aC.cell (Gd k t l u) i:=fun i h=>match i,h with
 | 0,_=>rfl
 | 1,_=>rfl
 | 2,_=>rfl
 | 3,_=>rfl
 | 4,_=>rfl
 | 5,_=>rfl
 | 6,_=>rfl
 | 7,_=>rfl
 | j+8,h=>absurd h og
def U5(k t l u:Int):0+8<=8/\de (aC.cell (Gd k t l u)) 0 8= .agg (yO k t l u):=⟨og,rfl⟩
def Kh:Array Value:=((List.range 321).map (aC FC.du)).toArray
def ML:Kh.size=321:=by simp[Kh]
def Q8:∀ i,i<321->cellsOf Kh i=aC FC.du i:=fun i hi=>by simp[cellsOf,Kh,hi]
def FC.afL(s:FC)(n:Int)(x:ByteArray):FC:=⟨s.toFF.ew n x,ad s.nP n (s.nP n),ad s.nC n (s.nC n),ad s.kP n (s.kP n),ad s.kC n (s.kC n),s.rP,s.rC⟩
theorem Dy{t:FC}{X:FF}(h:t.toFF=X)(z v:Int):({t with bK:=ad t.bK z v} :FC).toFF= {X with bK:=ad X.bK z v} :=by rw[<-h]
theorem YR{t:FC}{X:FF}(h:t.toFF=X)(z v:Int):({t with bj:=ad t.bj z v} :FC).toFF= {X with bj:=ad X.bj z v} :=by rw[<-h]
theorem afM{t:FC}{X:FF}(h:t.toFF=X)(z v:Int):({t with up:=ad t.up z v} :FC).toFF= {X with up:=ad X.up z v} :=by rw[<-h]
def Bj{W w:World}{S:Nat->Nat->Prop}{H:List aF}(r:Nat->pZ)(e:TypeId)(hr:∀ i,r i=⟨.slice none 0 0,e,1,0,[]⟩)(h:XM W S H w):XM W S (.aW au r::H) w:=by
 have hr0:w.ownsRow 0 e 1 (.slice none 0 0) 0 []:=(h.fF e 1).fa.1 (.row (.slice none 0 0) e 1 0 []) sq;refine⟨⟨fun x hx=> ?_,List.pairwise_cons.2 ⟨fun x hx _ b o h1 h2=> ?_,h.fa.2⟩⟩,h.fA,fun x hx hw b o hb=> ?_⟩
 ·rcases List.mem_cons.1 hx with rfl | hx
  ·exact⟨fun i _=>by rw[hr];exact hr0,fun i j b _ _ _ h1 _=>by rw[hr]at h1;cases h1⟩
  ·exact h.fa.1 x hx
 ·obtain⟨i,_,hb⟩:=h1;rw[hr]at hb;cases hb
 ·rcases List.mem_cons.1 hx with rfl | hx
  ·obtain⟨i,_,hb⟩:=hb;rw[hr]at hb;cases hb
  ·exact h.Ey x hx hw b o hb
def HG{W w:World}{S:Nat->Nat->Prop}{H:List aF}(h:XM W S H w):XM W S (.aW au (FC.du.bd 9):: .aW au (FC.du.bh 3)::dh none 0 3 []::H) w:=
 Bj _ 9 (fun _=>rfl) (Bj _ 3 (fun _=>rfl) (h.fF 3 1))
structure NV where
 aN:Int
 bK:Int
 bj:Int
 size:Int
def NV.cR(x:NV):Array Value:= #[iI x.aN,iI x.bK,iI x.bj,iI x.size]
def NV.zero:NV:=⟨0,0,0,0⟩
def nZ(x:NV)(i:Nat):Value:=if i=0 then iI x.aN else if i=1 then iI x.bK else if i=2 then iI x.bj else if i=3 then iI x.size else undef
def oH(x:NV):∀ i,i<4->cellsOf x.cR i=nZ x i:=fun i h=>match i,h with
 | 0,_=>rfl
 | 1,_=>rfl
 | 2,_=>rfl
 | 3,_=>rfl
 | j+4,h=>absurd h og
def q9(x:NV):0+4<=4/\de (nZ x) 0 4= .agg x.cR:=⟨og,rfl⟩
def mh(y x:NV):0+4<=4/\cD (nZ y) 0 x.cR.toList=nZ x:=by
 refine⟨og,?_⟩;funext i;match i with
 | 0=>rfl
 | 1=>rfl
 | 2=>rfl
 | 3=>rfl
 | k+4=>simp[cD,dJ,NV.cR,nZ]
def xd(x:NV):0+0<4/\nZ x (0+0)=iI x.aN:=⟨og,rfl⟩
def Ki(x:NV):0+1<4/\nZ x (0+1)=iI x.bK:=⟨og,rfl⟩
def MM(x:NV):0+2<4/\nZ x (0+2)=iI x.bj:=⟨og,rfl⟩
def MN(x:NV):0+3<4/\nZ x (0+3)=iI x.size:=⟨og,rfl⟩
def FF.Xi(s:FF)(n:Int):NV:=if s.cF n 0=0 then⟨s.aN n,s.bK n,s.bj n,max ((s.data n).size:Int) ((s.kids n).length:Int)⟩else NV.zero
def OL(u:aC.U):Array Value:= #[iI u.aN,iI u.dD,iI u.bK,iI u.bj,.string u.data,.slice u.nP u.aI.length u.nC,.slice u.kP u.kids.length u.kC,iI u.up]
def Q9(s:FC)(z:Int)(h:0<=z/\z<40):0+0+z.toNat*8+8<=321/\de (aC s) (0+0+z.toNat*8) 8= .agg (OL (aC.un s z)):=by
 refine⟨og,?_⟩;have q:=aC.at_ s z h;simp only[de,List.range,List.range.loop,List.map_cons,List.map_nil];rw[q 0 og,q 1 og,q 2 og,q 3 og,q 4 og,q 5 og,q 6 og,q 7 og];rfl
def U6(u0 u:aC.U):0+8<=8/\cD (aC.cell u0) 0 (OL u).toList=aC.cell u:=by
 refine⟨og,?_⟩;funext i;match i with
 | 0=>rfl
 | 1=>rfl
 | 2=>rfl
 | 3=>rfl
 | 4=>rfl
 | 5=>rfl
 | 6=>rfl
 | 7=>rfl
 | k+8=>
  have e1:∀ u:aC.U,aC.cell u (k+8)=undef:=fun u=>by unfold aC.cell;iterate 8 rw[if_neg og]
  have e2:cD (aC.cell u0) 0 (OL u).toList (k+8)=aC.cell u0 (k+8):=by simp[cD,dJ,OL]
  rw[e2,e1,e1]
def YS(u:aC.U):0+0<8/\aC.cell u (0+0)=iI u.aN:=⟨og,rfl⟩
def YT(u:aC.U):0+2<8/\aC.cell u (0+2)=iI u.bK:=⟨og,rfl⟩
def YU(u:aC.U):0+3<8/\aC.cell u (0+3)=iI u.bj:=⟨og,rfl⟩
def YV(u:aC.U):0+4<8/\aC.cell u (0+4)= .string u.data:=⟨og,rfl⟩
def YW(u:aC.U):0+6<8/\aC.cell u (0+6)= .slice u.kP u.kids.length u.kC:=⟨og,rfl⟩
theorem acB(l:List UInt8)(i:Nat)(h:i<(ByteArray.mk l.toArray).size)(h2:i<l.length):(ByteArray.mk l.toArray)[i]'h=l[i]'h2:=rfl
theorem acC(d:ByteArray)(a:Nat)(x:ByteArray)(i:Nat)(h:i<(Xh d a x).size):(Xh d a x)[i]=if a<=i/\i<a+x.size then x.get! (i-a)else if i<d.size then d.get! i else 0:=by
 have hs:=FF.yL d a x;grind [acB,Xh]
def MO{x:ByteArray}{j:Nat}(h:j<x.size):(x.data.toList.map bv)[j]? =some (bv (x.get! j)):=by
 rw[List.getElem?_map];have h2:j<x.data.toList.length:=by rw[Array.length_toList];exact h
 rw[List.getElem?_eq_getElem h2];show some (bv (x.data.toList[j]))=some (bv (x.data[j]!));simp_all
theorem MP(x:ByteArray):(x.data.toList.map bv).length=x.size:=by simp_all
def U7(d:ByteArray)(a:Nat)(x:ByteArray)(i:Nat)(h:i<(Xh d a x).size):cD (cD (fun _=>bv 0) 0 (d.data.toList.map bv)) a (x.data.toList.map bv) i=bv (Xh d a x)[i]:=by
 rw[acC];by_cases c1:i<a
 ·rw[iV _ _ _ _ c1,if_neg og];by_cases c2:i<d.size
  ·rw[if_pos c2];have:=gh (d.data.toList.map bv) (fun _=>bv 0) 0 i _ (MO c2);simp_all
  grind [jA,MP]
 ·by_cases c3:i<a+x.size
  ·rw[if_pos ⟨og,c3⟩];have:=gh (x.data.toList.map bv) (cD (fun _=>bv 0) 0 (d.data.toList.map bv)) a (i-a) _ (MO (x:=x) (j:=i-a) og);simp_all
  ·rw[if_neg og,jA _ _ _ _ (by rw[MP];omega)];by_cases c2:i<d.size
   ·rw[if_pos c2];have:=gh (d.data.toList.map bv) (fun _=>bv 0) 0 i _ (MO c2);simp_all
   grind [jA,MP]
end Go.X.Tr

namespace Go.X.Tr
open Go Go.X
variable{J K i n:Int}{bf:Nat}{C D:Nat->Value}
namespace FF
theorem MQ(s:FF)(n:Int):(s.q8 n).roots=s.roots:=by unfold q8;split<;>rfl
theorem mW(s:FF)(n:Int):(s.kO n).roots=s.roots:=by
 grind [kO,MQ]
def Kj(s:FF)(n a:Int)(x:ByteArray):(s.cb n a x).roots=s.roots:=by grind [cb]
end FF
namespace FF
def Kk{x:ByteArray}(h:ki x=true):x.size<=8:=by
 grind [ki]
def U8{s:FF}(h:s.cF n 0=0):(s.Xi n).aN=s.aN n/\(s.Xi n).bK=s.bK n/\(s.Xi n).bj=s.bj n:=by
 grind [FF.Xi]
end FF
structure OS where
 aN:Int->Int
 n:Int->Int
 at_:Int->Int
 cP:Int->Int
 cb:Int->Bool
namespace OS
def is(s:OS)(n:Int):Int:=if n<0\/24<=n then 1 else if s.cP n=0 then 2 else 0
def mX(s:OS):Nat->Int
 | 0=> -1
 | k+1=>if 0<=mX s k then mX s k else if s.cP (k:Int)=0 then(k:Int)else-1
def first(s:OS):Int:=mX s 24
def fx(s:OS)(m:Int):Nat->List Int
 | 0=>[]
 | k+1=>if s.cP (k:Int)=0/\((fx s m k).length:Int)<m then fx s m k++[(k:Int)]else fx s m k
def lay(s:OS)(z k n:Int)(w:Bool):OS:=⟨ad s.aN z k,ad s.n z n,ad s.at_ z 0,ad s.cP z 1,ad s.cb z w⟩
def Et(s:OS)(z:Int):OS:=⟨ad s.aN z 0,ad s.n z 0,ad s.at_ z 0,ad s.cP z 0,ad s.cb z false⟩
def move(s:OS)(z d:Int):OS:= {s with at_:=ad s.at_ z (s.at_ z+d)}
def du:OS:=⟨fun _=>0,fun _=>0,fun _=>0,fun _=>0,fun _=>false⟩
def Dz(s:OS):Nat->Int
 | 0=>0
 | k+1=>Dz s k+(if 0<s.cP (k:Int)then 1 else 0)
def opens(s:OS):Int:=Dz s 24
structure Inv (s:OS) (J:Int):Prop where
 cP:∀ n,0<=n->n<24->0<=s.cP n/\s.cP n<=J
 at_:∀ n,0<=n->n<24->0<=s.at_ n/\s.at_ n<=40
 aN:∀ n,0<=n->n<24->s.cP n≠0->s.aN n=1\/s.aN n=2\/s.aN n=3
 cb:∀ n,0<=n->n<24->s.aN n≠1->s.cb n=false
theorem MR{s:OS}(h:s.is n=0):0<=n/\n<24/\s.cP n≠0:=by
 grind [is]
theorem uv(s:OS):∀ k:Nat,(s.mX k= -1/\∀ j:Int,0<=j->j<k->s.cP j≠0)\/(0<=s.mX k/\s.mX k<k/\s.cP (s.mX k)=0/\∀ j:Int,0<=j->j<s.mX k->s.cP j≠0)
 | 0=>.inl ⟨rfl,fun j a b=>og⟩
 | k+1=>by
  unfold mX;rcases uv s k with⟨h1,h2⟩ | ⟨h1,h2,h3,h4⟩
  ·rw[if_neg og];by_cases c:s.cP (k:Int)=0
   ·rw[if_pos c];exact .inr ⟨og,og,c,fun j a b=>h2 j a og⟩
   ·rw[if_neg c];refine .inl ⟨rfl,fun j a b=> ?_⟩;by_cases e:j=(k:Int)
    ·subst e;exact c
    ·exact h2 j a og
  ·rw[if_pos h1];exact .inr ⟨h1,og,h3,h4⟩
def DA{s:OS}(h1:0<=i)(h2:i<24)(ho:∀ j,0<=j->j<i->s.cP j≠0)(hz:s.cP i=0):s.first=i:=by
 grind [first,uv]
theorem nD{s:OS}(h:¬s.first<0):0<=s.first/\s.first<24/\s.cP s.first=0:=by
 grind [first,uv]
theorem HH(s:OS):∀ k,s.fx 1 k=if 0<=s.mX k then [s.mX k]else []
 | 0=>rfl
 | k+1=>by
  unfold fx mX;rw[HH s k];by_cases c:0<=s.mX k
  ·simp only[c,if_true,List.length_singleton];rw[if_neg og]
  ·simp only[c,if_false,List.length_nil];by_cases q:s.cP (k:Int)=0
   ·rw[if_pos ⟨q,og⟩,if_pos q,if_pos og];rfl
   ·rw[if_neg fun h=>q h.1,if_neg q,if_neg og]
def Ge(s:OS)(m:Int):∀ k,(s.fx m k).length<=k
 | 0=>Nat.le_refl _
 | k+1=>by
  have:=Ge s m k;grind [fx]
def MU(s:OS)(m:Int)(h:0<=i):s.fx m (i+1).toNat=if s.cP i=0/\((s.fx m i.toNat).length:Int)<m then s.fx m i.toNat++[i]else s.fx m i.toNat:=by
 rw[show(i+1).toNat=i.toNat+1 by omega];grind [fx]
theorem B8{s:OS}(h:((s.fx 1 24).length:Int)<1):s.first<0:=by
 rw[HH]at h;grind [first]
def U9{s:OS}(h:¬((s.fx 1 24).length:Int)<1):¬s.first<0/\s.fx 1 24=[s.first]:=by
 rw[HH]at h ⊢;grind [first]
end OS
def nS(F:FF)(O:OS)(n:Int):Int:=if F.cF n 1≠0 then F.cF n 1 else if O.first<0 then 4 else 0
def uw(F:FF)(O:OS)(n:Int):Int:=if nS F O n=0 then O.first else 0
def su(F:FF)(O:OS)(n:Int):FF:=if nS F O n=0 then F.dZ n else F
def qg(F:FF)(O:OS)(n:Int)(w:Bool):OS:=if nS F O n=0 then O.lay O.first 1 n w else O
def qh(O:OS)(n:Int):OS:=if O.is n=0 then {O with cP:=ad O.cP n (O.cP n+1)} else O
def Kl(O:OS)(n:Int):OS:= {O with cP:=ad O.cP n (O.cP n-1)}
def OM(O:OS)(n:Int):Prop:=O.is n=0/\¬ 0<O.cP n-1
instance (O:OS) (n:Int):Decidable (OM O n):=by unfold OM;infer_instance
def km(F:FF)(P:PS)(O:OS)(n:Int):Int:=if O.is n≠0 then O.is n else if 0<O.cP n-1 then 0 else if O.aN n=1 then F.Ds (O.n n)else(P.mL (O.n n) (decide (O.aN n=3)) (-1)).1
def mY(F:FF)(O:OS)(n:Int):FF:=if OM O n/\O.aN n=1 then F.kO (O.n n)else F
def kQ(P:PS)(O:OS)(n:Int):PS:=if OM O n/\¬O.aN n=1 then(P.mL (O.n n) (decide (O.aN n=3)) (-1)).2 else P
def kR(O:OS)(n:Int):OS:=if O.is n≠0 then O else if 0<O.cP n-1 then Kl O n else O.Et n
def ux(F:FF)(P:PS)(O:OS)(n m:Int):Int:=if O.is n≠0 then O.is n else if O.aN n=3 then 8 else if O.aN n=2 then(P.mU (O.n n) m).2.1 else F.me (O.n n) (O.at_ n) m
def uy(F:FF)(P:PS)(O:OS)(n m:Int):ByteArray:=if O.is n≠0 then⟨#[]⟩else if O.aN n=3 then⟨#[]⟩else if O.aN n=2 then(P.mU (O.n n) m).1 else F.kJ (O.n n) (O.at_ n) m
def qi(P:PS)(O:OS)(n m:Int):PS:=if O.is n=0/\O.aN n=2 then(P.mU (O.n n) m).2.2 else P
def qj(F:FF)(O:OS)(n m:Int):OS:=if O.is n=0/\¬O.aN n=3/\¬O.aN n=2 then O.move n ((F.kJ (O.n n) (O.at_ n) m).size)else O
def iQ(F:FF)(P:PS)(O:OS)(n:Int)(x:ByteArray):Int:=if O.is n≠0 then O.is n else if O.aN n=3 then(P.cb (O.n n) x).2.1 else if O.aN n=2\/O.cb n=false then 8 else F.fc (O.n n) (O.at_ n) x
def DB(O:OS)(n:Int):Prop:=O.is n=0/\¬O.aN n=3/\¬(O.aN n=2\/O.cb n=false)
instance (O:OS) (n:Int):Decidable (DB O n):=by unfold DB;infer_instance
def jv(F:FF)(P:PS)(O:OS)(n:Int)(x:ByteArray):Int:=if O.is n=0/\O.aN n=3 then(P.cb (O.n n) x).1 else if DB O n/\F.fc (O.n n) (O.at_ n) x=0 then(x.size:Int)else 0
def mi(P:PS)(O:OS)(n:Int)(x:ByteArray):PS:=if O.is n=0/\O.aN n=3 then(P.cb (O.n n) x).2.2 else P
def iA(F:FF)(O:OS)(n:Int)(x:ByteArray):FF:=if DB O n then F.cb (O.n n) (O.at_ n) x else F
def jw(F:FF)(O:OS)(n:Int)(x:ByteArray):OS:=if DB O n/\F.fc (O.n n) (O.at_ n) x=0 then O.move n (x.size)else O
def nF(O:OS)(n a:Int):Int:=if O.is n≠0 then O.is n else if O.aN n≠1 then 11 else if a<0\/40<a then 1 else 0
def wo(O:OS)(n a:Int):OS:=if nF O n a=0 then {O with at_:=ad O.at_ n a} else O
theorem OS.jB(s:OS)(n:Int):(s.is n=0/\0<=n/\n<24/\¬s.cP n=0)\/(s.is n=1/\(n<0\/24<=n))\/(s.is n=2/\0<=n/\n<24/\s.cP n=0):=by
 unfold OS.is;split;all_goals omega
def aaQ(x:Int):(fS [x])[0+(0:Int).toNat*1]? =some (iI x):=rfl
theorem OS.Km(O:OS)(n:Int):(Kl O n).Et n=O.Et n:=by
 unfold OS.Et Kl;simp only[FF.Gc]
def FF.Ko{s:FF}(h:s.Sh)(n a m:Int):(s.kJ n a m).size<=40/\(0<=a->a<=40->a+((s.kJ n a m).size:Int)<=40):=by
 unfold kJ;split
 ·rename_i e;have e1:s.cF n 1=0/\0<=a/\0<=m:=by
   grind [me]
  obtain⟨i1,i2,_⟩:=jt e1.1;have hd:=h.data n i1 i2;grind [ByteArray.size_extract]
 simp_all
namespace OS
def jI(s:OS):Int:=(s.lay s.first 2 0 false).first
def ON(s:OS):∀ k:Nat,0<=s.Dz k/\s.Dz k<=k
 | 0=>by simp[Dz]
 | k+1=>by
  have:=ON s k;grind [Dz]
def Al{s:OS}(h:∀ n,0<=n->n<24->0<=s.cP n)(m:Int)(hm:0<=m):∀ k:Nat,k<=24->((s.fx m k).length:Int)=min m (k-s.Dz k)
 | 0,_=>by simp[fx,Dz];omega
 | k+1,hk=>by
  have ih:=Al h m hm k og;grind [fx,Dz]
def HI(s:OS):∀ k:Nat,(s.fx 2 k=[]/\∀ j:Int,0<=j->j<k->s.cP j≠0)\/(∃ a:Int,s.fx 2 k=[a]/\0<=a/\a<k/\s.cP a=0/\∀ j:Int,0<=j->j<k->j≠a->s.cP j≠0)\/
  (∃ a b:Int,s.fx 2 k=[a,b]/\0<=a/\a<b/\b<k/\s.cP a=0/\s.cP b=0/\∀ j:Int,0<=j->j<b->j≠a->s.cP j≠0)
 | 0=>.inl ⟨rfl,fun j a b=>og⟩
 | k+1=>by
  unfold fx;rcases HI s k with⟨h1,h2⟩ | ⟨a,h1,h2,h3,h4,h5⟩ | ⟨a,b,h1,h2,h3,h4,h5,h6,h7⟩
  ·rw[h1];by_cases c:s.cP (k:Int)=0
   ·rw[if_pos ⟨c,sq⟩];exact .inr (.inl ⟨k,rfl,og,og,c,fun j x y z=>h2 j x og⟩)
   ·rw[if_neg fun q=>c q.1];refine .inl ⟨rfl,fun j x y=> ?_⟩;by_cases e:j=(k:Int)
    ·subst e;exact c
    ·exact h2 j x og
  ·rw[h1];by_cases c:s.cP (k:Int)=0
   ·rw[if_pos ⟨c,sq⟩];exact .inr (.inr ⟨a,k,rfl,h2,h3,og,h4,c,fun j x y z=>h5 j x og z⟩)
   ·rw[if_neg fun q=>c q.1];refine .inr (.inl ⟨a,rfl,h2,og,h4,fun j x y z=> ?_⟩);by_cases e:j=(k:Int)
    ·subst e;exact c
    ·exact h5 j x og z
  ·rw[h1,if_neg fun q=>by have:=q.2;simp at this];exact .inr (.inr ⟨a,b,rfl,h2,h3,og,h5,h6,h7⟩)
def Va{s:OS}(h:((s.fx 2 24).length:Int)<2):s.first<0\/s.jI<0:=by
 rcases s.HI 24 with⟨h1,h2⟩ | ⟨a,h1,h2,h3,h4,h5⟩ | ⟨a,b,h1,_⟩
 ·grind [nD]
 ·right;have e:s.first=a:=DA h2 h3 (fun j x y=>h5 j x og og) h4
  refine Decidable.byContradiction fun c=> ?_;have q:=nD (s:=s.lay s.first 2 0 false) c;have q3:=q.2.2;rw[show(s.lay s.first 2 0 false).cP=ad s.cP s.first 1 from rfl,show(s.lay s.first 2 0 false).first=s.jI from rfl]at q3;by_cases z:s.jI=a;all_goals grind [aj,ae,jI]
 simp_all
def Ra{s:OS}(h:¬((s.fx 2 24).length:Int)<2):¬s.first<0/\¬s.jI<0/\s.fx 2 24=[s.first,s.jI]:=by
 rcases s.HI 24 with⟨h1,h2⟩ | ⟨a,h1,h2,h3,h4,h5⟩ | ⟨a,b,h1,h2,h3,h4,h5,h6,h7⟩
 ·simp_all
 ·simp_all
 ·have e:s.first=a:=DA h2 og (fun j x y=>h7 j x og og) h5
  have e2:s.jI=b:=by
   unfold jI;refine DA og og (fun j x y=> ?_) ?_
   ·show ad s.cP s.first 1 j≠0
    grind [aj,ae]
   ·show ad s.cP s.first 1 b=0
    grind [ae]
  grind
def Kp(s:OS):0<=s.opens/\s.opens<=24:=by
 have:=s.ON 24;grind [opens]
end OS
def OO(O:OS)(m:Int):Bool:=decide (m<1)||decide (m<=24-O.opens)
def kS(P:PS)(O:OS):Int:=if O.first<0\/O.jI<0 then 4 else P.make.2.1
def nT(P:PS)(O:OS):PS:=if O.first<0\/O.jI<0 then P else P.make.2.2
def nU(P:PS)(O:OS):OS:=if kS P O=0 then(O.lay O.first 2 P.make.1 false).lay O.jI 3 P.make.1 false else O
def nV(P:PS)(O:OS):Int:=if kS P O=0 then O.first else 0
def pq(P:PS)(O:OS):Int:=if kS P O=0 then O.jI else 0
def Vb(x y:Int):(fS [x,y])[0+(0:Int).toNat*1]? =some (iI x):=rfl
def Vc(x y:Int):(fS [x,y])[0+(1:Int).toNat*1]? =some (iI y):=rfl
theorem PS.Vd{s:PS}(h:s.Inv K)(hK:0<=K):(s.make).2.2.Inv (K+1):=by
 unfold PS.make;cases hf:dS (fun k=>s.e k 0+s.e k 1==0) 8 with
 | none=>exact h.mono og
 | some k=>
  have hz:s.e k 0+s.e k 1=0:=by
   grind [dS]
  refine⟨fun n=> ?_,fun n=> ?_,fun n hn=> ?_,h.len⟩
  ·grind [cI,Inv]
  ·grind [cI,Inv]
  ·grind [cI,Inv]
def PS.Ve{s:PS}{d:Int}{w:Bool}(h:s.Inv K)(hd:d=1\/d= -1):(s.mL n w d).2.Inv (K+1):=by
 unfold PS.mL;by_cases h1:s.is n≠0
 ·grind [PS.Inv.mono]
 rw[if_neg h1];by_cases h2:s.e n (Iz w)=0
 ·grind [PS.Inv.mono]
 rw[if_neg h2];have b0:=h.e0;have b1:=h.e1;have hw:Iz w=0\/Iz w=1:=by cases w<;>simp[Iz]
 refine⟨fun m=> ?_,fun m=> ?_,fun m hm=> ?_,fun m=> ?_⟩;all_goals grind [cI,ad,ByteArray.size,Inv]
theorem PS.Vf{s:PS}{m:Int}(h:s.Inv K):(s.mU n m).2.2.Inv (K+1):=by
 have hh:=h.mono (show K<=K+1 by omega);unfold PS.mU;split
 ·omega
 ·split
  ·omega
  ·split
   ·omega
   ·split;all_goals grind [ad,ByteArray.size_extract,Inv]
theorem PS.Rb{s:PS}{t:ByteArray}(h:s.Inv K):(s.cb n t).2.2.Inv (K+1):=by
 have hh:=h.mono (show K<=K+1 by omega);unfold PS.cb;split
 ·omega
 ·split
  ·omega
  ·rename_i h1;split
   ·omega
   ·split;all_goals grind [ad,ByteArray.size_extract,Inv]
theorem OS.Inv.mono{s:OS}{J':Int}(h:s.Inv J)(hJ:J<=J'):s.Inv J':=
 ⟨fun n a b=>⟨(h.cP n a b).1,Int.le_trans (h.cP n a b).2 hJ⟩,h.at_,h.aN,h.cb⟩
theorem OS.Inv.du:OS.du.Inv 1:=
 ⟨fun _ _ _=>by simp[OS.du],fun _ _ _=>by simp[OS.du],fun n _ _ h=>absurd rfl h,fun _ _ _ _=>rfl⟩
theorem OS.Inv.lay{s:OS}{J:Int}(h:s.Inv J)(hJ:1<=J)(z k n:Int)(w:Bool)(hk:k=1\/k=2\/k=3)(hw:k≠1->w=false):(s.lay z k n w).Inv J:=by
 refine⟨fun y a b=> ?_,fun y a b=> ?_,fun y a b c=> ?_,fun y a b c=> ?_⟩
 ·show 0<=ad s.cP z 1 y/\ad s.cP z 1 y<=J;by_cases q:y=z;all_goals grind [aj,ae,Inv]
 ·show 0<=ad s.at_ z 0 y/\ad s.at_ z 0 y<=40;by_cases q:y=z;all_goals grind [aj,ae,Inv]
 ·show ad s.aN z k y=1\/ad s.aN z k y=2\/ad s.aN z k y=3;by_cases q:y=z
  ·grind [aj]
  ·rw[ae _ _ q];refine h.aN y a b ?_;have c':ad s.cP z 1 y≠0:=c;grind [ae]
 ·show ad s.cb z w y=false;have c':ad s.aN z k y≠1:=c;by_cases q:y=z;all_goals grind [aj,ae,Inv]
theorem OS.Inv.aaR{s:OS}{J':Int}(h:s.Inv J)(hJ:J<=J')(n r:Int)(hr:0<=r/\r<=J')(hn:s.cP n≠0):({s with cP:=ad s.cP n r} :OS).Inv J':=by
 refine⟨fun y a b=> ?_,h.at_,fun y a b c=> ?_,h.cb⟩
 ·show 0<=ad s.cP n r y/\ad s.cP n r y<=J';by_cases q:y=n;all_goals grind [Inv,ad]
 grind [ae,Inv]
theorem OS.Inv.atI{s:OS}(h:s.Inv J)(n r:Int)(hr:0<=r/\r<=40):({s with at_:=ad s.at_ n r} :OS).Inv J:=by
 refine⟨h.cP,fun y a b=> ?_,h.aN,h.cb⟩;show 0<=ad s.at_ n r y/\ad s.at_ n r y<=40;by_cases q:y=n;all_goals grind [Inv,ad]
def OS.Inv.Et{s:OS}{J:Int}(h:s.Inv J)(hJ:0<=J)(z:Int):(s.Et z).Inv J:=by
 refine⟨fun y a b=> ?_,fun y a b=> ?_,fun y a b c=> ?_,fun y a b c=> ?_⟩
 ·show 0<=ad s.cP z 0 y/\ad s.cP z 0 y<=J;by_cases q:y=z;all_goals grind [aj,ae,Inv]
 ·show 0<=ad s.at_ z 0 y/\ad s.at_ z 0 y<=40;by_cases q:y=z;all_goals grind [aj,ae,Inv]
 ·show ad s.aN z 0 y=1\/ad s.aN z 0 y=2\/ad s.aN z 0 y=3;have c':ad s.cP z 0 y≠0:=c;by_cases q:y=z;all_goals grind [aj,ae,Inv]
 ·show ad s.cb z false y=false;have c':ad s.aN z 0 y≠1:=c;by_cases q:y=z;all_goals grind [aj,ae,Inv]
def OS.Inv.Kq{O:OS}(h:O.Inv J)(hJ:1<=J)(P:PS):(nU P O).Inv (J+1):=by
 grind [nU,lay,OS.Inv.mono]
def OS.Inv.aaS{O:OS}(h:O.Inv J)(n:Int):(qh O n).Inv (J+1):=by
 grind [qh,MR,OS.Inv.aaR,OS.Inv.mono,Inv]
def OS.Inv.close{O:OS}(h:O.Inv J)(n:Int):(kR O n).Inv (J+1):=by
 have h0:=h.cP 0 og og;unfold kR;split
 ·grind [OS.Inv.mono]
 ·rename_i c;obtain⟨i1,i2,i3⟩:=OS.MR (Decidable.not_not.1 c);have:=h.cP n i1 i2;split
  ·exact h.aaR og n _ og i3
  ·exact(h.Et og n).mono og
theorem OS.Inv.mU{O:OS}(h:O.Inv J){F:FF}(hF:F.Sh)(n m:Int):(qj F O n m).Inv (J+1):=by
 unfold qj;split
 ·rename_i c;obtain⟨i1,i2,i3⟩:=OS.MR c.1;have h2:=h.at_ n i1 i2;have h3:=(FF.Ko hF (O.n n) (O.at_ n) m).2 h2.1 h2.2;exact(h.atI n _ og).mono og
 grind [OS.Inv.mono]
def FF.Rc{F:FF}{a:Int}{x:ByteArray}(h:F.fc n a x=0):0<=a/\a+x.size<=40:=by
 grind [fc]
def OS.Inv.acD{O:OS}(h:O.Inv J)(F:FF)(n:Int)(x:ByteArray):(jw F O n x).Inv (J+1):=by
 unfold jw;split
 ·rename_i c;obtain⟨i1,i2,i3⟩:=OS.MR c.1.1;have h2:=h.at_ n i1 i2;have h3:=FF.Rc c.2;exact(h.atI n _ og).mono og
 grind [OS.Inv.mono]
def OS.Inv.Kr{O:OS}(h:O.Inv J)(n a:Int):(wo O n a).Inv (J+1):=by
 grind [wo,nF,OS.Inv.atI,OS.Inv.mono]
def MV{P:PS}(h:P.Inv K)(hK:0<=K)(O:OS):(nT P O).Inv (K+1):=by
 grind [nT,PS.Inv.mono,PS.Vd]
def MW{P:PS}(h:P.Inv K)(O:OS)(n m:Int):(qi P O n m).Inv (K+1):=by
 grind [qi,PS.Vf,PS.Inv.mono]
def Ks{P:PS}(h:P.Inv K)(O:OS)(n:Int)(x:ByteArray):(mi P O n x).Inv (K+1):=by
 grind [mi,PS.Rb,PS.Inv.mono]
theorem yP(F:FF)(O:OS)(n:Int):(mY F O n).roots=F.roots:=by
 grind [mY,FF.mW]
theorem E2(F:FF)(O:OS)(n:Int)(x:ByteArray):(iA F O n x).roots=F.roots:=by
 unfold iA;split
 ·exact FF.Kj _ _ _ _
 rfl
structure WH where
 dD:Int
 node:Int
instance:DecidableEq WH:=fun a b=>if h:a.dD=b.dD/\a.node=b.node then isTrue (by cases a;cases b;simp only at h;rw[h.1,h.2])else isFalse fun e=>h (by rw[e];exact⟨rfl,rfl⟩)
theorem Re{a b:WH} :(a.dD=b.dD/\a.node=b.node)↔a=b:=⟨fun h=>by cases a;cases b;simp only at h;rw[h.1,h.2],fun e=>by rw[e];exact⟨rfl,rfl⟩⟩
def WH.nil:WH:=⟨0,0⟩
abbrev WH.cR(w:WH):Array Value:= #[iI w.dD,iI w.node]
def aY(w:WH)(i:Nat):Value:=if i=0 then iI w.dD else if i=1 then iI w.node else undef
structure MT where
 at_:WH
 to:WH
def MT.nil:MT:=⟨WH.nil,WH.nil⟩
abbrev MT.cR(m:MT):Array Value:= #[iI m.at_.dD,iI m.at_.node,iI m.to.dD,iI m.to.node]
def fE(m:MT)(i:Nat):Value:=if i=0 then iI m.at_.dD else if i=1 then iI m.at_.node else if i=2 then iI m.to.dD else if i=3 then iI m.to.node else undef
def qk(l:List MT)(z:Int):MT:=l.getD z.toNat MT.nil
def LA(l:List WH)(z:Int):WH:=l.getD z.toNat WH.nil
def mC(l:List MT)(i:Nat):Value:=fE (qk l ((i/4:Nat):Int)) (i%4)
def wC(l:List WH)(i:Nat):Value:=aY (LA l ((i/2:Nat):Int)) (i%2)
def MC(C:Nat->Value)(l:List MT):Prop:=∀ i,i<l.length*4->C i=mC l i
theorem aY.box(w:WH):∀ i,i<2->cellsOf (WH.cR w) i=aY w i:=fun i h=>match i,h with
 | 0,_=>rfl
 | 1,_=>rfl
 | j+2,h=>absurd h og
def aY.agg(w:WH):0+2<=2/\de (aY w) 0 2= .agg (WH.cR w):=⟨og,rfl⟩
def aY.B3(w:WH):0+0<2/\aY w (0+0)=iI w.dD:=⟨og,rfl⟩
def aY.Ev(w:WH):0+1<2/\aY w (0+1)=iI w.node:=⟨og,rfl⟩
theorem aY.st(w u:WH):0+2<=2/\cD (aY w) 0 (WH.cR u).toList=aY u:=by
 refine⟨og,?_⟩;funext i;match i with
 | 0=>rfl
 | 1=>rfl
 | k+2=>
  have e1:∀ w:WH,aY w (k+2)=undef:=fun w=>by unfold aY;rw[if_neg og,if_neg og]
  have e2:cD (aY w) 0 (WH.cR u).toList (k+2)=aY w (k+2):=by simp[cD,dJ]
  rw[e2,e1,e1]
theorem fE.box(m:MT):∀ i,i<4->cellsOf (MT.cR m) i=fE m i:=fun i h=>match i,h with
 | 0,_=>rfl
 | 1,_=>rfl
 | 2,_=>rfl
 | 3,_=>rfl
 | j+4,h=>absurd h og
def fE.lP(m:MT):0+0+2<=4/\de (fE m) (0+0) 2= .agg (WH.cR m.at_):=⟨og,rfl⟩
def Rg(m:MT):0+2+2<=4/\de (fE m) (0+2) 2= .agg (WH.cR m.to):=⟨og,rfl⟩
def xe(m:MT):0+0+1<4/\fE m (0+0+1)=iI m.at_.node:=⟨og,rfl⟩
def xf(m:MT):0+2+1<4/\fE m (0+2+1)=iI m.to.node:=⟨og,rfl⟩
theorem fE.st(m u:MT):0+4<=4/\cD (fE m) 0 (MT.cR u).toList=fE u:=by
 refine⟨og,?_⟩;funext i;match i with
 | 0=>rfl
 | 1=>rfl
 | 2=>rfl
 | 3=>rfl
 | k+4=>
  have e1:∀ w:MT,fE w (k+4)=undef:=fun w=>by unfold fE;rw[if_neg og,if_neg og,if_neg og,if_neg og]
  have e2:cD (fE m) 0 (MT.cR u).toList (k+4)=fE m (k+4):=by simp[cD,dJ]
  rw[e2,e1,e1]
def aL(bf:Nat)(r:WH)(v:Value)(i:Nat):Value:=if i=0 then az bf 0 0 else if i=1 then iI r.dD else if i=2 then iI r.node else if i=3 then v else undef
def aL.B3(r:WH)(v:Value):0+0<4/\aL bf r v (0+0)=az bf 0 0:=⟨og,rfl⟩
def aL.Ev(r:WH)(v:Value):0+1+2<=4/\de (aL bf r v) (0+1) 2= .agg (WH.cR r):=⟨og,rfl⟩
def Gf(r:WH)(v:Value):0+1+1<4/\aL bf r v (0+1+1)=iI r.node:=⟨og,rfl⟩
def kY(r:WH)(v:Value):0+3<4/\aL bf r v (0+3)=v:=⟨og,rfl⟩
def Vg(r u:WH)(v:Value):0+1+2<=4/\cD (aL bf r v) (0+1) (WH.cR u).toList=aL bf u v:=by
 refine⟨og,?_⟩;funext i;match i with
 | 0=>rfl
 | 1=>rfl
 | 2=>rfl
 | 3=>rfl
 | k+4=>
  have e1:∀ r v,aL bf r v (k+4)=undef:=fun r v=>by unfold aL;rw[if_neg og,if_neg og,if_neg og,if_neg og]
  have e2:cD (aL bf r v) (0+1) (WH.cR u).toList (k+4)=aL bf r v (k+4):=by simp[cD,dJ]
  rw[e2,e1,e1]
def DC(r:WH)(v u:Value):0+3<4/\dJ (aL bf r v) (0+3) u=aL bf r u:=by
 grind [aL,dJ]
abbrev acE(bf:Nat)(r:WH)(v:Value):Array Value:= #[az bf 0 0,iI r.dD,iI r.node,v]
theorem aL.box(bf:Nat)(r:WH)(v:Value):∀ i,i<4->cellsOf (acE bf r v) i=aL bf r v i:=fun i h=>match i,h with
 | 0,_=>rfl
 | 1,_=>rfl
 | 2,_=>rfl
 | 3,_=>rfl
 | j+4,h=>absurd h og
def afN(l:List MT)(z:Int)(hz:0<=z)(j:Nat)(hj:j<4):mC l (0+z.toNat*4+j)=fE (qk l z) j:=by
 unfold mC;grind
def MC.ld{l:List MT}(h:MC C l){k:Nat}(hk:l.length<=k)(z:Int)(q:0<=z/\z<l.length):0+z.toNat*4+4<=k*4/\de C (0+z.toNat*4) 4= .agg (MT.cR (qk l z)):=by
 refine⟨og,?_⟩;have e:=fun j (hj:j<4)=>(h (0+z.toNat*4+j) og).trans (afN l z q.1 j hj);simp only[de,List.range,List.range.loop,List.map_cons,List.map_nil];rw[e 0 og,e 1 og,e 2 og,e 3 og];rfl
def afO(l:List WH)(z:Int)(hz:0<=z)(j:Nat)(hj:j<2):wC l (0+z.toNat*2+j)=aY (LA l z) j:=by
 grind [wC]
def Vh(l:List WH)(z:Int)(q:0<=z/\z<l.length):0+z.toNat*2+2<=l.length*2/\de (wC l) (0+z.toNat*2) 2= .agg (WH.cR (LA l z)):=by
 refine⟨og,?_⟩;have e:=fun j (hj:j<2)=>afO l z q.1 j hj;simp only[de,List.range,List.range.loop,List.map_cons,List.map_nil];rw[e 0 og,e 1 og];rfl
def YX(l:List WH)(n:Nat)(i:Nat)(h:i<n*2):wC (l.take n) i=wC l i:=by
 grind [wC,LA]
def acF(l:List WH)(w:WH)(A:Nat->Value)(hA:∀ i,i<2->A i=aY w i)(i:Nat)(h:i<(l.length+1)*2):wC (l++[w]) i=if i<l.length*2 then wC l i else A (i-l.length*2):=by
 grind [wC,LA]
def MC.app{l:List MT}(h:MC C l)(m:MT)(h1:∀ i,i<l.length*4->D i=C i)(h2:∀ i,i<1*4->D (l.length*4+i)=fE m i):MC D (l++[m]):=fun i hi=>by
 grind [mC,qk,MC]
def MC.copy{l:List MT}(h:MC C l)(h1:∀ i,i<l.length*4->D i=C i):MC D l:=fun i hi=>(h1 i hi).trans (h i hi)
theorem MC.OE{l:List MT}(h:MC C l)(n:Nat)(hn:n<l.length)(h1:∀ j,j<n*4->D j=C j)(h2:∀ j,n*4<=j->j<(l.length-1)*4->D j=C (j+4)):MC D (l.eraseIdx n):=fun i hi=>by
 rw[List.length_eraseIdx_of_lt hn]at hi;by_cases c:i<n*4
 ·grind [mC,qk,MC]
 ·rw[h2 i og hi,h (i+4) og];grind [mC,qk]
def acG(m:MT):∀ i,i<4->cellsOf (MT.cR m) i=fE m i:=fE.box m
def Rh(l:List MT)(w:WH):Option WH:=(l.find? fun m=>decide (m.at_=w)).map (·.to)
def ovN(l:List MT):Nat->WH->WH
 | 0,w=>w
 | n+1,w=>match Rh l w with
  | some u=>ovN l n u
  | none=>w
def tj(l:List MT)(w:WH):WH:=ovN l 6 w
def B9{l:List MT}{z:Int}(h:0<=z/\z<l.length):l[z.toNat]? =some (qk l z):=by
 grind [qk]
def Vi{l:List MT}{w:WH}(h:∀ i:Int,0<=i->i<l.length->(qk l i).at_≠w):Rh l w=none:=by
 unfold Rh;rw[List.find?_eq_none.2 fun m hm=> ?_]
 ·rfl
 ·obtain⟨i,hi,rfl⟩:=List.mem_iff_getElem.1 hm;have:=h (i:Int) og og;grind [qk]
def Vj{l:List MT}{w:WH}(h0:0<=i/\i<l.length)(h:∀ j:Int,0<=j->j<i->(qk l j).at_≠w)(he:(qk l i).at_=w):Rh l w=some (qk l i).to:=by
 unfold Rh;have e:l.find? (fun m=>decide (m.at_=w))=some (qk l i):=by
  rw[List.find?_eq_some_iff_getElem];have e:=B9 h0;refine⟨by simpa using he,i.toNat,og,?_,fun j hj=> ?_⟩
  ·simp_all
  ·have e2:=B9 (l:=l) (z:=(j:Int)) ⟨og,og⟩;grind
 simp_all
theorem Vk{l:List MT}{w:WH}(h:Rh l w=none):∀ n,ovN l n w=w
 | 0=>rfl
 | n+1=>by unfold ovN;rw[h]
theorem Vl{l:List MT}{w u:WH}(h:Rh l w=some u)(n:Nat):ovN l (n+1) w=ovN l n u:=by
 grind [ovN]
def dd:ByteArray:=⟨#[46,46]⟩
def iB:ByteArray:=⟨#[47]⟩
def eb(s:ByteArray):List ByteArray:=Lib.splitB iB 0 (Lib.countB s iB) s
def xg(s:ByteArray):Bool:=decide (s=dd)||ki s
def iZ(p:ByteArray):Int:=if 60<p.size\/p=⟨#[]⟩\/p.get! 0≠47 then 9 else if p=iB then 0 else if(eb (p.extract 1 p.size)).all xg=true then 0 else 9
def bX(p:ByteArray):List ByteArray:=if iZ p=0/\p≠iB then eb (p.extract 1 p.size)else []
def kn(l:List WH):WH:=LA l ((l.length:Int)-1)
def wk(F:FF)(l:List MT):List WH->List ByteArray->Int×WH
 | dm,[]=>(0,kn dm)
 | dm,s::r=>if s=dd then wk F l (if 1<dm.length then dm.take (dm.length-1)else dm) r else if F.fK (kn dm).node s≠0 then(F.fK (kn dm).node s,WH.nil)else
   wk F l (dm++[tj l ⟨(kn dm).dD,F.bM (kn dm).node s⟩]) r
def Am(F:FF)(l:List MT)(r:WH)(ns:List ByteArray):Int×WH:=wk F l [tj l r] ns
def Vn(F:FF)(l:List MT)(r:WH)(p:ByteArray):Int:=if iZ p≠0 then iZ p else(Am F l r (bX p)).1
def Kt(F:FF)(l:List MT)(r:WH)(p:ByteArray):WH:=if iZ p≠0 then WH.nil else(Am F l r (bX p)).2
def nG(ns:List ByteArray):ByteArray:=kx ns ((ns.length:Int)-1)
def ko(ns:List ByteArray):List ByteArray:=ns.take (ns.length-1)
def HJ(F:FF)(l:List MT)(r:WH)(p:ByteArray):Int:=if iZ p≠0 then iZ p else if(bX p).length=0 then 0 else if nG (bX p)=dd then 9 else if(Am F l r (ko (bX p))).1≠0 then(Am F l r (ko (bX p))).1 else F.fK (Am F l r (ko (bX p))).2.node (nG (bX p))
def BL(F:FF)(l:List MT)(r:WH)(p:ByteArray):WH:=if HJ F l r p≠0 then WH.nil else if(bX p).length=0 then r else⟨(Am F l r (ko (bX p))).2.dD,F.bM (Am F l r (ko (bX p))).2.node (nG (bX p))⟩
def yQ(F:FF)(l:List MT)(r:WH)(p:ByteArray):Int:=if iZ p≠0 then iZ p else if(bX p).length=0\/nG (bX p)=dd then 9 else(Am F l r (ko (bX p))).1
def uz(F:FF)(l:List MT)(r:WH)(p:ByteArray):WH:=if yQ F l r p≠0 then WH.nil else(Am F l r (ko (bX p))).2
def ra(F:FF)(l:List MT)(r:WH)(p:ByteArray):ByteArray:=if yQ F l r p≠0 then⟨#[]⟩else nG (bX p)
def xh(F:FF)(w:WH):Int:=if F.cF w.node 0≠0 then F.cF w.node 0 else if F.aN w.node≠2\/F.dD w.node≠w.dD then 11 else 0
def Ku(l:List MT)(w:WH):Bool:=l.any fun m=>decide (m.at_=w)
def uA(F:FF)(l:List MT)(at_ to:WH):Int:=if xh F at_≠0 then xh F at_ else if xh F to≠0 then xh F to else if at_=to then 8 else if Ku l at_=true then 3 else if l.length=6 then 4 else 0
def pt(F:FF)(l:List MT)(at_ to:WH):List MT:=if uA F l at_ to=0 then l++[⟨at_,to⟩]else l
def re(F:FF)(l:List MT)(at_ to:WH):FF:=if uA F l at_ to=0 then(F.dZ at_.node).dZ to.node else F
def uB(l:List MT)(w:WH):Nat:=l.findIdx fun m=>decide (m.at_=w)
def yT(l:List MT)(w:WH):Int:=if uB l w<l.length then 0 else 2
def nk(l:List MT)(w:WH):List MT:=l.eraseIdx (uB l w)
def pW(F:FF)(l:List MT)(w:WH):FF:=if uB l w<l.length then(F.kO (qk l (uB l w)).at_.node).kO (qk l (uB l w)).to.node else F
def yU(F:FF):List MT->FF
 | []=>F
 | m::r=>yU ((F.dZ m.at_.node).dZ m.to.node) r
def DD(F:FF):List MT->FF
 | []=>F
 | m::r=>DD ((F.kO m.at_.node).kO m.to.node) r
def OP(F:FF)(l:List MT)(r:WH):FF:=yU (F.dZ r.node) l
def Ca(F:FF)(l:List MT)(r:WH):FF:=(DD F l).kO r.node
def OQ{P:Program}{n:Fr}{L:PF}{ty:TypeId}{pos:String}{af:Array Edge}{d:Nat}{t t':TypeId}{x y:Operand}{a b:WH}{φ:World->Prop}{gd:Option (Nat×Bool)}(hx:ev L x=some (.agg (WH.cR a)))(hy:ev L y=some (.agg (WH.cR b)))
  (hP:(P.underlying t=some (.struct (P.fieldsOf t))/\P.stoodInHeld t=false)/\P.eqGuardType P.depth t=false/\two P t=true):aZ P n L φ ⟨some d,.binOp .eql t x y t',ty,pos,af,gd⟩ (.bool (decide (a=b))):=by grind [afc,Re]
def Kv{x:ByteArray}(h:60<x.size\/x=⟨#[]⟩\/x.get! 0≠47):iZ x=9:=by grind [iZ]
def HK{x:ByteArray}(h:x=iB):iZ x=0/\bX x=[]:=by
 subst h;have e:iZ iB=0:=by
  rfl
 grind [bX]
theorem YY{l:List ByteArray}{y:ByteArray}(h:y∈l):∃ i:Int,0<=i/\i<l.length/\kx l i=y:=by
 obtain⟨i,hi,rfl⟩:=List.mem_iff_getElem.1 h;exact⟨(i:Int),og,og,by unfold kx;simp[hi]⟩
theorem MX{x:ByteArray}(hc:¬(60<x.size\/x=⟨#[]⟩\/x.get! 0≠47))(hs:¬x=iB)(hi:0<=i/\i<(eb (x.extract 1 x.size)).length)(h:xg (kx (eb (x.extract 1 x.size)) i)=false):iZ x=9:=by
 grind [iZ,kx]
def Kw{x:ByteArray}(hc:¬(60<x.size\/x=⟨#[]⟩\/x.get! 0≠47))(hs:¬x=iB)(h:∀ i:Int,0<=i->i<(eb (x.extract 1 x.size)).length->xg (kx (eb (x.extract 1 x.size)) i)=true):iZ x=0/\bX x=eb (x.extract 1 x.size):=by
 grind [iZ,YY,bX]
def Ri{ns:List ByteArray}{n:Nat}(hn:n<=ns.length)(h:0<=i/\i<n):(ns.take n).drop i.toNat=kx ns i::(ns.take n).drop (i+1).toNat:=by
 grind [List.drop_eq_getElem_cons,kx]
section
variable {F:FF} {l:List MT} {dm:List WH} {s:ByteArray} {r a:List ByteArray}
theorem afP(h:a=s::r)(hd:s=dd)(hl:1<dm.length):wk F l dm a=wk F l (dm.take (dm.length-1)) r:=by
 grind [wk]
theorem YZ(h:a=s::r)(hd:s=dd)(hl:¬ 1<dm.length):wk F l dm a=wk F l dm r:=by
 grind [wk]
theorem Y0(h:a=s::r)(hd:¬s=dd)(he:F.fK (kn dm).node s=0):wk F l dm a=wk F l (dm++[tj l ⟨(kn dm).dD,F.bM (kn dm).node s⟩]) r:=by
 grind [wk]
theorem acH(h:a=s::r)(hd:¬s=dd)(he:¬F.fK (kn dm).node s=0):wk F l dm a=(F.fK (kn dm).node s,WH.nil):=by
 grind [wk]
def acI{ns:List ByteArray}{n:Nat}(hn:n<=ns.length):wk F l dm ((ns.take n).drop ((n:Int)).toNat)=(0,kn dm):=by
 grind [List.drop_of_length_le,wk]
end
theorem air(b:Nat)(e:TypeId)(w:WH):aF.row (.slice (some ⟨b,0,none⟩) 1 1) e 2 1 #[Value.int .i64 w.dD,iI w.node].toList=aM (some ⟨b,0,none⟩) 1 e 2 1 (wC [w]):=by
 rfl
theorem ais(g:Nat)(e:TypeId)(a b:WH):aF.row (.slice (some ⟨g,0,none⟩) 2 2) e 2 2 #[Value.int .i64 a.dD,iI a.node,iI b.dD,iI b.node].toList=aM (some ⟨g,0,none⟩) 2 e 2 2 (wC [a,b]):=by
 rfl
theorem aaU{l:List MT}(h:0<=i/\i<l.length):l.drop i.toNat=qk l i::l.drop (i+1).toNat:=by
 grind [List.drop_eq_getElem_cons,qk]
theorem MY{F:FF}{l:List MT}(h:0<=i/\i<l.length):yU F (l.drop i.toNat)=yU ((F.dZ (qk l i).at_.node).dZ (qk l i).to.node) (l.drop (i+1).toNat):=by
 rw[aaU h];rfl
theorem Rj{F:FF}{l:List MT}(h:0<=i/\i<l.length):DD F (l.drop i.toNat)=DD ((F.kO (qk l i).at_.node).kO (qk l i).to.node) (l.drop (i+1).toNat):=by
 rw[aaU h];rfl
theorem Rk{F:FF}{l:List MT} :yU F (l.drop ((l.length:Int)).toNat)=F:=by
 grind [List.drop_of_length_le,yU]
theorem Vo{F:FF}{l:List MT} :DD F (l.drop ((l.length:Int)).toNat)=F:=by
 grind [List.drop_of_length_le,DD]
theorem Bk{l:List MT}{w:WH}(h:∀ i:Int,0<=i->i<l.length->(qk l i).at_≠w):Ku l w=false:=by
 unfold Ku;rw[List.any_eq_false];intro m hm;obtain⟨i,hi,rfl⟩:=List.mem_iff_getElem.1 hm;have:=h (i:Int) og og;grind [qk]
theorem MZ{l:List MT}{w:WH}(h0:0<=i/\i<l.length)(he:(qk l i).at_=w):Ku l w=true:=by
 grind [Ku,qk]
def M0{l:List MT}{w:WH}(h0:0<=i/\i<l.length)(h:∀ j:Int,0<=j->j<i->(qk l j).at_≠w)(he:(qk l i).at_=w):uB l w=i.toNat:=by
 unfold uB;rw[List.findIdx_eq og];have e:=B9 h0;rw[List.getElem?_eq_getElem og,Option.some.injEq]at e;refine⟨by rw[e];simpa using he,fun j hj=> ?_⟩;have e2:=B9 (l:=l) (z:=(j:Int)) ⟨og,og⟩;grind
def M1{l:List MT}{w:WH}(h:∀ i:Int,0<=i->i<l.length->(qk l i).at_≠w):uB l w=l.length:=by
 unfold uB;rw[List.findIdx_eq_length];intro m hm;obtain⟨i,hi,rfl⟩:=List.mem_iff_getElem.1 hm;have:=h (i:Int) og og;grind [qk]
def C0:Nat->Value:=fun _=>undef
def afQ:RV.ok ⟨none,0,0,([]:List MT).length,0,C0⟩:=.inl ⟨rfl,rfl⟩
theorem An{F:FF}{l:List MT}{a z:WH}(hi:0<=i/\i<2)(hda:1<=i->xh F a=0)(h:xh F (LA [a,z] i)≠0):uA F l a z=xh F (LA [a,z] i):=by
 grind [uA,LA]
def Vp{F:FF}{d:Int->Nat}{B:Int}(h:F.Ok d B)(l:List MT)(a z:WH):(re F l a z).Ok d (B+2):=by
 unfold re;split
 ·have:=(h.dZ a.node).dZ z.node;grind
 ·exact⟨h.inv,fun n a b=>Int.le_trans (h.bj n a b) og,by have:=h.nn;omega⟩
def Y1{F:FF}{d:Int->Nat}{B:Int}(h:F.Ok d B)(l:List MT)(w:WH):(pW F l w).Ok d (B+2):=by
 unfold pW;split
 ·have:=(h.kO (qk l (uB l w)).at_.node).kO (qk l (uB l w)).to.node;grind
 ·exact⟨h.inv,fun n a b=>Int.le_trans (h.bj n a b) og,by have:=h.nn;omega⟩
end Go.X.Tr
