import Derived.Test.YthdinakloheinaaGreatDoorkNM
import Derived.Test.YthdinakloheinaaGreatDoorkJYCF
import Derived.Lib.SplitLaws
set_option linter.all false
namespace Go.X.Tr
open Go Go.X
theorem iw(C:Nat->Value):∀ (vs:List Value) (i j:Nat),j<i->cD C i vs j=C j
 | [],_,_,_=>rfl
 | v::r,i,j,h=>by
  unfold cD;rw[iw (dP C i v) r (i+1) j og];simp[dP];omega
theorem fP:∀ (vs:List Value) (C:Nat->Value) (i j:Nat) (v:Value),vs[j]? =some v->cD C i vs (i+j)=v
 | [],_,_,_,_,h=>by simp at h
 | u::r,C,i,0,v,h=>by
  have h2:u=v:=by simpa using h
  unfold cD;rw[iw _ _ _ _ og,<-h2];simp[dP]
 | u::r,C,i,j+1,v,h=>by
  unfold cD;have:=fP r (dP C i u) (i+1) j v (by simpa using h);rw[show i+1+j=i+(j+1)from og]at this;exact this
theorem ix:∀ (vs:List Value) (C:Nat->Value) (i j:Nat),i+vs.length<=j->cD C i vs j=C j
 | [],_,_,_,_=>rfl
 | v::r,C,i,j,h=>by
  simp only[List.length_cons]at h;unfold cD;rw[ix r (dP C i v) (i+1) j og];simp[dP];omega
structure aC.U where
 aO:Int
 dJ:Int
 bM:Int
 bj:Int
 data:ByteArray
 up:Int
 aI:List ByteArray
 nP:Option Addr
 nC:Nat
 kids:List Int
 kP:Option Addr
 kC:Nat
def aC.un(s:FC)(z:Int):aC.U:=⟨s.aO z,s.dJ z,s.bM z,s.bj z,s.data z,s.up z,s.aI z,s.nP z,s.nC z,s.kids z,s.kP z,s.kC z⟩
def aC.cell(u:aC.U)(j:Nat):Value:=
 if j=0 then iI u.aO else
 if j=1 then iI u.dJ else
 if j=2 then iI u.bM else
 if j=3 then iI u.bj else
 if j=4 then .string u.data else
 if 5<=j/\j<6 then .slice u.nP u.aI.length u.nC else
 if 6<=j/\j<7 then .slice u.kP u.kids.length u.kC else
 if j=7 then iI u.up else
 undef
def aC(s:FC)(i:Nat):Value:=
 if i<320 then aC.cell (aC.un s ((i/8:Nat):Int)) (i%8)else
 if i=320 then Value.slice s.rP s.roots.length s.rC else
 undef
theorem aC.at_(s:FC)(z:Int)(h:0<=z/\z<40)(j:Nat)(hj:j<8):aC s (0+0+z.toNat*8+j)=aC.cell (aC.un s z) j:=by
 unfold aC;grind
theorem aC.set(s s':FC)(z:Int)(h:0<=z/\z<40)(k:Nat)(hk:k<8)(v:Value)(hv:∀ j,aC.cell (aC.un s' z) j=if j=k then v else aC.cell (aC.un s z) j)(ho:∀ y,¬y=z->aC.un s' y=aC.un s y)(hn:Value.slice s'.rP s'.roots.length s'.rC=Value.slice s.rP s.roots.length s.rC):0+0+z.toNat*8+k<321/\dP (aC s) (0+0+z.toNat*8+k) v=aC s':=by
 grind [dP,aC]
def aC.TP(s s':FC)(z:Int)(h:0<=z/\z<40)(vs:List Value)(hl:vs.length=8)(hv:∀ j,j<8->vs[j]? =some (aC.cell (aC.un s' z) j))(ho:∀ y,¬y=z->aC.un s' y=aC.un s y)(hn:Value.slice s'.rP s'.roots.length s'.rC=Value.slice s.rP s.roots.length s.rC):0+0+z.toNat*8+8<=321/\cD (aC s) (0+0+z.toNat*8) vs=aC s':=by
 refine⟨og,?_⟩;funext i;by_cases a1:i<0+0+z.toNat*8
 ·rw[iw _ _ _ _ a1];unfold aC;grind
 ·by_cases a2:i<0+0+z.toNat*8+8
  ·obtain⟨j,rfl⟩:∃ j,i=0+0+z.toNat*8+j:=⟨i-(0+0+z.toNat*8),og⟩;rw[aC.at_ s' z h j og];exact fP vs _ _ _ _ (hv j og)
  ·rw[ix _ _ _ _ og];unfold aC;grind
def fR(s:FC)(z:Int)(h:0<=z/\z<40:=by omega):0+0+z.toNat*8+0<321/\aC s (0+0+z.toNat*8+0)=iI (s.aO z):=⟨og,aC.at_ s z h 0 og⟩
def gP(s:FC)(z:Int)(h:0<=z/\z<40:=by omega):0+0+z.toNat*8+1<321/\aC s (0+0+z.toNat*8+1)=iI (s.dJ z):=⟨og,aC.at_ s z h 1 og⟩
def lA(s:FC)(z:Int)(h:0<=z/\z<40:=by omega):0+0+z.toNat*8+2<321/\aC s (0+0+z.toNat*8+2)=iI (s.bM z):=⟨og,aC.at_ s z h 2 og⟩
def n5(s:FC)(z:Int)(h:0<=z/\z<40)(v:Int):0+0+z.toNat*8+2<321/\dP (aC s) (0+0+z.toNat*8+2) (iI v)=aC {s with bM:=ad s.bM z v} :=aC.set s {s with bM:=ad s.bM z v} z h 2 og _ (fun j=>by
 have e:aC.un {s with bM:=ad s.bM z v} z= {aC.un s z with bM:=v} :=by unfold aC.un;simp only[aj]
 rw[e]
 by_cases hj:j=2
 ·subst hj;rfl
 ·unfold aC.cell;simp only[if_neg hj]) (fun y hy=>by unfold aC.un;simp only[ae _ _ hy]) rfl
def kr(s:FC)(z:Int)(h:0<=z/\z<40:=by omega):0+0+z.toNat*8+3<321/\aC s (0+0+z.toNat*8+3)=iI (s.bj z):=⟨og,aC.at_ s z h 3 og⟩
def ur(s:FC)(z:Int)(h:0<=z/\z<40)(v:Int):0+0+z.toNat*8+3<321/\dP (aC s) (0+0+z.toNat*8+3) (iI v)=aC {s with bj:=ad s.bj z v} :=aC.set s {s with bj:=ad s.bj z v} z h 3 og _ (fun j=>by
 have e:aC.un {s with bj:=ad s.bj z v} z= {aC.un s z with bj:=v} :=by unfold aC.un;simp only[aj]
 rw[e]
 by_cases hj:j=3
 ·subst hj;rfl
 ·unfold aC.cell;simp only[if_neg hj]) (fun y hy=>by unfold aC.un;simp only[ae _ _ hy]) rfl
def px(s:FC)(z:Int)(h:0<=z/\z<40:=by omega):0+0+z.toNat*8+4<321/\aC s (0+0+z.toNat*8+4)= .string (s.data z):=⟨og,aC.at_ s z h 4 og⟩
def DD(s:FC)(z:Int)(h:0<=z/\z<40)(v:ByteArray):0+0+z.toNat*8+4<321/\dP (aC s) (0+0+z.toNat*8+4) (.string v)=aC {s with data:=ad s.data z v} :=aC.set s {s with data:=ad s.data z v} z h 4 og _ (fun j=>by
 have e:aC.un {s with data:=ad s.data z v} z= {aC.un s z with data:=v} :=by unfold aC.un;simp only[aj]
 rw[e]
 by_cases hj:j=4
 ·subst hj;rfl
 ·unfold aC.cell;simp only[if_neg hj]) (fun y hy=>by unfold aC.un;simp only[ae _ _ hy]) rfl
def yJ(s:FC)(z:Int)(h:0<=z/\z<40:=by omega):0+0+z.toNat*8+7<321/\aC s (0+0+z.toNat*8+7)=iI (s.up z):=⟨og,aC.at_ s z h 7 og⟩
def sC(s:FC)(z:Int)(h:0<=z/\z<40)(v:Int):0+0+z.toNat*8+7<321/\dP (aC s) (0+0+z.toNat*8+7) (iI v)=aC {s with up:=ad s.up z v} :=aC.set s {s with up:=ad s.up z v} z h 7 og _ (fun j=>by
 have e:aC.un {s with up:=ad s.up z v} z= {aC.un s z with up:=v} :=by unfold aC.un;simp only[aj]
 rw[e]
 by_cases hj:j=7
 ·subst hj;rfl
 ·unfold aC.cell;simp only[if_neg hj]) (fun y hy=>by unfold aC.un;simp only[ae _ _ hy]) rfl
def fB(s:FC)(z:Int)(h:0<=z/\z<40:=by omega):0+0+z.toNat*8+5<321/\aC s (0+0+z.toNat*8+5)= .slice (s.nP z) (s.aI z).length (s.nC z):=⟨og,aC.at_ s z h 5 og⟩
def sX(s:FC)(z:Int)(h:0<=z/\z<40)(x:List ByteArray)(p:Option Addr)(c n:Nat)(hx:n=x.length):0+0+z.toNat*8+5<321/\dP (aC s) (0+0+z.toNat*8+5) (.slice p n c)=aC {s with aI:=ad s.aI z x,nP:=ad s.nP z p,nC:=ad s.nC z c} :=by
 subst hx;exact aC.set s {s with aI:=ad s.aI z x,nP:=ad s.nP z p,nC:=ad s.nC z c} z h 5 og _ (fun j=>by
 have e:aC.un {s with aI:=ad s.aI z x,nP:=ad s.nP z p,nC:=ad s.nC z c} z= {aC.un s z with aI:=x,nP:=p,nC:=c} :=by unfold aC.un;simp only[aj]
 rw[e]
 by_cases hj:j=5
 ·subst hj;rfl
 ·unfold aC.cell
  simp only[show ¬(5<=j/\j<6)from og,hj,if_false]) (fun y hy=>by unfold aC.un;simp only[ae _ _ hy]) rfl
def ml(s:FC)(z:Int)(h:0<=z/\z<40:=by omega):0+0+z.toNat*8+6<321/\aC s (0+0+z.toNat*8+6)= .slice (s.kP z) (s.kids z).length (s.kC z):=⟨og,aC.at_ s z h 6 og⟩
def uv(s:FC)(z:Int)(h:0<=z/\z<40)(x:List Int)(p:Option Addr)(c n:Nat)(hx:n=x.length):0+0+z.toNat*8+6<321/\dP (aC s) (0+0+z.toNat*8+6) (.slice p n c)=aC {s with kids:=ad s.kids z x,kP:=ad s.kP z p,kC:=ad s.kC z c} :=by
 subst hx;exact aC.set s {s with kids:=ad s.kids z x,kP:=ad s.kP z p,kC:=ad s.kC z c} z h 6 og _ (fun j=>by
 have e:aC.un {s with kids:=ad s.kids z x,kP:=ad s.kP z p,kC:=ad s.kC z c} z= {aC.un s z with kids:=x,kP:=p,kC:=c} :=by unfold aC.un;simp only[aj]
 rw[e]
 by_cases hj:j=6
 ·subst hj;rfl
 ·unfold aC.cell
  simp only[show ¬(6<=j/\j<7)from og,hj,if_false]) (fun y hy=>by unfold aC.un;simp only[ae _ _ hy]) rfl
theorem Gk(v k:Int):∀ (l:List Int) (i:Nat),i<=l.length->(l.insertIdx i v).count k=l.count k+(if v=k then 1 else 0)
 | l,0,_=>by rw[List.insertIdx_zero,List.count_cons];simp
 | [],i+1,h=>by simp at h
 | x::l,i+1,h=>by
  rw[List.insertIdx_succ_cons,List.count_cons,List.count_cons,Gk v k l i (by simpa using h)];omega
theorem An(k:Int):∀ (l:List Int) (i:Nat),i<l.length->(l.eraseIdx i).count k+(if l.getD i 0=k then 1 else 0)=l.count k
 | x::l,0,_=>by rw[List.eraseIdx_cons_zero,List.count_cons];simp
 | x::l,i+1,h=>by
  rw[List.eraseIdx_cons_succ,List.count_cons,List.count_cons,<-An k l i (by simpa using h),List.getD_cons_succ];omega
theorem MJ{l:List Int}{i:Nat}{k:Int}(hi:i<l.length)(h:k∈l)(hk:l.getD i 0≠k):k∈l.eraseIdx i:=by
 have h1:=An k l i hi;grind
def se{l:List Int}{p:Nat}(h:p<l.length):l.getD p 0∈l:=by
 simp_all
def DE(f:Int->List Int)(z:Int)(l:List Int)(k:Int):∀ N:Nat,FF.HO (ad f z l) k N+(if 0<=z/\z<N then(f z).count k else 0)=FF.HO f k N+(if 0<=z/\z<N then l.count k else 0)
 | 0=>by rw[if_neg og,if_neg og];rfl
 | N+1=>by
  have ih:=DE f z l k N;unfold FF.HO;grind [ad]
theorem YG(f:Int->List Int)(k:Int){z:Int}{N:Nat}(hz:0<=z/\z<N):(f z).count k<=FF.HO f k N:=by
 have:=DE f z [] k N;grind
def OC(f:Int->List Int)(k:Int)(B:Nat):∀ N:Nat,(∀ n:Nat,n<N->(f (n:Int)).length<=B)->FF.HO f k N<=N*B
 | 0,_=>by simp[FF.HO]
 | N+1,h=>by
  have ih:=OC f k B N fun n hn=>h n og;have h1:=h N og;have h2:=List.count_le_length (a:=k) (l:=f (N:Int));unfold FF.HO;grind
namespace FF
def OD{s t:FF}{z:Int}{l:List Int}(h1:t.kids=ad s.kids z l)(h2:t.roots=s.roots)(hz:0<=z/\z<40)(k:Int):t.nG k+(s.kids z).count k=s.nG k+l.count k:=by
 have:=DE s.kids z l k 40;grind [nG]
theorem Ki{s t:FF}(h1:t.kids=s.kids)(h2:t.roots=s.roots)(k:Int):t.nG k=s.nG k:=by grind [nG]
theorem HP{s:FF}{n k:Int}(hn:0<=n/\n<40)(h:k∈s.kids n):1<=s.nG k:=by
 grind [YG,nG]
theorem Kj{s:FF}{k:Int}(h:k∈s.roots):1<=s.nG k:=by
 grind [nG]
section
variable {s:FF} {d:Int->Nat} {e q:Int}
def dV.MK(h:s.dV d e q){n:Int}(h1:0<=n)(h2:n<40)(hk:s.aO n≠2):s.kids n=[]/\s.aI n=[]:=by
 grind [dV.js]
def dV.HQ(h:s.dV d e q)(k:Int):s.nG k<=324:=by
 have h1:=OC s.kids k 8 40 (fun n hn=>by
  obtain⟨_,a,b,_⟩:=h.js n og og
  omega)
 grind [dV.roots,nG]
def dV.sh(h:s.dV d e q)(hB:∀ n,0<=n->n<40->s.bj n<=1000000):s.Sh where
 js:=h.js
 kids:=fun n h1 h2 k hk=>⟨(h.kids n h1 h2 k hk).1,(h.kids n h1 h2 k hk).2.1⟩
 data:=fun n h1 h2=>(h.data n h1 h2).1
 roots:=⟨h.roots.1,fun r hr=>⟨(h.roots.2 r hr).1,(h.roots.2 r hr).2.1⟩⟩
 num:=fun n h1 h2=>by
  obtain⟨a,b⟩:=h.num n h1 h2
  have c:=h.HQ n
  have e:=hB n h1 h2
  split at b<;>omega
def dV.ah2(h:s.dV d e q){z:Int}(h1:0<=z)(h2:z<40)(hz:s.aO z=0):s.nG z=0/\z≠e:=by
 obtain⟨_,b⟩:=h.num z h1 h2;grind [dV.zero]
theorem dV.cut(h:s.dV d (-1) q){n:Int}{x:ByteArray}{k:Int}(h1:0<=n)(h2:n<40)(hx:pt (s.aI n) x=true)(hk:gh (s.kids n) (eC (s.aI n) x)=k):(s.ey n x).dV d k q:=by
 obtain⟨p1,p2⟩:=mi.1 hx;obtain⟨r1,r2,r3,r4⟩:=h.js n h1 h2;have hp:eC (s.aI n) x<(s.kids n).length:=og;have BV:(s.kids n).getD (eC (s.aI n) x) 0=k:=by simpa [gh]using hk
 have hkr:0<=k:=by
  have:=se hp;rw[BV]at this;exact(h.kids n h1 h2 k this).1
 have hm:∀ m,(s.ey n x).kids m=if m=n then(s.kids n).eraseIdx (eC (s.aI n) x)else s.kids m:=fun m=>rfl
 have hnm:∀ m,(s.ey n x).aI m=if m=n then(s.aI n).eraseIdx (eC (s.aI n) x)else s.aI m:=fun m=>rfl
 have sub:∀ m j,j∈(s.ey n x).kids m->j∈s.kids m:=fun m j hj=>by
  grind [List.mem_of_mem_eraseIdx]
 refine⟨h.kinds,fun m a b=> ?_,fun m a b y hy=> ?_,fun m a b j hj=>h.kids m a b j (sub m j hj),h.data,h.roots,fun m a b c gY hnq=> ?_,fun m a b=> ?_,h.zero,h.pos,h.Kh⟩
 ·grind [fv.OB,dV.js,ey]
 ·grind [dV.MI,List.mem_of_mem_eraseIdx]
 ·rcases h.up m a b c og hnq with g | ⟨g1,g2,g3,g4,g5⟩;all_goals grind [ey,MJ]
 ·obtain⟨a1,a2⟩:=h.num m a b;have h3:=OD (s:=s) (t:=s.ey n x) (z:=n) rfl rfl ⟨h1,h2⟩ m;grind [An,ey]
theorem dV.put{k:Int}(h:s.dV d k q){n:Int}{x:ByteArray}(h1:0<=n)(h2:n<40)(hn:s.aO n=2)(hx:pt (s.aI n) x=false)(hl:(s.aI n).length<8)(ok:ko x=true)(hk:0<=k/\k<40/\s.aO k≠0)(ht:s.dJ k=s.dJ n)(hd:s.aO k=2->s.up k=n/\d n<d k):(s.tm n x k).dV d (-1) q:=by
 obtain⟨r1,r2,r3,r4⟩:=h.js n h1 h2;have hpl:=oC (s.aI n) x;have hp:eC (s.aI n) x<=(s.kids n).length:=og;have hm:∀ m,(s.tm n x k).kids m=if m=n then(s.kids n).insertIdx (eC (s.aI n) x) k else s.kids m:=fun m=>rfl
 have hnm:∀ m,(s.tm n x k).aI m=if m=n then(s.aI n).insertIdx (eC (s.aI n) x) x else s.aI m:=fun m=>rfl
 refine⟨h.kinds,fun m a b=> ?_,fun m a b y hy=> ?_,fun m a b j hj=> ?_,h.data,h.roots,fun m a b c _ hnq=> ?_,fun m a b=> ?_,h.zero,h.pos,h.Kh⟩
 ·grind [fv.insert,dV.js,tm]
 ·grind [List.mem_insertIdx,dV.MI]
 ·rw[hm]at hj;split at hj
  ·rename_i c;subst c;rcases(List.mem_insertIdx hp).1 hj with rfl | hj
   ·grind [tm]
   ·exact h.kids m a b j hj
  ·exact h.kids m a b j hj
 ·by_cases c3:m=k
  ·grind [tm,List.mem_insertIdx]
  ·rcases h.up m a b c c3 hnq with g | ⟨g1,g2,g3,g4,g5⟩;all_goals grind [tm,List.mem_insertIdx]
 ·obtain⟨a1,a2⟩:=h.num m a b;have h3:=OD (s:=s) (t:=s.tm n x k) (z:=n) rfl rfl ⟨h1,h2⟩ m;have h4:=Gk k m (s.kids n) _ hp;grind [tm]
def dV.fresh(h:s.dV d (-1) (-1)){z k t u:Int}(h1:0<=z)(h2:z<40)(hz:s.aO z=0)(hk:k=1\/k=2)(N:Nat):(s.jF z k t 1 u).dV (ad d z N) z (-1):=by
 obtain⟨c0,_⟩:=h.ah2 h1 h2 hz;obtain⟨k0,n0⟩:=h.MK h1 h2 og;obtain⟨l0,e0⟩:=h.zero z h1 h2 hz;have hm:(s.jF z k t 1 u).kids=s.kids:=cH _ k0;have hnm:(s.jF z k t 1 u).aI=s.aI:=cH _ n0;have II:∀ m,(s.jF z k t 1 u).aO m=if m=z then k else s.aO m:=fun m=>rfl
 have htr:∀ m,(s.jF z k t 1 u).dJ m=if m=z then t else s.dJ m:=fun m=>rfl
 have QZ:∀ m,(s.jF z k t 1 u).up m=if m=z then u else s.up m:=fun m=>rfl
 have hdt:∀ m,(s.jF z k t 1 u).data m=if m=z then ByteArray.empty else s.data m:=fun m=>rfl
 have hli:∀ m,(s.jF z k t 1 u).bM m=if m=z then 1 else s.bM m:=fun m=>rfl
 have Q3:∀ m,(s.jF z k t 1 u).bj m=if m=z then 0 else s.bj m:=fun m=>rfl
 have PM:(s.jF z k t 1 u).roots=s.roots:=rfl;have hdd:∀ m,ad d z N m=if m=z then N else d m:=fun m=>rfl
 have nz:∀ m j,0<=m->m<40->j∈s.kids m->m≠z/\j≠z:=by
  grind [HP]
 refine⟨fun m a b=> ?_,fun m a b=> ?_,fun m a b y hy=> ?_,fun m a b j hj=> ?_,fun m a b=> ?_,⟨h.roots.1,fun r hr=> ?_⟩,fun m a b c gY _=> ?_,fun m a b=> ?_,fun m a b c=> ?_,fun m a b c _=> ?_,fun m a b c _=> ?_⟩
 ·grind [dV.kinds]
 ·rw[hnm,hm,II];grind [dV.js]
 ·grind [dV.MI]
 ·grind [dV.kids]
 ·rw[hdt,II];split
  ·simp_all
  grind [dV.data]
 ·grind [dV.roots]
 ·rw[II,if_neg gY]at c;rw[QZ,II,hm,hdd,hdd,if_neg gY,if_neg gY,PM];rcases h.up m a b c og og with g | ⟨g1,g2,g3,g4,g5⟩;all_goals grind
 ·obtain⟨a1,a2⟩:=h.num m a b;grind [Ki]
 ·grind [dV.zero]
 ·rw[II]at c;rw[hli,Q3];split at c
  ·omega
  ·rename_i c2;rw[if_neg c2,if_neg c2];exact h.pos m a b c og
 grind [dV.Kh]
theorem dV.qm{z:Int}(h:s.dV d z q)(h1:0<=z)(h2:z<40)(hz:s.aO z=2)(hu:s.up z=z)(hl:s.roots.length<4):dV {s with roots:=s.roots++[z]} d (-1) q:=by
 refine⟨h.kinds,h.js,h.MI,h.kids,h.data,⟨eW,fun r hr=> ?_⟩,fun m a b c _ hnq=> ?_,fun m a b=> ?_,h.zero,h.pos,h.Kh⟩
 ·grind [dV.roots]
 ·by_cases c2:m=z
  ·simp_all
  ·rcases h.up m a b c c2 hnq with⟨g1,g2⟩ | g;all_goals simp_all
 ·obtain⟨a1,a2⟩:=h.num m a b;grind [nG]
def dV.aco(h:s.dV d (-1) (-1)){k:Int}(h1:0<=k)(h2:k<40)(hk:s.aO k=1):dV {s with bM:=ad s.bM k (s.bM k+1)} d k (-1):=by
 have hli:∀ m,ad s.bM k (s.bM k+1) m=if m=k then s.bM k+1 else s.bM m:=fun m=>rfl
 refine⟨h.kinds,h.js,h.MI,h.kids,h.data,h.roots,fun m a b c _ _=>h.up m a b c og og,fun m a b=> ?_,fun m a b c=> ?_,fun m a b c _=> ?_,fun m a b c _=> ?_⟩
 ·obtain⟨a1,a2⟩:=h.num m a b;grind [nG]
 ·grind [dV.zero]
 ·show 0<ad s.bM k _ m\/_;rw[hli];obtain⟨a1,a2⟩:=h.num m a b;split
  ·simp_all
  ·exact h.pos m a b c og
 grind [dV.Kh]
def dV.US{k:Int}(h:s.dV d k (-1))(hk:s.aO k≠0):dV {s with bM:=ad s.bM k (s.bM k-1)} d (-1) k:=by
 have hli:∀ m,ad s.bM k (s.bM k-1) m=if m=k then s.bM k-1 else s.bM m:=fun m=>rfl
 refine⟨h.kinds,h.js,h.MI,h.kids,h.data,h.roots,fun m a b c _ hq=>h.up m a b c hq og,fun m a b=> ?_,fun m a b c=> ?_,fun m a b c hq=> ?_,fun m a b c hq=> ?_⟩
 ·obtain⟨a1,a2⟩:=h.num m a b;grind [nG]
 ·grind [dV.zero]
 ·show 0<ad s.bM k _ m\/_;rw[hli,if_neg hq];exact h.pos m a b c og
 grind [dV.Kh]
def dV.ah4(h:s.dV d e q)(h1:0<=q->q<40->s.aO q≠0->0<s.bM q\/0<s.bj q)(h2:0<=q->q<40->s.aO q≠2):s.dV d e (-1):=
 ⟨h.kinds,h.js,h.MI,h.kids,h.data,h.roots,fun m a b c he _=>h.up m a b c he fun e=>by subst e;exact h2 a b c,h.num,h.zero,fun m a b c _=>by
  by_cases e:m=q
  ·subst e;exact h1 a b c
  ·exact h.pos m a b c e,fun m a b c _=>h.Kh m a b c fun e=>by subst e;exact h2 a b c⟩
def dV.weak(h:s.dV d e (-1))(q:Int):s.dV d e q:=
 ⟨h.kinds,h.js,h.MI,h.kids,h.data,h.roots,fun m a b c he _=>h.up m a b c he og,h.num,h.zero,fun m a b c _=>h.pos m a b c og,fun m a b c _=>h.Kh m a b c og⟩
def dV.afq(h:s.dV d (-1) q)(h1:0<=q)(h2:q<40)(hl:s.bM q=0)(hh:s.bj q=0)(hk:s.kids q=[]):(s.jF q 0 0 0 0).dV d (-1) (-1):=by
 have c0:s.nG q=0:=by
  have:=(h.num q h1 h2).2;omega
 have n0:s.aI q=[]:=List.eq_nil_of_length_eq_zero (by rw[(h.js q h1 h2).2.1,hk];rfl);have hm:(s.jF q 0 0 0 0).kids=s.kids:=cH _ hk;have hnm:(s.jF q 0 0 0 0).aI=s.aI:=cH _ n0;have II:∀ m,(s.jF q 0 0 0 0).aO m=if m=q then 0 else s.aO m:=fun m=>rfl
 have htr:∀ m,(s.jF q 0 0 0 0).dJ m=if m=q then 0 else s.dJ m:=fun m=>rfl
 have QZ:∀ m,(s.jF q 0 0 0 0).up m=if m=q then 0 else s.up m:=fun m=>rfl
 have hdt:∀ m,(s.jF q 0 0 0 0).data m=if m=q then ByteArray.empty else s.data m:=fun m=>rfl
 have hli:∀ m,(s.jF q 0 0 0 0).bM m=if m=q then 0 else s.bM m:=fun m=>rfl
 have Q3:∀ m,(s.jF q 0 0 0 0).bj m=if m=q then 0 else s.bj m:=fun m=>rfl
 have PM:(s.jF q 0 0 0 0).roots=s.roots:=rfl;have nz:∀ m j,0<=m->m<40->j∈s.kids m->m≠q/\j≠q:=by
  grind [HP]
 refine⟨fun m a b=> ?_,fun m a b=> ?_,fun m a b y hy=> ?_,fun m a b j hj=> ?_,fun m a b=> ?_,⟨h.roots.1,fun r hr=> ?_⟩,fun m a b c _ _=> ?_,fun m a b=> ?_,fun m a b c=> ?_,fun m a b c _=> ?_,fun m a b c _=> ?_⟩
 ·grind [dV.kinds]
 ·rw[hnm,hm,II];grind [dV.js]
 ·grind [dV.MI]
 ·rw[hm]at hj;obtain⟨n1,n2⟩:=nz m j a b hj;rw[II,htr,htr,QZ,if_neg n2,if_neg n2,if_neg n1,if_neg n2];exact h.kids m a b j hj
 ·rw[hdt,II];split
  ·simp_all
  grind [dV.data]
 ·grind [Kj,dV.roots]
 ·have gY:m≠q:=fun e=>by subst e;rw[II,if_pos rfl]at c;omega
  rw[II,if_neg gY]at c;rw[QZ,II,hm,if_neg gY,PM];rcases h.up m a b c og gY with g | ⟨g1,g2,g3,g4,g5⟩;all_goals grind
 ·obtain⟨a1,a2⟩:=h.num m a b;grind [Ki]
 ·grind [dV.zero]
 ·rw[II]at c;rw[hli,Q3];split at c
  ·omega
  ·rename_i c2;rw[if_neg c2,if_neg c2];exact h.pos m a b c c2
 grind [dV.Kh]
end
end FF
end Go.X.Tr

namespace Go.X.Tr
open Go Go.X
variable{x:ByteArray}
def Q4{l:List ByteArray}{p:Nat}(hp:p<=l.length)(h1:∀ i,i<p->blt (oH l i) x=true)(h2:p<l.length->blt (oH l p) x=false):eC l x=p:=by
 grind [oC,Ca,yD]
theorem DF{l:List ByteArray}(hl:fv l)(h:pt l x=true):eC (l.eraseIdx (eC l x)) x=eC l x:=by
 obtain⟨p1,p2⟩:=mi.1 h;refine Q4 (by rw[List.length_eraseIdx,if_pos p1];omega) (fun i hi=> ?_) fun hi=> ?_;all_goals grind [Gj,HM,fv]
theorem HR{α:Type}(y:α):∀ (l:List α) (p:Nat),p<l.length->(l.eraseIdx p).insertIdx p (l.getD p y)=l
 | x::l,0,_=>sq
 | x::l,p+1,h=>by
  rw[List.eraseIdx_cons_succ,List.insertIdx_succ_cons,List.getD_cons_succ,HR y l p (by simpa using h)]
namespace FF
def acp{s:FF}{n:Int}(hl:fv (s.aI n))(h:pt (s.aI n) x=true)(hk:(s.aI n).length=(s.kids n).length):(s.ey n x).tm n x (gh (s.kids n) (eC (s.aI n) x))=s:=by
 obtain⟨p1,p2⟩:=mi.1 h;have e1:((s.ey n x).aI n)=(s.aI n).eraseIdx (eC (s.aI n) x):=aj _ _ _;have e2:((s.ey n x).kids n)=(s.kids n).eraseIdx (eC (s.aI n) x):=aj _ _ _;have a1:=HR ByteArray.empty (s.aI n) _ p1;have a2:=HR (0:Int) (s.kids n) (eC (s.aI n) x) og;rw[show(s.aI n).getD (eC (s.aI n) x) ByteArray.empty=x from p2]at a1;have b1:ad (s.ey n x).aI n (((s.ey n x).aI n).insertIdx (eC ((s.ey n x).aI n) x) x)=s.aI:=by
  rw[e1,DF hl h,a1];funext j;unfold ad;split;all_goals simp_all[ae,ey]
 have b2:ad (s.ey n x).kids n (((s.ey n x).kids n).insertIdx (eC ((s.ey n x).aI n) x) (gh (s.kids n) (eC (s.aI n) x)))=s.kids:=by
  rw[e2,e1,DF hl h,show gh (s.kids n) (eC (s.aI n) x)=(s.kids n).getD (eC (s.aI n) x) 0 from by simp[gh],a2];funext j;unfold ad;split;all_goals simp_all[ae,ey]
 simp_all[tm,ey]
def Ch(s:FF)(d:Int->Nat)(k:Int):Prop:=∀ n,0<=n->n<40->s.aO n=2->n≠k->s.up n=n\/(0<=s.up n/\s.up n<40/\s.aO (s.up n)=2/\d (s.up n)<d n)
theorem DG{s t:FF}(h:t.up=s.up)(k:Int):∀ (f:Nat) (n:Int),Am t f n k=Am s f n k
 | 0,n=>rfl
 | f+1,n=>by unfold Am;rw[h,DG h k f]
theorem Ao{s:FF}{d:Int->Nat}{k:Int}(hc:s.Ch d k):∀ (f g:Nat) (n:Int),0<=n->n<40->s.aO n=2->d n<=f->d n<=g->Am s f n k=Am s g n k
 | 0,0,_,_,_,_,_,_=>rfl
 | 0,g+1,n,h1,h2,h3,h4,h5=>by
  unfold Am;by_cases c:n=k
  ·rw[if_pos c];simp[c]
  ·rw[if_neg c];rcases hc n h1 h2 h3 c with u | ⟨_,_,_,u⟩
   ·rw[if_pos u];simp[c]
   ·omega
 | f+1,0,n,h1,h2,h3,h4,h5=>by
  unfold Am;by_cases c:n=k
  ·rw[if_pos c];simp[c]
  ·rw[if_neg c];rcases hc n h1 h2 h3 c with u | ⟨_,_,_,u⟩
   ·rw[if_pos u];simp[c]
   ·omega
 | f+1,g+1,n,h1,h2,h3,h4,h5=>by
  unfold Am;by_cases c:n=k
  ·rw[if_pos c,if_pos c]
  ·rw[if_neg c,if_neg c];by_cases c2:s.up n=n
   ·rw[if_pos c2,if_pos c2]
   ·rw[if_neg c2,if_neg c2];rcases hc n h1 h2 h3 c with u | ⟨u1,u2,u3,u4⟩
    ·exact absurd u c2
    ·exact Ao hc f g _ u1 u2 u3 og og
theorem Kk(d:Int->Nat)(s:FF)(k:Int):Kg d s k k=true:=by
 unfold Kg;cases d k with
 | zero=>simp[Am]
 | succ f=>simp[Am]
theorem yK{s:FF}{d:Int->Nat}{k n:Int}(hc:s.Ch d k)(h1:0<=n)(h2:n<40)(h3:s.aO n=2)(h4:n≠k):Kg d s n k=if s.up n=n then false else Kg d s (s.up n) k:=by
 unfold Kg;rw[Ao hc (d n) (d n+1) n h1 h2 h3 og og];grind [Am,Ao,Ch]
def dV.ch{s:FF}{d:Int->Nat}{k:Int}(h:s.dV d k (-1)):s.Ch d k:=fun n h1 h2 h3 h4=>by
 rcases h.up n h1 h2 h3 h4 og with g | ⟨g1,g2,g3,_,g5⟩;all_goals omega
def dV.chI{s:FF}{d:Int->Nat}(h:s.Inv d)(k:Int):s.Ch d k:=fun n h1 h2 h3 h4=>by
 rcases h.up n h1 h2 h3 og og with g | ⟨g1,g2,g3,_,g5⟩;all_goals omega
def uf(d:Int->Nat)(s:FF)(k to:Int):Int->Nat:=fun x=>d x+(if Kg d s x k=true then d to+1 else 0)
def dV.ah5{s:FF}{d:Int->Nat}{k to:Int}(h:s.dV d k (-1))(h1:0<=k)(h2:k<40)(h3:s.aO k=2)(h4:0<=to)(h5:to<40)(h6:s.aO to=2)(hu:Kg d s to k=false):dV {s with up:=ad s.up k to} (uf d s k to) k (-1)/\uf d s k to to<uf d s k to k:=by
 have c0:s.nG k=0:=by
  have a:=(h.num k h1 h2).2;grind [dV.Kh]
 have hc:=h.ch;have QZ:∀ m,ad s.up k to m=if m=k then to else s.up m:=fun m=>rfl
 refine⟨⟨h.kinds,h.js,h.MI,fun n a b j hj=> ?_,h.data,⟨h.roots.1,fun r hr=> ?_⟩,fun n a b c hk hq=> ?_,h.num,h.zero,h.pos,h.Kh⟩,?_⟩
 ·grind [dV.kids,HP,yK,uf]
 ·grind [dV.roots,Kj]
 ·show(n∈s.roots/\ad s.up k to n=n)\/(0<=ad s.up k to n/\ad s.up k to n<40/\s.aO (ad s.up k to n)=2/\n∈s.kids (ad s.up k to n)/\uf d s k to (ad s.up k to n)<uf d s k to n);rw[QZ,if_neg hk];rcases h.up n a b c hk hq with g | ⟨g1,g2,g3,g4,g5⟩;all_goals grind [yK,uf]
 grind [uf,Kk]
structure Ok (s:FF) (d:Int->Nat) (B:Int):Prop where
 eG:s.Inv d
 bj:∀ n,0<=n->n<40->s.bj n<=B
 nn:0<=B
def Ok.sh{s:FF}{d:Int->Nat}{B:Int}(h:s.Ok d B)(hB:B<=1000000):s.Sh:=h.eG.sh fun n a b=>Int.le_trans (h.bj n a b) hB
theorem DH(s:FF):∀ k:Nat,k<=40->s.wi k= -1\/(40-(k:Int)<=s.wi k/\s.wi k<40/\s.aO (s.wi k)=0)
 | 0,_=>.inl rfl
 | k+1,h=>by
  unfold wi;split
  ·rename_i c;exact .inr ⟨og,og,c⟩
  ·rcases DH s k og with g | ⟨g1,g2,g3⟩
   ·exact .inl g
   ·exact .inr ⟨og,g2,g3⟩
def yL{s:FF}(h:¬s.free<0):0<=s.free/\s.free<40/\s.aO s.free=0:=by
 grind [DH,free]
section
variable {s:FF} {d:Int->Nat} {B:Int}
def Ok.yG(h:s.Ok d B):∃ d',s.yG.Ok d' (B+1):=by
 have hn:=h.nn;unfold FF.yG;split
 ·rename_i c;unfold qq at c;split at c
  ·omega
  ·split at c
   ·omega
   ·rename_i c1 c2;obtain⟨f1,f2,f3⟩:=yL c2;have hr:=h.eG.roots.1;have h1:=h.eG.fresh (k:=2) (t:=(s.roots.length:Int)) (u:=s.free) f1 f2 f3 (.inr rfl) 0;have h2:=h1.qm f1 f2 (aj _ _ _) (aj _ _ _) (show s.roots.length<4 by omega);refine⟨_,h2,fun n a b=> ?_,og⟩;show ad s.bj s.free 0 n<=_;unfold ad;split
    ·omega
    ·have:=h.bj n a b;omega
 ·exact⟨d,h.eG,fun n a b=>by have:=h.bj n a b;omega,og⟩
def vt{s:FF}{n:Int}(h:s.fi n x=0):s.cC n 2=0/\ko x=true/\pt (s.aI n) x=false/\(s.aI n).length≠8:=by
 grind [fi]
def OE{s:FF}{n:Int}(h:s.fK n x=0):s.cC n 2=0/\pt (s.aI n) x=true/\s.bO n x=gh (s.kids n) (eC (s.aI n) x):=by
 grind [fK,bO]
theorem Ok.gF(h:s.Inv d){n:Int}(h0:s.fK n x=0):0<=n/\n<40/\s.aO n=2/\s.bO n x∈s.kids n/\pt (s.aI n) x=true/\gh (s.kids n) (eC (s.aI n) x)=s.bO n x:=by
 obtain⟨a,b,c⟩:=OE h0;obtain⟨i1,i2,i3,i4⟩:=jt a;grind [dV.js,mi,gh]
theorem Ok.make(h:s.Ok d B)(n:Int)(x:ByteArray)(k:Int):∃ d',(s.make n x k).Ok d' (B+1):=by
 have hn:=h.nn;unfold FF.make;split
 ·rename_i c;unfold mH at c;split at c
  ·omega
  ·split at c
   ·omega
   ·split at c
    ·omega
    ·rename_i c0 c1 c2;obtain⟨f1,f2,f3⟩:=yL c2;obtain⟨a1,a2,a3,a4⟩:=vt (show s.fi n x=0 by omega);obtain⟨i1,i2,_,i4⟩:=jt a1;have i5:=i4 og;have gY:n≠s.free:=fun e=>by rw[<-e]at f3;omega
     have h1:=h.eG.fresh (k:=k) (t:=s.dJ n) (u:=n) f1 f2 f3 og (d n+1);have e1:(s.jF s.free k (s.dJ n) 1 n).aO n=s.aO n:=ae _ _ gY;have e2:(s.jF s.free k (s.dJ n) 1 n).aI n=s.aI n:=ae _ _ gY;have e3:(s.jF s.free k (s.dJ n) 1 n).dJ n=s.dJ n:=ae _ _ gY;have h2:=h1.put (n:=n) (x:=x) i1 i2 (by rw[e1];exact i5) (by rw[e2];exact a3) (by rw[e2];have:=(h.eG.js n i1 i2).2.2.1;omega) a2 ⟨f1,f2,by
      rw[show(s.jF s.free k (s.dJ n) 1 n).aO s.free=k from aj _ _ _];omega⟩ (by rw[e3];exact aj _ _ _) fun _=>⟨aj _ _ _,by rw[ae _ _ gY,aj];omega⟩
     refine⟨_,h2,fun m a b=> ?_,og⟩;show ad s.bj s.free 0 m<=_;unfold ad;split
     ·omega
     ·have:=h.bj m a b;omega
 ·exact⟨d,h.eG,fun n a b=>by have:=h.bj n a b;omega,og⟩
def Ok.DB(h:s.Ok d B)(k n:Int)(x:ByteArray):(s.DB k n x).Ok d (B+1):=by
 have hn:=h.nn;unfold FF.DB;split
 ·rename_i c;unfold uq at c;split at c
  ·omega
  ·split at c
   ·omega
   ·split at c
    ·omega
    ·rename_i c0 c1 c2;obtain⟨a1,a2,a3,a4⟩:=vt (show s.fi n x=0 by omega);obtain⟨i1,i2,_,i4⟩:=jt a1;obtain⟨j1,j2,_,j4⟩:=jt (show s.cC k 1=0 by omega);have i5:=i4 og;have j5:=j4 og;have h1:=h.eG.aco j1 j2 j5;have h2:=h1.put (n:=n) (x:=x) i1 i2 i5 a3 (by show(s.aI n).length<8;have:=(h.eG.js n i1 i2).2.2.1;omega) a2 ⟨j1,j2,by show s.aO k≠0;omega⟩ (show s.dJ k=s.dJ n by omega) (fun g=>by
      have g2:s.aO k=2:=g
      omega)
     exact⟨h2,fun m a b=>by have:=h.bj m a b;show s.bj m<=_;omega,og⟩
 ·exact⟨h.eG,fun n a b=>by have:=h.bj n a b;omega,og⟩
def Ok.du(h:s.Ok d B)(n:Int)(x:ByteArray):(s.du n x).Ok d (B+1):=by
 have hn:=h.nn;unfold FF.du;split
 ·rename_i c;unfold dz at c;split at c
  ·omega
  ·split at c
   ·omega
   ·rename_i c0 c1;obtain⟨i1,i2,i3,i4,i5,i6⟩:=Ok.gF h.eG (show s.fK n x=0 by omega);obtain⟨k1,k2,k3,k4,k5⟩:=h.eG.kids n i1 i2 _ i4;have h1:=h.eG.cut (k:=s.bO n x) i1 i2 i5 i6;have h2:=h1.US k3;have hk:s.aO (s.bO n x)=2->s.kids (s.bO n x)=[]/\s.bj (s.bO n x)=0:=fun g=>by
     have g1:=(h.eG.num _ k1 k2).1;have g2:¬(0<(s.kids (s.bO n x)).length\/0<s.bj (s.bO n x)):=fun q=>c1 ⟨g,q⟩;exact⟨List.eq_nil_of_length_eq_zero og,og⟩
    have gY:s.bO n x≠n\/s.aO (s.bO n x)≠2:=by
     by_cases g:s.aO (s.bO n x)=2
     ·left;intro e;rw[e]at i4 hk g;rw[(hk g).1]at i4;cases i4
     ·exact .inr g
    have hkk:s.kids (s.bO n x)=[]:=by
     by_cases g:s.aO (s.bO n x)=2
     ·exact(hk g).1
     ·exact(h.eG.MK k1 k2 g).1
    have YH:s.bO n x≠n:=fun e=>by rw[e]at hkk;rw[hkk]at i4;cases i4
    have hb:∀ m,0<=m->m<40->s.bj m<=B+1:=fun m a b=>by have:=h.bj m a b;omega
    unfold rk;split
    ·rename_i c2;have h3:=h2.afq k1 k2 c2.1 c2.2 (by
      show ad s.kids n _ (s.bO n x)=[]
      rw[ae _ _ YH];exact hkk)
     refine⟨h3,fun m a b=> ?_,og⟩;show ad s.bj _ 0 m<=_;unfold ad;split
     ·omega
     ·exact hb m a b
    ·rename_i c2;have g0:s.aO (s.bO n x)≠2:=fun g=>by
      refine c2 ⟨?_,(hk g).2⟩;show ad s.bM _ _ (s.bO n x)=0;rw[aj];show s.bM (s.bO n x)-1=0;have:=h.eG.Kh _ k1 k2 g og;omega
     refine⟨h2.ah4 (fun _ _ _=> ?_) fun _ _=>g0,hb,og⟩;have a1:=(h2.num _ k1 k2);have a2:¬(ad s.bM (s.bO n x) (s.bM (s.bO n x)-1) (s.bO n x)=0/\s.bj (s.bO n x)=0):=c2;have a3:(0:Int)<=s.bj (s.bO n x):=a1.1;have a4:ad s.bM (s.bO n x) (s.bM (s.bO n x)-1) (s.bO n x)=_:=a1.2;show 0<ad s.bM (s.bO n x) (s.bM (s.bO n x)-1) (s.bO n x)\/0<s.bj (s.bO n x);rw[if_neg (show ¬s.bO n x=(-1:Int) by omega)]at a4;omega
 ·exact⟨h.eG,fun n a b=>by have:=h.bj n a b;omega,og⟩
theorem Ok.ea(h:s.Ok d B)(n:Int):(s.ea n).Ok d (B+1):=by
 have hn:=h.nn;unfold FF.ea;split
 ·rename_i c;obtain⟨i1,i2,i3⟩:=yH c;have Q3:∀ m,ad s.bj n (s.bj n+1) m=if m=n then s.bj n+1 else s.bj m:=fun m=>rfl
  have a0:=(h.eG.num n i1 i2).1;refine⟨⟨h.eG.kinds,h.eG.js,h.eG.MI,h.eG.kids,h.eG.data,h.eG.roots,h.eG.up,fun m a b=> ?_,fun m a b c=> ?_,fun m a b c e=> ?_,h.eG.Kh⟩,fun m a b=> ?_,og⟩
  ·obtain⟨a1,a2⟩:=h.eG.num m a b;refine⟨?_,a2⟩;show 0<=ad s.bj n _ m;rw[Q3];split<;>omega
  ·obtain⟨b1,b2⟩:=h.eG.zero m a b c;have:m≠n:=fun e=>by subst e;exact i3 c
   exact⟨b1,by show ad s.bj n _ m=0;rw[Q3,if_neg this];exact b2⟩
  ·show 0<s.bM m\/0<ad s.bj n _ m;rw[Q3];split
   ·omega
   ·exact h.eG.pos m a b c e
  ·show ad s.bj n _ m<=_;have:=h.bj m a b;have:=h.bj n i1 i2;rw[Q3];split<;>omega
 ·exact⟨h.eG,fun n a b=>by have:=h.bj n a b;omega,og⟩
theorem Ok.kQ(h:s.Ok d B)(n:Int):(s.kQ n).Ok d (B+1):=by
 have hn:=h.nn;unfold FF.kQ;split
 ·rename_i c;unfold DC at c;split at c
  ·omega
  ·split at c
   ·omega
   ·rename_i c0 c1;obtain⟨i1,i2,i3⟩:=yH (show s.cC n 0=0 by omega);have a0:=(h.eG.num n i1 i2).1;have Q3:∀ m,ad s.bj n (s.bj n-1) m=if m=n then s.bj n-1 else s.bj m:=fun m=>rfl
    have hw:=h.eG.weak n;have h2:dV {s with bj:=ad s.bj n (s.bj n-1)} d (-1) n:=⟨hw.kinds,hw.js,hw.MI,hw.kids,hw.data,hw.roots,hw.up,fun m a b=>by
      obtain⟨a1,a2⟩:=hw.num m a b
      refine⟨?_,a2⟩
      show 0<=ad s.bj n _ m
      rw[Q3];split<;>omega,fun m a b c=>by
      obtain⟨b1,b2⟩:=hw.zero m a b c
      have:m≠n:=fun e=>by subst e;exact i3 c
      exact⟨b1,by show ad s.bj n _ m=0;rw[Q3,if_neg this];exact b2⟩,fun m a b c e=>by
      show 0<s.bM m\/0<ad s.bj n _ m
      rw[Q3,if_neg e]
      exact hw.pos m a b c e,hw.Kh⟩
    have hb:∀ m,0<=m->m<40->ad s.bj n (s.bj n-1) m<=B+1:=fun m a b=>by
     have h1:=h.bj m a b;have h3:=h.bj n i1 i2;rw[Q3];split<;>omega
    unfold rk;split
    ·rename_i c2;have g0:s.aO n≠2:=fun g=>by
      have g1:=h.eG.Kh n i1 i2 g og;have g2:s.bM n=0:=c2.1;omega
     have h3:=h2.afq i1 i2 c2.1 c2.2 (h.eG.MK i1 i2 g0).1;refine⟨h3,fun m a b=> ?_,og⟩;show ad (ad s.bj n (s.bj n-1)) n 0 m<=_;have:=hb m a b;rw[show ad (ad s.bj n (s.bj n-1)) n 0 m=if m=n then 0 else ad s.bj n (s.bj n-1) m from rfl];split<;>omega
    ·rename_i c2;have a4:=(h.eG.num n i1 i2).2;rw[if_neg (show ¬n=(-1:Int) by omega)]at a4;have a5:¬(s.bM n=0/\ad s.bj n (s.bj n-1) n=0):=c2;rw[aj]at a5;refine⟨⟨h2.kinds,h2.js,h2.MI,h2.kids,h2.data,h2.roots,h.eG.up,h2.num,h2.zero,fun m a b c _=> ?_,h.eG.Kh⟩,hb,og⟩;by_cases e:m=n
     ·subst e;show 0<s.bM m\/0<ad s.bj m _ m;rw[aj];omega
     ·exact h2.pos m a b c e
 ·exact⟨h.eG,fun n a b=>by have:=h.bj n a b;omega,og⟩
theorem Ok.data(h:s.Ok d B){n:Int}(hk:s.aO n=1)(x:ByteArray)(hx:x.size<=40):Ok {s with data:=ad s.data n x} d (B+1):=by
 have hn:=h.nn;refine⟨⟨h.eG.kinds,h.eG.js,h.eG.MI,h.eG.kids,fun m a b=> ?_,h.eG.roots,h.eG.up,h.eG.num,h.eG.zero,h.eG.pos,h.eG.Kh⟩,fun m a b=>by have:=h.bj m a b;show s.bj m<=_;omega,og⟩;show(ad s.data n x m).size<=40/\(s.aO m≠1->ad s.data n x m=ByteArray.empty);rw[show ad s.data n x m=if m=n then x else s.data m from rfl];split
 ·simp_all
 ·exact h.eG.data m a b
def Ok.up1(h:s.Ok d B):s.Ok d (B+1):=⟨h.eG,fun n a b=>by have:=h.bj n a b;omega,by have:=h.nn;omega⟩
theorem yM(x:ByteArray)(a:Nat)(y:ByteArray):(W9 x a y).size=max x.size (a+y.size):=by
 unfold W9;rw[<-ByteArray.size_data];simp
theorem Ok.cm(h:s.Ok d B)(n a:Int)(x:ByteArray):(s.cm n a x).Ok d (B+1):=by
 unfold FF.cm;split
 ·rename_i c;obtain⟨c,_⟩:=c;unfold fg at c;split at c
  ·omega
  ·split at c
   ·omega
   ·split at c
    ·omega
    ·obtain⟨i1,i2,_,i4⟩:=jt (show s.cC n 1=0 by omega);refine h.data (i4 og) _ ?_;rw[yM];have:=(h.eG.data n i1 i2).1;omega
 ·exact h.up1
def Ok.move(h:s.Ok d B)(n:Int)(x:ByteArray)(to:Int)(y:ByteArray):∃ d',(s.move d n x to y).Ok d' (B+1):=by
 have hn:=h.nn;unfold FF.move;split
 ·exact⟨d,h.up1⟩
 ·rename_i c;have hb:∀ m,0<=m->m<40->s.bj m<=B+1:=fun m a b=>by have:=h.bj m a b;omega
  have c':s.fX d n x to=0:=og;unfold fX at c';split at c'
  ·omega
  ·split at c'
   ·omega
   ·split at c'
    ·omega
    ·split at c'
     ·omega
     ·rename_i c0 c1 c2 c3;obtain⟨i1,i2,i3,i4,i5,i6⟩:=Ok.gF h.eG (show s.fK n x=0 by omega);obtain⟨k1,k2,k3,k4,k5⟩:=h.eG.kids n i1 i2 _ i4;have h1:=h.eG.cut (k:=s.bO n x) i1 i2 i5 i6;obtain⟨r1,r2,r3,r4⟩:=h.eG.js n i1 i2;split
      ·refine⟨d,?_,fun m a b=>hb m a b,og⟩;have e:=acp r1 i5 r2;rw[i6]at e;rw[e];exact h.eG
      ·rename_i c4;obtain⟨a1,a2,a3,a4⟩:=vt (show(s.ey n x).fi to y=0 by omega);obtain⟨t1,t2,_,t4⟩:=jt a1;have t5:s.aO to=2:=t4 og;have hlen:((s.ey n x).aI to).length<8:=by have:=(h1.js to t1 t2).2.2.1;omega
       split
       ·rename_i c5;have hu:Kg d (s.ey n x) to (s.bO n x)=false:=by
         have e:Kg d (s.ey n x) to (s.bO n x)=Kg d s to (s.bO n x):=DG (s:=s) (t:=s.ey n x) rfl _ _ _;rw[e];cases g:Kg d s to (s.bO n x)with
         | false=>rfl
         | true=>exact absurd ⟨c5,g⟩ c3
        obtain⟨g1,g2⟩:=h1.ah5 k1 k2 c5 t1 t2 t5 hu;have h3:=g1.put (n:=to) (x:=y) t1 t2 t5 a3 hlen a2 ⟨k1,k2,k3⟩ (show s.dJ (s.bO n x)=s.dJ to by omega) fun _=>⟨aj _ _ _,g2⟩;exact⟨_,h3,fun m a b=>hb m a b,og⟩
       ·rename_i c5;have h3:=h1.put (n:=to) (x:=y) t1 t2 t5 a3 hlen a2 ⟨k1,k2,k3⟩ (show s.dJ (s.bO n x)=s.dJ to by omega) fun g=>absurd g c5;exact⟨d,h3,fun m a b=>hb m a b,og⟩
def Kl:dB.Ok (fun _=>0) 0:=by
 have hc:∀ k,dB.nG k=0:=fun k=>by
  rfl
 refine⟨⟨fun _ _ _=>.inl rfl,fun _ _ _=>⟨fv.nil,rfl,by simp[dB],fun _=>rfl⟩,fun _ _ _ x hx=>by simp[dB]at hx,fun _ _ _ k hk=>by simp[dB]at hk,fun _ _ _=>⟨by simp[dB],fun _=>rfl⟩,⟨by simp[dB],fun r hr=>by simp[dB]at hr⟩,fun _ _ _ c=>by simp[dB]at c,fun m a b=>⟨by simp[dB],?_⟩,fun _ _ _ _=>⟨rfl,rfl⟩,fun _ _ _ c=>absurd rfl c,fun _ _ _ c=>by simp[dB]at c⟩,fun _ _ _=>by simp[dB],Int.le_refl _⟩;rw[hc,if_neg (show ¬m=(-1:Int) by omega)];rfl
end
theorem Sh.ey{s:FF}(h:s.Sh){n:Int}{x:ByteArray}(h1:0<=n)(h2:n<40)(hx:pt (s.aI n) x=true):(s.ey n x).Sh:=by
 obtain⟨p1,p2⟩:=mi.1 hx;obtain⟨r1,r2,r3,r4⟩:=h.js n h1 h2;have hm:∀ m,(s.ey n x).kids m=if m=n then(s.kids n).eraseIdx (eC (s.aI n) x)else s.kids m:=fun m=>rfl
 have hnm:∀ m,(s.ey n x).aI m=if m=n then(s.aI n).eraseIdx (eC (s.aI n) x)else s.aI m:=fun m=>rfl
 refine⟨fun m a b=> ?_,fun m a b j hj=> ?_,h.data,h.roots,h.num⟩
 ·rw[hm,hnm];by_cases c:m=n
  ·subst c;rw[if_pos rfl,if_pos rfl,List.length_eraseIdx,if_pos p1,List.length_eraseIdx,if_pos og];exact⟨r1.OB _ p1,og,og,fun q=>by rw[r4 q];rfl⟩
  ·rw[if_neg c,if_neg c];exact h.js m a b
 ·rw[hm]at hj;split at hj
  ·rename_i c;subst c;exact h.kids m a b j (List.mem_of_mem_eraseIdx hj)
  ·exact h.kids m a b j hj
theorem Sh.jF{s:FF}(h:s.Sh)(z k t l u:Int)(hl: -1000000<=l/\l<=1000000):(s.jF z k t l u).Sh:=by
 refine⟨fun m a b=> ?_,fun m a b j hj=> ?_,fun m a b=> ?_,h.roots,fun m a b=> ?_⟩
 ·show fv (ad s.aI z [] m)/\(ad s.aI z [] m).length=(ad s.kids z [] m).length/\(ad s.aI z [] m).length<=8/\(ad s.aO z k m≠2->ad s.aI z [] m=[]);unfold ad;by_cases c:m=z
  ·simp only[c,if_true];exact⟨fv.nil,sq,sq,sq⟩
  ·simp only[c,if_false];exact h.js m a b
 ·have IY:j∈ad s.kids z [] m:=hj;unfold ad at IY;split at IY
  ·cases IY
  ·exact h.kids m a b j IY
 ·show(ad s.data z _ m).size<=40;unfold ad;split
  ·simp
  ·exact h.data m a b
 ·show-1000000<=ad s.bM z l m/\ad s.bM z l m<=1000000/\0<=ad s.bj z 0 m/\ad s.bj z 0 m<=1000000;have:=h.num m a b;unfold ad;split<;>omega
theorem Sh.gF{s:FF}(h:s.Sh){n:Int}(h0:s.fK n x=0):0<=n/\n<40/\s.aO n=2/\0<=s.bO n x/\s.bO n x<40/\pt (s.aI n) x=true:=by
 obtain⟨a,b,c⟩:=OE h0;obtain⟨i1,i2,i3,i4⟩:=jt a;obtain⟨r1,r2,r3,r4⟩:=h.js n i1 i2;obtain⟨p1,p2⟩:=mi.1 b;have:=se (l:=s.kids n) (p:=eC (s.aI n) x) og;have h3:=h.kids n i1 i2 (s.bO n x) (by rw[c];simpa [gh]using this);simp_all
theorem Gl{α:Type}(f:Int->α)(z:Int)(a b:α):ad (ad f z a) z b=ad f z b:=by
 grind [ad]
theorem YI(s:FF)(z k t l u v:Int):({s.jF z k t l u with up:=ad (s.jF z k t l u).up z v} :FF)=s.jF z k t l v:=by
 grind [jF,Gl]
end FF
end Go.X.Tr

namespace Go.X.Tr
open Go Go.X
variable{z:Int}
namespace FF
theorem xc(s:FF):∀ (i:Nat),i<=40->(∀ j:Int,0<=j->j<i->s.aO j≠0)->s.wi (40-i)=s.free
 | 0,_,_=>rfl
 | i+1,h,ho=>by
  rw[<-xc s i og fun j a b=>ho j a og];obtain⟨k,hk⟩:∃ k,40-i=k+1:=⟨39-i,og⟩;grind [wi]
def p9{s:FF}{i:Int}(h1:0<=i)(h2:i<40)(ho:∀ j,0<=j->j<i->s.aO j≠0)(hz:s.aO i=0):s.free=i:=by
 have h:=xc s i.toNat og fun j a b=>ho j a og;rw[<-h];obtain⟨k,hk⟩:∃ k,40-i.toNat=k+1:=⟨39-i.toNat,og⟩;grind [wi]
theorem zW{s:FF}(ho:∀ j,0<=j->j<40->s.aO j≠0):s.free= -1:=by
 have h:=xc s 40 (Nat.le_refl _) fun j a b=>ho j a og;rw[<-h];rfl
end FF
namespace FF
end FF
section
variable {W w:World} {S:Nat->Nat->Prop} {H F:List aG}
theorem yN(h:0<=z/\z<40):au z.toNat=true:=by show Nat.blt z.toNat 40=true;simp;omega
def UT(x:aG):∀ (L:List aG),cG (x::L) L [x]
 | []=>.nil
 | _::r=>.cons (.ao .aa) (UT x r)
def nH{e:TypeId}{s:FC}(hz:0<=z/\z<40)(hp:cG H [.aQ au (s.aX e)] F)(h:XM W S H w):XM W S (j9 (s.nP z) (s.nC z) e (s.aI z):: .aQ (ji au z.toNat) (s.aX e)::F) w:=by
 have h1:=oK z.toNat (yN hz) (h.cb hp.cb);have e1:(s.aX e z.toNat).CA=j9 (s.nP z) (s.nC z) e (s.aI z):=by
  grind [FC.aX]
 simp_all
def yO{e:TypeId}{s:FC}(hz:0<=z/\z<40)(hp:cG H [.aQ au (s.aY e)] F)(h:XM W S H w):XM W S (dy (s.kP z) (s.kC z) e (s.kids z):: .aQ (ji au z.toNat) (s.aY e)::F) w:=by
 have h1:=oK z.toNat (yN hz) (h.cb hp.cb);have e1:(s.aY e z.toNat).CA=dy (s.kP z) (s.kC z) e (s.kids z):=by
  grind [FC.aY]
 simp_all
theorem Q5(e:TypeId)(s t:FC)(z:Int)(hz:0<=z/\z<40)(l:List ByteArray)(p:Option Addr)(c:Nat)(h1:t.aI=ad s.aI z l)(h2:t.nP=ad s.nP z p)(h3:t.nC=ad s.nC z c):BE (s.aX e) z.toNat ⟨.slice p l.length c,e,1,l.length,strs l⟩=t.aX e:=by
 funext i;unfold FC.aX;rw[h1,h2,h3];grind [ng,lV,ad]
theorem Q6(e:TypeId)(s t:FC)(z:Int)(hz:0<=z/\z<40)(l:List Int)(p:Option Addr)(c:Nat)(h1:t.kids=ad s.kids z l)(h2:t.kP=ad s.kP z p)(h3:t.kC=ad s.kC z c):BE (s.aY e) z.toNat ⟨.slice p l.length c,e,1,l.length,fS l⟩=t.aY e:=by
 funext i;unfold FC.aY;rw[h1,h2,h3];grind [ng,lV,ad]
def lO{e:TypeId}{s:FC}(t:FC){n c:Nat}{p:Option Addr}{l:List ByteArray}(hz:0<=z/\z<40)(hn:n=l.length)(h1:t.aI=ad s.aI z l)(h2:t.nP=ad s.nP z p)(h3:t.nC=ad s.nC z c)(hp:cG H [.row (.slice p n c) e 1 n (strs l),.aQ (ji au z.toNat) (s.aX e)] F)(h:XM W S H w):XM W S (.aQ au (t.aX e)::F) w:=by
 subst hn;have h4:=qG (x:=⟨.slice p l.length c,e,1,l.length,strs l⟩) z.toNat (uZ _ _) (h.cb hp.cb);rw[FA (yN hz),Q5 e s t z hz l p c h1 h2 h3]at h4;exact h4
def vu{e:TypeId}{s:FC}(t:FC){n c:Nat}{p:Option Addr}{l:List Int}(hz:0<=z/\z<40)(hn:n=l.length)(h1:t.kids=ad s.kids z l)(h2:t.kP=ad s.kP z p)(h3:t.kC=ad s.kC z c)(hp:cG H [.row (.slice p n c) e 1 n (fS l),.aQ (ji au z.toNat) (s.aY e)] F)(h:XM W S H w):XM W S (.aQ au (t.aY e)::F) w:=by
 subst hn;have h4:=qG (x:=⟨.slice p l.length c,e,1,l.length,fS l⟩) z.toNat (uZ _ _) (h.cb hp.cb);rw[FA (yN hz),Q6 e s t z hz l p c h1 h2 h3]at h4;exact h4
def OF{e:TypeId}{s:FC}(t:FC)(hz:0<=z/\z<40)(h1:t.aI=ad s.aI z [])(h2:t.nP=ad s.nP z none)(h3:t.nC=ad s.nC z 0)(hp:cG H [.aQ au (s.aX e)] F)(h:XM W S H w):XM W S (.aQ au (t.aX e)::F) w:=by
 have h4:=(XM.pick (UT _ _) (nH hz hp h)).fH e 1;exact lO (s:=s) t (p:=none) (c:=0) (n:=0) (l:=[]) hz rfl h1 h2 h3 (.cons .aa (.cons .aa (by
  have hq:∀ L:List aG,cG L [] L:=fun L=>.nil
  exact hq _))) h4
def OG{e:TypeId}{s:FC}(t:FC)(hz:0<=z/\z<40)(h1:t.kids=ad s.kids z [])(h2:t.kP=ad s.kP z none)(h3:t.kC=ad s.kC z 0)(hp:cG H [.aQ au (s.aY e)] F)(h:XM W S H w):XM W S (.aQ au (t.aY e)::F) w:=by
 have h4:=(XM.pick (UT _ _) (yO hz hp h)).fH e 1;exact vu (s:=s) t (p:=none) (c:=0) (n:=0) (l:=[]) hz rfl h1 h2 h3 (pz 2) h4
end
def FC.xd(s:FC)(z k t l u:Int):FC:=⟨s.toFF.jF z k t l u,ad s.nP z none,ad s.nC z 0,ad s.kP z none,ad s.kC z 0,s.rP,s.rC⟩
def FC.afr(s:FC)(n:Int)(x:ByteArray)(k:Int)(p:Option Addr)(c:Nat)(p2:Option Addr)(c2:Nat):FC:=⟨s.toFF.tm n x k,ad s.nP n p,ad s.nC n c,ad s.kP n p2,ad s.kC n c2,s.rP,s.rC⟩
abbrev Gm(k t l u:Int):aC.U:=⟨k,t,l,0,ByteArray.empty,u,[],none,0,[],none,0⟩
def yP(k t l u:Int):Array Value:= #[iI k,iI t,iI l,iI 0,.string ⟨#[]⟩,.slice none 0 0,.slice none 0 0,iI u]
def Km(s:FC)(z k t l u:Int)(hz:0<=z/\z<40:=by omega):0+0+z.toNat*8+8<=321/\cD (aC s) (0+0+z.toNat*8) (yP k t l u).toList=aC (s.xd z k t l u):=
 aC.TP s (s.xd z k t l u) z hz _ rfl (fun j hj=>by
  have e:aC.un (s.xd z k t l u) z=Gm k t l u:=by
   unfold aC.un FC.xd FF.jF
   simp only[aj]
  rw[e]
  match j,hj with
  | 0,_=>rfl
  | 1,_=>rfl
  | 2,_=>rfl
  | 3,_=>rfl
  | 4,_=>rfl
  | 5,_=>rfl
  | 6,_=>rfl
  | 7,_=>rfl
  | j+8,h=>exact absurd h og) (fun y hy=>by
  unfold aC.un FC.xd FF.jF
  simp only[ae _ _ hy]) rfl
def mW(s:FC):0+320<321/\aC s (0+320)= .slice s.rP s.roots.length s.rC:=by grind [aC]
def Ff(s:FC)(l:List Int)(p:Option Addr)(c n:Nat)(hn:n=l.length):0+320<321/\dP (aC s) (0+320) (.slice p n c)=aC {s with roots:=l,rP:=p,rC:=c} :=by
 subst hn;refine⟨og,?_⟩;funext i;unfold dP aC;by_cases hi:i=0+320
 ·simp_all
 ·rw[if_neg hi];by_cases c1:i<320
  ·rw[if_pos c1,if_pos c1];rfl
  grind
def Ko(k t l u:Int):∀ i,i<8->cellsOf (yP k t l u) i=aC.cell (Gm k t l u) i:=fun i h=>match i,h with
 | 0,_=>rfl
 | 1,_=>rfl
 | 2,_=>rfl
 | 3,_=>rfl
 | 4,_=>rfl
 | 5,_=>rfl
 | 6,_=>rfl
 | 7,_=>rfl
 | j+8,h=>absurd h og
def UU(k t l u:Int):0+8<=8/\dv (aC.cell (Gm k t l u)) 0 8= .agg (yP k t l u):=⟨og,rfl⟩
def Kp:Array Value:=((List.range 321).map (aC FC.dB)).toArray
def ML:Kp.size=321:=by simp[Kp]
def Q7:∀ i,i<321->cellsOf Kp i=aC FC.dB i:=fun i hi=>by simp[cellsOf,Kp,hi]
def FC.afs(s:FC)(n:Int)(x:ByteArray):FC:=⟨s.toFF.ey n x,ad s.nP n (s.nP n),ad s.nC n (s.nC n),ad s.kP n (s.kP n),ad s.kC n (s.kC n),s.rP,s.rC⟩
theorem DI{t:FC}{X:FF}(h:t.toFF=X)(z v:Int):({t with bM:=ad t.bM z v} :FC).toFF= {X with bM:=ad X.bM z v} :=by rw[<-h]
theorem YJ{t:FC}{X:FF}(h:t.toFF=X)(z v:Int):({t with bj:=ad t.bj z v} :FC).toFF= {X with bj:=ad X.bj z v} :=by rw[<-h]
theorem aft{t:FC}{X:FF}(h:t.toFF=X)(z v:Int):({t with up:=ad t.up z v} :FC).toFF= {X with up:=ad X.up z v} :=by rw[<-h]
def Bp{W w:World}{S:Nat->Nat->Prop}{H:List aG}(r:Nat->qh)(e:TypeId)(hr:∀ i,r i=⟨.slice none 0 0,e,1,0,[]⟩)(h:XM W S H w):XM W S (.aQ au r::H) w:=by
 have hr0:w.ownsRow 0 e 1 (.slice none 0 0) 0 []:=(h.fH e 1).fa.1 (.row (.slice none 0 0) e 1 0 []) sq;refine⟨⟨fun x hx=> ?_,List.pairwise_cons.2 ⟨fun x hx _ b o h1 h2=> ?_,h.fa.2⟩⟩,h.fE,fun x hx hw b o hb=> ?_⟩
 ·rcases List.mem_cons.1 hx with rfl | hx
  ·exact⟨fun i _=>by rw[hr];exact hr0,fun i j b _ _ _ h1 _=>by rw[hr]at h1;cases h1⟩
  ·exact h.fa.1 x hx
 ·obtain⟨i,_,hb⟩:=h1;rw[hr]at hb;cases hb
 ·rcases List.mem_cons.1 hx with rfl | hx
  ·obtain⟨i,_,hb⟩:=hb;rw[hr]at hb;cases hb
  ·exact h.EP x hx hw b o hb
def HS{W w:World}{S:Nat->Nat->Prop}{H:List aG}(h:XM W S H w):XM W S (.aQ au (FC.dB.aX 9):: .aQ au (FC.dB.aY 3)::dy none 0 3 []::H) w:=
 Bp _ 9 (fun _=>rfl) (Bp _ 3 (fun _=>rfl) (h.fH 3 1))
structure NV where
 aO:Int
 bM:Int
 bj:Int
 size:Int
def NV.cF(x:NV):Array Value:= #[iI x.aO,iI x.bM,iI x.bj,iI x.size]
def NV.zero:NV:=⟨0,0,0,0⟩
def oy(x:NV)(i:Nat):Value:=if i=0 then iI x.aO else if i=1 then iI x.bM else if i=2 then iI x.bj else if i=3 then iI x.size else undef
def oQ(x:NV):∀ i,i<4->cellsOf x.cF i=oy x i:=fun i h=>match i,h with
 | 0,_=>rfl
 | 1,_=>rfl
 | 2,_=>rfl
 | 3,_=>rfl
 | j+4,h=>absurd h og
def rm(x:NV):0+4<=4/\dv (oy x) 0 4= .agg x.cF:=⟨og,rfl⟩
def mm(y x:NV):0+4<=4/\cD (oy y) 0 x.cF.toList=oy x:=by
 refine⟨og,?_⟩;funext i;match i with
 | 0=>rfl
 | 1=>rfl
 | 2=>rfl
 | 3=>rfl
 | k+4=>simp[cD,dP,NV.cF,oy]
def xe(x:NV):0+0<4/\oy x (0+0)=iI x.aO:=⟨og,rfl⟩
def Kq(x:NV):0+1<4/\oy x (0+1)=iI x.bM:=⟨og,rfl⟩
def MM(x:NV):0+2<4/\oy x (0+2)=iI x.bj:=⟨og,rfl⟩
def MN(x:NV):0+3<4/\oy x (0+3)=iI x.size:=⟨og,rfl⟩
def FF.Xa(s:FF)(n:Int):NV:=if s.cC n 0=0 then⟨s.aO n,s.bM n,s.bj n,max ((s.data n).size:Int) ((s.kids n).length:Int)⟩else NV.zero
def OH(u:aC.U):Array Value:= #[iI u.aO,iI u.dJ,iI u.bM,iI u.bj,.string u.data,.slice u.nP u.aI.length u.nC,.slice u.kP u.kids.length u.kC,iI u.up]
def Q8(s:FC)(z:Int)(h:0<=z/\z<40):0+0+z.toNat*8+8<=321/\dv (aC s) (0+0+z.toNat*8) 8= .agg (OH (aC.un s z)):=by
 refine⟨og,?_⟩;have q:=aC.at_ s z h;simp only[dv,List.range,List.range.loop,List.map_cons,List.map_nil];rw[q 0 og,q 1 og,q 2 og,q 3 og,q 4 og,q 5 og,q 6 og,q 7 og];rfl
def UW(u0 u:aC.U):0+8<=8/\cD (aC.cell u0) 0 (OH u).toList=aC.cell u:=by
 refine⟨og,?_⟩;funext i;match i with
 | 0=>rfl
 | 1=>rfl
 | 2=>rfl
 | 3=>rfl
 | 4=>rfl
 | 5=>rfl
 | 6=>rfl
 | 7=>rfl
 | k+8=>
  have e1:∀ u:aC.U,aC.cell u (k+8)=undef:=fun u=>by unfold aC.cell;iterate 8 rw[if_neg og]
  have e2:cD (aC.cell u0) 0 (OH u).toList (k+8)=aC.cell u0 (k+8):=by simp[cD,dP,OH]
  rw[e2,e1,e1]
def YK(u:aC.U):0+0<8/\aC.cell u (0+0)=iI u.aO:=⟨og,rfl⟩
def YL(u:aC.U):0+2<8/\aC.cell u (0+2)=iI u.bM:=⟨og,rfl⟩
def YM(u:aC.U):0+3<8/\aC.cell u (0+3)=iI u.bj:=⟨og,rfl⟩
def YN(u:aC.U):0+4<8/\aC.cell u (0+4)= .string u.data:=⟨og,rfl⟩
def YO(u:aC.U):0+6<8/\aC.cell u (0+6)= .slice u.kP u.kids.length u.kC:=⟨og,rfl⟩
theorem acr(l:List UInt8)(i:Nat)(h:i<(ByteArray.mk l.toArray).size)(h2:i<l.length):(ByteArray.mk l.toArray)[i]'h=l[i]'h2:=rfl
theorem acs(d:ByteArray)(a:Nat)(x:ByteArray)(i:Nat)(h:i<(W9 d a x).size):(W9 d a x)[i]=if a<=i/\i<a+x.size then x.get! (i-a)else if i<d.size then d.get! i else 0:=by
 have hs:=FF.yM d a x;grind [acr,W9]
def MO{x:ByteArray}{j:Nat}(h:j<x.size):(x.data.toList.map bv)[j]? =some (bv (x.get! j)):=by
 rw[List.getElem?_map];have h2:j<x.data.toList.length:=by rw[Array.length_toList];exact h
 rw[List.getElem?_eq_getElem h2];show some (bv (x.data.toList[j]))=some (bv (x.data[j]!));simp_all
theorem MP(x:ByteArray):(x.data.toList.map bv).length=x.size:=iV
def UX(d:ByteArray)(a:Nat)(x:ByteArray)(i:Nat)(h:i<(W9 d a x).size):cD (cD (fun _=>bv 0) 0 (d.data.toList.map bv)) a (x.data.toList.map bv) i=bv (W9 d a x)[i]:=by
 rw[acs];by_cases c1:i<a
 ·rw[iw _ _ _ _ c1,if_neg og];by_cases c2:i<d.size
  ·rw[if_pos c2];have:=fP (d.data.toList.map bv) (fun _=>bv 0) 0 i _ (MO c2);simp_all
  grind [ix,MP]
 ·by_cases c3:i<a+x.size
  ·rw[if_pos ⟨og,c3⟩];have:=fP (x.data.toList.map bv) (cD (fun _=>bv 0) 0 (d.data.toList.map bv)) a (i-a) _ (MO (x:=x) (j:=i-a) og);simp_all
  ·rw[if_neg og,ix _ _ _ _ (by rw[MP];omega)];by_cases c2:i<d.size
   ·rw[if_pos c2];have:=fP (d.data.toList.map bv) (fun _=>bv 0) 0 i _ (MO c2);simp_all
   grind [ix,MP]
end Go.X.Tr

namespace Go.X.Tr
open Go Go.X
variable{J K i n:Int}{bf:Nat}{C D:Nat->Value}
namespace FF
theorem MQ(s:FF)(n:Int):(s.rk n).roots=s.roots:=by unfold rk;split<;>rfl
theorem mX(s:FF)(n:Int):(s.kQ n).roots=s.roots:=by
 grind [kQ,MQ]
def Kr(s:FF)(n a:Int)(x:ByteArray):(s.cm n a x).roots=s.roots:=by grind [cm]
end FF
namespace FF
def Ks{x:ByteArray}(h:ko x=true):x.size<=8:=by
 grind [ko]
def UY{s:FF}(h:s.cC n 0=0):(s.Xa n).aO=s.aO n/\(s.Xa n).bM=s.bM n/\(s.Xa n).bj=s.bj n:=by
 grind [FF.Xa]
end FF
structure OS where
 aO:Int->Int
 n:Int->Int
 at_:Int->Int
 cQ:Int->Int
 cm:Int->Bool
namespace OS
def is(s:OS)(n:Int):Int:=if n<0\/24<=n then 1 else if s.cQ n=0 then 2 else 0
def mY(s:OS):Nat->Int
 | 0=> -1
 | k+1=>if 0<=mY s k then mY s k else if s.cQ (k:Int)=0 then(k:Int)else-1
def first(s:OS):Int:=mY s 24
def fC(s:OS)(m:Int):Nat->List Int
 | 0=>[]
 | k+1=>if s.cQ (k:Int)=0/\((fC s m k).length:Int)<m then fC s m k++[(k:Int)]else fC s m k
def lay(s:OS)(z k n:Int)(w:Bool):OS:=⟨ad s.aO z k,ad s.n z n,ad s.at_ z 0,ad s.cQ z 1,ad s.cm z w⟩
def Bb(s:OS)(z:Int):OS:=⟨ad s.aO z 0,ad s.n z 0,ad s.at_ z 0,ad s.cQ z 0,ad s.cm z false⟩
def move(s:OS)(z d:Int):OS:= {s with at_:=ad s.at_ z (s.at_ z+d)}
def dB:OS:=⟨fun _=>0,fun _=>0,fun _=>0,fun _=>0,fun _=>false⟩
def DJ(s:OS):Nat->Int
 | 0=>0
 | k+1=>DJ s k+(if 0<s.cQ (k:Int)then 1 else 0)
def opens(s:OS):Int:=DJ s 24
structure Inv (s:OS) (J:Int):Prop where
 cQ:∀ n,0<=n->n<24->0<=s.cQ n/\s.cQ n<=J
 at_:∀ n,0<=n->n<24->0<=s.at_ n/\s.at_ n<=40
 aO:∀ n,0<=n->n<24->s.cQ n≠0->s.aO n=1\/s.aO n=2\/s.aO n=3
 cm:∀ n,0<=n->n<24->s.aO n≠1->s.cm n=false
theorem MR{s:OS}(h:s.is n=0):0<=n/\n<24/\s.cQ n≠0:=by
 grind [is]
theorem uw(s:OS):∀ k:Nat,(s.mY k= -1/\∀ j:Int,0<=j->j<k->s.cQ j≠0)\/(0<=s.mY k/\s.mY k<k/\s.cQ (s.mY k)=0/\∀ j:Int,0<=j->j<s.mY k->s.cQ j≠0)
 | 0=>.inl ⟨rfl,fun j a b=>og⟩
 | k+1=>by
  unfold mY;rcases uw s k with⟨h1,h2⟩ | ⟨h1,h2,h3,h4⟩
  ·rw[if_neg og];by_cases c:s.cQ (k:Int)=0
   ·rw[if_pos c];exact .inr ⟨og,og,c,fun j a b=>h2 j a og⟩
   ·rw[if_neg c];refine .inl ⟨rfl,fun j a b=> ?_⟩;by_cases e:j=(k:Int)
    ·subst e;exact c
    ·exact h2 j a og
  ·rw[if_pos h1];exact .inr ⟨h1,og,h3,h4⟩
def DK{s:OS}(h1:0<=i)(h2:i<24)(ho:∀ j,0<=j->j<i->s.cQ j≠0)(hz:s.cQ i=0):s.first=i:=by
 grind [first,uw]
theorem nI{s:OS}(h:¬s.first<0):0<=s.first/\s.first<24/\s.cQ s.first=0:=by
 grind [first,uw]
theorem HT(s:OS):∀ k,s.fC 1 k=if 0<=s.mY k then [s.mY k]else []
 | 0=>rfl
 | k+1=>by
  unfold fC mY;rw[HT s k];by_cases c:0<=s.mY k
  ·simp only[c,if_true,List.length_singleton];rw[if_neg og]
  ·simp only[c,if_false,List.length_nil];by_cases q:s.cQ (k:Int)=0
   ·rw[if_pos ⟨q,og⟩,if_pos q,if_pos og];rfl
   ·rw[if_neg fun h=>q h.1,if_neg q,if_neg og]
def Gn(s:OS)(m:Int):∀ k,(s.fC m k).length<=k
 | 0=>Nat.le_refl _
 | k+1=>by
  have:=Gn s m k;grind [fC]
def MU(s:OS)(m:Int)(h:0<=i):s.fC m (i+1).toNat=if s.cQ i=0/\((s.fC m i.toNat).length:Int)<m then s.fC m i.toNat++[i]else s.fC m i.toNat:=by
 rw[show(i+1).toNat=i.toNat+1 by omega];grind [fC]
theorem Cb{s:OS}(h:((s.fC 1 24).length:Int)<1):s.first<0:=by
 rw[HT]at h;grind [first]
def UZ{s:OS}(h:¬((s.fC 1 24).length:Int)<1):¬s.first<0/\s.fC 1 24=[s.first]:=by
 rw[HT]at h ⊢;grind [first]
end OS
def n9(F:FF)(O:OS)(n:Int):Int:=if F.cC n 1≠0 then F.cC n 1 else if O.first<0 then 4 else 0
def ux(F:FF)(O:OS)(n:Int):Int:=if n9 F O n=0 then O.first else 0
def sD(F:FF)(O:OS)(n:Int):FF:=if n9 F O n=0 then F.ea n else F
def qs(F:FF)(O:OS)(n:Int)(w:Bool):OS:=if n9 F O n=0 then O.lay O.first 1 n w else O
def qt(O:OS)(n:Int):OS:=if O.is n=0 then {O with cQ:=ad O.cQ n (O.cQ n+1)} else O
def Kt(O:OS)(n:Int):OS:= {O with cQ:=ad O.cQ n (O.cQ n-1)}
def OJ(O:OS)(n:Int):Prop:=O.is n=0/\¬ 0<O.cQ n-1
instance (O:OS) (n:Int):Decidable (OJ O n):=by unfold OJ;infer_instance
def ks(F:FF)(P:PS)(O:OS)(n:Int):Int:=if O.is n≠0 then O.is n else if 0<O.cQ n-1 then 0 else if O.aO n=1 then F.DC (O.n n)else(P.mL (O.n n) (decide (O.aO n=3)) (-1)).1
def mZ(F:FF)(O:OS)(n:Int):FF:=if OJ O n/\O.aO n=1 then F.kQ (O.n n)else F
def kR(P:PS)(O:OS)(n:Int):PS:=if OJ O n/\¬O.aO n=1 then(P.mL (O.n n) (decide (O.aO n=3)) (-1)).2 else P
def kS(O:OS)(n:Int):OS:=if O.is n≠0 then O else if 0<O.cQ n-1 then Kt O n else O.Bb n
def uy(F:FF)(P:PS)(O:OS)(n m:Int):Int:=if O.is n≠0 then O.is n else if O.aO n=3 then 8 else if O.aO n=2 then(P.mV (O.n n) m).2.1 else F.mj (O.n n) (O.at_ n) m
def uz(F:FF)(P:PS)(O:OS)(n m:Int):ByteArray:=if O.is n≠0 then⟨#[]⟩else if O.aO n=3 then⟨#[]⟩else if O.aO n=2 then(P.mV (O.n n) m).1 else F.kM (O.n n) (O.at_ n) m
def qu(P:PS)(O:OS)(n m:Int):PS:=if O.is n=0/\O.aO n=2 then(P.mV (O.n n) m).2.2 else P
def qv(F:FF)(O:OS)(n m:Int):OS:=if O.is n=0/\¬O.aO n=3/\¬O.aO n=2 then O.move n ((F.kM (O.n n) (O.at_ n) m).size)else O
def iT(F:FF)(P:PS)(O:OS)(n:Int)(x:ByteArray):Int:=if O.is n≠0 then O.is n else if O.aO n=3 then(P.cm (O.n n) x).2.1 else if O.aO n=2\/O.cm n=false then 8 else F.fg (O.n n) (O.at_ n) x
def DL(O:OS)(n:Int):Prop:=O.is n=0/\¬O.aO n=3/\¬(O.aO n=2\/O.cm n=false)
instance (O:OS) (n:Int):Decidable (DL O n):=by unfold DL;infer_instance
def jv(F:FF)(P:PS)(O:OS)(n:Int)(x:ByteArray):Int:=if O.is n=0/\O.aO n=3 then(P.cm (O.n n) x).1 else if DL O n/\F.fg (O.n n) (O.at_ n) x=0 then(x.size:Int)else 0
def mn(P:PS)(O:OS)(n:Int)(x:ByteArray):PS:=if O.is n=0/\O.aO n=3 then(P.cm (O.n n) x).2.2 else P
def iD(F:FF)(O:OS)(n:Int)(x:ByteArray):FF:=if DL O n then F.cm (O.n n) (O.at_ n) x else F
def jw(F:FF)(O:OS)(n:Int)(x:ByteArray):OS:=if DL O n/\F.fg (O.n n) (O.at_ n) x=0 then O.move n (x.size)else O
def nJ(O:OS)(n a:Int):Int:=if O.is n≠0 then O.is n else if O.aO n≠1 then 11 else if a<0\/40<a then 1 else 0
def wj(O:OS)(n a:Int):OS:=if nJ O n a=0 then {O with at_:=ad O.at_ n a} else O
theorem OS.jC(s:OS)(n:Int):(s.is n=0/\0<=n/\n<24/\¬s.cQ n=0)\/(s.is n=1/\(n<0\/24<=n))\/(s.is n=2/\0<=n/\n<24/\s.cQ n=0):=by
 unfold OS.is;split;all_goals omega
def aaK(x:Int):(fS [x])[0+(0:Int).toNat*1]? =some (iI x):=rfl
theorem OS.Ku(O:OS)(n:Int):(Kt O n).Bb n=O.Bb n:=by
 unfold OS.Bb Kt;simp only[FF.Gl]
def FF.Kv{s:FF}(h:s.Sh)(n a m:Int):(s.kM n a m).size<=40/\(0<=a->a<=40->a+((s.kM n a m).size:Int)<=40):=by
 unfold kM;split
 ·rename_i e;have e1:s.cC n 1=0/\0<=a/\0<=m:=by
   grind [mj]
  obtain⟨i1,i2,_⟩:=jt e1.1;have hd:=h.data n i1 i2;grind [ByteArray.size_extract]
 simp_all
namespace OS
def jL(s:OS):Int:=(s.lay s.first 2 0 false).first
def OK(s:OS):∀ k:Nat,0<=s.DJ k/\s.DJ k<=k
 | 0=>by simp[DJ]
 | k+1=>by
  have:=OK s k;grind [DJ]
def Ap{s:OS}(h:∀ n,0<=n->n<24->0<=s.cQ n)(m:Int)(hm:0<=m):∀ k:Nat,k<=24->((s.fC m k).length:Int)=min m (k-s.DJ k)
 | 0,_=>by simp[fC,DJ];omega
 | k+1,hk=>by
  have ih:=Ap h m hm k og;grind [fC,DJ]
def HU(s:OS):∀ k:Nat,(s.fC 2 k=[]/\∀ j:Int,0<=j->j<k->s.cQ j≠0)\/(∃ a:Int,s.fC 2 k=[a]/\0<=a/\a<k/\s.cQ a=0/\∀ j:Int,0<=j->j<k->j≠a->s.cQ j≠0)\/
  (∃ a b:Int,s.fC 2 k=[a,b]/\0<=a/\a<b/\b<k/\s.cQ a=0/\s.cQ b=0/\∀ j:Int,0<=j->j<b->j≠a->s.cQ j≠0)
 | 0=>.inl ⟨rfl,fun j a b=>og⟩
 | k+1=>by
  unfold fC;rcases HU s k with⟨h1,h2⟩ | ⟨a,h1,h2,h3,h4,h5⟩ | ⟨a,b,h1,h2,h3,h4,h5,h6,h7⟩
  ·rw[h1];by_cases c:s.cQ (k:Int)=0
   ·rw[if_pos ⟨c,sq⟩];exact .inr (.inl ⟨k,rfl,og,og,c,fun j x y z=>h2 j x og⟩)
   ·rw[if_neg fun q=>c q.1];refine .inl ⟨rfl,fun j x y=> ?_⟩;by_cases e:j=(k:Int)
    ·subst e;exact c
    ·exact h2 j x og
  ·rw[h1];by_cases c:s.cQ (k:Int)=0
   ·rw[if_pos ⟨c,sq⟩];exact .inr (.inr ⟨a,k,rfl,h2,h3,og,h4,c,fun j x y z=>h5 j x og z⟩)
   ·rw[if_neg fun q=>c q.1];refine .inr (.inl ⟨a,rfl,h2,og,h4,fun j x y z=> ?_⟩);by_cases e:j=(k:Int)
    ·subst e;exact c
    ·exact h5 j x og z
  ·rw[h1,if_neg fun q=>by have:=q.2;simp at this];exact .inr (.inr ⟨a,b,rfl,h2,h3,og,h5,h6,h7⟩)
def U0{s:OS}(h:((s.fC 2 24).length:Int)<2):s.first<0\/s.jL<0:=by
 rcases s.HU 24 with⟨h1,h2⟩ | ⟨a,h1,h2,h3,h4,h5⟩ | ⟨a,b,h1,_⟩
 ·grind [nI]
 ·right;have e:s.first=a:=DK h2 h3 (fun j x y=>h5 j x og og) h4
  refine Decidable.byContradiction fun c=> ?_;have q:=nI (s:=s.lay s.first 2 0 false) c;have q3:=q.2.2;rw[show(s.lay s.first 2 0 false).cQ=ad s.cQ s.first 1 from rfl,show(s.lay s.first 2 0 false).first=s.jL from rfl]at q3;by_cases z:s.jL=a;all_goals grind [aj,ae,jL]
 simp_all
def Q9{s:OS}(h:¬((s.fC 2 24).length:Int)<2):¬s.first<0/\¬s.jL<0/\s.fC 2 24=[s.first,s.jL]:=by
 rcases s.HU 24 with⟨h1,h2⟩ | ⟨a,h1,h2,h3,h4,h5⟩ | ⟨a,b,h1,h2,h3,h4,h5,h6,h7⟩
 ·simp_all
 ·simp_all
 ·have e:s.first=a:=DK h2 og (fun j x y=>h7 j x og og) h5
  have e2:s.jL=b:=by
   unfold jL;refine DK og og (fun j x y=> ?_) ?_
   ·show ad s.cQ s.first 1 j≠0
    grind [aj,ae]
   ·show ad s.cQ s.first 1 b=0
    grind [ae]
  grind
def Kw(s:OS):0<=s.opens/\s.opens<=24:=by
 have:=s.OK 24;grind [opens]
end OS
def OL(O:OS)(m:Int):Bool:=decide (m<1)||decide (m<=24-O.opens)
def kT(P:PS)(O:OS):Int:=if O.first<0\/O.jL<0 then 4 else P.make.2.1
def oc(P:PS)(O:OS):PS:=if O.first<0\/O.jL<0 then P else P.make.2.2
def od(P:PS)(O:OS):OS:=if kT P O=0 then(O.lay O.first 2 P.make.1 false).lay O.jL 3 P.make.1 false else O
def oe(P:PS)(O:OS):Int:=if kT P O=0 then O.first else 0
def py(P:PS)(O:OS):Int:=if kT P O=0 then O.jL else 0
def U1(x y:Int):(fS [x,y])[0+(0:Int).toNat*1]? =some (iI x):=rfl
def U2(x y:Int):(fS [x,y])[0+(1:Int).toNat*1]? =some (iI y):=rfl
theorem PS.U3{s:PS}(h:s.Inv K)(hK:0<=K):(s.make).2.2.Inv (K+1):=by
 unfold PS.make;cases hf:dW (fun k=>s.e k 0+s.e k 1==0) 8 with
 | none=>exact h.mono og
 | some k=>
  have hz:s.e k 0+s.e k 1=0:=by
   grind [dW]
  refine⟨fun n=> ?_,fun n=> ?_,fun n hn=> ?_,h.len⟩
  ·grind [cL,Inv]
  ·grind [cL,Inv]
  ·grind [cL,Inv]
def PS.U4{s:PS}{d:Int}{w:Bool}(h:s.Inv K)(hd:d=1\/d= -1):(s.mL n w d).2.Inv (K+1):=by
 unfold PS.mL;by_cases h1:s.is n≠0
 ·grind [PS.Inv.mono]
 rw[if_neg h1];by_cases h2:s.e n (IH w)=0
 ·grind [PS.Inv.mono]
 rw[if_neg h2];have b0:=h.e0;have b1:=h.e1;have hw:IH w=0\/IH w=1:=by cases w<;>simp[IH]
 refine⟨fun m=> ?_,fun m=> ?_,fun m hm=> ?_,fun m=> ?_⟩;all_goals grind [cL,ad,ByteArray.size,Inv]
theorem PS.U5{s:PS}{m:Int}(h:s.Inv K):(s.mV n m).2.2.Inv (K+1):=by
 have hh:=h.mono (show K<=K+1 by omega);unfold PS.mV;split
 ·omega
 ·split
  ·omega
  ·split
   ·omega
   ·split;all_goals grind [ad,ByteArray.size_extract,Inv]
theorem PS.Ra{s:PS}{t:ByteArray}(h:s.Inv K):(s.cm n t).2.2.Inv (K+1):=by
 have hh:=h.mono (show K<=K+1 by omega);unfold PS.cm;split
 ·omega
 ·split
  ·omega
  ·rename_i h1;split
   ·omega
   ·split;all_goals grind [ad,ByteArray.size_extract,Inv]
theorem OS.Inv.mono{s:OS}{J':Int}(h:s.Inv J)(hJ:J<=J'):s.Inv J':=
 ⟨fun n a b=>⟨(h.cQ n a b).1,Int.le_trans (h.cQ n a b).2 hJ⟩,h.at_,h.aO,h.cm⟩
theorem OS.Inv.dB:OS.dB.Inv 1:=
 ⟨fun _ _ _=>by simp[OS.dB],fun _ _ _=>by simp[OS.dB],fun n _ _ h=>absurd rfl h,fun _ _ _ _=>rfl⟩
theorem OS.Inv.lay{s:OS}{J:Int}(h:s.Inv J)(hJ:1<=J)(z k n:Int)(w:Bool)(hk:k=1\/k=2\/k=3)(hw:k≠1->w=false):(s.lay z k n w).Inv J:=by
 refine⟨fun y a b=> ?_,fun y a b=> ?_,fun y a b c=> ?_,fun y a b c=> ?_⟩
 ·show 0<=ad s.cQ z 1 y/\ad s.cQ z 1 y<=J;by_cases q:y=z;all_goals grind [aj,ae,Inv]
 ·show 0<=ad s.at_ z 0 y/\ad s.at_ z 0 y<=40;by_cases q:y=z;all_goals grind [aj,ae,Inv]
 ·show ad s.aO z k y=1\/ad s.aO z k y=2\/ad s.aO z k y=3;by_cases q:y=z
  ·grind [aj]
  ·rw[ae _ _ q];refine h.aO y a b ?_;have c':ad s.cQ z 1 y≠0:=c;grind [ae]
 ·show ad s.cm z w y=false;have c':ad s.aO z k y≠1:=c;by_cases q:y=z;all_goals grind [aj,ae,Inv]
theorem OS.Inv.aaL{s:OS}{J':Int}(h:s.Inv J)(hJ:J<=J')(n r:Int)(hr:0<=r/\r<=J')(hn:s.cQ n≠0):({s with cQ:=ad s.cQ n r} :OS).Inv J':=by
 refine⟨fun y a b=> ?_,h.at_,fun y a b c=> ?_,h.cm⟩
 ·show 0<=ad s.cQ n r y/\ad s.cQ n r y<=J';by_cases q:y=n;all_goals grind [Inv,ad]
 grind [ae,Inv]
theorem OS.Inv.atI{s:OS}(h:s.Inv J)(n r:Int)(hr:0<=r/\r<=40):({s with at_:=ad s.at_ n r} :OS).Inv J:=by
 refine⟨h.cQ,fun y a b=> ?_,h.aO,h.cm⟩;show 0<=ad s.at_ n r y/\ad s.at_ n r y<=40;by_cases q:y=n;all_goals grind [Inv,ad]
def OS.Inv.Bb{s:OS}{J:Int}(h:s.Inv J)(hJ:0<=J)(z:Int):(s.Bb z).Inv J:=by
 refine⟨fun y a b=> ?_,fun y a b=> ?_,fun y a b c=> ?_,fun y a b c=> ?_⟩
 ·show 0<=ad s.cQ z 0 y/\ad s.cQ z 0 y<=J;by_cases q:y=z;all_goals grind [aj,ae,Inv]
 ·show 0<=ad s.at_ z 0 y/\ad s.at_ z 0 y<=40;by_cases q:y=z;all_goals grind [aj,ae,Inv]
 ·show ad s.aO z 0 y=1\/ad s.aO z 0 y=2\/ad s.aO z 0 y=3;have c':ad s.cQ z 0 y≠0:=c;by_cases q:y=z;all_goals grind [aj,ae,Inv]
 ·show ad s.cm z false y=false;have c':ad s.aO z 0 y≠1:=c;by_cases q:y=z;all_goals grind [aj,ae,Inv]
def OS.Inv.Kx{O:OS}(h:O.Inv J)(hJ:1<=J)(P:PS):(od P O).Inv (J+1):=by
 grind [od,lay,OS.Inv.mono]
def OS.Inv.aaM{O:OS}(h:O.Inv J)(n:Int):(qt O n).Inv (J+1):=by
 grind [qt,MR,OS.Inv.aaL,OS.Inv.mono,Inv]
def OS.Inv.close{O:OS}(h:O.Inv J)(n:Int):(kS O n).Inv (J+1):=by
 have h0:=h.cQ 0 og og;unfold kS;split
 ·grind [OS.Inv.mono]
 ·rename_i c;obtain⟨i1,i2,i3⟩:=OS.MR (Decidable.not_not.1 c);have:=h.cQ n i1 i2;split
  ·exact h.aaL og n _ og i3
  ·exact(h.Bb og n).mono og
theorem OS.Inv.mV{O:OS}(h:O.Inv J){F:FF}(hF:F.Sh)(n m:Int):(qv F O n m).Inv (J+1):=by
 unfold qv;split
 ·rename_i c;obtain⟨i1,i2,i3⟩:=OS.MR c.1;have h2:=h.at_ n i1 i2;have h3:=(FF.Kv hF (O.n n) (O.at_ n) m).2 h2.1 h2.2;exact(h.atI n _ og).mono og
 grind [OS.Inv.mono]
def FF.Rb{F:FF}{a:Int}{x:ByteArray}(h:F.fg n a x=0):0<=a/\a+x.size<=40:=by
 grind [fg]
def OS.Inv.acu{O:OS}(h:O.Inv J)(F:FF)(n:Int)(x:ByteArray):(jw F O n x).Inv (J+1):=by
 unfold jw;split
 ·rename_i c;obtain⟨i1,i2,i3⟩:=OS.MR c.1.1;have h2:=h.at_ n i1 i2;have h3:=FF.Rb c.2;exact(h.atI n _ og).mono og
 grind [OS.Inv.mono]
def OS.Inv.Ky{O:OS}(h:O.Inv J)(n a:Int):(wj O n a).Inv (J+1):=by
 grind [wj,nJ,OS.Inv.atI,OS.Inv.mono]
def MV{P:PS}(h:P.Inv K)(hK:0<=K)(O:OS):(oc P O).Inv (K+1):=by
 grind [oc,PS.Inv.mono,PS.U3]
def MW{P:PS}(h:P.Inv K)(O:OS)(n m:Int):(qu P O n m).Inv (K+1):=by
 grind [qu,PS.U5,PS.Inv.mono]
def Kz{P:PS}(h:P.Inv K)(O:OS)(n:Int)(x:ByteArray):(mn P O n x).Inv (K+1):=by
 grind [mn,PS.Ra,PS.Inv.mono]
theorem yQ(F:FF)(O:OS)(n:Int):(mZ F O n).roots=F.roots:=by
 grind [mZ,FF.mX]
theorem Fg(F:FF)(O:OS)(n:Int)(x:ByteArray):(iD F O n x).roots=F.roots:=by
 unfold iD;split
 ·exact FF.Kr _ _ _ _
 rfl
structure WH where
 dJ:Int
 node:Int
instance:DecidableEq WH:=fun a b=>if h:a.dJ=b.dJ/\a.node=b.node then isTrue (by cases a;cases b;simp only at h;rw[h.1,h.2])else isFalse fun e=>h (by rw[e];exact⟨rfl,rfl⟩)
theorem Rc{a b:WH} :(a.dJ=b.dJ/\a.node=b.node)↔a=b:=⟨fun h=>by cases a;cases b;simp only at h;rw[h.1,h.2],fun e=>by rw[e];exact⟨rfl,rfl⟩⟩
def WH.nil:WH:=⟨0,0⟩
abbrev WH.cF(w:WH):Array Value:= #[iI w.dJ,iI w.node]
def aN(w:WH)(i:Nat):Value:=if i=0 then iI w.dJ else if i=1 then iI w.node else undef
structure MT where
 at_:WH
 to:WH
def MT.nil:MT:=⟨WH.nil,WH.nil⟩
abbrev MT.cF(m:MT):Array Value:= #[iI m.at_.dJ,iI m.at_.node,iI m.to.dJ,iI m.to.node]
def fG(m:MT)(i:Nat):Value:=if i=0 then iI m.at_.dJ else if i=1 then iI m.at_.node else if i=2 then iI m.to.dJ else if i=3 then iI m.to.node else undef
def qw(l:List MT)(z:Int):MT:=l.getD z.toNat MT.nil
def LB(l:List WH)(z:Int):WH:=l.getD z.toNat WH.nil
def mC(l:List MT)(i:Nat):Value:=fG (qw l ((i/4:Nat):Int)) (i%4)
def wC(l:List WH)(i:Nat):Value:=aN (LB l ((i/2:Nat):Int)) (i%2)
def MC(C:Nat->Value)(l:List MT):Prop:=∀ i,i<l.length*4->C i=mC l i
theorem aN.box(w:WH):∀ i,i<2->cellsOf (WH.cF w) i=aN w i:=fun i h=>match i,h with
 | 0,_=>rfl
 | 1,_=>rfl
 | j+2,h=>absurd h og
def aN.agg(w:WH):0+2<=2/\dv (aN w) 0 2= .agg (WH.cF w):=⟨og,rfl⟩
def aN.B6(w:WH):0+0<2/\aN w (0+0)=iI w.dJ:=⟨og,rfl⟩
def aN.EM(w:WH):0+1<2/\aN w (0+1)=iI w.node:=⟨og,rfl⟩
theorem aN.st(w u:WH):0+2<=2/\cD (aN w) 0 (WH.cF u).toList=aN u:=by
 refine⟨og,?_⟩;funext i;match i with
 | 0=>rfl
 | 1=>rfl
 | k+2=>
  have e1:∀ w:WH,aN w (k+2)=undef:=fun w=>by unfold aN;rw[if_neg og,if_neg og]
  have e2:cD (aN w) 0 (WH.cF u).toList (k+2)=aN w (k+2):=by simp[cD,dP]
  rw[e2,e1,e1]
theorem fG.box(m:MT):∀ i,i<4->cellsOf (MT.cF m) i=fG m i:=fun i h=>match i,h with
 | 0,_=>rfl
 | 1,_=>rfl
 | 2,_=>rfl
 | 3,_=>rfl
 | j+4,h=>absurd h og
def fG.lW(m:MT):0+0+2<=4/\dv (fG m) (0+0) 2= .agg (WH.cF m.at_):=⟨og,rfl⟩
def Re(m:MT):0+2+2<=4/\dv (fG m) (0+2) 2= .agg (WH.cF m.to):=⟨og,rfl⟩
def xf(m:MT):0+0+1<4/\fG m (0+0+1)=iI m.at_.node:=⟨og,rfl⟩
def xg(m:MT):0+2+1<4/\fG m (0+2+1)=iI m.to.node:=⟨og,rfl⟩
theorem fG.st(m u:MT):0+4<=4/\cD (fG m) 0 (MT.cF u).toList=fG u:=by
 refine⟨og,?_⟩;funext i;match i with
 | 0=>rfl
 | 1=>rfl
 | 2=>rfl
 | 3=>rfl
 | k+4=>
  have e1:∀ w:MT,fG w (k+4)=undef:=fun w=>by unfold fG;rw[if_neg og,if_neg og,if_neg og,if_neg og]
  have e2:cD (fG m) 0 (MT.cF u).toList (k+4)=fG m (k+4):=by simp[cD,dP]
  rw[e2,e1,e1]
def aK(bf:Nat)(r:WH)(v:Value)(i:Nat):Value:=if i=0 then ay bf 0 0 else if i=1 then iI r.dJ else if i=2 then iI r.node else if i=3 then v else undef
def aK.B6(r:WH)(v:Value):0+0<4/\aK bf r v (0+0)=ay bf 0 0:=⟨og,rfl⟩
def aK.EM(r:WH)(v:Value):0+1+2<=4/\dv (aK bf r v) (0+1) 2= .agg (WH.cF r):=⟨og,rfl⟩
def Gp(r:WH)(v:Value):0+1+1<4/\aK bf r v (0+1+1)=iI r.node:=⟨og,rfl⟩
def lj(r:WH)(v:Value):0+3<4/\aK bf r v (0+3)=v:=⟨og,rfl⟩
def U6(r u:WH)(v:Value):0+1+2<=4/\cD (aK bf r v) (0+1) (WH.cF u).toList=aK bf u v:=by
 refine⟨og,?_⟩;funext i;match i with
 | 0=>rfl
 | 1=>rfl
 | 2=>rfl
 | 3=>rfl
 | k+4=>
  have e1:∀ r v,aK bf r v (k+4)=undef:=fun r v=>by unfold aK;rw[if_neg og,if_neg og,if_neg og,if_neg og]
  have e2:cD (aK bf r v) (0+1) (WH.cF u).toList (k+4)=aK bf r v (k+4):=by simp[cD,dP]
  rw[e2,e1,e1]
def DM(r:WH)(v u:Value):0+3<4/\dP (aK bf r v) (0+3) u=aK bf r u:=by
 grind [aK,dP]
abbrev acv(bf:Nat)(r:WH)(v:Value):Array Value:= #[ay bf 0 0,iI r.dJ,iI r.node,v]
theorem aK.box(bf:Nat)(r:WH)(v:Value):∀ i,i<4->cellsOf (acv bf r v) i=aK bf r v i:=fun i h=>match i,h with
 | 0,_=>rfl
 | 1,_=>rfl
 | 2,_=>rfl
 | 3,_=>rfl
 | j+4,h=>absurd h og
def afu(l:List MT)(z:Int)(hz:0<=z)(j:Nat)(hj:j<4):mC l (0+z.toNat*4+j)=fG (qw l z) j:=by
 unfold mC;grind
def MC.ld{l:List MT}(h:MC C l){k:Nat}(hk:l.length<=k)(z:Int)(q:0<=z/\z<l.length):0+z.toNat*4+4<=k*4/\dv C (0+z.toNat*4) 4= .agg (MT.cF (qw l z)):=by
 refine⟨og,?_⟩;have e:=fun j (hj:j<4)=>(h (0+z.toNat*4+j) og).trans (afu l z q.1 j hj);simp only[dv,List.range,List.range.loop,List.map_cons,List.map_nil];rw[e 0 og,e 1 og,e 2 og,e 3 og];rfl
def afv(l:List WH)(z:Int)(hz:0<=z)(j:Nat)(hj:j<2):wC l (0+z.toNat*2+j)=aN (LB l z) j:=by
 grind [wC]
def U7(l:List WH)(z:Int)(q:0<=z/\z<l.length):0+z.toNat*2+2<=l.length*2/\dv (wC l) (0+z.toNat*2) 2= .agg (WH.cF (LB l z)):=by
 refine⟨og,?_⟩;have e:=fun j (hj:j<2)=>afv l z q.1 j hj;simp only[dv,List.range,List.range.loop,List.map_cons,List.map_nil];rw[e 0 og,e 1 og];rfl
def YP(l:List WH)(n:Nat)(i:Nat)(h:i<n*2):wC (l.take n) i=wC l i:=by
 grind [wC,LB]
def acw(l:List WH)(w:WH)(A:Nat->Value)(hA:∀ i,i<2->A i=aN w i)(i:Nat)(h:i<(l.length+1)*2):wC (l++[w]) i=if i<l.length*2 then wC l i else A (i-l.length*2):=by
 grind [wC,LB]
def MC.app{l:List MT}(h:MC C l)(m:MT)(h1:∀ i,i<l.length*4->D i=C i)(h2:∀ i,i<1*4->D (l.length*4+i)=fG m i):MC D (l++[m]):=fun i hi=>by
 grind [mC,qw,MC]
def MC.copy{l:List MT}(h:MC C l)(h1:∀ i,i<l.length*4->D i=C i):MC D l:=fun i hi=>(h1 i hi).trans (h i hi)
theorem MC.OB{l:List MT}(h:MC C l)(n:Nat)(hn:n<l.length)(h1:∀ j,j<n*4->D j=C j)(h2:∀ j,n*4<=j->j<(l.length-1)*4->D j=C (j+4)):MC D (l.eraseIdx n):=fun i hi=>by
 rw[List.length_eraseIdx_of_lt hn]at hi;by_cases c:i<n*4
 ·grind [mC,qw,MC]
 ·rw[h2 i og hi,h (i+4) og];grind [mC,qw]
def acx(m:MT):∀ i,i<4->cellsOf (MT.cF m) i=fG m i:=fG.box m
def Rg(l:List MT)(w:WH):Option WH:=(l.find? fun m=>decide (m.at_=w)).map (·.to)
def ovN(l:List MT):Nat->WH->WH
 | 0,w=>w
 | n+1,w=>match Rg l w with
  | some u=>ovN l n u
  | none=>w
def tq(l:List MT)(w:WH):WH:=ovN l 6 w
def Cc{l:List MT}{z:Int}(h:0<=z/\z<l.length):l[z.toNat]? =some (qw l z):=by
 grind [qw]
def U8{l:List MT}{w:WH}(h:∀ i:Int,0<=i->i<l.length->(qw l i).at_≠w):Rg l w=none:=by
 unfold Rg;rw[List.find?_eq_none.2 fun m hm=> ?_]
 ·rfl
 ·obtain⟨i,hi,rfl⟩:=List.mem_iff_getElem.1 hm;have:=h (i:Int) og og;grind [qw]
def U9{l:List MT}{w:WH}(h0:0<=i/\i<l.length)(h:∀ j:Int,0<=j->j<i->(qw l j).at_≠w)(he:(qw l i).at_=w):Rg l w=some (qw l i).to:=by
 unfold Rg;have e:l.find? (fun m=>decide (m.at_=w))=some (qw l i):=by
  rw[List.find?_eq_some_iff_getElem];have e:=Cc h0;refine⟨by simpa using he,i.toNat,og,?_,fun j hj=> ?_⟩
  ·simp_all
  ·have e2:=Cc (l:=l) (z:=(j:Int)) ⟨og,og⟩;grind
 simp_all
theorem Va{l:List MT}{w:WH}(h:Rg l w=none):∀ n,ovN l n w=w
 | 0=>rfl
 | n+1=>by unfold ovN;rw[h]
theorem Vb{l:List MT}{w u:WH}(h:Rg l w=some u)(n:Nat):ovN l (n+1) w=ovN l n u:=by
 grind [ovN]
def dd:ByteArray:=⟨#[46,46]⟩
def iE:ByteArray:=⟨#[47]⟩
def ec(s:ByteArray):List ByteArray:=Lib.splitB iE 0 (Lib.countB s iE) s
def xh(s:ByteArray):Bool:=decide (s=dd)||ko s
def jc(p:ByteArray):Int:=if 60<p.size\/p=⟨#[]⟩\/p.get! 0≠47 then 9 else if p=iE then 0 else if(ec (p.extract 1 p.size)).all xh=true then 0 else 9
def bV(p:ByteArray):List ByteArray:=if jc p=0/\p≠iE then ec (p.extract 1 p.size)else []
def kt(l:List WH):WH:=LB l ((l.length:Int)-1)
def wk(F:FF)(l:List MT):List WH->List ByteArray->Int×WH
 | cX,[]=>(0,kt cX)
 | cX,s::r=>if s=dd then wk F l (if 1<cX.length then cX.take (cX.length-1)else cX) r else if F.fK (kt cX).node s≠0 then(F.fK (kt cX).node s,WH.nil)else
   wk F l (cX++[tq l ⟨(kt cX).dJ,F.bO (kt cX).node s⟩]) r
def Aq(F:FF)(l:List MT)(r:WH)(ns:List ByteArray):Int×WH:=wk F l [tq l r] ns
def Vc(F:FF)(l:List MT)(r:WH)(p:ByteArray):Int:=if jc p≠0 then jc p else(Aq F l r (bV p)).1
def KD(F:FF)(l:List MT)(r:WH)(p:ByteArray):WH:=if jc p≠0 then WH.nil else(Aq F l r (bV p)).2
def nK(ns:List ByteArray):ByteArray:=kB ns ((ns.length:Int)-1)
def ku(ns:List ByteArray):List ByteArray:=ns.take (ns.length-1)
def HV(F:FF)(l:List MT)(r:WH)(p:ByteArray):Int:=if jc p≠0 then jc p else if(bV p).length=0 then 0 else if nK (bV p)=dd then 9 else if(Aq F l r (ku (bV p))).1≠0 then(Aq F l r (ku (bV p))).1 else F.fK (Aq F l r (ku (bV p))).2.node (nK (bV p))
def BP(F:FF)(l:List MT)(r:WH)(p:ByteArray):WH:=if HV F l r p≠0 then WH.nil else if(bV p).length=0 then r else⟨(Aq F l r (ku (bV p))).2.dJ,F.bO (Aq F l r (ku (bV p))).2.node (nK (bV p))⟩
def yT(F:FF)(l:List MT)(r:WH)(p:ByteArray):Int:=if jc p≠0 then jc p else if(bV p).length=0\/nK (bV p)=dd then 9 else(Aq F l r (ku (bV p))).1
def uA(F:FF)(l:List MT)(r:WH)(p:ByteArray):WH:=if yT F l r p≠0 then WH.nil else(Aq F l r (ku (bV p))).2
def rn(F:FF)(l:List MT)(r:WH)(p:ByteArray):ByteArray:=if yT F l r p≠0 then⟨#[]⟩else nK (bV p)
def xj(F:FF)(w:WH):Int:=if F.cC w.node 0≠0 then F.cC w.node 0 else if F.aO w.node≠2\/F.dJ w.node≠w.dJ then 11 else 0
def KE(l:List MT)(w:WH):Bool:=l.any fun m=>decide (m.at_=w)
def uB(F:FF)(l:List MT)(at_ to:WH):Int:=if xj F at_≠0 then xj F at_ else if xj F to≠0 then xj F to else if at_=to then 8 else if KE l at_=true then 3 else if l.length=6 then 4 else 0
def pA(F:FF)(l:List MT)(at_ to:WH):List MT:=if uB F l at_ to=0 then l++[⟨at_,to⟩]else l
def rs(F:FF)(l:List MT)(at_ to:WH):FF:=if uB F l at_ to=0 then(F.ea at_.node).ea to.node else F
def uC(l:List MT)(w:WH):Nat:=l.findIdx fun m=>decide (m.at_=w)
def yU(l:List MT)(w:WH):Int:=if uC l w<l.length then 0 else 2
def nk(l:List MT)(w:WH):List MT:=l.eraseIdx (uC l w)
def qa(F:FF)(l:List MT)(w:WH):FF:=if uC l w<l.length then(F.kQ (qw l (uC l w)).at_.node).kQ (qw l (uC l w)).to.node else F
def yV(F:FF):List MT->FF
 | []=>F
 | m::r=>yV ((F.ea m.at_.node).ea m.to.node) r
def DN(F:FF):List MT->FF
 | []=>F
 | m::r=>DN ((F.kQ m.at_.node).kQ m.to.node) r
def OM(F:FF)(l:List MT)(r:WH):FF:=yV (F.ea r.node) l
def Cd(F:FF)(l:List MT)(r:WH):FF:=(DN F l).kQ r.node
def ON{P:Program}{n:Fr}{L:PF}{ty:TypeId}{pos:String}{af:Array Edge}{d:Nat}{t t':TypeId}{x y:Operand}{a b:WH}{φ:World->Prop}{gd:Option (Nat×Bool)}(hx:ev L x=some (.agg (WH.cF a)))(hy:ev L y=some (.agg (WH.cF b)))
  (hP:(P.underlying t=some (.struct (P.fieldsOf t))/\P.stoodInHeld t=false)/\P.eqGuardType P.depth t=false/\two P t=true):bd P n L φ ⟨some d,.binOp .eql t x y t',ty,pos,af,gd⟩ (.bool (decide (a=b))):=by grind [aeY,Rc]
def KF{x:ByteArray}(h:60<x.size\/x=⟨#[]⟩\/x.get! 0≠47):jc x=9:=by grind [jc]
def HW{x:ByteArray}(h:x=iE):jc x=0/\bV x=[]:=by
 subst h;have e:jc iE=0:=by
  rfl
 grind [bV]
theorem YQ{l:List ByteArray}{y:ByteArray}(h:y∈l):∃ i:Int,0<=i/\i<l.length/\kB l i=y:=by
 obtain⟨i,hi,rfl⟩:=List.mem_iff_getElem.1 h;exact⟨(i:Int),og,og,by unfold kB;simp[hi]⟩
theorem MX{x:ByteArray}(hc:¬(60<x.size\/x=⟨#[]⟩\/x.get! 0≠47))(hs:¬x=iE)(hi:0<=i/\i<(ec (x.extract 1 x.size)).length)(h:xh (kB (ec (x.extract 1 x.size)) i)=false):jc x=9:=by
 grind [jc,kB]
def KG{x:ByteArray}(hc:¬(60<x.size\/x=⟨#[]⟩\/x.get! 0≠47))(hs:¬x=iE)(h:∀ i:Int,0<=i->i<(ec (x.extract 1 x.size)).length->xh (kB (ec (x.extract 1 x.size)) i)=true):jc x=0/\bV x=ec (x.extract 1 x.size):=by
 grind [jc,YQ,bV]
def Rh{ns:List ByteArray}{n:Nat}(hn:n<=ns.length)(h:0<=i/\i<n):(ns.take n).drop i.toNat=kB ns i::(ns.take n).drop (i+1).toNat:=by
 grind [List.drop_eq_getElem_cons,kB]
section
variable {F:FF} {l:List MT} {cX:List WH} {s:ByteArray} {r a:List ByteArray}
theorem afw(h:a=s::r)(hd:s=dd)(hl:1<cX.length):wk F l cX a=wk F l (cX.take (cX.length-1)) r:=by
 grind [wk]
theorem YR(h:a=s::r)(hd:s=dd)(hl:¬ 1<cX.length):wk F l cX a=wk F l cX r:=by
 grind [wk]
theorem YS(h:a=s::r)(hd:¬s=dd)(he:F.fK (kt cX).node s=0):wk F l cX a=wk F l (cX++[tq l ⟨(kt cX).dJ,F.bO (kt cX).node s⟩]) r:=by
 grind [wk]
theorem acy(h:a=s::r)(hd:¬s=dd)(he:¬F.fK (kt cX).node s=0):wk F l cX a=(F.fK (kt cX).node s,WH.nil):=by
 grind [wk]
def acz{ns:List ByteArray}{n:Nat}(hn:n<=ns.length):wk F l cX ((ns.take n).drop ((n:Int)).toNat)=(0,kt cX):=by
 grind [List.drop_of_length_le,wk]
end
theorem ah8(b:Nat)(e:TypeId)(w:WH):aG.row (.slice (some ⟨b,0,none⟩) 1 1) e 2 1 #[Value.int .i64 w.dJ,iI w.node].toList=aL (some ⟨b,0,none⟩) 1 e 2 1 (wC [w]):=by
 rfl
theorem ah9(g:Nat)(e:TypeId)(a b:WH):aG.row (.slice (some ⟨g,0,none⟩) 2 2) e 2 2 #[Value.int .i64 a.dJ,iI a.node,iI b.dJ,iI b.node].toList=aL (some ⟨g,0,none⟩) 2 e 2 2 (wC [a,b]):=by
 rfl
theorem aaO{l:List MT}(h:0<=i/\i<l.length):l.drop i.toNat=qw l i::l.drop (i+1).toNat:=by
 grind [List.drop_eq_getElem_cons,qw]
theorem MY{F:FF}{l:List MT}(h:0<=i/\i<l.length):yV F (l.drop i.toNat)=yV ((F.ea (qw l i).at_.node).ea (qw l i).to.node) (l.drop (i+1).toNat):=by
 rw[aaO h];rfl
theorem Ri{F:FF}{l:List MT}(h:0<=i/\i<l.length):DN F (l.drop i.toNat)=DN ((F.kQ (qw l i).at_.node).kQ (qw l i).to.node) (l.drop (i+1).toNat):=by
 rw[aaO h];rfl
theorem Rj{F:FF}{l:List MT} :yV F (l.drop ((l.length:Int)).toNat)=F:=by
 grind [List.drop_of_length_le,yV]
theorem Vd{F:FF}{l:List MT} :DN F (l.drop ((l.length:Int)).toNat)=F:=by
 grind [List.drop_of_length_le,DN]
theorem Bq{l:List MT}{w:WH}(h:∀ i:Int,0<=i->i<l.length->(qw l i).at_≠w):KE l w=false:=by
 unfold KE;rw[List.any_eq_false];intro m hm;obtain⟨i,hi,rfl⟩:=List.mem_iff_getElem.1 hm;have:=h (i:Int) og og;grind [qw]
theorem MZ{l:List MT}{w:WH}(h0:0<=i/\i<l.length)(he:(qw l i).at_=w):KE l w=true:=by
 grind [KE,qw]
def M0{l:List MT}{w:WH}(h0:0<=i/\i<l.length)(h:∀ j:Int,0<=j->j<i->(qw l j).at_≠w)(he:(qw l i).at_=w):uC l w=i.toNat:=by
 unfold uC;rw[List.findIdx_eq og];have e:=Cc h0;rw[List.getElem?_eq_getElem og,Option.some.injEq]at e;refine⟨by rw[e];simpa using he,fun j hj=> ?_⟩;have e2:=Cc (l:=l) (z:=(j:Int)) ⟨og,og⟩;grind
def M1{l:List MT}{w:WH}(h:∀ i:Int,0<=i->i<l.length->(qw l i).at_≠w):uC l w=l.length:=by
 unfold uC;rw[List.findIdx_eq_length];intro m hm;obtain⟨i,hi,rfl⟩:=List.mem_iff_getElem.1 hm;have:=h (i:Int) og og;grind [qw]
def C0:Nat->Value:=fun _=>undef
def afx:RV.ok ⟨none,0,0,([]:List MT).length,0,C0⟩:=.inl ⟨rfl,rfl⟩
theorem Ar{F:FF}{l:List MT}{a z:WH}(hi:0<=i/\i<2)(hda:1<=i->xj F a=0)(h:xj F (LB [a,z] i)≠0):uB F l a z=xj F (LB [a,z] i):=by
 grind [uB,LB]
def Ve{F:FF}{d:Int->Nat}{B:Int}(h:F.Ok d B)(l:List MT)(a z:WH):(rs F l a z).Ok d (B+2):=by
 unfold rs;split
 ·have:=(h.ea a.node).ea z.node;grind
 ·exact⟨h.eG,fun n a b=>Int.le_trans (h.bj n a b) og,by have:=h.nn;omega⟩
def YT{F:FF}{d:Int->Nat}{B:Int}(h:F.Ok d B)(l:List MT)(w:WH):(qa F l w).Ok d (B+2):=by
 unfold qa;split
 ·have:=(h.kQ (qw l (uC l w)).at_.node).kQ (qw l (uC l w)).to.node;grind
 ·exact⟨h.eG,fun n a b=>Int.le_trans (h.bj n a b) og,by have:=h.nn;omega⟩
end Go.X.Tr
