import Derived.Test.YthdinakloheinaaGreatDoorkTP
import Derived.Test.YthdinakloheinaaGreatDoorkFH
import Derived.Test.YthdinakloheinaaGreatDoorkVN
set_option linter.all false
namespace Go.X.Gr
open Go Go.X
variable{a n:Int}{s t:TG}
theorem jW{f g:Int->Int} :∀ (k:Nat),(∀ j:Int,0<=j->j<k->f j=g j)->eZ f k=eZ g k
 | 0,_=>rfl
 | k+1,h=>by
  simp only[eZ];rw[jW k fun j h0 h1=>h j h0 og,h (k:Int) og og]
theorem tB(f g:Int->Int):∀ (k:Nat),eZ (fun j=>f j+g j) k=eZ f k+eZ g k
 | 0=>rfl
 | k+1=>by simp only[eZ];rw[tB f g k];omega
theorem Jh(p:Int)(f:Int->Int):∀ (k:Nat),eZ (fun j=>p*f j) k=p*eZ f k
 | 0=>by simp[eZ]
 | k+1=>by simp only[eZ];rw[Jh p f k,Int.mul_add]
theorem ot{f:Int->Int} :∀ (k:Nat),(∀ j:Int,0<=j->j<k->f j=0)->eZ f k=0
 | 0,_=>rfl
 | k+1,h=>by
  simp only[eZ];rw[ot k fun j h0 h1=>h j h0 og,h (k:Int) og og];rfl
def ND{f:Int->Int} :∀ (k:Nat),(∀ j:Int,0<=j->j<k->0<=f j)->0<=eZ f k
 | 0,_=>Int.le_refl 0
 | k+1,h=>by
  have h1:=ND k fun j h0 h1=>h j h0 og;grind [eZ]
theorem AF(v n:Int)(h0:0<=n):∀ (k:Nat),eZ (fun j=>if j=n then v else 0) k=if n<k then v else 0
 | 0=>by simp only[eZ];rw[if_neg og]
 | k+1=>by
  simp only[eZ];rw[AF v n h0 k];by_cases h:(k:Int)=n
  ·rw[if_neg og,if_pos h,if_pos og];omega
  ·rw[if_neg h];by_cases h2:n<k
   ·rw[if_pos h2,if_pos og];omega
   ·rw[if_neg h2,if_neg og];omega
namespace TG
theorem Ji(h:s.Ok)(h0:0<=n)(h1:n<10)(h2:s.aa n=true)(h3:n≠0):0<=s.ax n/\s.ax n<10/\s.aa (s.ax n)=true:=by
 grind [Ok.tA]
structure Inv (s:TG):Prop where
 ok:s.Ok
 aS:∀ n,0<=n->n<10->s.aa n=true->0<=s.left s.pr n/\0<=s.left s.pg n
def ZI(h:s.Ok){f:Int->Int}(ho:∀ n,0<=n->n<10->s.aa n=true->0<=s.left f n)(h0:0<=n)(h1:n<10)(h2:s.aa n=true):0<=f n:=by
 obtain⟨d,d0,hd⟩:=h.tA;have im:∀ (k:Nat) (n:Int),0<=n->n<10->s.aa n=true->4-d n<=k->0<=f n:=by
  intro k;induction k with
  | zero=>
   intro n h0 h1 h2 hk;have h3:=ho n h0 h1 h2;unfold left at h3;rw[ot 10 (fun j j0 j1=>by
    unfold gx
    refine if_neg fun q=> ?_
    have h4:=hd j j0 og q.1
    have h5:=hd n h0 h1 h2
    by_cases hj:j=0
    ·subst hj
     have:=h.nU.2
     rw[q.2]at this;omega
    ·have:=(h4.2.2 hj).2.2.2
     rw[q.2]at this;omega)]at h3
   omega
  | succ k ih=>
   intro n h0 h1 h2 hk;have h3:=ho n h0 h1 h2;unfold left at h3;have h6:=ND (f:=s.gx f n) 10 (fun j j0 j1=>by
    unfold gx
    split
    ·rename_i q
     have h4:=hd j j0 og q.1
     refine ih j j0 og q.1 ?_
     by_cases hj:j=0
     ·subst hj
      have:=h.nU.2
      rw[q.2]at this;omega
     ·have:=(h4.2.2 hj).2.2.2
      rw[q.2]at this;omega
    ·omega)
   omega
 exact im 4 n h0 h1 h2 og
def Inv.nn(h:s.Inv)(h0:0<=n)(h1:n<10)(h2:s.aa n=true):0<=s.pr n/\0<=s.pg n:=
 ⟨ZI h.ok (fun n a b c=>(h.aS n a b c).1) h0 h1 h2,ZI h.ok (fun n a b c=>(h.aS n a b c).2) h0 h1 h2⟩
def Fv{s:TG} :∀ (l:List Int) (n x:Int),kK s.ax n l->(∀ y∈l,s.aa y=true)->0<=x->
  (l.count x:Int)-eZ (fun k=>if s.aa k=true/\s.ax k=x then(l.count k:Int)else 0) 10=if x=n then 1 else 0
 | [],n,x,hw,_,hx=>by
  have hn:n<0:=hw;rw[ot 10 fun j _ _=>sq];grind
 | y::r,n,x,hw,hh,hx=>by
  obtain⟨e1,h0,h1,h2⟩:=hw;subst e1;have ih:=Fv r (s.ax y) x h2 (fun z hz=>hh z (List.mem_cons_of_mem _ hz)) hx;have hy:=hh y sq;have e2:eZ (fun k=>if s.aa k=true/\s.ax k=x then((y::r).count k:Int)else 0) 10=eZ (fun k=>if s.aa k=true/\s.ax k=x then(r.count k:Int)else 0) 10+eZ (fun k=>if k=y then(if s.ax y=x then 1 else 0)else 0) 10:=by
   rw[<-tB];grind
  rw[e2,AF _ _ h0,if_pos og];grind
def Jj(h:s.Ok)(h0:0<=n)(h1:n<10)(h2:s.aa n=true)(f:Int->Int)(p:Int){x:Int}(hx:0<=x):s.left (fun y=>f y+p*((s.cF n).count y:Int)) x=s.left f x+if x=n then p else 0:=by
 obtain⟨w1,_,w3⟩:=h.cF h0 h1 h2;have hc:=Fv (s:=s) (s.cF n) n x w1 w3 hx;unfold left;have e:eZ (s.gx (fun y=>f y+p*((s.cF n).count y:Int)) x) 10=eZ (s.gx f x) 10+p*eZ (fun k=>if s.aa k=true/\s.ax k=x then((s.cF n).count k:Int)else 0) 10:=by
  rw[<-Jh,<-tB];refine jW 10 fun j _ _=> ?_;grind [gx]
 grind
theorem Inv.lay{s:TG}(h:s.Inv){n:Int}(h0:0<=n)(h1:n<10)(h2:s.aa n=true){p m:Int}(hp:0<=s.left s.pr n+p)(hm:0<=s.left s.pg n+m):(s.lay (s.cF n) p m).Inv:=by
 refine⟨h.ok.lay _ _ _,fun x x0 x1 x2=> ?_⟩;have a:=Jj h.ok h0 h1 h2 s.pr p x0;have b:=Jj h.ok h0 h1 h2 s.pg m x0;have c:=h.aS x x0 x1 x2;have a2:(s.lay (s.cF n) p m).left (s.lay (s.cF n) p m).pr x=s.left s.pr x+if x=n then p else 0:=a
 have b2:(s.lay (s.cF n) p m).left (s.lay (s.cF n) p m).pg x=s.left s.pg x+if x=n then m else 0:=b
 rw[a2,b2];by_cases hx:x=n
 ·subst hx;rw[if_pos rfl,if_pos rfl];exact⟨hp,hm⟩
 ·rw[if_neg hx,if_neg hx];omega
theorem Inv.cr{s:TG}(h:s.Inv)(n p m:Int):(s.cr n p m).Inv:=by
 unfold TG.cr;split
 ·rename_i h0;obtain⟨⟨n0,n1,n2⟩,p0,p1,m0,m1⟩:=zj h0;have:=h.aS n n0 n1 n2;exact h.lay n0 n1 n2 og og
 ·exact h
def LF{p m:Int}(h:s.gi n p m=0):p<=s.left s.pr n/\m<=s.left s.pg n:=by
 grind [gi]
theorem Inv.fU{s:TG}(h:s.Inv)(n p m:Int):(s.fU n p m).Inv:=by
 unfold TG.fU;split
 ·rename_i h0;obtain⟨⟨n0,n1,n2⟩,p0,p1,m0,m1⟩:=Bn h0;have:=LF h0;exact h.lay n0 n1 n2 og og
 ·exact h
def Inv.move{s:TG}(h:s.Inv)(a b p m:Int):(s.move a b p m).Inv:=by
 unfold TG.move;split
 ·exact h
 ·split
  ·exact(h.fU _ _ _).cr _ _ _
  ·exact h
def Inv.xe{s:TG}(h:s.Inv)(n p m:Int):(s.xe n p m).Inv:=by
 unfold TG.xe;split
 ·exact⟨⟨h.ok.nU,h.ok.tA⟩,h.aS⟩
 ·exact h
def abm(h:s.Es a=0):s.cI a=0/\¬(s.cF a).length=4/\0<=s.qG a/\s.qG a<10/\s.aa (s.qG a)=false/\s.free=some (s.qG a).toNat:=by
 have h':=h;unfold Es at h;split at h
 ·omega
 ·split at h
  ·omega
  ·split at h
   ·omega
   ·rename_i h1 h2 h3;cases hf:s.free with
    | none=>exact absurd hf h3
    | some k=>
     have e:s.qG a=(k:Int):=by unfold qG;rw[if_pos h',hf];rfl
     have Rb:=hf;unfold free dv at Rb;rw[List.find?_range_eq_some]at Rb;have hk:k<10:=by simpa using Rb.2.1
     have hh:s.aa (k:Int)=false:=by simpa using Rb.1
     rw[e];exact⟨og,h2,og,og,hh,sq⟩
theorem Ok.len(h:s.Ok){d:Int->Nat}(d0:d 0=1)(hd:∀ n,0<=n->n<10->s.aa n=true->1<=d n/\d n<=4/\(n≠0->0<=s.ax n/\s.ax n<10/\s.aa (s.ax n)=true/\d n=d (s.ax n)+1))(h0:0<=n)(h1:n<10)(h2:s.aa n=true):(s.cF n).length=d n:=
 (h.Tc 5 (d n) (by have:=(hd n h0 h1 h2).2.1;omega) d d0 hd n h0 h1 h2 rfl).2.1
theorem Ok.put{s:TG}(h:s.Ok){a k:Int}(ha:s.cI a=0)(hl:¬(s.cF a).length=4)(k0:0<=k)(k1:k<10)(hk:s.aa k=false):(s.put k a).Ok:=by
 obtain⟨a0,a1,a2⟩:=vW ha;obtain⟨d,d0,hd⟩:=h.tA;have hlen:=h.len d0 hd a0 a1 a2;have hda:=hd a a0 a1 a2;have hk0:k≠0:=fun e=>by subst e;rw[h.nU.1]at hk;cases hk
 have hka:a≠k:=fun e=>by subst e;rw[a2]at hk;cases hk
 refine⟨⟨?_,?_⟩,fun x=>if x=k then d a+1 else d x,?_,fun n n0 n1 n2=> ?_⟩
 ·show ad s.aa k true 0=true;grind [ae]
 ·show ad s.ax k a 0= -1;grind [ae,Ok.nU]
 ·grind
 ·have e1:(s.put k a).ax n=ad s.ax k a n:=rfl;have e2:∀ x,(s.put k a).aa x=ad s.aa k true x:=fun _=>rfl;grind [aj,ae]
theorem Jk(h:s.Ok){k:Int}(hk:s.aa k=false)(f:Int->Int){x:Int}(hx:s.aa x=true):(s.put k a).left (ad f k 0) x=s.left f x:=by
 have hxk:x≠k:=fun e=>by subst e;rw[hx]at hk;cases hk
 unfold left;rw[ae _ _ hxk];congr 1;refine jW 10 fun j j0 j1=> ?_;unfold gx;show(if ad s.aa k true j=true/\ad s.ax k a j=x then ad f k 0 j else 0)=_;grind [ad]
theorem Jl(h:s.Ok){k:Int}(hk:s.aa k=false)(hk0:0<=k)(hka:a≠k)(f:Int->Int):(s.put k a).left (ad f k 0) k=0:=by
 unfold left;rw[aj,ot]
 ·rfl
 ·intro j j0 j1;unfold gx;show(if ad s.aa k true j=true/\ad s.ax k a j=k then ad f k 0 j else 0)=0;grind [Ok.nU,Ji,ad]
theorem Inv.add{s:TG}(h:s.Inv)(a:Int):(s.add a).Inv:=by
 unfold TG.add;split
 ·rename_i h0;obtain⟨e1,e2,e3,e4,e5,_⟩:=abm h0;have Ee:=h.ok.put e1 e2 e3 e4 e5;refine⟨Ee,fun x x0 x1 x2=> ?_⟩;show 0<=(s.put (s.qG a) a).left (ad s.pr (s.qG a) 0) x/\0<=(s.put (s.qG a) a).left (ad s.pg (s.qG a) 0) x;by_cases hx:x=s.qG a
  ·have ha:a≠s.qG a:=fun e=>by
    have:=(vW e1).2.2;rw[e,e5]at this;cases this
   rw[hx,Jl h.ok e5 e3 ha,Jl h.ok e5 e3 ha];omega
  ·have sK:s.aa x=true:=by
    have:(s.put (s.qG a) a).aa x=ad s.aa (s.qG a) true x:=rfl;rw[this,ae _ _ hx]at x2;exact x2
   rw[Jk h.ok e5 _ sK,Jk h.ok e5 _ sK];exact h.aS x x0 x1 sK
 ·exact h
def PO(h:s.fA n=0):s.cI n=0/\n≠0/\¬ 0<s.pr n/\¬ 0<s.pg n/\s.zk n=false:=by
 grind [fA]
theorem abn(h:s.zk n=false){j:Int}(j0:0<=j)(j1:j<10)(j2:s.aa j=true):s.ax j≠n:=fun e=>by
 grind [Xj]
theorem Ok.drop(h:s.Ok)(hn:n≠0)(hk:s.zk n=false)(hh:t.aa=ad s.aa n false)(hp:∀ x,x≠n->t.ax x=s.ax x):t.Ok:=by
 obtain⟨d,d0,hd⟩:=h.tA;refine⟨⟨by rw[hh,ae _ _ (Ne.symm hn)];exact h.nU.1,by rw[hp 0 (Ne.symm hn)];exact h.nU.2⟩,d,d0,fun x x0 x1 x2=> ?_⟩;have hx:x≠n:=fun e=>by subst e;rw[hh,aj]at x2;cases x2
 rw[hh,ae _ _ hx]at x2;have h4:=hd x x0 x1 x2;rw[hp x hx];refine⟨h4.1,h4.2.1,fun q=> ?_⟩;obtain⟨p0,p1,p2,p3⟩:=h4.2.2 q;refine⟨p0,p1,?_,p3⟩;rw[hh,ae _ _ (abn hk x0 x1 x2)];exact p2
def Inv.eS{s:TG}(h:s.Inv)(n:Int):(s.eS n).Inv:=by
 unfold TG.eS;split
 ·rename_i h0;obtain⟨e1,e2,e3,e4,e5⟩:=PO h0;obtain⟨n0,n1,n2⟩:=vW e1;have hnn:=h.nn n0 n1 n2;refine⟨h.ok.drop (t:=s.Gz n) e2 e5 rfl fun x hx=>ae _ _ hx,fun x x0 x1 x2=> ?_⟩;have hx:x≠n:=fun e=>by
   subst e;have:(s.Gz x).aa x=ad s.aa x false x:=rfl;rw[this,aj]at x2;cases x2
  have x3:s.aa x=true:=by
   have:(s.Gz n).aa x=ad s.aa n false x:=rfl;rw[this,ae _ _ hx]at x2;exact x2
  have im:∀ f:Int->Int,f n=0->(s.Gz n).left (ad f n 0) x=s.left f x:=fun f hf=>by
   unfold left;rw[ae _ _ hx];congr 1;refine jW 10 fun j j0 j1=> ?_;unfold gx;show(if ad s.aa n false j=true/\ad s.ax n 0 j=x then ad f n 0 j else 0)=_;by_cases hj:j=n
   ·subst hj;rw[aj];simp[hf]
   ·rw[ae _ _ hj,ae _ _ hj,ae _ _ hj]
  have h9:=h.aS x x0 x1 x3;show 0<=(s.Gz n).left (ad s.pr n 0) x/\0<=(s.Gz n).left (ad s.pg n 0) x;rw[im _ og,im _ og];exact h9
 ·exact h
theorem zx(n:Int):TG.cK.aa n=decide (n=0):=by
 rfl
theorem Inv.cK:TG.cK.Inv:=by
 have hh:∀ n:Int,TG.cK.aa n=true->n=0:=fun n h=>by rw[zx]at h;simpa using h
 refine⟨⟨⟨by rw[zx];rfl,rfl⟩,fun _=>1,rfl,fun n n0 n1 n2=> ?_⟩,fun n n0 n1 n2=> ?_⟩
 ·grind
 ·have:=hh n n2;subst this;decide+kernel
theorem bR.cK:TG.cK.bR 0:=fun n h0 h1=>by
 have:n=0\/n=1\/n=2\/n=3\/n=4\/n=5\/n=6\/n=7\/n=8\/n=9:=og;rcases this with rfl | rfl | rfl | rfl | rfl | rfl | rfl | rfl | rfl | rfl<;>decide+kernel
theorem bR.add{s:TG}{B:Int}(h:s.bR B)(hB:0<=B)(a:Int):(s.add a).bR B:=by
 unfold TG.add;split
 ·intro n h0 h1;show-B<=ad s.pr _ 0 n/\ad s.pr _ 0 n<=B/\ -B<=ad s.pg _ 0 n/\ad s.pg _ 0 n<=B;grind [ad,bR]
 omega
def bR.eS{s:TG}{B:Int}(h:s.bR B)(hB:0<=B)(a:Int):(s.eS a).bR B:=by
 unfold TG.eS;split
 ·intro n h0 h1;show-B<=ad s.pr _ 0 n/\ad s.pr _ 0 n<=B/\ -B<=ad s.pg _ 0 n/\ad s.pg _ 0 n<=B;grind [ad,bR]
 omega
def bR.xf{s:TG}{B:Int}(h:s.bR B)(a:Int):(s.xf a).bR B:=by
 unfold TG.xf;split<;>exact h
def bR.xe{s:TG}{B:Int}(h:s.bR B)(n p m:Int):(s.xe n p m).bR B:=by
 unfold TG.xe;split<;>exact h
def bR.move{s:TG}{B:Int}(h:s.bR B)(hO:s.Ok)(a b p m:Int):(s.move a b p m).bR (B+640):=by
 unfold TG.move;split
 ·grind [bR]
 ·split
  ·exact((h.fU hO a p m).cr hO.fU b p m).mono og
  grind [bR]
structure kg (s t:TG):Prop where
 aa:s.aa=t.aa
 gv:∀ n,0<=n->n<10->s.aa n=true->s.gv n=t.gv n
theorem kg.ax{s t:TG}(h:kg s t){n:Int}(h0:0<=n)(h1:n<10)(h2:s.aa n=true):t.ax n=s.ax n:=(congrArg GV.ax (h.gv n h0 h1 h2)).symm
theorem kg.pr{s t:TG}(h:kg s t){n:Int}(h0:0<=n)(h1:n<10)(h2:s.aa n=true):t.pr n=s.pr n:=(congrArg GV.pr (h.gv n h0 h1 h2)).symm
theorem kg.pg{s t:TG}(h:kg s t){n:Int}(h0:0<=n)(h1:n<10)(h2:s.aa n=true):t.pg n=s.pg n:=(congrArg GV.pg (h.gv n h0 h1 h2)).symm
theorem kg.ok(h:kg s t)(hO:s.Ok):t.Ok:=by
 obtain⟨d,d0,hd⟩:=hO.tA;have hr:=hO.nU;refine⟨⟨by rw[<-h.aa];exact hr.1,by rw[h.ax og og hr.1];exact hr.2⟩,d,d0,fun n n0 n1 n2=> ?_⟩;grind [kg.aa,kg.ax]
theorem kg.cF{s t:TG}(h:kg s t)(hO:s.Ok){n:Int}(h0:0<=n)(h1:n<10)(h2:s.aa n=true):t.cF n=s.cF n:=by
 obtain⟨w1,_,w3⟩:=hO.cF h0 h1 h2;obtain⟨v1,_⟩:=(h.ok hO).cF h0 h1 (by rw[<-h.aa];exact h2);exact v1.S8 (w1.congr (fun x hx=>by
  obtain⟨x0,x1⟩:=w1.range x hx
  exact h.ax x0 x1 (w3 x hx)))
theorem kg.cI{s t:TG}(h:kg s t)(n:Int):t.cI n=s.cI n:=by unfold TG.cI;rw[h.aa]
theorem kg.nw{s t:TG}(h:kg s t)(n p m:Int):t.nw n p m=s.nw n p m:=by grind [nw,cI]
theorem kg.left{s t:TG}(h:kg s t){n:Int}(h0:0<=n)(h1:n<10)(h2:s.aa n=true):t.left t.pr n=s.left s.pr n/\t.left t.pg n=s.left s.pg n:=by
 unfold TG.left;rw[h.pr h0 h1 h2,h.pg h0 h1 h2];have e1:eZ (t.gx t.pr n) 10=eZ (s.gx s.pr n) 10:=jW 10 (fun j j0 j1=>by
  unfold gx
  rw[<-h.aa]
  by_cases hj:s.aa j=true
  ·rw[h.ax j0 og hj,h.pr j0 og hj]
  ·simp[hj])
 have e2:eZ (t.gx t.pg n) 10=eZ (s.gx s.pg n) 10:=jW 10 (fun j j0 j1=>by
  unfold gx
  rw[<-h.aa]
  by_cases hj:s.aa j=true
  ·rw[h.ax j0 og hj,h.pg j0 og hj]
  ·simp[hj])
 rw[e1,e2];exact⟨rfl,rfl⟩
theorem kg.gi{s t:TG}(h:kg s t)(n p m:Int):t.gi n p m=s.gi n p m:=by
 unfold TG.gi;rw[h.nw];by_cases hc:s.nw n p m=0
 ·obtain⟨⟨n0,n1,n2⟩,_⟩:=I4 hc;rw[(h.left n0 n1 n2).1,(h.left n0 n1 n2).2]
 omega
theorem kg.room{s t:TG}(h:kg s t)(hO:s.Ok){n:Int}(h0:0<=n)(h1:n<10)(h2:s.aa n=true)(p m:Int):∀ x∈s.cF n,t.room p m x=s.room p m x:=fun x hx=>by
 obtain⟨w1,_,w3⟩:=hO.cF h0 h1 h2;obtain⟨x0,x1⟩:=w1.range x hx;unfold TG.room;grind [kg.gv]
theorem PQ{l:List Int}{p q:Int->Bool}(h:∀ x∈l,p x=q x):l.all p=l.all q:=by
 grind
theorem kg.cY{s t:TG}(h:kg s t)(hO:s.Ok)(n p m:Int):t.cY n p m=s.cY n p m:=by
 unfold TG.cY;rw[h.nw];by_cases hc:s.nw n p m=0
 ·obtain⟨⟨n0,n1,n2⟩,_⟩:=I4 hc;rw[h.cF hO n0 n1 n2,PQ (h.room hO n0 n1 n2 p m)]
 omega
theorem kg.free{s t:TG}(h:kg s t):t.free=s.free:=by unfold TG.free;rw[h.aa]
theorem kg.Es{s t:TG}(h:kg s t)(hO:s.Ok)(a:Int):t.Es a=s.Es a:=by
 grind [Es,cI,kg.free,vW,kg.cF]
theorem kg.qG{s t:TG}(h:kg s t)(hO:s.Ok)(a:Int):t.qG a=s.qG a:=by unfold TG.qG;rw[h.Es hO,h.free]
theorem kg.zk{s t:TG}(h:kg s t)(n:Int):t.zk n=s.zk n:=by
 grind [kg.aa,kg.ax,zk]
theorem kg.fA{s t:TG}(h:kg s t)(hI:s.Inv)(n:Int):t.Co n=s.fA n:=by
 unfold TG.Co TG.fA;rw[h.cI,h.zk];by_cases hc:s.cI n=0
 ·obtain⟨n0,n1,n2⟩:=vW hc;have hnn:=hI.nn n0 n1 n2;grind [kg.pr,kg.pg]
 omega
def GM(h1:s.ax n=t.ax n)(h2:s.mp n=t.mp n)(h3:s.mg n=t.mg n)(h4:s.pr n=t.pr n)(h5:s.pg n=t.pg n):s.gv n=t.gv n:=by
 grind [gv]
def kg.eqs(h:kg s t)(h0:0<=n)(h1:n<10)(h2:s.aa n=true):s.ax n=t.ax n/\s.mp n=t.mp n/\s.mg n=t.mg n/\s.pr n=t.pr n/\s.pg n=t.pg n:=by
 have e:=h.gv n h0 h1 h2;exact⟨congrArg GV.ax e,congrArg GV.mp e,congrArg GV.mg e,congrArg GV.pr e,congrArg GV.pg e⟩
theorem kg.lay{s t:TG}(h:kg s t)(l:List Int)(p m:Int):kg (s.lay l p m) (t.lay l p m):=⟨h.aa,fun n h0 h1 h2=>by
 obtain⟨e1,e2,e3,e4,e5⟩:=h.eqs h0 h1 h2
 exact GM e1 e2 e3 (by show s.pr n+_=t.pr n+_;rw[e4]) (by show s.pg n+_=t.pg n+_;rw[e5])⟩
theorem kg.cr{s t:TG}(h:kg s t)(hO:s.Ok)(n p m:Int):kg (s.cr n p m) (t.cr n p m):=by
 unfold TG.cr;rw[h.cY hO];by_cases hc:s.cY n p m=0
 ·rw[if_pos hc,if_pos hc];obtain⟨⟨n0,n1,n2⟩,_⟩:=zj hc;rw[h.cF hO n0 n1 n2];exact h.lay _ _ _
 simp_all
theorem kg.fU{s t:TG}(h:kg s t)(hO:s.Ok)(n p m:Int):kg (s.fU n p m) (t.fU n p m):=by
 unfold TG.fU;rw[h.gi];by_cases hc:s.gi n p m=0
 ·rw[if_pos hc,if_pos hc];obtain⟨⟨n0,n1,n2⟩,_⟩:=Bn hc;rw[h.cF hO n0 n1 n2];exact h.lay _ _ _
 simp_all
theorem kg.iM{s t:TG}(h:kg s t)(hO:s.Ok)(a b p m:Int):t.iM a b p m=s.iM a b p m:=by
 grind [iM,cI,gi,Ok.fU,kg.fU,cY]
def kg.move{s t:TG}(h:kg s t)(hO:s.Ok)(a b p m:Int):kg (s.move a b p m) (t.move a b p m):=by
 unfold TG.move;grind [cI,gi,Ok.fU,kg.fU,cY,cr]
theorem kg.put{s t:TG}(h:kg s t)(k a:Int):kg (s.put k a) (t.put k a):=by
 refine⟨by show ad s.aa k true=ad t.aa k true;rw[h.aa],fun x h0 h1 h2=> ?_⟩;by_cases hx:x=k
 ·subst hx;exact GM (by show ad s.ax x a x=ad t.ax x a x;rw[aj,aj]) (by show ad s.mp x (-1) x=ad t.mp x (-1) x;rw[aj,aj]) (by show ad s.mg x (-1) x=ad t.mg x (-1) x;rw[aj,aj]) (by show ad s.pr x 0 x=ad t.pr x 0 x;rw[aj,aj]) (by show ad s.pg x 0 x=ad t.pg x 0 x;rw[aj,aj])
 ·have h3:s.aa x=true:=by
   have:(s.put k a).aa x=ad s.aa k true x:=rfl;grind [ae]
  obtain⟨e1,e2,e3,e4,e5⟩:=h.eqs h0 h1 h3;exact GM (by show ad s.ax k a x=ad t.ax k a x;rw[ae _ _ hx,ae _ _ hx,e1]) (by show ad s.mp k (-1) x=ad t.mp k (-1) x;rw[ae _ _ hx,ae _ _ hx,e2]) (by show ad s.mg k (-1) x=ad t.mg k (-1) x;rw[ae _ _ hx,ae _ _ hx,e3]) (by show ad s.pr k 0 x=ad t.pr k 0 x;rw[ae _ _ hx,ae _ _ hx,e4]) (by show ad s.pg k 0 x=ad t.pg k 0 x;rw[ae _ _ hx,ae _ _ hx,e5])
theorem kg.add{s t:TG}(h:kg s t)(hO:s.Ok)(a:Int):kg (s.add a) (t.add a):=by
 unfold TG.add;rw[h.Es hO,h.qG hO];split
 ·exact h.put _ _
 omega
def kg.eS{s t:TG}(h:kg s t)(hI:s.Inv)(n:Int):kg (s.eS n) (t.xf n):=by
 unfold TG.eS TG.xf;rw[h.fA hI];split
 ·refine⟨by show ad s.aa n false=ad t.aa n false;rw[h.aa],fun x h0 h1 h2=> ?_⟩;have hx:x≠n:=fun e=>by
   simp_all[Gz,aj]
  have h3:s.aa x=true:=by
   simp_all[Gz,ae]
  obtain⟨e1,e2,e3,e4,e5⟩:=h.eqs h0 h1 h3;exact GM (by show ad s.ax n 0 x=t.ax x;rw[ae _ _ hx,e1]) (by show ad s.mp n 0 x=t.mp x;rw[ae _ _ hx,e2]) (by show ad s.mg n 0 x=t.mg x;rw[ae _ _ hx,e3]) (by show ad s.pr n 0 x=t.pr x;rw[ae _ _ hx,e4]) (by show ad s.pg n 0 x=t.pg x;rw[ae _ _ hx,e5])
 omega
theorem kg.all{s t:TG}(h:kg s t):t.all=s.all:=by unfold TG.all;rw[h.aa]
end TG
end Go.X.Gr

namespace Go.X.Kn
open Go Go.X Go.X.Sg Go.X.Vm
variable{i n z:Int}
structure PU where
 st:Int
 ax:Int
 lv:Int
 gJ:Int
 mem:Value
 fd:Int->Int
 bx:BS
structure KP where
 u:Int->PU
 gb:Nat
 sb:Nat
 qb:Nat
 bb:Nat
 tb:Nat
 pi:Nat
 ob:Nat
 ms:Int->Value
def PU.nil:PU:=⟨0,0,0,0,.pointer none,fun _=>0,BS.cK⟩
def PU.cell(u:PU)(j:Nat):Value:=
 if j=0 then iI u.st else if j=1 then iI u.ax else if j=2 then iI u.lv else if j=3 then iI u.gJ else
 if j=4 then u.mem else if j<11 then iI (u.fd ((j-5:Nat):Int))else Sg.fm u.bx (j-11)
def aD(k:KP)(i:Nat):Value:=
 if i<440 then(k.u ((i/22:Nat):Int)).cell (i%22)else
 if i=440 then aA k.gb 0 0 else if i=441 then aA k.sb 0 0 else if i=442 then aA k.qb 0 0 else if i=443 then aA k.bb 0 0 else
 if i=444 then aA k.tb 0 0 else if i=445 then aA k.pi 0 0 else if i=446 then aA k.ob 0 0 else
 if i<453 then k.ms ((i-447:Nat):Int)else undef
def KP.put(k:KP)(n:Int)(u:PU):KP:= {k with u:=ad k.u n u}
theorem KP.sE(k:KP)(n:Int)(u:PU):(k.put n u).u n=u:=aj _ _ _
theorem KP.zy(k:KP){m:Int}(u:PU)(h:¬m=n):(k.put n u).u m=k.u m:=ae _ _ h
theorem KP.GN(k:KP)(n:Int)(u v:PU):(k.put n u).put n v=k.put n v:=by
 show({k with u:=ad (ad k.u n u) n v} :KP)= {k with u:=ad k.u n v};have e:ad (ad k.u n u) n v=ad k.u n v:=by
  grind [aj,ae]
 rw[e]
def AG(k:KP)(n:Int):k.put n (k.u n)=k:=by
 unfold KP.put;rw[cB k.u rfl]
theorem aD.at_(k:KP)(h:0<=n/\n<20){j:Nat}(hj:j<22):aD k (0+0+n.toNat*22+j)=(k.u n).cell j:=by
 grind [aD]
def fS(k:KP)(h:0<=n/\n<20:=by omega):0+0+n.toNat*22+0<453/\aD k (0+0+n.toNat*22+0)=iI (k.u n).st:=⟨og,aD.at_ k h og⟩
def lU(k:KP)(h:0<=n/\n<20:=by omega):0+0+n.toNat*22+1<453/\aD k (0+0+n.toNat*22+1)=iI (k.u n).ax:=⟨og,aD.at_ k h og⟩
def dI(k:KP)(h:0<=n/\n<20:=by omega):0+0+n.toNat*22+2<453/\aD k (0+0+n.toNat*22+2)=iI (k.u n).lv:=⟨og,aD.at_ k h og⟩
def vz(k:KP)(h:0<=n/\n<20:=by omega):0+0+n.toNat*22+3<453/\aD k (0+0+n.toNat*22+3)=iI (k.u n).gJ:=⟨og,aD.at_ k h og⟩
def dz(k:KP)(h:0<=n/\n<20){b:Nat}(e:(k.u n).mem=aA b 0 0):0+0+n.toNat*22+4<453/\aD k (0+0+n.toNat*22+4)=aA b 0 0:=⟨og,(aD.at_ k h og).trans e⟩
def tF(k:KP)(h:0<=n/\n<20:=by omega)(hi:0<=i/\i<6:=by omega):0+0+n.toNat*22+5+i.toNat*1<453/\aD k (0+0+n.toNat*22+5+i.toNat*1)=iI ((k.u n).fd i):=⟨og,by
 rw[show 0+0+n.toNat*22+5+i.toNat*1=0+0+n.toNat*22+(5+i.toNat)from og,aD.at_ k h og]
 unfold PU.cell
 rw[if_neg og,if_neg og,if_neg og,if_neg og,if_neg og,if_pos og,show((5+i.toNat-5:Nat):Int)=i from og]⟩
abbrev Ri(f:Int->Int):Array Value:=Gd f 6
def rQ(k:KP)(h:0<=n/\n<20:=by omega):0+0+n.toNat*22+5+6<=453/\cZ (aD k) (0+0+n.toNat*22+5) 6= .agg (Ri (k.u n).fd):=by
 refine⟨og,?_⟩;have e:=fun (j:Nat) (hj:j<6)=>aD.at_ k h (j:=5+j) og;unfold cZ;simp only[List.range,List.range.loop,List.map_cons,List.map_nil,Nat.add_zero];rw[show 0+0+n.toNat*22+5=0+0+n.toNat*22+(5+0)from rfl,e 0 og];rw[show 0+0+n.toNat*22+(5+0)+1=0+0+n.toNat*22+(5+1)from rfl,e 1 og];rw[show 0+0+n.toNat*22+(5+0)+2=0+0+n.toNat*22+(5+2)from rfl,e 2 og];rw[show 0+0+n.toNat*22+(5+0)+3=0+0+n.toNat*22+(5+3)from rfl,e 3 og];rw[show 0+0+n.toNat*22+(5+0)+4=0+0+n.toNat*22+(5+4)from rfl,e 4 og];rw[show 0+0+n.toNat*22+(5+0)+5=0+0+n.toNat*22+(5+5)from rfl,e 5 og];rfl
def gp(k:KP):0+440<453/\aD k (0+440)=aA k.gb 0 0:=⟨og,rfl⟩
def aD.rR(k:KP):0+441<453/\aD k (0+441)=aA k.sb 0 0:=⟨og,rfl⟩
def jf(k:KP):0+442<453/\aD k (0+442)=aA k.qb 0 0:=⟨og,rfl⟩
def aD.zu(k:KP):0+443<453/\aD k (0+443)=aA k.bb 0 0:=⟨og,rfl⟩
def aD.CB(k:KP):0+444<453/\aD k (0+444)=aA k.tb 0 0:=⟨og,rfl⟩
def gq(k:KP):0+446<453/\aD k (0+446)=aA k.ob 0 0:=⟨og,rfl⟩
def Jm(k:KP)(h:0<=z/\z<6):0+447+z.toNat*1<453/\aD k (0+447+z.toNat*1)=k.ms z:=by grind [aD]
def aD.y9(k:KP)(h:0<=n/\n<20)(u:PU)(C:Nat->Value)(h1:∀ j,j<22->C (0+0+n.toNat*22+j)=u.cell j)(h2:∀ i,(i<n.toNat*22\/n.toNat*22+22<=i)->C i=aD k i):C=aD (k.put n u):=by
 funext i;by_cases c:n.toNat*22<=i/\i<n.toNat*22+22
 ·have e1:=h1 (i-n.toNat*22) og;have e2:=aD.at_ (k.put n u) h (j:=i-n.toNat*22) og;rw[show 0+0+n.toNat*22+(i-n.toNat*22)=i from og]at e1 e2;grind [KP.sE]
 ·rw[h2 i og];unfold aD;grind [KP.zy,KP.put]
def rS(k:KP)(h:0<=n/\n<20){j:Nat}(hj:j<22){v:Value}(u:PU)(hv:u.cell j=v)(ho:∀ i,i<22->¬i=j->u.cell i=(k.u n).cell i):dL (aD k) (0+0+n.toNat*22+j) v=aD (k.put n u):=by
 refine aD.y9 k h u _ (fun i hi=> ?_) fun i hi=> ?_;all_goals grind [dL,aD.at_]
def Jn(k:KP)(h:0<=n/\n<20)(v:Int):0+0+n.toNat*22+0<453/\dL (aD k) (0+0+n.toNat*22+0) (iI v)=aD (k.put n {k.u n with st:=v}):=
 ⟨og,rS k h og _ rfl fun i _ c=>by unfold PU.cell;rw[if_neg c,if_neg c]⟩
def xC(k:KP)(h:0<=n/\n<20)(v:Int):0+0+n.toNat*22+1<453/\dL (aD k) (0+0+n.toNat*22+1) (iI v)=aD (k.put n {k.u n with ax:=v}):=
 ⟨og,rS k h og _ rfl fun i _ c=>by unfold PU.cell;rw[if_neg (c:=i=1) c,if_neg (c:=i=1) c]⟩
def Ey(k:KP)(h:0<=n/\n<20)(v:Int):0+0+n.toNat*22+3<453/\dL (aD k) (0+0+n.toNat*22+3) (iI v)=aD (k.put n {k.u n with gJ:=v}):=
 ⟨og,rS k h og _ rfl fun i _ c=>by unfold PU.cell;rw[if_neg (c:=i=3) c,if_neg (c:=i=3) c]⟩
def lx(k:KP)(h:0<=n/\n<20)(hi:0<=i/\i<6)(v:Int):0+0+n.toNat*22+5+i.toNat*1<453/\dL (aD k) (0+0+n.toNat*22+5+i.toNat*1) (iI v)=aD (k.put n {k.u n with fd:=ad (k.u n).fd i v}):=by
 refine⟨og,?_⟩;rw[show 0+0+n.toNat*22+5+i.toNat*1=0+0+n.toNat*22+(5+i.toNat)from og];refine rS k h og _ ?_ fun j hj c=> ?_;all_goals grind [PU.cell,aj,ae]
theorem Bo:∀ (l:List Value) (C:Nat->Value) (i j:Nat),cC C i l j=if i<=j/\j<i+l.length then l.getD (j-i) undef else C j
 | [],C,i,j=>by rw[cC,if_neg (by simp only[List.length_nil];omega)]
 | v::r,C,i,j=>by
  rw[cC,Bo r];by_cases c:j=i
  ·subst c;rw[if_neg og,if_pos sq];unfold dL;rw[if_pos rfl];simp
  ·by_cases d:i+1<=j/\j<i+1+r.length
   ·rw[if_pos d,if_pos (by simp;omega),show j-i=(j-(i+1))+1 from og];simp
   ·rw[if_neg d,if_neg (by simp;omega)];unfold dL;rw[if_neg c]
def PU.cQ(u:PU):Array Value:=((List.range 22).map u.cell).toArray
def aD.CC(k:KP)(h:0<=n/\n<20)(u:PU):0+0+n.toNat*22+22<=453/\cC (aD k) (0+0+n.toNat*22) u.cQ.toList=aD (k.put n u):=by
 refine⟨og,aD.y9 k h u _ (fun j hj=> ?_) fun i hi=> ?_⟩
 ·simp_all[Bo,PU.cQ]
 ·rw[Bo,if_neg (by simp[PU.cQ];omega)]
abbrev jM(n:Int):Nat:=0+0+n.toNat*22+11
def KP.box(k:KP)(n:Int)(b:BS):KP:=k.put n {k.u n with bx:=b}
theorem CD(k:KP)(h:0<=n/\n<20){i:Nat}(hi:i<11):aD k (jM n+i)=Sg.fm (k.u n).bx i:=by
 grind [PU.cell,aD]
theorem PR(k:KP)(b:BS)(h:0<=n/\n<20){i:Nat}(hi:i<jM n\/jM n+11<=i):aD (k.box n b) i=aD k i:=by
 by_cases c:n.toNat*22<=i/\i<n.toNat*22+22
 ·grind [KP.box,KP.sE,PU.cell,aD]
 ·unfold aD;split
  ·grind [KP.box,KP.zy]
  rfl
section
variable {W w:World} {S:Nat->Nat->Prop} {H F:List aB}
def XM.Bk{b o n:Nat}{C C':Nat->Value}(hC:∀ i,i<n->C i=C' i)(h:XM W S (.cells b o n C::H) w):XM W S (.cells b o n C'::H) w:=Fa.XM.Bk hC h
def jX{b:Nat}{k:KP}(hn:0<=n/\n<20)(hp:cO H [.cells b 0 453 (aD k)] F)(h:XM W S H w):XM W S (.cells b (0+jM n) 11 (Sg.fm (k.u n).bx):: .cells b 0 (jM n) (aD k):: .cells b (0+jM n+11) (453-jM n-11) (fun i=>aD k (jM n+11+i))::F) w:=by
 have Li:jM n+11<=453:=by unfold jM;omega
 have h2:=XM.part (n:=453) (off:=jM n) (m:=11) Li (h.b8 hp.b8);exact XM.Bk (C':=Sg.fm (k.u n).bx) (fun i hi=>CD k hn hi) h2
theorem mI{b:Nat}{k:KP}{x:BS}(hn:0<=n/\n<20)(hp:cO H [.cells b (0+jM n) 11 (Sg.fm x),.cells b 0 (jM n) (aD k),.cells b (0+jM n+11) (453-jM n-11) fun i=>aD k (jM n+11+i)] F)(h:XM W S H w):XM W S (.cells b 0 453 (aD (k.box n x))::F) w:=by
 have Li:jM n+11<=453:=by unfold jM;omega
 refine XM.Ii (n:=453) (off:=jM n) (m:=11) Li (fun i hi=> ?_) (fun i hi=> ?_) (fun i hi=> ?_) (h.b8 hp.b8) og;all_goals grind [PR,CD,KP.box,KP.sE]
theorem Jo(k:KP)(n:Int):k.box n (k.u n).bx=k:=AG k n
end
def KP.aH(k:KP)(n:Int):Int:=if n<0\/20<=n then 1 else if(k.u n).st=1 then 0 else 2
def bI{k:KP}(h:k.aH n=0):(0<=n/\n<20)/\(k.u n).st=1:=by
 grind [KP.aH]
def KP.uM{k:KP}(h:0<=n/\n<20)(e:(k.u n).st=1):k.aH n=0:=by grind [KP.aH]
def KP.pH(k:KP)(s:Sp.SS)(n q:Int):Int×Int:=
 if k.aH n≠0 then(0,k.aH n)else if(s.find (s.bM n).1 q).2≠0 then(0,(s.find (s.bM n).1 q).2)else
 if(k.u (s.find (s.bM n).1 q).1).st=1 then((s.find (s.bM n).1 q).1,0)else(0,8)
def pI{s:Sp.SS}{aL:Int->Nat}(h:s.Inv aL){a q:Int}(e:(s.find a q).2=0):(0<=(s.find a q).1/\(s.find a q).1<20)/\s.bG a q=(s.find a q).1/\(0<=a/\a<6/\s.aa a=true)/\1<=q/\q<=20:=by
 have hb:=h.V6 a q;unfold Sp.SS.find at e ⊢;split at e
 ·omega
 ·rename_i c;have hi:(0<=a/\a<6)/\s.aa a=true:=by
   have c:s.is a=0:=og;unfold Sp.SS.is at c;grind
  grind
def XF(b:BS):Array Value:= #[.int .u16 ((ph b.db:Nat):Int),.int .u16 ((ph b.aX:Nat):Int),iI (b.jN 0),iI (b.jN 1),iI (b.jN 2),iI (b.jN 3),iI (b.jN 4),iI (b.jN 5),iI (b.jN 6),iI (b.jN 7),iI (b.jN 8)]
def Jp(k:KP)(h:0<=n/\n<20):0+0+n.toNat*22+11+11<=453/\cZ (aD k) (0+0+n.toNat*22+11) 11= .agg (XF (k.u n).bx):=by
 refine⟨og,?_⟩;have e:=(mE (k.u n).bx).2;grind [XF,cZ,List.map_congr_left,CD]
section
variable {W w:World} {S:Nat->Nat->Prop} {H F:List aB}
def ni{b:Nat}{k:KP}(hn:0<=n/\n<20)(hp:cO H [.cells b (0+jM n) 11 (Sg.fm (k.u n).bx),.cells b 0 (jM n) (aD k),.cells b (0+jM n+11) (453-jM n-11) fun i=>aD k (jM n+11+i)] F)(h:XM W S H w):XM W S (.cells b 0 453 (aD k)::F) w:=by
 grind [mI,Jo]
end
theorem LG{s:Sp.SS}(h:(s.drop z).1≠0):(s.drop z).2=s:=by
 unfold Sp.SS.drop at h ⊢;grind
def KP.ly(k:KP)(n h i:Int):KP:= {k with u:=fun j=>if 0<=j/\j<i/\(k.u j).st≠0/\(k.u j).ax=n then {k.u j with ax:=h} else k.u j}
theorem vA(k:KP)(n h:Int):k.ly n h 0=k:=by
 have e:(fun j=>if 0<=j/\j<0/\(k.u j).st≠0/\(k.u j).ax=n then {k.u j with ax:=h} else k.u j)=k.u:=by
  grind
 simp_all[KP.ly]
theorem iZ(k:KP)(n h:Int){j:Int}(hj:i<=j):(k.ly n h i).u j=k.u j:=by
 grind [KP.ly]
theorem KP.Fw(k:KP)(n h:Int)(hi:0<=i)(h1:(k.u i).st≠0)(h2:(k.u i).ax=n):(k.ly n h i).put i {(k.ly n h i).u i with ax:=h} =k.ly n h (i+1):=by
 show({k with u:=ad (k.ly n h i).u i {(k.ly n h i).u i with ax:=h}} :KP)= {k with u:=(k.ly n h (i+1)).u};have e:ad (k.ly n h i).u i {(k.ly n h i).u i with ax:=h} =(k.ly n h (i+1)).u:=by
  grind [aj,ae,KP.ly]
 rw[e]
theorem mW(k:KP)(n h:Int)(hc:¬((k.u i).st≠0/\(k.u i).ax=n)):k.ly n h (i+1)=k.ly n h i:=by
 grind [KP.ly]
structure TF (b:BS):Prop where
 z:b.db 0=false
 e:b.first 0=0
 gx:(b.send 3).2=b
theorem TF.cK:TF BS.cK:=⟨rfl,dk,by unfold BS.send;rw[if_pos dq,if_pos dq]⟩
def bE{α:Type}(f:Nat->α)(z:Nat)(m:α):Nat->α:=fun j=>if j=z then m else f j
theorem rU{α:Type}(f:Nat->α)(z:Nat)(m:α):bE f z m z=m:=if_pos rfl
theorem lV{α:Type}(f:Nat->α){z j:Nat}(m:α)(h:j≠z):bE f z m j=f j:=if_neg h
theorem kt{α:Type}(f:Nat->α)(z:Nat):bE f z (f z)=f:=by
 grind [bE]
theorem PT(g:Nat->Nat)(z b:Nat):Ik g z b=bE g z b:=by
 grind [ur,rj,bE]
abbrev cN(bb:Nat)(f:Nat->Vm.MS)(ps:Nat->Option Addr)(cs:Nat->Nat):Nat->Nat->Value:=fun j=>b6 bb (ps j) (ah (f j).ay).length (cs j) (f j).fr (f j).aS
abbrev rN(e:TypeId)(f:Nat->Vm.MS)(ps:Nat->Option Addr)(cs:Nat->Nat):Nat->pQ:=fun j=>⟨.slice (ps j) (ah (f j).ay).length (cs j),e,3,(ah (f j).ay).length,bZ (fa (ah (f j).ay)) ((ah (f j).ay).length*3)⟩
theorem abo(bb:Nat)(f:Nat->Vm.MS)(ps:Nat->Option Addr)(cs:Nat->Nat)(z:Nat)(m:Vm.MS)(p:Option Addr)(c:Nat):Ij (cN bb f ps cs) z (b6 bb p (ah m.ay).length c m.fr m.aS)=cN bb (bE f z m) (bE ps z p) (bE cs z c):=by
 grind [Gh,Gi,bE]
theorem abp(e:TypeId)(f:Nat->Vm.MS)(ps:Nat->Option Addr)(cs:Nat->Nat)(z:Nat)(m:Vm.MS)(p:Option Addr)(c:Nat):AY (rN e f ps cs) z ⟨.slice p (ah m.ay).length c,e,3,(ah m.ay).length,bZ (fa (ah m.ay)) ((ah m.ay).length*3)⟩=rN e (bE f z m) (bE ps z p) (bE cs z c):=by
 grind [mT,lL,bE]
theorem TH(p:Option Addr)(c:Nat)(e:TypeId)(k:Nat)(C:Nat->Value):aM p c e 3 k C=pQ.BU ⟨.slice p k c,e,3,k,bZ C (k*3)⟩:=rfl
abbrev Jq(P:Nat->Bool)(bb:Nat)(e:TypeId)(mb:Nat->Nat)(f:Nat->Vm.MS)(ps:Nat->Option Addr)(cs:Nat->Nat):List aB:=[.eb P mb 34 (cN bb f ps cs),.bk P (rN e f ps cs)]
abbrev TI(bb b:Nat)(e:TypeId)(m:Vm.MS)(p:Option Addr)(c:Nat):List aB:=[.cells b 0 34 (b6 bb p (ah m.ay).length c m.fr m.aS),aM p c e 3 (ah m.ay).length (fa (ah m.ay))]
section
variable {W w:World} {S:Nat->Nat->Prop} {H H0:List aB} {bb:Nat} {e:TypeId} {mb:Nat->Nat} {f:Nat->Vm.MS} {ps:Nat->Option Addr} {cs:Nat->Nat} {P:Nat->Bool}
def kU{z:Nat}(hz:P z=true)(hp:cO H0 (Jq P bb e mb f ps cs) H)(h:XM W S H0 w):XM W S (.cells (mb z) 0 34 (b6 bb (ps z) (ah (f z).ay).length (cs z) (f z).fr (f z).aS)::aM (ps z) (cs z) e 3 (ah (f z).ay).length (fa (ah (f z).ay)):: .eb (jc P z) mb 34 (cN bb f ps cs):: .bk (jc P z) (rN e f ps cs)::H) w:=by
 have h0:XM W S (.eb P mb 34 (cN bb f ps cs):: .bk P (rN e f ps cs)::H) w:=h.b8 hp.b8;have h1:=BV z hz h0;have h2:=h1.b8 (pk [2]).b8;simp only[List.cons_append,List.nil_append]at h2;have h3:=om z hz h2;have h4:=h3.b8 (pk [2,0,1,0]).b8;simp_all
def Bp{z b:Nat}(m:Vm.MS){p:Option Addr}{c:Nat}(hz:P z=false)(hp:cO H0 (TI bb b e m p c++Jq P bb e mb f ps cs) H)(h:XM W S H0 w):XM W S (Jq (ET P z) bb e (bE mb z b) (bE f z m) (bE ps z p) (bE cs z c)++H) w:=by
 have h:XM W S (.cells b 0 34 (b6 bb p (ah m.ay).length c m.fr m.aS)::aM p c e 3 (ah m.ay).length (fa (ah m.ay)):: .eb P mb 34 (cN bb f ps cs):: .bk P (rN e f ps cs)::H) w:=h.b8 hp.b8;have h0:=h.b8 (pk [0,1]).b8;simp only[List.cons_append,List.nil_append]at h0;have h1:=EV z og hz h0;have h2:=h1.b8 (pk [1,1]).b8;simp only[List.cons_append,List.nil_append]at h2;rw[TH]at h2;have h3:=qo z hz h2;have h4:=h3.b8 (pk [1,0]).b8;simp_all[abo,abp,PT]
def lW{z:Nat}(m:Vm.MS){p:Option Addr}{c:Nat}(hz:P z=true)(hp:cO H0 (TI bb (mb z) e m p c++Jq (jc P z) bb e mb f ps cs) H)(h:XM W S H0 w):XM W S (Jq P bb e mb (bE f z m) (bE ps z p) (bE cs z c)++H) w:=by
 have h1:=Bp m (uq _ _) hp h;grind [EU,kt]
def PV{b z:Nat}(m:Vm.MS){p:Option Addr}{c:Nat}(hp:cO H0 (TI bb b e m p c) H)(h:XM W S H0 w):XM W S (Jq (ET (fun _=>false) z) bb e (bE (fun _=>0) z b) (bE (fun _=>m) z m) (bE (fun _=>none) z p) (bE (fun _=>0) z c)++H) w:=by
 have h0:XM W S (TI bb b e m p c++H) w:=h.b8 hp.b8;have h1:XM W S (.eb (fun _=>false) (fun _=>0) 34 (cN bb (fun _=>m) (fun _=>none) fun _=>0):: .bk (fun _=>false) (rN e (fun _=>m) (fun _=>none) fun _=>0):: .cells b 0 34 (b6 bb p (ah m.ay).length c m.fr m.aS)::aM p c e 3 (ah m.ay).length (fa (ah m.ay))::H) w:=BW (EW h0);exact Bp m rfl (pk [2,2,0,0]) h1
end
structure Kid (k:KP) (mb:Nat->Nat):Prop where
 st:∀ n,0<=n->n<20->(k.u n).st=0\/(k.u n).st=1\/(k.u n).st=2
 mem:∀ n,0<=n->n<20->(k.u n).st≠0->(k.u n).mem=aA (mb n.toNat) 0 0
 lv:∀ n,(k.u n).lv=0
 fd:∀ n i,(k.u n).fd i=0
 bx:∀ n,(k.u n).bx=BS.cK
def nO(a b:Int):Nat->Value:=fun i=>if i=0 then iI a else if i=1 then iI b else undef
def nO.agg(a b:Int):0+2<=2/\cZ (nO a b) 0 2= .agg #[iI a,iI b]:=⟨og,rfl⟩
theorem nO.st(a b c d:Int):0+2<=2/\cC (nO a b) 0 [iI c,iI d]=nO c d:=⟨og,by
 funext i
 match i with
 | 0=>rfl
 | 1=>rfl
 | i+2=>simp[cC,dL,nO]⟩
def nO.D4(a b:Int):0+0<2/\nO a b (0+0)=iI a:=⟨og,rfl⟩
theorem nO.box:∀ i,i<2->cellsOf #[iI 0,iI 0] i=nO 0 0 i:=fun i h=>match i,h with
 | 0,_=>rfl
 | 1,_=>rfl
 | k+2,h=>absurd h og
def TJ(u:PU):0+5+6<=22/\cZ u.cell (0+5) 6= .agg (Ri u.fd):=⟨og,rfl⟩
def PU.agg(u:PU):0+22<=22/\cZ u.cell 0 22= .agg u.cQ:=by grind [cZ,PU.cQ]
theorem AH(u:PU){i:Nat}(h:22<=i:=by omega):u.cell i=undef:=by
 unfold PU.cell;rw[if_neg og,if_neg og,if_neg og,if_neg og,if_neg og,if_neg og];exact IP _ og
theorem LH(u:PU):u.cQ.toList.length=22:=by simp[PU.cQ]
def PU.CC(v u:PU):0+22<=22/\cC v.cell 0 u.cQ.toList=u.cell:=⟨og,by
 funext i
 rw[Bo,LH]
 by_cases h:i<22
 ·rw[if_pos og,Nat.sub_zero]
  unfold PU.cQ
  rw[List.getD_eq_getElem?_getD,List.toList_toArray,List.getElem?_map,List.getElem?_range h];rfl
 ·rw[if_neg og,AH v,AH u]⟩
theorem PU.box(u:PU):∀ i,i<22->cellsOf u.cQ i=u.cell i:=fun i hi=>by
 simp_all[cellsOf,PU.cQ]
section
variable {W w:World} {S:Nat->Nat->Prop} {H H0:List aB} {bb:Nat} {e:TypeId} {mb:Nat->Nat} {f:Nat->Vm.MS} {ps:Nat->Option Addr} {cs:Nat->Nat} {P:Nat->Bool}
def qN{z:Nat}(hz:P z=true)(hp:cO H0 (TI bb (mb z) e (f z) (ps z) (cs z)++Jq (jc P z) bb e mb f ps cs) H)(h:XM W S H0 w):XM W S (Jq P bb e mb f ps cs++H) w:=by
 have h1:=lW (f z) hz hp h;simp_all[kt]
end
def KP.gx(k:KP)(n:Int)(nb:Nat):PU:=⟨1,n,(k.u n).lv,0,aA nb 0 0,(k.u n).fd,(k.u n).bx.aW⟩
def tG(k:KP)(h:0<=z/\z<6)(v:Value):0+447+z.toNat*1<453/\dL (aD k) (0+447+z.toNat*1) v=aD {k with ms:=ad k.ms z v} :=⟨og,by
 funext i
 unfold dL
 by_cases c:i=0+447+z.toNat*1
 ·rw[if_pos c,c]
  have:=(Jm {k with ms:=ad k.ms z v} h).2
  rw[this]
  exact(aj _ _ _).symm
 ·rw[if_neg c]
  unfold aD
  refine gP (fun _=>rfl) fun c0=>gP (fun _=>rfl) fun c1=>gP (fun _=>rfl) fun c2=>gP (fun _=>rfl) fun c3=>gP (fun _=>rfl) fun c4=>gP (fun _=>rfl) fun c5=>gP (fun _=>rfl) fun c6=>gP (fun _=>rfl) fun c7=>gP (fun c8=> ?_) fun _=>rfl
  show k.ms ((i-447:Nat):Int)=ad k.ms z v ((i-447:Nat):Int)
  rw[ae _ _ og]⟩
def KP.raw(gb sb qb bb tb pi:Nat):KP:=⟨fun _=>PU.nil,gb,sb,qb,bb,tb,pi,0,fun _=>.pointer none⟩
def xD(k:KP)(i:Nat):Value:=if i=446 then .pointer none else aD k i
def Fx(k:KP):Array Value:=((List.range 453).map (xD k)).toArray
def LI(k:KP):(Fx k).size=453:=by simp[Fx]
def PW(k:KP):∀ i,i<453->cellsOf (Fx k) i=xD k i:=fun i hi=>by simp[cellsOf,Fx,hi]
def xD.CB(k:KP):0+444<453/\xD k (0+444)=aA k.tb 0 0:=⟨og,rfl⟩
def Jr(k:KP):0+445<453/\xD k (0+445)=aA k.pi 0 0:=⟨og,rfl⟩
def LJ(k:KP)(b:Nat):0+446<453/\dL (xD k) (0+446) (aA b 0 0)=aD {k with ob:=b} :=by grind [dL,xD,aD]
def CE(mb:Nat):PU:=⟨1,-1,0,0,aA mb 0 0,fun _=>0,BS.cK⟩
structure ZJ (k:KP) (mb:Nat):Prop where
 u:k.u=ad (fun _=>PU.nil) 0 (CE mb)
def dK:Int->Nat:=ad (fun _=>0) (10+0) (0+1)
def Q1:Fa.SF:=Fa.SF.cK.sM 0 0 100
def Q2:Fa.SF:=Q1.fZ dK 0 true
theorem qA:Fa.SF.cK.lP 0 0 100=0:=dk
def ZK:Q1.Ok dK 1 0:=by
 have e:Q1=Fa.SF.cK.pV (10+0) 0 100 true:=by unfold Q1 Fa.SF.sM;rw[qA];rfl
 rw[e];exact Fa.SF.Nn.add og ⟨og,og⟩ dk ⟨og,og,dk⟩ og
def CF:Q2.Ok dK 1 0:=ZK.fZ 0 true
theorem XG:(Q2.pU dK).1=0:=dk
def abq:(Q2.pU dK).2.Ok dK 1 1:=CF.pU og og
def G0:Gr.TG:=Gr.TG.cK.cr 0 1 0
def S0:Sp.SS:=(Sp.SS.cK.enter (fun _=>1) 0 0).2.2
end Go.X.Kn

namespace Go.X.Vm
open Go Go.X
variable{w:Bool}{a i n:Int}
theorem Fy{m:MS}(h:gn a n):m.pZ a n=1:=by unfold MS.pZ;rw[if_pos h]
def PX{m:MS}(hb:¬gn a n)(hi:a<=i/\i<a+n)(h:m.ay i≠0):m.pZ a n=3:=by
 grind [MS.pZ,zq]
def PY{m:MS}(hb:¬gn a n)(h:∀ j,a<=j->j<a+n->m.ay j=0):m.pZ a n=0:=by
 grind [MS.pZ,wg]
theorem CG{m:MS}(h:gn a n):m.kM a n=1:=by unfold MS.kM;rw[if_pos h]
def Js{m:MS}(hb:¬gn a n)(hi:a<=i/\i<a+n)(h:m.ay i=0):m.kM a n=10:=by
 grind [MS.kM,zq]
def LK{m:MS}(hb:¬gn a n)(h:∀ j,a<=j->j<a+n->m.ay j≠0):m.kM a n=0:=by
 grind [MS.kM,wg]
theorem Fz{m:MS}(h:m.pZ a n≠0):m.map a n w=m:=by grind [MS.map]
theorem LL{m:MS}(h:m.pZ a n=0):m.map a n w=m.lay a n w:=by grind [MS.map]
theorem CH{m:MS}(h:m.kM a n≠0):m.nh a n w=m:=by grind [MS.nh]
theorem Jt{m:MS}(h:m.kM a n=0):m.nh a n w=m.lay a n w:=by grind [MS.nh]
def TK{l:List RG}{f:Int->Int}(hl:oP l f 16)(hn:0<n)(h:∀ j,a<=j->j<a+n->f j=0):∀ r∈l,r.fr+r.n<=a\/a+n<=r.fr:=fun r hr=>by
 have hb:=hl.b r hr;by_cases c:r.fr+r.n<=a\/a+n<=r.fr
 ·omega
 ·have:=hl.h1 r hr (max r.fr a) ⟨og,og⟩;grind [Nw]
def CI(l:List RG)(a n:Int):(l.flatMap (mf a n)).length<=2*l.length:=by
 induction l with
 | nil=>simp
 | cons r l ih=>rw[List.flatMap_cons,List.length_append,List.length_cons];have:=NC a n r;omega
theorem TL(f:Int->Int):nW f []=f:=by funext i;simp[nW]
theorem TM(f:Int->Bool):ef f []=f:=by funext i;simp[ef]
theorem rV{v:VB}{m:MS}(hb:gn a n):m.fE v a n=(0,1,v,m):=by grind [MS.fE]
def Ju(v:VB){m:MS}(hm:m.Ok)(hb:¬gn a n):m.fE v a n=((tE v m.fr (kN (fun i=>m.ay i != 0) a n.toNat)).1,0,(tE v m.fr (kN (fun i=>m.ay i != 0) a n.toNat)).2,⟨gH m.ay a n 0,nW m.fr (kN (fun i=>m.ay i != 0) a n.toNat),ef m.aS (kN (fun i=>m.ay i != 0) a n.toNat)⟩):=by
 unfold MS.fE;have vN:=hb;unfold gn at vN;have hz:∀ i,i∉kN (fun i=>m.ay i != 0) a n.toNat->a<=i/\i<a+n->m.ay i=0:=fun i h1 h2=>by
  grind [ox]
 have hs:∀ i,i∈kN (fun i=>m.ay i != 0) a n.toNat->a<=i/\i<a+n:=fun i h=>by
  grind [ox]
 have e1:gH m.fr a n 0=nW m.fr (kN (fun i=>m.ay i != 0) a n.toNat):=by
  grind [gH,nW,MS.Ok.un]
 have e2:gH m.aS a n false=ef m.aS (kN (fun i=>m.ay i != 0) a n.toNat):=by
  grind [gH,ef,MS.Ok.ow,MS.Ok.un]
 grind [Je,MS.Ok.un]
def lh{m:MS}(h:m.xy a w=true):0<=a/\a<128:=by
 grind [MS.xy]
theorem jg{m:MS}(h:¬(0<=a/\a<128):=by omega):m.xy a w=false:=by
 grind [MS.xy]
theorem oz{m:MS}(hm:m.Ok){k:Int}(hk:atP (ah m.ay) (a/8) k)(ha:0<=a/\a<128:=by omega):m.xy a w=(decide (0<=k)&&(!w||(bB (ah m.ay) k).w)):=by
 obtain⟨h1,h2⟩:=tD hm.f hk;unfold MS.xy;rw[decide_eq_true ha];by_cases c:k<0
 ·grind
 ·rw[(h2 og).2,decide_eq_true og];cases w<;>cases (bB (ah m.ay) k).w<;>rfl
theorem pJ{m:MS}(hm:m.Ok){k:Int}(hk:atP (ah m.ay) (a/8) k)(ha:0<=a/\a<128:=by omega):m.sD a=(decide (0<=k)&&decide (m.fr (a/8)-1<0)):=by
 unfold MS.sD;rw[oz hm hk ha];have:=hm.lo (a/8);grind
def AI{v:VB}(h:¬v.take.2.1=0):v.take.1=0/\v.take.2.2=v:=by
 grind [VB.lR,mH]
theorem LN{v:VB}(h:v.take.2.1=0):v.take.2.2.rf=ad v.rf v.take.1 1/\v.take.2.2.iD=A7 v.iD v.take.1 (fun _=>0):=by
 grind [VB.lR,mH]
def VB.Ok.copy{v:VB}(h:v.Ok)(f g:Int):(v.copy f g).Ok:=⟨h.bb,h.rf,fun x j=>by
 show 0<=A7 v.iD f (v.iD g) x j/\A7 v.iD f (v.iD g) x j<256
 unfold A7;split
 ·exact h.iD g j
 ·exact h.iD x j⟩
def AJ{v:VB}(h:v.take.2.1=0){f:Int}(hf:1<v.rf f):1<=v.take.2.2.rf f:=by
 rw[(LN h).1];unfold ad;split<;>omega
theorem gY{v:VB}{m:MS}(h:m.xy a w=false):m.cx v a w=(0,10,v,m):=by grind [MS.cx]
theorem gZ{v:VB}{m:MS}(h:m.xy a w=true)(h0:m.fr (a/8)=0)(e:v.take.2.1=0):m.cx v a w=(v.take.1,0,v.take.2.2,m.Ct (a/8) v.take.1):=by
 grind [MS.cx]
theorem fj{v:VB}{m:MS}(h:m.xy a w=true)(h0:m.fr (a/8)=0)(e:¬v.take.2.1=0):m.cx v a w=(0,v.take.2.1,v,m):=by
 grind [MS.cx]
theorem cV{v:VB}{m:MS}(h:m.xy a w=true)(h0:¬m.fr (a/8)=0)(q:w=false\/m.aS (a/8)=true):m.cx v a w=(m.fr (a/8)-1,0,v,m):=by
 grind [MS.cx]
theorem MS.ku{v:VB}{m:MS}(h:m.xy a w=true)(h0:¬m.fr (a/8)=0)(q:w=true)(q2:m.aS (a/8)=false)(r:v.rf (m.fr (a/8)-1)<=1):m.cx v a w=(m.fr (a/8)-1,0,v,{m with aS:=ad m.aS (a/8) true}):=by
 grind [MS.cx]
theorem fP{v:VB}{m:MS}(h:m.xy a w=true)(h0:¬m.fr (a/8)=0)(q:w=true)(q2:m.aS (a/8)=false)(r:1<v.rf (m.fr (a/8)-1))(e:¬v.take.2.1=0):m.cx v a w=(0,v.take.2.1,v,m):=by
 grind [MS.cx]
theorem fB{v:VB}{m:MS}(h:m.xy a w=true)(h0:¬m.fr (a/8)=0)(q:w=true)(q2:m.aS (a/8)=false)(r:1<v.rf (m.fr (a/8)-1))(e:v.take.2.1=0):m.cx v a w=(v.take.1,0,(v.take.2.2.copy v.take.1 (m.fr (a/8)-1)).drop (m.fr (a/8)-1),m.Ct (a/8) v.take.1):=by
 grind [MS.cx]
def MS.pK(v:VB)(m:MS)(a:Int)(w:Bool):(m.xy a w=false/\m.cx v a w=(0,10,v,m))\/(m.xy a w=true/\((¬v.take.2.1=0/\m.cx v a w=(0,v.take.2.1,v,m))\/(m.fr (a/8)=0/\v.take.2.1=0/\m.cx v a w=(v.take.1,0,v.take.2.2,m.Ct (a/8) v.take.1))\/(¬m.fr (a/8)=0/\(w=false\/m.aS (a/8)=true)/\m.cx v a w=(m.fr (a/8)-1,0,v,m))\/(¬m.fr (a/8)=0/\v.rf (m.fr (a/8)-1)<=1/\w=true/\m.cx v a w=(m.fr (a/8)-1,0,v,{m with aS:=ad m.aS (a/8) true}))\/(¬m.fr (a/8)=0/\v.take.2.1=0/\1<v.rf (m.fr (a/8)-1)/\w=true/\m.cx v a w=(v.take.1,0,(v.take.2.2.copy v.take.1 (m.fr (a/8)-1)).drop (m.fr (a/8)-1),m.Ct (a/8) v.take.1)))):=by
 cases h:m.xy a w with
 | false=>exact .inl ⟨rfl,gY h⟩
 | true=>
  refine .inr ⟨rfl,?_⟩;by_cases h0:m.fr (a/8)=0
  ·grind [MS.cx]
  ·grind [cV,MS.ku,fB,fP]
def MS.xE(v:VB)(m:MS)(a:Int)(w:Bool):(m.cx v a w).2.2.2.ay=m.ay:=by
 rcases MS.pK v m a w with⟨_,e⟩ | ⟨_,⟨_,e⟩ | ⟨_,_,e⟩ | ⟨_,_,e⟩ | ⟨_,_,_,e⟩ | ⟨_,_,_,_,e⟩⟩<;>(rw[e];try rfl)
def xF{v:VB}{m:MS}(hv:v.Ok)(hm:m.Ok)(h:(m.cx v a w).2.1=0):(0<=(m.cx v a w).1/\(m.cx v a w).1<64)/\0<=a/\a<128:=by
 have hl:=hm.lo (a/8);rcases MS.pK v m a w with⟨_,e⟩ | ⟨hr,⟨q,e⟩ | ⟨_,q,e⟩ | ⟨_,_,e⟩ | ⟨_,_,_,e⟩ | ⟨_,q,_,_,e⟩⟩
 ·simp_all
 ·simp_all
 ·rw[e];exact⟨pG hv q,lh hr⟩
 ·rw[e];exact⟨og,lh hr⟩
 ·rw[e];exact⟨og,lh hr⟩
 ·rw[e];exact⟨pG hv q,lh hr⟩
theorem VB.Ok.cx{v:VB}{m:MS}(hv:v.Ok)(a:Int)(w:Bool):(m.cx v a w).2.2.1.Ok:=by
 rcases MS.pK v m a w with⟨_,e⟩ | ⟨_,⟨_,e⟩ | ⟨_,_,e⟩ | ⟨_,_,e⟩ | ⟨_,_,_,e⟩ | ⟨_,q,r,_,e⟩⟩<;>rw[e]
 ·omega
 ·omega
 ·exact hv.take
 ·omega
 ·omega
 ·exact(hv.take.copy _ _).drop (AJ q r)
def TN(rf fr:Int->Int):∀ (k:Nat) (g:Int),rf g<=xz rf fr k g/\xz rf fr k g<=rf g+k
 | 0,g=>by simp[xz]
 | k+1,g=>by
  have:=TN rf fr k g;rw[xz];split;all_goals grind [ad]
theorem Jv{rf fr:Int->Int}(h:0<=i):xz rf fr (i+1).toNat=if 0<fr i then ad (xz rf fr i.toNat) (fr i-1) (xz rf fr i.toNat (fr i-1)+1)else xz rf fr i.toNat:=by
 rw[show(i+1).toNat=i.toNat+1 from og,xz,show((i.toNat:Nat):Int)=i from og]
def wh{α:Type}(f g:Int->α)(i:Int):Int->α:=fun j=>if 0<=j/\j<i then f j else g j
theorem uN{α:Type}{f g:Int->α}(h:0<=i){v:α}(e:f i=v:=by omega):ad (wh f g i) i v=wh f g (i+1):=by
 grind [ad,wh]
theorem jB(f:Int->Bool)(i:Int){v:Bool}(h:f i=v):ad f i v=f:=by
 grind [ad]
theorem MS.CJ{v:VB}{m:MS}(h:¬(m.cx v a false).2.1=0):m.load v a=(0,(m.cx v a false).2.1,(m.cx v a false).2.2):=by grind [MS.load]
theorem MS.GP{v:VB}{m:MS}(h:(m.cx v a false).2.1=0):m.load v a=((m.cx v a false).2.2.1.iD (m.cx v a false).1 (a%8),0,(m.cx v a false).2.2):=by grind [MS.load]
theorem MS.FA{v:VB}{m:MS}{b:Int}(h:¬(m.cx v a true).2.1=0):m.store v a b=((m.cx v a true).2.1,(m.cx v a true).2.2):=by grind [MS.store]
theorem MS.CK{v:VB}{m:MS}{b:Int}(h:(m.cx v a true).2.1=0):m.store v a b=(0,⟨(m.cx v a true).2.2.1.bb,cv (m.cx v a true).2.2.1.iD (m.cx v a true).1 (a%8) b,(m.cx v a true).2.2.1.rf⟩,(m.cx v a true).2.2.2):=by grind [MS.store]
theorem FB{α:Type}(f g:Int->α):wh f g 0=g:=by grind [wh]
def zNs(b:Nat)(p:Option Addr)(n c:Nat):List Value:=aA b 0 0:: .slice p n c::(List.replicate 16 [Value.int .i64 0,Value.bool false]).flatten
def XH(b:Nat)(p:Option Addr)(n c:Nat):∀ i,i<34->cellsOf (zNs b p n c).toArray i=b6 b p n c (fun _=>1) (fun _=>false) i:=fun i hi=>by
 unfold cellsOf zNs;by_cases h1:i=1
 ·subst h1;rfl
 ·have e:=Tv b i hi;unfold cellsOf zNl at e;rw[Array.getD_eq_getD_getElem?,List.getElem?_toArray]at e ⊢;grind [b6]
def PZ{α:Type}(f:Int->α)(a:Int)(v:α):gH f a (a-a) v=f:=by grind [gH]
def P0{α:Type}{f:Int->α}{v u:α}(h:a<=i)(e:u=v):ad (gH f a (i-a) v) i u=gH f a (i+1-a) v:=by
 grind [ad,gH]
theorem zz{α:Type}(f:Int->α)(i:Int)(u v:α):ad (ad f i u) i v=ad f i v:=by
 grind [ad]
end Go.X.Vm
