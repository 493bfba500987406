import Derived.Test.YthdinakloheinaaGreatDoorkTP
import Derived.Test.YthdinakloheinaaGreatDoorkFH
import Derived.Test.YthdinakloheinaaGreatDoorkVN
set_option linter.all false
namespace Go.X.Gr
open Go Go.X
variable{a n:Int}{s t:TG}
theorem jU{f g:Int->Int} :∀ (k:Nat),(∀ j:Int,0<=j->j<k->f j=g j)->eZ f k=eZ g k
 | 0,_=>rfl
 | k+1,h=>by
  simp only[eZ];rw[jU k fun j h0 h1=>h j h0 og,h (k:Int) og og]
theorem tE(f g:Int->Int):∀ (k:Nat),eZ (fun j=>f j+g j) k=eZ f k+eZ g k
 | 0=>rfl
 | k+1=>by simp only[eZ];rw[tE f g k];omega
theorem JI(p:Int)(f:Int->Int):∀ (k:Nat),eZ (fun j=>p*f j) k=p*eZ f k
 | 0=>by simp[eZ]
 | k+1=>by simp only[eZ];rw[JI p f k,Int.mul_add]
theorem oq{f:Int->Int} :∀ (k:Nat),(∀ j:Int,0<=j->j<k->f j=0)->eZ f k=0
 | 0,_=>rfl
 | k+1,h=>by
  simp only[eZ];rw[oq k fun j h0 h1=>h j h0 og,h (k:Int) og og];rfl
def N9{f:Int->Int} :∀ (k:Nat),(∀ j:Int,0<=j->j<k->0<=f j)->0<=eZ f k
 | 0,_=>Int.le_refl 0
 | k+1,h=>by
  have h1:=N9 k fun j h0 h1=>h j h0 og;grind [eZ]
theorem AW(v n:Int)(h0:0<=n):∀ (k:Nat),eZ (fun j=>if j=n then v else 0) k=if n<k then v else 0
 | 0=>by simp only[eZ];rw[if_neg og]
 | k+1=>by
  simp only[eZ];rw[AW v n h0 k];by_cases h:(k:Int)=n
  ·rw[if_neg og,if_pos h,if_pos og];omega
  ·rw[if_neg h];by_cases h2:n<k
   ·rw[if_pos h2,if_pos og];omega
   ·rw[if_neg h2,if_neg og];omega
namespace TG
theorem JJ(h:s.Ok)(h0:0<=n)(h1:n<10)(h2:s.aa n=true)(h3:n≠0):0<=s.aA n/\s.aA n<10/\s.aa (s.aA n)=true:=by
 grind [Ok.tC]
structure Inv (s:TG):Prop where
 ok:s.Ok
 bu:∀ n,0<=n->n<10->s.aa n=true->0<=s.left s.pr n/\0<=s.left s.pg n
def aad(h:s.Ok){f:Int->Int}(ho:∀ n,0<=n->n<10->s.aa n=true->0<=s.left f n)(h0:0<=n)(h1:n<10)(h2:s.aa n=true):0<=f n:=by
 obtain⟨d,d0,hd⟩:=h.tC;have iJ:∀ (k:Nat) (n:Int),0<=n->n<10->s.aa n=true->4-d n<=k->0<=f n:=by
  intro k;induction k with
  | zero=>
   intro n h0 h1 h2 hk;have h3:=ho n h0 h1 h2;unfold left at h3;rw[oq 10 (fun j j0 j1=>by
    unfold gF
    refine if_neg fun q=> ?_
    have h4:=hd j j0 og q.1
    have h5:=hd n h0 h1 h2
    by_cases hj:j=0
    ·subst hj
     have:=h.rB.2
     rw[q.2]at this;omega
    ·have:=(h4.2.2 hj).2.2.2
     rw[q.2]at this;omega)]at h3
   omega
  | succ k ih=>
   intro n h0 h1 h2 hk;have h3:=ho n h0 h1 h2;unfold left at h3;have h6:=N9 (f:=s.gF f n) 10 (fun j j0 j1=>by
    unfold gF
    split
    ·rename_i q
     have h4:=hd j j0 og q.1
     apply ih j j0 og q.1
     by_cases hj:j=0
     ·subst hj
      have:=h.rB.2
      rw[q.2]at this;omega
     ·have:=(h4.2.2 hj).2.2.2
      rw[q.2]at this;omega
    ·omega)
   omega
 exact iJ 4 n h0 h1 h2 og
def Inv.nn(h:s.Inv)(h0:0<=n)(h1:n<10)(h2:s.aa n=true):0<=s.pr n/\0<=s.pg n:=
 ⟨aad h.ok (fun n a b c=>(h.bu n a b c).1) h0 h1 h2,aad h.ok (fun n a b c=>(h.bu n a b c).2) h0 h1 h2⟩
def FQ{s:TG} :∀ (l:List Int) (n x:Int),kJ s.aA n l->(∀ y∈l,s.aa y=true)->0<=x->
  (l.count x:Int)-eZ (fun k=>if s.aa k=true/\s.aA k=x then(l.count k:Int)else 0) 10=if x=n then 1 else 0
 | [],n,x,hw,_,hx=>by
  have hn:n<0:=hw;rw[oq 10 fun j _ _=>sq];grind
 | y::r,n,x,hw,hh,hx=>by
  obtain⟨e1,h0,h1,h2⟩:=hw;subst e1;have ih:=FQ r (s.aA y) x h2 (fun z hz=>hh z (List.mem_cons_of_mem _ hz)) hx;have hy:=hh y sq;have e2:eZ (fun k=>if s.aa k=true/\s.aA k=x then((y::r).count k:Int)else 0) 10=eZ (fun k=>if s.aa k=true/\s.aA k=x then(r.count k:Int)else 0) 10+eZ (fun k=>if k=y then(if s.aA y=x then 1 else 0)else 0) 10:=by
   rw[<-tE];grind
  rw[e2,AW _ _ h0,if_pos og];grind
def JK(h:s.Ok)(h0:0<=n)(h1:n<10)(h2:s.aa n=true)(f:Int->Int)(p:Int){x:Int}(hx:0<=x):s.left (fun y=>f y+p*((s.cC n).count y:Int)) x=s.left f x+if x=n then p else 0:=by
 obtain⟨w1,_,w3⟩:=h.cC h0 h1 h2;have hc:=FQ (s:=s) (s.cC n) n x w1 w3 hx;unfold left;have e:eZ (s.gF (fun y=>f y+p*((s.cC n).count y:Int)) x) 10=eZ (s.gF f x) 10+p*eZ (fun k=>if s.aa k=true/\s.aA k=x then((s.cC n).count k:Int)else 0) 10:=by
  rw[<-JI,<-tE];refine jU 10 fun j _ _=> ?_;grind [gF]
 grind
theorem Inv.lay{s:TG}(h:s.Inv){n:Int}(h0:0<=n)(h1:n<10)(h2:s.aa n=true){p m:Int}(hp:0<=s.left s.pr n+p)(hm:0<=s.left s.pg n+m):(s.lay (s.cC n) p m).Inv:=by
 refine⟨h.ok.lay _ _ _,fun x x0 x1 x2=> ?_⟩;have a:=JK h.ok h0 h1 h2 s.pr p x0;have b:=JK h.ok h0 h1 h2 s.pg m x0;have c:=h.bu x x0 x1 x2;have a2:(s.lay (s.cC n) p m).left (s.lay (s.cC n) p m).pr x=s.left s.pr x+if x=n then p else 0:=a
 have b2:(s.lay (s.cC n) p m).left (s.lay (s.cC n) p m).pg x=s.left s.pg x+if x=n then m else 0:=b
 rw[a2,b2];by_cases hx:x=n
 ·subst hx;rw[if_pos rfl,if_pos rfl];exact⟨hp,hm⟩
 ·rw[if_neg hx,if_neg hx];omega
theorem Inv.cv{s:TG}(h:s.Inv)(n p m:Int):(s.cv n p m).Inv:=by
 unfold TG.cv;split
 ·rename_i h0;obtain⟨⟨n0,n1,n2⟩,p0,p1,m0,m1⟩:=zC h0;have:=h.bu n n0 n1 n2;exact h.lay n0 n1 n2 og og
 ·exact h
def L6{p m:Int}(h:s.gu n p m=0):p<=s.left s.pr n/\m<=s.left s.pg n:=by
 grind [gu]
theorem Inv.fa{s:TG}(h:s.Inv)(n p m:Int):(s.fa n p m).Inv:=by
 unfold TG.fa;split
 ·rename_i h0;obtain⟨⟨n0,n1,n2⟩,p0,p1,m0,m1⟩:=xH h0;have:=L6 h0;exact h.lay n0 n1 n2 og og
 ·exact h
theorem Inv.move{s:TG}(h:s.Inv)(a b p m:Int):(s.move a b p m).Inv:=by
 unfold TG.move;split
 ·exact h
 ·split
  ·exact(h.fa _ _ _).cv _ _ _
  ·exact h
def Inv.nN{s:TG}(h:s.Inv)(n p m:Int):(s.nN n p m).Inv:=by
 unfold TG.nN;split
 ·exact⟨⟨h.ok.rB,h.ok.tC⟩,h.bu⟩
 ·exact h
def abL(h:s.wq a=0):s.cx a=0/\¬(s.cC a).length=4/\0<=s.pV a/\s.pV a<10/\s.aa (s.pV a)=false/\s.free=some (s.pV a).toNat:=by
 have h':=h;unfold wq at h;split at h
 ·omega
 ·split at h
  ·omega
  ·split at h
   ·omega
   ·rename_i h1 h2 h3;cases hf:s.free with
    | none=>exact absurd hf h3
    | some k=>
     have e:s.pV a=(k:Int):=by unfold pV;rw[if_pos h',hf];rfl
     have RF:=hf;unfold free dv at RF;rw[List.find?_range_eq_some]at RF;have hk:k<10:=by simpa using RF.2.1
     have hh:s.aa (k:Int)=false:=by simpa using RF.1
     rw[e];exact⟨og,h2,og,og,hh,sq⟩
theorem Ok.len(h:s.Ok){d:Int->Nat}(d0:d 0=1)(hd:∀ n,0<=n->n<10->s.aa n=true->1<=d n/\d n<=4/\(n≠0->0<=s.aA n/\s.aA n<10/\s.aa (s.aA n)=true/\d n=d (s.aA n)+1))(h0:0<=n)(h1:n<10)(h2:s.aa n=true):(s.cC n).length=d n:=
 (h.Tv 5 (d n) (by have:=(hd n h0 h1 h2).2.1;omega) d d0 hd n h0 h1 h2 rfl).2.1
theorem Ok.put{s:TG}(h:s.Ok){a k:Int}(ha:s.cx a=0)(hl:¬(s.cC a).length=4)(k0:0<=k)(k1:k<10)(hk:s.aa k=false):(s.put k a).Ok:=by
 obtain⟨a0,a1,a2⟩:=zB ha;obtain⟨d,d0,hd⟩:=h.tC;have hlen:=h.len d0 hd a0 a1 a2;have hda:=hd a a0 a1 a2;have hk0:k≠0:=fun e=>by subst e;rw[h.rB.1]at hk;cases hk
 have hka:a≠k:=fun e=>by subst e;rw[a2]at hk;cases hk
 refine⟨⟨?_,?_⟩,fun x=>if x=k then d a+1 else d x,?_,fun n n0 n1 n2=> ?_⟩
 ·show ae s.aa k true 0=true;grind [ai]
 ·show ae s.aA k a 0= -1;grind [ai,Ok.rB]
 ·grind
 ·have e1:(s.put k a).aA n=ae s.aA k a n:=rfl;have e2:∀ x,(s.put k a).aa x=ae s.aa k true x:=fun _=>rfl;grind [au,ai]
theorem JM(h:s.Ok){k:Int}(hk:s.aa k=false)(f:Int->Int){x:Int}(hx:s.aa x=true):(s.put k a).left (ae f k 0) x=s.left f x:=by
 have hxk:x≠k:=fun e=>by subst e;rw[hx]at hk;cases hk
 unfold left;rw[ai _ _ hxk];congr 1;refine jU 10 fun j j0 j1=> ?_;unfold gF;show(if ae s.aa k true j=true/\ae s.aA k a j=x then ae f k 0 j else 0)=_;grind [ae]
theorem JN(h:s.Ok){k:Int}(hk:s.aa k=false)(hk0:0<=k)(hka:a≠k)(f:Int->Int):(s.put k a).left (ae f k 0) k=0:=by
 unfold left;rw[au,oq]
 ·rfl
 ·intro j j0 j1;unfold gF;show(if ae s.aa k true j=true/\ae s.aA k a j=k then ae f k 0 j else 0)=0;grind [Ok.rB,JJ,ae]
theorem Inv.add{s:TG}(h:s.Inv)(a:Int):(s.add a).Inv:=by
 unfold TG.add;split
 ·rename_i h0;obtain⟨e1,e2,e3,e4,e5,_⟩:=abL h0;have xt:=h.ok.put e1 e2 e3 e4 e5;refine⟨xt,fun x x0 x1 x2=> ?_⟩;show 0<=(s.put (s.pV a) a).left (ae s.pr (s.pV a) 0) x/\0<=(s.put (s.pV a) a).left (ae s.pg (s.pV a) 0) x;by_cases hx:x=s.pV a
  ·have ha:a≠s.pV a:=fun e=>by
    have:=(zB e1).2.2;rw[e,e5]at this;cases this
   rw[hx,JN h.ok e5 e3 ha,JN h.ok e5 e3 ha];omega
  ·have AB:s.aa x=true:=by
    have:(s.put (s.pV a) a).aa x=ae s.aa (s.pV a) true x:=rfl;rw[this,ai _ _ hx]at x2;exact x2
   rw[JM h.ok e5 _ AB,JM h.ok e5 _ AB];exact h.bu x x0 x1 AB
 ·exact h
def Qj(h:s.cY n=0):s.cx n=0/\n≠0/\¬ 0<s.pr n/\¬ 0<s.pg n/\s.wu n=false:=by
 grind [cY]
theorem abM(h:s.wu n=false){j:Int}(j0:0<=j)(j1:j<10)(j2:s.aa j=true):s.aA j≠n:=fun e=>by
 grind [NZ]
theorem Ok.drop(h:s.Ok)(hn:n≠0)(hk:s.wu n=false)(hh:t.aa=ae s.aa n false)(hp:∀ x,x≠n->t.aA x=s.aA x):t.Ok:=by
 obtain⟨d,d0,hd⟩:=h.tC;refine⟨⟨by rw[hh,ai _ _ (Ne.symm hn)];exact h.rB.1,by rw[hp 0 (Ne.symm hn)];exact h.rB.2⟩,d,d0,fun x x0 x1 x2=> ?_⟩;have hx:x≠n:=fun e=>by subst e;rw[hh,au]at x2;cases x2
 rw[hh,ai _ _ hx]at x2;have h4:=hd x x0 x1 x2;rw[hp x hx];refine⟨h4.1,h4.2.1,fun q=> ?_⟩;obtain⟨p0,p1,p2,p3⟩:=h4.2.2 q;refine⟨p0,p1,?_,p3⟩;rw[hh,ai _ _ (abM hk x0 x1 x2)];exact p2
def Inv.ed{s:TG}(h:s.Inv)(n:Int):(s.ed n).Inv:=by
 unfold TG.ed;split
 ·rename_i h0;obtain⟨e1,e2,e3,e4,e5⟩:=Qj h0;obtain⟨n0,n1,n2⟩:=zB e1;have hnn:=h.nn n0 n1 n2;refine⟨h.ok.drop (t:=s.Hd n) e2 e5 rfl fun x hx=>ai _ _ hx,fun x x0 x1 x2=> ?_⟩;have hx:x≠n:=fun e=>by
   subst e;have:(s.Hd x).aa x=ae s.aa x false x:=rfl;rw[this,au]at x2;cases x2
  have x3:s.aa x=true:=by
   have:(s.Hd n).aa x=ae s.aa n false x:=rfl;rw[this,ai _ _ hx]at x2;exact x2
  have iJ:∀ f:Int->Int,f n=0->(s.Hd n).left (ae f n 0) x=s.left f x:=fun f hf=>by
   unfold left;rw[ai _ _ hx];congr 1;refine jU 10 fun j j0 j1=> ?_;unfold gF;show(if ae s.aa n false j=true/\ae s.aA n 0 j=x then ae f n 0 j else 0)=_;by_cases hj:j=n
   ·subst hj;rw[au];simp[hf]
   ·rw[ai _ _ hj,ai _ _ hj,ai _ _ hj]
  have h9:=h.bu x x0 x1 x3;show 0<=(s.Hd n).left (ae s.pr n 0) x/\0<=(s.Hd n).left (ae s.pg n 0) x;rw[iJ _ og,iJ _ og];exact h9
 ·exact h
theorem FR(n:Int):TG.cP.aa n=decide (n=0):=by
 rfl
theorem Inv.cP:TG.cP.Inv:=by
 have hh:∀ n:Int,TG.cP.aa n=true->n=0:=fun n h=>by rw[FR]at h;simpa using h
 refine⟨⟨⟨by rw[FR];rfl,rfl⟩,fun _=>1,rfl,fun n n0 n1 n2=> ?_⟩,fun n n0 n1 n2=> ?_⟩
 ·grind
 ·have:=hh n n2;subst this;decide+kernel
theorem bM.cP:TG.cP.bM 0:=fun n h0 h1=>by
 have:n=0\/n=1\/n=2\/n=3\/n=4\/n=5\/n=6\/n=7\/n=8\/n=9:=og;rcases this with rfl | rfl | rfl | rfl | rfl | rfl | rfl | rfl | rfl | rfl<;>decide+kernel
theorem bM.add{s:TG}{B:Int}(h:s.bM B)(hB:0<=B)(a:Int):(s.add a).bM B:=by
 unfold TG.add;split
 ·intro n h0 h1;show-B<=ae s.pr _ 0 n/\ae s.pr _ 0 n<=B/\ -B<=ae s.pg _ 0 n/\ae s.pg _ 0 n<=B;grind [ae,bM]
 omega
def bM.ed{s:TG}{B:Int}(h:s.bM B)(hB:0<=B)(a:Int):(s.ed a).bM B:=by
 unfold TG.ed;split
 ·intro n h0 h1;show-B<=ae s.pr _ 0 n/\ae s.pr _ 0 n<=B/\ -B<=ae s.pg _ 0 n/\ae s.pg _ 0 n<=B;grind [ae,bM]
 omega
def bM.xJ{s:TG}{B:Int}(h:s.bM B)(a:Int):(s.xJ a).bM B:=by
 unfold TG.xJ;split<;>exact h
def bM.nN{s:TG}{B:Int}(h:s.bM B)(n p m:Int):(s.nN n p m).bM B:=by
 unfold TG.nN;split<;>exact h
theorem bM.move{s:TG}{B:Int}(h:s.bM B)(hO:s.Ok)(a b p m:Int):(s.move a b p m).bM (B+640):=by
 unfold TG.move;split
 ·grind [bM]
 ·split
  ·exact((h.fa hO a p m).cv hO.fa b p m).mono og
  grind [bM]
structure mh (s t:TG):Prop where
 aa:s.aa=t.aa
 gv:∀ n,0<=n->n<10->s.aa n=true->s.gv n=t.gv n
theorem mh.aA{s t:TG}(h:mh s t){n:Int}(h0:0<=n)(h1:n<10)(h2:s.aa n=true):t.aA n=s.aA n:=(congrArg GV.aA (h.gv n h0 h1 h2)).symm
theorem mh.pr{s t:TG}(h:mh s t){n:Int}(h0:0<=n)(h1:n<10)(h2:s.aa n=true):t.pr n=s.pr n:=(congrArg GV.pr (h.gv n h0 h1 h2)).symm
theorem mh.pg{s t:TG}(h:mh s t){n:Int}(h0:0<=n)(h1:n<10)(h2:s.aa n=true):t.pg n=s.pg n:=(congrArg GV.pg (h.gv n h0 h1 h2)).symm
theorem mh.ok(h:mh s t)(hO:s.Ok):t.Ok:=by
 obtain⟨d,d0,hd⟩:=hO.tC;have hr:=hO.rB;refine⟨⟨by rw[<-h.aa];exact hr.1,by rw[h.aA og og hr.1];exact hr.2⟩,d,d0,fun n n0 n1 n2=> ?_⟩;grind [mh.aa,mh.aA]
theorem mh.cC{s t:TG}(h:mh s t)(hO:s.Ok){n:Int}(h0:0<=n)(h1:n<10)(h2:s.aa n=true):t.cC n=s.cC n:=by
 obtain⟨w1,_,w3⟩:=hO.cC h0 h1 h2;obtain⟨v1,_⟩:=(h.ok hO).cC h0 h1 (by rw[<-h.aa];exact h2);exact v1.Tt (w1.congr (fun x hx=>by
  obtain⟨x0,x1⟩:=w1.range x hx
  exact h.aA x0 x1 (w3 x hx)))
theorem mh.cx{s t:TG}(h:mh s t)(n:Int):t.cx n=s.cx n:=by unfold TG.cx;rw[h.aa]
theorem mh.nx{s t:TG}(h:mh s t)(n p m:Int):t.nx n p m=s.nx n p m:=by grind [nx,cx]
theorem mh.left{s t:TG}(h:mh s t){n:Int}(h0:0<=n)(h1:n<10)(h2:s.aa n=true):t.left t.pr n=s.left s.pr n/\t.left t.pg n=s.left s.pg n:=by
 unfold TG.left;rw[h.pr h0 h1 h2,h.pg h0 h1 h2];have e1:eZ (t.gF t.pr n) 10=eZ (s.gF s.pr n) 10:=jU 10 (fun j j0 j1=>by
  unfold gF
  rw[<-h.aa]
  by_cases hj:s.aa j=true
  ·rw[h.aA j0 og hj,h.pr j0 og hj]
  ·simp[hj])
 have e2:eZ (t.gF t.pg n) 10=eZ (s.gF s.pg n) 10:=jU 10 (fun j j0 j1=>by
  unfold gF
  rw[<-h.aa]
  by_cases hj:s.aa j=true
  ·rw[h.aA j0 og hj,h.pg j0 og hj]
  ·simp[hj])
 rw[e1,e2];exact⟨rfl,rfl⟩
theorem mh.gu{s t:TG}(h:mh s t)(n p m:Int):t.gu n p m=s.gu n p m:=by
 unfold TG.gu;rw[h.nx];by_cases hc:s.nx n p m=0
 ·obtain⟨⟨n0,n1,n2⟩,_⟩:=NX hc;rw[(h.left n0 n1 n2).1,(h.left n0 n1 n2).2]
 omega
theorem mh.room{s t:TG}(h:mh s t)(hO:s.Ok){n:Int}(h0:0<=n)(h1:n<10)(h2:s.aa n=true)(p m:Int):∀ x∈s.cC n,t.room p m x=s.room p m x:=fun x hx=>by
 obtain⟨w1,_,w3⟩:=hO.cC h0 h1 h2;obtain⟨x0,x1⟩:=w1.range x hx;unfold TG.room;grind [mh.gv]
theorem Qk{l:List Int}{p q:Int->Bool}(h:∀ x∈l,p x=q x):l.all p=l.all q:=by
 grind
theorem mh.cX{s t:TG}(h:mh s t)(hO:s.Ok)(n p m:Int):t.cX n p m=s.cX n p m:=by
 unfold TG.cX;rw[h.nx];by_cases hc:s.nx n p m=0
 ·obtain⟨⟨n0,n1,n2⟩,_⟩:=NX hc;rw[h.cC hO n0 n1 n2,Qk (h.room hO n0 n1 n2 p m)]
 omega
theorem mh.wu{s t:TG}(h:mh s t)(n:Int):t.wu n=s.wu n:=by
 grind [mh.aa,mh.aA,wu]
theorem mh.cY{s t:TG}(h:mh s t)(hI:s.Inv)(n:Int):t.CH n=s.cY n:=by
 unfold TG.CH TG.cY;rw[h.cx,h.wu];by_cases hc:s.cx n=0
 ·obtain⟨n0,n1,n2⟩:=zB hc;have hnn:=hI.nn n0 n1 n2;grind [mh.pr,mh.pg]
 omega
def Ho(h1:s.aA n=t.aA n)(h2:s.mp n=t.mp n)(h3:s.mg n=t.mg n)(h4:s.pr n=t.pr n)(h5:s.pg n=t.pg n):s.gv n=t.gv n:=by
 grind [gv]
def mh.eqs(h:mh s t)(h0:0<=n)(h1:n<10)(h2:s.aa n=true):s.aA n=t.aA n/\s.mp n=t.mp n/\s.mg n=t.mg n/\s.pr n=t.pr n/\s.pg n=t.pg n:=by
 have e:=h.gv n h0 h1 h2;exact⟨congrArg GV.aA e,congrArg GV.mp e,congrArg GV.mg e,congrArg GV.pr e,congrArg GV.pg e⟩
theorem mh.lay{s t:TG}(h:mh s t)(l:List Int)(p m:Int):mh (s.lay l p m) (t.lay l p m):=⟨h.aa,fun n h0 h1 h2=>by
 obtain⟨e1,e2,e3,e4,e5⟩:=h.eqs h0 h1 h2
 exact Ho e1 e2 e3 (by show s.pr n+_=t.pr n+_;rw[e4]) (by show s.pg n+_=t.pg n+_;rw[e5])⟩
theorem mh.cv{s t:TG}(h:mh s t)(hO:s.Ok)(n p m:Int):mh (s.cv n p m) (t.cv n p m):=by
 unfold TG.cv;rw[h.cX hO];by_cases hc:s.cX n p m=0
 ·rw[if_pos hc,if_pos hc];obtain⟨⟨n0,n1,n2⟩,_⟩:=zC hc;rw[h.cC hO n0 n1 n2];exact h.lay _ _ _
 simp_all
theorem mh.fa{s t:TG}(h:mh s t)(hO:s.Ok)(n p m:Int):mh (s.fa n p m) (t.fa n p m):=by
 unfold TG.fa;rw[h.gu];by_cases hc:s.gu n p m=0
 ·rw[if_pos hc,if_pos hc];obtain⟨⟨n0,n1,n2⟩,_⟩:=xH hc;rw[h.cC hO n0 n1 n2];exact h.lay _ _ _
 simp_all
theorem mh.move{s t:TG}(h:mh s t)(hO:s.Ok)(a b p m:Int):mh (s.move a b p m) (t.move a b p m):=by
 unfold TG.move;grind [cx,gu,Ok.fa,mh.fa,cX,cv]
theorem mh.put{s t:TG}(h:mh s t)(k a:Int):mh (s.put k a) (t.put k a):=by
 refine⟨by show ae s.aa k true=ae t.aa k true;rw[h.aa],fun x h0 h1 h2=> ?_⟩;by_cases hx:x=k
 ·subst hx;exact Ho (by show ae s.aA x a x=ae t.aA x a x;rw[au,au]) (by show ae s.mp x (-1) x=ae t.mp x (-1) x;rw[au,au]) (by show ae s.mg x (-1) x=ae t.mg x (-1) x;rw[au,au]) (by show ae s.pr x 0 x=ae t.pr x 0 x;rw[au,au]) (by show ae s.pg x 0 x=ae t.pg x 0 x;rw[au,au])
 ·have h3:s.aa x=true:=by
   have:(s.put k a).aa x=ae s.aa k true x:=rfl;grind [ai]
  obtain⟨e1,e2,e3,e4,e5⟩:=h.eqs h0 h1 h3;exact Ho (by show ae s.aA k a x=ae t.aA k a x;rw[ai _ _ hx,ai _ _ hx,e1]) (by show ae s.mp k (-1) x=ae t.mp k (-1) x;rw[ai _ _ hx,ai _ _ hx,e2]) (by show ae s.mg k (-1) x=ae t.mg k (-1) x;rw[ai _ _ hx,ai _ _ hx,e3]) (by show ae s.pr k 0 x=ae t.pr k 0 x;rw[ai _ _ hx,ai _ _ hx,e4]) (by show ae s.pg k 0 x=ae t.pg k 0 x;rw[ai _ _ hx,ai _ _ hx,e5])
def mh.ed{s t:TG}(h:mh s t)(hI:s.Inv)(n:Int):mh (s.ed n) (t.xJ n):=by
 unfold TG.ed TG.xJ;rw[h.cY hI];split
 ·refine⟨by show ae s.aa n false=ae t.aa n false;rw[h.aa],fun x h0 h1 h2=> ?_⟩;have hx:x≠n:=fun e=>by
   simp_all[Hd,au]
  have h3:s.aa x=true:=by
   simp_all[Hd,ai]
  obtain⟨e1,e2,e3,e4,e5⟩:=h.eqs h0 h1 h3;exact Ho (by show ae s.aA n 0 x=t.aA x;rw[ai _ _ hx,e1]) (by show ae s.mp n 0 x=t.mp x;rw[ai _ _ hx,e2]) (by show ae s.mg n 0 x=t.mg x;rw[ai _ _ hx,e3]) (by show ae s.pr n 0 x=t.pr x;rw[ai _ _ hx,e4]) (by show ae s.pg n 0 x=t.pg x;rw[ai _ _ hx,e5])
 omega
theorem mh.all{s t:TG}(h:mh s t):t.all=s.all:=by unfold TG.all;rw[h.aa]
end TG
end Go.X.Gr

namespace Go.X.Kn
open Go Go.X Go.X.Sg Go.X.Vm
variable{i n z:Int}
structure PU where
 st:Int
 aA:Int
 kx:Int
 jF:Int
 mem:Value
 fd:Int->Int
 bx:BS
structure KP where
 u:Int->PU
 gb:Nat
 sb:Nat
 qb:Nat
 bb:Nat
 tb:Nat
 pi:Nat
 ob:Nat
 ms:Int->Value
def PU.nil:PU:=⟨0,0,0,0,.pointer none,fun _=>0,BS.cP⟩
def PU.cell(u:PU)(j:Nat):Value:=
 if j=0 then iI u.st else if j=1 then iI u.aA else if j=2 then iI u.kx else if j=3 then iI u.jF else
 if j=4 then u.mem else if j<11 then iI (u.fd ((j-5:Nat):Int))else Sg.fu u.bx (j-11)
def aF(k:KP)(i:Nat):Value:=
 if i<440 then(k.u ((i/22:Nat):Int)).cell (i%22)else
 if i=440 then aC k.gb 0 0 else if i=441 then aC k.sb 0 0 else if i=442 then aC k.qb 0 0 else if i=443 then aC k.bb 0 0 else
 if i=444 then aC k.tb 0 0 else if i=445 then aC k.pi 0 0 else if i=446 then aC k.ob 0 0 else
 if i<453 then k.ms ((i-447:Nat):Int)else undef
def KP.put(k:KP)(n:Int)(u:PU):KP:= {k with u:=ae k.u n u}
theorem KP.sx(k:KP)(n:Int)(u:PU):(k.put n u).u n=u:=au _ _ _
theorem KP.zQ(k:KP){m:Int}(u:PU)(h:¬m=n):(k.put n u).u m=k.u m:=ai _ _ h
theorem KP.Hp(k:KP)(n:Int)(u v:PU):(k.put n u).put n v=k.put n v:=by
 show({k with u:=ae (ae k.u n u) n v} :KP)= {k with u:=ae k.u n v};have e:ae (ae k.u n u) n v=ae k.u n v:=by
  grind [au,ai]
 rw[e]
def AX(k:KP)(n:Int):k.put n (k.u n)=k:=by
 unfold KP.put;rw[cy k.u rfl]
theorem aF.at_(k:KP)(h:0<=n/\n<20){j:Nat}(hj:j<22):aF k (0+0+n.toNat*22+j)=(k.u n).cell j:=by
 grind [aF]
def gg(k:KP)(h:0<=n/\n<20:=by omega):0+0+n.toNat*22+0<453/\aF k (0+0+n.toNat*22+0)=iI (k.u n).st:=⟨og,aF.at_ k h og⟩
def ki(k:KP)(h:0<=n/\n<20:=by omega):0+0+n.toNat*22+1<453/\aF k (0+0+n.toNat*22+1)=iI (k.u n).aA:=⟨og,aF.at_ k h og⟩
def dx(k:KP)(h:0<=n/\n<20:=by omega):0+0+n.toNat*22+2<453/\aF k (0+0+n.toNat*22+2)=iI (k.u n).kx:=⟨og,aF.at_ k h og⟩
def vJ(k:KP)(h:0<=n/\n<20:=by omega):0+0+n.toNat*22+3<453/\aF k (0+0+n.toNat*22+3)=iI (k.u n).jF:=⟨og,aF.at_ k h og⟩
def di(k:KP)(h:0<=n/\n<20){b:Nat}(e:(k.u n).mem=aC b 0 0):0+0+n.toNat*22+4<453/\aF k (0+0+n.toNat*22+4)=aC b 0 0:=⟨og,(aF.at_ k h og).trans e⟩
def tL(k:KP)(h:0<=n/\n<20:=by omega)(hi:0<=i/\i<6:=by omega):0+0+n.toNat*22+5+i.toNat*1<453/\aF k (0+0+n.toNat*22+5+i.toNat*1)=iI ((k.u n).fd i):=⟨og,by
 rw[show 0+0+n.toNat*22+5+i.toNat*1=0+0+n.toNat*22+(5+i.toNat)from og,aF.at_ k h og]
 unfold PU.cell
 rw[if_neg og,if_neg og,if_neg og,if_neg og,if_neg og,if_pos og,show((5+i.toNat-5:Nat):Int)=i from og]⟩
abbrev RN(f:Int->Int):Array Value:=GN f 6
def rQ(k:KP)(h:0<=n/\n<20:=by omega):0+0+n.toNat*22+5+6<=453/\dc (aF k) (0+0+n.toNat*22+5) 6= .agg (RN (k.u n).fd):=by
 refine⟨og,?_⟩;have e:=fun (j:Nat) (hj:j<6)=>aF.at_ k h (j:=5+j) og;unfold dc;simp only[List.range,List.range.loop,List.map_cons,List.map_nil,Nat.add_zero];rw[show 0+0+n.toNat*22+5=0+0+n.toNat*22+(5+0)from rfl,e 0 og];rw[show 0+0+n.toNat*22+(5+0)+1=0+0+n.toNat*22+(5+1)from rfl,e 1 og];rw[show 0+0+n.toNat*22+(5+0)+2=0+0+n.toNat*22+(5+2)from rfl,e 2 og];rw[show 0+0+n.toNat*22+(5+0)+3=0+0+n.toNat*22+(5+3)from rfl,e 3 og];rw[show 0+0+n.toNat*22+(5+0)+4=0+0+n.toNat*22+(5+4)from rfl,e 4 og];rw[show 0+0+n.toNat*22+(5+0)+5=0+0+n.toNat*22+(5+5)from rfl,e 5 og];rfl
def eI(k:KP):0+440<453/\aF k (0+440)=aC k.gb 0 0:=⟨og,rfl⟩
def aF.qK(k:KP):0+441<453/\aF k (0+441)=aC k.sb 0 0:=⟨og,rfl⟩
def eJ(k:KP):0+442<453/\aF k (0+442)=aC k.qb 0 0:=⟨og,rfl⟩
def aF.zN(k:KP):0+443<453/\aF k (0+443)=aC k.bb 0 0:=⟨og,rfl⟩
def aF.Bn(k:KP):0+444<453/\aF k (0+444)=aC k.tb 0 0:=⟨og,rfl⟩
def gx(k:KP):0+446<453/\aF k (0+446)=aC k.ob 0 0:=⟨og,rfl⟩
def JO(k:KP)(h:0<=z/\z<6):0+447+z.toNat*1<453/\aF k (0+447+z.toNat*1)=k.ms z:=by grind [aF]
def aF.zo(k:KP)(h:0<=n/\n<20)(u:PU)(C:Nat->Value)(h1:∀ j,j<22->C (0+0+n.toNat*22+j)=u.cell j)(h2:∀ i,(i<n.toNat*22\/n.toNat*22+22<=i)->C i=aF k i):C=aF (k.put n u):=by
 funext i;by_cases c:n.toNat*22<=i/\i<n.toNat*22+22
 ·have e1:=h1 (i-n.toNat*22) og;have e2:=aF.at_ (k.put n u) h (j:=i-n.toNat*22) og;rw[show 0+0+n.toNat*22+(i-n.toNat*22)=i from og]at e1 e2;grind [KP.sx]
 ·rw[h2 i og];unfold aF;grind [KP.zQ,KP.put]
def oU(k:KP)(h:0<=n/\n<20){j:Nat}(hj:j<22){v:Value}(u:PU)(hv:u.cell j=v)(ho:∀ i,i<22->¬i=j->u.cell i=(k.u n).cell i):dE (aF k) (0+0+n.toNat*22+j) v=aF (k.put n u):=by
 refine aF.zo k h u _ (fun i hi=> ?_) fun i hi=> ?_;all_goals grind [dE,aF.at_]
def JP(k:KP)(h:0<=n/\n<20)(v:Int):0+0+n.toNat*22+0<453/\dE (aF k) (0+0+n.toNat*22+0) (iI v)=aF (k.put n {k.u n with st:=v}):=
 ⟨og,oU k h og _ rfl fun i _ c=>by unfold PU.cell;rw[if_neg c,if_neg c]⟩
def xY(k:KP)(h:0<=n/\n<20)(v:Int):0+0+n.toNat*22+1<453/\dE (aF k) (0+0+n.toNat*22+1) (iI v)=aF (k.put n {k.u n with aA:=v}):=
 ⟨og,oU k h og _ rfl fun i _ c=>by unfold PU.cell;rw[if_neg (c:=i=1) c,if_neg (c:=i=1) c]⟩
def Hq(k:KP)(h:0<=n/\n<20)(v:Int):0+0+n.toNat*22+2<453/\dE (aF k) (0+0+n.toNat*22+2) (iI v)=aF (k.put n {k.u n with kx:=v}):=
 ⟨og,oU k h og _ rfl fun i _ c=>by unfold PU.cell;rw[if_neg (c:=i=2) c,if_neg (c:=i=2) c]⟩
def EO(k:KP)(h:0<=n/\n<20)(v:Int):0+0+n.toNat*22+3<453/\dE (aF k) (0+0+n.toNat*22+3) (iI v)=aF (k.put n {k.u n with jF:=v}):=
 ⟨og,oU k h og _ rfl fun i _ c=>by unfold PU.cell;rw[if_neg (c:=i=3) c,if_neg (c:=i=3) c]⟩
def lu(k:KP)(h:0<=n/\n<20)(hi:0<=i/\i<6)(v:Int):0+0+n.toNat*22+5+i.toNat*1<453/\dE (aF k) (0+0+n.toNat*22+5+i.toNat*1) (iI v)=aF (k.put n {k.u n with fd:=ae (k.u n).fd i v}):=by
 refine⟨og,?_⟩;rw[show 0+0+n.toNat*22+5+i.toNat*1=0+0+n.toNat*22+(5+i.toNat)from og];refine oU k h og _ ?_ fun j hj c=> ?_;all_goals grind [PU.cell,au,ai]
theorem BE:∀ (l:List Value) (C:Nat->Value) (i j:Nat),cB C i l j=if i<=j/\j<i+l.length then l.getD (j-i) undef else C j
 | [],C,i,j=>by rw[cB,if_neg (by simp only[List.length_nil];omega)]
 | v::r,C,i,j=>by
  rw[cB,BE r];by_cases c:j=i
  ·subst c;rw[if_neg og,if_pos sq];unfold dE;rw[if_pos rfl];simp
  ·by_cases d:i+1<=j/\j<i+1+r.length
   ·rw[if_pos d,if_pos (by simp;omega),show j-i=(j-(i+1))+1 from og];simp
   ·rw[if_neg d,if_neg (by simp;omega)];unfold dE;rw[if_neg c]
def PU.cO(u:PU):Array Value:=((List.range 22).map u.cell).toArray
def aF.CV(k:KP)(h:0<=n/\n<20)(u:PU):0+0+n.toNat*22+22<=453/\cB (aF k) (0+0+n.toNat*22) u.cO.toList=aF (k.put n u):=by
 refine⟨og,aF.zo k h u _ (fun j hj=> ?_) fun i hi=> ?_⟩
 ·simp_all[BE,PU.cO]
 ·rw[BE,if_neg (by simp[PU.cO];omega)]
abbrev jG(n:Int):Nat:=0+0+n.toNat*22+11
def KP.box(k:KP)(n:Int)(b:BS):KP:=k.put n {k.u n with bx:=b}
theorem CW(k:KP)(h:0<=n/\n<20){i:Nat}(hi:i<11):aF k (jG n+i)=Sg.fu (k.u n).bx i:=by
 grind [PU.cell,aF]
theorem Ql(k:KP)(b:BS)(h:0<=n/\n<20){i:Nat}(hi:i<jG n\/jG n+11<=i):aF (k.box n b) i=aF k i:=by
 by_cases c:n.toNat*22<=i/\i<n.toNat*22+22
 ·grind [KP.box,KP.sx,PU.cell,aF]
 ·unfold aF;split
  ·grind [KP.box,KP.zQ]
  rfl
section
variable {W w:World} {S:Nat->Nat->Prop} {H F:List aK}
def XM.Bz{b o n:Nat}{C C':Nat->Value}(hC:∀ i,i<n->C i=C' i)(h:XM W S (.cells b o n C::H) w):XM W S (.cells b o n C'::H) w:=Fa.XM.Bz hC h
def jV{b:Nat}{k:KP}(hn:0<=n/\n<20)(hp:cI H [.cells b 0 453 (aF k)] F)(h:XM W S H w):XM W S (.cells b (0+jG n) 11 (Sg.fu (k.u n).bx):: .cells b 0 (jG n) (aF k):: .cells b (0+jG n+11) (453-jG n-11) (fun i=>aF k (jG n+11+i))::F) w:=by
 have LJ:jG n+11<=453:=by unfold jG;omega
 have h2:=XM.part (n:=453) (off:=jG n) (m:=11) LJ (h.b8 hp.b8);exact XM.Bz (C':=Sg.fu (k.u n).bx) (fun i hi=>CW k hn hi) h2
theorem mB{b:Nat}{k:KP}{x:BS}(hn:0<=n/\n<20)(hp:cI H [.cells b (0+jG n) 11 (Sg.fu x),.cells b 0 (jG n) (aF k),.cells b (0+jG n+11) (453-jG n-11) fun i=>aF k (jG n+11+i)] F)(h:XM W S H w):XM W S (.cells b 0 453 (aF (k.box n x))::F) w:=by
 have LJ:jG n+11<=453:=by unfold jG;omega
 refine XM.IM (n:=453) (off:=jG n) (m:=11) LJ (fun i hi=> ?_) (fun i hi=> ?_) (fun i hi=> ?_) (h.b8 hp.b8) og;all_goals grind [Ql,CW,KP.box,KP.sx]
theorem JQ(k:KP)(n:Int):k.box n (k.u n).bx=k:=AX k n
end
def KP.aI(k:KP)(n:Int):Int:=if n<0\/20<=n then 1 else if(k.u n).st=1 then 0 else 2
def bC{k:KP}(h:k.aI n=0):(0<=n/\n<20)/\(k.u n).st=1:=by
 grind [KP.aI]
def KP.mD(k:KP)(s:Sp.SS)(n q:Int):Int×Int:=
 if k.aI n≠0 then(0,k.aI n)else if(s.find (s.bI n).1 q).2≠0 then(0,(s.find (s.bI n).1 q).2)else
 if(k.u (s.find (s.bI n).1 q).1).st=1 then((s.find (s.bI n).1 q).1,0)else(0,8)
def pG{s:Sp.SS}{aO:Int->Nat}(h:s.Inv aO){a q:Int}(e:(s.find a q).2=0):(0<=(s.find a q).1/\(s.find a q).1<20)/\s.bR a q=(s.find a q).1/\(0<=a/\a<6/\s.aa a=true)/\1<=q/\q<=20:=by
 have hb:=h.Wt a q;unfold Sp.SS.find at e ⊢;split at e
 ·omega
 ·rename_i c;have hi:(0<=a/\a<6)/\s.aa a=true:=by
   have c:s.is a=0:=og;unfold Sp.SS.is at c;grind
  grind
def X1(b:BS):Array Value:= #[.int .u16 ((ph b.dY:Nat):Int),.int .u16 ((ph b.bj:Nat):Int),iI (b.kg 0),iI (b.kg 1),iI (b.kg 2),iI (b.kg 3),iI (b.kg 4),iI (b.kg 5),iI (b.kg 6),iI (b.kg 7),iI (b.kg 8)]
def JR(k:KP)(h:0<=n/\n<20):0+0+n.toNat*22+11+11<=453/\dc (aF k) (0+0+n.toNat*22+11) 11= .agg (X1 (k.u n).bx):=by
 refine⟨og,?_⟩;have e:=(mw (k.u n).bx).2;grind [X1,dc,List.map_congr_left,CW]
section
variable {W w:World} {S:Nat->Nat->Prop} {H F:List aK}
def mY{b:Nat}{k:KP}(hn:0<=n/\n<20)(hp:cI H [.cells b (0+jG n) 11 (Sg.fu (k.u n).bx),.cells b 0 (jG n) (aF k),.cells b (0+jG n+11) (453-jG n-11) fun i=>aF k (jG n+11+i)] F)(h:XM W S H w):XM W S (.cells b 0 453 (aF k)::F) w:=by
 grind [mB,JQ]
end
theorem L7{s:Sp.SS}(h:(s.drop z).1≠0):(s.drop z).2=s:=by
 unfold Sp.SS.drop at h ⊢;grind
def KP.lv(k:KP)(n h i:Int):KP:= {k with u:=fun j=>if 0<=j/\j<i/\(k.u j).st≠0/\(k.u j).aA=n then {k.u j with aA:=h} else k.u j}
theorem vK(k:KP)(n h:Int):k.lv n h 0=k:=by
 have e:(fun j=>if 0<=j/\j<0/\(k.u j).st≠0/\(k.u j).aA=n then {k.u j with aA:=h} else k.u j)=k.u:=by
  grind
 simp_all[KP.lv]
theorem iU(k:KP)(n h:Int){j:Int}(hj:i<=j):(k.lv n h i).u j=k.u j:=by
 grind [KP.lv]
theorem KP.FT(k:KP)(n h:Int)(hi:0<=i)(h1:(k.u i).st≠0)(h2:(k.u i).aA=n):(k.lv n h i).put i {(k.lv n h i).u i with aA:=h} =k.lv n h (i+1):=by
 show({k with u:=ae (k.lv n h i).u i {(k.lv n h i).u i with aA:=h}} :KP)= {k with u:=(k.lv n h (i+1)).u};have e:ae (k.lv n h i).u i {(k.lv n h i).u i with aA:=h} =(k.lv n h (i+1)).u:=by
  grind [au,ai,KP.lv]
 rw[e]
theorem mO(k:KP)(n h:Int)(hc:¬((k.u i).st≠0/\(k.u i).aA=n)):k.lv n h (i+1)=k.lv n h i:=by
 grind [KP.lv]
structure T2 (b:BS):Prop where
 z:b.dY 0=false
 e:b.first 0=0
 gF:(b.send 3).2=b
theorem T2.cP:T2 BS.cP:=⟨rfl,dk,by unfold BS.send;rw[if_pos dq,if_pos dq]⟩
def bF{α:Type}(f:Nat->α)(z:Nat)(m:α):Nat->α:=fun j=>if j=z then m else f j
theorem rS{α:Type}(f:Nat->α)(z:Nat)(m:α):bF f z m z=m:=if_pos rfl
theorem lM{α:Type}(f:Nat->α){z j:Nat}(m:α)(h:j≠z):bF f z m j=f j:=if_neg h
theorem kj{α:Type}(f:Nat->α)(z:Nat):bF f z (f z)=f:=by
 grind [bF]
theorem Qm(g:Nat->Nat)(z b:Nat):Ep g z b=bF g z b:=by
 grind [Bx,rj,bF]
abbrev cN(bb:Nat)(f:Nat->Vm.MS)(ps:Nat->Option Addr)(cs:Nat->Nat):Nat->Nat->Value:=fun j=>b6 bb (ps j) (aj (f j).aB).length (cs j) (f j).fr (f j).bu
abbrev rN(e:TypeId)(f:Nat->Vm.MS)(ps:Nat->Option Addr)(cs:Nat->Nat):Nat->pQ:=fun j=>⟨.slice (ps j) (aj (f j).aB).length (cs j),e,3,(aj (f j).aB).length,bV (fb (aj (f j).aB)) ((aj (f j).aB).length*3)⟩
theorem abN(bb:Nat)(f:Nat->Vm.MS)(ps:Nat->Option Addr)(cs:Nat->Nat)(z:Nat)(m:Vm.MS)(p:Option Addr)(c:Nat):IP (cN bb f ps cs) z (b6 bb p (aj m.aB).length c m.fr m.bu)=cN bb (bF f z m) (bF ps z p) (bF cs z c):=by
 grind [GS,GU,bF]
theorem abO(e:TypeId)(f:Nat->Vm.MS)(ps:Nat->Option Addr)(cs:Nat->Nat)(z:Nat)(m:Vm.MS)(p:Option Addr)(c:Nat):xe (rN e f ps cs) z ⟨.slice p (aj m.aB).length c,e,3,(aj m.aB).length,bV (fb (aj m.aB)) ((aj m.aB).length*3)⟩=rN e (bF f z m) (bF ps z p) (bF cs z c):=by
 grind [pt,lE,bF]
theorem T3(p:Option Addr)(c:Nat)(e:TypeId)(k:Nat)(C:Nat->Value):aS p c e 3 k C=pQ.Ce ⟨.slice p k c,e,3,k,bV C (k*3)⟩:=rfl
abbrev JS(P:Nat->Bool)(bb:Nat)(e:TypeId)(mb:Nat->Nat)(f:Nat->Vm.MS)(ps:Nat->Option Addr)(cs:Nat->Nat):List aK:=[.dN P mb 34 (cN bb f ps cs),.aV P (rN e f ps cs)]
abbrev T4(bb b:Nat)(e:TypeId)(m:Vm.MS)(p:Option Addr)(c:Nat):List aK:=[.cells b 0 34 (b6 bb p (aj m.aB).length c m.fr m.bu),aS p c e 3 (aj m.aB).length (fb (aj m.aB))]
section
variable {W w:World} {S:Nat->Nat->Prop} {H H0:List aK} {bb:Nat} {e:TypeId} {mb:Nat->Nat} {f:Nat->Vm.MS} {ps:Nat->Option Addr} {cs:Nat->Nat} {P:Nat->Bool}
def km{z:Nat}(hz:P z=true)(hp:cI H0 (JS P bb e mb f ps cs) H)(h:XM W S H0 w):XM W S (.cells (mb z) 0 34 (b6 bb (ps z) (aj (f z).aB).length (cs z) (f z).fr (f z).bu)::aS (ps z) (cs z) e 3 (aj (f z).aB).length (fb (aj (f z).aB)):: .dN (iS P z) mb 34 (cN bb f ps cs):: .aV (iS P z) (rN e f ps cs)::H) w:=by
 have h0:XM W S (.dN P mb 34 (cN bb f ps cs):: .aV P (rN e f ps cs)::H) w:=h.b8 hp.b8;have h1:=Cf z hz h0;have h2:=h1.b8 (pk [2]).b8;simp only[List.cons_append,List.nil_append]at h2;have h3:=oe z hz h2;have h4:=h3.b8 (pk [2,0,1,0]).b8;simp_all
def BF{z b:Nat}(m:Vm.MS){p:Option Addr}{c:Nat}(hz:P z=false)(hp:cI H0 (T4 bb b e m p c++JS P bb e mb f ps cs) H)(h:XM W S H0 w):XM W S (JS (Bg P z) bb e (bF mb z b) (bF f z m) (bF ps z p) (bF cs z c)++H) w:=by
 have h:XM W S (.cells b 0 34 (b6 bb p (aj m.aB).length c m.fr m.bu)::aS p c e 3 (aj m.aB).length (fb (aj m.aB)):: .dN P mb 34 (cN bb f ps cs):: .aV P (rN e f ps cs)::H) w:=h.b8 hp.b8;have h0:=h.b8 (pk [0,1]).b8;simp only[List.cons_append,List.nil_append]at h0;have h1:=Fc z og hz h0;have h2:=h1.b8 (pk [1,1]).b8;simp only[List.cons_append,List.nil_append]at h2;rw[T3]at h2;have h3:=qk z hz h2;have h4:=h3.b8 (pk [1,0]).b8;simp_all[abN,abO,Qm]
def lN{z:Nat}(m:Vm.MS){p:Option Addr}{c:Nat}(hz:P z=true)(hp:cI H0 (T4 bb (mb z) e m p c++JS (iS P z) bb e mb f ps cs) H)(h:XM W S H0 w):XM W S (JS P bb e mb (bF f z m) (bF ps z p) (bF cs z c)++H) w:=by
 have h1:=BF m (uB _ _) hp h;grind [Fb,kj]
def Qn{b z:Nat}(m:Vm.MS){p:Option Addr}{c:Nat}(hp:cI H0 (T4 bb b e m p c) H)(h:XM W S H0 w):XM W S (JS (Bg (fun _=>false) z) bb e (bF (fun _=>0) z b) (bF (fun _=>m) z m) (bF (fun _=>none) z p) (bF (fun _=>0) z c)++H) w:=by
 have h0:XM W S (T4 bb b e m p c++H) w:=h.b8 hp.b8;have h1:XM W S (.dN (fun _=>false) (fun _=>0) 34 (cN bb (fun _=>m) (fun _=>none) fun _=>0):: .aV (fun _=>false) (rN e (fun _=>m) (fun _=>none) fun _=>0):: .cells b 0 34 (b6 bb p (aj m.aB).length c m.fr m.bu)::aS p c e 3 (aj m.aB).length (fb (aj m.aB))::H) w:=Cg (Fe h0);exact BF m rfl (pk [2,2,0,0]) h1
end
structure Kid (k:KP) (mb:Nat->Nat):Prop where
 st:∀ n,0<=n->n<20->(k.u n).st=0\/(k.u n).st=1\/(k.u n).st=2
 mem:∀ n,0<=n->n<20->(k.u n).st≠0->(k.u n).mem=aC (mb n.toNat) 0 0
 kx:∀ n,(k.u n).kx=0
 fd:∀ n i,(k.u n).fd i=0
 bx:∀ n,(k.u n).bx=BS.cP
def sP(a b:Int):Nat->Value:=fun i=>if i=0 then iI a else if i=1 then iI b else undef
def sP.agg(a b:Int):0+2<=2/\dc (sP a b) 0 2= .agg #[iI a,iI b]:=⟨og,rfl⟩
theorem sP.st(a b c d:Int):0+2<=2/\cB (sP a b) 0 [iI c,iI d]=sP c d:=⟨og,by
 funext i
 match i with
 | 0=>rfl
 | 1=>rfl
 | i+2=>simp[cB,dE,sP]⟩
def sP.BG(a b:Int):0+0<2/\sP a b (0+0)=iI a:=⟨og,rfl⟩
theorem sP.box:∀ i,i<2->cellsOf #[iI 0,iI 0] i=sP 0 0 i:=fun i h=>match i,h with
 | 0,_=>rfl
 | 1,_=>rfl
 | k+2,h=>absurd h og
def T5(u:PU):0+5+6<=22/\dc u.cell (0+5) 6= .agg (RN u.fd):=⟨og,rfl⟩
def PU.agg(u:PU):0+22<=22/\dc u.cell 0 22= .agg u.cO:=by grind [dc,PU.cO]
theorem AY(u:PU){i:Nat}(h:22<=i:=by omega):u.cell i=undef:=by
 unfold PU.cell;rw[if_neg og,if_neg og,if_neg og,if_neg og,if_neg og,if_neg og];exact Jj _ og
theorem L8(u:PU):u.cO.toList.length=22:=by simp[PU.cO]
def PU.CV(v u:PU):0+22<=22/\cB v.cell 0 u.cO.toList=u.cell:=⟨og,by
 funext i
 rw[BE,L8]
 by_cases h:i<22
 ·rw[if_pos og,Nat.sub_zero]
  unfold PU.cO
  rw[List.getD_eq_getElem?_getD,List.toList_toArray,List.getElem?_map,List.getElem?_range h];rfl
 ·rw[if_neg og,AY v,AY u]⟩
theorem PU.box(u:PU):∀ i,i<22->cellsOf u.cO i=u.cell i:=fun i hi=>by
 simp_all[cellsOf,PU.cO]
section
variable {W w:World} {S:Nat->Nat->Prop} {H H0:List aK} {bb:Nat} {e:TypeId} {mb:Nat->Nat} {f:Nat->Vm.MS} {ps:Nat->Option Addr} {cs:Nat->Nat} {P:Nat->Bool}
def oW{z:Nat}(hz:P z=true)(hp:cI H0 (T4 bb (mb z) e (f z) (ps z) (cs z)++JS (iS P z) bb e mb f ps cs) H)(h:XM W S H0 w):XM W S (JS P bb e mb f ps cs++H) w:=by
 have h1:=lN (f z) hz hp h;simp_all[kj]
end
def KP.gF(k:KP)(n:Int)(nb:Nat):PU:=⟨1,n,(k.u n).kx,0,aC nb 0 0,(k.u n).fd,(k.u n).bx.bA⟩
def tM(k:KP)(h:0<=z/\z<6)(v:Value):0+447+z.toNat*1<453/\dE (aF k) (0+447+z.toNat*1) v=aF {k with ms:=ae k.ms z v} :=⟨og,by
 funext i
 unfold dE
 by_cases c:i=0+447+z.toNat*1
 ·rw[if_pos c,c]
  have:=(JO {k with ms:=ae k.ms z v} h).2
  rw[this]
  exact(au _ _ _).symm
 ·rw[if_neg c]
  unfold aF
  refine gW (fun _=>rfl) fun c0=>gW (fun _=>rfl) fun c1=>gW (fun _=>rfl) fun c2=>gW (fun _=>rfl) fun c3=>gW (fun _=>rfl) fun c4=>gW (fun _=>rfl) fun c5=>gW (fun _=>rfl) fun c6=>gW (fun _=>rfl) fun c7=>gW (fun c8=> ?_) fun _=>rfl
  show k.ms ((i-447:Nat):Int)=ae k.ms z v ((i-447:Nat):Int)
  rw[ai _ _ og]⟩
def KP.raw(gb sb qb bb tb pi:Nat):KP:=⟨fun _=>PU.nil,gb,sb,qb,bb,tb,pi,0,fun _=>.pointer none⟩
def xZ(k:KP)(i:Nat):Value:=if i=446 then .pointer none else aF k i
def FU(k:KP):Array Value:=((List.range 453).map (xZ k)).toArray
def L9(k:KP):(FU k).size=453:=by simp[FU]
def Qo(k:KP):∀ i,i<453->cellsOf (FU k) i=xZ k i:=fun i hi=>by simp[cellsOf,FU,hi]
def xZ.Bn(k:KP):0+444<453/\xZ k (0+444)=aC k.tb 0 0:=⟨og,rfl⟩
def JT(k:KP):0+445<453/\xZ k (0+445)=aC k.pi 0 0:=⟨og,rfl⟩
def Ma(k:KP)(b:Nat):0+446<453/\dE (xZ k) (0+446) (aC b 0 0)=aF {k with ob:=b} :=by grind [dE,xZ,aF]
def CX(mb:Nat):PU:=⟨1,-1,0,0,aC mb 0 0,fun _=>0,BS.cP⟩
structure aae (k:KP) (mb:Nat):Prop where
 u:k.u=ae (fun _=>PU.nil) 0 (CX mb)
def dK:Int->Nat:=ae (fun _=>0) (10+0) (0+1)
def Q1:Fa.SF:=Fa.SF.cP.sG 0 0 100
def Q2:Fa.SF:=Q1.fU dK 0 true
theorem qA:Fa.SF.cP.lG 0 0 100=0:=dk
def aaf:Q1.Ok dK 1 0:=by
 have e:Q1=Fa.SF.cP.pT (10+0) 0 100 true:=by unfold Q1 Fa.SF.sG;rw[qA];rfl
 rw[e];exact Fa.SF.NQ.add og ⟨og,og⟩ dk ⟨og,og,dk⟩ og
def CY:Q2.Ok dK 1 0:=aaf.fU 0 true
theorem X2:(Q2.l6 dK).1=0:=dk
def abP:(Q2.l6 dK).2.Ok dK 1 1:=CY.l6 og og
def G0:Gr.TG:=Gr.TG.cP.cv 0 1 0
def S0:Sp.SS:=(Sp.SS.cP.enter (fun _=>1) 0 0).2.2
end Go.X.Kn

namespace Go.X.Vm
open Go Go.X
variable{w:Bool}{a i n:Int}
theorem FV{m:MS}(h:gw a n):m.pZ a n=1:=by unfold MS.pZ;rw[if_pos h]
def Qp{m:MS}(hb:¬gw a n)(hi:a<=i/\i<a+n)(h:m.aB i≠0):m.pZ a n=3:=by
 grind [MS.pZ,zL]
def Qq{m:MS}(hb:¬gw a n)(h:∀ j,a<=j->j<a+n->m.aB j=0):m.pZ a n=0:=by
 grind [MS.pZ,wF]
theorem CZ{m:MS}(h:gw a n):m.kL a n=1:=by unfold MS.kL;rw[if_pos h]
def JU{m:MS}(hb:¬gw a n)(hi:a<=i/\i<a+n)(h:m.aB i=0):m.kL a n=10:=by
 grind [MS.kL,zL]
def Mb{m:MS}(hb:¬gw a n)(h:∀ j,a<=j->j<a+n->m.aB j≠0):m.kL a n=0:=by
 grind [MS.kL,wF]
theorem FW{m:MS}(h:m.pZ a n≠0):m.map a n w=m:=by grind [MS.map]
theorem Mc{m:MS}(h:m.pZ a n=0):m.map a n w=m.lay a n w:=by grind [MS.map]
theorem C4{m:MS}(h:m.kL a n≠0):m.nA a n w=m:=by grind [MS.nA]
theorem JV{m:MS}(h:m.kL a n=0):m.nA a n w=m.lay a n w:=by grind [MS.nA]
def T6{l:List RG}{f:Int->Int}(hl:oQ l f 16)(hn:0<n)(h:∀ j,a<=j->j<a+n->f j=0):∀ r∈l,r.fr+r.n<=a\/a+n<=r.fr:=fun r hr=>by
 have hb:=hl.b r hr;by_cases c:r.fr+r.n<=a\/a+n<=r.fr
 ·omega
 ·have:=hl.h1 r hr (max r.fr a) ⟨og,og⟩;grind [N2]
def C5(l:List RG)(a n:Int):(l.flatMap (lY a n)).length<=2*l.length:=by
 induction l with
 | nil=>simp
 | cons r l ih=>rw[List.flatMap_cons,List.length_append,List.length_cons];have:=N8 a n r;omega
theorem T7(f:Int->Int):nX f []=f:=by funext i;simp[nX]
theorem T8(f:Int->Bool):ek f []=f:=by funext i;simp[ek]
theorem rU{v:VB}{m:MS}(hb:gw a n):m.fJ v a n=(0,1,v,m):=by grind [MS.fJ]
def JW(v:VB){m:MS}(hm:m.Ok)(hb:¬gw a n):m.fJ v a n=((tH v m.fr (kM (fun i=>m.aB i != 0) a n.toNat)).1,0,(tH v m.fr (kM (fun i=>m.aB i != 0) a n.toNat)).2,⟨gR m.aB a n 0,nX m.fr (kM (fun i=>m.aB i != 0) a n.toNat),ek m.bu (kM (fun i=>m.aB i != 0) a n.toNat)⟩):=by
 unfold MS.fJ;have Cc:=hb;unfold gw at Cc;have hz:∀ i,i∉kM (fun i=>m.aB i != 0) a n.toNat->a<=i/\i<a+n->m.aB i=0:=fun i h1 h2=>by
  grind [ov]
 have hs:∀ i,i∈kM (fun i=>m.aB i != 0) a n.toNat->a<=i/\i<a+n:=fun i h=>by
  grind [ov]
 have e1:gR m.fr a n 0=nX m.fr (kM (fun i=>m.aB i != 0) a n.toNat):=by
  grind [gR,nX,MS.Ok.un]
 have e2:gR m.bu a n false=ek m.bu (kM (fun i=>m.aB i != 0) a n.toNat):=by
  grind [gR,ek,MS.Ok.ow,MS.Ok.un]
 grind [JF,MS.Ok.un]
def lg{m:MS}(h:m.y8 a w=true):0<=a/\a<128:=by
 grind [MS.y8]
theorem jc{m:MS}(h:¬(0<=a/\a<128):=by omega):m.y8 a w=false:=by
 grind [MS.y8]
theorem oy{m:MS}(hm:m.Ok){k:Int}(hk:atP (aj m.aB) (a/8) k)(ha:0<=a/\a<128:=by omega):m.y8 a w=(decide (0<=k)&&(!w||(bD (aj m.aB) k).w)):=by
 obtain⟨h1,h2⟩:=tG hm.f hk;unfold MS.y8;rw[decide_eq_true ha];by_cases c:k<0
 ·grind
 ·rw[(h2 og).2,decide_eq_true og];cases w<;>cases (bD (aj m.aB) k).w<;>rfl
theorem pH{m:MS}(hm:m.Ok){k:Int}(hk:atP (aj m.aB) (a/8) k)(ha:0<=a/\a<128:=by omega):m.tJ a=(decide (0<=k)&&decide (m.fr (a/8)-1<0)):=by
 unfold MS.tJ;rw[oy hm hk ha];have:=hm.lo (a/8);grind
def AZ{v:VB}(h:¬v.take.2.1=0):v.take.1=0/\v.take.2.2=v:=by
 grind [VB.lJ,mA]
theorem Me{v:VB}(h:v.take.2.1=0):v.take.2.2.rf=ae v.rf v.take.1 1/\v.take.2.2.iq=Bm v.iq v.take.1 (fun _=>0):=by
 grind [VB.lJ,mA]
def VB.Ok.copy{v:VB}(h:v.Ok)(f g:Int):(v.copy f g).Ok:=⟨h.bb,h.rf,fun x j=>by
 show 0<=Bm v.iq f (v.iq g) x j/\Bm v.iq f (v.iq g) x j<256
 unfold Bm;split
 ·exact h.iq g j
 ·exact h.iq x j⟩
def A1{v:VB}(h:v.take.2.1=0){f:Int}(hf:1<v.rf f):1<=v.take.2.2.rf f:=by
 rw[(Me h).1];unfold ae;split<;>omega
theorem ic{v:VB}{m:MS}(h:m.y8 a w=false):m.cw v a w=(0,10,v,m):=by grind [MS.cw]
theorem ie{v:VB}{m:MS}(h:m.y8 a w=true)(h0:m.fr (a/8)=0)(e:v.take.2.1=0):m.cw v a w=(v.take.1,0,v.take.2.2,m.CM (a/8) v.take.1):=by
 grind [MS.cw]
theorem fm{v:VB}{m:MS}(h:m.y8 a w=true)(h0:m.fr (a/8)=0)(e:¬v.take.2.1=0):m.cw v a w=(0,v.take.2.1,v,m):=by
 grind [MS.cw]
theorem cZ{v:VB}{m:MS}(h:m.y8 a w=true)(h0:¬m.fr (a/8)=0)(q:w=false\/m.bu (a/8)=true):m.cw v a w=(m.fr (a/8)-1,0,v,m):=by
 grind [MS.cw]
theorem MS.ko{v:VB}{m:MS}(h:m.y8 a w=true)(h0:¬m.fr (a/8)=0)(q:w=true)(q2:m.bu (a/8)=false)(r:v.rf (m.fr (a/8)-1)<=1):m.cw v a w=(m.fr (a/8)-1,0,v,{m with bu:=ae m.bu (a/8) true}):=by
 grind [MS.cw]
theorem fV{v:VB}{m:MS}(h:m.y8 a w=true)(h0:¬m.fr (a/8)=0)(q:w=true)(q2:m.bu (a/8)=false)(r:1<v.rf (m.fr (a/8)-1))(e:¬v.take.2.1=0):m.cw v a w=(0,v.take.2.1,v,m):=by
 grind [MS.cw]
theorem fE{v:VB}{m:MS}(h:m.y8 a w=true)(h0:¬m.fr (a/8)=0)(q:w=true)(q2:m.bu (a/8)=false)(r:1<v.rf (m.fr (a/8)-1))(e:v.take.2.1=0):m.cw v a w=(v.take.1,0,(v.take.2.2.copy v.take.1 (m.fr (a/8)-1)).drop (m.fr (a/8)-1),m.CM (a/8) v.take.1):=by
 grind [MS.cw]
def MS.pI(v:VB)(m:MS)(a:Int)(w:Bool):(m.y8 a w=false/\m.cw v a w=(0,10,v,m))\/(m.y8 a w=true/\((¬v.take.2.1=0/\m.cw v a w=(0,v.take.2.1,v,m))\/(m.fr (a/8)=0/\v.take.2.1=0/\m.cw v a w=(v.take.1,0,v.take.2.2,m.CM (a/8) v.take.1))\/(¬m.fr (a/8)=0/\(w=false\/m.bu (a/8)=true)/\m.cw v a w=(m.fr (a/8)-1,0,v,m))\/(¬m.fr (a/8)=0/\v.rf (m.fr (a/8)-1)<=1/\w=true/\m.cw v a w=(m.fr (a/8)-1,0,v,{m with bu:=ae m.bu (a/8) true}))\/(¬m.fr (a/8)=0/\v.take.2.1=0/\1<v.rf (m.fr (a/8)-1)/\w=true/\m.cw v a w=(v.take.1,0,(v.take.2.2.copy v.take.1 (m.fr (a/8)-1)).drop (m.fr (a/8)-1),m.CM (a/8) v.take.1)))):=by
 cases h:m.y8 a w with
 | false=>exact .inl ⟨rfl,ic h⟩
 | true=>
  refine .inr ⟨rfl,?_⟩;by_cases h0:m.fr (a/8)=0
  ·grind [MS.cw]
  ·grind [cZ,MS.ko,fE,fV]
def MS.ya(v:VB)(m:MS)(a:Int)(w:Bool):(m.cw v a w).2.2.2.aB=m.aB:=by
 rcases MS.pI v m a w with⟨_,e⟩ | ⟨_,⟨_,e⟩ | ⟨_,_,e⟩ | ⟨_,_,e⟩ | ⟨_,_,_,e⟩ | ⟨_,_,_,_,e⟩⟩<;>(rw[e];try rfl)
def yb{v:VB}{m:MS}(hv:v.Ok)(hm:m.Ok)(h:(m.cw v a w).2.1=0):(0<=(m.cw v a w).1/\(m.cw v a w).1<64)/\0<=a/\a<128:=by
 have hl:=hm.lo (a/8);rcases MS.pI v m a w with⟨_,e⟩ | ⟨hr,⟨q,e⟩ | ⟨_,q,e⟩ | ⟨_,_,e⟩ | ⟨_,_,_,e⟩ | ⟨_,q,_,_,e⟩⟩
 ·simp_all
 ·simp_all
 ·rw[e];exact⟨pF hv q,lg hr⟩
 ·rw[e];exact⟨og,lg hr⟩
 ·rw[e];exact⟨og,lg hr⟩
 ·rw[e];exact⟨pF hv q,lg hr⟩
theorem VB.Ok.cw{v:VB}{m:MS}(hv:v.Ok)(a:Int)(w:Bool):(m.cw v a w).2.2.1.Ok:=by
 rcases MS.pI v m a w with⟨_,e⟩ | ⟨_,⟨_,e⟩ | ⟨_,_,e⟩ | ⟨_,_,e⟩ | ⟨_,_,_,e⟩ | ⟨_,q,r,_,e⟩⟩<;>rw[e]
 ·omega
 ·omega
 ·exact hv.take
 ·omega
 ·omega
 ·exact(hv.take.copy _ _).drop (A1 q r)
def T9(rf fr:Int->Int):∀ (k:Nat) (g:Int),rf g<=xV rf fr k g/\xV rf fr k g<=rf g+k
 | 0,g=>by simp[xV]
 | k+1,g=>by
  have:=T9 rf fr k g;rw[xV];split;all_goals grind [ae]
theorem JX{rf fr:Int->Int}(h:0<=i):xV rf fr (i+1).toNat=if 0<fr i then ae (xV rf fr i.toNat) (fr i-1) (xV rf fr i.toNat (fr i-1)+1)else xV rf fr i.toNat:=by
 rw[show(i+1).toNat=i.toNat+1 from og,xV,show((i.toNat:Nat):Int)=i from og]
def wG{α:Type}(f g:Int->α)(i:Int):Int->α:=fun j=>if 0<=j/\j<i then f j else g j
theorem uX{α:Type}{f g:Int->α}(h:0<=i){v:α}(e:f i=v:=by omega):ae (wG f g i) i v=wG f g (i+1):=by
 grind [ae,wG]
theorem jt(f:Int->Bool)(i:Int){v:Bool}(h:f i=v):ae f i v=f:=by
 grind [ae]
theorem MS.C6{v:VB}{m:MS}(h:¬(m.cw v a false).2.1=0):m.load v a=(0,(m.cw v a false).2.1,(m.cw v a false).2.2):=by grind [MS.load]
theorem MS.Hr{v:VB}{m:MS}(h:(m.cw v a false).2.1=0):m.load v a=((m.cw v a false).2.2.1.iq (m.cw v a false).1 (a%8),0,(m.cw v a false).2.2):=by grind [MS.load]
theorem MS.FX{v:VB}{m:MS}{b:Int}(h:¬(m.cw v a true).2.1=0):m.store v a b=((m.cw v a true).2.1,(m.cw v a true).2.2):=by grind [MS.store]
theorem MS.C7{v:VB}{m:MS}{b:Int}(h:(m.cw v a true).2.1=0):m.store v a b=(0,⟨(m.cw v a true).2.2.1.bb,cr (m.cw v a true).2.2.1.iq (m.cw v a true).1 (a%8) b,(m.cw v a true).2.2.1.rf⟩,(m.cw v a true).2.2.2):=by grind [MS.store]
theorem FY{α:Type}(f g:Int->α):wG f g 0=g:=by grind [wG]
def zNs(b:Nat)(p:Option Addr)(n c:Nat):List Value:=aC b 0 0:: .slice p n c::(List.replicate 16 [Value.int .i64 0,Value.bool false]).flatten
def X3(b:Nat)(p:Option Addr)(n c:Nat):∀ i,i<34->cellsOf (zNs b p n c).toArray i=b6 b p n c (fun _=>1) (fun _=>false) i:=fun i hi=>by
 unfold cellsOf zNs;by_cases h1:i=1
 ·subst h1;rfl
 ·have e:=TT b i hi;unfold cellsOf zNl at e;rw[Array.getD_eq_getD_getElem?,List.getElem?_toArray]at e ⊢;grind [b6]
def Qr{α:Type}(f:Int->α)(a:Int)(v:α):gR f a (a-a) v=f:=by grind [gR]
def Qs{α:Type}{f:Int->α}{v u:α}(h:a<=i)(e:u=v):ae (gR f a (i-a) v) i u=gR f a (i+1-a) v:=by
 grind [ae,gR]
theorem zR{α:Type}(f:Int->α)(i:Int)(u v:α):ae (ae f i u) i v=ae f i v:=by
 grind [ae]
end Go.X.Vm
