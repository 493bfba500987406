import Derived.Test.YthdinakloheinaaGreatDoorkGM
import Derived.Test.YthdinakloheinaaGreatDoorkVN
set_option linter.all false
namespace Go.X.Gr
open Go Go.X
variable{a n:Int}{s:TG}
theorem fI{f g:Int->Int} :∀ (k:Nat),(∀ j:Int,0<=j->j<k->f j=g j)->eC f k=eC g k
 | 0,_=>rfl
 | k+1,h=>by
  simp only[eC];rw[fI k fun j h0 h1=>h j h0 og,h (k:Int) og og]
theorem Db(f g:Int->Int):∀ (k:Nat),eC (fun j=>f j+g j) k=eC f k+eC g k
 | 0=>rfl
 | k+1=>by simp only[eC];rw[Db f g k];omega
theorem JS(p:Int)(f:Int->Int):∀ (k:Nat),eC (fun j=>p*f j) k=p*eC f k
 | 0=>by simp[eC]
 | k+1=>by simp only[eC];rw[JS p f k,Int.mul_add]
theorem jF{f:Int->Int} :∀ (k:Nat),(∀ j:Int,0<=j->j<k->f j=0)->eC f k=0
 | 0,_=>rfl
 | k+1,h=>by
  simp only[eC];rw[jF k fun j h0 h1=>h j h0 og,h (k:Int) og og];rfl
def B1{f:Int->Int} :∀ (k:Nat),(∀ j:Int,0<=j->j<k->0<=f j)->0<=eC f k
 | 0,_=>Int.le_refl 0
 | k+1,h=>by
  have h1:=B1 k fun j h0 h1=>h j h0 og;grind [eC]
theorem Bb(v n:Int)(h0:0<=n):∀ (k:Nat),eC (fun j=>if j=n then v else 0) k=if n<k then v else 0
 | 0=>by simp only[eC];rw[if_neg og]
 | k+1=>by
  simp only[eC];rw[Bb v n h0 k];by_cases h:(k:Int)=n
  ·rw[if_neg og,if_pos h,if_pos og];omega
  ·rw[if_neg h];by_cases h2:n<k
   ·rw[if_pos h2,if_pos og];omega
   ·rw[if_neg h2,if_neg og];omega
namespace TG
theorem JT(h:s.Ok)(h0:0<=n)(h1:n<10)(h2:s.aa n=true)(h3:n≠0):0<=s.aD n/\s.aD n<10/\s.aa (s.aD n)=true:=by
 grind [Ok.vP]
structure Inv (s:TG):Prop where
 ok:s.Ok
 aX:∀ n,0<=n->n<10->s.aa n=true->0<=s.left s.pr n/\0<=s.left s.pg n
def aaN(h:s.Ok){f:Int->Int}(ho:∀ n,0<=n->n<10->s.aa n=true->0<=s.left f n)(h0:0<=n)(h1:n<10)(h2:s.aa n=true):0<=f n:=by
 obtain⟨d,d0,hd⟩:=h.vP;have iD:∀ (k:Nat) (n:Int),0<=n->n<10->s.aa n=true->4-d n<=k->0<=f n:=by
  intro k;induction k with
  | zero=>
   intro n h0 h1 h2 hk;have h3:=ho n h0 h1 h2;unfold left at h3;rw[jF 10 (fun j j0 j1=>by
    unfold ie
    refine if_neg fun q=> ?_
    have h4:=hd j j0 og q.1
    have h5:=hd n h0 h1 h2
    by_cases hj:j=0
    ·subst hj
     have:=h.tW.2
     rw[q.2]at this;omega
    ·have:=(h4.2.2 hj).2.2.2
     rw[q.2]at this;omega)]at h3
   omega
  | succ k ih=>
   intro n h0 h1 h2 hk;have h3:=ho n h0 h1 h2;unfold left at h3;have h6:=B1 (f:=s.ie f n) 10 (fun j j0 j1=>by
    unfold ie
    split
    ·rename_i q
     have h4:=hd j j0 og q.1
     refine ih j j0 og q.1 ?_
     by_cases hj:j=0
     ·subst hj
      have:=h.tW.2
      rw[q.2]at this;omega
     ·have:=(h4.2.2 hj).2.2.2
      rw[q.2]at this;omega
    ·omega)
   omega
 exact iD 4 n h0 h1 h2 og
def Inv.nn(h:s.Inv)(h0:0<=n)(h1:n<10)(h2:s.aa n=true):0<=s.pr n/\0<=s.pg n:=
 ⟨aaN h.ok (fun n a b c=>(h.aX n a b c).1) h0 h1 h2,aaN h.ok (fun n a b c=>(h.aX n a b c).2) h0 h1 h2⟩
def FY{s:TG} :∀ (l:List Int) (n x:Int),tY s.aD n l->(∀ y∈l,s.aa y=true)->0<=x->
  (l.count x:Int)-eC (fun k=>if s.aa k=true/\s.aD k=x then(l.count k:Int)else 0) 10=if x=n then 1 else 0
 | [],n,x,hw,_,hx=>by
  have hn:n<0:=hw;rw[jF 10 fun j _ _=>sq];grind
 | y::r,n,x,hw,hh,hx=>by
  obtain⟨e1,h0,h1,h2⟩:=hw;subst e1;have ih:=FY r (s.aD y) x h2 (fun z hz=>hh z (List.mem_cons_of_mem _ hz)) hx;have hy:=hh y sq;have e2:eC (fun k=>if s.aa k=true/\s.aD k=x then((y::r).count k:Int)else 0) 10=eC (fun k=>if s.aa k=true/\s.aD k=x then(r.count k:Int)else 0) 10+eC (fun k=>if k=y then(if s.aD y=x then 1 else 0)else 0) 10:=by
   rw[<-Db];grind
  rw[e2,Bb _ _ h0,if_pos og];grind
def yr(h:s.Ok)(h0:0<=n)(h1:n<10)(h2:s.aa n=true)(f:Int->Int)(p:Int){x:Int}(hx:0<=x):s.left (fun y=>f y+p*((s.dm n).count y:Int)) x=s.left f x+if x=n then p else 0:=by
 obtain⟨w1,_,w3⟩:=h.dm h0 h1 h2;have hc:=FY (s:=s) (s.dm n) n x w1 w3 hx;unfold left;have e:eC (s.ie (fun y=>f y+p*((s.dm n).count y:Int)) x) 10=eC (s.ie f x) 10+p*eC (fun k=>if s.aa k=true/\s.aD k=x then((s.dm n).count k:Int)else 0) 10:=by
  rw[<-JS,<-Db];refine fI 10 fun j _ _=> ?_;grind [ie]
 grind
theorem Inv.lay{s:TG}(h:s.Inv){n:Int}(h0:0<=n)(h1:n<10)(h2:s.aa n=true){p m:Int}(hp:0<=s.left s.pr n+p)(hm:0<=s.left s.pg n+m):(s.lay (s.dm n) p m).Inv:=by
 refine⟨h.ok.lay _ _ _,fun x x0 x1 x2=> ?_⟩;have a:=yr h.ok h0 h1 h2 s.pr p x0;have b:=yr h.ok h0 h1 h2 s.pg m x0;have c:=h.aX x x0 x1 x2;have a2:(s.lay (s.dm n) p m).left (s.lay (s.dm n) p m).pr x=s.left s.pr x+if x=n then p else 0:=a
 have b2:(s.lay (s.dm n) p m).left (s.lay (s.dm n) p m).pg x=s.left s.pg x+if x=n then m else 0:=b
 rw[a2,b2];by_cases hx:x=n
 ·subst hx;rw[if_pos rfl,if_pos rfl];exact⟨hp,hm⟩
 ·rw[if_neg hx,if_neg hx];omega
def Inv.bE{s:TG}(h:s.Inv)(n p m:Int):(s.bE n p m).Inv:=by
 unfold TG.bE;split
 ·rename_i h0;obtain⟨⟨n0,n1,n2⟩,p0,p1,m0,m1⟩:=vj h0;have:=h.aX n n0 n1 n2;exact h.lay n0 n1 n2 og og
 ·exact h
def Mw{p m:Int}(h:s.fP n p m=0):p<=s.left s.pr n/\m<=s.left s.pg n:=by
 grind [fP]
theorem Inv.dz{s:TG}(h:s.Inv)(n p m:Int):(s.dz n p m).Inv:=by
 unfold TG.dz;split
 ·rename_i h0;obtain⟨⟨n0,n1,n2⟩,p0,p1,m0,m1⟩:=ya h0;have:=Mw h0;exact h.lay n0 n1 n2 og og
 ·exact h
def Inv.move{s:TG}(h:s.Inv)(a b p m:Int):(s.move a b p m).Inv:=by
 unfold TG.move;split
 ·exact h
 ·split
  ·exact(h.dz _ _ _).bE _ _ _
  ·exact h
def Inv.jC{s:TG}(h:s.Inv)(n p m:Int):(s.jC n p m).Inv:=by
 unfold TG.jC;split
 ·exact⟨⟨h.ok.tW,h.ok.vP⟩,h.aX⟩
 ·exact h
def Mx(h:s.tZ a=0):s.cF a=0/\¬(s.dm a).length=4/\0<=s.jS a/\s.jS a<10/\s.aa (s.jS a)=false/\s.free=some (s.jS a).toNat:=by
 have h':=h;unfold tZ at h;split at h
 ·omega
 ·split at h
  ·omega
  ·split at h
   ·omega
   ·rename_i h1 h2 h3;cases hf:s.free with
    | none=>exact absurd hf h3
    | some k=>
     have e:s.jS a=(k:Int):=by unfold jS;rw[if_pos h',hf];rfl
     have Sq:=hf;unfold free dS at Sq;rw[List.find?_range_eq_some]at Sq;have hk:k<10:=by simpa using Sq.2.1
     have hh:s.aa (k:Int)=false:=by simpa using Sq.1
     rw[e];exact⟨og,h2,og,og,hh,sq⟩
theorem Ok.len(h:s.Ok){d:Int->Nat}(d0:d 0=1)(hd:∀ n,0<=n->n<10->s.aa n=true->1<=d n/\d n<=4/\(n≠0->0<=s.aD n/\s.aD n<10/\s.aa (s.aD n)=true/\d n=d (s.aD n)+1))(h0:0<=n)(h1:n<10)(h2:s.aa n=true):(s.dm n).length=d n:=
 (h.Um 5 (d n) (by have:=(hd n h0 h1 h2).2.1;omega) d d0 hd n h0 h1 h2 rfl).2.1
theorem Ok.put{s:TG}(h:s.Ok){a k:Int}(ha:s.cF a=0)(hl:¬(s.dm a).length=4)(k0:0<=k)(k1:k<10)(hk:s.aa k=false):(s.put k a).Ok:=by
 obtain⟨a0,a1,a2⟩:=lY ha;obtain⟨d,d0,hd⟩:=h.vP;have hlen:=h.len d0 hd a0 a1 a2;have hda:=hd a a0 a1 a2;have hk0:k≠0:=fun e=>by subst e;rw[h.tW.1]at hk;cases hk
 have hka:a≠k:=fun e=>by subst e;rw[a2]at hk;cases hk
 refine⟨⟨?_,?_⟩,fun x=>if x=k then d a+1 else d x,?_,fun n n0 n1 n2=> ?_⟩
 ·show ad s.aa k true 0=true;grind [ae]
 ·show ad s.aD k a 0= -1;grind [ae,Ok.tW]
 ·grind
 ·have e1:(s.put k a).aD n=ad s.aD k a n:=rfl;have e2:∀ x,(s.put k a).aa x=ad s.aa k true x:=fun _=>rfl;grind [aj,ae]
theorem yt(h:s.Ok){k:Int}(hk:s.aa k=false)(f:Int->Int){x:Int}(hx:s.aa x=true):(s.put k a).left (ad f k 0) x=s.left f x:=by
 have hxk:x≠k:=fun e=>by subst e;rw[hx]at hk;cases hk
 unfold left;rw[ae _ _ hxk];congr 1;refine fI 10 fun j j0 j1=> ?_;unfold ie;show(if ad s.aa k true j=true/\ad s.aD k a j=x then ad f k 0 j else 0)=_;grind [ad]
theorem yv(h:s.Ok){k:Int}(hk:s.aa k=false)(hk0:0<=k)(hka:a≠k)(f:Int->Int):(s.put k a).left (ad f k 0) k=0:=by
 unfold left;rw[aj,jF]
 ·rfl
 ·intro j j0 j1;unfold ie;show(if ad s.aa k true j=true/\ad s.aD k a j=k then ad f k 0 j else 0)=0;grind [Ok.tW,JT,ad]
theorem Inv.add{s:TG}(h:s.Inv)(a:Int):(s.add a).Inv:=by
 unfold TG.add;split
 ·rename_i h0;obtain⟨e1,e2,e3,e4,e5,_⟩:=Mx h0;have tq:=h.ok.put e1 e2 e3 e4 e5;refine⟨tq,fun x x0 x1 x2=> ?_⟩;show 0<=(s.put (s.jS a) a).left (ad s.pr (s.jS a) 0) x/\0<=(s.put (s.jS a) a).left (ad s.pg (s.jS a) 0) x;by_cases hx:x=s.jS a
  ·have ha:a≠s.jS a:=fun e=>by
    have:=(lY e1).2.2;rw[e,e5]at this;cases this
   rw[hx,yv h.ok e5 e3 ha,yv h.ok e5 e3 ha];omega
  ·have wE:s.aa x=true:=by
    have:(s.put (s.jS a) a).aa x=ad s.aa (s.jS a) true x:=rfl;rw[this,ae _ _ hx]at x2;exact x2
   rw[yt h.ok e5 _ wE,yt h.ok e5 _ wE];exact h.aX x x0 x1 wE
 ·exact h
def Ae(h:s.dp n=0):s.cF n=0/\n≠0/\¬ 0<s.pr n/\¬ 0<s.pg n/\s.Hg n=false:=by
 grind [dp]
theorem UQ(h:s.Hg n=false){j:Int}(j0:0<=j)(j1:j<10)(j2:s.aa j=true):s.aD j≠n:=fun e=>by
 grind [Ov]
theorem Ok.drop{t:TG}(h:s.Ok)(hn:n≠0)(hk:s.Hg n=false)(hh:t.aa=ad s.aa n false)(hp:∀ x,x≠n->t.aD x=s.aD x):t.Ok:=by
 obtain⟨d,d0,hd⟩:=h.vP;refine⟨⟨by rw[hh,ae _ _ (Ne.symm hn)];exact h.tW.1,by rw[hp 0 (Ne.symm hn)];exact h.tW.2⟩,d,d0,fun x x0 x1 x2=> ?_⟩;have hx:x≠n:=fun e=>by subst e;rw[hh,aj]at x2;cases x2
 rw[hh,ae _ _ hx]at x2;have h4:=hd x x0 x1 x2;rw[hp x hx];refine⟨h4.1,h4.2.1,fun q=> ?_⟩;obtain⟨p0,p1,p2,p3⟩:=h4.2.2 q;refine⟨p0,p1,?_,p3⟩;rw[hh,ae _ _ (UQ hk x0 x1 x2)];exact p2
def Inv.dG{s:TG}(h:s.Inv)(n:Int):(s.dG n).Inv:=by
 unfold TG.dG;split
 ·rename_i h0;obtain⟨e1,e2,e3,e4,e5⟩:=Ae h0;obtain⟨n0,n1,n2⟩:=lY e1;have hnn:=h.nn n0 n1 n2;refine⟨h.ok.drop (t:=s.Et n) e2 e5 rfl fun x hx=>ae _ _ hx,fun x x0 x1 x2=> ?_⟩;have hx:x≠n:=fun e=>by
   subst e;have:(s.Et x).aa x=ad s.aa x false x:=rfl;rw[this,aj]at x2;cases x2
  have x3:s.aa x=true:=by
   have:(s.Et n).aa x=ad s.aa n false x:=rfl;rw[this,ae _ _ hx]at x2;exact x2
  have iD:∀ f:Int->Int,f n=0->(s.Et n).left (ad f n 0) x=s.left f x:=fun f hf=>by
   unfold left;rw[ae _ _ hx];congr 1;refine fI 10 fun j j0 j1=> ?_;unfold ie;show(if ad s.aa n false j=true/\ad s.aD n 0 j=x then ad f n 0 j else 0)=_;by_cases hj:j=n
   ·subst hj;rw[aj];simp[hf]
   ·rw[ae _ _ hj,ae _ _ hj,ae _ _ hj]
  have h9:=h.aX x x0 x1 x3;show 0<=(s.Et n).left (ad s.pr n 0) x/\0<=(s.Et n).left (ad s.pg n 0) x;rw[iD _ og,iD _ og];exact h9
 ·exact h
theorem Af(n:Int):TG.cC.aa n=decide (n=0):=by
 rfl
theorem Inv.cC:TG.cC.Inv:=by
 have hh:∀ n:Int,TG.cC.aa n=true->n=0:=fun n h=>by rw[Af]at h;simpa using h
 refine⟨⟨⟨by rw[Af];rfl,rfl⟩,fun _=>1,rfl,fun n n0 n1 n2=> ?_⟩,fun n n0 n1 n2=> ?_⟩
 ·grind
 ·have:=hh n n2;subst this;decide+kernel
theorem bV.cC:TG.cC.bV 0:=fun n h0 h1=>by
 have:n=0\/n=1\/n=2\/n=3\/n=4\/n=5\/n=6\/n=7\/n=8\/n=9:=og;rcases this with rfl | rfl | rfl | rfl | rfl | rfl | rfl | rfl | rfl | rfl<;>decide+kernel
theorem bV.add{s:TG}{B:Int}(h:s.bV B)(hB:0<=B)(a:Int):(s.add a).bV B:=by
 unfold TG.add;split
 ·intro n h0 h1;show-B<=ad s.pr _ 0 n/\ad s.pr _ 0 n<=B/\ -B<=ad s.pg _ 0 n/\ad s.pg _ 0 n<=B;grind [ad,bV]
 omega
def bV.dG{s:TG}{B:Int}(h:s.bV B)(hB:0<=B)(a:Int):(s.dG a).bV B:=by
 unfold TG.dG;split
 ·intro n h0 h1;show-B<=ad s.pr _ 0 n/\ad s.pr _ 0 n<=B/\ -B<=ad s.pg _ 0 n/\ad s.pg _ 0 n<=B;grind [ad,bV]
 omega
def bV.jC{s:TG}{B:Int}(h:s.bV B)(n p m:Int):(s.jC n p m).bV B:=by
 unfold TG.jC;split<;>exact h
def bV.move{s:TG}{B:Int}(h:s.bV B)(hO:s.Ok)(a b p m:Int):(s.move a b p m).bV (B+640):=by
 unfold TG.move;split
 ·grind [bV]
 ·split
  ·exact((h.dz hO a p m).bE hO.dz b p m).mono og
  grind [bV]
end TG
end Go.X.Gr

namespace Go.X.Kn
open Go Go.X Go.X.Sg Go.X.Vm
variable{i n z:Int}
structure PU where
 st:Int
 aD:Int
 cL:Int
 kf:Int
 mem:Value
 fd:Int->Int
 bx:BS
structure KP where
 u:Int->PU
 gb:Nat
 sb:Nat
 qb:Nat
 bb:Nat
 tb:Nat
 pi:Nat
 ob:Nat
 ms:Int->Value
def PU.nil:PU:=⟨0,0,0,0,.pointer none,fun _=>0,BS.cC⟩
def PU.cell(u:PU)(j:Nat):Value:=
 if j=0 then iI u.st else if j=1 then iI u.aD else if j=2 then iI u.cL else if j=3 then iI u.kf else
 if j=4 then u.mem else if j<11 then iI (u.fd ((j-5:Nat):Int))else Sg.fC u.bx (j-11)
def aG(k:KP)(i:Nat):Value:=
 if i<440 then(k.u ((i/22:Nat):Int)).cell (i%22)else
 if i=440 then az k.gb 0 0 else if i=441 then az k.sb 0 0 else if i=442 then az k.qb 0 0 else if i=443 then az k.bb 0 0 else
 if i=444 then az k.tb 0 0 else if i=445 then az k.pi 0 0 else if i=446 then az k.ob 0 0 else
 if i<453 then k.ms ((i-447:Nat):Int)else undef
def KP.put(k:KP)(n:Int)(u:PU):KP:= {k with u:=ad k.u n u}
theorem KP.sR(k:KP)(n:Int)(u:PU):(k.put n u).u n=u:=aj _ _ _
theorem KP.Ag(k:KP){m:Int}(u:PU)(h:¬m=n):(k.put n u).u m=k.u m:=ae _ _ h
theorem KP.Ht(k:KP)(n:Int)(u v:PU):(k.put n u).put n v=k.put n v:=by
 show({k with u:=ad (ad k.u n u) n v} :KP)= {k with u:=ad k.u n v};have e:ad (ad k.u n u) n v=ad k.u n v:=by
  grind [aj,ae]
 rw[e]
def Bc(k:KP)(n:Int):k.put n (k.u n)=k:=by
 unfold KP.put;rw[cJ k.u rfl]
theorem aG.at_(k:KP)(h:0<=n/\n<20){j:Nat}(hj:j<22):aG k (0+0+n.toNat*22+j)=(k.u n).cell j:=by
 grind [aG]
def gy(k:KP)(h:0<=n/\n<20:=by omega):0+0+n.toNat*22+0<453/\aG k (0+0+n.toNat*22+0)=iI (k.u n).st:=⟨og,aG.at_ k h og⟩
def l7(k:KP)(h:0<=n/\n<20:=by omega):0+0+n.toNat*22+1<453/\aG k (0+0+n.toNat*22+1)=iI (k.u n).aD:=⟨og,aG.at_ k h og⟩
def dB(k:KP)(h:0<=n/\n<20:=by omega):0+0+n.toNat*22+2<453/\aG k (0+0+n.toNat*22+2)=iI (k.u n).cL:=⟨og,aG.at_ k h og⟩
def wi(k:KP)(h:0<=n/\n<20:=by omega):0+0+n.toNat*22+3<453/\aG k (0+0+n.toNat*22+3)=iI (k.u n).kf:=⟨og,aG.at_ k h og⟩
def dt(k:KP)(h:0<=n/\n<20){b:Nat}(e:(k.u n).mem=az b 0 0):0+0+n.toNat*22+4<453/\aG k (0+0+n.toNat*22+4)=az b 0 0:=⟨og,(aG.at_ k h og).trans e⟩
def uf(k:KP)(h:0<=n/\n<20:=by omega)(hi:0<=i/\i<6:=by omega):0+0+n.toNat*22+5+i.toNat*1<453/\aG k (0+0+n.toNat*22+5+i.toNat*1)=iI ((k.u n).fd i):=⟨og,by
 rw[show 0+0+n.toNat*22+5+i.toNat*1=0+0+n.toNat*22+(5+i.toNat)from og,aG.at_ k h og]
 unfold PU.cell
 rw[if_neg og,if_neg og,if_neg og,if_neg og,if_neg og,if_pos og,show((5+i.toNat-5:Nat):Int)=i from og]⟩
abbrev SB(f:Int->Int):Array Value:=GR f 6
def sr(k:KP)(h:0<=n/\n<20:=by omega):0+0+n.toNat*22+5+6<=453/\de (aG k) (0+0+n.toNat*22+5) 6= .agg (SB (k.u n).fd):=by
 refine⟨og,?_⟩;have e:=fun (j:Nat) (hj:j<6)=>aG.at_ k h (j:=5+j) og;unfold de;simp only[List.range,List.range.loop,List.map_cons,List.map_nil,Nat.add_zero];rw[show 0+0+n.toNat*22+5=0+0+n.toNat*22+(5+0)from rfl,e 0 og];rw[show 0+0+n.toNat*22+(5+0)+1=0+0+n.toNat*22+(5+1)from rfl,e 1 og];rw[show 0+0+n.toNat*22+(5+0)+2=0+0+n.toNat*22+(5+2)from rfl,e 2 og];rw[show 0+0+n.toNat*22+(5+0)+3=0+0+n.toNat*22+(5+3)from rfl,e 3 og];rw[show 0+0+n.toNat*22+(5+0)+4=0+0+n.toNat*22+(5+4)from rfl,e 4 og];rw[show 0+0+n.toNat*22+(5+0)+5=0+0+n.toNat*22+(5+5)from rfl,e 5 og];rfl
def eS(k:KP):0+440<453/\aG k (0+440)=az k.gb 0 0:=⟨og,rfl⟩
def aG.ug(k:KP):0+441<453/\aG k (0+441)=az k.sb 0 0:=⟨og,rfl⟩
def eT(k:KP):0+442<453/\aG k (0+442)=az k.qb 0 0:=⟨og,rfl⟩
def aG.Ad(k:KP):0+443<453/\aG k (0+443)=az k.bb 0 0:=⟨og,rfl⟩
def aG.BH(k:KP):0+444<453/\aG k (0+444)=az k.tb 0 0:=⟨og,rfl⟩
def gM(k:KP):0+446<453/\aG k (0+446)=az k.ob 0 0:=⟨og,rfl⟩
def JU(k:KP)(h:0<=z/\z<6):0+447+z.toNat*1<453/\aG k (0+447+z.toNat*1)=k.ms z:=by grind [aG]
def aG.zI(k:KP)(h:0<=n/\n<20)(u:PU)(C:Nat->Value)(h1:∀ j,j<22->C (0+0+n.toNat*22+j)=u.cell j)(h2:∀ i,(i<n.toNat*22\/n.toNat*22+22<=i)->C i=aG k i):C=aG (k.put n u):=by
 funext i;by_cases c:n.toNat*22<=i/\i<n.toNat*22+22
 ·have e1:=h1 (i-n.toNat*22) og;have e2:=aG.at_ (k.put n u) h (j:=i-n.toNat*22) og;rw[show 0+0+n.toNat*22+(i-n.toNat*22)=i from og]at e1 e2;grind [KP.sR]
 ·rw[h2 i og];unfold aG;grind [KP.Ag,KP.put]
def pe(k:KP)(h:0<=n/\n<20){j:Nat}(hj:j<22){v:Value}(u:PU)(hv:u.cell j=v)(ho:∀ i,i<22->¬i=j->u.cell i=(k.u n).cell i):dJ (aG k) (0+0+n.toNat*22+j) v=aG (k.put n u):=by
 refine aG.zI k h u _ (fun i hi=> ?_) fun i hi=> ?_;all_goals grind [dJ,aG.at_]
def JV(k:KP)(h:0<=n/\n<20)(v:Int):0+0+n.toNat*22+0<453/\dJ (aG k) (0+0+n.toNat*22+0) (iI v)=aG (k.put n {k.u n with st:=v}):=
 ⟨og,pe k h og _ rfl fun i _ c=>by unfold PU.cell;rw[if_neg c,if_neg c]⟩
def yw(k:KP)(h:0<=n/\n<20)(v:Int):0+0+n.toNat*22+1<453/\dJ (aG k) (0+0+n.toNat*22+1) (iI v)=aG (k.put n {k.u n with aD:=v}):=
 ⟨og,pe k h og _ rfl fun i _ c=>by unfold PU.cell;rw[if_neg (c:=i=1) c,if_neg (c:=i=1) c]⟩
def Hu(k:KP)(h:0<=n/\n<20)(v:Int):0+0+n.toNat*22+2<453/\dJ (aG k) (0+0+n.toNat*22+2) (iI v)=aG (k.put n {k.u n with cL:=v}):=
 ⟨og,pe k h og _ rfl fun i _ c=>by unfold PU.cell;rw[if_neg (c:=i=2) c,if_neg (c:=i=2) c]⟩
def EX(k:KP)(h:0<=n/\n<20)(v:Int):0+0+n.toNat*22+3<453/\dJ (aG k) (0+0+n.toNat*22+3) (iI v)=aG (k.put n {k.u n with kf:=v}):=
 ⟨og,pe k h og _ rfl fun i _ c=>by unfold PU.cell;rw[if_neg (c:=i=3) c,if_neg (c:=i=3) c]⟩
def lJ(k:KP)(h:0<=n/\n<20)(hi:0<=i/\i<6)(v:Int):0+0+n.toNat*22+5+i.toNat*1<453/\dJ (aG k) (0+0+n.toNat*22+5+i.toNat*1) (iI v)=aG (k.put n {k.u n with fd:=ad (k.u n).fd i v}):=by
 refine⟨og,?_⟩;rw[show 0+0+n.toNat*22+5+i.toNat*1=0+0+n.toNat*22+(5+i.toNat)from og];refine pe k h og _ ?_ fun j hj c=> ?_;all_goals grind [PU.cell,aj,ae]
theorem yx:∀ (l:List Value) (C:Nat->Value) (i j:Nat),cD C i l j=if i<=j/\j<i+l.length then l.getD (j-i) undef else C j
 | [],C,i,j=>by rw[cD,if_neg (by simp only[List.length_nil];omega)]
 | v::r,C,i,j=>by
  rw[cD,yx r];by_cases c:j=i
  ·subst c;rw[if_neg og,if_pos sq];unfold dJ;rw[if_pos rfl];simp
  ·by_cases d:i+1<=j/\j<i+1+r.length
   ·rw[if_pos d,if_pos (by simp;omega),show j-i=(j-(i+1))+1 from og];simp
   ·rw[if_neg d,if_neg (by simp;omega)];unfold dJ;rw[if_neg c]
def PU.cR(u:PU):Array Value:=((List.range 22).map u.cell).toArray
def aG.Dc(k:KP)(h:0<=n/\n<20)(u:PU):0+0+n.toNat*22+22<=453/\cD (aG k) (0+0+n.toNat*22) u.cR.toList=aG (k.put n u):=by
 refine⟨og,aG.zI k h u _ (fun j hj=> ?_) fun i hi=> ?_⟩
 ·simp_all[yx,PU.cR]
 ·rw[yx,if_neg (by simp[PU.cR];omega)]
abbrev jT(n:Int):Nat:=0+0+n.toNat*22+11
def KP.box(k:KP)(n:Int)(b:BS):KP:=k.put n {k.u n with bx:=b}
theorem Dd(k:KP)(h:0<=n/\n<20){i:Nat}(hi:i<11):aG k (jT n+i)=Sg.fC (k.u n).bx i:=by
 grind [PU.cell,aG]
theorem QQ(k:KP)(b:BS)(h:0<=n/\n<20){i:Nat}(hi:i<jT n\/jT n+11<=i):aG (k.box n b) i=aG k i:=by
 by_cases c:n.toNat*22<=i/\i<n.toNat*22+22
 ·grind [KP.box,KP.sR,PU.cell,aG]
 ·unfold aG;split
  ·grind [KP.box,KP.Ag]
  rfl
section
variable {W w:World} {S:Nat->Nat->Prop} {H F:List aF}
def XM.BW{b o n:Nat}{C C':Nat->Value}(hC:∀ i,i<n->C i=C' i)(h:XM W S (.cells b o n C::H) w):XM W S (.cells b o n C'::H) w:=Fa.XM.BW hC h
def kg{b:Nat}{k:KP}(hn:0<=n/\n<20)(hp:cG H [.cells b 0 453 (aG k)] F)(h:XM W S H w):XM W S (.cells b (0+jT n) 11 (Sg.fC (k.u n).bx):: .cells b 0 (jT n) (aG k):: .cells b (0+jT n+11) (453-jT n-11) (fun i=>aG k (jT n+11+i))::F) w:=by
 have L8:jT n+11<=453:=by unfold jT;omega
 have h2:=XM.part (n:=453) (off:=jT n) (m:=11) L8 (h.b8 hp.b8);exact XM.BW (C':=Sg.fC (k.u n).bx) (fun i hi=>Dd k hn hi) h2
theorem mS{b:Nat}{k:KP}{x:BS}(hn:0<=n/\n<20)(hp:cG H [.cells b (0+jT n) 11 (Sg.fC x),.cells b 0 (jT n) (aG k),.cells b (0+jT n+11) (453-jT n-11) fun i=>aG k (jT n+11+i)] F)(h:XM W S H w):XM W S (.cells b 0 453 (aG (k.box n x))::F) w:=by
 have L8:jT n+11<=453:=by unfold jT;omega
 refine XM.wL (n:=453) (off:=jT n) (m:=11) L8 (fun i hi=> ?_) (fun i hi=> ?_) (fun i hi=> ?_) (h.b8 hp.b8) og;all_goals grind [QQ,Dd,KP.box,KP.sR]
theorem JW(k:KP)(n:Int):k.box n (k.u n).bx=k:=Bc k n
end
def KP.aA(k:KP)(n:Int):Int:=if n<0\/20<=n then 1 else if(k.u n).st=1 then 0 else 2
def bJ{k:KP}(h:k.aA n=0):(0<=n/\n<20)/\(k.u n).st=1:=by
 grind [KP.aA]
def KP.OC{k:KP}(h:0<=n/\n<20)(e:(k.u n).st=1):k.aA n=0:=by grind [KP.aA]
def KP.BI(k:KP)(s:Sp.SS)(n q:Int):Int×Int:=
 if k.aA n≠0 then(0,k.aA n)else if(s.find (s.bU n).1 q).2≠0 then(0,(s.find (s.bU n).1 q).2)else
 if(k.u (s.find (s.bU n).1 q).1).st=1 then((s.find (s.bU n).1 q).1,0)else(0,8)
def Be{s:Sp.SS}{aQ:Int->Nat}(h:s.Inv aQ){a q:Int}(e:(s.find a q).2=0):(0<=(s.find a q).1/\(s.find a q).1<20)/\s.dv a q=(s.find a q).1/\(0<=a/\a<6/\s.aa a=true)/\1<=q/\q<=20:=by
 have hb:=h.Sw a q;unfold Sp.SS.find at e ⊢;split at e
 ·omega
 ·rename_i c;have hi:(0<=a/\a<6)/\s.aa a=true:=by
   have c:s.is a=0:=og;unfold Sp.SS.is at c;grind
  grind
def YH(b:BS):Array Value:= #[.int .u16 ((pH b.dU:Nat):Int),.int .u16 ((pH b.bj:Nat):Int),iI (b.jm 0),iI (b.jm 1),iI (b.jm 2),iI (b.jm 3),iI (b.jm 4),iI (b.jm 5),iI (b.jm 6),iI (b.jm 7),iI (b.jm 8)]
def JX(k:KP)(h:0<=n/\n<20):0+0+n.toNat*22+11+11<=453/\de (aG k) (0+0+n.toNat*22+11) 11= .agg (YH (k.u n).bx):=by
 refine⟨og,?_⟩;have e:=(mP (k.u n).bx).2;grind [YH,de,List.map_congr_left,Dd]
section
variable {W w:World} {S:Nat->Nat->Prop} {H F:List aF}
def nA{b:Nat}{k:KP}(hn:0<=n/\n<20)(hp:cG H [.cells b (0+jT n) 11 (Sg.fC (k.u n).bx),.cells b 0 (jT n) (aG k),.cells b (0+jT n+11) (453-jT n-11) fun i=>aG k (jT n+11+i)] F)(h:XM W S H w):XM W S (.cells b 0 453 (aG k)::F) w:=by
 grind [mS,JW]
end
theorem My{s:Sp.SS}(h:(s.drop z).1≠0):(s.drop z).2=s:=by
 unfold Sp.SS.drop at h ⊢;grind
def KP.kI(k:KP)(n h i:Int):KP:= {k with u:=fun j=>if 0<=j/\j<i/\(k.u j).st≠0/\(k.u j).aD=n then {k.u j with aD:=h} else k.u j}
theorem wj(k:KP)(n h:Int):k.kI n h 0=k:=by
 have e:(fun j=>if 0<=j/\j<0/\(k.u j).st≠0/\(k.u j).aD=n then {k.u j with aD:=h} else k.u j)=k.u:=by
  grind
 simp_all[KP.kI]
theorem jf(k:KP)(n h:Int){j:Int}(hj:i<=j):(k.kI n h i).u j=k.u j:=by
 grind [KP.kI]
theorem KP.FZ(k:KP)(n h:Int)(hi:0<=i)(h1:(k.u i).st≠0)(h2:(k.u i).aD=n):(k.kI n h i).put i {(k.kI n h i).u i with aD:=h} =k.kI n h (i+1):=by
 show({k with u:=ad (k.kI n h i).u i {(k.kI n h i).u i with aD:=h}} :KP)= {k with u:=(k.kI n h (i+1)).u};have e:ad (k.kI n h i).u i {(k.kI n h i).u i with aD:=h} =(k.kI n h (i+1)).u:=by
  grind [aj,ae,KP.kI]
 rw[e]
theorem nj(k:KP)(n h:Int)(hc:¬((k.u i).st≠0/\(k.u i).aD=n)):k.kI n h (i+1)=k.kI n h i:=by
 grind [KP.kI]
structure UR (b:BS):Prop where
 z:b.dU 0=false
 e:b.first 0=0
 ie:(b.send 3).2=b
theorem UR.cC:UR BS.cC:=⟨rfl,dk,by unfold BS.send;rw[if_pos dq,if_pos dq]⟩
def aJ{α:Type}(f:Nat->α)(z:Nat)(m:α):Nat->α:=fun j=>if j=z then m else f j
theorem bW{α:Type}(f:Nat->α)(z:Nat)(m:α):aJ f z m z=m:=if_pos rfl
theorem b7{α:Type}(f:Nat->α){z j:Nat}(m:α)(h:j≠z):aJ f z m j=f j:=if_neg h
theorem fJ{α:Type}(f:Nat->α)(z:Nat):aJ f z (f z)=f:=by
 grind [aJ]
theorem QR(g:Nat->Nat)(z b:Nat):IZ g z b=aJ g z b:=by
 grind [uZ,rH,aJ]
abbrev cN(bb:Nat)(f:Nat->Vm.MS)(ps:Nat->Option Addr)(cs:Nat->Nat):Nat->Nat->Value:=fun j=>b6 bb (ps j) (ai (f j).ax).length (cs j) (f j).fr (f j).aX
abbrev rN(e:TypeId)(f:Nat->Vm.MS)(ps:Nat->Option Addr)(cs:Nat->Nat):Nat->pZ:=fun j=>⟨.slice (ps j) (ai (f j).ax).length (cs j),e,3,(ai (f j).ax).length,bZ (fh (ai (f j).ax)) ((ai (f j).ax).length*3)⟩
theorem acp(bb:Nat)(f:Nat->Vm.MS)(ps:Nat->Option Addr)(cs:Nat->Nat)(z:Nat)(m:Vm.MS)(p:Option Addr)(c:Nat):IY (cN bb f ps cs) z (b6 bb p (ai m.ax).length c m.fr m.aX)=cN bb (aJ f z m) (aJ ps z p) (aJ cs z c):=by
 grind [GX,GY,aJ]
theorem acq(e:TypeId)(f:Nat->Vm.MS)(ps:Nat->Option Addr)(cs:Nat->Nat)(z:Nat)(m:Vm.MS)(p:Option Addr)(c:Nat):BA (rN e f ps cs) z ⟨.slice p (ai m.ax).length c,e,3,(ai m.ax).length,bZ (fh (ai m.ax)) ((ai m.ax).length*3)⟩=rN e (aJ f z m) (aJ ps z p) (aJ cs z c):=by
 grind [nf,lT,aJ]
theorem US(p:Option Addr)(c:Nat)(e:TypeId)(k:Nat)(C:Nat->Value):aM p c e 3 k C=pZ.Cx ⟨.slice p k c,e,3,k,bZ C (k*3)⟩:=rfl
abbrev JY(P:Nat->Bool)(bb:Nat)(e:TypeId)(mb:Nat->Nat)(f:Nat->Vm.MS)(ps:Nat->Option Addr)(cs:Nat->Nat):List aF:=[.dR P mb 34 (cN bb f ps cs),.aW P (rN e f ps cs)]
abbrev UT(bb b:Nat)(e:TypeId)(m:Vm.MS)(p:Option Addr)(c:Nat):List aF:=[.cells b 0 34 (b6 bb p (ai m.ax).length c m.fr m.aX),aM p c e 3 (ai m.ax).length (fh (ai m.ax))]
section
variable {W w:World} {S:Nat->Nat->Prop} {H H0:List aF} {bb:Nat} {e:TypeId} {mb:Nat->Nat} {f:Nat->Vm.MS} {ps:Nat->Option Addr} {cs:Nat->Nat} {P:Nat->Bool}
def kA{z:Nat}(hz:P z=true)(hp:cG H0 (JY P bb e mb f ps cs) H)(h:XM W S H0 w):XM W S (.cells (mb z) 0 34 (b6 bb (ps z) (ai (f z).ax).length (cs z) (f z).fr (f z).aX)::aM (ps z) (cs z) e 3 (ai (f z).ax).length (fh (ai (f z).ax)):: .dR (ji P z) mb 34 (cN bb f ps cs):: .aW (ji P z) (rN e f ps cs)::H) w:=by
 have h0:XM W S (.dR P mb 34 (cN bb f ps cs):: .aW P (rN e f ps cs)::H) w:=h.b8 hp.b8;have h1:=Cy z hz h0;have h2:=h1.b8 (pk [2]).b8;simp only[List.cons_append,List.nil_append]at h2;have h3:=oC z hz h2;have h4:=h3.b8 (pk [2,0,1,0]).b8;simp_all
def B2{z b:Nat}(m:Vm.MS){p:Option Addr}{c:Nat}(hz:P z=false)(hp:cG H0 (UT bb b e m p c++JY P bb e mb f ps cs) H)(h:XM W S H0 w):XM W S (JY (Fl P z) bb e (aJ mb z b) (aJ f z m) (aJ ps z p) (aJ cs z c)++H) w:=by
 have h:XM W S (.cells b 0 34 (b6 bb p (ai m.ax).length c m.fr m.aX)::aM p c e 3 (ai m.ax).length (fh (ai m.ax)):: .dR P mb 34 (cN bb f ps cs):: .aW P (rN e f ps cs)::H) w:=h.b8 hp.b8;have h0:=h.b8 (pk [0,1]).b8;simp only[List.cons_append,List.nil_append]at h0;have h1:=Fp z og hz h0;have h2:=h1.b8 (pk [1,1]).b8;simp only[List.cons_append,List.nil_append]at h2;rw[US]at h2;have h3:=qy z hz h2;have h4:=h3.b8 (pk [1,0]).b8;simp_all[acp,acq,QR]
def l8{z:Nat}(m:Vm.MS){p:Option Addr}{c:Nat}(hz:P z=true)(hp:cG H0 (UT bb (mb z) e m p c++JY (ji P z) bb e mb f ps cs) H)(h:XM W S H0 w):XM W S (JY P bb e mb (aJ f z m) (aJ ps z p) (aJ cs z c)++H) w:=by
 have h1:=B2 m (uY _ _) hp h;grind [Fo,fJ]
def QT{b z:Nat}(m:Vm.MS){p:Option Addr}{c:Nat}(hp:cG H0 (UT bb b e m p c) H)(h:XM W S H0 w):XM W S (JY (Fl (fun _=>false) z) bb e (aJ (fun _=>0) z b) (aJ (fun _=>m) z m) (aJ (fun _=>none) z p) (aJ (fun _=>0) z c)++H) w:=by
 have h0:XM W S (UT bb b e m p c++H) w:=h.b8 hp.b8;have h1:XM W S (.dR (fun _=>false) (fun _=>0) 34 (cN bb (fun _=>m) (fun _=>none) fun _=>0):: .aW (fun _=>false) (rN e (fun _=>m) (fun _=>none) fun _=>0):: .cells b 0 34 (b6 bb p (ai m.ax).length c m.fr m.aX)::aM p c e 3 (ai m.ax).length (fh (ai m.ax))::H) w:=Cz (Fq h0);exact B2 m rfl (pk [2,2,0,0]) h1
end
def tr(a b:Int):Nat->Value:=fun i=>if i=0 then iI a else if i=1 then iI b else undef
def tr.agg(a b:Int):0+2<=2/\de (tr a b) 0 2= .agg #[iI a,iI b]:=⟨og,rfl⟩
theorem tr.st(a b c d:Int):0+2<=2/\cD (tr a b) 0 [iI c,iI d]=tr c d:=⟨og,by
 funext i
 match i with
 | 0=>rfl
 | 1=>rfl
 | i+2=>simp[cD,dJ,tr]⟩
def tr.B3(a b:Int):0+0<2/\tr a b (0+0)=iI a:=⟨og,rfl⟩
theorem tr.box:∀ i,i<2->cellsOf #[iI 0,iI 0] i=tr 0 0 i:=fun i h=>match i,h with
 | 0,_=>rfl
 | 1,_=>rfl
 | k+2,h=>absurd h og
def UU(u:PU):0+5+6<=22/\de u.cell (0+5) 6= .agg (SB u.fd):=⟨og,rfl⟩
def PU.agg(u:PU):0+22<=22/\de u.cell 0 22= .agg u.cR:=by grind [de,PU.cR]
theorem Bf(u:PU){i:Nat}(h:22<=i:=by omega):u.cell i=undef:=by
 unfold PU.cell;rw[if_neg og,if_neg og,if_neg og,if_neg og,if_neg og,if_neg og];exact Js _ og
theorem Mz(u:PU):u.cR.toList.length=22:=by simp[PU.cR]
def PU.Dc(v u:PU):0+22<=22/\cD v.cell 0 u.cR.toList=u.cell:=⟨og,by
 funext i
 rw[yx,Mz]
 by_cases h:i<22
 ·rw[if_pos og,Nat.sub_zero]
  unfold PU.cR
  rw[List.getD_eq_getElem?_getD,List.toList_toArray,List.getElem?_map,List.getElem?_range h];rfl
 ·rw[if_neg og,Bf v,Bf u]⟩
theorem PU.box(u:PU):∀ i,i<22->cellsOf u.cR i=u.cell i:=fun i hi=>by
 simp_all[cellsOf,PU.cR]
section
variable {W w:World} {S:Nat->Nat->Prop} {H H0:List aF} {bb:Nat} {e:TypeId} {mb:Nat->Nat} {f:Nat->Vm.MS} {ps:Nat->Option Addr} {cs:Nat->Nat} {P:Nat->Bool}
def pf{z:Nat}(hz:P z=true)(hp:cG H0 (UT bb (mb z) e (f z) (ps z) (cs z)++JY (ji P z) bb e mb f ps cs) H)(h:XM W S H0 w):XM W S (JY P bb e mb f ps cs++H) w:=by
 have h1:=l8 (f z) hz hp h;simp_all[fJ]
end
def KP.ie(k:KP)(n:Int)(nb:Nat):PU:=⟨1,n,(k.u n).cL,0,az nb 0 0,(k.u n).fd,(k.u n).bx.bB⟩
def uh(k:KP)(h:0<=z/\z<6)(v:Value):0+447+z.toNat*1<453/\dJ (aG k) (0+447+z.toNat*1) v=aG {k with ms:=ad k.ms z v} :=⟨og,by
 funext i
 unfold dJ
 by_cases c:i=0+447+z.toNat*1
 ·rw[if_pos c,c]
  have:=(JU {k with ms:=ad k.ms z v} h).2
  rw[this]
  exact(aj _ _ _).symm
 ·rw[if_neg c]
  unfold aG
  refine ij (fun _=>rfl) fun c0=>ij (fun _=>rfl) fun c1=>ij (fun _=>rfl) fun c2=>ij (fun _=>rfl) fun c3=>ij (fun _=>rfl) fun c4=>ij (fun _=>rfl) fun c5=>ij (fun _=>rfl) fun c6=>ij (fun _=>rfl) fun c7=>ij (fun c8=> ?_) fun _=>rfl
  show k.ms ((i-447:Nat):Int)=ad k.ms z v ((i-447:Nat):Int)
  rw[ae _ _ og]⟩
def KP.raw(gb sb qb bb tb pi:Nat):KP:=⟨fun _=>PU.nil,gb,sb,qb,bb,tb,pi,0,fun _=>.pointer none⟩
def yy(k:KP)(i:Nat):Value:=if i=446 then .pointer none else aG k i
def F0(k:KP):Array Value:=((List.range 453).map (yy k)).toArray
def MA(k:KP):(F0 k).size=453:=by simp[F0]
def QU(k:KP):∀ i,i<453->cellsOf (F0 k) i=yy k i:=fun i hi=>by simp[cellsOf,F0,hi]
def yy.BH(k:KP):0+444<453/\yy k (0+444)=az k.tb 0 0:=⟨og,rfl⟩
def JZ(k:KP):0+445<453/\yy k (0+445)=az k.pi 0 0:=⟨og,rfl⟩
def MB(k:KP)(b:Nat):0+446<453/\dJ (yy k) (0+446) (az b 0 0)=aG {k with ob:=b} :=by grind [dJ,yy,aG]
def De(mb:Nat):PU:=⟨1,-1,0,0,az mb 0 0,fun _=>0,BS.cC⟩
structure aaO (k:KP) (mb:Nat):Prop where
 u:k.u=ad (fun _=>PU.nil) 0 (De mb)
def dK:Int->Nat:=ad (fun _=>0) (10+0) (0+1)
def Q1:Fa.SF:=Fa.SF.cC.s8 0 0 100
def Q2:Fa.SF:=Q1.gq dK 0 true
theorem qA:Fa.SF.cC.lV 0 0 100=0:=dk
def aaP:Q1.Ok dK 1 0:=by
 have e:Q1=Fa.SF.cC.p9 (10+0) 0 100 true:=by unfold Q1 Fa.SF.s8;rw[qA];rfl
 rw[e];exact Fa.SF.Ol.add og ⟨og,og⟩ dk ⟨og,og,dk⟩ og
def Df:Q2.Ok dK 1 0:=aaP.gq 0 true
theorem YI:(Q2.kM dK).1=0:=dk
def acr:(Q2.kM dK).2.Ok dK 1 1:=Df.kM og og
def G0:Gr.TG:=Gr.TG.cC.bE 0 1 0
def S0:Sp.SS:=(Sp.SS.cC.enter (fun _=>1) 0 0).2.2
end Go.X.Kn

namespace Go.X.Vm
open Go Go.X
variable{w:Bool}{a i n:Int}{k z:Nat}
theorem F2{m:MS}(h:fT a n):m.qe a n=1:=by unfold MS.qe;rw[if_pos h]
def QV{m:MS}(hb:¬fT a n)(hi:a<=i/\i<a+n)(h:m.ax i≠0):m.qe a n=3:=by
 grind [MS.qe,Ab]
def QW{m:MS}(hb:¬fT a n)(h:∀ j,a<=j->j<a+n->m.ax j=0):m.qe a n=0:=by
 grind [MS.qe,w6]
theorem Dg{m:MS}(h:fT a n):m.kV a n=1:=by unfold MS.kV;rw[if_pos h]
def J0{m:MS}(hb:¬fT a n)(hi:a<=i/\i<a+n)(h:m.ax i=0):m.kV a n=10:=by
 grind [MS.kV,Ab]
def MD{m:MS}(hb:¬fT a n)(h:∀ j,a<=j->j<a+n->m.ax j≠0):m.kV a n=0:=by
 grind [MS.kV,w6]
theorem F3{m:MS}(h:m.qe a n≠0):m.map a n w=m:=by grind [MS.map]
theorem ME{m:MS}(h:m.qe a n=0):m.map a n w=m.lay a n w:=by grind [MS.map]
theorem Dh{m:MS}(h:m.kV a n≠0):m.mz a n w=m:=by grind [MS.mz]
theorem J1{m:MS}(h:m.kV a n=0):m.mz a n w=m.lay a n w:=by grind [MS.mz]
def UW{l:List RG}{f:Int->Int}(hl:o9 l f 16)(hn:0<n)(h:∀ j,a<=j->j<a+n->f j=0):∀ r∈l,r.fr+r.n<=a\/a+n<=r.fr:=fun r hr=>by
 have hb:=hl.b r hr;by_cases c:r.fr+r.n<=a\/a+n<=r.fr
 ·omega
 ·have:=hl.h1 r hr (max r.fr a) ⟨og,og⟩;grind [Ox]
def Di(l:List RG)(a n:Int):(l.flatMap (mr a n)).length<=2*l.length:=by
 induction l with
 | nil=>simp
 | cons r l ih=>rw[List.flatMap_cons,List.length_append,List.length_cons];have:=OB a n r;omega
theorem UX(f:Int->Int):om f []=f:=by funext i;simp[om]
theorem UY(f:Int->Bool):ew f []=f:=by funext i;simp[ew]
theorem MS.vt{v:VB}{m:MS}(hb:fT a n):m.cS v a n=(0,1,v,m):=by grind [MS.cS]
def J2(v:VB){m:MS}(hm:m.Ok)(hb:¬fT a n):m.cS v a n=((ud v m.fr (kW (fun i=>m.ax i != 0) a n.toNat)).1,0,(ud v m.fr (kW (fun i=>m.ax i != 0) a n.toNat)).2,⟨df m.ax a n 0,om m.fr (kW (fun i=>m.ax i != 0) a n.toNat),ew m.aX (kW (fun i=>m.ax i != 0) a n.toNat)⟩):=by
 unfold MS.cS;have Cv:=hb;unfold fT at Cv;have hz:∀ i,i∉kW (fun i=>m.ax i != 0) a n.toNat->a<=i/\i<a+n->m.ax i=0:=fun i h1 h2=>by
  grind [oF]
 have hs:∀ i,i∈kW (fun i=>m.ax i != 0) a n.toNat->a<=i/\i<a+n:=fun i h=>by
  grind [oF]
 have e1:df m.fr a n 0=om m.fr (kW (fun i=>m.ax i != 0) a n.toNat):=by
  grind [df,om,MS.Ok.un]
 have e2:df m.aX a n false=ew m.aX (kW (fun i=>m.ax i != 0) a n.toNat):=by
  grind [df,ew,MS.Ok.ow,MS.Ok.un]
 grind [JO,MS.Ok.un]
def MS.kB{m:MS}(h:m.sm a w=true):0<=a/\a<128:=by
 grind [MS.sm]
theorem jr{m:MS}(h:¬(0<=a/\a<128):=by omega):m.sm a w=false:=by
 grind [MS.sm]
theorem oG{m:MS}(hm:m.Ok){k:Int}(hk:atP (ai m.ax) (a/8) k)(ha:0<=a/\a<128:=by omega):m.sm a w=(decide (0<=k)&&(!w||(bD (ai m.ax) k).w)):=by
 obtain⟨h1,h2⟩:=uc hm.f hk;unfold MS.sm;rw[decide_eq_true ha];by_cases c:k<0
 ·grind
 ·rw[(h2 og).2,decide_eq_true og];cases w<;>cases (bD (ai m.ax) k).w<;>rfl
theorem pU{m:MS}(hm:m.Ok){k:Int}(hk:atP (ai m.ax) (a/8) k)(ha:0<=a/\a<128:=by omega):m.l5 a=(decide (0<=k)&&decide (m.fr (a/8)-1<0)):=by
 unfold MS.l5;rw[oG hm hk ha];have:=hm.lo (a/8);grind
def Bg{v:VB}(h:¬v.take.2.1=0):v.take.1=0/\v.take.2.2=v:=by
 grind [VB.lq,lB]
theorem Dj{v:VB}(h:v.take.2.1=0):v.take.2.2.rf=ad v.rf v.take.1 1/\v.take.2.2.fR=oe v.fR v.take.1 (fun _=>0):=by
 grind [VB.lq,lB]
def VB.Ok.copy{v:VB}(h:v.Ok)(f g:Int):(v.copy f g).Ok:=⟨h.bb,h.rf,fun x j=>by
 show 0<=oe v.fR f (v.fR g) x j/\oe v.fR f (v.fR g) x j<256
 unfold oe;split
 ·exact h.fR g j
 ·exact h.fR x j⟩
def Bh{v:VB}(h:v.take.2.1=0){f:Int}(hf:1<v.rf f):1<=v.take.2.2.rf f:=by
 rw[(Dj h).1];unfold ad;split<;>omega
theorem ix{v:VB}{m:MS}(h:m.sm a w=false):m.bF v a w=(0,10,v,m):=by grind [MS.bF]
theorem iy{v:VB}{m:MS}(h:m.sm a w=true)(h0:m.fr (a/8)=0)(e:v.take.2.1=0):m.bF v a w=(v.take.1,0,v.take.2.2,m.tf (a/8) v.take.1):=by
 grind [MS.bF]
theorem fv{v:VB}{m:MS}(h:m.sm a w=true)(h0:m.fr (a/8)=0)(e:¬v.take.2.1=0):m.bF v a w=(0,v.take.2.1,v,m):=by
 grind [MS.bF]
theorem cZ{v:VB}{m:MS}(h:m.sm a w=true)(h0:¬m.fr (a/8)=0)(q:w=false\/m.aX (a/8)=true):m.bF v a w=(m.fr (a/8)-1,0,v,m):=by
 grind [MS.bF]
theorem MS.kD{v:VB}{m:MS}(h:m.sm a w=true)(h0:¬m.fr (a/8)=0)(q:w=true)(q2:m.aX (a/8)=false)(r:v.rf (m.fr (a/8)-1)<=1):m.bF v a w=(m.fr (a/8)-1,0,v,{m with aX:=ad m.aX (a/8) true}):=by
 grind [MS.bF]
theorem gu{v:VB}{m:MS}(h:m.sm a w=true)(h0:¬m.fr (a/8)=0)(q:w=true)(q2:m.aX (a/8)=false)(r:1<v.rf (m.fr (a/8)-1))(e:¬v.take.2.1=0):m.bF v a w=(0,v.take.2.1,v,m):=by
 grind [MS.bF]
theorem fM{v:VB}{m:MS}(h:m.sm a w=true)(h0:¬m.fr (a/8)=0)(q:w=true)(q2:m.aX (a/8)=false)(r:1<v.rf (m.fr (a/8)-1))(e:v.take.2.1=0):m.bF v a w=(v.take.1,0,(v.take.2.2.copy v.take.1 (m.fr (a/8)-1)).drop (m.fr (a/8)-1),m.tf (a/8) v.take.1):=by
 grind [MS.bF]
def MS.lK(v:VB)(m:MS)(a:Int)(w:Bool):(m.sm a w=false/\m.bF v a w=(0,10,v,m))\/(m.sm a w=true/\((¬v.take.2.1=0/\m.bF v a w=(0,v.take.2.1,v,m))\/(m.fr (a/8)=0/\v.take.2.1=0/\m.bF v a w=(v.take.1,0,v.take.2.2,m.tf (a/8) v.take.1))\/(¬m.fr (a/8)=0/\(w=false\/m.aX (a/8)=true)/\m.bF v a w=(m.fr (a/8)-1,0,v,m))\/(¬m.fr (a/8)=0/\v.rf (m.fr (a/8)-1)<=1/\w=true/\m.bF v a w=(m.fr (a/8)-1,0,v,{m with aX:=ad m.aX (a/8) true}))\/(¬m.fr (a/8)=0/\v.take.2.1=0/\1<v.rf (m.fr (a/8)-1)/\w=true/\m.bF v a w=(v.take.1,0,(v.take.2.2.copy v.take.1 (m.fr (a/8)-1)).drop (m.fr (a/8)-1),m.tf (a/8) v.take.1)))):=by
 cases h:m.sm a w with
 | false=>exact .inl ⟨rfl,ix h⟩
 | true=>
  refine .inr ⟨rfl,?_⟩;by_cases h0:m.fr (a/8)=0
  ·grind [MS.bF]
  ·grind [cZ,MS.kD,fM,gu]
def MS.yz(v:VB)(m:MS)(a:Int)(w:Bool):(m.bF v a w).2.2.2.ax=m.ax:=by
 rcases MS.lK v m a w with⟨_,e⟩ | ⟨_,⟨_,e⟩ | ⟨_,_,e⟩ | ⟨_,_,e⟩ | ⟨_,_,_,e⟩ | ⟨_,_,_,_,e⟩⟩<;>(rw[e];try rfl)
def oq{v:VB}{m:MS}(hv:v.Ok)(hm:m.Ok)(h:(m.bF v a w).2.1=0):(0<=(m.bF v a w).1/\(m.bF v a w).1<64)/\0<=a/\a<128:=by
 have hl:=hm.lo (a/8);rcases MS.lK v m a w with⟨_,e⟩ | ⟨hr,⟨q,e⟩ | ⟨_,q,e⟩ | ⟨_,_,e⟩ | ⟨_,_,_,e⟩ | ⟨_,q,_,_,e⟩⟩
 ·simp_all
 ·simp_all
 ·rw[e];exact⟨ny hv q,MS.kB hr⟩
 ·rw[e];exact⟨og,MS.kB hr⟩
 ·rw[e];exact⟨og,MS.kB hr⟩
 ·rw[e];exact⟨ny hv q,MS.kB hr⟩
theorem VB.Ok.bF{v:VB}{m:MS}(hv:v.Ok)(a:Int)(w:Bool):(m.bF v a w).2.2.1.Ok:=by
 rcases MS.lK v m a w with⟨_,e⟩ | ⟨_,⟨_,e⟩ | ⟨_,_,e⟩ | ⟨_,_,e⟩ | ⟨_,_,_,e⟩ | ⟨_,q,r,_,e⟩⟩<;>rw[e]
 ·omega
 ·omega
 ·exact hv.take
 ·omega
 ·omega
 ·exact(hv.take.copy _ _).drop (Bh q r)
def UZ(rf fr:Int->Int):∀ (k:Nat) (g:Int),rf g<=yo rf fr k g/\yo rf fr k g<=rf g+k
 | 0,g=>by simp[yo]
 | k+1,g=>by
  have:=UZ rf fr k g;rw[yo];split;all_goals grind [ad]
theorem J3{rf fr:Int->Int}(h:0<=i):yo rf fr (i+1).toNat=if 0<fr i then ad (yo rf fr i.toNat) (fr i-1) (yo rf fr i.toNat (fr i-1)+1)else yo rf fr i.toNat:=by
 rw[show(i+1).toNat=i.toNat+1 from og,yo,show((i.toNat:Nat):Int)=i from og]
def w7{α:Type}(f g:Int->α)(i:Int):Int->α:=fun j=>if 0<=j/\j<i then f j else g j
theorem vu{α:Type}{f g:Int->α}(h:0<=i){v:α}(e:f i=v:=by omega):ad (w7 f g i) i v=w7 f g (i+1):=by
 grind [ad,w7]
theorem jG(f:Int->Bool)(i:Int){v:Bool}(h:f i=v):ad f i v=f:=by
 grind [ad]
theorem MS.ui{v:VB}{m:MS}(h:¬(m.bF v a false).2.1=0):m.load v a=(0,(m.bF v a false).2.1,(m.bF v a false).2.2):=by grind [MS.load]
theorem MS.yA{v:VB}{m:MS}(h:(m.bF v a false).2.1=0):m.load v a=((m.bF v a false).2.2.1.fR (m.bF v a false).1 (a%8),0,(m.bF v a false).2.2):=by grind [MS.load]
theorem MS.q7{v:VB}{m:MS}{b:Int}(h:¬(m.bF v a true).2.1=0):m.store v a b=((m.bF v a true).2.1,(m.bF v a true).2.2):=by grind [MS.store]
theorem MS.uj{v:VB}{m:MS}{b:Int}(h:(m.bF v a true).2.1=0):m.store v a b=(0,⟨(m.bF v a true).2.2.1.bb,cI (m.bF v a true).2.2.1.fR (m.bF v a true).1 (a%8) b,(m.bF v a true).2.2.1.rf⟩,(m.bF v a true).2.2.2):=by grind [MS.store]
theorem F4{α:Type}(f g:Int->α):w7 f g 0=g:=by grind [w7]
def zNs(b:Nat)(p:Option Addr)(n c:Nat):List Value:=az b 0 0:: .slice p n c::(List.replicate 16 [Value.int .i64 0,Value.bool false]).flatten
def YJ(b:Nat)(p:Option Addr)(n c:Nat):∀ i,i<34->cellsOf (zNs b p n c).toArray i=b6 b p n c (fun _=>1) (fun _=>false) i:=fun i hi=>by
 unfold cellsOf zNs;by_cases h1:i=1
 ·subst h1;rfl
 ·have e:=UI b i hi;unfold cellsOf zNl at e;rw[Array.getD_eq_getD_getElem?,List.getElem?_toArray]at e ⊢;grind [b6]
theorem F5{α:Type}(f:Int->α)(a:Int)(v:α):df f a (a-a) v=f:=by grind [df]
theorem F6{α:Type}{f:Int->α}{v u:α}(h:a<=i)(e:u=v):ad (df f a (i-a) v) i u=df f a (i+1-a) v:=by
 grind [ad,df]
def MS.J4{v:VB}{m:MS} :0<=(m.bF v a w).2.1:=by
 have:=v.vk;grind [MS.bF]
def cM(fr:Int->Int)(g:Int):Nat->Int
 | 0=>0
 | k+1=>cM fr g k+(if fr k=g+1 then 1 else 0)
def Bi(fr:Int->Int)(g:Int):∀ k,0<=cM fr g k/\cM fr g k<=k
 | 0=>by simp[cM]
 | k+1=>by have:=Bi fr g k;rw[cM];split<;>omega
theorem OD(fr:Int->Int){g n z:Int} :∀ {k:Nat},(k:Int)<=n->cM (ad fr n z) g k=cM fr g k
 | 0,_=>rfl
 | k+1,h=>by rw[cM,cM,OD fr (k:=k) og,ae _ _ og]
theorem yB(fr:Int->Int){g n z:Int}(h0:0<=n):∀ {k:Nat},n<k->cM (ad fr n z) g k=cM fr g k-(if fr n=g+1 then 1 else 0)+(if z=g+1 then 1 else 0)
 | 0,h=>by simp at h;omega
 | k+1,h=>by
  rw[cM,cM];by_cases c:n=k
  ·subst c;rw[OD fr og,aj];omega
  ·rw[yB fr h0 (k:=k) og,ae _ _ og];omega
def Dk{fr:Int->Int}{g i:Int}(h0:0<=i)(e:fr i=g+1):∀ {k:Nat},i<k->1<=cM fr g k
 | 0,h=>by simp at h;omega
 | k+1,h=>by
  rw[cM];by_cases c:i=k
  ·rw[<-c,if_pos e];have:=Bi fr g k;omega
  ·have:=Dk h0 e (k:=k) og;split<;>omega
def cA(fr:Int->Int)(a g:Int):Nat->Int
 | 0=>0
 | k+1=>cA fr a g k+(if fr (a+k)=g+1 then 1 else 0)
theorem Hv(fr:Int->Int){a g:Int}(h0:0<=a)(hg:0<=g):∀ {k:Nat},a+k<=16->cM (df fr a k 0) g 16=cM fr g 16-cA fr a g k
 | 0,_=>by
  have e:=F5 fr a 0;rw[show a-a=((0:Nat):Int)from og]at e;rw[cA,e];omega
 | k+1,h=>by
  have e:df fr a ((k+1:Nat):Int) 0=ad (df fr a k 0) (a+k) 0:=by
   have:=F6 (f:=fr) (a:=a) (i:=a+k) (v:=0) (u:=0) og rfl;rw[show a+(k:Int)-a=k from og,show a+(k:Int)+1-a=((k+1:Nat):Int)from og]at this;exact this.symm
  have e2:df fr a k 0 (a+k)=fr (a+k):=by unfold df;rw[if_neg og]
  rw[e,yB _ og og,Hv fr h0 hg (k:=k) og,e2,cA,if_neg (c:=(0:Int)=g+1) og];omega
structure Acc (v:VB) (F:Int->Int):Prop where
 ok:v.Ok
 rf:∀ g,0<=g->g<64->v.rf g=F g
 us:∀ g,0<=g->g<64->v.bb.ep g=if F g=0 then 0 else 1
theorem Acc.congr{v:VB}{F G:Int->Int}(h:Acc v F)(e:∀ g,0<=g->g<64->F g=G g):Acc v G:=
 ⟨h.ok,fun g a b=>(h.rf g a b).trans (e g a b),fun g a b=>by rw[h.us g a b,e g a b]⟩
def Acc.copy{v:VB}{F:Int->Int}(h:Acc v F)(f g:Int):Acc (v.copy f g) F:=⟨h.ok.copy f g,h.rf,h.us⟩
theorem Acc.take{v:VB}{F:Int->Int}(h:Acc v F)(e:v.take.2.1=0):(0<=v.take.1/\v.take.1<64)/\F v.take.1=0/\Acc v.take.2.2 (ad F v.take.1 1):=by
 have c:(v.bb.take 0).2.1=0:=by
  grind [lB]
 obtain⟨_,hr,hu,_,hn⟩:=h.ok.bb.C7 c;have hF:F (v.bb.take 0).1=0:=by
  grind [Acc.us]
 have ho:=h.ok.take;rw[VB.lq c]at ho ⊢;refine⟨hr,hF,ho,fun g a b=> ?_,fun g a b=> ?_⟩
 ·grind [ad,Acc.rf]
 ·show(v.bb.take 0).2.2.ep g=_;rw[hn];grind [ad,Acc.us]
theorem Acc.drop{v:VB}{F:Int->Int}(h:Acc v F){g:Int}(hg:0<=g/\g<64)(h1:1<=F g):Acc (v.drop g) (ad F g (F g-1)):=by
 have hr:=h.rf g hg.1 hg.2;refine⟨h.ok.drop og,fun x a b=> ?_,fun x a b=> ?_⟩
 ·rw[(C9 v g).1];unfold ad;split
  ·omega
  ·exact h.rf x a b
 ·have hu:=h.us g hg.1 hg.2;rw[if_neg og]at hu;by_cases c:v.rf g-1=0
  ·rw[vn c];have ht:v.bb.tk g=true:=by
    unfold BB.ep at hu;cases q:v.bb.tk g with
    | true=>rfl
    | false=>rw[q]at hu;simp at hu
   have hw:=(h.ok.bb.UH (a:=g) (by rw[C8,BB.CP og ht])).2.2.1;show(v.bb.o8 g).2.ep x=_;rw[hw];unfold ad;split
   ·rw[if_pos og]
   ·exact h.us x a b
  ·rw[vo c];show v.bb.ep x=_;unfold ad;split
   ·rename_i q;subst q;rw[if_neg og];exact hu
   ·exact h.us x a b
theorem Acc.A9{v:VB}{F:Int->Int}{fr:Int->Int}{a:Int}(hl:∀ i,0<=fr i/\fr i<=64):∀ (k:Nat),Acc v F->(∀ g,0<=g->g<64->cA fr a g k<=F g)->Acc (A9 v fr a k).2 (fun g=>F g-cA fr a g k)
 | 0,h,_=>h.congr fun g _ _=>by simp[cA]
 | k+1,h,hF=>by
  have ih:=Acc.A9 (a:=a) hl k h (fun g a1 b=>by have:=hF g a1 b;rw[cA]at this;split at this<;>omega);rw[Go.X.Vm.A9];unfold UB;have hk:=hl (a+k);split
  ·rename_i c;have h1:=hF (fr (a+k)-1) og og;rw[cA,if_pos og]at h1;refine(ih.drop (g:=fr (a+k)-1) og (by show 1<=F _-cA _ _ _ _;omega)).congr fun g x y=> ?_;grind [ad,cA]
  grind [Acc.congr,cA]
theorem U0{rf fr:Int->Int}{g:Int}(hg:0<=g)(hl:∀ i,0<=fr i):∀ k,yo rf fr k g=rf g+cM fr g k
 | 0=>by simp[yo,cM]
 | k+1=>by
  have ih:=U0 (rf:=rf) hg hl k;have:=hl k;rw[yo,cM];grind [ad]
theorem Ah{rf fr:Int->Int}(hl:∀ i,0<=fr i/\fr i<=64){g:Int}(hg:g<0\/64<=g):∀ k,yo rf fr k g=rf g
 | 0=>rfl
 | k+1=>by
  have:=hl k;rw[yo];split
  ·rw[ae _ _ og];exact Ah hl hg k
  simp_all[Ah]
theorem Acc.im{v:VB}{F:Int->Int}(h:Acc v F){m:MS}(hm:m.Ok)(hF:∀ g,0<=g->g<64->cM m.fr g 16<=F g/\F g<=1000):Acc (v.im m) (fun g=>F g+cM m.fr g 16):=by
 have e:∀ g,0<=g->g<64->(v.im m).rf g=F g+cM m.fr g 16:=fun g a b=>by
  show yo v.rf m.fr 16 g=_;rw[U0 a fun i=>(hm.lo i).1,h.rf g a b]
 refine⟨⟨h.ok.bb,fun g=> ?_,h.ok.fR⟩,e,fun g a b=> ?_⟩
 ·by_cases q:0<=g/\g<64
  ·rw[e g q.1 q.2];have:=hF g q.1 q.2;have:=Bi m.fr g 16;omega
  ·show 0<=yo v.rf m.fr 16 g/\_;rw[show(v.im m).rf g=yo v.rf m.fr 16 g from rfl,Ah hm.lo og];exact h.ok.rf g
 ·show v.bb.ep g=_;rw[h.us g a b];have:=hF g a b;have:=Bi m.fr g 16;omega
def mT(f:Nat->MS)(g:Int):Nat->Int
 | 0=>0
 | k+1=>mT f g k+cM (f k).fr g 16
def aJ{α:Type}(f:Nat->α)(z:Nat)(m:α):Nat->α:=fun j=>if j=z then m else f j
theorem bW{α:Type}(f:Nat->α)(z:Nat)(m:α):aJ f z m z=m:=if_pos rfl
theorem b7{α:Type}(f:Nat->α){j:Nat}(m:α)(h:j≠z):aJ f z m j=f j:=if_neg h
theorem fJ{α:Type}(f:Nat->α)(z:Nat):aJ f z (f z)=f:=by
 grind [aJ]
def MF(f:Nat->MS)(g:Int):∀ k,0<=mT f g k/\mT f g k<=16*k
 | 0=>by simp[mT]
 | k+1=>by have:=MF f g k;have:=Bi (f k).fr g 16;rw[mT];omega
theorem J5(f:Nat->MS)(g:Int){z:Nat}{m:MS} :∀ {k:Nat},k<=z->mT (aJ f z m) g k=mT f g k
 | 0,_=>rfl
 | k+1,h=>by rw[mT,mT,J5 f g (k:=k) og,b7 _ _ og]
theorem jN(f:Nat->MS)(g:Int){z:Nat}{m:MS} :∀ {k:Nat},z<k->mT (aJ f z m) g k=mT f g k-cM (f z).fr g 16+cM m.fr g 16
 | 0,h=>og
 | k+1,h=>by
  rw[mT,mT];by_cases c:z=k
  ·subst c;rw[J5 f g (Nat.le_refl _),bW];omega
  ·rw[jN f g (k:=k) og,b7 _ _ og];omega
def uk(f:Nat->MS)(g:Int){z:Nat} :∀ {k:Nat},z<k->cM (f z).fr g 16<=mT f g k
 | 0,h=>og
 | k+1,h=>by
  rw[mT];have:=MF f g k;have:=Bi (f k).fr g 16;by_cases c:z=k
  ·grind
  ·have:=uk f g (z:=z) (k:=k) og;omega
structure Sys (v:VB) (f:Nat->MS) (k:Nat):Prop where
 ja:Acc v fun g=>mT f g k
 mo:∀ j,j<k->(f j).Ok
theorem MS.Ok.ng{m:MS}(h:m.Ok)(hi:0<m.fr i):0<=i/\i<16:=by
 by_cases c:0<=i/\i<16
 ·exact c
 ·have:=h.un i (h.f.out i og);omega
theorem Sys.In{v:VB}{f:Nat->MS}{k z:Nat}(h:Sys v f k)(hz:z<k):(f z).In v:=fun i hi=>by
 have hm:=h.mo z hz;have hr:=hm.ng hi;have hl:=hm.lo i;rw[h.ja.rf _ og og];have h1:=Dk (fr:=(f z).fr) (g:=(f z).fr i-1) hr.1 og (k:=16) og;have h2:=uk f ((f z).fr i-1) hz;omega
theorem Sys.free{v:VB}{f:Nat->MS}(h:Sys v f k)(hz:z<k){x:Int}(h0:mT f x k=0)(i:Int):(f z).fr i≠x+1\/x+1<=0:=by
 by_cases c:(f z).fr i=x+1/\0<x+1
 ·have hr:=(h.mo z hz).ng (i:=i) og;have h1:=Dk (fr:=(f z).fr) (g:=x) hr.1 c.1 (k:=16) og;have h2:=uk f x hz;omega
 omega
theorem Sys.same{v:VB}{f:Nat->MS}(h:Sys v f k)(hz:z<k){m:MS}(hm:m.Ok)(e:m.fr=(f z).fr):Sys v (aJ f z m) k:=
 ⟨h.ja.congr fun g _ _=>by rw[jN f g hz,e];omega,fun j hj=>by
  unfold aJ;split
  ·exact hm
  ·exact h.mo j hj⟩
theorem MS.Ok.tf{m:MS}(h:m.Ok){n x:Int}(hn:m.ax n≠0)(hx:0<=x/\x<64)(hf:∀ i,i≠n->m.fr i≠x+1):(m.tf n x).Ok:=by
 refine⟨h.f,fun i=> ?_,fun i hi=> ?_,fun i hi=> ?_,fun i j hi IB=> ?_⟩
 ·show 0<=ad m.fr n (x+1) i/\ad m.fr n (x+1) i<=64;unfold ad;split
  ·omega
  ·exact h.lo i
 ·show ad m.fr n (x+1) i=0;grind [ae,MS.Ok.un,MS.tf]
 ·show ad m.aX n true i=false;have hi:ad m.fr n (x+1) i=0:=hi;grind [aj,ae,MS.Ok.ow]
 ·have hi:0<ad m.fr n (x+1) i:=hi;have IB:ad m.fr n (x+1) i=ad m.fr n (x+1) j:=IB;grind [aj,ae,MS.Ok.inj]
def F7{m:MS}(h:m.sm a w=true):m.ax (a/8)≠0:=by
 grind [MS.sm]
def MS.acs{m:MS}(h:m.Ok)(hn:m.fr n≠0):({m with aX:=ad m.aX n true} :MS).Ok:=
 ⟨h.f,h.lo,h.un,fun i hi=>by
  show ad m.aX n true i=false
  have hi:m.fr i=0:=hi
  rw[ae _ _ fun (e:i=n)=>hn (by rw[<-e];exact hi)];exact h.ow i hi,h.inj⟩
theorem Sys.bF{v:VB}{f:Nat->MS}{k z:Nat}(h:Sys v f k)(hz:z<k)(a:Int)(w:Bool):Sys ((f z).bF v a w).2.2.1 (aJ f z ((f z).bF v a w).2.2.2) k:=by
 have hm:=h.mo z hz;have hl:=hm.lo (a/8);rcases MS.lK v (f z) a w with⟨_,e⟩ | ⟨hr,⟨_,e⟩ | ⟨h0,q,e⟩ | ⟨_,_,e⟩ | ⟨h0,_,_,e⟩ | ⟨h0,q,r,_,e⟩⟩<;>rw[e]
 ·grind [fJ]
 ·grind [fJ]
 ·obtain⟨hx,hF,ha⟩:=h.ja.take q;have hF:mT f v.take.1 k=0:=hF;have Iy:=MS.kB hr;refine⟨ha.congr fun g a1 b=> ?_,fun j hj=> ?_⟩
  ·rw[jN f g hz];show ad (fun g=>mT f g k) v.take.1 1 g=_-_+cM (ad (f z).fr (a/8) (v.take.1+1)) g 16;rw[yB _ og og,h0,if_neg (c:=(0:Int)=g+1) og];grind [ad]
  ·unfold aJ;split
   ·exact hm.tf (F7 hr) hx (fun i _=>by rcases h.free hz hF i with q | q<;>omega)
   grind [Sys.mo]
 ·grind [fJ]
 ·exact h.same hz (MS.acs hm h0) rfl
 ·obtain⟨hx,hF,ha⟩:=h.ja.take q;have hF:mT f v.take.1 k=0:=hF;have Iy:=MS.kB hr;have hy:1<=mT f ((f z).fr (a/8)-1) k:=by
   have h1:=Dk (fr:=(f z).fr) (g:=(f z).fr (a/8)-1) (i:=a/8) og og (k:=16) og;have h2:=uk f ((f z).fr (a/8)-1) hz;omega
  have fN:(f z).fr (a/8)-1≠v.take.1:=fun e=>by rw[e]at hy;omega
  refine⟨((ha.copy _ _).drop (g:=(f z).fr (a/8)-1) og (by rw[ae _ _ fN];exact hy)).congr fun g a1 b=> ?_,fun j hj=> ?_⟩
  ·rw[jN f g hz];show ad (ad (fun g=>mT f g k) v.take.1 1) ((f z).fr (a/8)-1) _ g=_-_+cM (ad (f z).fr (a/8) (v.take.1+1)) g 16;rw[yB _ og og,ae _ _ fN];grind [ad]
  ·unfold aJ;split
   ·exact hm.tf (F7 hr) hx (fun i _=>by rcases h.free hz hF i with q | q<;>omega)
   grind [Sys.mo]
def afF{fr:Int->Int}{g:Int}(h0:0<=a)(hg:0<=g)(hk:a+k<=16):cA fr a g k<=cM fr g 16:=by
 have:=Hv fr h0 hg hk;have:=Bi (df fr a k 0) g 16;omega
theorem Sys.cS{v:VB}{f:Nat->MS}{k z:Nat}(h:Sys v f k)(hz:z<k)(a n:Int):Sys ((f z).cS v a n).2.2.1 (aJ f z ((f z).cS v a n).2.2.2) k:=by
 have hm:=h.mo z hz;by_cases hb:fT a n
 ·rw[MS.vt hb];rw[fJ];exact h
 ·have ho:=hm.cS (v:=v) a n;unfold MS.cS at ho ⊢;rw[if_neg hb]at ho ⊢;unfold fT at hb;have hn:((n.toNat:Nat):Int)=n:=og;refine⟨(h.ja.A9 hm.lo n.toNat (fun g a1 b=>by
   have:=afF (fr:=(f z).fr) (a:=a) (g:=g) og a1 (k:=n.toNat) og
   have:=uk f g hz
   show _<=mT f g k
   omega)).congr fun g a1 b=> ?_,fun j hj=> ?_⟩
  ·rw[jN f g hz];show mT f g k-_=_-_+cM (df (f z).fr a n 0) g 16;have:=Hv (f z).fr (a:=a) (g:=g) og a1 (k:=n.toNat) og;rw[hn]at this;rw[this];omega
  ·unfold aJ;split
   ·exact ho
   ·exact h.mo j hj
theorem Sys.load{v:VB}{f:Nat->MS}{k z:Nat}(h:Sys v f k)(hz:z<k)(a:Int):Sys ((f z).load v a).2.2.1 (aJ f z ((f z).load v a).2.2.2) k:=by
 grind [Sys.bF,MS.load]
theorem Sys.store{v:VB}{f:Nat->MS}{k z:Nat}(h:Sys v f k)(hz:z<k)(a b:Int)(hb:0<=b/\b<256):Sys ((f z).store v a b).2.1 (aJ f z ((f z).store v a b).2.2) k:=by
 have ht:=h.bF hz a true;by_cases e:((f z).bF v a true).2.1=0
 ·rw[MS.uj e];refine⟨⟨⟨ht.ja.ok.bb,ht.ja.ok.rf,fun x j=> ?_⟩,ht.ja.rf,ht.ja.us⟩,ht.mo⟩;show 0<=cI ((f z).bF v a true).2.2.1.fR ((f z).bF v a true).1 (a%8) b x j/\cI ((f z).bF v a true).2.2.1.fR ((f z).bF v a true).1 (a%8) b x j<256;unfold cI;split
  ·omega
  ·exact ht.ja.ok.fR x j
 grind [MS.store]
def B4(z:Int):0<=IntKind.u8.wrap z/\IntKind.u8.wrap z<256:=by
 have e:IntKind.u8.wrap z=z%256:=rfl;omega
theorem Sys.cC:Sys VB.cC (fun _=>MS.nil) 1:=by
 have h0:∀ g:Int,0<=g->mT (fun _=>MS.nil) g 1=0:=fun g hg=>by
  rw[mT,mT];have e:∀ k,cM MS.nil.fr g k=0:=fun k=>by
   induction k with
   | zero=>rfl
   | succ k ih=>rw[cM,ih,show MS.nil.fr k=0 from rfl,if_neg og];rfl
  simp_all
 refine⟨⟨VB.Ok.cC,fun g a b=>(h0 g a).symm,fun g a b=> ?_⟩,fun _ _=>MS.Ok.nil⟩;grind [BB.cC,BB.ep,VB.cC]
end Go.X.Vm

namespace Go.X.Tr
open Go Go.X
variable{w:Bool}{s t x:ByteArray}{d k m n:Int}{l:List ByteArray}{i:Nat}
structure PS where
 b:Int->ByteArray
 e:Int->Int->Int
structure PS.Inv (K:Int) (s:PS):Prop where
 e0:∀ n,0<=s.e n 0/\s.e n 0<=K
 e1:∀ n,0<=s.e n 1/\s.e n 1<=K
 cl:∀ n,s.e n 0+s.e n 1=0->s.b n=⟨#[]⟩
 len:∀ n,(s.b n).size<=12
theorem PS.Inv.mono{K K':Int}{s:PS}(h:s.Inv K)(hk:K<=K'):s.Inv K':=
 ⟨fun n=>⟨(h.e0 n).1,by have:=(h.e0 n).2;omega⟩,fun n=>⟨(h.e1 n).1,by have:=(h.e1 n).2;omega⟩,h.cl,h.len⟩
def PS.cC:PS:=⟨fun _=>⟨#[]⟩,fun _ _=>0⟩
theorem PS.Inv.cC:PS.cC.Inv 0:=⟨fun _=>by simp[PS.cC],fun _=>by simp[PS.cC],fun _ _=>rfl,fun _=>by simp[PS.cC,ByteArray.size]⟩
def PS.is(s:PS)(n:Int):Int:=if n<0\/8<=n then 1 else if s.e n 0+s.e n 1=0 then 2 else 0
def PS.make(s:PS):Int×Int×PS:=match dS (fun k=>s.e k 0+s.e k 1==0) 8 with
 | some k=>(k,0,{s with e:=cI (cI s.e k 0 1) k 1 1})
 | none=>(0,4,s)
def Iz(w:Bool):Int:=if w then 1 else 0
def PS.mL(s:PS)(n:Int)(w:Bool)(d:Int):Int×PS:=
 if s.is n≠0 then(s.is n,s)else if s.e n (Iz w)=0 then(8,s)else
  (0,{b:=if s.e n 0+s.e n 1+d=0 then ad s.b n ⟨#[]⟩else s.b,e:=cI s.e n (Iz w) (s.e n (Iz w)+d)})
def PS.mU(s:PS)(n m:Int):ByteArray×Int×PS:=
 if s.is n≠0 then(⟨#[]⟩,s.is n,s)else if s.e n 0=0 then(⟨#[]⟩,8,s)else if m<0 then(⟨#[]⟩,1,s)else
 if s.b n=⟨#[]⟩/\s.e n 1>0/\m>0 then(⟨#[]⟩,13,s)else
  ((s.b n).extract 0 (min m (s.b n).size).toNat,0,{s with b:=ad s.b n ((s.b n).extract (min m (s.b n).size).toNat (s.b n).size)})
def PS.cb(s:PS)(n:Int)(t:ByteArray):Int×Int×PS:=
 if s.is n≠0 then(0,s.is n,s)else if s.e n 1=0 then(0,8,s)else if s.e n 0=0 then(0,12,s)else
 if min (t.size:Int) (12-(s.b n).size)=0/\t.size>0 then(0,13,s)else
  (min (t.size:Int) (12-(s.b n).size),0,{s with b:=ad s.b n (s.b n++t.extract 0 (min (t.size:Int) (12-(s.b n).size)).toNat)})
def BJ(f:Int->Bool):Nat->Int
 | 0=>0
 | n+1=>BJ f n+if f n then 1 else 0
def YK(f:Int->Bool)(n:Nat):0<=BJ f n/\BJ f n<=n:=by
 induction n with
 | zero=>simp[BJ]
 | succ n ih=>simp only[BJ];split<;>omega
def bO(s:PS)(i:Nat):Value:=
 if i%3=0/\i/3<8 then .string (s.b ((i/3:Nat):Int))else
 if 1<=i/\(i-1)%3=0/\(i-1)/3<8 then iI (s.e (((i-1)/3:Nat):Int) 0)else
 if 2<=i/\(i-2)%3=0/\(i-2)/3<8 then iI (s.e (((i-2)/3:Nat):Int) 1)else
 undef
def dN(s:PS)(z0:Int)(q0:0<=z0/\z0<8:=by omega):(((0+0)+z0.toNat*3)+0)<24/\bO s (((0+0)+z0.toNat*3)+0)= .string (s.b z0):=by
 grind [bO]
def iJ(s:PS)(z0:Int)(q0:0<=z0/\z0<8)(v:ByteArray):(((0+0)+z0.toNat*3)+0)<24/\dJ (bO s) (((0+0)+z0.toNat*3)+0) (.string (v))=bO ({s with b:=ad s.b z0 v}):=by
 grind [dJ,ad,bO]
def eB(s:PS)(z0:Int)(q0:0<=z0/\z0<8:=by omega):(((0+0)+z0.toNat*3)+1)<24/\bO s (((0+0)+z0.toNat*3)+1)=iI (s.e z0 0):=by
 grind [bO]
def l9(s:PS)(z0:Int)(q0:0<=z0/\z0<8)(v:Int):(((0+0)+z0.toNat*3)+1)<24/\dJ (bO s) (((0+0)+z0.toNat*3)+1) (iI (v))=bO ({s with e:=cI s.e z0 0 v}):=by
 grind [dJ,cI,bO]
def ea(s:PS)(z0:Int)(q0:0<=z0/\z0<8:=by omega):(((0+0)+z0.toNat*3)+2)<24/\bO s (((0+0)+z0.toNat*3)+2)=iI (s.e z0 1):=by
 grind [bO]
def lC(s:PS)(z0:Int)(q0:0<=z0/\z0<8)(v:Int):(((0+0)+z0.toNat*3)+2)<24/\dJ (bO s) (((0+0)+z0.toNat*3)+2) (iI (v))=bO ({s with e:=cI s.e z0 1 v}):=by
 grind [dJ,cI,bO]
theorem lL{s:PS}(h:s.is n≠0):s.mL n w d=(s.is n,s):=by simp[PS.mL,h]
theorem jH{s:PS}(h:s.is n=0)(he:s.e n (Iz w)=0):s.mL n w d=(8,s):=by grind [PS.mL]
theorem PS.B5{s:PS}(h:s.is n=0)(he:¬s.e n (Iz w)=0)(hz:¬s.e n 0+s.e n 1+d=0:=by omega):s.mL n w d=(0,{s with e:=cI s.e n (Iz w) (s.e n (Iz w)+d)}):=by
 grind [PS.mL]
theorem PS.vv{s:PS}(h:s.is n=0)(he:¬s.e n (Iz w)=0)(hz:s.e n 0+s.e n 1+d=0:=by omega):s.mL n w d=(0,{b:=ad s.b n ⟨#[]⟩,e:=cI s.e n (Iz w) (s.e n (Iz w)+d)}):=by
 grind [PS.mL]
theorem PS.jB(s:PS)(n:Int):(s.is n=0/\0<=n/\n<8/\¬s.e n 0+s.e n 1=0)\/(s.is n=1/\(n<0\/8<=n))\/(s.is n=2/\0<=n/\n<8/\s.e n 0+s.e n 1=0):=by
 grind [PS.is]
def B6{g:Int->Int->Int}(h0:g n 0=0:=by omega)(h1:g n 1=0:=by omega):cI (cI g n 0 0) n 1 0=g:=by
 grind [cI]
theorem J6{s:PS}(h:s.is n≠0):s.mU n m=(⟨#[]⟩,s.is n,s):=by simp[PS.mU,h]
theorem EY{s:PS}(h:s.is n=0)(h0:s.e n 0=0):s.mU n m=(⟨#[]⟩,8,s):=by grind [PS.mU]
theorem EZ{s:PS}(h:s.is n=0)(h0:¬s.e n 0=0)(hm:m<0):s.mU n m=(⟨#[]⟩,1,s):=by grind [PS.mU]
theorem E0{s:PS}(h:s.is n=0)(h0:¬s.e n 0=0)(hm:¬m<0)(ha:s.b n=⟨#[]⟩/\s.e n 1>0/\m>0):s.mU n m=(⟨#[]⟩,13,s):=by
 grind [PS.mU]
theorem PS.Hw{s:PS}(h:s.is n=0)(h0:¬s.e n 0=0)(hm:¬m<0)(ha:¬(s.b n=⟨#[]⟩/\s.e n 1>0/\m>0)):s.mU n m=((s.b n).extract 0 (min m (s.b n).size).toNat,0,{s with b:=ad s.b n ((s.b n).extract (min m (s.b n).size).toNat (s.b n).size)}):=by
 grind [PS.mU]
theorem Hy{s:PS}(h:s.is n≠0):s.cb n t=(0,s.is n,s):=by simp[PS.cb,h]
theorem Dm{s:PS}(h:s.is n=0)(h0:s.e n 1=0):s.cb n t=(0,8,s):=by grind [PS.cb]
theorem BK{s:PS}(h:s.is n=0)(h0:¬s.e n 1=0)(h1:s.e n 0=0):s.cb n t=(0,12,s):=by grind [PS.cb]
theorem Dn{s:PS}(h:s.is n=0)(h0:¬s.e n 1=0)(h1:¬s.e n 0=0)(ha:min (t.size:Int) (12-(s.b n).size)=0/\t.size>0):s.cb n t=(0,13,s):=by
 grind [PS.cb]
theorem PS.J7{s:PS}(h:s.is n=0)(h0:¬s.e n 1=0)(h1:¬s.e n 0=0)(ha:¬(min (t.size:Int) (12-(s.b n).size)=0/\t.size>0)):s.cb n t=(min (t.size:Int) (12-(s.b n).size),0,{s with b:=ad s.b n (s.b n++t.extract 0 (min (t.size:Int) (12-(s.b n).size)).toNat)}):=by
 grind [PS.cb]
theorem PS.QX{s:PS}(h0:0<=k/\k<8)(hp:s.e k 0+s.e k 1=0)(hn:∀ j:Int,0<=j->j<k->s.e j 0+s.e j 1≠0):s.make=(k,0,{s with e:=cI (cI s.e k 0 1) k 1 1}):=by
 unfold PS.make;rw[fq h0.1 h0.2 (by simpa using hp) fun j h1 h2=>by simpa using hn j h1 h2];grind
theorem Hz{s:PS}(hn:∀ j:Int,0<=j->j<8->s.e j 0+s.e j 1≠0):s.make=(0,4,s):=by
 grind [PS.make,ft]
def QY{s:PS}{K:Int}(hI:s.Inv K)(h0:0<=k/\k<8)(hp:s.e k 0+s.e k 1=0):0+0+k.toNat*3+3<=24/\cD (bO s) (0+0+k.toNat*3) [.string ⟨#[]⟩,iI 1,iI 1]=bO {s with e:=cI (cI s.e k 0 1) k 1 1} :=by
 refine⟨og,?_⟩;have e1:=(iJ s k h0 ⟨#[]⟩).2;have hb:ad s.b k ⟨#[]⟩=s.b:=by
  grind [ad,PS.Inv.cl]
 rw[hb]at e1;have e2:=(l9 s k h0 1).2;have e3:=(lC {s with e:=cI s.e k 0 1} k h0 1).2;simp_all[cD]
def F8(s:PS)(h0:0<=k/\k<8:=by omega):0+0+k.toNat*3+3<=24/\cD (bO s) (0+0+k.toNat*3) [.string ⟨#[]⟩,iI 0,iI 0]=bO {b:=ad s.b k ⟨#[]⟩,e:=cI (cI s.e k 0 0) k 1 0} :=by
 refine⟨og,?_⟩;have e1:=(iJ s k h0 ⟨#[]⟩).2;have e2:=(l9 {s with b:=ad s.b k ⟨#[]⟩} k h0 0).2;have e3:=(lC {b:=ad s.b k ⟨#[]⟩,e:=cI s.e k 0 0} k h0 0).2;grind [cD]
abbrev blt(a b:ByteArray):Bool:=Op.bytesLess a.toList b.toList
theorem HA(a b:ByteArray):blt a b=true↔a.toList<b.toList:=by unfold blt;rw[Go.Proofs.bytesLess_eq,decide_eq_true_eq]
theorem toList_inj{a b:ByteArray}(h:a.toList=b.toList):a=b:=by
 grind [toList_beq]
theorem MG(a:ByteArray):blt a a=false:=by
 grind [HA]
theorem QZ{a b c:ByteArray}(h1:blt a b=true)(h2:blt b c=true):blt a c=true:=by grind [HA]
theorem Q3(a b:ByteArray):blt a b=true\/a=b\/blt b a=true:=by
 grind [HA,toList_inj]
abbrev oA(l:List ByteArray)(i:Nat):ByteArray:=l.getD i ByteArray.empty
def fk(l:List ByteArray):Prop:=∀ i j,i<j->j<l.length->blt (oA l i) (oA l j)=true
def ey:List ByteArray->ByteArray->Nat
 | [],_=>0
 | y::r,x=>if blt y x=true then ey r x+1 else 0
theorem ot:∀ (l:List ByteArray) (x:ByteArray),ey l x<=l.length
 | [],_=>Nat.le_refl _
 | y::r,x=>by
  unfold ey;split
  ·simp;exact ot r x
  ·omega
theorem yC:∀ (l:List ByteArray) (x:ByteArray) (i:Nat),i<ey l x->blt (oA l i) x=true
 | [],_,i,h=>by simp[ey]at h
 | y::r,x,i,h=>by
  unfold ey at h;split at h
  ·cases i with
   | zero=>simpa [oA]using (by assumption:blt y x=true)
   | succ i=>simpa [oA]using yC r x i og
  ·omega
theorem B7:∀ (l:List ByteArray) (x:ByteArray),ey l x<l.length->blt (oA l (ey l x)) x=false
 | [],_,h=>by simp at h
 | y::r,x,h=>by
  unfold ey at h ⊢;split
  ·rename_i c;rw[if_pos c]at h;simpa [oA]using B7 r x (by simpa using h)
  ·rename_i c;simpa [oA]using c
theorem HB(hl:fk l)(x:ByteArray)(h:ey l x<=i)(hi:i<l.length):blt (oA l i) x=false:=by
 grind [B7,QZ,fk]
def ph(l:List ByteArray)(x:ByteArray):Bool:=decide (ey l x<l.length/\oA l (ey l x)=x)
def HC(ID:Nat->Bool)(k N:Nat)(h1:∀ t,t<k->ID t=true)(h2:∀ t,k<=t->t<N->ID t=false):∀ (f lo hi:Nat),hi-lo<=f->lo<=k->k<=hi->hi<=N->Go.Lib.bsGo ID f lo hi=k
 | 0,lo,hi,hf,a,b,_=>by unfold Go.Lib.bsGo;omega
 | f+1,lo,hi,hf,a,b,c=>by
  unfold Go.Lib.bsGo;by_cases h:lo<hi
  ·rw[if_pos h];by_cases q:(lo+hi)/2<k
   ·rw[h1 _ q,if_pos rfl];exact HC ID k N h1 h2 f _ _ og og b c
   ·rw[h2 _ og og,if_neg sq];exact HC ID k N h1 h2 f _ _ og a og og
  ·rw[if_neg h];omega
theorem Dp(hl:fk l)(x:ByteArray):bsS l x=ey l x:=
 HC _ (ey l x) l.length (fun t ht=>yC l x t ht) (fun t ht hn=>HB hl x ht hn) _ _ _ og og (ot l x) (Nat.le_refl _)
def yD(hl:fk l)(x:ByteArray):I6 l x=ph l x:=by
 grind [I6,ph,Dp]
theorem ma :ph l x=true↔ey l x<l.length/\oA l (ey l x)=x:=by grind [ph]
theorem YL(hl:fk l)(hi:i<l.length)(h:oA l i=x):i=ey l x:=by
 rcases Nat.lt_trichotomy i (ey l x)with c | c | c
 ·have:=yC l x i c;grind [MG]
 ·omega
 grind [B7,fk]
theorem YM(hl:fk l)(h:ph l x=false)(hi:i<l.length):oA l i≠x:=fun e=>by
 grind [YL,ma]
theorem YN(hl:fk l)(h:ph l x=false)(h1:ey l x<=i)(hi:i<l.length):blt x (oA l i)=true:=by
 grind [Q3,HB,YM]
theorem Dq(l:List ByteArray)(p:Nat)(x:ByteArray)(j:Nat)(hp:p<=l.length):oA (l.insertIdx p x) j=if j<p then oA l j else if j=p then x else oA l (j-1):=by
 grind
theorem F9(l:List ByteArray)(p j:Nat):oA (l.eraseIdx p) j=if j<p then oA l j else oA l (j+1):=by
 grind
theorem fk.insert(hl:fk l)(h:ph l x=false):fk (l.insertIdx (ey l x) x):=fun i j IB hj=>by
 have hp:=ot l x;rw[List.length_insertIdx,if_pos hp]at hj;rw[Dq _ _ _ _ hp,Dq _ _ _ _ hp];by_cases c1:j<ey l x
 ·grind [fk]
 ·rw[if_neg c1];by_cases c2:j=ey l x
  ·rw[if_pos c2,if_pos og];exact yC l x i og
  grind [YN,fk]
theorem fk.OE(hl:fk l)(p:Nat)(hp:p<l.length):fk (l.eraseIdx p):=fun i j IB hj=>by
 grind [F9,fk]
theorem fk.nil:fk []:=fun i j _ h=>by simp at h
def YO(c:UInt8):Bool:=(decide (97<=c.toNat)&&decide (c.toNat<=122))||(decide (48<=c.toNat)&&decide (c.toNat<=57))||decide (c.toNat=46)
def ki(s:ByteArray):Bool:=(List.range s.size).all (fun i=>YO (s.get! i))&&(decide (1<=s.size/\s.size<=8)&&(decide (s≠⟨#[46]⟩)&&decide (s≠⟨#[46,46]⟩)))
def U1{j:Nat}{u:UInt8}(h:s[j]? =some u):s.get! j=u:=by
 have hj:j<s.size:=by
  grind
 rw[getElem?_pos s j hj]at h;have h2:=Option.some.inj h;rw[<-h2];show s.data[j]! =s.data[j];simp_all
def J8{j:Nat}(h:j<s.size):∃ u,s[j]? =some u:=⟨s[j],getElem?_pos s j h⟩
theorem yE :s=⟨#[]⟩↔s.size=0:=by
 constructor
 ·rintro rfl;rfl
 ·intro h;cases s with
  | mk d=>congr 1;exact Array.eq_empty_of_size_eq_zero h
structure FF where
 aN:Int->Int
 dD:Int->Int
 bK:Int->Int
 bj:Int->Int
 up:Int->Int
 data:Int->ByteArray
 aI:Int->List ByteArray
 kids:Int->List Int
 roots:List Int
structure FC extends FF where
 nP:Int->Option Addr
 nC:Int->Nat
 kP:Int->Option Addr
 kC:Int->Nat
 rP:Option Addr
 rC:Nat
def Xh(d:ByteArray)(at_:Nat)(x:ByteArray):ByteArray:=⟨((List.range (max d.size (at_+x.size))).map fun i=>if at_<=i/\i<at_+x.size then x.get! (i-at_)else if i<d.size then d.get! i else 0).toArray⟩
namespace FF
def cF(s:FF)(n k:Int):Int:=if n<0\/40<=n then 1 else if s.aN n=0 then 2 else if 0<k/\s.aN n≠k then 11 else 0
def wm(s:FF):Nat->Int
 | 0=> -1
 | k+1=>if s.aN (39-(k:Int))=0 then 39-(k:Int)else wm s k
def free(s:FF):Int:=wm s 40
def jE(s:FF)(z k t l u:Int):FF:=⟨ad s.aN z k,ad s.dD z t,ad s.bK z l,ad s.bj z 0,ad s.up z u,ad s.data z ByteArray.empty,ad s.aI z [],ad s.kids z [],s.roots⟩
def q8(s:FF)(z:Int):FF:=if s.bK z=0/\s.bj z=0 then s.jE z 0 0 0 0 else s
def qf(s:FF):Int:=if s.roots.length=4 then 4 else if s.free<0 then 4 else 0
def yF(s:FF):FF:=if s.qf=0 then {s.jE s.free 2 (s.roots.length:Int) 1 s.free with roots:=s.roots++[s.free]} else s
def w8(s:FF):Int:=if s.qf=0 then(s.roots.length:Int)else 0
def mF(s:FF)(t:Int):Int:=if t<0\/4<=t then 1 else if(s.roots.length:Int)<=t then 2 else 0
def fW(s:FF)(t:Int):Int:=if s.mF t=0 then jc s.roots t else 0
def ti(s:FF)(n:Int)(x:ByteArray)(k:Int):FF:= {s with aI:=ad s.aI n ((s.aI n).insertIdx (ey (s.aI n) x) x),kids:=ad s.kids n ((s.kids n).insertIdx (ey (s.aI n) x) k)}
def ew(s:FF)(n:Int)(x:ByteArray):FF:= {s with aI:=ad s.aI n ((s.aI n).eraseIdx (ey (s.aI n) x)),kids:=ad s.kids n ((s.kids n).eraseIdx (ey (s.aI n) x))}
def fK(s:FF)(n:Int)(x:ByteArray):Int:=if s.cF n 2≠0 then s.cF n 2 else if ph (s.aI n) x=true then 0 else 2
def bM(s:FF)(n:Int)(x:ByteArray):Int:=if s.fK n x=0 then jc (s.kids n) (ey (s.aI n) x)else 0
def fe(s:FF)(n:Int)(x:ByteArray):Int:=if s.cF n 2≠0 then s.cF n 2 else if ki x=false then 9 else if ph (s.aI n) x=true then 3 else if(s.aI n).length=8 then 4 else 0
def mG(s:FF)(n:Int)(x:ByteArray)(k:Int):Int:=if k≠1/\k≠2 then 1 else if s.fe n x≠0 then s.fe n x else if s.free<0 then 4 else 0
def pj(s:FF)(n:Int)(x:ByteArray)(k:Int):Int:=if s.mG n x k=0 then s.free else 0
def make(s:FF)(n:Int)(x:ByteArray)(k:Int):FF:=if s.mG n x k=0 then(s.jE s.free k (s.dD n) 1 n).ti n x s.free else s
def uo(s:FF)(ie n:Int)(x:ByteArray):Int:=if s.cF ie 1≠0 then s.cF ie 1 else if s.fe n x≠0 then s.fe n x else if s.dD ie≠s.dD n then 11 else 0
def Dr(s:FF)(ie n:Int)(x:ByteArray):FF:=if s.uo ie n x=0 then {s.ti n x ie with bK:=ad s.bK ie (s.bK ie+1)} else s
def MH(s:FF)(k:Int):Prop:=s.aN k=2/\(0<(s.kids k).length\/0<s.bj k)
instance (s:FF) (k:Int):Decidable (s.MH k):=by unfold MH;infer_instance
def dp(s:FF)(n:Int)(x:ByteArray):Int:=if s.fK n x≠0 then s.fK n x else if s.MH (s.bM n x)then 5 else 0
def dG(s:FF)(n:Int)(x:ByteArray):FF:=if s.dp n x=0 then q8 {s.ew n x with bK:=ad s.bK (s.bM n x) (s.bK (s.bM n x)-1)} (s.bM n x)else s
def Ai(s:FF):Nat->Int->Int->Bool
 | 0,n,k=>decide (n=k)
 | f+1,n,k=>if n=k then true else if s.up n=n then false else Ai s f (s.up n) k
def J9(d:Int->Nat)(s:FF)(n k:Int):Bool:=Ai s (d n) n k
def fX(d:Int->Nat)(s:FF)(n:Int)(x:ByteArray)(to:Int):Int:=if s.fK n x≠0 then s.fK n x else if s.cF to 2≠0 then s.cF to 2 else if s.dD n≠s.dD to then 11 else if s.aN (s.bM n x)=2/\J9 d s to (s.bM n x)=true then 5 else 0
def eK(d:Int->Nat)(s:FF)(n:Int)(x:ByteArray)(to:Int)(y:ByteArray):Int:=if s.fX d n x to≠0 then s.fX d n x to else(s.ew n x).fe to y
def move(d:Int->Nat)(s:FF)(n:Int)(x:ByteArray)(to:Int)(y:ByteArray):FF:=
 if s.fX d n x to≠0 then s else if(s.ew n x).fe to y≠0 then(s.ew n x).ti n x (s.bM n x)else
  if s.aN (s.bM n x)=2 then {(s.ew n x).ti to y (s.bM n x)with up:=ad s.up (s.bM n x) to} else(s.ew n x).ti to y (s.bM n x)
def dZ(s:FF)(n:Int):FF:=if s.cF n 0=0 then {s with bj:=ad s.bj n (s.bj n+1)} else s
def Ds(s:FF)(n:Int):Int:=if s.cF n 0≠0 then s.cF n 0 else if s.bj n=0 then 8 else 0
def kO(s:FF)(n:Int):FF:=if s.Ds n=0 then q8 {s with bj:=ad s.bj n (s.bj n-1)} n else s
def me(s:FF)(n at_ m:Int):Int:=if s.cF n 1≠0 then s.cF n 1 else if at_<0\/m<0 then 1 else 0
def kJ(s:FF)(n at_ m:Int):ByteArray:=if s.me n at_ m=0 then(s.data n).extract (min at_ (s.data n).size).toNat (min at_ (s.data n).size+min m ((s.data n).size-min at_ (s.data n).size)).toNat else ByteArray.empty
def fc(s:FF)(n at_:Int)(x:ByteArray):Int:=if s.cF n 1≠0 then s.cF n 1 else if at_<0 then 1 else if 40<at_\/40-at_<(x.size:Int)then 4 else 0
def cb(s:FF)(n at_:Int)(x:ByteArray):FF:=if s.fc n at_ x=0/\x≠ByteArray.empty then {s with data:=ad s.data n (Xh (s.data n) at_.toNat x)} else s
def du:FF:=⟨fun _=>0,fun _=>0,fun _=>0,fun _=>0,fun _=>0,fun _=>ByteArray.empty,fun _=>[],fun _=>[],[]⟩
def HD(f:Int->List Int)(k:Int):Nat->Nat
 | 0=>0
 | n+1=>HD f k n+(f (n:Int)).count k
def Ga(s:FF)(k:Int):Nat:=HD s.kids k 40+s.roots.count k
structure Sh (s:FF):Prop where
 js:∀ n,0<=n->n<40->fk (s.aI n)/\(s.aI n).length=(s.kids n).length/\(s.aI n).length<=8/\(s.aN n≠2->s.aI n=[])
 kids:∀ n,0<=n->n<40->∀ k∈s.kids n,0<=k/\k<40
 data:∀ n,0<=n->n<40->(s.data n).size<=40
 roots:s.roots.length<=4/\∀ r∈s.roots,0<=r/\r<40
 num:∀ n,0<=n->n<40-> -1000000<=s.bK n/\s.bK n<=1000000/\0<=s.bj n/\s.bj n<=1000000
structure dQ (s:FF) (d:Int->Nat) (e q:Int):Prop where
 kinds:∀ n,0<=n->n<40->s.aN n=0\/s.aN n=1\/s.aN n=2
 js:∀ n,0<=n->n<40->fk (s.aI n)/\(s.aI n).length=(s.kids n).length/\(s.aI n).length<=8/\(s.aN n≠2->s.aI n=[])
 MI:∀ n,0<=n->n<40->∀ x∈s.aI n,ki x=true
 kids:∀ n,0<=n->n<40->∀ k∈s.kids n,0<=k/\k<40/\s.aN k≠0/\s.dD k=s.dD n/\(s.aN k=2->s.up k=n/\d n<d k)
 data:∀ n,0<=n->n<40->(s.data n).size<=40/\(s.aN n≠1->s.data n=ByteArray.empty)
 roots:s.roots.length<=4/\∀ r∈s.roots,0<=r/\r<40/\s.aN r=2/\s.up r=r
 up:∀ n,0<=n->n<40->s.aN n=2->n≠e->n≠q->(n∈s.roots/\s.up n=n)\/(0<=s.up n/\s.up n<40/\s.aN (s.up n)=2/\n∈s.kids (s.up n)/\d (s.up n)<d n)
 num:∀ n,0<=n->n<40->0<=s.bj n/\s.bK n=(s.Ga n:Int)+(if n=e then 1 else 0)
 zero:∀ n,0<=n->n<40->s.aN n=0->s.bK n=0/\s.bj n=0
 pos:∀ n,0<=n->n<40->s.aN n≠0->n≠q->0<s.bK n\/0<s.bj n
 Ka:∀ n,0<=n->n<40->s.aN n=2->n≠q->s.bK n=1
abbrev Inv(s:FF)(d:Int->Nat):Prop:=s.dQ d (-1) (-1)
def yG{s:FF}(h:s.cF n 0=0):0<=n/\n<40/\s.aN n≠0:=by
 grind [cF]
def jt{s:FF}(h:s.cF n k=0):0<=n/\n<40/\s.aN n≠0/\(0<k->s.aN n=k):=by
 grind [cF]
theorem U2{s:FF}(h:s.cF n 0≠0):s.cF n 0=s.cF n k:=by
 grind [cF]
def Mn(s:FF)(n k:Int):0<=s.cF n k:=by grind [cF]
end FF
def au:Nat->Bool:=fun i=>Nat.blt i 40
def FC.bd(e:TypeId)(s:FC):Nat->pZ:=fun i=>⟨.slice (s.nP (i:Int)) (s.aI (i:Int)).length (s.nC (i:Int)),e,1,(s.aI (i:Int)).length,strs (s.aI (i:Int))⟩
def FC.bh(e:TypeId)(s:FC):Nat->pZ:=fun i=>⟨.slice (s.kP (i:Int)) (s.kids (i:Int)).length (s.kC (i:Int)),e,1,(s.kids (i:Int)).length,fS (s.kids (i:Int))⟩
def FC.du:FC:=⟨FF.du,fun _=>none,fun _=>0,fun _=>none,fun _=>0,none,0⟩
theorem iV(C:Nat->Value):∀ (vs:List Value) (i j:Nat),j<i->cD C i vs j=C j
 | [],_,_,_=>rfl
 | v::r,i,j,h=>by
  unfold cD;rw[iV (dJ C i v) r (i+1) j og];simp[dJ];omega
theorem gh:∀ (vs:List Value) (C:Nat->Value) (i j:Nat) (v:Value),vs[j]? =some v->cD C i vs (i+j)=v
 | [],_,_,_,_,h=>by simp at h
 | u::r,C,i,0,v,h=>by
  have h2:u=v:=by simpa using h
  unfold cD;rw[iV _ _ _ _ og,<-h2];simp[dJ]
 | u::r,C,i,j+1,v,h=>by
  unfold cD;have:=gh r (dJ C i u) (i+1) j v (by simpa using h);rw[show i+1+j=i+(j+1)from og]at this;exact this
theorem jA:∀ (vs:List Value) (C:Nat->Value) (i j:Nat),i+vs.length<=j->cD C i vs j=C j
 | [],_,_,_,_=>rfl
 | v::r,C,i,j,h=>by
  simp only[List.length_cons]at h;unfold cD;rw[jA r (dJ C i v) (i+1) j og];simp[dJ];omega
structure aC.U where
 aN:Int
 dD:Int
 bK:Int
 bj:Int
 data:ByteArray
 up:Int
 aI:List ByteArray
 nP:Option Addr
 nC:Nat
 kids:List Int
 kP:Option Addr
 kC:Nat
def aC.un(s:FC)(z:Int):aC.U:=⟨s.aN z,s.dD z,s.bK z,s.bj z,s.data z,s.up z,s.aI z,s.nP z,s.nC z,s.kids z,s.kP z,s.kC z⟩
def aC.cell(u:aC.U)(j:Nat):Value:=
 if j=0 then iI u.aN else
 if j=1 then iI u.dD else
 if j=2 then iI u.bK else
 if j=3 then iI u.bj else
 if j=4 then .string u.data else
 if 5<=j/\j<6 then .slice u.nP u.aI.length u.nC else
 if 6<=j/\j<7 then .slice u.kP u.kids.length u.kC else
 if j=7 then iI u.up else
 undef
def aC(s:FC)(i:Nat):Value:=
 if i<320 then aC.cell (aC.un s ((i/8:Nat):Int)) (i%8)else
 if i=320 then Value.slice s.rP s.roots.length s.rC else
 undef
theorem aC.at_(s:FC)(z:Int)(h:0<=z/\z<40)(j:Nat)(hj:j<8):aC s (0+0+z.toNat*8+j)=aC.cell (aC.un s z) j:=by
 unfold aC;grind
theorem aC.set(s s':FC)(z:Int)(h:0<=z/\z<40)(k:Nat)(hk:k<8)(v:Value)(hv:∀ j,aC.cell (aC.un s' z) j=if j=k then v else aC.cell (aC.un s z) j)(ho:∀ y,¬y=z->aC.un s' y=aC.un s y)(hn:Value.slice s'.rP s'.roots.length s'.rC=Value.slice s.rP s.roots.length s.rC):0+0+z.toNat*8+k<321/\dJ (aC s) (0+0+z.toNat*8+k) v=aC s':=by
 grind [dJ,aC]
def aC.TX(s s':FC)(z:Int)(h:0<=z/\z<40)(vs:List Value)(hl:vs.length=8)(hv:∀ j,j<8->vs[j]? =some (aC.cell (aC.un s' z) j))(ho:∀ y,¬y=z->aC.un s' y=aC.un s y)(hn:Value.slice s'.rP s'.roots.length s'.rC=Value.slice s.rP s.roots.length s.rC):0+0+z.toNat*8+8<=321/\cD (aC s) (0+0+z.toNat*8) vs=aC s':=by
 refine⟨og,?_⟩;funext i;by_cases a1:i<0+0+z.toNat*8
 ·rw[iV _ _ _ _ a1];unfold aC;grind
 ·by_cases a2:i<0+0+z.toNat*8+8
  ·obtain⟨j,rfl⟩:∃ j,i=0+0+z.toNat*8+j:=⟨i-(0+0+z.toNat*8),og⟩;rw[aC.at_ s' z h j og];exact gh vs _ _ _ _ (hv j og)
  ·rw[jA _ _ _ _ og];unfold aC;grind
def fQ(s:FC)(z:Int)(h:0<=z/\z<40:=by omega):0+0+z.toNat*8+0<321/\aC s (0+0+z.toNat*8+0)=iI (s.aN z):=⟨og,aC.at_ s z h 0 og⟩
def gN(s:FC)(z:Int)(h:0<=z/\z<40:=by omega):0+0+z.toNat*8+1<321/\aC s (0+0+z.toNat*8+1)=iI (s.dD z):=⟨og,aC.at_ s z h 1 og⟩
def lr(s:FC)(z:Int)(h:0<=z/\z<40:=by omega):0+0+z.toNat*8+2<321/\aC s (0+0+z.toNat*8+2)=iI (s.bK z):=⟨og,aC.at_ s z h 2 og⟩
def nR(s:FC)(z:Int)(h:0<=z/\z<40)(v:Int):0+0+z.toNat*8+2<321/\dJ (aC s) (0+0+z.toNat*8+2) (iI v)=aC {s with bK:=ad s.bK z v} :=aC.set s {s with bK:=ad s.bK z v} z h 2 og _ (fun j=>by
 have e:aC.un {s with bK:=ad s.bK z v} z= {aC.un s z with bK:=v} :=by unfold aC.un;simp only[aj]
 rw[e]
 by_cases hj:j=2
 ·subst hj;rfl
 ·unfold aC.cell;simp only[if_neg hj]) (fun y hy=>by unfold aC.un;simp only[ae _ _ hy]) rfl
def kj(s:FC)(z:Int)(h:0<=z/\z<40:=by omega):0+0+z.toNat*8+3<321/\aC s (0+0+z.toNat*8+3)=iI (s.bj z):=⟨og,aC.at_ s z h 3 og⟩
def uq(s:FC)(z:Int)(h:0<=z/\z<40)(v:Int):0+0+z.toNat*8+3<321/\dJ (aC s) (0+0+z.toNat*8+3) (iI v)=aC {s with bj:=ad s.bj z v} :=aC.set s {s with bj:=ad s.bj z v} z h 3 og _ (fun j=>by
 have e:aC.un {s with bj:=ad s.bj z v} z= {aC.un s z with bj:=v} :=by unfold aC.un;simp only[aj]
 rw[e]
 by_cases hj:j=3
 ·subst hj;rfl
 ·unfold aC.cell;simp only[if_neg hj]) (fun y hy=>by unfold aC.un;simp only[ae _ _ hy]) rfl
def po(s:FC)(z:Int)(h:0<=z/\z<40:=by omega):0+0+z.toNat*8+4<321/\aC s (0+0+z.toNat*8+4)= .string (s.data z):=⟨og,aC.at_ s z h 4 og⟩
def Dt(s:FC)(z:Int)(h:0<=z/\z<40)(v:ByteArray):0+0+z.toNat*8+4<321/\dJ (aC s) (0+0+z.toNat*8+4) (.string v)=aC {s with data:=ad s.data z v} :=aC.set s {s with data:=ad s.data z v} z h 4 og _ (fun j=>by
 have e:aC.un {s with data:=ad s.data z v} z= {aC.un s z with data:=v} :=by unfold aC.un;simp only[aj]
 rw[e]
 by_cases hj:j=4
 ·subst hj;rfl
 ·unfold aC.cell;simp only[if_neg hj]) (fun y hy=>by unfold aC.un;simp only[ae _ _ hy]) rfl
def yH(s:FC)(z:Int)(h:0<=z/\z<40:=by omega):0+0+z.toNat*8+7<321/\aC s (0+0+z.toNat*8+7)=iI (s.up z):=⟨og,aC.at_ s z h 7 og⟩
def ss(s:FC)(z:Int)(h:0<=z/\z<40)(v:Int):0+0+z.toNat*8+7<321/\dJ (aC s) (0+0+z.toNat*8+7) (iI v)=aC {s with up:=ad s.up z v} :=aC.set s {s with up:=ad s.up z v} z h 7 og _ (fun j=>by
 have e:aC.un {s with up:=ad s.up z v} z= {aC.un s z with up:=v} :=by unfold aC.un;simp only[aj]
 rw[e]
 by_cases hj:j=7
 ·subst hj;rfl
 ·unfold aC.cell;simp only[if_neg hj]) (fun y hy=>by unfold aC.un;simp only[ae _ _ hy]) rfl
def fw(s:FC)(z:Int)(h:0<=z/\z<40:=by omega):0+0+z.toNat*8+5<321/\aC s (0+0+z.toNat*8+5)= .slice (s.nP z) (s.aI z).length (s.nC z):=⟨og,aC.at_ s z h 5 og⟩
def sS(s:FC)(z:Int)(h:0<=z/\z<40)(x:List ByteArray)(p:Option Addr)(c n:Nat)(hx:n=x.length):0+0+z.toNat*8+5<321/\dJ (aC s) (0+0+z.toNat*8+5) (.slice p n c)=aC {s with aI:=ad s.aI z x,nP:=ad s.nP z p,nC:=ad s.nC z c} :=by
 subst hx;exact aC.set s {s with aI:=ad s.aI z x,nP:=ad s.nP z p,nC:=ad s.nC z c} z h 5 og _ (fun j=>by
 have e:aC.un {s with aI:=ad s.aI z x,nP:=ad s.nP z p,nC:=ad s.nC z c} z= {aC.un s z with aI:=x,nP:=p,nC:=c} :=by unfold aC.un;simp only[aj]
 rw[e]
 by_cases hj:j=5
 ·subst hj;rfl
 ·unfold aC.cell
  simp only[show ¬(5<=j/\j<6)from og,hj,if_false]) (fun y hy=>by unfold aC.un;simp only[ae _ _ hy]) rfl
def mf(s:FC)(z:Int)(h:0<=z/\z<40:=by omega):0+0+z.toNat*8+6<321/\aC s (0+0+z.toNat*8+6)= .slice (s.kP z) (s.kids z).length (s.kC z):=⟨og,aC.at_ s z h 6 og⟩
def ur(s:FC)(z:Int)(h:0<=z/\z<40)(x:List Int)(p:Option Addr)(c n:Nat)(hx:n=x.length):0+0+z.toNat*8+6<321/\dJ (aC s) (0+0+z.toNat*8+6) (.slice p n c)=aC {s with kids:=ad s.kids z x,kP:=ad s.kP z p,kC:=ad s.kC z c} :=by
 subst hx;exact aC.set s {s with kids:=ad s.kids z x,kP:=ad s.kP z p,kC:=ad s.kC z c} z h 6 og _ (fun j=>by
 have e:aC.un {s with kids:=ad s.kids z x,kP:=ad s.kP z p,kC:=ad s.kC z c} z= {aC.un s z with kids:=x,kP:=p,kC:=c} :=by unfold aC.un;simp only[aj]
 rw[e]
 by_cases hj:j=6
 ·subst hj;rfl
 ·unfold aC.cell
  simp only[show ¬(6<=j/\j<7)from og,hj,if_false]) (fun y hy=>by unfold aC.un;simp only[ae _ _ hy]) rfl
end Go.X.Tr
