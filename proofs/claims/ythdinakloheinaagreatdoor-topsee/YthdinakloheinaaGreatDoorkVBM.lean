import Derived.Test.YthdinakloheinaaGreatDoorXFam
import Derived.Test.YthdinakloheinaaGreatDoorXQ
set_option linter.all false
namespace Go.X.Gr
open Go Go.X
variable{a k m n p:Int}
structure TG where
 aa:Int->Bool
 aA:Int->Int
 mp:Int->Int
 mg:Int->Int
 pr:Int->Int
 pg:Int->Int
def ja(aA:Int->Int):Nat->Int->List Int
 | 0,_=>[]
 | k+1,n=>if n<0 then []else n::ja aA k (aA n)
def kJ(aA:Int->Int):Int->List Int->Prop
 | n,[]=>n<0
 | n,x::r=>x=n/\0<=n/\n<10/\kJ aA (aA n) r
theorem kJ.Tt{aA:Int->Int} :∀ {n:Int} {l l':List Int},kJ aA n l->kJ aA n l'->l=l'
 | _,[],[],_,_=>rfl
 | _,[],_::_,h,k=>absurd h (by have:=k.2.1;simp only[kJ];omega)
 | _,_::_,[],h,k=>absurd k (by have:=h.2.1;simp only[kJ];omega)
 | _,_::_,_::_,⟨h1,_,_,h2⟩,⟨k1,_,_,k2⟩=>by subst h1;subst k1;rw[kJ.Tt h2 k2]
theorem kJ.range{aA:Int->Int} :∀ {n:Int} {l:List Int},kJ aA n l->∀ x∈l,0<=x/\x<10
 | _,[],_,_,h=>by simp at h
 | _,_::_,⟨h1,h2,h3,h4⟩,x,hx=>by
  rcases List.mem_cons.1 hx with rfl | hx
  ·subst h1;exact⟨h2,h3⟩
  ·exact kJ.range h4 x hx
theorem kJ.congr{aA par':Int->Int} :∀ {n:Int} {l:List Int},kJ aA n l->(∀ x∈l,par' x=aA x)->kJ par' n l
 | _,[],h,_=>h
 | _,x::r,⟨h1,h2,h3,h4⟩,hc=>by
  subst h1;refine⟨rfl,h2,h3,?_⟩;rw[hc x sq];exact kJ.congr h4 fun y hy=>hc y (List.mem_cons_of_mem _ hy)
abbrev P2:= {x:Int//0<=x/\x<10}
def l7(l:List P2):List Int:=l.map (·.1)
theorem FB(l:List P2)(x:P2):l7 (l++[x])=l7 l++[x.1]:=by simp[l7]
def qC:∀ (l:List Int),(∀ x∈l,0<=x/\x<10)->∃ l':List P2,l7 l'=l
 | [],_=>⟨[],rfl⟩
 | x::r,h=>by
  obtain⟨r',hr⟩:=qC r fun y hy=>h y (List.mem_cons_of_mem _ hy);exact⟨⟨x,h x sq⟩::r',by simp[l7]at*;exact hr⟩
def eZ(f:Int->Int):Nat->Int
 | 0=>0
 | k+1=>eZ f k+f (k:Int)
def aeH(p:Int->Bool):Nat->List Int
 | 0=>[]
 | k+1=>aeH p k++if p (k:Int)=true then [(k:Int)]else []
structure GV where
 aA:Int
 mp:Int
 mg:Int
 pr:Int
 pg:Int
def GV.cO(g:GV):Array Value:= #[iI g.aA,iI g.mp,iI g.mg,iI g.pr,iI g.pg]
def GV.room(g:GV)(p m:Int):Bool:=(decide (p=0)||decide (g.mp<0)||decide (g.pr+p<=g.mp))&&(decide (m=0)||decide (g.mg<0)||decide (g.pg+m<=g.mg))
namespace TG
def gv(s:TG)(n:Int):GV:=⟨s.aA n,s.mp n,s.mg n,s.pr n,s.pg n⟩
def EH(s:TG)(n:Int)(g:GV):TG:=⟨s.aa,ae s.aA n g.aA,ae s.mp n g.mp,ae s.mg n g.mg,ae s.pr n g.pr,ae s.pg n g.pg⟩
def cC(s:TG)(n:Int):List Int:=ja s.aA 5 n
def cx(s:TG)(n:Int):Int:=if n<0\/10<=n then 1 else if s.aa n=true then 0 else 2
def Wt(p m:Int):Int:=if p<0\/20<p\/m<0\/64<m then 1 else 0
def room(s:TG)(p m n:Int):Bool:=(s.gv n).room p m
def free(s:TG):Option Nat:=dv (fun n=> !s.aa n) 10
def put(s:TG)(k p:Int):TG:=⟨ae s.aa k true,ae s.aA k p,ae s.mp k (-1),ae s.mg k (-1),ae s.pr k 0,ae s.pg k 0⟩
def Hd(s:TG)(k:Int):TG:=⟨ae s.aa k false,ae s.aA k 0,ae s.mp k 0,ae s.mg k 0,ae s.pr k 0,ae s.pg k 0⟩
def wq(s:TG)(p:Int):Int:=if s.cx p≠0 then s.cx p else if(s.cC p).length=4 then 7 else if s.free=none then 4 else 0
def pV(s:TG)(p:Int):Int:=if s.wq p=0 then((s.free.getD 0:Nat):Int)else 0
def add(s:TG)(p:Int):TG:=if s.wq p=0 then s.put (s.pV p) p else s
def below(s:TG)(n:Int):Prop:=∃ k:Int,0<=k/\k<10/\s.aa k=true/\s.aA k=n
def lay(s:TG)(l:List Int)(p m:Int):TG:= {s with pr:=fun y=>s.pr y+p*(l.count y:Int),pg:=fun y=>s.pg y+m*(l.count y:Int)}
def nx(s:TG)(n p m:Int):Int:=if s.cx n≠0 then s.cx n else Wt p m
def cX(s:TG)(n p m:Int):Int:=if s.nx n p m≠0 then s.nx n p m else if(s.cC n).all (s.room p m)=true then 0 else 6
def cv(s:TG)(n p m:Int):TG:=if s.cX n p m=0 then s.lay (s.cC n) p m else s
def gF(s:TG)(f:Int->Int)(n k:Int):Int:=if s.aa k=true/\s.aA k=n then f k else 0
def left(s:TG)(f:Int->Int)(n:Int):Int:=f n-eZ (s.gF f n) 10
def gu(s:TG)(n p m:Int):Int:=if s.nx n p m≠0 then s.nx n p m else if p<=s.left s.pr n/\m<=s.left s.pg n then 0 else 8
def fa(s:TG)(n p m:Int):TG:=if s.gu n p m=0 then s.lay (s.cC n) (-p) (-m)else s
def jS(s:TG)(n p m:Int):Int:=if s.cx n≠0 then s.cx n else if p< -1\/20<p\/m< -1\/64<m then 1 else 0
def nN(s:TG)(n p m:Int):TG:=if s.jS n p m=0 then {s with mp:=ae s.mp n p,mg:=ae s.mg n m} else s
def fg(s:TG)(a b p m:Int):Int:=if s.cx b≠0 then s.cx b else if s.gu a p m≠0 then s.gu a p m else(s.fa a p m).cX b p m
def move(s:TG)(a b p m:Int):TG:=if s.cx b≠0\/s.gu a p m≠0 then s else if(s.fa a p m).cX b p m=0 then(s.fa a p m).cv b p m else s
def iB(s:TG)(n p m:Int):Option Int:=if s.nx n p m≠0 then none else(s.cC n).find? fun x=> !s.room p m x
def under(s:TG)(n o:Int):Bool:=if s.cx n≠0 then false else decide (o∈s.cC n)
def all(s:TG):List Int:=aeH s.aa 10
structure Ok (s:TG):Prop where
 rB:s.aa 0=true/\s.aA 0= -1
 tC:∃ d:Int->Nat,d 0=1/\∀ n,0<=n->n<10->s.aa n=true->1<=d n/\d n<=4/\(n≠0->0<=s.aA n/\s.aA n<10/\s.aa (s.aA n)=true/\d n=d (s.aA n)+1)
def Tu(s:TG)(n:Int):0<=s.cx n:=by unfold cx;split<;>(try split)<;>omega
def zB{s:TG}(h:s.cx n=0):0<=n/\n<10/\s.aa n=true:=by
 grind [cx]
def abA{s:TG}(h0:0<=n)(h1:n<10)(h2:s.aa n=true):s.cx n=0:=by
 grind [cx]
def vG(s:TG)(n:Int):s.cx n=0↔0<=n/\n<10/\s.aa n=true:=⟨zB,fun h=>abA h.1 h.2.1 h.2.2⟩
def CF(p m:Int):Wt p m=0↔0<=p/\p<=20/\0<=m/\m<=64:=by
 grind [Wt]
def NX{s:TG}(h:s.nx n p m=0:=by omega):(0<=n/\n<10/\s.aa n=true)/\0<=p/\p<=20/\0<=m/\m<=64:=by
 unfold nx at h;split at h
 ·omega
 ·rename_i h1;exact⟨zB og,(CF p m).1 h⟩
def Ok.Tv{s:TG}(h:s.Ok):∀ (f k:Nat),k<=f->∀ d:Int->Nat,d 0=1->(∀ n,0<=n->n<10->s.aa n=true->1<=d n/\d n<=4/\(n≠0->0<=s.aA n/\s.aA n<10/\s.aa (s.aA n)=true/\d n=d (s.aA n)+1))->
  ∀ n,0<=n->n<10->s.aa n=true->d n=k->kJ s.aA n (ja s.aA f n)/\(ja s.aA f n).length=k/\∀ x∈ja s.aA f n,s.aa x=true
 | 0,k,hk,d,d0,hd,n,h0,h1,h2,h3=>by have:=(hd n h0 h1 h2).1;omega
 | f+1,k,hk,d,d0,hd,n,h0,h1,h2,h3=>by
  have h4:=hd n h0 h1 h2;unfold ja;rw[if_neg og];by_cases hn:n=0
  ·subst hn;have hp:s.aA 0= -1:=h.rB.2;have e:ja s.aA f (s.aA 0)=[]:=by rw[hp];cases f<;>simp[ja]
   grind [kJ]
  ·obtain⟨p0,p1,p2,p3⟩:=h4.2.2 hn;obtain⟨q1,q2,q3⟩:=Ok.Tv h f (k-1) og d d0 hd (s.aA n) p0 p1 p2 og;grind [kJ]
theorem Ok.cC{s:TG}(h:s.Ok){n:Int}(h0:0<=n)(h1:n<10)(h2:s.aa n=true):kJ s.aA n (s.cC n)/\(s.cC n).length<=4/\∀ x∈s.cC n,s.aa x=true:=by
 obtain⟨d,d0,hd⟩:=h.tC;have h3:=hd n h0 h1 h2;obtain⟨q1,q2,q3⟩:=h.Tv 5 (d n) og d d0 hd n h0 h1 h2 rfl;exact⟨q1,by unfold TG.cC;omega,q3⟩
theorem Tw(s:TG)(l:List Int)(x p m:Int):s.lay (l++[x]) p m= {s.lay l p m with pr:=ae (s.lay l p m).pr x ((s.lay l p m).pr x+p),pg:=ae (s.lay l p m).pg x ((s.lay l p m).pg x+m)} :=by
 have h:∀ (f:Int->Int) (q:Int),(fun y=>f y+q*((l++[x]).count y:Int))=ae (fun y=>f y+q*(l.count y:Int)) x (f x+q*(l.count x:Int)+q):=fun f q=>by
  funext y;unfold ae;by_cases hy:y=x
  ·subst hy;rw[if_pos rfl,List.count_append,List.count_singleton_self];grind
  grind
 simp_all[lay]
def Xy(s:TG)(p m:Int):s.lay [] p m=s:=by simp[lay]
theorem Tx(s:TG)(l:List Int)(p m:Int):(s.lay l (-p) (-m)).lay l p m=s:=by
 unfold lay;have h:∀ (f:Int->Int) (q:Int),(fun y=>f y+ -q*(l.count y:Int)+q*(l.count y:Int))=f:=fun f q=>by
  grind
 simp_all
def bM(s:TG)(B:Int):Prop:=∀ n,0<=n->n<10-> -B<=s.pr n/\s.pr n<=B/\ -B<=s.pg n/\s.pg n<=B
theorem bM.mono{s:TG}{B B':Int}(h:s.bM B)(hb:B<=B'):s.bM B':=fun n h0 h1=>by have:=h n h0 h1;omega
def NY{c K:Int}(hc:0<=c)(hp: -K<=p/\p<=K)(hn:c<=n)(hK:0<=K:=by omega): -(K*n)<=p*c/\p*c<=K*n:=by
 have h1:p*c<=K*c:=Int.mul_le_mul_of_nonneg_right hp.2 hc;have h2: -K*c<=p*c:=Int.mul_le_mul_of_nonneg_right hp.1 hc;have h3:K*c<=K*n:=Int.mul_le_mul_of_nonneg_left hn hK;grind
theorem bM.lay{s:TG}{B:Int}(h:s.bM B){l:List Int}(hl:l.length<=5){p m:Int}(hp: -20<=p/\p<=20)(hm: -64<=m/\m<=64):(s.lay l p m).bM (B+320):=fun n h0 h1=>by
 have h2:=h n h0 h1;have hc:(l.count n:Int)<=5:=by have:=List.count_le_length (a:=n) (l:=l);omega
 have h3:=NY (p:=p) (c:=l.count n) (K:=20) og hp hc;have h4:=NY (p:=m) (c:=l.count n) (K:=64) og hm hc;show-(B+320)<=s.pr n+p*(l.count n:Int)/\s.pr n+p*(l.count n:Int)<=B+320/\ -(B+320)<=s.pg n+m*(l.count n:Int)/\s.pg n+m*(l.count n:Int)<=B+320;omega
end TG
def Jw(s:TG)(f:Int->Int)(n:Int)(h:0<=k):eZ (s.gF f n) (k+1).toNat=eZ (s.gF f n) k.toNat+s.gF f n k:=by
 rw[show(k+1).toNat=k.toNat+1 from og];grind [eZ]
def CG{f:Int->Int}{B:Int} :∀ (k:Nat),(∀ j:Int,0<=j->j<k-> -B<=f j/\f j<=B)-> -(B*k)<=eZ f k/\eZ f k<=B*k
 | 0,_=>by simp[eZ]
 | k+1,h=>by
  have h1:=CG k fun j h0 h1=>h j h0 og;grind [eZ]
def P3{s:TG}{B:Int}(h:s.bM B)(hB:0<=B/\B<=1000000000000)(hn:0<=n/\n<10)(h0:0<=k)(hk:k<=10:=by omega):(-(B*10)<=eZ (s.gF s.pr n) k.toNat/\eZ (s.gF s.pr n) k.toNat<=B*10)/\(-(B*10)<=eZ (s.gF s.pg n) k.toNat/\eZ (s.gF s.pg n) k.toNat<=B*10)/\s.bM B:=by
 have hm:B*(k.toNat:Int)<=B*10:=Int.mul_le_mul_of_nonneg_left og hB.1;have h1:=CG (f:=s.gF s.pr n) (B:=B) k.toNat (fun j j0 j1=>by
  have:=h j j0 og
  unfold TG.gF;split<;>omega)
 have h2:=CG (f:=s.gF s.pg n) (B:=B) k.toNat (fun j j0 j1=>by
  have:=h j j0 og
  unfold TG.gF;split<;>omega)
 grind
namespace TG
theorem Ok.lay{s:TG}(h:s.Ok)(l:List Int)(p m:Int):(s.lay l p m).Ok:=⟨h.rB,h.tC⟩
theorem Ok.fa{s:TG}(h:s.Ok){n p m:Int} :(s.fa n p m).Ok:=by
 unfold TG.fa;split
 ·exact h.lay _ _ _
 omega
theorem Ok.cv{s:TG}(h:s.Ok){n p m:Int} :(s.cv n p m).Ok:=by
 unfold TG.cv;split
 ·exact h.lay _ _ _
 ·exact h
theorem Ty(s:TG)(a p m n:Int):(s.fa a p m).cC n=s.cC n:=by unfold TG.fa;split<;>rfl
def xH{s:TG}(h:s.gu n p m=0):(0<=n/\n<10/\s.aa n=true)/\0<=p/\p<=20/\0<=m/\m<=64:=by
 unfold gu at h;split at h
 ·omega
 ·exact NX
def zC{s:TG}(h:s.cX n p m=0):(0<=n/\n<10/\s.aa n=true)/\0<=p/\p<=20/\0<=m/\m<=64:=by
 unfold cX at h;split at h
 ·omega
 ·exact NX
theorem bM.fa{s:TG}{B:Int}(h:s.bM B)(hO:s.Ok)(n p m:Int):(s.fa n p m).bM (B+320):=by
 unfold TG.fa;split
 ·rename_i h0;obtain⟨⟨n0,n1,n2⟩,p0,p1,m0,m1⟩:=xH h0;have:=(hO.cC n0 n1 n2).2.1;exact h.lay og og og
 ·exact h.mono og
theorem bM.cv{s:TG}{B:Int}(h:s.bM B)(hO:s.Ok)(n p m:Int):(s.cv n p m).bM (B+320):=by
 unfold TG.cv;split
 ·rename_i h0;obtain⟨⟨n0,n1,n2⟩,p0,p1,m0,m1⟩:=zC h0;have:=(hO.cC n0 n1 n2).2.1;exact h.lay og og og
 ·exact h.mono og
end TG
namespace TG
def wu(s:TG)(n:Int):Bool:=(List.range 10).any (fun k=>s.aa (k:Int)&&decide (s.aA (k:Int)=n))
def P4(s:TG)(n:Int):s.wu n=true↔s.below n:=by
 unfold wu below;simp only[List.any_eq_true,List.mem_range,Bool.and_eq_true,decide_eq_true_eq];constructor
 ·grind
 ·rintro⟨k,h1,h2,h3,h4⟩;refine⟨k.toNat,og,?_⟩;grind
theorem NZ{s:TG}(h0:0<=k)(h1:k<10)(h2:s.aa k=true)(h3:s.aA k=n):s.wu n=true:=(s.P4 n).2 ⟨k,h0,h1,h2,h3⟩
def Xz{s:TG}(h:∀ j:Int,0<=j->j<10->¬(s.aa j=true/\s.aA j=n)):s.wu n=false:=by
 grind [wu]
def cY(s:TG)(n:Int):Int:=if s.cx n≠0 then s.cx n else if n=0\/0<s.pr n\/0<s.pg n\/s.wu n=true then 5 else 0
def ed(s:TG)(n:Int):TG:=if s.cY n=0 then s.Hd n else s
def CH(s:TG)(n:Int):Int:=if s.cx n≠0 then s.cx n else if n=0\/s.pr n≠0\/s.pg n≠0\/s.wu n=true then 5 else 0
def xJ(s:TG)(n:Int):TG:=if s.CH n=0 then {s with aa:=ae s.aa n false} else s
def P5{s:TG}(h0:0<=k)(h1:k<10)(h2:s.aa k=false)(hn:∀ j:Int,0<=j->j<k->s.aa j=true):s.free=some k.toNat:=
 dW h0 h1 (by simp[h2]) fun j j0 j1=>by simp[hn j j0 j1]
theorem zD{s:TG}(hn:∀ j:Int,0<=j->j<10->s.aa j=true):s.free=none:=
 dL fun j j0 j1=>by simp[hn j j0 j1]
theorem CD{s:TG}(hi:s.cx a=0)(hd:¬(s.cC a).length=4)(h0:0<=k)(h1:k<10)(h2:s.aa k=false)(hn:∀ j:Int,0<=j->j<k->s.aa j=true):s.wq a=0/\s.pV a=k/\s.add a=s.put k a:=by
 have hf:=P5 h0 h1 h2 hn;grind [wq,pV,add]
theorem tD{s:TG}(h:s.wq a≠0):s.pV a=0/\s.add a=s:=by grind [pV,add]
theorem Hb{s:TG}(h:s.cx a≠0):s.wq a=s.cx a:=by unfold wq;rw[if_pos h]
theorem CC{s:TG}(h:s.cx a=0)(hd:(s.cC a).length=4):s.wq a=7:=by grind [wq]
def Tz{s:TG}(h:s.cx a=0)(hd:¬(s.cC a).length=4)(hn:∀ j:Int,0<=j->j<10->s.aa j=true):s.wq a=4:=by
 grind [wq,zD]
end TG
def bE(s:TG)(i:Nat):Value:=
 if i%5=0/\i/5<10 then iI (s.aA ((i/5:Nat):Int))else
 if 1<=i/\(i-1)%5=0/\(i-1)/5<10 then iI (s.mp (((i-1)/5:Nat):Int))else
 if 2<=i/\(i-2)%5=0/\(i-2)/5<10 then iI (s.mg (((i-2)/5:Nat):Int))else
 if 3<=i/\(i-3)%5=0/\(i-3)/5<10 then iI (s.pr (((i-3)/5:Nat):Int))else
 if 4<=i/\(i-4)%5=0/\(i-4)/5<10 then iI (s.pg (((i-4)/5:Nat):Int))else
 if 50<=i/\(i-50)%1=0/\(i-50)/1<10 then .bool (s.aa (((i-50)/1:Nat):Int))else
 undef
def fR(s:TG)(z0:Int)(q0:0<=z0/\z0<10:=by omega):(((0+0)+z0.toNat*5)+0)<60/\bE s (((0+0)+z0.toNat*5)+0)=iI (s.aA z0):=by
 refine⟨og,?_⟩;unfold bE;rw[if_pos og];grind
def me(s:TG)(z0:Int)(q0:0<=z0/\z0<10):(((0+0)+z0.toNat*5)+1)<60/\bE s (((0+0)+z0.toNat*5)+1)=iI (s.mp z0):=by
 refine⟨og,?_⟩;unfold bE;rw[if_neg og];rw[if_pos og];grind
def sJ(s:TG)(z0:Int)(q0:0<=z0/\z0<10)(v:Int):(((0+0)+z0.toNat*5)+1)<60/\dE (bE s) (((0+0)+z0.toNat*5)+1) (iI (v))=bE ({s with mp:=ae s.mp z0 v}):=by
 refine⟨og,?_⟩;funext j;grind [dE,ae,bE]
def mf(s:TG)(z0:Int)(q0:0<=z0/\z0<10):(((0+0)+z0.toNat*5)+2)<60/\bE s (((0+0)+z0.toNat*5)+2)=iI (s.mg z0):=by
 refine⟨og,?_⟩;unfold bE;rw[if_neg og];grind
def sK(s:TG)(z0:Int)(q0:0<=z0/\z0<10)(v:Int):(((0+0)+z0.toNat*5)+2)<60/\dE (bE s) (((0+0)+z0.toNat*5)+2) (iI (v))=bE ({s with mg:=ae s.mg z0 v}):=by
 refine⟨og,?_⟩;funext j;grind [dE,ae,bE]
def fy(s:TG)(z0:Int)(q0:0<=z0/\z0<10:=by omega):(((0+0)+z0.toNat*5)+3)<60/\bE s (((0+0)+z0.toNat*5)+3)=iI (s.pr z0):=by
 refine⟨og,?_⟩;grind [bE]
def wv(s:TG)(z0:Int)(q0:0<=z0/\z0<10)(v:Int):(((0+0)+z0.toNat*5)+3)<60/\dE (bE s) (((0+0)+z0.toNat*5)+3) (iI (v))=bE ({s with pr:=ae s.pr z0 v}):=by
 refine⟨og,?_⟩;funext j;grind [dE,ae,bE]
def fA(s:TG)(z0:Int)(q0:0<=z0/\z0<10:=by omega):(((0+0)+z0.toNat*5)+4)<60/\bE s (((0+0)+z0.toNat*5)+4)=iI (s.pg z0):=by
 grind [bE]
def wx(s:TG)(z0:Int)(q0:0<=z0/\z0<10)(v:Int):(((0+0)+z0.toNat*5)+4)<60/\dE (bE s) (((0+0)+z0.toNat*5)+4) (iI (v))=bE ({s with pg:=ae s.pg z0 v}):=by
 refine⟨og,?_⟩;funext j;grind [dE,ae,bE]
def Bl(s:TG)(z0:Int)(q0:0<=z0/\z0<10):((0+50)+z0.toNat*1)<60/\bE s ((0+50)+z0.toNat*1)= .bool (s.aa z0):=by
 grind [bE]
def ny(s:TG)(z0:Int)(q0:0<=z0/\z0<10)(v:Bool):((0+50)+z0.toNat*1)<60/\dE (bE s) ((0+50)+z0.toNat*1) (.bool (v))=bE ({s with aa:=ae s.aa z0 v}):=by
 grind [dE,ae,bE]
def EI(s:GV)(i:Nat):Value:=
 if i=0 then iI (s.aA)else
 if i=1 then iI (s.mp)else
 if i=2 then iI (s.mg)else
 if i=3 then iI (s.pr)else
 if i=4 then iI (s.pg)else
 undef
def qD(s:GV):(0+1)<5/\EI s (0+1)=iI (s.mp):=by
 grind [EI]
def gk(s:GV):(0+2)<5/\EI s (0+2)=iI (s.mg):=by
 grind [EI]
def EJ(s:GV):(0+3)<5/\EI s (0+3)=iI (s.pr):=by
 grind [EI]
def pW(s:GV):(0+4)<5/\EI s (0+4)=iI (s.pg):=by
 grind [EI]
def Jy(s:TG)(z:Int)(h:0<=z/\z<10:=by omega):0+0+z.toNat*5+5<=60/\dc (bE s) (0+0+z.toNat*5) 5= .agg (s.gv z).cO:=by
 refine⟨og,?_⟩;have h0:=(fR s z h).2;have h1:=(me s z h).2;have h2:=(mf s z h).2;have h3:=(fy s z h).2;have h4:=(fA s z h).2;simp only[dc,List.range,List.range.loop,List.map_cons,List.map_nil];simp only[Nat.add_zero]at h0 ⊢;rw[h0,h1,h2,h3,h4];rfl
def wy(s:TG):0+50+10<=60/\dc (bE s) (0+50) 10= .agg (Bf s.aa 10):=by
 refine⟨og,?_⟩;rfl
theorem iL(C:Nat->Value):∀ (vs:List Value) (i j:Nat),j<i->cB C i vs j=C j
 | [],_,_,_=>rfl
 | v::r,i,j,h=>by
  unfold cB;rw[iL (dE C i v) r (i+1) j og];simp[dE];omega
theorem fQ:∀ (vs:List Value) (C:Nat->Value) (i j:Nat) (v:Value),vs[j]? =some v->cB C i vs (i+j)=v
 | [],_,_,_,_,h=>by simp at h
 | u::r,C,i,0,v,h=>by
  have h2:u=v:=by simpa using h
  unfold cB;rw[iL _ _ _ _ og,<-h2];simp[dE]
 | u::r,C,i,j+1,v,h=>by
  unfold cB;have:=fQ r (dE C i u) (i+1) j v (by simpa using h);rw[show i+1+j=i+(j+1)from og]at this;exact this
theorem jm:∀ (vs:List Value) (C:Nat->Value) (i j:Nat),i+vs.length<=j->cB C i vs j=C j
 | [],_,_,_,_=>rfl
 | v::r,C,i,j,h=>by
  simp only[List.length_cons]at h;unfold cB;rw[jm r (dE C i v) (i+1) j og];simp[dE];omega
def zF(s:TG)(z:Int)(h:0<=z/\z<10)(g:GV):0+0+z.toNat*5+5<=60/\cB (bE s) (0+0+z.toNat*5) g.cO.toList=bE (s.EH z g):=by
 refine⟨og,?_⟩;funext i;have hl:g.cO.toList.length=5:=rfl;by_cases a1:i<0+0+z.toNat*5
 ·rw[iL _ _ _ _ a1];unfold bE;simp only[TG.EH];grind [ai]
 ·by_cases a2:i<0+0+z.toNat*5+5
  ·have h0:=(fR (s.EH z g) z h).2;have h1:=(me (s.EH z g) z h).2;have h2:=(mf (s.EH z g) z h).2;have h3:=(fy (s.EH z g) z h).2;have h4:=(fA (s.EH z g) z h).2;simp only[TG.EH,au]at h0 h1 h2 h3 h4;obtain⟨j,rfl⟩:∃ j,i=0+0+z.toNat*5+j:=⟨i-(0+0+z.toNat*5),og⟩;have hj:j=0\/j=1\/j=2\/j=3\/j=4:=og;rcases hj with rfl | rfl | rfl | rfl | rfl
   ·exact(fQ g.cO.toList _ _ 0 _ rfl).trans h0.symm
   ·exact(fQ g.cO.toList _ _ 1 _ rfl).trans h1.symm
   ·exact(fQ g.cO.toList _ _ 2 _ rfl).trans h2.symm
   ·exact(fQ g.cO.toList _ _ 3 _ rfl).trans h3.symm
   ·exact(fQ g.cO.toList _ _ 4 _ rfl).trans h4.symm
  ·rw[jm _ _ _ _ og];unfold bE;simp only[TG.EH];grind [ai]
def TA(g:GV):∀ i,i<5->cellsOf g.cO i=EI g i:=fun i h=>match i,h with
 | 0,_=>rfl
 | 1,_=>rfl
 | 2,_=>rfl
 | 3,_=>rfl
 | 4,_=>rfl
 | k+5,h=>absurd h og
def GV.zero:GV:=⟨0,0,0,0,0⟩
def TG.dm:TG:=⟨fun _=>false,fun _=>0,fun _=>0,fun _=>0,fun _=>0,fun _=>0⟩
def TG.aeI:TG:= {TG.dm with aa:=ae (fun _=>false) 0 true}
def TG.cP:TG:=TG.aeI.EH 0 ⟨-1,-1,-1,0,0⟩
set_option maxRecDepth 20000 in def aeJ:∀ i,i<60->cellsOf #[iI 0,iI 0,iI 0,iI 0,iI 0,iI 0,iI 0,iI 0,iI 0,iI 0,iI 0,iI 0,iI 0,iI 0,iI 0,iI 0,iI 0,iI 0,iI 0,iI 0,iI 0,iI 0,iI 0,iI 0,iI 0,iI 0,iI 0,iI 0,iI 0,iI 0,iI 0,iI 0,iI 0,iI 0,iI 0,iI 0,iI 0,iI 0,iI 0,iI 0,iI 0,iI 0,iI 0,iI 0,iI 0,iI 0,iI 0,iI 0,iI 0,iI 0,.bool false,.bool false,.bool false,.bool false,.bool false,.bool false,.bool false,.bool false,.bool false,.bool false] i=bE TG.dm i:=fun i hi=>match i,hi with
 | 0,_=>rfl
 | 1,_=>rfl
 | 2,_=>rfl
 | 3,_=>rfl
 | 4,_=>rfl
 | 5,_=>rfl
 | 6,_=>rfl
 | 7,_=>rfl
 | 8,_=>rfl
 | 9,_=>rfl
 | 10,_=>rfl
 | 11,_=>rfl
 | 12,_=>rfl
 | 13,_=>rfl
 | 14,_=>rfl
 | 15,_=>rfl
 | 16,_=>rfl
 | 17,_=>rfl
 | 18,_=>rfl
 | 19,_=>rfl
 | 20,_=>rfl
 | 21,_=>rfl
 | 22,_=>rfl
 | 23,_=>rfl
 | 24,_=>rfl
 | 25,_=>rfl
 | 26,_=>rfl
 | 27,_=>rfl
 | 28,_=>rfl
 | 29,_=>rfl
 | 30,_=>rfl
 | 31,_=>rfl
 | 32,_=>rfl
 | 33,_=>rfl
 | 34,_=>rfl
 | 35,_=>rfl
 | 36,_=>rfl
 | 37,_=>rfl
 | 38,_=>rfl
 | 39,_=>rfl
 | 40,_=>rfl
 | 41,_=>rfl
 | 42,_=>rfl
 | 43,_=>rfl
 | 44,_=>rfl
 | 45,_=>rfl
 | 46,_=>rfl
 | 47,_=>rfl
 | 48,_=>rfl
 | 49,_=>rfl
 | 50,_=>rfl
 | 51,_=>rfl
 | 52,_=>rfl
 | 53,_=>rfl
 | 54,_=>rfl
 | 55,_=>rfl
 | 56,_=>rfl
 | 57,_=>rfl
 | 58,_=>rfl
 | 59,_=>rfl
 | k+60,h=>absurd h og
end Go.X.Gr

namespace Go.X.Vm
open Go Go.X
variable{a i k o v:Int}{f g:Int->Bool}{n t:Nat}
def ma(f:Int->Bool):Nat->Nat
 | 0=>0
 | n+1=>ma f n|||(if f n then 2^n else 0)
theorem iw(f:Int->Bool)(n j:Nat):(ma f n).testBit j=(decide (j<n)&&f j):=by
 induction n with
 | zero=>simp[ma]
 | succ n ih=>
  simp only[ma,Nat.testBit_or,ih];by_cases h:j=n
  ·grind
  ·grind
def TC(f:Int->Bool)(n:Nat):ma f n<2^n:=by
 apply Nat.lt_pow_two_of_testBit;grind [iw]
theorem pC(h:∀ i:Int,0<=i->i<n->f i=g i):ma f n=ma g n:=by
 apply Nat.eq_of_testBit_eq;grind [iw]
theorem FD{a:Nat}(ha:a<n)(hg:g a=true)(h:∀ i:Int,0<=i->i<n->¬i=a->g i=f i):ma f n|||2^a=ma g n:=by
 apply Nat.eq_of_testBit_eq;grind [iw]
theorem AP{a:Nat}(ha:a<n)(hg:g a=false)(h:∀ i:Int,0<=i->i<n->¬i=a->g i=f i):kI (ma f n) (2^a)=ma g n:=by
 apply Nat.eq_of_testBit_eq;grind [iw,kI]
structure BB where
 bS:Int->Int
 tk:Int->Bool
def p2(k:Int):Int:=((2^k.toNat:Nat):Int)
def BB.at_(b:BB)(k i:Int):Bool:=decide (0<=k)&&decide (b.bS i=k+1)&& !b.tk i
def BB.gJ(b:BB)(k:Int):Nat:=ma (b.at_ k) 64
structure PB where
 b:BB
 u:Int->Int
def BB.ej(b:BB):Int->Int:=fun i=>if b.tk i then b.bS i else 0
def BB.fi(b:BB):PB:=⟨b,b.ej⟩
def BB.gP(b:BB)(a:Int):BB:= {b with tk:=ae b.tk a true}
def BB.bare(b:BB)(a:Int):BB:= {b with tk:=ae b.tk a false}
def BB.split(b:BB)(a:Int):BB:= {b with bS:=ae (ae b.bS a (b.bS a-1)) (a+p2 (b.bS a-2)) (b.bS a-1)}
def BB.gQ:Nat->BB->Int->BB
 | 0,b,_=>b
 | n+1,b,a=>BB.gQ n (b.split a) a
def nO(a k:Int):Int:=if(a/p2 k)%2=1 then a-p2 k else a+p2 k
def BB.dB(b:BB)(a:Int):Int:=nO a (b.bS a-1)
def BB.jT(b:BB)(a:Int):BB:= {b with bS:=ae (ae b.bS (max a (b.dB a)) 0) (min a (b.dB a)) (b.bS a+1)}
def BB.jC(b:BB)(a:Int):Prop:=b.bS a<7/\b.bS (b.dB a)=b.bS a/\b.tk (b.dB a)=false
instance (b:BB) (a:Int):Decidable (b.jC a):=by unfold BB.jC;infer_instance
def BB.kK:Nat->BB->Int->BB
 | 0,b,_=>b
 | n+1,b,a=>if b.jC a then BB.kK n (b.jT a) (min a (b.dB a))else b
def BB.low(b:BB)(k:Int):Option Nat:=dv (b.at_ k) 64
def BB.pick(b:BB)(o:Int):Option (Nat×Nat):=match dv (fun k=>decide (o<=k)&&(b.low k).isSome) 7 with
 | none=>none
 | some k=>(b.low k).map fun i=>(k,i)
def BB.take(b:BB)(o:Int):Int×Int×BB:=if o<0\/6<o then(0,1,b)else match b.pick o with
 | none=>(0,4,b)
 | some (k,i)=>(i,0,BB.gQ ((k:Int)-o).toNat (b.gP i) i)
def BB.is(b:BB)(a:Int):Int:=if a<0\/63<a then 1 else if b.tk a then 0 else 2
def BB.rI(b:BB)(a:Int):Int×BB:=if b.is a≠0 then(b.is a,b)else(0,BB.kK (7-b.bS a).toNat (b.bare a) a)
def fl(f:Int->Bool):Nat->List Int
 | 0=>[]
 | k+1=>fl f k++(if f k then [(k:Int)]else [])
def ia(f:Int->Bool):∀ k,(fl f k).length<=k
 | 0=>by simp[fl]
 | k+1=>by
  have:=ia f k;grind [fl]
def uP(f:Int->Bool)(h:0<=k):(f k=true->fl f (k+1).toNat=fl f k.toNat++[k])/\(f k=false->fl f (k+1).toNat=fl f k.toNat):=by
 have e:((k.toNat:Nat):Int)=k:=og;rw[show(k+1).toNat=k.toNat+1 from og];grind [fl]
def eZ(f:Int->Int):Nat->Int
 | 0=>0
 | n+1=>eZ f n+f n
def BB.room(b:BB)(i:Int):Int:=if 0<b.bS i/\b.tk i=false then p2 (b.bS i-1)else 0
def BB.left(b:BB):Int:=eZ b.room 64
def BB.cP:BB:=⟨ae (fun _=>0) 0 7,fun _=>false⟩
structure BB.Inv (b:BB):Prop where
 kv:∀ i,0<=b.bS i/\b.bS i<=7
 out:∀ i,i<0\/64<=i->b.bS i=0
 tk:∀ i,b.tk i=true->0<b.bS i
 al:∀ i,0<b.bS i->i%p2 (b.bS i-1)=0
 dis:∀ i j,0<b.bS i->i<j->j<i+p2 (b.bS i-1)->b.bS j=0
def wz(k:Int):0<p2 k:=by
 have:=Nat.two_pow_pos k.toNat;unfold p2;omega
theorem ahA:p2 0=1:=rfl
theorem aeK:p2 1=2:=rfl
theorem XA:p2 2=4:=rfl
theorem aeL:p2 3=8:=rfl
theorem XD:p2 4=16:=rfl
theorem aeM:p2 5=32:=rfl
theorem ahB:p2 6=64:=rfl
def uS(h:0<=k:=by omega):p2 (k+1)=2*p2 k:=by
 unfold p2;rw[show(k+1).toNat=k.toNat+1 from og,Nat.pow_succ];omega
theorem FE(h:0<v)(h7:v<=7):v=1\/v=2\/v=3\/v=4\/v=5\/v=6\/v=7:=og
def XF(h1:1<v)(h7:v<=7)(h:i%p2 (v-1)=0):i%p2 (v-2)=0/\(i+p2 (v-2))%p2 (v-2)=0:=by
 rcases FE og h7 with rfl | rfl | rfl | rfl | rfl | rfl | rfl;all_goals grind [p2]
def abC(h1:0<v)(h7:v<=7)(h:i%p2 (v-1)=0)(hi:0<=i/\i<64):i+p2 (v-1)<=64:=by
 grind [aeK,XA,aeL,XD,aeM,p2]
def CI(h1:0<v)(h7:v<7)(h:a%p2 (v-1)=0)(hi:0<=a/\a<64):∃ l,0<=l/\l+p2 v<=64/\l%p2 v=0/\((a=l/\nO a (v-1)=l+p2 (v-1))\/(a=l+p2 (v-1)/\nO a (v-1)=l)):=by
 have e:=uS (k:=v-1);rw[show v-1+1=v from og]at e;unfold nO;by_cases c:(a/p2 (v-1))%2=1
 ·rw[if_pos c];refine⟨a-p2 (v-1),?_,?_,?_,.inr ⟨og,rfl⟩⟩;all_goals grind [FE,p2]
 ·rw[if_neg c];refine⟨a,?_,?_,?_,.inl ⟨rfl,rfl⟩⟩;all_goals grind [XA,XD,p2]
def BB.Inv.zG{b:BB}(h:b.Inv)(hi:0<b.bS i:=by omega):0<=i/\i<64:=by
 grind [Inv]
def BB.Inv.fit{b:BB}(h:b.Inv)(hi:0<b.bS i):i+p2 (b.bS i-1)<=64:=abC hi (h.kv i).2 (h.al i hi) (h.zG hi)
theorem BB.Inv.cP:BB.cP.Inv where
 kv:=fun i=>by
  show 0<=(if i=0 then(7:Int)else 0)/\(if i=0 then(7:Int)else 0)<=7
  omega
 out:=fun i hi=>by show ae (fun _=>0) 0 7 i=0;rw[ai _ _ og]
 tk:=fun i hi=>by cases hi
 al:=fun i hi=>by
  have:i=0:=by
   apply Classical.byContradiction;intro c
   simp_all[BB.cP,ai]
  simp_all
 dis:=fun i j hi h1 h2=>by
  have:i=0:=by
   apply Classical.byContradiction;intro c
   simp_all[BB.cP,ai]
  subst this
  show ae (fun _=>(0:Int)) 0 7 j=0
  grind [ai]
theorem BB.Inv.gP{b:BB}(h:b.Inv){a:Int}(ha:0<b.bS a):(b.gP a).Inv:=
 ⟨h.kv,h.out,fun i hi=>by
  have:ae b.tk a true i=true:=hi
  by_cases c:i=a
  ·rw[c];exact ha
  ·rw[ai _ _ c]at this;exact h.tk i this,h.al,h.dis⟩
theorem BB.Inv.bare{b:BB}(h:b.Inv)(a:Int):(b.bare a).Inv:=
 ⟨h.kv,h.out,fun i hi=>by
  have:ae b.tk a false i=true:=hi
  by_cases c:i=a
  ·rw[c,au]at this;cases this
  ·rw[ai _ _ c]at this;exact h.tk i this,h.al,h.dis⟩
def BB.Inv.apart{b:BB}(h:b.Inv){j:Int}(hi:0<b.bS i)(hj:0<b.bS j)(gK:¬i=j){x:Int}(h1:i<=x/\x<i+p2 (b.bS i-1))(h2:j<=x/\x<j+p2 (b.bS j-1)):False:=by
 by_cases c:i<j
 ·grind [Inv]
 ·have:=h.dis j i hj og og;omega
theorem BB.Inv.split{b:BB}(h:b.Inv){a:Int}(ha:1<b.bS a):(b.split a).Inv/\a+p2 (b.bS a-2)<64/\b.bS (a+p2 (b.bS a-2))=0/\(b.split a).bS a=b.bS a-1:=by
 have hal:=h.al a og;have hrn:=h.kv a;have vy:=h.zG (i:=a);have ad4:=h.fit (i:=a) og;have e2:=uS (k:=b.bS a-2);rw[show b.bS a-2+1=b.bS a-1 from og]at e2;have hp:=wz (b.bS a-2);have hz:=h.dis a (a+p2 (b.bS a-2)) og og og;have gK:¬a=a+p2 (b.bS a-2):=og;have akH:=XF ha hrn.2 hal;have o1:∀ i,(b.split a).bS i=if i=a+p2 (b.bS a-2)then b.bS a-1 else if i=a then b.bS a-1 else b.bS i:=fun i=>rfl
 have oa:(b.split a).bS a=b.bS a-1:=by rw[o1,if_neg gK,if_pos rfl]
 refine⟨⟨fun i=> ?_,fun i hi=> ?_,fun i hi=> ?_,fun i hi=> ?_,fun i j hi h1 h2=> ?_⟩,og,hz,oa⟩
 ·rw[o1];have:=h.kv i;split;all_goals omega
 ·grind [Inv]
 ·grind [BB.split,Inv]
 ·rw[o1]at hi ⊢;by_cases c1:i=a+p2 (b.bS a-2);all_goals grind [Inv]
 ·rw[o1]at hi h2;by_cases c1:i=a+p2 (b.bS a-2)
  ·rw[if_pos c1,show b.bS a-1-1=b.bS a-2 from og]at h2;rw[o1,if_neg og,if_neg og];grind [BB.Inv.dis,Inv]
  ·rw[if_neg c1]at hi h2;by_cases c2:i=a
   ·rw[if_pos c2,show b.bS a-1-1=b.bS a-2 from og]at h2;rw[o1,if_neg og,if_neg og];grind [Inv]
   ·rw[if_neg c2]at hi h2;have n1:¬j=a+p2 (b.bS a-2):=fun e=>h.apart (i:=i) (j:=a) hi og c2 (x:=j) ⟨og,h2⟩ ⟨og,og⟩;have n2:¬j=a:=fun e=>h.apart (i:=i) (j:=a) hi og c2 (x:=j) ⟨og,h2⟩ ⟨og,og⟩;grind [Inv]
theorem BB.Inv.gQ:∀ (n:Nat) {b:BB} {a:Int},b.Inv->(n:Int)<b.bS a->(BB.gQ n b a).Inv
 | 0,_,_,h,_=>h
 | n+1,b,a,h,ha=>by
  obtain⟨h1,_,_,h4⟩:=h.split (a:=a) og;exact BB.Inv.gQ n h1 (by rw[h4];omega)
theorem BB.Inv.jT{b:BB}(h:b.Inv){a:Int}(ha:0<b.bS a)(hta:b.tk a=false)(hj:b.jC a):(b.jT a).Inv/\0<=b.dB a/\b.dB a<64/\¬b.dB a=a/\(b.jT a).bS (min a (b.dB a))=b.bS a+1/\(b.jT a).tk (min a (b.dB a))=false:=by
 obtain⟨j1,j2,j3⟩:=hj;have hal:=h.al a ha;have vy:=h.zG ha;obtain⟨l,l1,l2,l3,l4⟩:=CI ha j1 hal vy;rw[show nO a (b.bS a-1)=b.dB a from rfl]at l4;have e2:=uS (k:=b.bS a-1);rw[show b.bS a-1+1=b.bS a from og]at e2;have hp:=wz (b.bS a-1);have Xb:min a (b.dB a)=l:=og;have vU:max a (b.dB a)=l+p2 (b.bS a-1):=og;have ol:b.bS l=b.bS a:=by
  grind
 have oh:b.bS (l+p2 (b.bS a-1))=b.bS a:=by
  grind
 have tl:b.tk l=false:=by
  grind
 have th:b.tk (l+p2 (b.bS a-1))=false:=by
  grind
 have o1:∀ i,(b.jT a).bS i=if i=l then b.bS a+1 else if i=l+p2 (b.bS a-1)then 0 else b.bS i:=fun i=>by
  simp_all[ae,BB.jT]
 have t1:(b.jT a).tk=b.tk:=rfl;refine⟨⟨fun i=> ?_,fun i hi=> ?_,fun i hi=> ?_,fun i hi=> ?_,fun i j hi h1 h2=> ?_⟩,og,og,og,by rw[Xb,o1,if_pos rfl],by rw[Xb,t1,tl]⟩
 ·rw[o1];have:=h.kv i;split;all_goals omega
 ·rw[o1,if_neg og,if_neg og];exact h.out i hi
 ·rw[t1]at hi;rw[o1];split;all_goals grind [Inv]
 ·rw[o1]at hi ⊢;by_cases c1:i=l
  ·simp_all
  ·rw[if_neg c1]at hi ⊢;by_cases c2:i=l+p2 (b.bS a-1);all_goals grind [Inv]
 ·rw[o1]at hi h2;by_cases c1:i=l
  ·rw[if_pos c1,show b.bS a+1-1=b.bS a from og]at h2;rw[o1,if_neg og];by_cases c2:j=l+p2 (b.bS a-1)
   ·omega
   ·rw[if_neg c2];by_cases c3:j<l+p2 (b.bS a-1);all_goals grind [BB.Inv.dis]
  ·rw[if_neg c1]at hi h2;by_cases c2:i=l+p2 (b.bS a-1)
   ·omega
   ·rw[if_neg c2]at hi h2;have n1:¬j=l:=fun e=>h.apart (i:=i) (j:=l) hi og c1 (x:=j) ⟨og,h2⟩ ⟨og,by rw[ol];omega⟩;rw[o1,if_neg n1];by_cases c3:j=l+p2 (b.bS a-1);all_goals grind [Inv]
theorem BB.Inv.kK:∀ (n:Nat) {b:BB} {a:Int},b.Inv->0<b.bS a->b.tk a=false->(BB.kK n b a).Inv
 | 0,_,_,h,_,_=>h
 | n+1,b,a,h,ha,ht=>by
  rw[BB.kK];by_cases c:b.jC a
  ·rw[if_pos c];obtain⟨h1,_,_,_,h5,h6⟩:=h.jT ha ht c;exact BB.Inv.kK n h1 (by rw[h5];omega) h6
  simp_all
def Jz{p:Int->Bool}{m k:Nat}(h:dv p m=some k):k<m/\p k=true/\∀ j:Int,0<=j->j<k->p j=false:=by
 unfold dv at h;have h1:=List.find?_some h;have h2:=List.mem_range.1 (List.mem_of_find?_eq_some h);refine⟨h2,h1,fun j j0 jk=> ?_⟩;cases hp:p j with
 | false=>rfl
 | true=>
  exfalso;obtain⟨xs,ys,hs,hn⟩:=(List.find?_eq_some_iff_append.1 h).2;have hlen:xs.length=k:=by
   have h3:(List.range m)[xs.length]? =some k:=by rw[hs];simp
   grind
  have hj:j.toNat∈xs:=by
   have h3:xs=List.range k:=by
    have h4:xs=(List.range m).take xs.length:=by rw[hs];simp
    grind
   simp_all
  have:=hn j.toNat hj;rw[show((j.toNat:Nat):Int)=j from og,hp]at this;simp at this
def qE{p:Int->Bool}{m:Nat}(h:dv p m=none):∀ j:Int,0<=j->j<m->p j=false:=fun j h0 h1=>by
 unfold dv at h;have:=List.find?_eq_none.1 h j.toNat (List.mem_range.2 og);grind
theorem lq{b:BB}(hk:0<=k):b.at_ k i=true↔b.bS i=k+1/\b.tk i=false:=by
 grind [BB.at_]
def nW{b:BB}{k i:Nat}(h:b.pick o=some (k,i)):o<=k/\k<7/\i<64/\b.bS i=k+1/\b.tk i=false:=by
 grind [BB.pick,dv,BB.low,Option.map_eq_some_iff,lq]
theorem BB.Inv.take{b:BB}(h:b.Inv)(o:Int):(b.take o).2.2.Inv:=by
 unfold BB.take;split
 ·omega
 ·rename_i ho;split
  ·omega
  ·rename_i k i hp;obtain⟨h1,h2,h3,h4,h5⟩:=nW hp;have hh:=h.gP (a:=i) og;exact BB.Inv.gQ _ hh (by show _<b.bS i;omega)
def wA{b:BB}(h:b.is a=0):0<=a/\a<64/\b.tk a=true:=by
 grind [BB.is]
theorem BB.Inv.rI{b:BB}(h:b.Inv)(a:Int):(b.rI a).2.Inv:=by
 unfold BB.rI;by_cases c:b.is a=0
 ·rw[if_neg (by simp[c])];obtain⟨h1,h2,h3⟩:=wA c;exact BB.Inv.kK _ (h.bare a) (h.tk a h3) (au _ _ _)
 simp_all
def la(b:BB)(k:Int):b.gJ k<18446744073709551616:=TC _ 64
theorem BB.xK(b:BB)(k:Int)(j:Nat):(b.gJ k).testBit j=(decide (j<64)&&b.at_ k j):=iw _ _ _
theorem He{b:BB}(h:b.gJ k=0):∀ i:Int,0<=i->i<64->b.at_ k i=false:=fun i h0 h1=>by
 have:=b.xK k i.toNat;grind
theorem AQ{b:BB}(h:b.gJ k=0):b.low k=none:=by grind [dL,He,BB.low]
def AR{b:BB}(ht:(b.gJ k).testBit t=true)(hl:∀ j,j<t->(b.gJ k).testBit j=false):b.low k=some t/\t<64/\b.at_ k t=true:=by
 rw[BB.xK]at ht;simp only[Bool.and_eq_true,decide_eq_true_eq]at ht;refine⟨?_,ht.1,ht.2⟩;have:=dW (p:=b.at_ k) (m:=64) (k:=(t:Int)) og og ht.2 (fun j h0 h1=>by
  have h2:=hl j.toNat og
  rw[BB.xK,show((j.toNat:Nat):Int)=j from og]at h2
  have h3:j.toNat<64:=og
  simpa [h3]using h2)
 unfold BB.low;simpa using this
def Hf{b:BB}(ho:0<=o)(hk:o<=k/\k<7)(hz:∀ j:Int,o<=j->j<k->b.gJ j=0)(ht:(b.gJ k).testBit t=true)(hl:∀ j,j<t->(b.gJ k).testBit j=false):b.pick o=some (k.toNat,t):=by
 obtain⟨l1,_,_⟩:=AR ht hl;grind [BB.pick,dW,AQ]
theorem Hg{b:BB}(hz:∀ j:Int,o<=j->j<7->b.gJ j=0):b.pick o=none:=by
 grind [BB.pick,dL,AQ]
theorem pX{b:BB}(h:o<0\/6<o):b.take o=(0,1,b):=by unfold BB.take;rw[if_pos h]
theorem xL{b:BB}(h:¬(o<0\/6<o))(hz:b.pick o=none):b.take o=(0,4,b):=by grind [BB.take]
theorem BB.lJ{b:BB}{k i:Nat}(h:¬(o<0\/6<o))(hz:b.pick o=some (k,i)):b.take o=((i:Int),0,BB.gQ ((k:Int)-o).toNat (b.gP i) i):=by grind [BB.take]
theorem FG{b:BB}{m:Int}(h:¬(b.bS i=m+1/\b.tk i=false)):b.at_ m i=false:=by
 grind [BB.at_]
theorem wB{b:BB}{m:Int}(h:¬i=a):(b.gP a).at_ m i=b.at_ m i:=by
 show(decide (0<=m)&&decide (b.bS i=m+1)&& !ae b.tk a true i)=(decide (0<=m)&&decide (b.bS i=m+1)&& !b.tk i);grind [ai]
theorem su(b:BB)(m a:Int):(b.gP a).at_ m a=false:=FG (by
 rintro⟨_,q⟩
 have:ae b.tk a true a=false:=q
 rw[au]at this;cases this)
def Hh{b:BB}(hk:0<=k)(ht:t<64)(h1:b.bS t=k+1)(h2:b.tk t=false):kI (b.gJ k) (2^t)=(b.gP t).gJ k/\∀ m,0<=m->m<7->¬m=k->(b.gP t).gJ m=b.gJ m:=by
 grind [AP,pC,su,wB,FG,BB.gJ]
def BB.Inv.LY{b:BB}(h:b.Inv)(ha:1<b.bS a)(ht:b.tk a=true):b.gJ (b.bS a-2)|||2^(a+p2 (b.bS a-2)).toNat=(b.split a).gJ (b.bS a-2)/\∀ m,0<=m->m<7->¬m=b.bS a-2->(b.split a).gJ m=b.gJ m:=by
 obtain⟨_,s2,s3,_⟩:=h.split ha;have vy:=h.zG (i:=a);have hp:=wz (b.bS a-2);have gK:¬a=a+p2 (b.bS a-2):=og;have o1:∀ i,(b.split a).bS i=if i=a+p2 (b.bS a-2)then b.bS a-1 else if i=a then b.bS a-1 else b.bS i:=fun i=>rfl
 have t1:∀ i,(b.split a).tk i=b.tk i:=fun _=>rfl;have t2:b.tk (a+p2 (b.bS a-2))=false:=by
  grind [Inv]
 refine⟨FD og ?_ fun i _ _ hi=> ?_,fun m m0 _ hm=>pC fun i _ _=> ?_⟩
 ·rw[show(((a+p2 (b.bS a-2)).toNat:Nat):Int)=a+p2 (b.bS a-2)from og];grind [lq]
 ·have Pr:¬i=a+p2 (b.bS a-2):=og;unfold BB.at_;grind
 ·unfold BB.at_;grind
theorem xM:∀ (n:Nat) (b:BB) (a:Int),(BB.gQ n b a).tk=b.tk
 | 0,_,_=>rfl
 | n+1,b,a=>by rw[BB.gQ,xM n];rfl
def BB.Inv.wD:∀ (n:Nat) {b:BB} {a:Int},b.Inv->(n:Int)<b.bS a->(BB.gQ n b a).bS a=b.bS a-n/\∀ i,¬i=a->0<b.bS i->(BB.gQ n b a).bS i=b.bS i
 | 0,_,_,h,_=>⟨by simp[BB.gQ],fun _ _ _=>rfl⟩
 | n+1,b,a,h,ha=>by
  obtain⟨h1,h2,h3,h4⟩:=h.split (a:=a) og;obtain⟨i1,i2⟩:=BB.Inv.wD n h1 (by rw[h4];omega);rw[BB.gQ];refine⟨by rw[i1,h4];omega,fun i hi h0=> ?_⟩;have e:(b.split a).bS i=b.bS i:=by
   show ae (ae b.bS a (b.bS a-1)) (a+p2 (b.bS a-2)) (b.bS a-1) i=b.bS i;grind [ai]
  simp_all
def BB.Inv.FH{b:BB}(h:b.Inv)(ho:¬(o<0\/6<o)){k i:Nat}(hp:b.pick o=some (k,i)):(⟨BB.gQ ((k:Int)-o).toNat (b.gP i) i,ae b.ej i (o+1)⟩:PB)=(b.take o).2.2.fi:=by
 obtain⟨h1,h2,h3,h4,h5⟩:=nW hp;have hh:=h.gP (a:=i) og;obtain⟨s1,s2⟩:=hh.wD ((k:Int)-o).toNat (a:=i) (by show _<b.bS i;omega);rw[BB.lJ ho hp];unfold BB.fi;congr 1;funext j;unfold BB.ej;rw[xM];show ae b.ej i (o+1) j=if ae b.tk i true j=true then _ else 0
 by_cases c:j=i
 ·subst c;rw[au,au,if_pos rfl,s1];show o+1=b.bS i-_;omega
 ·rw[ai _ _ c,ai _ _ c];unfold BB.ej;by_cases q:b.tk j=true
  ·rw[if_pos q,if_pos q,s2 j c (h.tk j q)];rfl
  simp_all
theorem TE:∀ a:Nat,a<64->∀ k:Nat,k<6->((a^^^2^k:Nat):Int)=(if((a/2^k:Nat):Int)%2=1 then(a:Int)-(2^k:Nat)else(a:Int)+(2^k:Nat))/\((kI a (2^k):Nat):Int)=min (a:Int) (if((a/2^k:Nat):Int)%2=1 then(a:Int)-(2^k:Nat)else(a:Int)+(2^k:Nat)):=dk
def TF(ha:0<=a/\a<64)(hk:0<=k/\k<6):((a.toNat^^^2^k.toNat:Nat):Int)=nO a k/\((kI a.toNat (2^k.toNat):Nat):Int)=min a (nO a k):=by
 grind [TE,p2,nO]
def BB.Inv.zH{b:BB}(h:b.Inv)(ha:0<b.bS a)(h7:b.bS a<7):0<=b.dB a/\b.dB a<64/\¬b.dB a=a:=by
 obtain⟨l,l1,l2,l3,l4⟩:=CI ha h7 (h.al a ha) (h.zG ha);rw[show nO a (b.bS a-1)=b.dB a from rfl]at l4;have e2:=uS (k:=b.bS a-1);rw[show b.bS a-1+1=b.bS a from og]at e2;have hp:=wz (b.bS a-1);omega
def BB.Inv.P6{b:BB}(h:b.Inv)(ha:0<b.bS a)(h7:b.bS a<7):((b.gP a).gJ (b.bS a-1)).testBit (b.dB a).toNat=decide (b.jC a):=by
 obtain⟨r1,r2,r3⟩:=h.zH ha h7;grind [BB.xK,wB,lq,BB.jC]
def BB.Inv.P7{b:BB}(h:b.Inv)(ha:0<b.bS a)(hj:b.jC a):kI ((b.gP a).gJ (b.bS a-1)) (2^(b.dB a).toNat)=((b.jT a).gP (min a (b.dB a))).gJ (b.bS a-1)/\∀ m,0<=m->m<7->¬m=b.bS a-1->((b.jT a).gP (min a (b.dB a))).gJ m=(b.gP a).gJ m:=by
 obtain⟨r1,r2,r3⟩:=h.zH ha hj.1;have iJ:∀ m i,0<=m->((b.jT a).gP (min a (b.dB a))).at_ m i=(!decide (i=b.dB a)&&(b.gP a).at_ m i):=fun m i m0=>by
  rw[Bool.eq_iff_iff,Bool.and_eq_true,lq m0,lq m0];have o1:((b.jT a).gP (min a (b.dB a))).bS i=ae (ae b.bS (max a (b.dB a)) 0) (min a (b.dB a)) (b.bS a+1) i:=rfl;have t1:((b.jT a).gP (min a (b.dB a))).tk i=ae b.tk (min a (b.dB a)) true i:=rfl;have o2:(b.gP a).bS i=b.bS i:=rfl;have t2:(b.gP a).tk i=ae b.tk a true i:=rfl;grind [au,ai]
 refine⟨AP og ?_ fun i _ _ hi=> ?_,fun m m0 _ hm=>pC fun i _ _=> ?_⟩;all_goals grind [FG,BB.gP,BB.jC]
def xN{b:BB}(ha:0<b.bS a)(hr:0<=a/\a<64)(ht:b.tk a=false):(b.gP a).gJ (b.bS a-1)|||2^a.toNat=b.gJ (b.bS a-1)/\∀ m,0<=m->m<7->¬m=b.bS a-1->b.gJ m=(b.gP a).gJ m:=by
 grind [FD,pC,lq,wB,su,BB.gJ]
theorem BB.CJ:∀ (n:Nat) (b:BB) (a:Int),(BB.kK n b a).tk=b.tk
 | 0,_,_=>rfl
 | n+1,b,a=>by
  rw[BB.kK];split
  ·rw[BB.CJ n];rfl
  ·rfl
theorem BB.Inv.FI:∀ (n:Nat) {b:BB} {a:Int},b.Inv->0<b.bS a->b.tk a=false->∀ i,b.tk i=true->(BB.kK n b a).bS i=b.bS i
 | 0,_,_,_,_,_,_,_=>rfl
 | n+1,b,a,h,ha,ht,i,hi=>by
  rw[BB.kK];by_cases c:b.jC a
  ·rw[if_pos c];obtain⟨h1,_,_,_,h5,h6⟩:=h.jT ha ht c;rw[BB.Inv.FI n h1 (by rw[h5];omega) h6 i hi];show ae (ae b.bS (max a (b.dB a)) 0) (min a (b.dB a)) (b.bS a+1) i=b.bS i;have n1:¬i=a:=by rintro rfl;rw[ht]at hi;cases hi
   have n2:¬i=b.dB a:=by rintro rfl;rw[c.2.2]at hi;cases hi
   grind [ai]
  simp_all
def Hi{b:BB}(ht:b.tk a=true):(b.bare a).gP a=b:=by
 unfold BB.bare BB.gP;simp only[];have:ae (ae b.tk a false) a true=b.tk:=by
  grind [au,ai]
 rw[this]
def BB.Inv.zI{b:BB}(h:b.Inv)(hi:b.is a=0):(⟨BB.kK (7-b.bS a).toNat (b.bare a) a,ae b.ej a 0⟩:PB)=(b.rI a).2.fi:=by
 obtain⟨h1,h2,h3⟩:=wA hi;have ho:=h.tk a h3;have hk:=(h.bare a).FI (7-b.bS a).toNat (a:=a) ho (au _ _ _);unfold BB.rI;rw[if_neg (by simp[hi])];unfold BB.fi;congr 1;funext j;unfold BB.ej;rw[BB.CJ];show ae b.ej a 0 j=if ae b.tk a false j=true then _ else 0
 by_cases c:j=a;all_goals simp_all[BB.ej,ae,BB.bare]
theorem pD{b:BB}(h:b.is a≠0):b.rI a=(b.is a,b):=by grind [BB.rI]
theorem rJ{b:BB}(h:b.is a=0):b.rI a=(0,BB.kK (7-b.bS a).toNat (b.bare a) a):=by grind [BB.rI]
theorem BB.qu{b:BB}(h:a<0\/63<a):b.is a=1:=by unfold BB.is;rw[if_pos h]
theorem BB.xy{b:BB}(h:¬(a<0\/63<a))(ht:b.tk a=false):b.is a=2:=by grind [BB.is]
theorem BB.Cv{b:BB}(h:¬(a<0\/63<a))(ht:b.tk a=true):b.is a=0:=by grind [BB.is]
def BB.Inv.FJ{b:BB}(h:b.Inv)(a:Int):(b.ej a=0->b.tk a=false)/\(¬b.ej a=0->b.tk a=true/\b.ej a=b.bS a):=by
 grind [BB.ej,Inv]
theorem JA(k:Int):(p2 k).toNat=2^k.toNat:=rfl
def EK:∀ (n:Nat) {b:BB} {a:Int},¬b.jC a->BB.kK n b a=b
 | 0,_,_,_=>rfl
 | n+1,b,a,h=>by rw[BB.kK,if_neg h]
theorem tE(f g:Int->Int):∀ n,eZ (fun i=>f i+g i) n=eZ f n+eZ g n
 | 0=>rfl
 | n+1=>by simp only[eZ,tE f g n];omega
theorem oq:∀ n,eZ (fun _=>0) n=0
 | 0=>rfl
 | n+1=>by simp only[eZ,oq n];rfl
theorem jU{f g:Int->Int} :∀ {n:Nat},(∀ i:Int,0<=i->i<n->f i=g i)->eZ f n=eZ g n
 | 0,_=>rfl
 | n+1,h=>by simp only[eZ,jU (n:=n) fun i h0 h1=>h i h0 og,h n og og]
def BB.XG(b:BB)(q j:Int):Prop:=b.bS j>q/\b.tk j=false
def BB.JB(b:BB)(q i fH:Int):Prop:=(fH= -1/\∀ j,i<j->j<64->¬b.XG q j)\/
 (i<fH/\fH<64/\b.XG q fH/\∀ j,i<j->j<64->b.XG q j->b.bS fH<b.bS j\/(b.bS fH=b.bS j/\fH<=j))
theorem BB.JB.take{b:BB}{q fH:Int}(h:b.JB q i fH)(hi:i<64)(hc:b.XG q i)(hle:fH<0\/b.bS i<=b.bS fH)(h0: -1<=i):b.JB q (i-1) i:=by
 grind [BB.JB]
theorem BB.JB.none{b:BB}{q fH:Int}(hq:0<=q)(h:b.JB q (-1) fH)(hb:fH<0):b.pick q=none:=by
 rcases h with⟨_,h2⟩ | ⟨h4,_⟩
 ·unfold BB.pick;rw[dL (fun k k0 k1=>by
   by_cases c:q<=k
   ·have:b.low k= .none:=dL fun j j0 j1=>FG fun e=>h2 j og og ⟨og,e.2⟩
    rw[this];simp
   ·simp[c])]
 ·omega
theorem BB.JB.some{b:BB}{q fH:Int}(hq:0<=q)(hI:b.Inv)(h:b.JB q (-1) fH)(hb:¬fH<0):b.pick q=some ((b.bS fH-1).toNat,fH.toNat)/\fH<64/\b.bS fH>q/\b.tk fH=false:=by
 rcases h with⟨h1,_⟩ | ⟨h4,h5,h6,h7⟩
 ·omega
 ·have hr:=hI.kv fH;have hc:=h6.1;have e:(((b.bS fH-1).toNat:Nat):Int)=b.bS fH-1:=og;have hl:b.low (b.bS fH-1)=Option.some fH.toNat:=dW og og ((lq og).2 ⟨og,h6.2⟩) (fun j j0 j1=>FG fun e=>by
   have:=h7 j og og ⟨og,e.2⟩
   omega)
  refine⟨?_,h5,h6.1,h6.2⟩;unfold BB.pick;rw[dW (k:=b.bS fH-1) og og (by
   rw[hl];simp;omega) (fun k k0 k1=>by
   by_cases c:q<=k
   ·have:b.low k= .none:=dL fun j j0 j1=>FG fun e=>by
     have:=h7 j og og ⟨og,e.2⟩
     omega
    rw[this];simp
   ·simp[c])]
  simp only[];rw[e,hl];rfl
def qG(f:Int->Bool):Nat->Int
 | 0=>0
 | n+1=>qG f n+if f n then 1 else 0
def N0(f:Int->Bool)(n:Nat):0<=qG f n/\qG f n<=n:=by
 induction n with
 | zero=>simp[qG]
 | succ n ih=>simp only[qG];split<;>omega
def abD(x n:Nat):x >>> n<=x:=by rw[Nat.shiftRight_eq_div_pow];exact Nat.div_le_self _ _
def bL(s:PB)(i:Nat):Value:=
 if i%1=0/\i/1<7 then .int .u64 (((s.b.gJ ((i/1:Nat):Int)):Nat):Int)else
 if 7<=i/\(i-7)%1=0/\(i-7)/1<64 then iI (s.u (((i-7)/1:Nat):Int))else
 undef
theorem dC(s:PB)(z0:Int)(q0:0<=z0/\z0<7:=by omega):((0+0)+z0.toNat*1)<71/\bL s ((0+0)+z0.toNat*1)= .int .u64 (((s.b.gJ z0):Nat):Int):=by
 refine⟨og,?_⟩;unfold bL;rw[if_pos og];rw[show((((0+0)+z0.toNat*1)/1:Nat):Int)=z0 from og]
theorem lK(s:PB)(z0:Int)(q0:0<=z0/\z0<64:=by omega):((0+7)+z0.toNat*1)<71/\bL s ((0+7)+z0.toNat*1)=iI (s.u z0):=by
 refine⟨og,?_⟩;unfold bL;rw[if_neg og];rw[if_pos og];rw[show(((((0+7)+z0.toNat*1)-7)/1:Nat):Int)=z0 from og]
def tF(s:PB)(z0:Int)(q0:0<=z0/\z0<64)(v:Int):((0+7)+z0.toNat*1)<71/\dE (bL s) ((0+7)+z0.toNat*1) (iI (v))=bL ({s with u:=ae s.u z0 v}):=by
 refine⟨og,?_⟩;funext j;unfold dE;by_cases hj:j=((0+7)+z0.toNat*1)
 ·rw[if_pos hj,hj,(lK ({s with u:=ae s.u z0 v}) z0 q0).2];all_goals simp[ae,cr]
 ·rw[if_neg hj];unfold bL;refine gW (fun c0=> ?_) fun c0=> ?_
  ·first | rfl | simp[ae,cr]
  refine gW (fun c1=> ?_) fun c1=> ?_
  ·have gK:¬((((j-7)/1:Nat):Int)=z0):=og;simp only[ae,cr,gK,if_false,and_true,true_and]
  rfl
def aeO:List Int:=[0,1,56,2,57,49,28,3,61,58,42,50,38,29,17,4,62,47,59,36,45,43,51,22,53,39,33,30,24,18,12,5,63,55,48,27,60,41,37,16,46,35,44,21,52,32,23,11,54,26,40,15,34,20,31,10,25,14,19,9,13,8,7,6]
def fw(i:Nat):Value:=.int .u8 (aeO.getD i 0)
def TH:∀ t:Nat,t<64->IntKind.u64.wrap (((2^t:Nat):Int)*285870213051353865)=((2^t*285870213051353865%18446744073709551616:Nat):Int)/\
  (((2^t*285870213051353865%18446744073709551616:Nat):Int)).fdiv (2^(min (58:Int).toNat IntKind.u64.bits))=((2^t*285870213051353865%18446744073709551616/288230376151711744:Nat):Int)/\
  (2^t*285870213051353865%18446744073709551616/288230376151711744)<64/\IntKind.i64.wrap (t:Int)=t/\
  aeO.getD (2^t*285870213051353865%18446744073709551616/288230376151711744) 0=(t:Int):=dk
def LR(ht:t<64):0+(((2^t*285870213051353865%18446744073709551616/288230376151711744:Nat):Int)).toNat*1<64/\fw (0+(((2^t*285870213051353865%18446744073709551616/288230376151711744:Nat):Int)).toNat*1)= .int .u8 (t:Int):=by
 obtain⟨_,_,z3,_,z5⟩:=TH t ht;have e:0+(((2^t*285870213051353865%18446744073709551616/288230376151711744:Nat):Int)).toNat*1=2^t*285870213051353865%18446744073709551616/288230376151711744:=og;rw[e];exact⟨z3,congrArg (Value.int .u8) z5⟩
def XH{x:Nat}(h:0<x/\x<18446744073709551616):IntKind.u64.wrap (0-(x:Int))=((2^64-x:Nat):Int):=by
 have:((0-(x:Int))%(2^64:Int))=((2^64-x:Nat):Int):=by
  have h2:(2:Int)^64=18446744073709551616:=dq;have h3:(2:Nat)^64=18446744073709551616:=dq;rw[h2,h3];omega
 simpa [IntKind.wrap,IntKind.signed,IntKind.bits]using this
def XJ{n:Int}(h:0<=n/\n<64)(x:Nat):(x:Int).fdiv (2^(min n.toNat IntKind.u64.bits))=((x >>> n.toNat:Nat):Int):=by
 have:min n.toNat IntKind.u64.bits=n.toNat:=by show min n.toNat 64=_;omega
 rw[this,Nat.shiftRight_eq_div_pow,Int.fdiv_eq_ediv_of_nonneg _ (by exact Int.le_of_lt (Int.pow_pos og))];simp
def XK:∀ n:Nat,n<64->IntKind.u64.wrap (1*2^(min n IntKind.u64.bits))=((2^n:Nat):Int):=dk
def xO{n:Int}(h:0<=n/\n<64:=by omega):IntKind.u64.wrap (1*2^(min n.toNat IntKind.u64.bits))=((2^n.toNat:Nat):Int):=XK _ og
def TI:∀ n:Nat,n<62->IntKind.i64.wrap (1*2^(min n IntKind.i64.bits))=((2^n:Nat):Int):=dk
def Hj{n:Int}(h:0<=n/\n<62:=by omega):IntKind.i64.wrap (1*2^(min n.toNat IntKind.i64.bits))=p2 n:=TI _ og
def iO(h:n<64):2^n<18446744073709551616:=Nat.pow_lt_pow_right (a:=2) (n:=64) og h
def Cx(x:Nat)(k:Nat):(((x >>> k)&&&1:Nat):Int)=if x.testBit k then 1 else 0:=by
 rw[Nat.testBit_eq_decide_div_mod_eq,Nat.shiftRight_eq_div_pow,Nat.and_one_is_mod];by_cases h:x/2^k%2=1
 ·simp[h]
 ·have:x/2^k%2=0:=og;simp[this]
def aeP(h:0<=k/\k<=6):1<=p2 k/\p2 k<=64:=by
 have:k=0\/k=1\/k=2\/k=3\/k=4\/k=5\/k=6:=og;rcases this with rfl | rfl | rfl | rfl | rfl | rfl | rfl<;>decide
def ot(s:PB)(b':BB)(k:Int)(q:0<=k/\k<7){v:Nat}(hv:v=b'.gJ k/\∀ m,0<=m->m<7->¬m=k->b'.gJ m=s.b.gJ m):0+0+k.toNat*1<71/\dE (bL s) (0+0+k.toNat*1) (.int .u64 (v:Int))=bL {s with b:=b'} :=by
 refine⟨og,?_⟩;funext i;unfold dE;by_cases h:i=0+0+k.toNat*1
 ·rw[if_pos h,h,(dC {s with b:=b'} k q).2,hv.1]
 ·rw[if_neg h];by_cases h2:i<7
  ·have e1:=(dC s (i:Int)).2;have e2:=(dC {s with b:=b'} (i:Int)).2;rw[show 0+0+(i:Int).toNat*1=i from og]at e1 e2;rw[e1,e2];rw[hv.2 i og og og]
  ·have c:¬(i%1=0/\i/1<7):=og;unfold bL;simp only[if_neg c]
def xP:BB.cP.gJ 6=1/\∀ m:Int,0<=m->m<7->¬m=6->BB.cP.gJ m=0:=by
 refine⟨dk,fun m h0 h1 h2=> ?_⟩;have:m=0\/m=1\/m=2\/m=3\/m=4\/m=5:=og;rcases this with rfl | rfl | rfl | rfl | rfl | rfl<;>decide+kernel
def BB.dm:BB:=⟨fun _=>0,fun _=>false⟩
theorem xQ:∀ m:Int,0<=m->m<7->BB.dm.gJ m=0:=fun m h0 h1=>by
 have:m=0\/m=1\/m=2\/m=3\/m=4\/m=5\/m=6:=og;rcases this with rfl | rfl | rfl | rfl | rfl | rfl | rfl<;>decide+kernel
def zJ:∀ i,i<71->cellsOf #[.int .u64 0,.int .u64 0,.int .u64 0,.int .u64 0,.int .u64 0,.int .u64 0,.int .u64 0,iI 0,iI 0,iI 0,iI 0,iI 0,iI 0,iI 0,iI 0,iI 0,iI 0,iI 0,iI 0,iI 0,iI 0,iI 0,iI 0,iI 0,iI 0,iI 0,iI 0,iI 0,iI 0,iI 0,iI 0,iI 0,iI 0,iI 0,iI 0,iI 0,iI 0,iI 0,iI 0,iI 0,iI 0,iI 0,iI 0,iI 0,iI 0,iI 0,iI 0,iI 0,iI 0,iI 0,iI 0,iI 0,iI 0,iI 0,iI 0,iI 0,iI 0,iI 0,iI 0,iI 0,iI 0,iI 0,iI 0,iI 0,iI 0,iI 0,iI 0,iI 0,iI 0,iI 0,iI 0] i=bL ⟨BB.dm,fun _=>0⟩ i:=fun i hi=>by
 by_cases h2:i<7
 ·have e2:=(dC ⟨BB.dm,fun _=>0⟩ (i:Int)).2;rw[show 0+0+(i:Int).toNat*1=i from og]at e2;rw[e2,xQ _ og og];have:i=0\/i=1\/i=2\/i=3\/i=4\/i=5\/i=6:=og;rcases this with rfl | rfl | rfl | rfl | rfl | rfl | rfl<;>rfl
 ·have e2:=(lK ⟨BB.dm,fun _=>0⟩ ((i-7:Nat):Int)).2;rw[show 0+7+((i-7:Nat):Int).toNat*1=i from og]at e2;rw[e2];exact match i,hi,h2 with
  | 0,_,h=>absurd og h
  | 1,_,h=>absurd og h
  | 2,_,h=>absurd og h
  | 3,_,h=>absurd og h
  | 4,_,h=>absurd og h
  | 5,_,h=>absurd og h
  | 6,_,h=>absurd og h
  | 7,_,_=>rfl
  | 8,_,_=>rfl
  | 9,_,_=>rfl
  | 10,_,_=>rfl
  | 11,_,_=>rfl
  | 12,_,_=>rfl
  | 13,_,_=>rfl
  | 14,_,_=>rfl
  | 15,_,_=>rfl
  | 16,_,_=>rfl
  | 17,_,_=>rfl
  | 18,_,_=>rfl
  | 19,_,_=>rfl
  | 20,_,_=>rfl
  | 21,_,_=>rfl
  | 22,_,_=>rfl
  | 23,_,_=>rfl
  | 24,_,_=>rfl
  | 25,_,_=>rfl
  | 26,_,_=>rfl
  | 27,_,_=>rfl
  | 28,_,_=>rfl
  | 29,_,_=>rfl
  | 30,_,_=>rfl
  | 31,_,_=>rfl
  | 32,_,_=>rfl
  | 33,_,_=>rfl
  | 34,_,_=>rfl
  | 35,_,_=>rfl
  | 36,_,_=>rfl
  | 37,_,_=>rfl
  | 38,_,_=>rfl
  | 39,_,_=>rfl
  | 40,_,_=>rfl
  | 41,_,_=>rfl
  | 42,_,_=>rfl
  | 43,_,_=>rfl
  | 44,_,_=>rfl
  | 45,_,_=>rfl
  | 46,_,_=>rfl
  | 47,_,_=>rfl
  | 48,_,_=>rfl
  | 49,_,_=>rfl
  | 50,_,_=>rfl
  | 51,_,_=>rfl
  | 52,_,_=>rfl
  | 53,_,_=>rfl
  | 54,_,_=>rfl
  | 55,_,_=>rfl
  | 56,_,_=>rfl
  | 57,_,_=>rfl
  | 58,_,_=>rfl
  | 59,_,_=>rfl
  | 60,_,_=>rfl
  | 61,_,_=>rfl
  | 62,_,_=>rfl
  | 63,_,_=>rfl
  | 64,_,_=>rfl
  | 65,_,_=>rfl
  | 66,_,_=>rfl
  | 67,_,_=>rfl
  | 68,_,_=>rfl
  | 69,_,_=>rfl
  | 70,_,_=>rfl
  | k+71,h,_=>absurd h og
end Go.X.Vm
