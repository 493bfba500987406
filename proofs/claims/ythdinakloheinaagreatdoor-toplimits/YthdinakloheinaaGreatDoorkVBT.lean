import Derived.Test.YthdinakloheinaaGreatDoorXBytes
set_option linter.all false
namespace Go.X.Gr
open Go Go.X
variable{a k m n p:Int}
structure TG where
 aa:Int->Bool
 aA:Int->Int
 mp:Int->Int
 mg:Int->Int
 pr:Int->Int
 pg:Int->Int
def jo(aA:Int->Int):Nat->Int->List Int
 | 0,_=>[]
 | k+1,n=>if n<0 then []else n::jo aA k (aA n)
def lK(aA:Int->Int):Int->List Int->Prop
 | n,[]=>n<0
 | n,x::r=>x=n/\0<=n/\n<10/\lK aA (aA n) r
theorem lK.Uc{aA:Int->Int} :∀ {n:Int} {l l':List Int},lK aA n l->lK aA n l'->l=l'
 | _,[],[],_,_=>rfl
 | _,[],_::_,h,k=>absurd h (by have:=k.2.1;simp only[lK];omega)
 | _,_::_,[],h,k=>absurd k (by have:=h.2.1;simp only[lK];omega)
 | _,_::_,_::_,⟨h1,_,_,h2⟩,⟨k1,_,_,k2⟩=>by subst h1;subst k1;rw[lK.Uc h2 k2]
theorem lK.range{aA:Int->Int} :∀ {n:Int} {l:List Int},lK aA n l->∀ x∈l,0<=x/\x<10
 | _,[],_,_,h=>by simp at h
 | _,_::_,⟨h1,h2,h3,h4⟩,x,hx=>by
  rcases List.mem_cons.1 hx with rfl | hx
  ·subst h1;exact⟨h2,h3⟩
  ·exact lK.range h4 x hx
abbrev Qv:= {x:Int//0<=x/\x<10}
def mB(l:List Qv):List Int:=l.map (·.1)
theorem FX(l:List Qv)(x:Qv):mB (l++[x])=mB l++[x.1]:=by simp[mB]
def qZ:∀ (l:List Int),(∀ x∈l,0<=x/\x<10)->∃ l':List Qv,mB l'=l
 | [],_=>⟨[],rfl⟩
 | x::r,h=>by
  obtain⟨r',hr⟩:=qZ r fun y hy=>h y (List.mem_cons_of_mem _ hy);exact⟨⟨x,h x sq⟩::r',by simp[mB]at*;exact hr⟩
def cE(f:Int->Int):Nat->Int
 | 0=>0
 | k+1=>cE f k+f (k:Int)
def JQ(p:Int->Bool):Nat->List Int
 | 0=>[]
 | k+1=>JQ p k++if p (k:Int)=true then [(k:Int)]else []
theorem JR(p:Int->Bool):∀ (k:Nat) (x:Int),x∈JQ p k↔0<=x/\x<k/\p x=true
 | 0,x=>by simp[JQ];omega
 | k+1,x=>by
  simp only[JQ,List.mem_append,JR p k x];by_cases h:p (k:Int)=true
  ·rw[if_pos h];simp only[List.mem_singleton];constructor
   ·rintro(⟨h1,h2,h3⟩ | rfl)
    ·exact⟨h1,og,h3⟩
    ·exact⟨og,og,h⟩
   ·rintro⟨h1,h2,h3⟩;by_cases hx:x=(k:Int)
    ·exact .inr hx
    ·exact .inl ⟨h1,og,h3⟩
  ·rw[if_neg h];simp only[List.not_mem_nil,or_false];constructor
   ·rintro⟨h1,h2,h3⟩;exact⟨h1,og,h3⟩
   ·rintro⟨h1,h2,h3⟩;refine⟨h1,?_,h3⟩;by_cases hx:x=(k:Int)
    ·subst hx;exact absurd h3 h
    ·omega
structure GV where
 aA:Int
 mp:Int
 mg:Int
 pr:Int
 pg:Int
def GV.cF(g:GV):Array Value:= #[iI g.aA,iI g.mp,iI g.mg,iI g.pr,iI g.pg]
def GV.room(g:GV)(p m:Int):Bool:=(decide (p=0)||decide (g.mp<0)||decide (g.pr+p<=g.mp))&&(decide (m=0)||decide (g.mg<0)||decide (g.pg+m<=g.mg))
namespace TG
def gv(s:TG)(n:Int):GV:=⟨s.aA n,s.mp n,s.mg n,s.pr n,s.pg n⟩
def E6(s:TG)(n:Int)(g:GV):TG:=⟨s.aa,ad s.aA n g.aA,ad s.mp n g.mp,ad s.mg n g.mg,ad s.pr n g.pr,ad s.pg n g.pg⟩
def cX(s:TG)(n:Int):List Int:=jo s.aA 5 n
def cC(s:TG)(n:Int):Int:=if n<0\/10<=n then 1 else if s.aa n=true then 0 else 2
def W8(p m:Int):Int:=if p<0\/20<p\/m<0\/64<m then 1 else 0
def room(s:TG)(p m n:Int):Bool:=(s.gv n).room p m
def free(s:TG):Option Nat:=dW (fun n=> !s.aa n) 10
def put(s:TG)(k p:Int):TG:=⟨ad s.aa k true,ad s.aA k p,ad s.mp k (-1),ad s.mg k (-1),ad s.pr k 0,ad s.pg k 0⟩
def Bb(s:TG)(k:Int):TG:=⟨ad s.aa k false,ad s.aA k 0,ad s.mp k 0,ad s.mg k 0,ad s.pr k 0,ad s.pg k 0⟩
def ud(s:TG)(p:Int):Int:=if s.cC p≠0 then s.cC p else if(s.cX p).length=4 then 7 else if s.free=none then 4 else 0
def gL(s:TG)(p:Int):Int:=if s.ud p=0 then((s.free.getD 0:Nat):Int)else 0
def add(s:TG)(p:Int):TG:=if s.ud p=0 then s.put (s.gL p) p else s
def below(s:TG)(n:Int):Prop:=∃ k:Int,0<=k/\k<10/\s.aa k=true/\s.aA k=n
def lay(s:TG)(l:List Int)(p m:Int):TG:= {s with pr:=fun y=>s.pr y+p*(l.count y:Int),pg:=fun y=>s.pg y+m*(l.count y:Int)}
def pN(s:TG)(n p m:Int):Int:=if s.cC n≠0 then s.cC n else W8 p m
def cZ(s:TG)(n p m:Int):Int:=if s.pN n p m≠0 then s.pN n p m else if(s.cX n).all (s.room p m)=true then 0 else 6
def aP(s:TG)(n p m:Int):TG:=if s.cZ n p m=0 then s.lay (s.cX n) p m else s
def gF(s:TG)(f:Int->Int)(n k:Int):Int:=if s.aa k=true/\s.aA k=n then f k else 0
def left(s:TG)(f:Int->Int)(n:Int):Int:=f n-cE (s.gF f n) 10
def gk(s:TG)(n p m:Int):Int:=if s.pN n p m≠0 then s.pN n p m else if p<=s.left s.pr n/\m<=s.left s.pg n then 0 else 8
def cR(s:TG)(n p m:Int):TG:=if s.gk n p m=0 then s.lay (s.cX n) (-p) (-m)else s
def ki(s:TG)(n p m:Int):Int:=if s.cC n≠0 then s.cC n else if p< -1\/20<p\/m< -1\/64<m then 1 else 0
def jD(s:TG)(n p m:Int):TG:=if s.ki n p m=0 then {s with mp:=ad s.mp n p,mg:=ad s.mg n m} else s
def eN(s:TG)(a b p m:Int):Int:=if s.cC b≠0 then s.cC b else if s.gk a p m≠0 then s.gk a p m else(s.cR a p m).cZ b p m
def move(s:TG)(a b p m:Int):TG:=if s.cC b≠0\/s.gk a p m≠0 then s else if(s.cR a p m).cZ b p m=0 then(s.cR a p m).aP b p m else s
def iQ(s:TG)(n p m:Int):Option Int:=if s.pN n p m≠0 then none else(s.cX n).find? fun x=> !s.room p m x
def under(s:TG)(n o:Int):Bool:=if s.cC n≠0 then false else decide (o∈s.cX n)
def all(s:TG):List Int:=JQ s.aa 10
structure Ok (s:TG):Prop where
 qm:s.aa 0=true/\s.aA 0= -1
 uf:∃ d:Int->Nat,d 0=1/\∀ n,0<=n->n<10->s.aa n=true->1<=d n/\d n<=4/\(n≠0->0<=s.aA n/\s.aA n<10/\s.aa (s.aA n)=true/\d n=d (s.aA n)+1)
def jq{s:TG}(h:s.cC n=0):0<=n/\n<10/\s.aa n=true:=by
 grind [cC]
theorem C4{s:TG}(h0:0<=n)(h1:n<10)(h2:s.aa n=true):s.cC n=0:=by
 grind [cC]
def Bc(p m:Int):W8 p m=0↔0<=p/\p<=20/\0<=m/\m<=64:=by
 grind [W8]
def aaD{s:TG}(h:s.pN n p m=0:=by omega):(0<=n/\n<10/\s.aa n=true)/\0<=p/\p<=20/\0<=m/\m<=64:=by
 unfold pN at h;split at h
 ·omega
 ·rename_i h1;exact⟨jq og,(Bc p m).1 h⟩
def Ok.Ud{s:TG}(h:s.Ok):∀ (f k:Nat),k<=f->∀ d:Int->Nat,d 0=1->(∀ n,0<=n->n<10->s.aa n=true->1<=d n/\d n<=4/\(n≠0->0<=s.aA n/\s.aA n<10/\s.aa (s.aA n)=true/\d n=d (s.aA n)+1))->
  ∀ n,0<=n->n<10->s.aa n=true->d n=k->lK s.aA n (jo s.aA f n)/\(jo s.aA f n).length=k/\∀ x∈jo s.aA f n,s.aa x=true
 | 0,k,hk,d,d0,hd,n,h0,h1,h2,h3=>by have:=(hd n h0 h1 h2).1;omega
 | f+1,k,hk,d,d0,hd,n,h0,h1,h2,h3=>by
  have h4:=hd n h0 h1 h2;unfold jo;rw[if_neg og];by_cases hn:n=0
  ·subst hn;have hp:s.aA 0= -1:=h.qm.2;have e:jo s.aA f (s.aA 0)=[]:=by rw[hp];cases f<;>simp[jo]
   grind [lK]
  ·obtain⟨p0,p1,p2,p3⟩:=h4.2.2 hn;obtain⟨q1,q2,q3⟩:=Ok.Ud h f (k-1) og d d0 hd (s.aA n) p0 p1 p2 og;grind [lK]
theorem Ok.cX{s:TG}(h:s.Ok){n:Int}(h0:0<=n)(h1:n<10)(h2:s.aa n=true):lK s.aA n (s.cX n)/\(s.cX n).length<=4/\∀ x∈s.cX n,s.aa x=true:=by
 obtain⟨d,d0,hd⟩:=h.uf;have h3:=hd n h0 h1 h2;obtain⟨q1,q2,q3⟩:=h.Ud 5 (d n) og d d0 hd n h0 h1 h2 rfl;exact⟨q1,by unfold TG.cX;omega,q3⟩
theorem Ue(s:TG)(l:List Int)(x p m:Int):s.lay (l++[x]) p m= {s.lay l p m with pr:=ad (s.lay l p m).pr x ((s.lay l p m).pr x+p),pg:=ad (s.lay l p m).pg x ((s.lay l p m).pg x+m)} :=by
 have h:∀ (f:Int->Int) (q:Int),(fun y=>f y+q*((l++[x]).count y:Int))=ad (fun y=>f y+q*(l.count y:Int)) x (f x+q*(l.count x:Int)+q):=fun f q=>by
  funext y;unfold ad;by_cases hy:y=x
  ·subst hy;rw[if_pos rfl,List.count_append,List.count_singleton_self];grind
  grind
 simp_all[lay]
def Yh(s:TG)(p m:Int):s.lay [] p m=s:=by simp[lay]
theorem Uf(s:TG)(l:List Int)(p m:Int):(s.lay l (-p) (-m)).lay l p m=s:=by
 unfold lay;have h:∀ (f:Int->Int) (q:Int),(fun y=>f y+ -q*(l.count y:Int)+q*(l.count y:Int))=f:=fun f q=>by
  grind
 simp_all
def bU(s:TG)(B:Int):Prop:=∀ n,0<=n->n<10-> -B<=s.pr n/\s.pr n<=B/\ -B<=s.pg n/\s.pg n<=B
theorem bU.mono{s:TG}{B B':Int}(h:s.bU B)(hb:B<=B'):s.bU B':=fun n h0 h1=>by have:=h n h0 h1;omega
def B1{c K:Int}(hc:0<=c)(hp: -K<=p/\p<=K)(hn:c<=n)(hK:0<=K:=by omega): -(K*n)<=p*c/\p*c<=K*n:=by
 have h1:p*c<=K*c:=Int.mul_le_mul_of_nonneg_right hp.2 hc;have h2: -K*c<=p*c:=Int.mul_le_mul_of_nonneg_right hp.1 hc;have h3:K*c<=K*n:=Int.mul_le_mul_of_nonneg_left hn hK;grind
theorem bU.lay{s:TG}{B:Int}(h:s.bU B){l:List Int}(hl:l.length<=5){p m:Int}(hp: -20<=p/\p<=20)(hm: -64<=m/\m<=64):(s.lay l p m).bU (B+320):=fun n h0 h1=>by
 have h2:=h n h0 h1;have hc:(l.count n:Int)<=5:=by have:=List.count_le_length (a:=n) (l:=l);omega
 have h3:=B1 (p:=p) (c:=l.count n) (K:=20) og hp hc;have h4:=B1 (p:=m) (c:=l.count n) (K:=64) og hm hc;show-(B+320)<=s.pr n+p*(l.count n:Int)/\s.pr n+p*(l.count n:Int)<=B+320/\ -(B+320)<=s.pg n+m*(l.count n:Int)/\s.pg n+m*(l.count n:Int)<=B+320;omega
end TG
def JS(s:TG)(f:Int->Int)(n:Int)(h:0<=k):cE (s.gF f n) (k+1).toNat=cE (s.gF f n) k.toNat+s.gF f n k:=by
 rw[show(k+1).toNat=k.toNat+1 from og];grind [cE]
def C5{f:Int->Int}{B:Int} :∀ (k:Nat),(∀ j:Int,0<=j->j<k-> -B<=f j/\f j<=B)-> -(B*k)<=cE f k/\cE f k<=B*k
 | 0,_=>by simp[cE]
 | k+1,h=>by
  have h1:=C5 k fun j h0 h1=>h j h0 og;grind [cE]
def Qw{s:TG}{B:Int}(h:s.bU B)(hB:0<=B/\B<=1000000000000)(hn:0<=n/\n<10)(h0:0<=k)(hk:k<=10:=by omega):(-(B*10)<=cE (s.gF s.pr n) k.toNat/\cE (s.gF s.pr n) k.toNat<=B*10)/\(-(B*10)<=cE (s.gF s.pg n) k.toNat/\cE (s.gF s.pg n) k.toNat<=B*10)/\s.bU B:=by
 have hm:B*(k.toNat:Int)<=B*10:=Int.mul_le_mul_of_nonneg_left og hB.1;have h1:=C5 (f:=s.gF s.pr n) (B:=B) k.toNat (fun j j0 j1=>by
  have:=h j j0 og
  unfold TG.gF;split<;>omega)
 have h2:=C5 (f:=s.gF s.pg n) (B:=B) k.toNat (fun j j0 j1=>by
  have:=h j j0 og
  unfold TG.gF;split<;>omega)
 grind
namespace TG
theorem Ok.lay{s:TG}(h:s.Ok)(l:List Int)(p m:Int):(s.lay l p m).Ok:=⟨h.qm,h.uf⟩
theorem Ok.cR{s:TG}(h:s.Ok){n p m:Int} :(s.cR n p m).Ok:=by
 unfold TG.cR;split
 ·exact h.lay _ _ _
 omega
theorem Ug(s:TG)(a p m n:Int):(s.cR a p m).cX n=s.cX n:=by unfold TG.cR;split<;>rfl
def vj{s:TG}(h:s.gk n p m=0):(0<=n/\n<10/\s.aa n=true)/\0<=p/\p<=20/\0<=m/\m<=64:=by
 unfold gk at h;split at h
 ·omega
 ·exact aaD
def q7{s:TG}(h:s.cZ n p m=0):(0<=n/\n<10/\s.aa n=true)/\0<=p/\p<=20/\0<=m/\m<=64:=by
 unfold cZ at h;split at h
 ·omega
 ·exact aaD
theorem bU.cR{s:TG}{B:Int}(h:s.bU B)(hO:s.Ok)(n p m:Int):(s.cR n p m).bU (B+320):=by
 unfold TG.cR;split
 ·rename_i h0;obtain⟨⟨n0,n1,n2⟩,p0,p1,m0,m1⟩:=vj h0;have:=(hO.cX n0 n1 n2).2.1;exact h.lay og og og
 ·exact h.mono og
def bU.aP{s:TG}{B:Int}(h:s.bU B)(hO:s.Ok)(n p m:Int):(s.aP n p m).bU (B+320):=by
 unfold TG.aP;split
 ·rename_i h0;obtain⟨⟨n0,n1,n2⟩,p0,p1,m0,m1⟩:=q7 h0;have:=(hO.cX n0 n1 n2).2.1;exact h.lay og og og
 ·exact h.mono og
end TG
namespace TG
def Hr(s:TG)(n:Int):Bool:=(List.range 10).any (fun k=>s.aa (k:Int)&&decide (s.aA (k:Int)=n))
def Qx(s:TG)(n:Int):s.Hr n=true↔s.below n:=by
 unfold Hr below;simp only[List.any_eq_true,List.mem_range,Bool.and_eq_true,decide_eq_true_eq];constructor
 ·grind
 ·rintro⟨k,h1,h2,h3,h4⟩;refine⟨k.toNat,og,?_⟩;grind
theorem On{s:TG}(h0:0<=k)(h1:k<10)(h2:s.aa k=true)(h3:s.aA k=n):s.Hr n=true:=(s.Qx n).2 ⟨k,h0,h1,h2,h3⟩
def Yi{s:TG}(h:∀ j:Int,0<=j->j<10->¬(s.aa j=true/\s.aA j=n)):s.Hr n=false:=by
 grind [Hr]
def dz(s:TG)(n:Int):Int:=if s.cC n≠0 then s.cC n else if n=0\/0<s.pr n\/0<s.pg n\/s.Hr n=true then 5 else 0
def du(s:TG)(n:Int):TG:=if s.dz n=0 then s.Bb n else s
def Qy{s:TG}(h0:0<=k)(h1:k<10)(h2:s.aa k=false)(hn:∀ j:Int,0<=j->j<k->s.aa j=true):s.free=some k.toNat:=
 fx h0 h1 (by simp[h2]) fun j j0 j1=>by simp[hn j j0 j1]
theorem zW{s:TG}(hn:∀ j:Int,0<=j->j<10->s.aa j=true):s.free=none:=
 fy fun j j0 j1=>by simp[hn j j0 j1]
theorem CY{s:TG}(hi:s.cC a=0)(hd:¬(s.cX a).length=4)(h0:0<=k)(h1:k<10)(h2:s.aa k=false)(hn:∀ j:Int,0<=j->j<k->s.aa j=true):s.ud a=0/\s.gL a=k/\s.add a=s.put k a:=by
 have hf:=Qy h0 h1 h2 hn;grind [ud,gL,add]
theorem si{s:TG}(h:s.ud a≠0):s.gL a=0/\s.add a=s:=by grind [gL,add]
theorem Hp{s:TG}(h:s.cC a≠0):s.ud a=s.cC a:=by unfold ud;rw[if_pos h]
theorem CX{s:TG}(h:s.cC a=0)(hd:(s.cX a).length=4):s.ud a=7:=by grind [ud]
def Uh{s:TG}(h:s.cC a=0)(hd:¬(s.cX a).length=4)(hn:∀ j:Int,0<=j->j<10->s.aa j=true):s.ud a=4:=by
 grind [ud,zW]
end TG
def JT(g:GV)(q m:Int):g.room q m=true↔(q=0\/g.mp<0\/g.pr+q<=g.mp)/\(m=0\/g.mg<0\/g.pg+m<=g.mg):=by
 grind [GV.room]
theorem Qz{l:List Int}{z:Int}(h0:0<=z)(h1:z<l.length):l.take (z+1).toNat=l.take z.toNat++[gh l z]:=by
 have h2:z.toNat<l.length:=og;rw[show(z+1).toNat=z.toNat+1 from og,List.take_add_one];grind [gh]
def bD(s:TG)(i:Nat):Value:=
 if i%5=0/\i/5<10 then iI (s.aA ((i/5:Nat):Int))else
 if 1<=i/\(i-1)%5=0/\(i-1)/5<10 then iI (s.mp (((i-1)/5:Nat):Int))else
 if 2<=i/\(i-2)%5=0/\(i-2)/5<10 then iI (s.mg (((i-2)/5:Nat):Int))else
 if 3<=i/\(i-3)%5=0/\(i-3)/5<10 then iI (s.pr (((i-3)/5:Nat):Int))else
 if 4<=i/\(i-4)%5=0/\(i-4)/5<10 then iI (s.pg (((i-4)/5:Nat):Int))else
 if 50<=i/\(i-50)%1=0/\(i-50)/1<10 then .bool (s.aa (((i-50)/1:Nat):Int))else
 undef
def gm(s:TG)(z0:Int)(q0:0<=z0/\z0<10:=by omega):(((0+0)+z0.toNat*5)+0)<60/\bD s (((0+0)+z0.toNat*5)+0)=iI (s.aA z0):=by
 refine⟨og,?_⟩;unfold bD;rw[if_pos og];grind
def mE(s:TG)(z0:Int)(q0:0<=z0/\z0<10):(((0+0)+z0.toNat*5)+1)<60/\bD s (((0+0)+z0.toNat*5)+1)=iI (s.mp z0):=by
 refine⟨og,?_⟩;unfold bD;rw[if_neg og];rw[if_pos og];grind
def tg(s:TG)(z0:Int)(q0:0<=z0/\z0<10)(v:Int):(((0+0)+z0.toNat*5)+1)<60/\dP (bD s) (((0+0)+z0.toNat*5)+1) (iI (v))=bD ({s with mp:=ad s.mp z0 v}):=by
 refine⟨og,?_⟩;funext j;grind [dP,ad,bD]
def mF(s:TG)(z0:Int)(q0:0<=z0/\z0<10):(((0+0)+z0.toNat*5)+2)<60/\bD s (((0+0)+z0.toNat*5)+2)=iI (s.mg z0):=by
 refine⟨og,?_⟩;unfold bD;rw[if_neg og];grind
def ti(s:TG)(z0:Int)(q0:0<=z0/\z0<10)(v:Int):(((0+0)+z0.toNat*5)+2)<60/\dP (bD s) (((0+0)+z0.toNat*5)+2) (iI (v))=bD ({s with mg:=ad s.mg z0 v}):=by
 refine⟨og,?_⟩;funext j;grind [dP,ad,bD]
def fI(s:TG)(z0:Int)(q0:0<=z0/\z0<10:=by omega):(((0+0)+z0.toNat*5)+3)<60/\bD s (((0+0)+z0.toNat*5)+3)=iI (s.pr z0):=by
 refine⟨og,?_⟩;grind [bD]
def wT(s:TG)(z0:Int)(q0:0<=z0/\z0<10)(v:Int):(((0+0)+z0.toNat*5)+3)<60/\dP (bD s) (((0+0)+z0.toNat*5)+3) (iI (v))=bD ({s with pr:=ad s.pr z0 v}):=by
 refine⟨og,?_⟩;funext j;grind [dP,ad,bD]
def fJ(s:TG)(z0:Int)(q0:0<=z0/\z0<10:=by omega):(((0+0)+z0.toNat*5)+4)<60/\bD s (((0+0)+z0.toNat*5)+4)=iI (s.pg z0):=by
 grind [bD]
def wU(s:TG)(z0:Int)(q0:0<=z0/\z0<10)(v:Int):(((0+0)+z0.toNat*5)+4)<60/\dP (bD s) (((0+0)+z0.toNat*5)+4) (iI (v))=bD ({s with pg:=ad s.pg z0 v}):=by
 refine⟨og,?_⟩;funext j;grind [dP,ad,bD]
def BK(s:TG)(z0:Int)(q0:0<=z0/\z0<10):((0+50)+z0.toNat*1)<60/\bD s ((0+50)+z0.toNat*1)= .bool (s.aa z0):=by
 grind [bD]
def nZ(s:TG)(z0:Int)(q0:0<=z0/\z0<10)(v:Bool):((0+50)+z0.toNat*1)<60/\dP (bD s) ((0+50)+z0.toNat*1) (.bool (v))=bD ({s with aa:=ad s.aa z0 v}):=by
 grind [dP,ad,bD]
def ny(s:GV)(i:Nat):Value:=
 if i=0 then iI (s.aA)else
 if i=1 then iI (s.mp)else
 if i=2 then iI (s.mg)else
 if i=3 then iI (s.pr)else
 if i=4 then iI (s.pg)else
 undef
def C6(s:GV):(0+0)<5/\ny s (0+0)=iI (s.aA):=by
 grind [ny]
def kF(s:GV):(0+1)<5/\ny s (0+1)=iI (s.mp):=by
 grind [ny]
def db(s:GV):(0+2)<5/\ny s (0+2)=iI (s.mg):=by
 grind [ny]
def kZ(s:GV):(0+3)<5/\ny s (0+3)=iI (s.pr):=by
 grind [ny]
def fl(s:GV):(0+4)<5/\ny s (0+4)=iI (s.pg):=by
 grind [ny]
def C7(s:TG)(z:Int)(h:0<=z/\z<10:=by omega):0+0+z.toNat*5+5<=60/\dv (bD s) (0+0+z.toNat*5) 5= .agg (s.gv z).cF:=by
 refine⟨og,?_⟩;have h0:=(gm s z h).2;have h1:=(mE s z h).2;have h2:=(mF s z h).2;have h3:=(fI s z h).2;have h4:=(fJ s z h).2;simp only[dv,List.range,List.range.loop,List.map_cons,List.map_nil];simp only[Nat.add_zero]at h0 ⊢;rw[h0,h1,h2,h3,h4];rfl
def wV(s:TG):0+50+10<=60/\dv (bD s) (0+50) 10= .agg (PX s.aa 10):=by
 refine⟨og,?_⟩;rfl
theorem iw(C:Nat->Value):∀ (vs:List Value) (i j:Nat),j<i->cD C i vs j=C j
 | [],_,_,_=>rfl
 | v::r,i,j,h=>by
  unfold cD;rw[iw (dP C i v) r (i+1) j og];simp[dP];omega
theorem fP:∀ (vs:List Value) (C:Nat->Value) (i j:Nat) (v:Value),vs[j]? =some v->cD C i vs (i+j)=v
 | [],_,_,_,_,h=>by simp at h
 | u::r,C,i,0,v,h=>by
  have h2:u=v:=by simpa using h
  unfold cD;rw[iw _ _ _ _ og,<-h2];simp[dP]
 | u::r,C,i,j+1,v,h=>by
  unfold cD;have:=fP r (dP C i u) (i+1) j v (by simpa using h);rw[show i+1+j=i+(j+1)from og]at this;exact this
theorem ix:∀ (vs:List Value) (C:Nat->Value) (i j:Nat),i+vs.length<=j->cD C i vs j=C j
 | [],_,_,_,_=>rfl
 | v::r,C,i,j,h=>by
  simp only[List.length_cons]at h;unfold cD;rw[ix r (dP C i v) (i+1) j og];simp[dP];omega
def zX(s:TG)(z:Int)(h:0<=z/\z<10)(g:GV):0+0+z.toNat*5+5<=60/\cD (bD s) (0+0+z.toNat*5) g.cF.toList=bD (s.E6 z g):=by
 refine⟨og,?_⟩;funext i;have hl:g.cF.toList.length=5:=rfl;by_cases a1:i<0+0+z.toNat*5
 ·rw[iw _ _ _ _ a1];unfold bD;simp only[TG.E6];grind [ae]
 ·by_cases a2:i<0+0+z.toNat*5+5
  ·have h0:=(gm (s.E6 z g) z h).2;have h1:=(mE (s.E6 z g) z h).2;have h2:=(mF (s.E6 z g) z h).2;have h3:=(fI (s.E6 z g) z h).2;have h4:=(fJ (s.E6 z g) z h).2;simp only[TG.E6,aj]at h0 h1 h2 h3 h4;obtain⟨j,rfl⟩:∃ j,i=0+0+z.toNat*5+j:=⟨i-(0+0+z.toNat*5),og⟩;have hj:j=0\/j=1\/j=2\/j=3\/j=4:=og;rcases hj with rfl | rfl | rfl | rfl | rfl
   ·exact(fP g.cF.toList _ _ 0 _ rfl).trans h0.symm
   ·exact(fP g.cF.toList _ _ 1 _ rfl).trans h1.symm
   ·exact(fP g.cF.toList _ _ 2 _ rfl).trans h2.symm
   ·exact(fP g.cF.toList _ _ 3 _ rfl).trans h3.symm
   ·exact(fP g.cF.toList _ _ 4 _ rfl).trans h4.symm
  ·rw[ix _ _ _ _ og];unfold bD;simp only[TG.E6];grind [ae]
def q8(g:GV):∀ i,i<5->cellsOf g.cF i=ny g i:=fun i h=>match i,h with
 | 0,_=>rfl
 | 1,_=>rfl
 | 2,_=>rfl
 | 3,_=>rfl
 | 4,_=>rfl
 | k+5,h=>absurd h og
def Hs(g:GV):0+5<=5/\dv (ny g) 0 5= .agg g.cF:=⟨og,rfl⟩
def vk(g g':GV):0+5<=5/\cD (ny g) 0 g'.cF.toList=ny g':=⟨og,by
 funext i
 match i with
 | 0=>rfl
 | 1=>rfl
 | 2=>rfl
 | 3=>rfl
 | 4=>rfl
 | k+5=>
  rw[ix _ _ _ _ (by show 0+5<=k+5;omega)]
  have e1:ny g (k+5)=undef:=by simp[ny]
  have e2:ny g' (k+5)=undef:=by simp[ny]
  rw[e1,e2]⟩
def GV.zero:GV:=⟨0,0,0,0,0⟩
def TG.dB:TG:=⟨fun _=>false,fun _=>0,fun _=>0,fun _=>0,fun _=>0,fun _=>0⟩
def TG.afd:TG:= {TG.dB with aa:=ad (fun _=>false) 0 true}
def TG.cP:TG:=TG.afd.E6 0 ⟨-1,-1,-1,0,0⟩
set_option maxRecDepth 20000 in def afe:∀ i,i<60->cellsOf #[iI 0,iI 0,iI 0,iI 0,iI 0,iI 0,iI 0,iI 0,iI 0,iI 0,iI 0,iI 0,iI 0,iI 0,iI 0,iI 0,iI 0,iI 0,iI 0,iI 0,iI 0,iI 0,iI 0,iI 0,iI 0,iI 0,iI 0,iI 0,iI 0,iI 0,iI 0,iI 0,iI 0,iI 0,iI 0,iI 0,iI 0,iI 0,iI 0,iI 0,iI 0,iI 0,iI 0,iI 0,iI 0,iI 0,iI 0,iI 0,iI 0,iI 0,.bool false,.bool false,.bool false,.bool false,.bool false,.bool false,.bool false,.bool false,.bool false,.bool false] i=bD TG.dB i:=fun i hi=>match i,hi with
 | 0,_=>rfl
 | 1,_=>rfl
 | 2,_=>rfl
 | 3,_=>rfl
 | 4,_=>rfl
 | 5,_=>rfl
 | 6,_=>rfl
 | 7,_=>rfl
 | 8,_=>rfl
 | 9,_=>rfl
 | 10,_=>rfl
 | 11,_=>rfl
 | 12,_=>rfl
 | 13,_=>rfl
 | 14,_=>rfl
 | 15,_=>rfl
 | 16,_=>rfl
 | 17,_=>rfl
 | 18,_=>rfl
 | 19,_=>rfl
 | 20,_=>rfl
 | 21,_=>rfl
 | 22,_=>rfl
 | 23,_=>rfl
 | 24,_=>rfl
 | 25,_=>rfl
 | 26,_=>rfl
 | 27,_=>rfl
 | 28,_=>rfl
 | 29,_=>rfl
 | 30,_=>rfl
 | 31,_=>rfl
 | 32,_=>rfl
 | 33,_=>rfl
 | 34,_=>rfl
 | 35,_=>rfl
 | 36,_=>rfl
 | 37,_=>rfl
 | 38,_=>rfl
 | 39,_=>rfl
 | 40,_=>rfl
 | 41,_=>rfl
 | 42,_=>rfl
 | 43,_=>rfl
 | 44,_=>rfl
 | 45,_=>rfl
 | 46,_=>rfl
 | 47,_=>rfl
 | 48,_=>rfl
 | 49,_=>rfl
 | 50,_=>rfl
 | 51,_=>rfl
 | 52,_=>rfl
 | 53,_=>rfl
 | 54,_=>rfl
 | 55,_=>rfl
 | 56,_=>rfl
 | 57,_=>rfl
 | 58,_=>rfl
 | 59,_=>rfl
 | k+60,h=>absurd h og
end Go.X.Gr

namespace Go.X.Vm
open Go Go.X
variable{a i k o v z:Int}{g:Int->Bool}{t:Nat}
def mD(f:Int->Bool):Nat->Nat
 | 0=>0
 | n+1=>mD f n|||(if f n then 2^n else 0)
theorem iL(f:Int->Bool)(n j:Nat):(mD f n).testBit j=(decide (j<n)&&f j):=by
 induction n with
 | zero=>simp[mD]
 | succ n ih=>
  simp only[mD,Nat.testBit_or,ih];by_cases h:j=n
  ·grind
  ·grind
def Ui(f:Int->Bool)(n:Nat):mD f n<2^n:=by
 apply Nat.lt_pow_two_of_testBit;grind [iL]
theorem pX{f:Int->Bool}{n:Nat}(h:∀ i:Int,0<=i->i<n->f i=g i):mD f n=mD g n:=by
 apply Nat.eq_of_testBit_eq;grind [iL]
theorem FY{f:Int->Bool}{n a:Nat}(ha:a<n)(hg:g a=true)(h:∀ i:Int,0<=i->i<n->¬i=a->g i=f i):mD f n|||2^a=mD g n:=by
 apply Nat.eq_of_testBit_eq;grind [iL]
theorem Be{f:Int->Bool}{n a:Nat}(ha:a<n)(hg:g a=false)(h:∀ i:Int,0<=i->i<n->¬i=a->g i=f i):lU (mD f n) (2^a)=mD g n:=by
 apply Nat.eq_of_testBit_eq;grind [iL,lU]
structure BB where
 cJ:Int->Int
 tk:Int->Bool
def p2(k:Int):Int:=((2^k.toNat:Nat):Int)
def BB.at_(b:BB)(k i:Int):Bool:=decide (0<=k)&&decide (b.cJ i=k+1)&& !b.tk i
def BB.gX(b:BB)(k:Int):Nat:=mD (b.at_ k) 64
structure PB where
 b:BB
 u:Int->Int
def BB.ew(b:BB):Int->Int:=fun i=>if b.tk i then b.cJ i else 0
def BB.fe(b:BB):PB:=⟨b,b.ew⟩
def BB.je(b:BB)(a:Int):BB:= {b with tk:=ad b.tk a true}
def BB.bare(b:BB)(a:Int):BB:= {b with tk:=ad b.tk a false}
def BB.split(b:BB)(a:Int):BB:= {b with cJ:=ad (ad b.cJ a (b.cJ a-1)) (a+p2 (b.cJ a-2)) (b.cJ a-1)}
def BB.jK:Nat->BB->Int->BB
 | 0,b,_=>b
 | n+1,b,a=>BB.jK n (b.split a) a
def yc(a k:Int):Int:=if(a/p2 k)%2=1 then a-p2 k else a+p2 k
def BB.eS(b:BB)(a:Int):Int:=yc a (b.cJ a-1)
def BB.kj(b:BB)(a:Int):BB:= {b with cJ:=ad (ad b.cJ (max a (b.eS a)) 0) (min a (b.eS a)) (b.cJ a+1)}
def BB.kG(b:BB)(a:Int):Prop:=b.cJ a<7/\b.cJ (b.eS a)=b.cJ a/\b.tk (b.eS a)=false
instance (b:BB) (a:Int):Decidable (b.kG a):=by unfold BB.kG;infer_instance
def BB.la:Nat->BB->Int->BB
 | 0,b,_=>b
 | n+1,b,a=>if b.kG a then BB.la n (b.kj a) (min a (b.eS a))else b
def BB.low(b:BB)(k:Int):Option Nat:=dW (b.at_ k) 64
def BB.pick(b:BB)(o:Int):Option (Nat×Nat):=match dW (fun k=>decide (o<=k)&&(b.low k).isSome) 7 with
 | none=>none
 | some k=>(b.low k).map fun i=>(k,i)
def BB.take(b:BB)(o:Int):Int×Int×BB:=if o<0\/6<o then(0,1,b)else match b.pick o with
 | none=>(0,4,b)
 | some (k,i)=>(i,0,BB.jK ((k:Int)-o).toNat (b.je i) i)
def BB.is(b:BB)(a:Int):Int:=if a<0\/63<a then 1 else if b.tk a then 0 else 2
def BB.sj(b:BB)(a:Int):Int×BB:=if b.is a≠0 then(b.is a,b)else(0,BB.la (7-b.cJ a).toNat (b.bare a) a)
def fM(f:Int->Bool):Nat->List Int
 | 0=>[]
 | k+1=>fM f k++(if f k then [(k:Int)]else [])
def kg(f:Int->Bool):∀ k,(fM f k).length<=k
 | 0=>by simp[fM]
 | k+1=>by
  have:=kg f k;grind [fM]
def zT(f:Int->Bool)(h:0<=k):(f k=true->fM f (k+1).toNat=fM f k.toNat++[k])/\(f k=false->fM f (k+1).toNat=fM f k.toNat):=by
 have e:((k.toNat:Nat):Int)=k:=og;rw[show(k+1).toNat=k.toNat+1 from og];grind [fM]
def BB.cP:BB:=⟨ad (fun _=>0) 0 7,fun _=>false⟩
structure BB.Inv (b:BB):Prop where
 nV:∀ i,0<=b.cJ i/\b.cJ i<=7
 out:∀ i,i<0\/64<=i->b.cJ i=0
 tk:∀ i,b.tk i=true->0<b.cJ i
 al:∀ i,0<b.cJ i->i%p2 (b.cJ i-1)=0
 dis:∀ i j,0<b.cJ i->i<j->j<i+p2 (b.cJ i-1)->b.cJ j=0
def C8(k:Int):0<p2 k:=by
 have:=Nat.two_pow_pos k.toNat;unfold p2;omega
theorem ahV:p2 1=2:=rfl
theorem aff:p2 2=4:=rfl
theorem ahW:p2 3=8:=rfl
theorem afg:p2 4=16:=rfl
theorem ahX:p2 5=32:=rfl
def B2(h:0<=k:=by omega):p2 (k+1)=2*p2 k:=by
 unfold p2;rw[show(k+1).toNat=k.toNat+1 from og,Nat.pow_succ];omega
theorem FZ(h:0<v)(h7:v<=7):v=1\/v=2\/v=3\/v=4\/v=5\/v=6\/v=7:=og
def Yj(h1:1<v)(h7:v<=7)(h:i%p2 (v-1)=0):i%p2 (v-2)=0/\(i+p2 (v-2))%p2 (v-2)=0:=by
 rcases FZ og h7 with rfl | rfl | rfl | rfl | rfl | rfl | rfl;all_goals grind [p2]
def ab8(h1:0<v)(h7:v<=7)(h:i%p2 (v-1)=0)(hi:0<=i/\i<64):i+p2 (v-1)<=64:=by
 grind [ahV,aff,ahW,afg,ahX,p2]
def C9(h1:0<v)(h7:v<7)(h:a%p2 (v-1)=0)(hi:0<=a/\a<64):∃ l,0<=l/\l+p2 v<=64/\l%p2 v=0/\((a=l/\yc a (v-1)=l+p2 (v-1))\/(a=l+p2 (v-1)/\yc a (v-1)=l)):=by
 have e:=B2 (k:=v-1);rw[show v-1+1=v from og]at e;unfold yc;by_cases c:(a/p2 (v-1))%2=1
 ·rw[if_pos c];refine⟨a-p2 (v-1),?_,?_,?_,.inr ⟨og,rfl⟩⟩;all_goals grind [FZ,p2]
 ·rw[if_neg c];refine⟨a,?_,?_,?_,.inl ⟨rfl,rfl⟩⟩;all_goals grind [aff,afg,p2]
def BB.Inv.zY{b:BB}(h:b.Inv)(hi:0<b.cJ i:=by omega):0<=i/\i<64:=by
 grind [Inv]
def BB.Inv.fit{b:BB}(h:b.Inv)(hi:0<b.cJ i):i+p2 (b.cJ i-1)<=64:=ab8 hi (h.nV i).2 (h.al i hi) (h.zY hi)
theorem BB.Inv.cP:BB.cP.Inv where
 nV:=fun i=>by
  show 0<=(if i=0 then(7:Int)else 0)/\(if i=0 then(7:Int)else 0)<=7
  omega
 out:=fun i hi=>by show ad (fun _=>0) 0 7 i=0;rw[ae _ _ og]
 tk:=fun i hi=>by cases hi
 al:=fun i hi=>by
  have:i=0:=by
   apply Classical.byContradiction;intro c
   simp_all[BB.cP,ae]
  simp_all
 dis:=fun i j hi h1 h2=>by
  have:i=0:=by
   apply Classical.byContradiction;intro c
   simp_all[BB.cP,ae]
  subst this
  show ad (fun _=>(0:Int)) 0 7 j=0
  grind [ae]
theorem BB.Inv.je{b:BB}(h:b.Inv){a:Int}(ha:0<b.cJ a):(b.je a).Inv:=
 ⟨h.nV,h.out,fun i hi=>by
  have:ad b.tk a true i=true:=hi
  by_cases c:i=a
  ·rw[c];exact ha
  ·rw[ae _ _ c]at this;exact h.tk i this,h.al,h.dis⟩
theorem BB.Inv.bare{b:BB}(h:b.Inv)(a:Int):(b.bare a).Inv:=
 ⟨h.nV,h.out,fun i hi=>by
  have:ad b.tk a false i=true:=hi
  by_cases c:i=a
  ·rw[c,aj]at this;cases this
  ·rw[ae _ _ c]at this;exact h.tk i this,h.al,h.dis⟩
def BB.Inv.apart{b:BB}(h:b.Inv){j:Int}(hi:0<b.cJ i)(hj:0<b.cJ j)(gY:¬i=j){x:Int}(h1:i<=x/\x<i+p2 (b.cJ i-1))(h2:j<=x/\x<j+p2 (b.cJ j-1)):False:=by
 by_cases c:i<j
 ·grind [Inv]
 ·have:=h.dis j i hj og og;omega
theorem BB.Inv.split{b:BB}(h:b.Inv){a:Int}(ha:1<b.cJ a):(b.split a).Inv/\a+p2 (b.cJ a-2)<64/\b.cJ (a+p2 (b.cJ a-2))=0/\(b.split a).cJ a=b.cJ a-1:=by
 have hal:=h.al a og;have hrn:=h.nV a;have vS:=h.zY (i:=a);have aeF:=h.fit (i:=a) og;have e2:=B2 (k:=b.cJ a-2);rw[show b.cJ a-2+1=b.cJ a-1 from og]at e2;have hp:=C8 (b.cJ a-2);have hz:=h.dis a (a+p2 (b.cJ a-2)) og og og;have gY:¬a=a+p2 (b.cJ a-2):=og;have ak7:=Yj ha hrn.2 hal;have o1:∀ i,(b.split a).cJ i=if i=a+p2 (b.cJ a-2)then b.cJ a-1 else if i=a then b.cJ a-1 else b.cJ i:=fun i=>rfl
 have oa:(b.split a).cJ a=b.cJ a-1:=by rw[o1,if_neg gY,if_pos rfl]
 refine⟨⟨fun i=> ?_,fun i hi=> ?_,fun i hi=> ?_,fun i hi=> ?_,fun i j hi h1 h2=> ?_⟩,og,hz,oa⟩
 ·rw[o1];have:=h.nV i;split;all_goals omega
 ·grind [Inv]
 ·grind [BB.split,Inv]
 ·rw[o1]at hi ⊢;by_cases c1:i=a+p2 (b.cJ a-2);all_goals grind [Inv]
 ·rw[o1]at hi h2;by_cases c1:i=a+p2 (b.cJ a-2)
  ·rw[if_pos c1,show b.cJ a-1-1=b.cJ a-2 from og]at h2;rw[o1,if_neg og,if_neg og];grind [BB.Inv.dis,Inv]
  ·rw[if_neg c1]at hi h2;by_cases c2:i=a
   ·rw[if_pos c2,show b.cJ a-1-1=b.cJ a-2 from og]at h2;rw[o1,if_neg og,if_neg og];grind [Inv]
   ·rw[if_neg c2]at hi h2;have n1:¬j=a+p2 (b.cJ a-2):=fun e=>h.apart (i:=i) (j:=a) hi og c2 (x:=j) ⟨og,h2⟩ ⟨og,og⟩;have n2:¬j=a:=fun e=>h.apart (i:=i) (j:=a) hi og c2 (x:=j) ⟨og,h2⟩ ⟨og,og⟩;grind [Inv]
theorem BB.Inv.jK:∀ (n:Nat) {b:BB} {a:Int},b.Inv->(n:Int)<b.cJ a->(BB.jK n b a).Inv
 | 0,_,_,h,_=>h
 | n+1,b,a,h,ha=>by
  obtain⟨h1,_,_,h4⟩:=h.split (a:=a) og;exact BB.Inv.jK n h1 (by rw[h4];omega)
theorem BB.Inv.kj{b:BB}(h:b.Inv){a:Int}(ha:0<b.cJ a)(hta:b.tk a=false)(hj:b.kG a):(b.kj a).Inv/\0<=b.eS a/\b.eS a<64/\¬b.eS a=a/\(b.kj a).cJ (min a (b.eS a))=b.cJ a+1/\(b.kj a).tk (min a (b.eS a))=false:=by
 obtain⟨j1,j2,j3⟩:=hj;have hal:=h.al a ha;have vS:=h.zY ha;obtain⟨l,l1,l2,l3,l4⟩:=C9 ha j1 hal vS;rw[show yc a (b.cJ a-1)=b.eS a from rfl]at l4;have e2:=B2 (k:=b.cJ a-1);rw[show b.cJ a-1+1=b.cJ a from og]at e2;have hp:=C8 (b.cJ a-1);have XT:min a (b.eS a)=l:=og;have wA:max a (b.eS a)=l+p2 (b.cJ a-1):=og;have ol:b.cJ l=b.cJ a:=by
  grind
 have oh:b.cJ (l+p2 (b.cJ a-1))=b.cJ a:=by
  grind
 have tl:b.tk l=false:=by
  grind
 have th:b.tk (l+p2 (b.cJ a-1))=false:=by
  grind
 have o1:∀ i,(b.kj a).cJ i=if i=l then b.cJ a+1 else if i=l+p2 (b.cJ a-1)then 0 else b.cJ i:=fun i=>by
  simp_all[ad,BB.kj]
 have t1:(b.kj a).tk=b.tk:=rfl;refine⟨⟨fun i=> ?_,fun i hi=> ?_,fun i hi=> ?_,fun i hi=> ?_,fun i j hi h1 h2=> ?_⟩,og,og,og,by rw[XT,o1,if_pos rfl],by rw[XT,t1,tl]⟩
 ·rw[o1];have:=h.nV i;split;all_goals omega
 ·rw[o1,if_neg og,if_neg og];exact h.out i hi
 ·rw[t1]at hi;rw[o1];split;all_goals grind [Inv]
 ·rw[o1]at hi ⊢;by_cases c1:i=l
  ·simp_all
  ·rw[if_neg c1]at hi ⊢;by_cases c2:i=l+p2 (b.cJ a-1);all_goals grind [Inv]
 ·rw[o1]at hi h2;by_cases c1:i=l
  ·rw[if_pos c1,show b.cJ a+1-1=b.cJ a from og]at h2;rw[o1,if_neg og];by_cases c2:j=l+p2 (b.cJ a-1)
   ·omega
   ·rw[if_neg c2];by_cases c3:j<l+p2 (b.cJ a-1);all_goals grind [BB.Inv.dis]
  ·rw[if_neg c1]at hi h2;by_cases c2:i=l+p2 (b.cJ a-1)
   ·omega
   ·rw[if_neg c2]at hi h2;have n1:¬j=l:=fun e=>h.apart (i:=i) (j:=l) hi og c1 (x:=j) ⟨og,h2⟩ ⟨og,by rw[ol];omega⟩;rw[o1,if_neg n1];by_cases c3:j=l+p2 (b.cJ a-1);all_goals grind [Inv]
theorem BB.Inv.la:∀ (n:Nat) {b:BB} {a:Int},b.Inv->0<b.cJ a->b.tk a=false->(BB.la n b a).Inv
 | 0,_,_,h,_,_=>h
 | n+1,b,a,h,ha,ht=>by
  rw[BB.la];by_cases c:b.kG a
  ·rw[if_pos c];obtain⟨h1,_,_,_,h5,h6⟩:=h.kj ha ht c;exact BB.Inv.la n h1 (by rw[h5];omega) h6
  simp_all
def JU{p:Int->Bool}{m k:Nat}(h:dW p m=some k):k<m/\p k=true/\∀ j:Int,0<=j->j<k->p j=false:=by
 unfold dW at h;have h1:=List.find?_some h;have h2:=List.mem_range.1 (List.mem_of_find?_eq_some h);refine⟨h2,h1,fun j j0 jk=> ?_⟩;cases hp:p j with
 | false=>rfl
 | true=>
  exfalso;obtain⟨xs,ys,hs,hn⟩:=(List.find?_eq_some_iff_append.1 h).2;have hlen:xs.length=k:=by
   have h3:(List.range m)[xs.length]? =some k:=by rw[hs];simp
   grind
  have hj:j.toNat∈xs:=by
   have h3:xs=List.range k:=by
    have h4:xs=(List.range m).take xs.length:=by rw[hs];simp
    grind
   simp_all
  have:=hn j.toNat hj;rw[show((j.toNat:Nat):Int)=j from og,hp]at this;simp at this
def q9{p:Int->Bool}{m:Nat}(h:dW p m=none):∀ j:Int,0<=j->j<m->p j=false:=fun j h0 h1=>by
 unfold dW at h;have:=List.find?_eq_none.1 h j.toNat (List.mem_range.2 og);grind
theorem mQ{b:BB}(hk:0<=k):b.at_ k i=true↔b.cJ i=k+1/\b.tk i=false:=by
 grind [BB.at_]
def sm{b:BB}{k i:Nat}(h:b.pick o=some (k,i)):o<=k/\k<7/\i<64/\b.cJ i=k+1/\b.tk i=false:=by
 grind [BB.pick,dW,BB.low,Option.map_eq_some_iff,mQ]
theorem BB.Inv.take{b:BB}(h:b.Inv)(o:Int):(b.take o).2.2.Inv:=by
 unfold BB.take;split
 ·omega
 ·rename_i ho;split
  ·omega
  ·rename_i k i hp;obtain⟨h1,h2,h3,h4,h5⟩:=sm hp;have hh:=h.je (a:=i) og;exact BB.Inv.jK _ hh (by show _<b.cJ i;omega)
def wW{b:BB}(h:b.is a=0):0<=a/\a<64/\b.tk a=true:=by
 grind [BB.is]
theorem BB.Inv.sj{b:BB}(h:b.Inv)(a:Int):(b.sj a).2.Inv:=by
 unfold BB.sj;by_cases c:b.is a=0
 ·rw[if_neg (by simp[c])];obtain⟨h1,h2,h3⟩:=wW c;exact BB.Inv.la _ (h.bare a) (h.tk a h3) (aj _ _ _)
 simp_all
def lF(b:BB)(k:Int):b.gX k<18446744073709551616:=Ui _ 64
theorem BB.ye(b:BB)(k:Int)(j:Nat):(b.gX k).testBit j=(decide (j<64)&&b.at_ k j):=iL _ _ _
theorem Ht{b:BB}(h:b.gX k=0):∀ i:Int,0<=i->i<64->b.at_ k i=false:=fun i h0 h1=>by
 have:=b.ye k i.toNat;grind
theorem Bf{b:BB}(h:b.gX k=0):b.low k=none:=by grind [fy,Ht,BB.low]
def Bg{b:BB}(ht:(b.gX k).testBit t=true)(hl:∀ j,j<t->(b.gX k).testBit j=false):b.low k=some t/\t<64/\b.at_ k t=true:=by
 rw[BB.ye]at ht;simp only[Bool.and_eq_true,decide_eq_true_eq]at ht;refine⟨?_,ht.1,ht.2⟩;have:=fx (p:=b.at_ k) (m:=64) (k:=(t:Int)) og og ht.2 (fun j h0 h1=>by
  have h2:=hl j.toNat og
  rw[BB.ye,show((j.toNat:Nat):Int)=j from og]at h2
  have h3:j.toNat<64:=og
  simpa [h3]using h2)
 unfold BB.low;simpa using this
def Hu{b:BB}(ho:0<=o)(hk:o<=k/\k<7)(hz:∀ j:Int,o<=j->j<k->b.gX j=0)(ht:(b.gX k).testBit t=true)(hl:∀ j,j<t->(b.gX k).testBit j=false):b.pick o=some (k.toNat,t):=by
 obtain⟨l1,_,_⟩:=Bg ht hl;grind [BB.pick,fx,Bf]
theorem Hv{b:BB}(hz:∀ j:Int,o<=j->j<7->b.gX j=0):b.pick o=none:=by
 grind [BB.pick,fy,Bf]
theorem qn{b:BB}(h:o<0\/6<o):b.take o=(0,1,b):=by unfold BB.take;rw[if_pos h]
theorem yf{b:BB}(h:¬(o<0\/6<o))(hz:b.pick o=none):b.take o=(0,4,b):=by grind [BB.take]
theorem BB.l7{b:BB}{k i:Nat}(h:¬(o<0\/6<o))(hz:b.pick o=some (k,i)):b.take o=((i:Int),0,BB.jK ((k:Int)-o).toNat (b.je i) i):=by grind [BB.take]
theorem Uj{b:BB}{m:Int}(h:¬(b.cJ i=m+1/\b.tk i=false)):b.at_ m i=false:=by
 grind [BB.at_]
theorem wX{b:BB}{m:Int}(h:¬i=a):(b.je a).at_ m i=b.at_ m i:=by
 show(decide (0<=m)&&decide (b.cJ i=m+1)&& !ad b.tk a true i)=(decide (0<=m)&&decide (b.cJ i=m+1)&& !b.tk i);grind [ae]
theorem sU(b:BB)(m a:Int):(b.je a).at_ m a=false:=Uj (by
 rintro⟨_,q⟩
 have:ad b.tk a true a=false:=q
 rw[aj]at this;cases this)
def Hw{b:BB}(hk:0<=k)(ht:t<64)(h1:b.cJ t=k+1)(h2:b.tk t=false):lU (b.gX k) (2^t)=(b.je t).gX k/\∀ m,0<=m->m<7->¬m=k->(b.je t).gX m=b.gX m:=by
 grind [Be,pX,sU,wX,Uj,BB.gX]
def BB.Inv.Ml{b:BB}(h:b.Inv)(ha:1<b.cJ a)(ht:b.tk a=true):b.gX (b.cJ a-2)|||2^(a+p2 (b.cJ a-2)).toNat=(b.split a).gX (b.cJ a-2)/\∀ m,0<=m->m<7->¬m=b.cJ a-2->(b.split a).gX m=b.gX m:=by
 obtain⟨_,s2,s3,_⟩:=h.split ha;have vS:=h.zY (i:=a);have hp:=C8 (b.cJ a-2);have gY:¬a=a+p2 (b.cJ a-2):=og;have o1:∀ i,(b.split a).cJ i=if i=a+p2 (b.cJ a-2)then b.cJ a-1 else if i=a then b.cJ a-1 else b.cJ i:=fun i=>rfl
 have t1:∀ i,(b.split a).tk i=b.tk i:=fun _=>rfl;have t2:b.tk (a+p2 (b.cJ a-2))=false:=by
  grind [Inv]
 refine⟨FY og ?_ fun i _ _ hi=> ?_,fun m m0 _ hm=>pX fun i _ _=> ?_⟩
 ·rw[show(((a+p2 (b.cJ a-2)).toNat:Nat):Int)=a+p2 (b.cJ a-2)from og];grind [mQ]
 ·have P3:¬i=a+p2 (b.cJ a-2):=og;unfold BB.at_;grind
 ·unfold BB.at_;grind
theorem yg:∀ (n:Nat) (b:BB) (a:Int),(BB.jK n b a).tk=b.tk
 | 0,_,_=>rfl
 | n+1,b,a=>by rw[BB.jK,yg n];rfl
def BB.Inv.wY:∀ (n:Nat) {b:BB} {a:Int},b.Inv->(n:Int)<b.cJ a->(BB.jK n b a).cJ a=b.cJ a-n/\∀ i,¬i=a->0<b.cJ i->(BB.jK n b a).cJ i=b.cJ i
 | 0,_,_,h,_=>⟨by simp[BB.jK],fun _ _ _=>rfl⟩
 | n+1,b,a,h,ha=>by
  obtain⟨h1,h2,h3,h4⟩:=h.split (a:=a) og;obtain⟨i1,i2⟩:=BB.Inv.wY n h1 (by rw[h4];omega);rw[BB.jK];refine⟨by rw[i1,h4];omega,fun i hi h0=> ?_⟩;have e:(b.split a).cJ i=b.cJ i:=by
   show ad (ad b.cJ a (b.cJ a-1)) (a+p2 (b.cJ a-2)) (b.cJ a-1) i=b.cJ i;grind [ae]
  simp_all
def BB.Inv.F0{b:BB}(h:b.Inv)(ho:¬(o<0\/6<o)){k i:Nat}(hp:b.pick o=some (k,i)):(⟨BB.jK ((k:Int)-o).toNat (b.je i) i,ad b.ew i (o+1)⟩:PB)=(b.take o).2.2.fe:=by
 obtain⟨h1,h2,h3,h4,h5⟩:=sm hp;have hh:=h.je (a:=i) og;obtain⟨s1,s2⟩:=hh.wY ((k:Int)-o).toNat (a:=i) (by show _<b.cJ i;omega);rw[BB.l7 ho hp];unfold BB.fe;congr 1;funext j;unfold BB.ew;rw[yg];show ad b.ew i (o+1) j=if ad b.tk i true j=true then _ else 0
 by_cases c:j=i
 ·subst c;rw[aj,aj,if_pos rfl,s1];show o+1=b.cJ i-_;omega
 ·rw[ae _ _ c,ae _ _ c];unfold BB.ew;by_cases q:b.tk j=true
  ·rw[if_pos q,if_pos q,s2 j c (h.tk j q)];rfl
  simp_all
theorem Uk:∀ a:Nat,a<64->∀ k:Nat,k<6->((a^^^2^k:Nat):Int)=(if((a/2^k:Nat):Int)%2=1 then(a:Int)-(2^k:Nat)else(a:Int)+(2^k:Nat))/\((lU a (2^k):Nat):Int)=min (a:Int) (if((a/2^k:Nat):Int)%2=1 then(a:Int)-(2^k:Nat)else(a:Int)+(2^k:Nat)):=dk
def Ul(ha:0<=a/\a<64)(hk:0<=k/\k<6):((a.toNat^^^2^k.toNat:Nat):Int)=yc a k/\((lU a.toNat (2^k.toNat):Nat):Int)=min a (yc a k):=by
 grind [Uk,p2,yc]
def BB.Inv.zZ{b:BB}(h:b.Inv)(ha:0<b.cJ a)(h7:b.cJ a<7):0<=b.eS a/\b.eS a<64/\¬b.eS a=a:=by
 obtain⟨l,l1,l2,l3,l4⟩:=C9 ha h7 (h.al a ha) (h.zY ha);rw[show yc a (b.cJ a-1)=b.eS a from rfl]at l4;have e2:=B2 (k:=b.cJ a-1);rw[show b.cJ a-1+1=b.cJ a from og]at e2;have hp:=C8 (b.cJ a-1);omega
def BB.Inv.QA{b:BB}(h:b.Inv)(ha:0<b.cJ a)(h7:b.cJ a<7):((b.je a).gX (b.cJ a-1)).testBit (b.eS a).toNat=decide (b.kG a):=by
 obtain⟨r1,r2,r3⟩:=h.zZ ha h7;grind [BB.ye,wX,mQ,BB.kG]
def BB.Inv.QB{b:BB}(h:b.Inv)(ha:0<b.cJ a)(hj:b.kG a):lU ((b.je a).gX (b.cJ a-1)) (2^(b.eS a).toNat)=((b.kj a).je (min a (b.eS a))).gX (b.cJ a-1)/\∀ m,0<=m->m<7->¬m=b.cJ a-1->((b.kj a).je (min a (b.eS a))).gX m=(b.je a).gX m:=by
 obtain⟨r1,r2,r3⟩:=h.zZ ha hj.1;have ig:∀ m i,0<=m->((b.kj a).je (min a (b.eS a))).at_ m i=(!decide (i=b.eS a)&&(b.je a).at_ m i):=fun m i m0=>by
  rw[Bool.eq_iff_iff,Bool.and_eq_true,mQ m0,mQ m0];have o1:((b.kj a).je (min a (b.eS a))).cJ i=ad (ad b.cJ (max a (b.eS a)) 0) (min a (b.eS a)) (b.cJ a+1) i:=rfl;have t1:((b.kj a).je (min a (b.eS a))).tk i=ad b.tk (min a (b.eS a)) true i:=rfl;have o2:(b.je a).cJ i=b.cJ i:=rfl;have t2:(b.je a).tk i=ad b.tk a true i:=rfl;grind [aj,ae]
 refine⟨Be og ?_ fun i _ _ hi=> ?_,fun m m0 _ hm=>pX fun i _ _=> ?_⟩;all_goals grind [Uj,BB.je,BB.kG]
def yh{b:BB}(ha:0<b.cJ a)(hr:0<=a/\a<64)(ht:b.tk a=false):(b.je a).gX (b.cJ a-1)|||2^a.toNat=b.gX (b.cJ a-1)/\∀ m,0<=m->m<7->¬m=b.cJ a-1->b.gX m=(b.je a).gX m:=by
 grind [FY,pX,mQ,wX,sU,BB.gX]
theorem BB.Da:∀ (n:Nat) (b:BB) (a:Int),(BB.la n b a).tk=b.tk
 | 0,_,_=>rfl
 | n+1,b,a=>by
  rw[BB.la];split
  ·rw[BB.Da n];rfl
  ·rfl
theorem BB.Inv.F2:∀ (n:Nat) {b:BB} {a:Int},b.Inv->0<b.cJ a->b.tk a=false->∀ i,b.tk i=true->(BB.la n b a).cJ i=b.cJ i
 | 0,_,_,_,_,_,_,_=>rfl
 | n+1,b,a,h,ha,ht,i,hi=>by
  rw[BB.la];by_cases c:b.kG a
  ·rw[if_pos c];obtain⟨h1,_,_,_,h5,h6⟩:=h.kj ha ht c;rw[BB.Inv.F2 n h1 (by rw[h5];omega) h6 i hi];show ad (ad b.cJ (max a (b.eS a)) 0) (min a (b.eS a)) (b.cJ a+1) i=b.cJ i;have n1:¬i=a:=by rintro rfl;rw[ht]at hi;cases hi
   have n2:¬i=b.eS a:=by rintro rfl;rw[c.2.2]at hi;cases hi
   grind [ae]
  simp_all
def Hy{b:BB}(ht:b.tk a=true):(b.bare a).je a=b:=by
 unfold BB.bare BB.je;simp only[];have:ad (ad b.tk a false) a true=b.tk:=by
  grind [aj,ae]
 rw[this]
def BB.Inv.z8{b:BB}(h:b.Inv)(hi:b.is a=0):(⟨BB.la (7-b.cJ a).toNat (b.bare a) a,ad b.ew a 0⟩:PB)=(b.sj a).2.fe:=by
 obtain⟨h1,h2,h3⟩:=wW hi;have ho:=h.tk a h3;have hk:=(h.bare a).F2 (7-b.cJ a).toNat (a:=a) ho (aj _ _ _);unfold BB.sj;rw[if_neg (by simp[hi])];unfold BB.fe;congr 1;funext j;unfold BB.ew;rw[BB.Da];show ad b.ew a 0 j=if ad b.tk a false j=true then _ else 0
 by_cases c:j=a;all_goals simp_all[BB.ew,ad,BB.bare]
theorem pY{b:BB}(h:b.is a≠0):b.sj a=(b.is a,b):=by grind [BB.sj]
theorem sn{b:BB}(h:b.is a=0):b.sj a=(0,BB.la (7-b.cJ a).toNat (b.bare a) a):=by grind [BB.sj]
theorem BB.qS{b:BB}(h:a<0\/63<a):b.is a=1:=by unfold BB.is;rw[if_pos h]
theorem BB.xU{b:BB}(h:¬(a<0\/63<a))(ht:b.tk a=false):b.is a=2:=by grind [BB.is]
theorem BB.CS{b:BB}(h:¬(a<0\/63<a))(ht:b.tk a=true):b.is a=0:=by grind [BB.is]
def BB.Inv.F3{b:BB}(h:b.Inv)(a:Int):(b.ew a=0->b.tk a=false)/\(¬b.ew a=0->b.tk a=true/\b.ew a=b.cJ a):=by
 grind [BB.ew,Inv]
theorem JV(k:Int):(p2 k).toNat=2^k.toNat:=rfl
def E7:∀ (n:Nat) {b:BB} {a:Int},¬b.kG a->BB.la n b a=b
 | 0,_,_,_=>rfl
 | n+1,b,a,h=>by rw[BB.la,if_neg h]
def ab9(x n:Nat):x >>> n<=x:=by rw[Nat.shiftRight_eq_div_pow];exact Nat.div_le_self _ _
def bK(s:PB)(i:Nat):Value:=
 if i%1=0/\i/1<7 then .int .u64 (((s.b.gX ((i/1:Nat):Int)):Nat):Int)else
 if 7<=i/\(i-7)%1=0/\(i-7)/1<64 then iI (s.u (((i-7)/1:Nat):Int))else
 undef
theorem dM(s:PB)(z0:Int)(q0:0<=z0/\z0<7:=by omega):((0+0)+z0.toNat*1)<71/\bK s ((0+0)+z0.toNat*1)= .int .u64 (((s.b.gX z0):Nat):Int):=by
 refine⟨og,?_⟩;unfold bK;rw[if_pos og];rw[show((((0+0)+z0.toNat*1)/1:Nat):Int)=z0 from og]
theorem l8(s:PB)(z0:Int)(q0:0<=z0/\z0<64:=by omega):((0+7)+z0.toNat*1)<71/\bK s ((0+7)+z0.toNat*1)=iI (s.u z0):=by
 refine⟨og,?_⟩;unfold bK;rw[if_neg og];rw[if_pos og];rw[show(((((0+7)+z0.toNat*1)-7)/1:Nat):Int)=z0 from og]
def ug(s:PB)(z0:Int)(q0:0<=z0/\z0<64)(v:Int):((0+7)+z0.toNat*1)<71/\dP (bK s) ((0+7)+z0.toNat*1) (iI (v))=bK ({s with u:=ad s.u z0 v}):=by
 refine⟨og,?_⟩;funext j;unfold dP;by_cases hj:j=((0+7)+z0.toNat*1)
 ·rw[if_pos hj,hj,(l8 ({s with u:=ad s.u z0 v}) z0 q0).2];all_goals simp[ad,cL]
 ·rw[if_neg hj];unfold bK;refine gj (fun c0=> ?_) fun c0=> ?_
  ·first | rfl | simp[ad,cL]
  refine gj (fun c1=> ?_) fun c1=> ?_
  ·have gY:¬((((j-7)/1:Nat):Int)=z0):=og;simp only[ad,cL,gY,if_false,and_true,true_and]
  rfl
def afi:List Int:=[0,1,56,2,57,49,28,3,61,58,42,50,38,29,17,4,62,47,59,36,45,43,51,22,53,39,33,30,24,18,12,5,63,55,48,27,60,41,37,16,46,35,44,21,52,32,23,11,54,26,40,15,34,20,31,10,25,14,19,9,13,8,7,6]
def fQ(i:Nat):Value:=.int .u8 (afi.getD i 0)
def Um:∀ t:Nat,t<64->IntKind.u64.wrap (((2^t:Nat):Int)*285870213051353865)=((2^t*285870213051353865%18446744073709551616:Nat):Int)/\
  (((2^t*285870213051353865%18446744073709551616:Nat):Int)).fdiv (2^(min (58:Int).toNat IntKind.u64.bits))=((2^t*285870213051353865%18446744073709551616/288230376151711744:Nat):Int)/\
  (2^t*285870213051353865%18446744073709551616/288230376151711744)<64/\IntKind.i64.wrap (t:Int)=t/\
  afi.getD (2^t*285870213051353865%18446744073709551616/288230376151711744) 0=(t:Int):=dk
def Mc(ht:t<64):0+(((2^t*285870213051353865%18446744073709551616/288230376151711744:Nat):Int)).toNat*1<64/\fQ (0+(((2^t*285870213051353865%18446744073709551616/288230376151711744:Nat):Int)).toNat*1)= .int .u8 (t:Int):=by
 obtain⟨_,_,z3,_,z5⟩:=Um t ht;have e:0+(((2^t*285870213051353865%18446744073709551616/288230376151711744:Nat):Int)).toNat*1=2^t*285870213051353865%18446744073709551616/288230376151711744:=og;rw[e];exact⟨z3,congrArg (Value.int .u8) z5⟩
def Yk{x:Nat}(h:0<x/\x<18446744073709551616):IntKind.u64.wrap (0-(x:Int))=((2^64-x:Nat):Int):=by
 have:((0-(x:Int))%(2^64:Int))=((2^64-x:Nat):Int):=by
  have h2:(2:Int)^64=18446744073709551616:=dq;have h3:(2:Nat)^64=18446744073709551616:=dq;rw[h2,h3];omega
 simpa [IntKind.wrap,IntKind.signed,IntKind.bits]using this
def Yl{n:Int}(h:0<=n/\n<64)(x:Nat):(x:Int).fdiv (2^(min n.toNat IntKind.u64.bits))=((x >>> n.toNat:Nat):Int):=by
 have:min n.toNat IntKind.u64.bits=n.toNat:=by show min n.toNat 64=_;omega
 rw[this,Nat.shiftRight_eq_div_pow,Int.fdiv_eq_ediv_of_nonneg _ (by exact Int.le_of_lt (Int.pow_pos og))];simp
def Ym:∀ n:Nat,n<64->IntKind.u64.wrap (1*2^(min n IntKind.u64.bits))=((2^n:Nat):Int):=dk
def yi{n:Int}(h:0<=n/\n<64:=by omega):IntKind.u64.wrap (1*2^(min n.toNat IntKind.u64.bits))=((2^n.toNat:Nat):Int):=Ym _ og
def Un:∀ n:Nat,n<62->IntKind.i64.wrap (1*2^(min n IntKind.i64.bits))=((2^n:Nat):Int):=dk
def Hz{n:Int}(h:0<=n/\n<62:=by omega):IntKind.i64.wrap (1*2^(min n.toNat IntKind.i64.bits))=p2 n:=Un _ og
def iZ{n:Nat}(h:n<64):2^n<18446744073709551616:=Nat.pow_lt_pow_right (a:=2) (n:=64) og h
def Mm(x:Nat)(k:Nat):(((x >>> k)&&&1:Nat):Int)=if x.testBit k then 1 else 0:=by
 rw[Nat.testBit_eq_decide_div_mod_eq,Nat.shiftRight_eq_div_pow,Nat.and_one_is_mod];by_cases h:x/2^k%2=1
 ·simp[h]
 ·have:x/2^k%2=0:=og;simp[this]
def afj(h:0<=k/\k<=6):1<=p2 k/\p2 k<=64:=by
 have:k=0\/k=1\/k=2\/k=3\/k=4\/k=5\/k=6:=og;rcases this with rfl | rfl | rfl | rfl | rfl | rfl | rfl<;>decide
def oM(s:PB)(b':BB)(k:Int)(q:0<=k/\k<7){v:Nat}(hv:v=b'.gX k/\∀ m,0<=m->m<7->¬m=k->b'.gX m=s.b.gX m):0+0+k.toNat*1<71/\dP (bK s) (0+0+k.toNat*1) (.int .u64 (v:Int))=bK {s with b:=b'} :=by
 refine⟨og,?_⟩;funext i;unfold dP;by_cases h:i=0+0+k.toNat*1
 ·rw[if_pos h,h,(dM {s with b:=b'} k q).2,hv.1]
 ·rw[if_neg h];by_cases h2:i<7
  ·have e1:=(dM s (i:Int)).2;have e2:=(dM {s with b:=b'} (i:Int)).2;rw[show 0+0+(i:Int).toNat*1=i from og]at e1 e2;rw[e1,e2];rw[hv.2 i og og og]
  ·have c:¬(i%1=0/\i/1<7):=og;unfold bK;simp only[if_neg c]
def yj:BB.cP.gX 6=1/\∀ m:Int,0<=m->m<7->¬m=6->BB.cP.gX m=0:=by
 refine⟨dk,fun m h0 h1 h2=> ?_⟩;have:m=0\/m=1\/m=2\/m=3\/m=4\/m=5:=og;rcases this with rfl | rfl | rfl | rfl | rfl | rfl<;>decide+kernel
def BB.dB:BB:=⟨fun _=>0,fun _=>false⟩
theorem ym:∀ m:Int,0<=m->m<7->BB.dB.gX m=0:=fun m h0 h1=>by
 have:m=0\/m=1\/m=2\/m=3\/m=4\/m=5\/m=6:=og;rcases this with rfl | rfl | rfl | rfl | rfl | rfl | rfl<;>decide+kernel
def Aa:∀ i,i<71->cellsOf #[.int .u64 0,.int .u64 0,.int .u64 0,.int .u64 0,.int .u64 0,.int .u64 0,.int .u64 0,iI 0,iI 0,iI 0,iI 0,iI 0,iI 0,iI 0,iI 0,iI 0,iI 0,iI 0,iI 0,iI 0,iI 0,iI 0,iI 0,iI 0,iI 0,iI 0,iI 0,iI 0,iI 0,iI 0,iI 0,iI 0,iI 0,iI 0,iI 0,iI 0,iI 0,iI 0,iI 0,iI 0,iI 0,iI 0,iI 0,iI 0,iI 0,iI 0,iI 0,iI 0,iI 0,iI 0,iI 0,iI 0,iI 0,iI 0,iI 0,iI 0,iI 0,iI 0,iI 0,iI 0,iI 0,iI 0,iI 0,iI 0,iI 0,iI 0,iI 0,iI 0,iI 0,iI 0,iI 0] i=bK ⟨BB.dB,fun _=>0⟩ i:=fun i hi=>by
 by_cases h2:i<7
 ·have e2:=(dM ⟨BB.dB,fun _=>0⟩ (i:Int)).2;rw[show 0+0+(i:Int).toNat*1=i from og]at e2;rw[e2,ym _ og og];have:i=0\/i=1\/i=2\/i=3\/i=4\/i=5\/i=6:=og;rcases this with rfl | rfl | rfl | rfl | rfl | rfl | rfl<;>rfl
 ·have e2:=(l8 ⟨BB.dB,fun _=>0⟩ ((i-7:Nat):Int)).2;rw[show 0+7+((i-7:Nat):Int).toNat*1=i from og]at e2;rw[e2];exact match i,hi,h2 with
  | 0,_,h=>absurd og h
  | 1,_,h=>absurd og h
  | 2,_,h=>absurd og h
  | 3,_,h=>absurd og h
  | 4,_,h=>absurd og h
  | 5,_,h=>absurd og h
  | 6,_,h=>absurd og h
  | 7,_,_=>rfl
  | 8,_,_=>rfl
  | 9,_,_=>rfl
  | 10,_,_=>rfl
  | 11,_,_=>rfl
  | 12,_,_=>rfl
  | 13,_,_=>rfl
  | 14,_,_=>rfl
  | 15,_,_=>rfl
  | 16,_,_=>rfl
  | 17,_,_=>rfl
  | 18,_,_=>rfl
  | 19,_,_=>rfl
  | 20,_,_=>rfl
  | 21,_,_=>rfl
  | 22,_,_=>rfl
  | 23,_,_=>rfl
  | 24,_,_=>rfl
  | 25,_,_=>rfl
  | 26,_,_=>rfl
  | 27,_,_=>rfl
  | 28,_,_=>rfl
  | 29,_,_=>rfl
  | 30,_,_=>rfl
  | 31,_,_=>rfl
  | 32,_,_=>rfl
  | 33,_,_=>rfl
  | 34,_,_=>rfl
  | 35,_,_=>rfl
  | 36,_,_=>rfl
  | 37,_,_=>rfl
  | 38,_,_=>rfl
  | 39,_,_=>rfl
  | 40,_,_=>rfl
  | 41,_,_=>rfl
  | 42,_,_=>rfl
  | 43,_,_=>rfl
  | 44,_,_=>rfl
  | 45,_,_=>rfl
  | 46,_,_=>rfl
  | 47,_,_=>rfl
  | 48,_,_=>rfl
  | 49,_,_=>rfl
  | 50,_,_=>rfl
  | 51,_,_=>rfl
  | 52,_,_=>rfl
  | 53,_,_=>rfl
  | 54,_,_=>rfl
  | 55,_,_=>rfl
  | 56,_,_=>rfl
  | 57,_,_=>rfl
  | 58,_,_=>rfl
  | 59,_,_=>rfl
  | 60,_,_=>rfl
  | 61,_,_=>rfl
  | 62,_,_=>rfl
  | 63,_,_=>rfl
  | 64,_,_=>rfl
  | 65,_,_=>rfl
  | 66,_,_=>rfl
  | 67,_,_=>rfl
  | 68,_,_=>rfl
  | 69,_,_=>rfl
  | 70,_,_=>rfl
  | k+71,h,_=>absurd h og
structure RG where
 fr:Int
 n:Int
 w:Bool
def RG.nil:RG:=⟨0,0,false⟩
def RG.cF(r:RG):Array Value:= #[iI r.fr,iI r.n,.bool r.w]
def RG.cell(r:RG)(j:Nat):Value:=match j with
 | 0=>iI r.fr
 | 1=>iI r.n
 | 2=>.bool r.w
 | _=>undef
def bF(l:List RG)(z:Int):RG:=l.getD z.toNat RG.nil
def fm(l:List RG)(i:Nat):Value:=(l.getD (i/3) RG.nil).cell (i%3)
def pK(r:RG)(i:Nat):Value:=r.cell i
def pK.agg(r:RG):0+3<=3/\dv (pK r) 0 3= .agg r.cF:=⟨og,rfl⟩
theorem pK.box(r:RG):∀ i,i<3->cellsOf r.cF i=pK r i:=fun i h=>by
 match i,h with
 | 0,_=>rfl
 | 1,_=>rfl
 | 2,_=>rfl
 | k+3,h=>omega
theorem pK.f(r:RG):0+0<3/\pK r (0+0)=iI r.fr:=⟨og,rfl⟩
theorem pK.n(r:RG):0+1<3/\pK r (0+1)=iI r.n:=⟨og,rfl⟩
theorem pK.w(r:RG):0+2<3/\pK r (0+2)= .bool r.w:=⟨og,rfl⟩
theorem pK.st(r q:RG):0+3<=3/\cD (pK q) 0 r.cF.toList=pK r:=⟨og,by
 funext i
 match i with
 | 0=>rfl
 | 1=>rfl
 | 2=>rfl
 | k+3=>simp[cD,dP,RG.cF,pK,RG.cell]⟩
theorem Ab(l:List RG)(h:0<=z/\z<l.length)(j:Nat)(hj:j<3:=by omega):fm l (0+z.toNat*3+j)=(bF l z).cell j:=by
 grind [fm,bF]
def fm.agg{l:List RG}{z:Int}(h:0<=z/\z<l.length):0+z.toNat*3+3<=l.length*3/\dv (fm l) (0+z.toNat*3) 3= .agg (bF l z).cF:=by
 refine⟨og,?_⟩;simp only[dv,List.range,List.range.loop,List.map_cons,List.map_nil];rw[Ab l h 0,Ab l h 1,Ab l h 2];rfl
theorem fm.f{l:List RG}(h:0<=z/\z<l.length):0+z.toNat*3+0<l.length*3/\fm l (0+z.toNat*3+0)=iI (bF l z).fr:=⟨og,Ab l h 0⟩
theorem fm.n{l:List RG}{z:Int}(h:0<=z/\z<l.length):0+z.toNat*3+1<l.length*3/\fm l (0+z.toNat*3+1)=iI (bF l z).n:=⟨og,Ab l h 1⟩
theorem fm.w{l:List RG}{z:Int}(h:0<=z/\z<l.length):0+z.toNat*3+2<l.length*3/\fm l (0+z.toNat*3+2)= .bool (bF l z).w:=⟨og,Ab l h 2⟩
def fm.app(l:List RG)(r:RG)(C1:Nat->Value)(hC:∀ i,i<3->C1 i=r.cell i):∀ i,i<(l.length+1)*3->fm (l++[r]) i=if i<l.length*3 then fm l i else C1 (i-l.length*3):=fun i hi=>by
 grind [fm]
def HA(l:List RG)(r:RG):List RG:=l.dropLast++[r]
theorem Bh{l:List RG}{r:RG}(h:0<l.length):(HA l r).length=l.length:=by grind [HA]
theorem fm.grow{l:List RG}(h:0<l.length)(m:Int):0+((l.length:Int)-1).toNat*3+1<l.length*3/\dP (fm l) (0+((l.length:Int)-1).toNat*3+1) (iI m)=fm (HA l {bF l ((l.length:Int)-1)with n:=m}):=by
 refine⟨og,?_⟩;funext i;unfold dP fm HA;simp only[List.getD_eq_getElem?_getD];by_cases c:i/3<l.length-1
 ·rw[if_neg og,List.getElem?_append_left eW,List.getElem?_dropLast,if_pos c]
 ·by_cases c2:i/3=l.length-1
  ·rw[List.getElem?_append_right eW,show i/3-l.dropLast.length=0 from eW];have e:l[i/3]?.getD RG.nil=bF l ((l.length:Int)-1):=by
    simp_all[bF]
   rw[e];have:i%3=0\/i%3=1\/i%3=2:=og;rcases this with q | q | q
   ·rw[if_neg og,q];rfl
   ·rw[if_pos og,q];rfl
   ·rw[if_neg og,q];rfl
  ·rw[if_neg og,List.getElem?_append_right eW,List.getElem?_eq_none og,List.getElem?_eq_none eW]
def EL(l:List RG)(r:RG):List RG:=match l.getLast? with
 | some q=>if q.fr+q.n=r.fr/\q.w=r.w then l.dropLast++[{q with n:=q.n+r.n}]else l++[r]
 | none=>[r]
theorem Oo(r:RG):EL [] r=[r]:=rfl
theorem JW(l:List RG)(q r:RG):EL (l++[q]) r=if q.fr+q.n=r.fr/\q.w=r.w then l++[{q with n:=q.n+r.n}]else l++[q,r]:=by
 simp[EL]
theorem Uo(l:List RG)(q:RG):bF (l++[q]) (((l++[q]).length:Int)-1)=q:=by
 simp_all[bF]
theorem vl{l:List RG}(h:0<l.length):∃ l' q,l=l'++[q]:=⟨l.dropLast,l.getLast (by intro e;rw[e]at h;simp at h),(List.dropLast_concat_getLast _).symm⟩
theorem Yn{l:List RG}{r:RG}(h:0<l.length)(h1:(bF l ((l.length:Int)-1)).fr+(bF l ((l.length:Int)-1)).n=r.fr)(h2:(bF l ((l.length:Int)-1)).w=r.w):EL l r=HA l {bF l ((l.length:Int)-1)with n:=(bF l ((l.length:Int)-1)).n+r.n} :=by
 obtain⟨l',q,rfl⟩:=vl h;grind [Uo,HA,EL]
theorem Db{l:List RG}{r:RG}(h:0<l.length->¬((bF l ((l.length:Int)-1)).fr+(bF l ((l.length:Int)-1)).n=r.fr/\(bF l ((l.length:Int)-1)).w=r.w)):EL l r=l++[r]:=by
 rcases Nat.eq_zero_or_pos l.length with q | q
 ·grind [EL]
 ·obtain⟨l',x,rfl⟩:=vl q;simp_all[bF,EL]
def QC(l:List RG)(a n m:Int)(w:Bool)(_:0<n):EL (EL l ⟨a,n,w⟩) ⟨a+n,m,w⟩=EL l ⟨a,n+m,w⟩:=by
 rcases Nat.eq_zero_or_pos l.length with q | q
 ·grind [EL]
 grind [EL]
def mg(l:List RG):List RG:=l.foldl EL []
def qo(a:Int)(w:Bool):Nat->List RG
 | 0=>[]
 | k+1=>qo a w k++[⟨a+k,1,w⟩]
theorem Bi(l:List RG)(a:Int)(w:Bool):∀ k:Nat,0<k->(qo a w k).foldl EL l=EL l ⟨a,k,w⟩
 | 0,h=>og
 | 1,_=>by simp[qo]
 | k+2,_=>by
  rw[qo,List.foldl_append,Bi l a w (k+1) og];have:=QC l a ((k+1:Nat):Int) 1 w og;simp only[List.foldl_cons,List.foldl_nil];rw[this];congr 1
def RG.Up(r:RG):List RG:=qo r.fr r.w r.n.toNat
theorem JX:∀ (l:List RG) (jJ:List RG),(∀ r∈l,0<r.n)->(l.flatMap RG.Up).foldl EL jJ=l.foldl EL jJ
 | [],_,_=>rfl
 | r::l,jJ,h=>by
  have h1:=h r sq;simp only[List.flatMap_cons,List.foldl_append,List.foldl_cons];rw[RG.Up,Bi jJ r.fr r.w r.n.toNat og,JX l _ fun x hx=>h x (by simp[hx])];congr 2;cases r;simp only[RG.mk.injEq,true_and,and_true];simp at h1;omega
theorem oN{a:Int}{w:Bool}{u:RG} :∀ {k:Nat},u∈qo a w k↔∃ i:Int,a<=i/\i<a+k/\u=⟨i,1,w⟩
 | 0=>by simp only[qo,List.not_mem_nil,false_iff];rintro⟨i,h1,h2,_⟩;simp at h2;omega
 | k+1=>by
  rw[qo,List.mem_append,oN (k:=k),List.mem_singleton];grind
def yo{a:Int}{w:Bool} :∀ k:Nat,(qo a w k).Pairwise (fun x y=>x.fr<y.fr)
 | 0=>.nil
 | k+1=>by
  rw[qo,List.pairwise_append];refine⟨yo k,sq,fun x hx y hy=> ?_⟩;obtain⟨i,h1,h2,rfl⟩:=oN.1 hx;simp only[List.mem_singleton]at hy;subst hy;exact h2
def so{α:Type}(f:α->Int):∀ {l m:List α},l.Pairwise (fun x y=>f x<f y)->m.Pairwise (fun x y=>f x<f y)->(∀ x,x∈l↔x∈m)->l=m
 | [],[],_,_,_=>rfl
 | [],y::m,_,_,h=>absurd ((h y).2 sq) sq
 | x::l,[],_,_,h=>absurd ((h x).1 sq) sq
 | x::l,y::m,hl,hm,h=>by
  rw[List.pairwise_cons]at hl hm;have e:x=y:=by
   grind
  subst e;congr 1;refine so f hl.2 hm.2 fun z=> ?_;grind
def kd(w:Bool):Int:=if w then 2 else 1
structure Su (f:Int->Int):Prop where
 v:∀ i,f i=0\/f i=1\/f i=2
 out:∀ i,i<0\/16<=i->f i=0
def mR(f:Int->Int):Nat->List RG
 | 0=>[]
 | k+1=>mR f k++(if f k=0 then []else [⟨k,1,decide (f k=2)⟩])
def ra(f:Int->Int)(k:Nat):List RG:=mg (mR f k)
def ai(f:Int->Int):List RG:=ra f 16
theorem Dc(f:Int->Int)(k:Nat):ra f (k+1)=if f k=0 then ra f k else EL (ra f k) ⟨k,1,decide (f k=2)⟩:=by
 grind [ra,mg,mR]
theorem wZ{f:Int->Int}{u:RG} :∀ {k:Nat},u∈mR f k↔∃ i:Int,0<=i/\i<k/\f i≠0/\u=⟨i,1,decide (f i=2)⟩
 | 0=>by simp only[mR,List.not_mem_nil,false_iff];rintro⟨i,h1,h2,_⟩;simp at h2;omega
 | k+1=>by
  rw[mR,List.mem_append,wZ (k:=k)];grind
def wc{f:Int->Int} :∀ k:Nat,(mR f k).Pairwise (fun x y=>x.fr<y.fr)
 | 0=>.nil
 | k+1=>by
  rw[mR,List.pairwise_append];refine⟨wc k,by split<;>simp,fun x hx y hy=> ?_⟩;obtain⟨i,h1,h2,_,rfl⟩:=wZ.1 hx;split at hy
  ·simp at hy
  ·simp only[List.mem_singleton]at hy;subst hy;exact h2
structure GL (l:List RG):Prop where
 b:∀ r∈l,0<=r.fr/\0<r.n/\r.fr+r.n<=16
 p:l.Pairwise fun x y=>x.fr+x.n<=y.fr\/y.fr+y.n<=x.fr
def RG.has(r:RG)(i:Int):Prop:=r.fr<=i/\i<r.fr+r.n
structure Sv (l:List RG) (f:Int->Int):Prop where
 h1:∀ r∈l,∀ i,r.has i->f i=kd r.w
 h2:∀ i,f i≠0->∃ r∈l,r.has i
def GL.cb{l m:List RG}(h:GL l)(hp:l.Perm m):GL m:=
 ⟨fun r hr=>h.b r (hp.mem_iff.2 hr),(hp.pairwise_iff fun hxy=>hxy.symm).1 h.p⟩
def Sv.cb{l m:List RG}{f:Int->Int}(h:Sv l f)(hp:l.Perm m):Sv m f:=
 ⟨fun r hr=>h.h1 r (hp.mem_iff.2 hr),fun i hi=>by obtain⟨r,hr,h2⟩:=h.h2 i hi;exact⟨r,hp.mem_iff.1 hr,h2⟩⟩
theorem Uq(w:Bool):decide (kd w=2)=w:=by cases w<;>rfl
theorem Oq(w:Bool):kd w≠0:=by cases w<;>decide
def Yo{l:List RG}{f:Int->Int}(hg:GL l)(hc:Sv l f)(hf:Su f)(hs:l.Pairwise fun x y=>x.fr<=y.fr):mg l=ai f:=by
 unfold ai ra;have e:l.flatMap RG.Up=mR f 16:=by
  refine so (fun r=>r.fr) ?_ (wc 16) fun u=> ?_
  ·rw[List.pairwise_flatMap];refine⟨fun r _=>yo _,?_⟩;have hq:=hs.and hg.p;refine hq.imp_of_mem ?_;rintro x y hx hy ⟨h1,h2⟩ u hu v hv;obtain⟨i,i1,i2,rfl⟩:=oN.1 hu;obtain⟨j,j1,j2,rfl⟩:=oN.1 hv;grind
  ·rw[List.mem_flatMap,wZ];constructor
   ·rintro⟨r,hr,hu⟩;obtain⟨i,i1,i2,rfl⟩:=oN.1 hu;have hb:=hg.b r hr;have:=hc.h1 r hr i ⟨i1,og⟩;grind [Oq,Uq]
   ·rintro⟨i,i1,i2,i3,rfl⟩;obtain⟨r,hr,h⟩:=hc.h2 i i3;have hb:=hg.b r hr;refine⟨r,hr,oN.2 ⟨i,h.1,?_,?_⟩⟩
    ·have:=h.2;omega
    grind [Sv.h1,Uq]
 rw[<-e];exact(JX l [] fun r hr=>(hg.b r hr).2.1).symm
structure pj (l:List RG) (f:Int->Int) (k:Nat):Prop where
 b:∀ r∈l,0<=r.fr/\0<r.n/\r.fr+r.n<=k
 s:l.Pairwise fun x y=>x.fr+x.n<=y.fr
 h1:∀ r∈l,∀ i,r.has i->f i=kd r.w
 h2:∀ i:Int,0<=i->i<k->f i≠0->∃ r∈l,r.has i
def JY{f:Int->Int}(hf:Su f):∀ k:Nat,pj (ra f k) f k
 | 0=>⟨by intro r h;simp[ra,mR,mg]at h,by simp[ra,mR,mg],by intro r h;simp[ra,mR,mg]at h,fun i a b=>by simp at b;omega⟩
 | k+1=>by
  have ih:=JY hf k;rw[Dc];split
  ·rename_i c;refine⟨fun r hr=> ?_,ih.s,ih.h1,fun i a b d=> ?_⟩
   ·have:=ih.b r hr;omega
   grind [pj.h2]
  ·rename_i c;have hk:f k=kd (decide (f k=2)):=by
    rcases hf.v k with q | q | q
    ·omega
    ·rw[q];rfl
    ·rw[q];rfl
   rcases Nat.eq_zero_or_pos (ra f k).length with q | q
   ·rw[List.length_eq_zero_iff]at q;rw[q,Oo];rw[q]at ih;refine⟨fun r hr=> ?_,sq,fun r hr i hi=> ?_,fun i a b d=> ?_⟩
    ·grind
    ·simp only[List.mem_singleton]at hr;subst hr;have:i=k:=by have:=hi.1;have:=hi.2;simp at*;omega
     grind
    ·by_cases e:i=k
     ·subst e;exact⟨_,List.mem_singleton.2 rfl,sq,eW⟩
     grind [pj.h2]
   ·obtain⟨l',x,hx⟩:=vl q;rw[hx]at ih ⊢;rw[JW];have hbx:=ih.b x sq;have hsx:=(List.pairwise_append.1 ih.s).2.2;split
    ·rename_i d;obtain⟨d1,d2⟩:=d;refine⟨fun r hr=> ?_,?_,fun r hr i hi=> ?_,fun i a b e=> ?_⟩
     ·rcases List.mem_append.1 hr with hr | hr
      ·have:=ih.b r (by simp[hr]);omega
      grind
     ·rw[List.pairwise_append];refine⟨(List.pairwise_append.1 ih.s).1,sq,fun y hy z hz=> ?_⟩;grind
     ·rcases List.mem_append.1 hr with hr | hr
      ·grind [pj.h1]
      ·simp only[List.mem_singleton]at hr;subst hr;have h1:=hi.1;have h2:=hi.2;simp at h1 h2 d1;by_cases e:i=k
       ·grind
       ·exact ih.h1 x sq i ⟨h1,og⟩
     ·by_cases e2:i=k
      ·refine⟨_,List.mem_append.2 (.inr (List.mem_singleton.2 rfl)),?_,?_⟩;all_goals grind
      ·obtain⟨r,hr,hh⟩:=ih.h2 i a og e;rcases List.mem_append.1 hr with hr | hr
       ·grind
       ·simp only[List.mem_singleton]at hr;subst hr;exact⟨_,List.mem_append.2 (.inr (List.mem_singleton.2 rfl)),hh.1,by have:=hh.2;simp;omega⟩
    ·rename_i d;have kX:∀ r,r∈l'++[x,⟨(k:Int),1,decide (f k=2)⟩]↔r∈l'++[x]\/r=⟨(k:Int),1,decide (f k=2)⟩:=fun r=>by simp[or_assoc]
     refine⟨fun r hr=> ?_,?_,fun r hr i hi=> ?_,fun i a b e=> ?_⟩
     ·rcases(kX r).1 hr with hr | hr
      ·have:=ih.b r hr;omega
      grind
     ·rw[show l'++[x,(⟨(k:Int),1,decide (f k=2)⟩:RG)]=(l'++[x])++[⟨(k:Int),1,decide (f k=2)⟩]from sq,List.pairwise_append];refine⟨ih.s,sq,fun y hy z hz=> ?_⟩;simp only[List.mem_singleton]at hz;subst hz;exact(ih.b y hy).2.2
     ·rcases(kX r).1 hr with hr | hr
      ·grind [pj.h1]
      ·subst hr;have:i=k:=by have:=hi.1;have:=hi.2;simp at*;omega
       grind
     ·by_cases e2:i=k
      ·subst e2;exact⟨_,(kX _).2 (.inr rfl),sq,eW⟩
      grind [pj.h2]
def jQ{f:Int->Int}(hf:Su f):pj (ai f) f 16:=JY hf 16
def Yp{f:Int->Int}(hf:Su f):GL (ai f):=⟨(jQ hf).b,(jQ hf).s.imp fun h=>.inl h⟩
def po{f:Int->Int}(hf:Su f):Sv (ai f) f:=⟨(jQ hf).h1,fun i hi=>by
 refine(jQ hf).h2 i ?_ ?_ hi
 ·by_cases q:i<0
  ·exact absurd (hf.out i (.inl q)) hi
  ·omega
 ·by_cases q:i<16
  ·exact q
  ·exact absurd (hf.out i (.inr og)) hi⟩
theorem Ot(l:List RG)(r:RG):(EL l r).length<=l.length+1:=by
 grind [EL]
def F4(f:Int->Int):∀ k,(ra f k).length<=k
 | 0=>by simp[ra,mR,mg]
 | k+1=>by
  rw[Dc];have:=F4 f k;grind [Ot]
def re(f:Int->Int):(ai f).length<=16:=F4 f 16
def yp{l:List RG}(h:0<=z/\z<l.length:=by omega):bF l z∈l:=by
 grind [bF]
def Yq{l:List RG}{r:RG}(h:r∈l):∃ z:Int,(0<=z/\z<l.length)/\bF l z=r:=by
 obtain⟨k,hk,rfl⟩:=List.mem_iff_getElem.1 h;refine⟨k,og,?_⟩;grind [bF]
def atP(l:List RG)(n:Int)(k:Int):Prop:=(k= -1/\∀ r∈l,¬r.has n)\/((0<=k/\k<l.length)/\(bF l k).has n)
def uh{f:Int->Int}(hf:Su f){n:Int}(h:atP (ai f) n k):(k<0↔f n=0)/\(0<=k->k<(ai f).length/\f n=kd (bF (ai f) k).w):=by
 rcases h with⟨rfl,h⟩ | ⟨h1,h2⟩
 ·refine⟨⟨fun _=> ?_,fun _=>og⟩,fun q=>og⟩;by_cases c:f n=0
  ·omega
  ·obtain⟨r,hr,hh⟩:=(po hf).h2 n c;simp_all
 ·have e:=(po hf).h1 _ (yp h1) n h2;grind [kd]
structure MS where
 az:Int->Int
 fr:Int->Int
 bH:Int->Bool
structure VB where
 bb:BB
 ij:Int->Int->Int
 rf:Int->Int
def BL(b:Int->Int->Int)(f:Int)(row:Int->Int):Int->Int->Int:=fun x j=>if x=f then row j else b x j
def fT{α:Type}(f:Int->α)(a m:Int)(v:α):Int->α:=fun i=>if a<=i/\i<a+m then v else f i
def VB.take(v:VB):Int×Int×VB:=if(v.bb.take 0).2.1≠0 then(0,(v.bb.take 0).2.1,v)else((v.bb.take 0).1,0,⟨(v.bb.take 0).2.2,BL v.ij (v.bb.take 0).1 fun _=>0,ad v.rf (v.bb.take 0).1 1⟩)
def VB.drop(v:VB)(f:Int):VB:=if v.rf f-1=0 then⟨(v.bb.sj f).2,v.ij,ad v.rf f (v.rf f-1)⟩else⟨v.bb,v.ij,ad v.rf f (v.rf f-1)⟩
def VB.copy(v:VB)(f g:Int):VB:=⟨v.bb,BL v.ij f (v.ij g),v.rf⟩
def gM(a m:Int):Prop:=a<0\/15<a\/m<1\/16-a<m
instance (a m:Int):Decidable (gM a m):=by unfold gM;infer_instance
def Mn(p:Int->Bool)(a:Int):Nat->Bool
 | 0=>false
 | k+1=>Mn p a k||p (a+k)
theorem w6{p:Int->Bool}{a:Int} :∀ {k:Nat},(∀ i:Int,a<=i->i<a+k->p i=false)->Mn p a k=false
 | 0,_=>rfl
 | k+1,h=>by rw[Mn,w6 (k:=k) fun i h1 h2=>h i h1 og,h _ og og];rfl
theorem Ac{p:Int->Bool}{a i:Int} :∀ {k:Nat},a<=i->i<a+k->p i=true->Mn p a k=true
 | 0,h1,h2,_=>by simp at h2;omega
 | k+1,h1,h2,h3=>by
  rw[Mn];by_cases c:i=a+k
  ·rw[<-c,h3];simp
  ·rw[Ac (k:=k) h1 og h3];rfl
def MS.qp(m:MS)(a n:Int):Int:=if gM a n then 1 else if Mn (fun i=>m.az i != 0) a n.toNat then 3 else 0
def MS.lg(m:MS)(a n:Int):Int:=if gM a n then 1 else if Mn (fun i=>m.az i==0) a n.toNat then 10 else 0
def MS.lay(m:MS)(a n:Int)(w:Bool):MS:= {m with az:=fT m.az a n (kd w)}
def MS.map(m:MS)(a n:Int)(w:Bool):MS:=if m.qp a n=0 then m.lay a n w else m
def MS.mS(m:MS)(a n:Int)(w:Bool):MS:=if m.lg a n=0 then m.lay a n w else m
def Yr(fr:Int->Int)(x:Int×VB)(i:Int):Int×VB:=if 0<fr i then(x.1+1,x.2.drop (fr i-1))else x
def lh(p:Int->Bool)(a:Int):Nat->List Int
 | 0=>[]
 | k+1=>lh p a k++(if p (a+k)then [a+k]else [])
def Mo(v:VB)(fr:Int->Int)(a:Int):Nat->Int×VB
 | 0=>(0,v)
 | k+1=>Yr fr (Mo v fr a k) (a+k)
def ui(v:VB)(fr:Int->Int)(l:List Int):Int×VB:=l.foldl (Yr fr) (0,v)
theorem JZ(v:VB){fr:Int->Int}{p:Int->Bool}(hp:∀ i,p i=false->fr i=0)(a:Int):∀ k,Mo v fr a k=ui v fr (lh p a k)
 | 0=>rfl
 | k+1=>by
  rw[Mo,JZ v hp a k,lh,ui,ui,List.foldl_append];cases h:p (a+k)with
  | true=>simp
  | false=>simp[Yr,hp _ h]
theorem oO{p:Int->Bool}{a i:Int} :∀ {k:Nat},i∈lh p a k↔(a<=i/\i<a+k)/\p i=true
 | 0=>by simp only[lh,List.not_mem_nil,false_iff];rintro⟨⟨h1,h2⟩,_⟩;simp at h2;omega
 | k+1=>by
  rw[lh,List.mem_append,oO (k:=k)];grind
def sr{p:Int->Bool}{a:Int} :∀ k,(lh p a k).Pairwise (fun x y=>x<y)
 | 0=>.nil
 | k+1=>by
  rw[lh,List.pairwise_append];refine⟨sr k,by split<;>simp,fun x hx y hy=> ?_⟩;have:=oO.1 hx;split at hy
  ·simp only[List.mem_singleton]at hy;omega
  ·simp at hy
def MS.ep(v:VB)(m:MS)(a n:Int):Int×Int×VB×MS:=if gM a n then(0,1,v,m)else
 ((Mo v m.fr a n.toNat).1,0,(Mo v m.fr a n.toNat).2,⟨fT m.az a n 0,fT m.fr a n 0,fT m.bH a n false⟩)
def MS.sV(m:MS)(a:Int)(w:Bool):Bool:=decide (0<=a/\a<128)&&(m.az (a/8)==2||(m.az (a/8)==1&& !w))
def MS.l9(m:MS)(a:Int):Bool:=m.sV a false&&m.fr (a/8)==0
def MS.Dd(m:MS)(n f:Int):MS:= {m with fr:=ad m.fr n (f+1),bH:=ad m.bH n true}
def MS.b6(v:VB)(m:MS)(a:Int)(w:Bool):Int×Int×VB×MS:=
 if m.sV a w=false then(0,10,v,m)
 else if m.fr (a/8)=0 then(if v.take.2.1≠0 then(0,v.take.2.1,v,m)else(v.take.1,0,v.take.2.2,m.Dd (a/8) v.take.1))
 else if w=false\/m.bH (a/8)=true then(m.fr (a/8)-1,0,v,m)
 else if v.rf (m.fr (a/8)-1)<=1 then(m.fr (a/8)-1,0,v,{m with bH:=ad m.bH (a/8) true})
 else if v.take.2.1≠0 then(0,v.take.2.1,v,m)
 else(v.take.1,0,(v.take.2.2.copy v.take.1 (m.fr (a/8)-1)).drop (m.fr (a/8)-1),m.Dd (a/8) v.take.1)
def MS.load(v:VB)(m:MS)(a:Int):Int×Int×VB×MS:=let t:=m.b6 v a false
 if t.2.1≠0 then(0,t.2.1,t.2.2)else(t.2.2.1.ij t.1 (a%8),0,t.2.2)
def MS.store(v:VB)(m:MS)(a b:Int):Int×VB×MS:=let t:=m.b6 v a true
 if t.2.1≠0 then(t.2.1,t.2.2)else(0,⟨t.2.2.1.bb,cL t.2.2.1.ij t.1 (a%8) b,t.2.2.1.rf⟩,t.2.2.2)
def yq(rf fr:Int->Int):Nat->Int->Int
 | 0=>rf
 | k+1=>if 0<fr k then ad (yq rf fr k) (fr k-1) (yq rf fr k (fr k-1)+1)else yq rf fr k
def MS.bare(m:MS):MS:= {m with bH:=fun _=>false}
def VB.jl(v:VB)(m:MS):VB:= {v with rf:=yq v.rf m.fr 16}
def tj(fr:Int->Int):Nat->Int
 | 0=>0
 | k+1=>tj fr k+(if 0<fr k then 1 else 0)
def MS.eZ(m:MS):Int:=tj m.fr 16
def MS.nil:MS:=⟨fun _=>0,fun _=>0,fun _=>false⟩
def HB(fr:Int->Int):∀ k:Nat,0<=tj fr k/\tj fr k<=k
 | 0=>by simp[tj]
 | k+1=>by have:=HB fr k;rw[tj];split<;>omega
theorem F5(fr:Int->Int)(h:0<=i):tj fr (i+1).toNat=tj fr i.toNat+(if 0<fr i then 1 else 0):=by
 rw[show(i+1).toNat=i.toNat+1 from og,tj,show((i.toNat:Nat):Int)=i from og]
structure MS.Ok (m:MS):Prop where
 f:Su m.az
 lo:∀ i,0<=m.fr i/\m.fr i<=64
 un:∀ i,m.az i=0->m.fr i=0
 ow:∀ i,m.fr i=0->m.bH i=false
 inj:∀ i j,0<m.fr i->m.fr i=m.fr j->i=j
structure VB.Ok (v:VB):Prop where
 bb:v.bb.Inv
 rf:∀ f,0<=v.rf f/\v.rf f<=100000
 ij:∀ f j,0<=v.ij f j/\v.ij f j<256
def MS.In(m:MS)(v:VB):Prop:=∀ i,0<m.fr i->1<=v.rf (m.fr i-1)
theorem Su.fT{f:Int->Int}(h:Su f){a n:Int}(hb:¬gM a n){v:Int}(hv:v=0\/v=1\/v=2):Su (Go.X.Vm.fT f a n v):=by
 unfold gM at hb;refine⟨fun i=> ?_,fun i hi=> ?_⟩
 ·unfold Go.X.Vm.fT;split
  ·exact hv
  ·exact h.v i
 ·unfold Go.X.Vm.fT;rw[if_neg og];exact h.out i hi
def Ur(w:Bool):kd w=0\/kd w=1\/kd w=2:=by cases w<;>simp[kd]
theorem MS.Ok.nil:MS.nil.Ok:=⟨⟨fun _=>.inl rfl,fun _ _=>rfl⟩,fun _=>by simp[MS.nil],fun _ _=>rfl,fun _ _=>rfl,fun i j h=>by simp[MS.nil]at h⟩
theorem MS.Ok.lay{m:MS}(h:m.Ok){a n:Int}(hb:¬gM a n)(w:Bool):(m.lay a n w).Ok:=
 ⟨h.f.fT hb (Ur w),h.lo,fun i hi=>h.un i (by
  simp only[MS.lay,fT]at hi
  split at hi
  ·exact absurd hi (Oq w)
  ·exact hi),h.ow,h.inj⟩
theorem Ys{m:MS}{n:Int}(h:m.qp a n=0):¬gM a n:=by
 grind [MS.qp]
theorem Us{m:MS}{n:Int}(h:m.lg a n=0):¬gM a n:=by
 grind [MS.lg]
theorem MS.Ok.map{m:MS}(h:m.Ok)(a n:Int)(w:Bool):(m.map a n w).Ok:=by
 grind [MS.map,MS.Ok.lay,Ys]
theorem MS.Ok.mS{m:MS}(h:m.Ok)(a n:Int)(w:Bool):(m.mS a n w).Ok:=by
 grind [MS.mS,MS.Ok.lay,Us]
theorem MS.Ut(m:MS)(a n:Int)(w:Bool):(m.map a n w).fr=m.fr/\(m.map a n w).bH=m.bH:=by unfold MS.map;split<;>exact⟨rfl,rfl⟩
theorem MS.Ou(m:MS)(a n:Int)(w:Bool):(m.mS a n w).fr=m.fr/\(m.mS a n w).bH=m.bH:=by unfold MS.mS;split<;>exact⟨rfl,rfl⟩
def my(a n:Int)(r:RG):List RG:=if min (r.fr+r.n) (a+n)<=max r.fr a then [r]else
 (if r.fr<max r.fr a then [⟨r.fr,max r.fr a-r.fr,r.w⟩]else [])++(if min (r.fr+r.n) (a+n)<r.fr+r.n then [⟨min (r.fr+r.n) (a+n),r.fr+r.n-min (r.fr+r.n) (a+n),r.w⟩]else [])
def jE(a:Int):Nat->List Int
 | 0=>[]
 | k+1=>jE a k++[a+k]
def vm(a n:Int)(r:RG):List Int:=jE (max r.fr a) (min (r.fr+r.n) (a+n)-max r.fr a).toNat
theorem rh{a i:Int} :∀ {k:Nat},i∈jE a k↔a<=i/\i<a+k
 | 0=>by simp only[jE,List.not_mem_nil,false_iff];rintro⟨h1,h2⟩;simp at h2;omega
 | k+1=>by
  rw[jE,List.mem_append,rh (k:=k),List.mem_singleton];omega
def yr{a:Int} :∀ k,(jE a k).Pairwise (fun x y=>x<y)
 | 0=>.nil
 | k+1=>by
  rw[jE,List.pairwise_append];refine⟨yr k,sq,fun x hx y hy=> ?_⟩;have:=rh.1 hx;simp only[List.mem_singleton]at hy;omega
theorem Ad(a:Int):∀ k,(jE a k).length=k
 | 0=>rfl
 | k+1=>by rw[jE,List.length_append,Ad a k];rfl
def Ov{n:Int}{r q:RG}(hn:0<n)(hr:0<r.n)(h:q∈my a n r):0<q.n/\r.fr<=q.fr/\q.fr+q.n<=r.fr+r.n/\q.w=r.w/\(q.fr+q.n<=a\/a+n<=q.fr):=by
 grind [my]
theorem Yt{a n:Int}{r:RG}{i:Int}(hr:r.has i)(h:i<a\/a+n<=i):∃ q∈my a n r,q.has i:=by
 obtain⟨h1,h2⟩:=hr;unfold my;split
 ·simp_all[RG.has]
 ·rename_i c;by_cases d:i<max r.fr a
  ·refine⟨⟨r.fr,max r.fr a-r.fr,r.w⟩,List.mem_append.2 (.inl ?_),h1,?_⟩;all_goals grind
  ·refine⟨⟨min (r.fr+r.n) (a+n),r.fr+r.n-min (r.fr+r.n) (a+n),r.w⟩,List.mem_append.2 (.inr ?_),?_,?_⟩;all_goals grind
def Uu{n:Int}{r:RG} :(my a n r).Pairwise (fun x y=>x.fr+x.n<=y.fr):=by
 unfold my;split
 ·simp
 ·rw[List.pairwise_append];refine⟨by split<;>simp,by split<;>simp,fun x hx y hy=> ?_⟩;grind
def Mp{l:List RG}{f:Int->Int}{n:Int}(hl:pj l f 16)(hn:0<n):(l.flatMap (my a n)).Pairwise (fun x y=>x.fr+x.n<=y.fr)/\(∀ r∈l.flatMap (my a n),(0<=r.fr/\0<r.n/\r.fr+r.n<=16)/\(r.fr+r.n<=a\/a+n<=r.fr)):=by
 constructor
 ·rw[List.pairwise_flatMap];refine⟨fun _ _=>Uu,hl.s.imp_of_mem ?_⟩;grind [my]
 ·intro r hr;obtain⟨x,hx,h⟩:=List.mem_flatMap.1 hr;have h1:=Ov hn (hl.b x hx).2.1 h;have:=hl.b x hx;omega
def De{l:List RG}{f:Int->Int}{a n:Int}(hl:pj l f 16)(hc:Sv l f)(hn:0<n):Sv (l.flatMap (my a n)) (fT f a n 0):=by
 refine⟨fun r hr i hi=> ?_,fun i hi=> ?_⟩
 ·obtain⟨x,hx,h⟩:=List.mem_flatMap.1 hr;obtain⟨h1,h2,h3,h4,h5⟩:=Ov hn (hl.b x hx).2.1 h;have hi1:=hi.1;have P3:=hi.2;unfold fT;rw[if_neg og,hc.h1 x hx i ⟨og,og⟩,h4]
 ·unfold fT at hi;split at hi
  ·omega
  ·obtain⟨r,hr,hh⟩:=hc.h2 i hi;grind [Yt]
def F6{l:List RG}{f:Int->Int}{n:Int}(hl:pj l f 16)(hn:0<n):GL (l.flatMap (my a n)):=by
 obtain⟨h1,h2⟩:=Mp (a:=a) hl hn;exact⟨fun r hr=>(h2 r hr).1,h1.imp fun h=>.inl h⟩
def Ow{l:List RG}{n:Int}{w:Bool}(hl:GL l)(hb:¬gM a n)(h:∀ r∈l,r.fr+r.n<=a\/a+n<=r.fr):GL (l++[⟨a,n,w⟩]):=by
 unfold gM at hb;refine⟨fun r hr=> ?_,?_⟩
 ·rcases List.mem_append.1 hr with hr | hr
  ·exact hl.b r hr
  grind
 grind [GL.p]
def J0{l:List RG}{f g:Int->Int}{n:Int}{w:Bool}(hc:Sv l f)(h:∀ r∈l,r.fr+r.n<=a\/a+n<=r.fr)(hg:∀ i,¬(a<=i/\i<a+n)->g i=f i):Sv (l++[⟨a,n,w⟩]) (fT g a n (kd w)):=by
 refine⟨fun r hr i hi=> ?_,fun i hi=> ?_⟩
 ·have h1:=hi.1;have h2:=hi.2;grind [fT,Sv.h1]
 ·by_cases c:a<=i/\i<a+n
  ·exact⟨_,List.mem_append.2 (.inr (List.mem_singleton.2 rfl)),c.1,c.2⟩
  ·unfold fT at hi;rw[if_neg c,hg i c]at hi;obtain⟨r,hr,hh⟩:=hc.h2 i hi;grind
theorem QD{f:Int->Int}(hf:Su f){n:Int}(hb:¬gM a n):(ai f).flatMap (vm a n)=lh (fun i=>f i != 0) a n.toNat:=by
 unfold gM at hb;have hl:=jQ hf;refine so (fun i=>i) ?_ (sr _) fun i=> ?_
 ·rw[List.pairwise_flatMap];refine⟨fun r _=>yr _,hl.s.imp_of_mem ?_⟩;grind [rh,vm]
 ·rw[List.mem_flatMap,oO];constructor
  ·rintro⟨r,hr,h⟩;have h1:=rh.1 h;have e:=(po hf).h1 r hr i ⟨og,og⟩;grind [Oq]
  ·rintro⟨h1,h2⟩;simp only[bne_iff_ne,ne_eq]at h2;obtain⟨r,hr,hh⟩:=(po hf).h2 i h2;have a1:=hh.1;have a2:=hh.2;grind [rh,vm]
def F7{p:Int->Bool}{a:Int} :∀ k,(lh p a k).length<=k
 | 0=>by simp[lh]
 | k+1=>by
  have:=F7 (p:=p) (a:=a) k;grind [lh]
theorem Yu{l:List RG}(h:0<=i/\i<l.length):l[i.toNat]? =some (bF l i):=by
 grind [bF]
def aca(q:Prop)[Decidable q](r:RG):(if q then [r]else []).length<=1:=by split<;>simp
def dI(pb:Nat)(bs:Int->Int->Int)(rf:Int->Int)(i:Nat):Value:=
 if i=0 then ay pb 0 0 else
 if 1<=i/\(i-1)/8<64/\((i-1)%8)%1=0/\((i-1)%8)/1<8 then .int .u8 (bs (((i-1)/8:Nat):Int) ((((i-1)%8)/1:Nat):Int))else
 if 513<=i/\(i-513)%1=0/\(i-513)/1<64 then iI (rf (((i-513)/1:Nat):Int))else
 undef
def dI.J1(pb:Nat)(bs:Int->Int->Int)(rf:Int->Int):(0+0)<577/\dI pb bs rf (0+0)=ay pb 0 0:=by
 grind [dI]
def E8(pb:Nat)(bs:Int->Int->Int)(rf:Int->Int)(z0:Int)(z1:Int)(q0:0<=z0/\z0<64)(q1:0<=z1/\z1<8):(((0+1)+z0.toNat*8)+z1.toNat*1)<577/\dI pb bs rf (((0+1)+z0.toNat*8)+z1.toNat*1)= .int .u8 (bs z0 z1):=by
 grind [dI]
def we(pb:Nat)(bs:Int->Int->Int)(rf:Int->Int)(z0:Int)(z1:Int)(q0:0<=z0/\z0<64)(q1:0<=z1/\z1<8)(v:Int):(((0+1)+z0.toNat*8)+z1.toNat*1)<577/\dP (dI pb bs rf) (((0+1)+z0.toNat*8)+z1.toNat*1) (.int .u8 (v))=dI pb (cL bs z0 z1 v) rf:=by
 grind [dP,cL,dI]
def ja(pb:Nat)(bs:Int->Int->Int)(rf:Int->Int)(z0:Int)(q0:0<=z0/\z0<64:=by omega):((0+513)+z0.toNat*1)<577/\dI pb bs rf ((0+513)+z0.toNat*1)=iI (rf z0):=by
 grind [dI]
def ma(pb:Nat)(bs:Int->Int->Int)(rf:Int->Int)(z0:Int)(q0:0<=z0/\z0<64)(v:Int):((0+513)+z0.toNat*1)<577/\dP (dI pb bs rf) ((0+513)+z0.toNat*1) (iI (v))=dI pb bs (ad rf z0 v):=by
 grind [dP,ad,dI]
def b7(kb:Nat)(p:Option Addr)(n:Nat)(c:Nat)(fr:Int->Int)(bH:Int->Bool)(i:Nat):Value:=
 if i=0 then ay kb 0 0 else
 if i=1 then .slice p n c else
 if 2<=i/\(i-2)%2=0/\(i-2)/2<16 then iI (fr (((i-2)/2:Nat):Int)-1)else
 if 3<=i/\(i-3)%2=0/\(i-3)/2<16 then .bool (bH (((i-3)/2:Nat):Int))else
 undef
def b7.Ae(kb:Nat)(p:Option Addr)(n:Nat)(c:Nat)(fr:Int->Int)(bH:Int->Bool):(0+0)<34/\b7 kb p n c fr bH (0+0)=ay kb 0 0:=by
 grind [b7]
def lL(kb:Nat)(p:Option Addr)(n:Nat)(c:Nat)(fr:Int->Int)(bH:Int->Bool):(0+1)<34/\b7 kb p n c fr bH (0+1)= .slice p n c:=by
 grind [b7]
def bR(kb:Nat)(p:Option Addr)(n:Nat)(c:Nat)(fr:Int->Int)(bH:Int->Bool)(z0:Int)(q0:0<=z0/\z0<16:=by omega):(((0+2)+z0.toNat*2)+0)<34/\b7 kb p n c fr bH (((0+2)+z0.toNat*2)+0)=iI (fr z0-1):=by
 grind [b7]
def pZ(kb:Nat)(p:Option Addr)(n:Nat)(c:Nat)(fr:Int->Int)(bH:Int->Bool)(z0:Int)(q0:0<=z0/\z0<16)(v:Int):(((0+2)+z0.toNat*2)+0)<34/\dP (b7 kb p n c fr bH) (((0+2)+z0.toNat*2)+0) (iI (v))=b7 kb p n c (ad fr z0 (v+1)) bH:=by
 grind [dP,ad,b7]
def yt(kb:Nat)(p:Option Addr)(n:Nat)(c:Nat)(fr:Int->Int)(bH:Int->Bool)(z0:Int)(q0:0<=z0/\z0<16):(((0+2)+z0.toNat*2)+1)<34/\b7 kb p n c fr bH (((0+2)+z0.toNat*2)+1)= .bool (bH z0):=by
 grind [b7]
theorem iy(kb:Nat)(p:Option Addr)(n:Nat)(c:Nat)(fr:Int->Int)(bH:Int->Bool)(z0:Int)(q0:0<=z0/\z0<16)(v:Bool):(((0+2)+z0.toNat*2)+1)<34/\dP (b7 kb p n c fr bH) (((0+2)+z0.toNat*2)+1) (.bool (v))=b7 kb p n c fr (ad bH z0 v):=by
 grind [dP,ad,b7]
def Uv(row:Int->Int):Array Value:=((List.range 8).map fun (j:Nat)=>Value.int .u8 (row (j:Int))).toArray
def Uw(pb:Nat)(bs:Int->Int->Int)(rf:Int->Int)(f:Int)(h:0<=f/\f<64):0+1+f.toNat*8+8<=577/\dv (dI pb bs rf) (0+1+f.toNat*8) 8= .agg (Uv (bs f)):=by
 refine⟨og,?_⟩;unfold dv Uv;congr 2;apply List.map_congr_left;grind [dI]
def F8(pb:Nat)(bs:Int->Int->Int)(rf:Int->Int)(f:Int)(row:Int->Int)(h:0<=f/\f<64:=by omega):0+1+f.toNat*8+8<=577/\cD (dI pb bs rf) (0+1+f.toNat*8) (Uv row).toList=dI pb (BL bs f row) rf:=by
 refine⟨og,?_⟩;have e:(Uv row).toList=[.int .u8 (row 0),.int .u8 (row 1),.int .u8 (row 2),.int .u8 (row 3),.int .u8 (row 4),.int .u8 (row 5),.int .u8 (row 6),.int .u8 (row 7)]:=rfl;rw[e];simp only[cD];have st:∀ (bs:Int->Int->Int) (j:Nat) (v:Int),j<8->dP (dI pb bs rf) (0+1+f.toNat*8+j) (.int .u8 v)=dI pb (cL bs f j v) rf:=fun bs j v hj=>by
  have:=(we pb bs rf f (j:Int) h og v).2;simp_all
 have s0:=st bs 0 (row 0) og;rw[show 0+1+f.toNat*8+0=0+1+f.toNat*8 from rfl]at s0;rw[s0,st _ 1 _ og,show 0+1+f.toNat*8+1+1=0+1+f.toNat*8+2 from rfl,st _ 2 _ og,show 0+1+f.toNat*8+2+1=0+1+f.toNat*8+3 from rfl,st _ 3 _ og,show 0+1+f.toNat*8+3+1=0+1+f.toNat*8+4 from rfl,st _ 4 _ og,
  show 0+1+f.toNat*8+4+1=0+1+f.toNat*8+5 from rfl,st _ 5 _ og,show 0+1+f.toNat*8+5+1=0+1+f.toNat*8+6 from rfl,st _ 6 _ og,show 0+1+f.toNat*8+6+1=0+1+f.toNat*8+7 from rfl,st _ 7 _ og]
 funext i;unfold dI;refine gj (fun _=>rfl) fun _=>gj (fun c=> ?_) fun _=>rfl;congr 1;simp only[BL,cL];grind
def QE(kb:Nat)(p:Option Addr)(n c:Nat)(fr:Int->Int)(bH:Int->Bool)(i:Int)(h:0<=i/\i<16):0+2+i.toNat*2+2<=34/\dv (b7 kb p n c fr bH) (0+2+i.toNat*2) 2= .agg #[iI (fr i-1),.bool (bH i)]:=by
 grind [dv,List.range,List.range.loop,b7]
def ss(kb:Nat)(p:Option Addr)(n c:Nat)(fr:Int->Int)(bH:Int->Bool)(i:Int)(f:Int)(w:Bool)(h:0<=i/\i<16:=by omega):0+2+i.toNat*2+2<=34/\cD (b7 kb p n c fr bH) (0+2+i.toNat*2) [iI f,.bool w]=b7 kb p n c (ad fr i (f+1)) (ad bH i w):=by
 refine⟨og,?_⟩;simp only[cD];have h1:=(pZ kb p n c fr bH i h f).2;simp_all[iy]
def HC(kb:Nat)(p:Option Addr)(n c:Nat)(fr:Int->Int)(bH:Int->Bool)(p2:Option Addr)(n2 c2:Nat):0+1<34/\dP (b7 kb p n c fr bH) (0+1) (.slice p2 n2 c2)=b7 kb p2 n2 c2 fr bH:=by
 grind [dP,b7]
theorem Df{f:Int->Bool} :∀ {k:Nat} {a:Int},a∈fM f k↔0<=a/\a<k/\f a=true
 | 0,a=>by simp[fM];omega
 | k+1,a=>by
  simp only[fM,List.mem_append,Df (k:=k)];grind
def HD{b:BB}(h:¬(b.take o).2.1=0):(b.take o).2.2=b:=by
 grind [BB.take]
def BB.Inv.Dg{b:BB}(h:b.Inv)(he:(b.take o).2.1=0):(0<=o/\o<=6)/\(0<=(b.take o).1/\(b.take o).1<64)/\b.ew (b.take o).1=0/\(b.take o).1%p2 o=0/\(b.take o).2.2.ew=ad b.ew (b.take o).1 (o+1):=by
 by_cases ho:o<0\/6<o
 ·grind [qn]
 ·cases hp:b.pick o with
  | none=>rw[yf ho hp]at he;simp at he
  | some x=>
   obtain⟨k,i⟩:=x;obtain⟨h1,h2,h3,h4,h5⟩:=sm hp;have hu:=congrArg PB.u (h.F0 ho hp);have hi:=h.take o;have hh:=h.je (a:=i) og;obtain⟨s1,_⟩:=hh.wY ((k:Int)-o).toNat (a:=i) (by show _<b.cJ i;omega);have e1:(b.take o).1=i:=by rw[BB.l7 ho hp]
   have e2:(b.take o).2.2.cJ i=o+1:=by
    rw[BB.l7 ho hp];show(BB.jK _ _ _).cJ i=_;rw[s1];show b.cJ i-_=_;omega
   have ha:=hi.al i (by rw[e2];omega);rw[e2,show o+1-1=o from og]at ha;rw[e1];exact⟨og,og,by unfold BB.ew;rw[if_neg (by simp[h5])],ha,hu.symm⟩
theorem Dh(b:BB)(a:Int):(b.sj a).1=b.is a:=by
 grind [sn,pY]
def BB.Inv.Ux{b:BB}(h:b.Inv)(he:(b.sj a).1=0):(0<=a/\a<64)/\¬b.ew a=0/\(b.sj a).2.ew=ad b.ew a 0/\(b.sj a).2.tk=ad b.tk a false:=by
 rw[Dh]at he;obtain⟨h1,h2,h3⟩:=wW he;have hu:=congrArg PB.u (h.z8 he);refine⟨⟨h1,h2⟩,?_,hu.symm,?_⟩
 ·grind [BB.ew,Inv]
 ·rw[sn he];exact BB.Da _ _ _
end Go.X.Vm
