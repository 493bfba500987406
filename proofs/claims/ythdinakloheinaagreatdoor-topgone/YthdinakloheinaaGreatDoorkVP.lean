import Derived.Test.YthdinakloheinaaGreatDoorXBytes
set_option linter.all false
namespace Go.X.Gr
open Go Go.X
variable{a k m n p:Int}
structure TG where
 aa:Int->Bool
 aA:Int->Int
 mp:Int->Int
 mg:Int->Int
 pr:Int->Int
 pg:Int->Int
def jW(aA:Int->Int):Nat->Int->List Int
 | 0,_=>[]
 | k+1,n=>if n<0 then []else n::jW aA k (aA n)
def mU(aA:Int->Int):Int->List Int->Prop
 | n,[]=>n<0
 | n,x::r=>x=n/\0<=n/\n<10/\mU aA (aA n) r
theorem mU.WG{aA:Int->Int} :∀ {n:Int} {l l':List Int},mU aA n l->mU aA n l'->l=l'
 | _,[],[],_,_=>rfl
 | _,[],_::_,h,k=>absurd h (by have:=k.2.1;simp only[mU];omega)
 | _,_::_,[],h,k=>absurd k (by have:=h.2.1;simp only[mU];omega)
 | _,_::_,_::_,⟨h1,_,_,h2⟩,⟨k1,_,_,k2⟩=>by subst h1;subst k1;rw[mU.WG h2 k2]
theorem mU.range{aA:Int->Int} :∀ {n:Int} {l:List Int},mU aA n l->∀ x∈l,0<=x/\x<10
 | _,[],_,_,h=>by simp at h
 | _,_::_,⟨h1,h2,h3,h4⟩,x,hx=>by
  rcases List.mem_cons.1 hx with rfl | hx
  ·subst h1;exact⟨h2,h3⟩
  ·exact mU.range h4 x hx
abbrev Tj:= {x:Int//0<=x/\x<10}
def nu(l:List Tj):List Int:=l.map (·.1)
theorem HA(l:List Tj)(x:Tj):nu (l++[x])=nu l++[x.1]:=by simp[nu]
def so:∀ (l:List Int),(∀ x∈l,0<=x/\x<10)->∃ l':List Tj,nu l'=l
 | [],_=>⟨[],rfl⟩
 | x::r,h=>by
  obtain⟨r',hr⟩:=so r fun y hy=>h y (List.mem_cons_of_mem _ hy);exact⟨⟨x,h x sq⟩::r',by simp[nu]at*;exact hr⟩
def bU(f:Int->Int):Nat->Int
 | 0=>0
 | k+1=>bU f k+f (k:Int)
def LX(p:Int->Bool):Nat->List Int
 | 0=>[]
 | k+1=>LX p k++if p (k:Int)=true then [(k:Int)]else []
theorem LY(p:Int->Bool):∀ (k:Nat) (x:Int),x∈LX p k↔0<=x/\x<k/\p x=true
 | 0,x=>by simp[LX];omega
 | k+1,x=>by
  simp only[LX,List.mem_append,LY p k x];by_cases h:p (k:Int)=true
  ·rw[if_pos h];simp only[List.mem_singleton];constructor
   ·rintro(⟨h1,h2,h3⟩ | rfl)
    ·exact⟨h1,og,h3⟩
    ·exact⟨og,og,h⟩
   ·rintro⟨h1,h2,h3⟩;by_cases hx:x=(k:Int)
    ·exact .inr hx
    ·exact .inl ⟨h1,og,h3⟩
  ·rw[if_neg h];simp only[List.not_mem_nil,or_false];constructor
   ·rintro⟨h1,h2,h3⟩;exact⟨h1,og,h3⟩
   ·rintro⟨h1,h2,h3⟩;refine⟨h1,?_,h3⟩;by_cases hx:x=(k:Int)
    ·subst hx;exact absurd h3 h
    ·omega
structure GV where
 aA:Int
 mp:Int
 mg:Int
 pr:Int
 pg:Int
def GV.c9(g:GV):Array Value:= #[iI g.aA,iI g.mp,iI g.mg,iI g.pr,iI g.pg]
def GV.room(g:GV)(p m:Int):Bool:=(decide (p=0)||decide (g.mp<0)||decide (g.pr+p<=g.mp))&&(decide (m=0)||decide (g.mg<0)||decide (g.pg+m<=g.mg))
namespace TG
def gv(s:TG)(n:Int):GV:=⟨s.aA n,s.mp n,s.mg n,s.pr n,s.pg n⟩
def GH(s:TG)(n:Int)(g:GV):TG:=⟨s.aa,ad s.aA n g.aA,ad s.mp n g.mp,ad s.mg n g.mg,ad s.pr n g.pr,ad s.pg n g.pg⟩
def cU(s:TG)(n:Int):List Int:=jW s.aA 5 n
def cQ(s:TG)(n:Int):Int:=if n<0\/10<=n then 1 else if s.aa n=true then 0 else 2
def ZZ(p m:Int):Int:=if p<0\/20<p\/m<0\/64<m then 1 else 0
def room(s:TG)(p m n:Int):Bool:=(s.gv n).room p m
def free(s:TG):Option Nat:=dW (fun n=> !s.aa n) 10
def put(s:TG)(k p:Int):TG:=⟨ad s.aa k true,ad s.aA k p,ad s.mp k (-1),ad s.mg k (-1),ad s.pr k 0,ad s.pg k 0⟩
def yF(s:TG)(k:Int):TG:=⟨ad s.aa k false,ad s.aA k 0,ad s.mp k 0,ad s.mg k 0,ad s.pr k 0,ad s.pg k 0⟩
def vx(s:TG)(p:Int):Int:=if s.cQ p≠0 then s.cQ p else if(s.cU p).length=4 then 7 else if s.free=none then 4 else 0
def kI(s:TG)(p:Int):Int:=if s.vx p=0 then((s.free.getD 0:Nat):Int)else 0
def add(s:TG)(p:Int):TG:=if s.vx p=0 then s.put (s.kI p) p else s
def below(s:TG)(n:Int):Prop:=∃ k:Int,0<=k/\k<10/\s.aa k=true/\s.aA k=n
def lay(s:TG)(l:List Int)(p m:Int):TG:= {s with pr:=fun y=>s.pr y+p*(l.count y:Int),pg:=fun y=>s.pg y+m*(l.count y:Int)}
def qB(s:TG)(n p m:Int):Int:=if s.cQ n≠0 then s.cQ n else ZZ p m
def dJ(s:TG)(n p m:Int):Int:=if s.qB n p m≠0 then s.qB n p m else if(s.cU n).all (s.room p m)=true then 0 else 6
def bI(s:TG)(n p m:Int):TG:=if s.dJ n p m=0 then s.lay (s.cU n) p m else s
def gK(s:TG)(f:Int->Int)(n k:Int):Int:=if s.aa k=true/\s.aA k=n then f k else 0
def left(s:TG)(f:Int->Int)(n:Int):Int:=f n-bU (s.gK f n) 10
def gD(s:TG)(n p m:Int):Int:=if s.qB n p m≠0 then s.qB n p m else if p<=s.left s.pr n/\m<=s.left s.pg n then 0 else 8
def eb(s:TG)(n p m:Int):TG:=if s.gD n p m=0 then s.lay (s.cU n) (-p) (-m)else s
def kU(s:TG)(n p m:Int):Int:=if s.cQ n≠0 then s.cQ n else if p< -1\/20<p\/m< -1\/64<m then 1 else 0
def ki(s:TG)(n p m:Int):TG:=if s.kU n p m=0 then {s with mp:=ad s.mp n p,mg:=ad s.mg n m} else s
def fl(s:TG)(a b p m:Int):Int:=if s.cQ b≠0 then s.cQ b else if s.gD a p m≠0 then s.gD a p m else(s.eb a p m).dJ b p m
def move(s:TG)(a b p m:Int):TG:=if s.cQ b≠0\/s.gD a p m≠0 then s else if(s.eb a p m).dJ b p m=0 then(s.eb a p m).bI b p m else s
def iR(s:TG)(n p m:Int):Option Int:=if s.qB n p m≠0 then none else(s.cU n).find? fun x=> !s.room p m x
def under(s:TG)(n o:Int):Bool:=if s.cQ n≠0 then false else decide (o∈s.cU n)
def all(s:TG):List Int:=LX s.aa 10
structure Ok(s:TG):Prop where
 pq:s.aa 0=true/\s.aA 0= -1
 vy:∃ d:Int->Nat,d 0=1/\∀ n,0<=n->n<10->s.aa n=true->1<=d n/\d n<=4/\(n≠0->0<=s.aA n/\s.aA n<10/\s.aa (s.aA n)=true/\d n=d (s.aA n)+1)
def ky{s:TG}(h:s.cQ n=0):0<=n/\n<10/\s.aa n=true:=by
 grind [cQ]
def Jk{s:TG}(h0:0<=n)(h1:n<10)(h2:s.aa n=true):s.cQ n=0:=by
 grind [cQ]
def CH(p m:Int):ZZ p m=0↔0<=p/\p<=20/\0<=m/\m<=64:=by
 grind [ZZ]
def adH{s:TG}(h:s.qB n p m=0:=by omega):(0<=n/\n<10/\s.aa n=true)/\0<=p/\p<=20/\0<=m/\m<=64:=by
 unfold qB at h;split at h
 ·omega
 ·rename_i h1;exact⟨ky og,(CH p m).1 h⟩
def Ok.WJ{s:TG}(h:s.Ok):∀ (f k:Nat),k<=f->∀ d:Int->Nat,d 0=1->(∀ n,0<=n->n<10->s.aa n=true->1<=d n/\d n<=4/\(n≠0->0<=s.aA n/\s.aA n<10/\s.aa (s.aA n)=true/\d n=d (s.aA n)+1))->
  ∀ n,0<=n->n<10->s.aa n=true->d n=k->mU s.aA n (jW s.aA f n)/\(jW s.aA f n).length=k/\∀ x∈jW s.aA f n,s.aa x=true
 | 0,k,hk,d,d0,hd,n,h0,h1,h2,h3=>by have:=(hd n h0 h1 h2).1;omega
 | f+1,k,hk,d,d0,hd,n,h0,h1,h2,h3=>by
  have h4:=hd n h0 h1 h2;unfold jW;rw[if_neg og];by_cases hn:n=0
  ·subst hn;have hp:s.aA 0= -1:=h.pq.2;have e:jW s.aA f (s.aA 0)=[]:=by rw[hp];cases f<;>simp[jW]
   grind [mU]
  ·obtain⟨p0,p1,p2,p3⟩:=h4.2.2 hn;obtain⟨q1,q2,q3⟩:=Ok.WJ h f (k-1) og d d0 hd (s.aA n) p0 p1 p2 og;grind [mU]
theorem Ok.cU{s:TG}(h:s.Ok){n:Int}(h0:0<=n)(h1:n<10)(h2:s.aa n=true):mU s.aA n (s.cU n)/\(s.cU n).length<=4/\∀ x∈s.cU n,s.aa x=true:=by
 obtain⟨d,d0,hd⟩:=h.vy;have h3:=hd n h0 h1 h2;obtain⟨q1,q2,q3⟩:=h.WJ 5 (d n) og d d0 hd n h0 h1 h2 rfl;exact⟨q1,by unfold TG.cU;omega,q3⟩
theorem WK(s:TG)(l:List Int)(x p m:Int):s.lay (l++[x]) p m= {s.lay l p m with pr:=ad (s.lay l p m).pr x ((s.lay l p m).pr x+p),pg:=ad (s.lay l p m).pg x ((s.lay l p m).pg x+m)} :=by
 have h:∀ (f:Int->Int) (q:Int),(fun y=>f y+q*((l++[x]).count y:Int))=ad (fun y=>f y+q*(l.count y:Int)) x (f x+q*(l.count x:Int)+q):=fun f q=>by
  funext y;unfold ad;by_cases hy:y=x
  ·subst hy;rw[if_pos rfl,List.count_append,List.count_singleton_self];grind
  grind
 simp_all[lay]
def aa2(s:TG)(p m:Int):s.lay [] p m=s:=by simp[lay]
theorem WL(s:TG)(l:List Int)(p m:Int):(s.lay l (-p) (-m)).lay l p m=s:=by
 unfold lay;have h:∀ (f:Int->Int) (q:Int),(fun y=>f y+ -q*(l.count y:Int)+q*(l.count y:Int))=f:=fun f q=>by
  grind
 simp_all
def cb(s:TG)(B:Int):Prop:=∀ n,0<=n->n<10-> -B<=s.pr n/\s.pr n<=B/\ -B<=s.pg n/\s.pg n<=B
theorem cb.mono{s:TG}{B B':Int}(h:s.cb B)(hb:B<=B'):s.cb B':=fun n h0 h1=>by have:=h n h0 h1;omega
def QU{c K:Int}(hc:0<=c)(hp: -K<=p/\p<=K)(hn:c<=n)(hK:0<=K:=by omega): -(K*n)<=p*c/\p*c<=K*n:=by
 have h1:p*c<=K*c:=Int.mul_le_mul_of_nonneg_right hp.2 hc;have h2: -K*c<=p*c:=Int.mul_le_mul_of_nonneg_right hp.1 hc;have h3:K*c<=K*n:=Int.mul_le_mul_of_nonneg_left hn hK;grind
theorem cb.lay{s:TG}{B:Int}(h:s.cb B){l:List Int}(hl:l.length<=5){p m:Int}(hp: -20<=p/\p<=20)(hm: -64<=m/\m<=64):(s.lay l p m).cb (B+320):=fun n h0 h1=>by
 have h2:=h n h0 h1;have hc:(l.count n:Int)<=5:=by have:=List.count_le_length (a:=n) (l:=l);omega
 have h3:=QU (p:=p) (c:=l.count n) (K:=20) og hp hc;have h4:=QU (p:=m) (c:=l.count n) (K:=64) og hm hc;show-(B+320)<=s.pr n+p*(l.count n:Int)/\s.pr n+p*(l.count n:Int)<=B+320/\ -(B+320)<=s.pg n+m*(l.count n:Int)/\s.pg n+m*(l.count n:Int)<=B+320;omega
end TG
def LZ(s:TG)(f:Int->Int)(n:Int)(h:0<=k):bU (s.gK f n) (k+1).toNat=bU (s.gK f n) k.toNat+s.gK f n k:=by
 rw[show(k+1).toNat=k.toNat+1 from og];grind [bU]
def Ev{f:Int->Int}{B:Int} :∀ (k:Nat),(∀ j:Int,0<=j->j<k-> -B<=f j/\f j<=B)-> -(B*k)<=bU f k/\bU f k<=B*k
 | 0,_=>by simp[bU]
 | k+1,h=>by
  have h1:=Ev k fun j h0 h1=>h j h0 og;grind [bU]
def Tl{s:TG}{B:Int}(h:s.cb B)(hB:0<=B/\B<=1000000000000)(hn:0<=n/\n<10)(h0:0<=k)(hk:k<=10:=by omega):(-(B*10)<=bU (s.gK s.pr n) k.toNat/\bU (s.gK s.pr n) k.toNat<=B*10)/\(-(B*10)<=bU (s.gK s.pg n) k.toNat/\bU (s.gK s.pg n) k.toNat<=B*10)/\s.cb B:=by
 have hm:B*(k.toNat:Int)<=B*10:=Int.mul_le_mul_of_nonneg_left og hB.1;have h1:=Ev (f:=s.gK s.pr n) (B:=B) k.toNat (fun j j0 j1=>by
  have:=h j j0 og
  unfold TG.gK;split<;>omega)
 have h2:=Ev (f:=s.gK s.pg n) (B:=B) k.toNat (fun j j0 j1=>by
  have:=h j j0 og
  unfold TG.gK;split<;>omega)
 grind
namespace TG
theorem Ok.lay{s:TG}(h:s.Ok)(l:List Int)(p m:Int):(s.lay l p m).Ok:=⟨h.pq,h.vy⟩
theorem Ok.eb{s:TG}(h:s.Ok){n p m:Int} :(s.eb n p m).Ok:=by
 unfold TG.eb;split
 ·exact h.lay _ _ _
 omega
theorem WM(s:TG)(a p m n:Int):(s.eb a p m).cU n=s.cU n:=by unfold TG.eb;split<;>rfl
def zN{s:TG}(h:s.gD n p m=0):(0<=n/\n<10/\s.aa n=true)/\0<=p/\p<=20/\0<=m/\m<=64:=by
 unfold gD at h;split at h
 ·omega
 ·exact adH
def wT{s:TG}(h:s.dJ n p m=0):(0<=n/\n<10/\s.aa n=true)/\0<=p/\p<=20/\0<=m/\m<=64:=by
 unfold dJ at h;split at h
 ·omega
 ·exact adH
theorem cb.eb{s:TG}{B:Int}(h:s.cb B)(hO:s.Ok)(n p m:Int):(s.eb n p m).cb (B+320):=by
 unfold TG.eb;split
 ·rename_i h0;obtain⟨⟨n0,n1,n2⟩,p0,p1,m0,m1⟩:=zN h0;have:=(hO.cU n0 n1 n2).2.1;exact h.lay og og og
 ·exact h.mono og
def cb.bI{s:TG}{B:Int}(h:s.cb B)(hO:s.Ok)(n p m:Int):(s.bI n p m).cb (B+320):=by
 unfold TG.bI;split
 ·rename_i h0;obtain⟨⟨n0,n1,n2⟩,p0,p1,m0,m1⟩:=wT h0;have:=(hO.cU n0 n1 n2).2.1;exact h.lay og og og
 ·exact h.mono og
end TG
namespace TG
def Jl(s:TG)(n:Int):Bool:=(List.range 10).any (fun k=>s.aa (k:Int)&&decide (s.aA (k:Int)=n))
def Tm(s:TG)(n:Int):s.Jl n=true↔s.below n:=by
 unfold Jl below;simp only[List.any_eq_true,List.mem_range,Bool.and_eq_true,decide_eq_true_eq];constructor
 ·grind
 ·rintro⟨k,h1,h2,h3,h4⟩;refine⟨k.toNat,og,?_⟩;grind
theorem QV{s:TG}(h0:0<=k)(h1:k<10)(h2:s.aa k=true)(h3:s.aA k=n):s.Jl n=true:=(s.Tm n).2 ⟨k,h0,h1,h2,h3⟩
def aa3{s:TG}(h:∀ j:Int,0<=j->j<10->¬(s.aa j=true/\s.aA j=n)):s.Jl n=false:=by
 grind [Jl]
def dP(s:TG)(n:Int):Int:=if s.cQ n≠0 then s.cQ n else if n=0\/0<s.pr n\/0<s.pg n\/s.Jl n=true then 5 else 0
def eh(s:TG)(n:Int):TG:=if s.dP n=0 then s.yF n else s
def Tn{s:TG}(h0:0<=k)(h1:k<10)(h2:s.aa k=false)(hn:∀ j:Int,0<=j->j<k->s.aa j=true):s.free=some k.toNat:=
 fw h0 h1 (by simp[h2]) fun j j0 j1=>by simp[hn j j0 j1]
theorem Bx{s:TG}(hn:∀ j:Int,0<=j->j<10->s.aa j=true):s.free=none:=
 fx fun j j0 j1=>by simp[hn j j0 j1]
theorem Et{s:TG}(hi:s.cQ a=0)(hd:¬(s.cU a).length=4)(h0:0<=k)(h1:k<10)(h2:s.aa k=false)(hn:∀ j:Int,0<=j->j<k->s.aa j=true):s.vx a=0/\s.kI a=k/\s.add a=s.put k a:=by
 have hf:=Tn h0 h1 h2 hn;grind [vx,kI,add]
theorem tF{s:TG}(h:s.vx a≠0):s.kI a=0/\s.add a=s:=by grind [kI,add]
theorem Ji{s:TG}(h:s.cQ a≠0):s.vx a=s.cQ a:=by unfold vx;rw[if_pos h]
theorem Es{s:TG}(h:s.cQ a=0)(hd:(s.cU a).length=4):s.vx a=7:=by grind [vx]
def WN{s:TG}(h:s.cQ a=0)(hd:¬(s.cU a).length=4)(hn:∀ j:Int,0<=j->j<10->s.aa j=true):s.vx a=4:=by
 grind [vx,Bx]
end TG
def bJ(s:TG)(i:Nat):Value:=
 if i%5=0/\i/5<10 then iI (s.aA ((i/5:Nat):Int))else
 if 1<=i/\(i-1)%5=0/\(i-1)/5<10 then iI (s.mp (((i-1)/5:Nat):Int))else
 if 2<=i/\(i-2)%5=0/\(i-2)/5<10 then iI (s.mg (((i-2)/5:Nat):Int))else
 if 3<=i/\(i-3)%5=0/\(i-3)/5<10 then iI (s.pr (((i-3)/5:Nat):Int))else
 if 4<=i/\(i-4)%5=0/\(i-4)/5<10 then iI (s.pg (((i-4)/5:Nat):Int))else
 if 50<=i/\(i-50)%1=0/\(i-50)/1<10 then .bool (s.aa (((i-50)/1:Nat):Int))else
 undef
abbrev dl(b0 o0:Nat)(s:TG):aG:=.cells b0 o0 60 (bJ s)
def gF(s:TG)(z0:Int)(q0:0<=z0/\z0<10:=by omega):(((0+0)+z0.toNat*5)+0)<60/\bJ s (((0+0)+z0.toNat*5)+0)=iI (s.aA z0):=by
 refine⟨og,?_⟩;unfold bJ;rw[if_pos og];grind
def ny(s:TG)(z0:Int)(q0:0<=z0/\z0<10):(((0+0)+z0.toNat*5)+1)<60/\bJ s (((0+0)+z0.toNat*5)+1)=iI (s.mp z0):=by
 refine⟨og,?_⟩;unfold bJ;rw[if_neg og];rw[if_pos og];grind
def uP(s:TG)(z0:Int)(q0:0<=z0/\z0<10)(v:Int):(((0+0)+z0.toNat*5)+1)<60/\ep (bJ s) (((0+0)+z0.toNat*5)+1) (iI (v))=bJ ({s with mp:=ad s.mp z0 v}):=by
 refine⟨og,?_⟩;funext j;grind [ep,ad,bJ]
def nA(s:TG)(z0:Int)(q0:0<=z0/\z0<10):(((0+0)+z0.toNat*5)+2)<60/\bJ s (((0+0)+z0.toNat*5)+2)=iI (s.mg z0):=by
 refine⟨og,?_⟩;unfold bJ;rw[if_neg og];grind
def uQ(s:TG)(z0:Int)(q0:0<=z0/\z0<10)(v:Int):(((0+0)+z0.toNat*5)+2)<60/\ep (bJ s) (((0+0)+z0.toNat*5)+2) (iI (v))=bJ ({s with mg:=ad s.mg z0 v}):=by
 refine⟨og,?_⟩;funext j;grind [ep,ad,bJ]
def fV(s:TG)(z0:Int)(q0:0<=z0/\z0<10:=by omega):(((0+0)+z0.toNat*5)+3)<60/\bJ s (((0+0)+z0.toNat*5)+3)=iI (s.pr z0):=by
 refine⟨og,?_⟩;grind [bJ]
def yG(s:TG)(z0:Int)(q0:0<=z0/\z0<10)(v:Int):(((0+0)+z0.toNat*5)+3)<60/\ep (bJ s) (((0+0)+z0.toNat*5)+3) (iI (v))=bJ ({s with pr:=ad s.pr z0 v}):=by
 refine⟨og,?_⟩;funext j;grind [ep,ad,bJ]
def fW(s:TG)(z0:Int)(q0:0<=z0/\z0<10:=by omega):(((0+0)+z0.toNat*5)+4)<60/\bJ s (((0+0)+z0.toNat*5)+4)=iI (s.pg z0):=by
 grind [bJ]
def yH(s:TG)(z0:Int)(q0:0<=z0/\z0<10)(v:Int):(((0+0)+z0.toNat*5)+4)<60/\ep (bJ s) (((0+0)+z0.toNat*5)+4) (iI (v))=bJ ({s with pg:=ad s.pg z0 v}):=by
 refine⟨og,?_⟩;funext j;grind [ep,ad,bJ]
def Df(s:TG)(z0:Int)(q0:0<=z0/\z0<10):((0+50)+z0.toNat*1)<60/\bJ s ((0+50)+z0.toNat*1)= .bool (s.aa z0):=by
 grind [bJ]
def oT(s:TG)(z0:Int)(q0:0<=z0/\z0<10)(v:Bool):((0+50)+z0.toNat*1)<60/\ep (bJ s) ((0+50)+z0.toNat*1) (.bool (v))=bJ ({s with aa:=ad s.aa z0 v}):=by
 grind [ep,ad,bJ]
def oU(s:GV)(i:Nat):Value:=
 if i=0 then iI (s.aA)else
 if i=1 then iI (s.mp)else
 if i=2 then iI (s.mg)else
 if i=3 then iI (s.pr)else
 if i=4 then iI (s.pg)else
 undef
def sr(s:GV):(0+1)<5/\oU s (0+1)=iI (s.mp):=by
 grind [oU]
def hQ(s:GV):(0+2)<5/\oU s (0+2)=iI (s.mg):=by
 grind [oU]
def jh(s:GV):(0+3)<5/\oU s (0+3)=iI (s.pr):=by
 grind [oU]
def ji(s:GV):(0+4)<5/\oU s (0+4)=iI (s.pg):=by
 grind [oU]
def Ew(s:TG)(z:Int)(h:0<=z/\z<10:=by omega):0+0+z.toNat*5+5<=60/\dB (bJ s) (0+0+z.toNat*5) 5= .agg (s.gv z).c9:=by
 refine⟨og,?_⟩;have h0:=(gF s z h).2;have h1:=(ny s z h).2;have h2:=(nA s z h).2;have h3:=(fV s z h).2;have h4:=(fW s z h).2;simp only[dB,List.range,List.range.loop,List.map_cons,List.map_nil];simp only[Nat.add_zero]at h0 ⊢;rw[h0,h1,h2,h3,h4];rfl
def yJ(s:TG):0+50+10<=60/\dB (bJ s) (0+50) 10= .agg (Sw s.aa 10):=by
 refine⟨og,?_⟩;rfl
theorem jB(C:Nat->Value):∀ (vs:List Value) (i j:Nat),j<i->cY C i vs j=C j
 | [],_,_,_=>rfl
 | v::r,i,j,h=>by
  unfold cY;rw[jB (ep C i v) r (i+1) j og];simp[ep];omega
theorem gB:∀ (vs:List Value) (C:Nat->Value) (i j:Nat) (v:Value),vs[j]? =some v->cY C i vs (i+j)=v
 | [],_,_,_,_,h=>by simp at h
 | u::r,C,i,0,v,h=>by
  have h2:u=v:=by simpa using h
  unfold cY;rw[jB _ _ _ _ og,<-h2];simp[ep]
 | u::r,C,i,j+1,v,h=>by
  unfold cY;have:=gB r (ep C i u) (i+1) j v (by simpa using h);rw[show i+1+j=i+(j+1)from og]at this;exact this
theorem jC:∀ (vs:List Value) (C:Nat->Value) (i j:Nat),i+vs.length<=j->cY C i vs j=C j
 | [],_,_,_,_=>rfl
 | v::r,C,i,j,h=>by
  simp only[List.length_cons]at h;unfold cY;rw[jC r (ep C i v) (i+1) j og];simp[ep];omega
def Bz(s:TG)(z:Int)(h:0<=z/\z<10)(g:GV):0+0+z.toNat*5+5<=60/\cY (bJ s) (0+0+z.toNat*5) g.c9.toList=bJ (s.GH z g):=by
 refine⟨og,?_⟩;funext i;have hl:g.c9.toList.length=5:=rfl;by_cases a1:i<0+0+z.toNat*5
 ·rw[jB _ _ _ _ a1];unfold bJ;simp only[TG.GH];grind [ae]
 ·by_cases a2:i<0+0+z.toNat*5+5
  ·have h0:=(gF (s.GH z g) z h).2;have h1:=(ny (s.GH z g) z h).2;have h2:=(nA (s.GH z g) z h).2;have h3:=(fV (s.GH z g) z h).2;have h4:=(fW (s.GH z g) z h).2;simp only[TG.GH,ah]at h0 h1 h2 h3 h4;obtain⟨j,rfl⟩:∃ j,i=0+0+z.toNat*5+j:=⟨i-(0+0+z.toNat*5),og⟩;have hj:j=0\/j=1\/j=2\/j=3\/j=4:=og;rcases hj with rfl | rfl | rfl | rfl | rfl
   ·exact(gB g.c9.toList _ _ 0 _ rfl).trans h0.symm
   ·exact(gB g.c9.toList _ _ 1 _ rfl).trans h1.symm
   ·exact(gB g.c9.toList _ _ 2 _ rfl).trans h2.symm
   ·exact(gB g.c9.toList _ _ 3 _ rfl).trans h3.symm
   ·exact(gB g.c9.toList _ _ 4 _ rfl).trans h4.symm
  ·rw[jC _ _ _ _ og];unfold bJ;simp only[TG.GH];grind [ae]
def qe(g:GV):∀ i,i<5->cellsOf g.c9 i=oU g i:=fun i h=>match i,h with
 | 0,_=>rfl
 | 1,_=>rfl
 | 2,_=>rfl
 | 3,_=>rfl
 | 4,_=>rfl
 | k+5,h=>absurd h og
def Jm(g:GV):0+5<=5/\dB (oU g) 0 5= .agg g.c9:=⟨og,rfl⟩
def tG(g g':GV):0+5<=5/\cY (oU g) 0 g'.c9.toList=oU g':=⟨og,by
 funext i
 match i with
 | 0=>rfl
 | 1=>rfl
 | 2=>rfl
 | 3=>rfl
 | 4=>rfl
 | k+5=>
  rw[jC _ _ _ _ (by show 0+5<=k+5;omega)]
  have e1:oU g (k+5)=undef:=by simp[oU]
  have e2:oU g' (k+5)=undef:=by simp[oU]
  rw[e1,e2]⟩
def GV.zero:GV:=⟨0,0,0,0,0⟩
def TG.dR:TG:=⟨fun _=>false,fun _=>0,fun _=>0,fun _=>0,fun _=>0,fun _=>0⟩
def TG.aiw:TG:= {TG.dR with aa:=ad (fun _=>false) 0 true}
def TG.cR:TG:=TG.aiw.GH 0 ⟨-1,-1,-1,0,0⟩
set_option maxRecDepth 20000 in def aix:∀ i,i<60->cellsOf #[iI 0,iI 0,iI 0,iI 0,iI 0,iI 0,iI 0,iI 0,iI 0,iI 0,iI 0,iI 0,iI 0,iI 0,iI 0,iI 0,iI 0,iI 0,iI 0,iI 0,iI 0,iI 0,iI 0,iI 0,iI 0,iI 0,iI 0,iI 0,iI 0,iI 0,iI 0,iI 0,iI 0,iI 0,iI 0,iI 0,iI 0,iI 0,iI 0,iI 0,iI 0,iI 0,iI 0,iI 0,iI 0,iI 0,iI 0,iI 0,iI 0,iI 0,.bool false,.bool false,.bool false,.bool false,.bool false,.bool false,.bool false,.bool false,.bool false,.bool false] i=bJ TG.dR i:=fun i hi=>match i,hi with
 | 0,_=>rfl
 | 1,_=>rfl
 | 2,_=>rfl
 | 3,_=>rfl
 | 4,_=>rfl
 | 5,_=>rfl
 | 6,_=>rfl
 | 7,_=>rfl
 | 8,_=>rfl
 | 9,_=>rfl
 | 10,_=>rfl
 | 11,_=>rfl
 | 12,_=>rfl
 | 13,_=>rfl
 | 14,_=>rfl
 | 15,_=>rfl
 | 16,_=>rfl
 | 17,_=>rfl
 | 18,_=>rfl
 | 19,_=>rfl
 | 20,_=>rfl
 | 21,_=>rfl
 | 22,_=>rfl
 | 23,_=>rfl
 | 24,_=>rfl
 | 25,_=>rfl
 | 26,_=>rfl
 | 27,_=>rfl
 | 28,_=>rfl
 | 29,_=>rfl
 | 30,_=>rfl
 | 31,_=>rfl
 | 32,_=>rfl
 | 33,_=>rfl
 | 34,_=>rfl
 | 35,_=>rfl
 | 36,_=>rfl
 | 37,_=>rfl
 | 38,_=>rfl
 | 39,_=>rfl
 | 40,_=>rfl
 | 41,_=>rfl
 | 42,_=>rfl
 | 43,_=>rfl
 | 44,_=>rfl
 | 45,_=>rfl
 | 46,_=>rfl
 | 47,_=>rfl
 | 48,_=>rfl
 | 49,_=>rfl
 | 50,_=>rfl
 | 51,_=>rfl
 | 52,_=>rfl
 | 53,_=>rfl
 | 54,_=>rfl
 | 55,_=>rfl
 | 56,_=>rfl
 | 57,_=>rfl
 | 58,_=>rfl
 | 59,_=>rfl
 | k+60,h=>absurd h og
end Go.X.Gr

namespace Go.X.Vm
open Go Go.X
variable{a i k o v z:Int}{g:Int->Bool}{m t x:Nat}
def nx(f:Int->Bool):Nat->Nat
 | 0=>0
 | n+1=>nx f n|||(if f n then 2^n else 0)
theorem jf(f:Int->Bool)(n j:Nat):(nx f n).testBit j=(decide (j<n)&&f j):=by
 induction n with
 | zero=>simp[nx]
 | succ n ih=>
  simp only[nx,Nat.testBit_or,ih];by_cases h:j=n
  ·grind
  ·grind
def WO(f:Int->Bool)(n:Nat):nx f n<2^n:=by
 apply Nat.lt_pow_two_of_testBit;grind [jf]
theorem qN{f:Int->Bool}{n:Nat}(h:∀ i:Int,0<=i->i<n->f i=g i):nx f n=nx g n:=by
 apply Nat.eq_of_testBit_eq;grind [jf]
theorem HB{f:Int->Bool}{n a:Nat}(ha:a<n)(hg:g a=true)(h:∀ i:Int,0<=i->i<n->¬i=a->g i=f i):nx f n|||2^a=nx g n:=by
 apply Nat.eq_of_testBit_eq;grind [jf]
theorem CI{f:Int->Bool}{n a:Nat}(ha:a<n)(hg:g a=false)(h:∀ i:Int,0<=i->i<n->¬i=a->g i=f i):mN (nx f n) (2^a)=nx g n:=by
 apply Nat.eq_of_testBit_eq;grind [jf,mN]
structure BB where
 bK:Int->Int
 tk:Int->Bool
def p2(k:Int):Int:=((2^k.toNat:Nat):Int)
def BB.at_(b:BB)(k i:Int):Bool:=decide (0<=k)&&decide (b.bK i=k+1)&& !b.tk i
def BB.gP(b:BB)(k:Int):Nat:=nx (b.at_ k) 64
structure PB where
 b:BB
 u:Int->Int
def BB.eK(b:BB):Int->Int:=fun i=>if b.tk i then b.bK i else 0
def BB.fu(b:BB):PB:=⟨b,b.eK⟩
def BB.iD(b:BB)(a:Int):BB:= {b with tk:=ad b.tk a true}
def BB.bare(b:BB)(a:Int):BB:= {b with tk:=ad b.tk a false}
def BB.split(b:BB)(a:Int):BB:= {b with bK:=ad (ad b.bK a (b.bK a-1)) (a+p2 (b.bK a-2)) (b.bK a-1)}
def BB.iE:Nat->BB->Int->BB
 | 0,b,_=>b
 | n+1,b,a=>BB.iE n (b.split a) a
def nB(a k:Int):Int:=if(a/p2 k)%2=1 then a-p2 k else a+p2 k
def BB.cV(b:BB)(a:Int):Int:=nB a (b.bK a-1)
def BB.ij(b:BB)(a:Int):BB:= {b with bK:=ad (ad b.bK (max a (b.cV a)) 0) (min a (b.cV a)) (b.bK a+1)}
def BB.gj(b:BB)(a:Int):Prop:=b.bK a<7/\b.bK (b.cV a)=b.bK a/\b.tk (b.cV a)=false
instance(b:BB)(a:Int):Decidable (b.gj a):=by unfold BB.gj;infer_instance
def BB.kV:Nat->BB->Int->BB
 | 0,b,_=>b
 | n+1,b,a=>if b.gj a then BB.kV n (b.ij a) (min a (b.cV a))else b
def BB.low(b:BB)(k:Int):Option Nat:=dW (b.at_ k) 64
def BB.pick(b:BB)(o:Int):Option (Nat×Nat):=match dW (fun k=>decide (o<=k)&&(b.low k).isSome) 7 with
 | none=>none
 | some k=>(b.low k).map fun i=>(k,i)
def BB.take(b:BB)(o:Int):Int×Int×BB:=if o<0\/6<o then(0,1,b)else match b.pick o with
 | none=>(0,4,b)
 | some (k,i)=>(i,0,BB.iE ((k:Int)-o).toNat (b.iD i) i)
def BB.is(b:BB)(a:Int):Int:=if a<0\/63<a then 1 else if b.tk a then 0 else 2
def BB.qf(b:BB)(a:Int):Int×BB:=if b.is a≠0 then(b.is a,b)else(0,BB.kV (7-b.bK a).toNat (b.bare a) a)
def fF(f:Int->Bool):Nat->List Int
 | 0=>[]
 | k+1=>fF f k++(if f k then [(k:Int)]else [])
def mw(f:Int->Bool):∀ k,(fF f k).length<=k
 | 0=>by simp[fF]
 | k+1=>by
  have:=mw f k;grind [fF]
def Bw(f:Int->Bool)(h:0<=k):(f k=true->fF f (k+1).toNat=fF f k.toNat++[k])/\(f k=false->fF f (k+1).toNat=fF f k.toNat):=by
 have e:((k.toNat:Nat):Int)=k:=og;rw[show(k+1).toNat=k.toNat+1 from og];grind [fF]
def bU(f:Int->Int):Nat->Int
 | 0=>0
 | n+1=>bU f n+f n
def BB.room(b:BB)(i:Int):Int:=if 0<b.bK i/\b.tk i=false then p2 (b.bK i-1)else 0
def BB.left(b:BB):Int:=bU b.room 64
def BB.cR:BB:=⟨ad (fun _=>0) 0 7,fun _=>false⟩
structure BB.Inv (b:BB):Prop where
 jV:∀ i,0<=b.bK i/\b.bK i<=7
 out:∀ i,i<0\/64<=i->b.bK i=0
 tk:∀ i,b.tk i=true->0<b.bK i
 al:∀ i,0<b.bK i->i%p2 (b.bK i-1)=0
 dis:∀ i j,0<b.bK i->i<j->j<i+p2 (b.bK i-1)->b.bK j=0
def rn(k:Int):0<p2 k:=by
 have:=Nat.two_pow_pos k.toNat;unfold p2;omega
theorem aff:p2 0=1:=rfl
theorem aa4:p2 1=2:=rfl
theorem To:p2 2=4:=rfl
theorem aa5:p2 3=8:=rfl
theorem Tp:p2 4=16:=rfl
theorem aa6:p2 5=32:=rfl
theorem aa7:p2 6=64:=rfl
def tH(h:0<=k:=by omega):p2 (k+1)=2*p2 k:=by
 unfold p2;rw[show(k+1).toNat=k.toNat+1 from og,Nat.pow_succ];omega
theorem HC(h:0<v)(h7:v<=7):v=1\/v=2\/v=3\/v=4\/v=5\/v=6\/v=7:=og
def aa8(h1:1<v)(h7:v<=7)(h:i%p2 (v-1)=0):i%p2 (v-2)=0/\(i+p2 (v-2))%p2 (v-2)=0:=by
 rcases HC og h7 with rfl | rfl | rfl | rfl | rfl | rfl | rfl;all_goals grind [p2]
def afg(h1:0<v)(h7:v<=7)(h:i%p2 (v-1)=0)(hi:0<=i/\i<64):i+p2 (v-1)<=64:=by
 grind [aa4,To,aa5,Tp,aa6,p2]
def tJ(h1:0<v)(h7:v<7)(h:a%p2 (v-1)=0)(hi:0<=a/\a<64):∃ l,0<=l/\l+p2 v<=64/\l%p2 v=0/\((a=l/\nB a (v-1)=l+p2 (v-1))\/(a=l+p2 (v-1)/\nB a (v-1)=l)):=by
 have e:=tH (k:=v-1);rw[show v-1+1=v from og]at e;unfold nB;by_cases c:(a/p2 (v-1))%2=1
 ·rw[if_pos c];refine⟨a-p2 (v-1),?_,?_,?_,.inr ⟨og,rfl⟩⟩;all_goals grind [HC,p2]
 ·rw[if_neg c];refine⟨a,?_,?_,?_,.inl ⟨rfl,rfl⟩⟩;all_goals grind [To,Tp,p2]
def BB.Inv.rs{b:BB}(h:b.Inv)(hi:0<b.bK i:=by omega):0<=i/\i<64:=by
 grind [Inv]
def BB.Inv.fit{b:BB}(h:b.Inv)(hi:0<b.bK i):i+p2 (b.bK i-1)<=64:=afg hi (h.jV i).2 (h.al i hi) (h.rs hi)
theorem BB.Inv.cR:BB.cR.Inv where
 jV:=fun i=>by
  show 0<=(if i=0 then(7:Int)else 0)/\(if i=0 then(7:Int)else 0)<=7
  omega
 out:=fun i hi=>by show ad (fun _=>0) 0 7 i=0;rw[ae _ _ og]
 tk:=fun i hi=>by cases hi
 al:=fun i hi=>by
  have:i=0:=by
   apply Classical.byContradiction;intro c
   simp_all[BB.cR,ae]
  simp_all
 dis:=fun i j hi h1 h2=>by
  have:i=0:=by
   apply Classical.byContradiction;intro c
   simp_all[BB.cR,ae]
  subst this
  show ad (fun _=>(0:Int)) 0 7 j=0
  grind [ae]
theorem BB.Inv.iD{b:BB}(h:b.Inv){a:Int}(ha:0<b.bK a):(b.iD a).Inv:=
 ⟨h.jV,h.out,fun i hi=>by
  have:ad b.tk a true i=true:=hi
  by_cases c:i=a
  ·rw[c];exact ha
  ·rw[ae _ _ c]at this;exact h.tk i this,h.al,h.dis⟩
theorem BB.Inv.bare{b:BB}(h:b.Inv)(a:Int):(b.bare a).Inv:=
 ⟨h.jV,h.out,fun i hi=>by
  have:ad b.tk a false i=true:=hi
  by_cases c:i=a
  ·rw[c,ah]at this;cases this
  ·rw[ae _ _ c]at this;exact h.tk i this,h.al,h.dis⟩
def BB.Inv.apart{b:BB}(h:b.Inv){j:Int}(hi:0<b.bK i)(hj:0<b.bK j)(gJ:¬i=j){x:Int}(h1:i<=x/\x<i+p2 (b.bK i-1))(h2:j<=x/\x<j+p2 (b.bK j-1)):False:=by
 by_cases c:i<j
 ·grind [Inv]
 ·have:=h.dis j i hj og og;omega
theorem BB.Inv.split{b:BB}(h:b.Inv){a:Int}(ha:1<b.bK a):(b.split a).Inv/\a+p2 (b.bK a-2)<64/\b.bK (a+p2 (b.bK a-2))=0/\(b.split a).bK a=b.bK a-1:=by
 have hal:=h.al a og;have hrn:=h.jV a;have xH:=h.rs (i:=a);have ahW:=h.fit (i:=a) og;have e2:=tH (k:=b.bK a-2);rw[show b.bK a-2+1=b.bK a-1 from og]at e2;have hp:=rn (b.bK a-2);have hz:=h.dis a (a+p2 (b.bK a-2)) og og og;have gJ:¬a=a+p2 (b.bK a-2):=og;have aoF:=aa8 ha hrn.2 hal;have o1:∀ i,(b.split a).bK i=if i=a+p2 (b.bK a-2)then b.bK a-1 else if i=a then b.bK a-1 else b.bK i:=fun i=>rfl
 have oa:(b.split a).bK a=b.bK a-1:=by rw[o1,if_neg gJ,if_pos rfl]
 refine⟨⟨fun i=> ?_,fun i hi=> ?_,fun i hi=> ?_,fun i hi=> ?_,fun i j hi h1 h2=> ?_⟩,og,hz,oa⟩
 ·rw[o1];have:=h.jV i;split;all_goals omega
 ·grind [Inv]
 ·grind [BB.split,Inv]
 ·rw[o1]at hi ⊢;by_cases c1:i=a+p2 (b.bK a-2);all_goals grind [Inv]
 ·rw[o1]at hi h2;by_cases c1:i=a+p2 (b.bK a-2)
  ·rw[if_pos c1,show b.bK a-1-1=b.bK a-2 from og]at h2;rw[o1,if_neg og,if_neg og];grind [BB.Inv.dis,Inv]
  ·rw[if_neg c1]at hi h2;by_cases c2:i=a
   ·rw[if_pos c2,show b.bK a-1-1=b.bK a-2 from og]at h2;rw[o1,if_neg og,if_neg og];grind [Inv]
   ·rw[if_neg c2]at hi h2;have n1:¬j=a+p2 (b.bK a-2):=fun e=>h.apart (i:=i) (j:=a) hi og c2 (x:=j) ⟨og,h2⟩ ⟨og,og⟩;have n2:¬j=a:=fun e=>h.apart (i:=i) (j:=a) hi og c2 (x:=j) ⟨og,h2⟩ ⟨og,og⟩;grind [Inv]
theorem BB.Inv.iE:∀ (n:Nat) {b:BB} {a:Int},b.Inv->(n:Int)<b.bK a->(BB.iE n b a).Inv
 | 0,_,_,h,_=>h
 | n+1,b,a,h,ha=>by
  obtain⟨h1,_,_,h4⟩:=h.split (a:=a) og;exact BB.Inv.iE n h1 (by rw[h4];omega)
theorem BB.Inv.ij{b:BB}(h:b.Inv){a:Int}(ha:0<b.bK a)(hta:b.tk a=false)(hj:b.gj a):(b.ij a).Inv/\0<=b.cV a/\b.cV a<64/\¬b.cV a=a/\(b.ij a).bK (min a (b.cV a))=b.bK a+1/\(b.ij a).tk (min a (b.cV a))=false:=by
 obtain⟨j1,j2,j3⟩:=hj;have hal:=h.al a ha;have xH:=h.rs ha;obtain⟨l,l1,l2,l3,l4⟩:=tJ ha j1 hal xH;rw[show nB a (b.bK a-1)=b.cV a from rfl]at l4;have e2:=tH (k:=b.bK a-1);rw[show b.bK a-1+1=b.bK a from og]at e2;have hp:=rn (b.bK a-1);have Ll:min a (b.cV a)=l:=og;have uK:max a (b.cV a)=l+p2 (b.bK a-1):=og;have ol:b.bK l=b.bK a:=by
  grind
 have oh:b.bK (l+p2 (b.bK a-1))=b.bK a:=by
  grind
 have tl:b.tk l=false:=by
  grind
 have th:b.tk (l+p2 (b.bK a-1))=false:=by
  grind
 have o1:∀ i,(b.ij a).bK i=if i=l then b.bK a+1 else if i=l+p2 (b.bK a-1)then 0 else b.bK i:=fun i=>by
  simp_all[ad,BB.ij]
 have t1:(b.ij a).tk=b.tk:=rfl;refine⟨⟨fun i=> ?_,fun i hi=> ?_,fun i hi=> ?_,fun i hi=> ?_,fun i j hi h1 h2=> ?_⟩,og,og,og,by rw[Ll,o1,if_pos rfl],by rw[Ll,t1,tl]⟩
 ·rw[o1];have:=h.jV i;split;all_goals omega
 ·rw[o1,if_neg og,if_neg og];exact h.out i hi
 ·rw[t1]at hi;rw[o1];split;all_goals grind [Inv]
 ·rw[o1]at hi ⊢;by_cases c1:i=l
  ·simp_all
  ·rw[if_neg c1]at hi ⊢;by_cases c2:i=l+p2 (b.bK a-1);all_goals grind [Inv]
 ·rw[o1]at hi h2;by_cases c1:i=l
  ·rw[if_pos c1,show b.bK a+1-1=b.bK a from og]at h2;rw[o1,if_neg og];by_cases c2:j=l+p2 (b.bK a-1)
   ·omega
   ·rw[if_neg c2];by_cases c3:j<l+p2 (b.bK a-1);all_goals grind [BB.Inv.dis]
  ·rw[if_neg c1]at hi h2;by_cases c2:i=l+p2 (b.bK a-1)
   ·omega
   ·rw[if_neg c2]at hi h2;have n1:¬j=l:=fun e=>h.apart (i:=i) (j:=l) hi og c1 (x:=j) ⟨og,h2⟩ ⟨og,by rw[ol];omega⟩;rw[o1,if_neg n1];by_cases c3:j=l+p2 (b.bK a-1);all_goals grind [Inv]
theorem BB.Inv.kV:∀ (n:Nat) {b:BB} {a:Int},b.Inv->0<b.bK a->b.tk a=false->(BB.kV n b a).Inv
 | 0,_,_,h,_,_=>h
 | n+1,b,a,h,ha,ht=>by
  rw[BB.kV];by_cases c:b.gj a
  ·rw[if_pos c];obtain⟨h1,_,_,_,h5,h6⟩:=h.ij ha ht c;exact BB.Inv.kV n h1 (by rw[h5];omega) h6
  simp_all
def CJ{p:Int->Bool}{k:Nat}(h:dW p m=some k):k<m/\p k=true/\∀ j:Int,0<=j->j<k->p j=false:=by
 unfold dW at h;have h1:=List.find?_some h;have h2:=List.mem_range.1 (List.mem_of_find?_eq_some h);refine⟨h2,h1,fun j j0 jk=> ?_⟩;cases hp:p j with
 | false=>rfl
 | true=>
  exfalso;obtain⟨xs,ys,hs,hn⟩:=(List.find?_eq_some_iff_append.1 h).2;have hlen:xs.length=k:=by
   have h3:(List.range m)[xs.length]? =some k:=by rw[hs];simp
   grind
  have hj:j.toNat∈xs:=by
   have h3:xs=List.range k:=by
    have h4:xs=(List.range m).take xs.length:=by rw[hs];simp
    grind
   simp_all
  have:=hn j.toNat hj;rw[show((j.toNat:Nat):Int)=j from og,hp]at this;simp at this
def ss{p:Int->Bool}(h:dW p m=none):∀ j:Int,0<=j->j<m->p j=false:=fun j h0 h1=>by
 unfold dW at h;have:=List.find?_eq_none.1 h j.toNat (List.mem_range.2 og);grind
theorem lx{b:BB}(hk:0<=k):b.at_ k i=true↔b.bK i=k+1/\b.tk i=false:=by
 grind [BB.at_]
def pt{b:BB}{k i:Nat}(h:b.pick o=some (k,i)):o<=k/\k<7/\i<64/\b.bK i=k+1/\b.tk i=false:=by
 grind [BB.pick,dW,BB.low,Option.map_eq_some_iff,lx]
theorem BB.Inv.take{b:BB}(h:b.Inv)(o:Int):(b.take o).2.2.Inv:=by
 unfold BB.take;split
 ·omega
 ·rename_i ho;split
  ·omega
  ·rename_i k i hp;obtain⟨h1,h2,h3,h4,h5⟩:=pt hp;have hh:=h.iD (a:=i) og;exact BB.Inv.iE _ hh (by show _<b.bK i;omega)
def tL{b:BB}(h:b.is a=0):0<=a/\a<64/\b.tk a=true:=by
 grind [BB.is]
theorem BB.Inv.qf{b:BB}(h:b.Inv)(a:Int):(b.qf a).2.Inv:=by
 unfold BB.qf;by_cases c:b.is a=0
 ·rw[if_neg (by simp[c])];obtain⟨h1,h2,h3⟩:=tL c;exact BB.Inv.kV _ (h.bare a) (h.tk a h3) (ah _ _ _)
 simp_all
def kW(b:BB)(k:Int):b.gP k<18446744073709551616:=WO _ 64
theorem BB.vz(b:BB)(k:Int)(j:Nat):(b.gP k).testBit j=(decide (j<64)&&b.at_ k j):=jf _ _ _
theorem Jn{b:BB}(h:b.gP k=0):∀ i:Int,0<=i->i<64->b.at_ k i=false:=fun i h0 h1=>by
 have:=b.vz k i.toNat;grind
theorem CK{b:BB}(h:b.gP k=0):b.low k=none:=by grind [fx,Jn,BB.low]
def CL{b:BB}(ht:(b.gP k).testBit t=true)(hl:∀ j,j<t->(b.gP k).testBit j=false):b.low k=some t/\t<64/\b.at_ k t=true:=by
 rw[BB.vz]at ht;simp only[Bool.and_eq_true,decide_eq_true_eq]at ht;refine⟨?_,ht.1,ht.2⟩;have:=fw (p:=b.at_ k) (m:=64) (k:=(t:Int)) og og ht.2 (fun j h0 h1=>by
  have h2:=hl j.toNat og
  rw[BB.vz,show((j.toNat:Nat):Int)=j from og]at h2
  have h3:j.toNat<64:=og
  simpa [h3]using h2)
 unfold BB.low;simpa using this
def Jo{b:BB}(ho:0<=o)(hk:o<=k/\k<7)(hz:∀ j:Int,o<=j->j<k->b.gP j=0)(ht:(b.gP k).testBit t=true)(hl:∀ j,j<t->(b.gP k).testBit j=false):b.pick o=some (k.toNat,t):=by
 obtain⟨l1,_,_⟩:=CL ht hl;grind [BB.pick,fw,CK]
theorem Jp{b:BB}(hz:∀ j:Int,o<=j->j<7->b.gP j=0):b.pick o=none:=by
 grind [BB.pick,fx,CK]
theorem ru{b:BB}(h:o<0\/6<o):b.take o=(0,1,b):=by unfold BB.take;rw[if_pos h]
theorem zO{b:BB}(h:¬(o<0\/6<o))(hz:b.pick o=none):b.take o=(0,4,b):=by grind [BB.take]
theorem BB.lV{b:BB}{k i:Nat}(h:¬(o<0\/6<o))(hz:b.pick o=some (k,i)):b.take o=((i:Int),0,BB.iE ((k:Int)-o).toNat (b.iD i) i):=by grind [BB.take]
theorem WQ{b:BB}{m:Int}(h:¬(b.bK i=m+1/\b.tk i=false)):b.at_ m i=false:=by
 grind [BB.at_]
theorem yK{b:BB}{m:Int}(h:¬i=a):(b.iD a).at_ m i=b.at_ m i:=by
 show(decide (0<=m)&&decide (b.bK i=m+1)&& !ad b.tk a true i)=(decide (0<=m)&&decide (b.bK i=m+1)&& !b.tk i);grind [ae]
theorem uA(b:BB)(m a:Int):(b.iD a).at_ m a=false:=WQ (by
 rintro⟨_,q⟩
 have:ad b.tk a true a=false:=q
 rw[ah]at this;cases this)
def Jq{b:BB}(hk:0<=k)(ht:t<64)(h1:b.bK t=k+1)(h2:b.tk t=false):mN (b.gP k) (2^t)=(b.iD t).gP k/\∀ m,0<=m->m<7->¬m=k->(b.iD t).gP m=b.gP m:=by
 grind [CI,qN,uA,yK,WQ,BB.gP]
def BB.Inv.Ou{b:BB}(h:b.Inv)(ha:1<b.bK a)(ht:b.tk a=true):b.gP (b.bK a-2)|||2^(a+p2 (b.bK a-2)).toNat=(b.split a).gP (b.bK a-2)/\∀ m,0<=m->m<7->¬m=b.bK a-2->(b.split a).gP m=b.gP m:=by
 obtain⟨_,s2,s3,_⟩:=h.split ha;have xH:=h.rs (i:=a);have hp:=rn (b.bK a-2);have gJ:¬a=a+p2 (b.bK a-2):=og;have o1:∀ i,(b.split a).bK i=if i=a+p2 (b.bK a-2)then b.bK a-1 else if i=a then b.bK a-1 else b.bK i:=fun i=>rfl
 have t1:∀ i,(b.split a).tk i=b.tk i:=fun _=>rfl;have t2:b.tk (a+p2 (b.bK a-2))=false:=by
  grind [Inv]
 refine⟨HB og ?_ fun i _ _ hi=> ?_,fun m m0 _ hm=>qN fun i _ _=> ?_⟩
 ·rw[show(((a+p2 (b.bK a-2)).toNat:Nat):Int)=a+p2 (b.bK a-2)from og];grind [lx]
 ·have SD:¬i=a+p2 (b.bK a-2):=og;unfold BB.at_;grind
 ·unfold BB.at_;grind
theorem zP:∀ (n:Nat) (b:BB) (a:Int),(BB.iE n b a).tk=b.tk
 | 0,_,_=>rfl
 | n+1,b,a=>by rw[BB.iE,zP n];rfl
def BB.Inv.yL:∀ (n:Nat) {b:BB} {a:Int},b.Inv->(n:Int)<b.bK a->(BB.iE n b a).bK a=b.bK a-n/\∀ i,¬i=a->0<b.bK i->(BB.iE n b a).bK i=b.bK i
 | 0,_,_,h,_=>⟨by simp[BB.iE],fun _ _ _=>rfl⟩
 | n+1,b,a,h,ha=>by
  obtain⟨h1,h2,h3,h4⟩:=h.split (a:=a) og;obtain⟨i1,i2⟩:=BB.Inv.yL n h1 (by rw[h4];omega);rw[BB.iE];refine⟨by rw[i1,h4];omega,fun i hi h0=> ?_⟩;have e:(b.split a).bK i=b.bK i:=by
   show ad (ad b.bK a (b.bK a-1)) (a+p2 (b.bK a-2)) (b.bK a-1) i=b.bK i;grind [ae]
  simp_all
def BB.Inv.HD{b:BB}(h:b.Inv)(ho:¬(o<0\/6<o)){k i:Nat}(hp:b.pick o=some (k,i)):(⟨BB.iE ((k:Int)-o).toNat (b.iD i) i,ad b.eK i (o+1)⟩:PB)=(b.take o).2.2.fu:=by
 obtain⟨h1,h2,h3,h4,h5⟩:=pt hp;have hh:=h.iD (a:=i) og;obtain⟨s1,s2⟩:=hh.yL ((k:Int)-o).toNat (a:=i) (by show _<b.bK i;omega);rw[BB.lV ho hp];unfold BB.fu;congr 1;funext j;unfold BB.eK;rw[zP];show ad b.eK i (o+1) j=if ad b.tk i true j=true then _ else 0
 by_cases c:j=i
 ·subst c;rw[ah,ah,if_pos rfl,s1];show o+1=b.bK i-_;omega
 ·rw[ae _ _ c,ae _ _ c];unfold BB.eK;by_cases q:b.tk j=true
  ·rw[if_pos q,if_pos q,s2 j c (h.tk j q)];rfl
  simp_all
theorem WR:∀ a:Nat,a<64->∀ k:Nat,k<6->((a^^^2^k:Nat):Int)=(if((a/2^k:Nat):Int)%2=1 then(a:Int)-(2^k:Nat)else(a:Int)+(2^k:Nat))/\((mN a (2^k):Nat):Int)=min (a:Int) (if((a/2^k:Nat):Int)%2=1 then(a:Int)-(2^k:Nat)else(a:Int)+(2^k:Nat)):=dk
def WS(ha:0<=a/\a<64)(hk:0<=k/\k<6):((a.toNat^^^2^k.toNat:Nat):Int)=nB a k/\((mN a.toNat (2^k.toNat):Nat):Int)=min a (nB a k):=by
 grind [WR,p2,nB]
def BB.Inv.BA{b:BB}(h:b.Inv)(ha:0<b.bK a)(h7:b.bK a<7):0<=b.cV a/\b.cV a<64/\¬b.cV a=a:=by
 obtain⟨l,l1,l2,l3,l4⟩:=tJ ha h7 (h.al a ha) (h.rs ha);rw[show nB a (b.bK a-1)=b.cV a from rfl]at l4;have e2:=tH (k:=b.bK a-1);rw[show b.bK a-1+1=b.bK a from og]at e2;have hp:=rn (b.bK a-1);omega
def BB.Inv.Tq{b:BB}(h:b.Inv)(ha:0<b.bK a)(h7:b.bK a<7):((b.iD a).gP (b.bK a-1)).testBit (b.cV a).toNat=decide (b.gj a):=by
 obtain⟨r1,r2,r3⟩:=h.BA ha h7;grind [BB.vz,yK,lx,BB.gj]
def BB.Inv.Ts{b:BB}(h:b.Inv)(ha:0<b.bK a)(hj:b.gj a):mN ((b.iD a).gP (b.bK a-1)) (2^(b.cV a).toNat)=((b.ij a).iD (min a (b.cV a))).gP (b.bK a-1)/\∀ m,0<=m->m<7->¬m=b.bK a-1->((b.ij a).iD (min a (b.cV a))).gP m=(b.iD a).gP m:=by
 obtain⟨r1,r2,r3⟩:=h.BA ha hj.1;have iZ:∀ m i,0<=m->((b.ij a).iD (min a (b.cV a))).at_ m i=(!decide (i=b.cV a)&&(b.iD a).at_ m i):=fun m i m0=>by
  rw[Bool.eq_iff_iff,Bool.and_eq_true,lx m0,lx m0];have o1:((b.ij a).iD (min a (b.cV a))).bK i=ad (ad b.bK (max a (b.cV a)) 0) (min a (b.cV a)) (b.bK a+1) i:=rfl;have t1:((b.ij a).iD (min a (b.cV a))).tk i=ad b.tk (min a (b.cV a)) true i:=rfl;have o2:(b.iD a).bK i=b.bK i:=rfl;have t2:(b.iD a).tk i=ad b.tk a true i:=rfl;grind [ah,ae]
 refine⟨CI og ?_ fun i _ _ hi=> ?_,fun m m0 _ hm=>qN fun i _ _=> ?_⟩;all_goals grind [WQ,BB.iD,BB.gj]
def zQ{b:BB}(ha:0<b.bK a)(hr:0<=a/\a<64)(ht:b.tk a=false):(b.iD a).gP (b.bK a-1)|||2^a.toNat=b.gP (b.bK a-1)/\∀ m,0<=m->m<7->¬m=b.bK a-1->b.gP m=(b.iD a).gP m:=by
 grind [HB,qN,lx,yK,uA,BB.gP]
theorem BB.Ex:∀ (n:Nat) (b:BB) (a:Int),(BB.kV n b a).tk=b.tk
 | 0,_,_=>rfl
 | n+1,b,a=>by
  rw[BB.kV];split
  ·rw[BB.Ex n];rfl
  ·rfl
theorem BB.Inv.HE:∀ (n:Nat) {b:BB} {a:Int},b.Inv->0<b.bK a->b.tk a=false->∀ i,b.tk i=true->(BB.kV n b a).bK i=b.bK i
 | 0,_,_,_,_,_,_,_=>rfl
 | n+1,b,a,h,ha,ht,i,hi=>by
  rw[BB.kV];by_cases c:b.gj a
  ·rw[if_pos c];obtain⟨h1,_,_,_,h5,h6⟩:=h.ij ha ht c;rw[BB.Inv.HE n h1 (by rw[h5];omega) h6 i hi];show ad (ad b.bK (max a (b.cV a)) 0) (min a (b.cV a)) (b.bK a+1) i=b.bK i;have n1:¬i=a:=by rintro rfl;rw[ht]at hi;cases hi
   have n2:¬i=b.cV a:=by rintro rfl;rw[c.2.2]at hi;cases hi
   grind [ae]
  simp_all
def Jr{b:BB}(ht:b.tk a=true):(b.bare a).iD a=b:=by
 unfold BB.bare BB.iD;simp only[];have:ad (ad b.tk a false) a true=b.tk:=by
  grind [ah,ae]
 rw[this]
def BB.Inv.BC{b:BB}(h:b.Inv)(hi:b.is a=0):(⟨BB.kV (7-b.bK a).toNat (b.bare a) a,ad b.eK a 0⟩:PB)=(b.qf a).2.fu:=by
 obtain⟨h1,h2,h3⟩:=tL hi;have ho:=h.tk a h3;have hk:=(h.bare a).HE (7-b.bK a).toNat (a:=a) ho (ah _ _ _);unfold BB.qf;rw[if_neg (by simp[hi])];unfold BB.fu;congr 1;funext j;unfold BB.eK;rw[BB.Ex];show ad b.eK a 0 j=if ad b.tk a false j=true then _ else 0
 by_cases c:j=a;all_goals simp_all[BB.eK,ad,BB.bare]
theorem qP{b:BB}(h:b.is a≠0):b.qf a=(b.is a,b):=by grind [BB.qf]
theorem tM{b:BB}(h:b.is a=0):b.qf a=(0,BB.kV (7-b.bK a).toNat (b.bare a) a):=by grind [BB.qf]
theorem BB.sa{b:BB}(h:a<0\/63<a):b.is a=1:=by unfold BB.is;rw[if_pos h]
theorem BB.zD{b:BB}(h:¬(a<0\/63<a))(ht:b.tk a=false):b.is a=2:=by grind [BB.is]
theorem BB.El{b:BB}(h:¬(a<0\/63<a))(ht:b.tk a=true):b.is a=0:=by grind [BB.is]
def BB.Inv.HF{b:BB}(h:b.Inv)(a:Int):(b.eK a=0->b.tk a=false)/\(¬b.eK a=0->b.tk a=true/\b.eK a=b.bK a):=by
 grind [BB.eK,Inv]
theorem L0(k:Int):(p2 k).toNat=2^k.toNat:=rfl
def GJ:∀ (n:Nat) {b:BB} {a:Int},¬b.gj a->BB.kV n b a=b
 | 0,_,_,_=>rfl
 | n+1,b,a,h=>by rw[BB.kV,if_neg h]
theorem lL(f g:Int->Int):∀ n,bU (fun i=>f i+g i) n=bU f n+bU g n
 | 0=>rfl
 | n+1=>by simp only[bU,lL f g n];omega
theorem dx:∀ n,bU (fun _=>0) n=0
 | 0=>rfl
 | n+1=>by simp only[bU,dx n];rfl
theorem ck{f g:Int->Int} :∀ {n:Nat},(∀ i:Int,0<=i->i<n->f i=g i)->bU f n=bU g n
 | 0,_=>rfl
 | n+1,h=>by simp only[bU,ck (n:=n) fun i h0 h1=>h i h0 og,h n og og]
theorem BD(g:Int->Int->Int)(n:Nat):∀ m:Nat,bU (fun k=>bU (g k) n) m=bU (fun i=>bU (fun k=>g k i) m) n
 | 0=>(dx n).symm
 | m+1=>by simp only[bU,BD g n m,lL]
def fh(f:Int->Bool):Nat->Int
 | 0=>0
 | n+1=>fh f n+if f n then 1 else 0
def Dv(f:Int->Bool)(n:Nat):0<=fh f n/\fh f n<=n:=by
 induction n with
 | zero=>simp[fh]
 | succ n ih=>simp only[fh];split<;>omega
def qC(B:Nat):Nat->Nat->Nat
 | 0,_=>0
 | n+1,x=>x%B+qC B n (x/B)
def tN(B c:Nat):Nat->Nat->Prop
 | 0,_=>True
 | n+1,x=>x%B<=c/\tN B c n (x/B)
def WT(w:Nat):Nat->Nat
 | 0=>0
 | n+1=>2^(2*w)*WT w n+(2^w-1)
theorem L3(w x m:Nat):x&&&(2^(2*w)*m+(2^w-1))=2^(2*w)*((x/2^(2*w))&&&m)+x%2^w:=by
 have h1:2^w-1<2^(2*w):=by
  have:=Nat.pow_le_pow_right (n:=2) og (show w<=2*w by omega);grind
 have h2:x%2^w<2^(2*w):=by
  omega
 apply Nat.eq_of_testBit_eq;intro j;rw[Nat.testBit_and,Nat.testBit_two_pow_mul_add _ h1,Nat.testBit_two_pow_mul_add _ h2];grind
def uR(w n x:Nat):Nat:=((x >>> w)&&&WT w n)+(x&&&WT w n)
theorem vA(w:Nat):2^(2*w)=2^w*2^w:=by rw[<-Nat.pow_add];congr 1;omega
theorem HG(w n x:Nat):uR w (n+1) x=2^(2*w)*uR w n (x/2^(2*w))+(x/2^w%2^w+x%2^w):=by
 grind [uR,WT,L3,Nat.shiftRight_eq_div_pow,Nat.div_div_eq_div_mul,Nat.mul_comm]
def Tt(w x:Nat)(hw:0<w):x/2^w%2^w+x%2^w<2^(2*w):=by
 rw[vA];have h1:=Nat.mod_lt x (Nat.two_pow_pos w);have h2:=Nat.mod_lt (x/2^w) (Nat.two_pow_pos w);have h3:2<=2^w:=by
  grind
 have h4:2*2^w<=2^w*2^w:=Nat.mul_le_mul_right _ h3;omega
def L4(w n x:Nat)(hw:0<w):uR w (n+1) x%2^(2*w)=x/2^w%2^w+x%2^w/\uR w (n+1) x/2^(2*w)=uR w n (x/2^(2*w)):=by
 have h:=Tt w x hw;grind [HG,Nat.mul_add_mod,Nat.mod_eq_of_lt,Nat.mul_add_div,Nat.div_eq_of_lt]
theorem L5(w:Nat)(hw:0<w):∀ (n x:Nat),qC (2^(2*w)) n (uR w n x)=qC (2^w) (2*n) x
 | 0,_=>rfl
 | n+1,x=>by
  obtain⟨h1,h2⟩:=L4 w n x hw;rw[show 2*(n+1)=(2*n+1)+1 from og,qC,qC,qC,h1,h2,L5 w hw n,Nat.div_div_eq_div_mul,<-vA];omega
theorem L6(w c:Nat)(hw:0<w):∀ (n x:Nat),tN (2^w) c (2*n) x->tN (2^(2*w)) (c+c) n (uR w n x)
 | 0,_,_=>trivial
 | n+1,x,h=>by
  obtain⟨h1,h2⟩:=L4 w n x hw;rw[show 2*(n+1)=(2*n+1)+1 from og,tN,tN,Nat.div_div_eq_div_mul,<-vA]at h;rw[tN,h1,h2];exact⟨og,L6 w c hw n _ h.2.2⟩
def BE{w n B C:Nat}(hw:0<w)(hB:B=2^w)(hC:C=2^(2*w))(hm:m=2*n):qC C n (uR w n x)=qC B m x:=by
 grind [L5]
def BF{w c d n B C:Nat}(hw:0<w)(hB:B=2^w)(hC:C=2^(2*w))(hm:m=2*n)(hd:d=c+c)(h:tN B c m x):tN C d n (uR w n x):=by
 grind [L6]
def L7:∀ (n x:Nat),tN 2 1 n x
 | 0,_=>trivial
 | n+1,x=>⟨og,L7 n _⟩
def adI:∀ (n x:Nat),tN 16 4 (2*n) x->x<16^(2*n)->(x >>> 4+x)&&&WT 4 n=uR 4 n x
 | 0,_,_,_=>by simp[WT,uR]
 | n+1,x,h,hx=>by
  rw[show 2*(n+1)=(2*n+1)+1 from og,tN,tN,Nat.div_div_eq_div_mul]at h;have hp:16^(2*(n+1))=16^(2*n)*256:=by rw[show 2*(n+1)=2*n+2 from og,Nat.pow_add]
  rw[hp]at hx;have hy:x/256<16^(2*n):=og;have hd:x/256%16<=4:=by
   cases n with
   | zero=>simp at hy;omega
   | succ m=>
    have h3:=h.2.2;rw[show 2*(m+1)=(2*m+1)+1 from og,tN]at h3;exact h3.1
  have ih:=adI n (x/256) h.2.2 hy;rw[HG];show(x >>> 4+x)&&&(2^(2*4)*WT 4 n+(2^4-1))=_;rw[L3];have e1:(x >>> 4+x)/2^(2*4)=(x/256) >>> 4+x/256:=by
   rw[Nat.shiftRight_eq_div_pow,Nat.shiftRight_eq_div_pow];simp only[Nat.reducePow,Nat.reduceMul];have h1:=h.1;have h2:=h.2.1;have h3:=Nat.div_div_eq_div_mul x 16 16;simp only[Nat.reduceMul]at h3;omega
  have e2:(x >>> 4+x)%2^4=x/2^4%2^4+x%2^4:=by
   rw[Nat.shiftRight_eq_div_pow];simp only[Nat.reducePow];have h1:=h.1;have h2:=h.2.1;omega
  rw[e1,e2,ih]
theorem afh{n N:Nat}(hm:m=2*n)(hN:N=16^(2*n))(h:tN 16 4 m x)(hx:x<N):(x >>> 4+x)&&&WT 4 n=uR 4 n x:=by
 subst hm;subst hN;exact adI n x h hx
theorem L8(B:Nat):∀ (n x:Nat),qC B (n+1) x=qC B n x+x/B^n%B
 | 0,x=>by simp[qC]
 | n+1,x=>by
  rw[qC,L8 B n,qC,Nat.div_div_eq_div_mul,Nat.pow_succ,Nat.mul_comm B];omega
theorem HH(f:Int->Bool)(x:Nat):∀ n,(∀ j,j<n->x.testBit j=f j)->((qC 2 n x:Nat):Int)=fh f n
 | 0,_=>rfl
 | n+1,h=>by
  have ih:=HH f x n fun j hj=>h j og;have hb:=h n og;rw[Nat.testBit_eq_decide_div_mod_eq]at hb;rw[L8,fh,<-ih];by_cases c:f (n:Int)=true
  ·rw[if_pos c];rw[c]at hb;simp at hb;omega
  ·rw[if_neg c];simp at c;rw[c]at hb;simp at hb;omega
def qD(x:Nat):Nat:=((x >>> 1)&&&6148914691236517205)+(x&&&6148914691236517205)
def wU(x:Nat):Nat:=((x >>> 2)&&&3689348814741910323)+(x&&&3689348814741910323)
def GK(x:Nat):Nat:=((x >>> 4)+x)&&&1085102592571150095
def KM(x:Nat):Nat:=x+x >>> 8
def QW(x:Nat):Nat:=x+x >>> 16
def Z0(x:Nat):Nat:=x+x >>> 32
def WU(x:Nat):qD x<=12297829382473034410:=by
 have h1:=Nat.and_le_right (n:=x >>> 1) (m:=6148914691236517205);have h2:=Nat.and_le_right (n:=x) (m:=6148914691236517205);unfold qD;omega
def Ov(x:Nat):wU x<=7378697629483820646:=by
 have h1:=Nat.and_le_right (n:=x >>> 2) (m:=3689348814741910323);have h2:=Nat.and_le_right (n:=x) (m:=3689348814741910323);unfold wU;omega
def WV(x:Nat):GK x<=1085102592571150095:=Nat.and_le_right
def tO(x n:Nat):x >>> n<=x:=by rw[Nat.shiftRight_eq_div_pow];exact Nat.div_le_self _ _
def aba(y b0 b1 b2 b3 b4 b5 b6 b7 y1 y2 y3 y4 y5 y6:Nat)(e0:y=256*y1+b0)(e1:y1=256*y2+b1)(e2:y2=256*y3+b2)(e3:y3=256*y4+b3)(e4:y4=256*y5+b4)(e5:y5=256*y6+b5)(e6:y6=256*b7+b6)(c0:b0<=8)(c1:b1<=8)(c2:b2<=8)(c3:b3<=8)(c4:b4<=8)(c5:b5<=8)(c6:b6<=8)(c7:b7<=8):Z0 (QW (KM y))&&&127=b0+(b1+(b2+(b3+(b4+(b5+(b6+b7)))))):=by
 have h4:KM y=y+y1:=by
  unfold KM;rw[Nat.shiftRight_eq_div_pow];simp only[Nat.reducePow];omega
 have q5:y+y1=65536*(y2+y3)+(b0+b1+256*b1+256*b2):=og;have h5:QW (y+y1)=y+y1+(y2+y3):=by
  unfold QW;rw[Nat.shiftRight_eq_div_pow];simp only[Nat.reducePow];conv=>lhs;arg 2;rw[q5,Nat.mul_add_div og,Nat.div_eq_of_lt og,Nat.add_zero]
 have q6:y+y1+(y2+y3)=4294967296*(y4+y5+y6+b7)+(b0+256*b1+65536*b2+16777216*b3+(b1+256*b2+65536*b3+16777216*b4)+(b2+256*b3+65536*b4+16777216*b5)+(b3+256*b4+65536*b5+16777216*b6)):=by
  rw[e0,e1,e2,e3,e4,e5,e6];clear e0 e1 e2 e3 e4 e5 e6 h4 q5 h5 c0 c1 c2 c3 c4 c5 c6 c7;omega
 have h6:Z0 (y+y1+(y2+y3))=y+y1+(y2+y3)+(y4+y5+y6+b7):=by
  unfold Z0;rw[Nat.shiftRight_eq_div_pow];simp only[Nat.reducePow];conv=>lhs;arg 2;rw[q6,Nat.mul_add_div og,Nat.div_eq_of_lt (by clear q6 q5 e0 e1 e2 e3 e4 e5 e6 h4 h5;omega),Nat.add_zero]
 have q7:y+y1+(y2+y3)+(y4+y5+y6+b7)=128*(2*y1+2*y2+2*y3+2*y4+2*y5+2*y6+2*b7)+(b0+(b1+(b2+(b3+(b4+(b5+(b6+b7))))))):=by
  rw[e0];clear q5 q6 h4 h5 h6;omega
 rw[h4,h5,h6,show(127:Nat)=2^7-1 from rfl,Nat.and_two_pow_sub_one_eq_mod];simp only[Nat.reducePow];rw[q7,Nat.mul_add_mod,Nat.mod_eq_of_lt (by clear q7 q6 q5 e0 e1 e2 e3 e4 e5 e6 h4 h5 h6;omega)]
def abb(y:Nat)(a3:tN 256 8 8 y)(b3:y<=1085102592571150095):Z0 (QW (KM y))&&&127=qC 256 8 y:=by
 simp only[tN,and_true]at a3;obtain⟨c0,c1,c2,c3,c4,c5,c6,c7⟩:=a3;have h7:y/256/256/256/256/256/256/256<256:=by
  simp only[Nat.div_div_eq_div_mul,Nat.reduceMul];omega
 simp only[qC,Nat.add_zero];refine aba y _ _ _ _ _ _ _ _ (y/256) (y/256/256) (y/256/256/256) (y/256/256/256/256) (y/256/256/256/256/256) (y/256/256/256/256/256/256) (Nat.div_add_mod _ _).symm (Nat.div_add_mod _ _).symm (Nat.div_add_mod _ _).symm (Nat.div_add_mod _ _).symm (Nat.div_add_mod _ _).symm (Nat.div_add_mod _ _).symm ?_ c0 c1 c2 c3 c4 c5 c6 c7;rw[Nat.mod_eq_of_lt h7];exact(Nat.div_add_mod _ _).symm
def WW(f:Int->Bool)(x:Nat)(h:∀ j,j<64->x.testBit j=f j):(((Z0 (QW (KM (GK (wU (qD x))))))&&&127:Nat):Int)=fh f 64:=by
 rw[<-HH f x 64 h];have m1:qD x=uR 1 32 x:=by
  unfold qD uR;rw[show WT 1 32=6148914691236517205 from dq]
 have m2:wU (qD x)=uR 2 16 (qD x):=by
  unfold wU uR;rw[show WT 2 16=3689348814741910323 from dq]
 have a1:tN 4 2 32 (qD x):=by rw[m1];exact BF (w:=1) og dq dq dq dq (L7 64 x)
 have a2:tN 16 4 16 (wU (qD x)):=by rw[m2];exact BF (w:=2) og dq dq dq dq a1
 have b2:=Ov (qD x);have m3:GK (wU (qD x))=uR 4 8 (wU (qD x)):=by
  rw[<-afh (n:=8) (m:=16) (N:=18446744073709551616) dq dq a2 og];unfold GK;rw[show WT 4 8=1085102592571150095 from dq]
 have a3:tN 256 8 8 (GK (wU (qD x))):=by rw[m3];exact BF (w:=4) og dq dq dq dq a2
 have s1:qC 4 32 (qD x)=qC 2 64 x:=by rw[m1];exact BE (w:=1) og dq dq dq
 have s2:qC 16 16 (wU (qD x))=qC 4 32 (qD x):=by rw[m2];exact BE (w:=2) og dq dq dq
 have s3:qC 256 8 (GK (wU (qD x)))=qC 16 16 (wU (qD x)):=by rw[m3];exact BE (w:=4) og dq dq dq
 rw[<-s1,<-s2,<-s3];have b3:=WV (wU (qD x));exact congrArg _ (abb _ a3 b3)
theorem Ey(f:Int->Bool)(c:Int):∀ n,fh f n*c=bU (fun i=>if f i=true then c else 0) n
 | 0=>by simp[fh,bU]
 | n+1=>by
  simp only[fh,bU,<-Ey f c n,Int.add_mul];by_cases h:f n=true
  ·rw[if_pos h,if_pos h];simp
  ·rw[if_neg h,if_neg h];simp
def WX{b:BB}(h:b.Inv)(i:Int):bU (fun k=>if b.at_ k i=true then p2 k else 0) 7=b.room i:=by
 have hr:=h.jV i;unfold BB.room;simp only[bU];have e:∀ k:Int,0<=k->(if b.at_ k i=true then p2 k else 0)=if b.bK i=k+1/\b.tk i=false then p2 k else 0:=fun k hk=>by
  by_cases q:b.at_ k i=true
  ·rw[if_pos q,if_pos ((lx hk).1 q)]
  ·rw[if_neg q,if_neg fun q2=>q ((lx hk).2 q2)]
 rw[e _ og,e _ og,e _ og,e _ og,e _ og,e _ og,e _ og];have:b.bK i=0\/b.bK i=1\/b.bK i=2\/b.bK i=3\/b.bK i=4\/b.bK i=5\/b.bK i=6\/b.bK i=7:=og;cases ht:b.tk i with
 | true=>simp
 | false=>rcases this with q | q | q | q | q | q | q | q<;>simp[q]
def BB.Inv.abc{b:BB}(h:b.Inv):bU (fun k=>fh (b.at_ k) 64*p2 k) 7=b.left:=by
 rw[ck (g:=fun k=>bU (fun i=>if b.at_ k i=true then p2 k else 0) 64) fun k _ _=>Ey _ _ _,BD fun k i=>if b.at_ k i=true then p2 k else 0];exact ck fun i _ _=>WX h i
def bN(s:PB)(i:Nat):Value:=
 if i%1=0/\i/1<7 then .int .u64 (((s.b.gP ((i/1:Nat):Int)):Nat):Int)else
 if 7<=i/\(i-7)%1=0/\(i-7)/1<64 then iI (s.u (((i-7)/1:Nat):Int))else
 undef
abbrev d8(b0 o0:Nat)(s:PB):aG:=.cells b0 o0 71 (bN s)
theorem ej(s:PB)(z0:Int)(q0:0<=z0/\z0<7:=by omega):((0+0)+z0.toNat*1)<71/\bN s ((0+0)+z0.toNat*1)= .int .u64 (((s.b.gP z0):Nat):Int):=by
 refine⟨og,?_⟩;unfold bN;rw[if_pos og];rw[show((((0+0)+z0.toNat*1)/1:Nat):Int)=z0 from og]
theorem mV(s:PB)(z0:Int)(q0:0<=z0/\z0<64:=by omega):((0+7)+z0.toNat*1)<71/\bN s ((0+7)+z0.toNat*1)=iI (s.u z0):=by
 refine⟨og,?_⟩;unfold bN;rw[if_neg og];rw[if_pos og];rw[show(((((0+7)+z0.toNat*1)-7)/1:Nat):Int)=z0 from og]
def vB(s:PB)(z0:Int)(q0:0<=z0/\z0<64)(v:Int):((0+7)+z0.toNat*1)<71/\ep (bN s) ((0+7)+z0.toNat*1) (iI (v))=bN ({s with u:=ad s.u z0 v}):=by
 refine⟨og,?_⟩;funext j;unfold ep;by_cases hj:j=((0+7)+z0.toNat*1)
 ·rw[if_pos hj,hj,(mV ({s with u:=ad s.u z0 v}) z0 q0).2];all_goals simp[ad,bW]
 ·rw[if_neg hj];unfold bN;refine iK (fun c0=> ?_) fun c0=> ?_
  ·first | rfl | simp[ad,bW]
  refine iK (fun c1=> ?_) fun c1=> ?_
  ·have gJ:¬((((j-7)/1:Nat):Int)=z0):=og;simp only[ad,bW,gJ,if_false,and_true,true_and]
  rfl
def aiy:List Int:=[0,1,56,2,57,49,28,3,61,58,42,50,38,29,17,4,62,47,59,36,45,43,51,22,53,39,33,30,24,18,12,5,63,55,48,27,60,41,37,16,46,35,44,21,52,32,23,11,54,26,40,15,34,20,31,10,25,14,19,9,13,8,7,6]
def eX(i:Nat):Value:=.int .u8 (aiy.getD i 0)
abbrev g9:aG:=.ro 1 0 64 eX
def WY:∀ t:Nat,t<64->IntKind.u64.wrap (((2^t:Nat):Int)*285870213051353865)=((2^t*285870213051353865%18446744073709551616:Nat):Int)/\
  (((2^t*285870213051353865%18446744073709551616:Nat):Int)).fdiv (2^(min (58:Int).toNat IntKind.u64.bits))=((2^t*285870213051353865%18446744073709551616/288230376151711744:Nat):Int)/\
  (2^t*285870213051353865%18446744073709551616/288230376151711744)<64/\IntKind.i64.wrap (t:Int)=t/\
  aiy.getD (2^t*285870213051353865%18446744073709551616/288230376151711744) 0=(t:Int):=dk
def Oj(ht:t<64):0+(((2^t*285870213051353865%18446744073709551616/288230376151711744:Nat):Int)).toNat*1<64/\eX (0+(((2^t*285870213051353865%18446744073709551616/288230376151711744:Nat):Int)).toNat*1)= .int .u8 (t:Int):=by
 obtain⟨_,_,z3,_,z5⟩:=WY t ht;have e:0+(((2^t*285870213051353865%18446744073709551616/288230376151711744:Nat):Int)).toNat*1=2^t*285870213051353865%18446744073709551616/288230376151711744:=og;rw[e];exact⟨z3,congrArg (Value.int .u8) z5⟩
def abd(h:0<x/\x<18446744073709551616):IntKind.u64.wrap (0-(x:Int))=((2^64-x:Nat):Int):=by
 have:((0-(x:Int))%(2^64:Int))=((2^64-x:Nat):Int):=by
  have h2:(2:Int)^64=18446744073709551616:=dq;have h3:(2:Nat)^64=18446744073709551616:=dq;rw[h2,h3];omega
 simpa [IntKind.wrap,IntKind.signed,IntKind.bits]using this
def tP{n:Int}(h:0<=n/\n<64)(x:Nat):(x:Int).fdiv (2^(min n.toNat IntKind.u64.bits))=((x >>> n.toNat:Nat):Int):=by
 have:min n.toNat IntKind.u64.bits=n.toNat:=by show min n.toNat 64=_;omega
 rw[this,Nat.shiftRight_eq_div_pow,Int.fdiv_eq_ediv_of_nonneg _ (by exact Int.le_of_lt (Int.pow_pos og))];simp
def abe:∀ n:Nat,n<64->IntKind.u64.wrap (1*2^(min n IntKind.u64.bits))=((2^n:Nat):Int):=dk
def zR{n:Int}(h:0<=n/\n<64:=by omega):IntKind.u64.wrap (1*2^(min n.toNat IntKind.u64.bits))=((2^n.toNat:Nat):Int):=abe _ og
def WZ:∀ n:Nat,n<62->IntKind.i64.wrap (1*2^(min n IntKind.i64.bits))=((2^n:Nat):Int):=dk
def Js{n:Int}(h:0<=n/\n<62:=by omega):IntKind.i64.wrap (1*2^(min n.toNat IntKind.i64.bits))=p2 n:=WZ _ og
def abf{c n:Int}(hc:0<=c/\c<=64)(h:0<=n/\n<=6):IntKind.i64.wrap (c*2^(min n.toNat IntKind.i64.bits))=c*p2 n:=by
 have e:(2:Int)^(min n.toNat IntKind.i64.bits)=p2 n:=by
  have:n=0\/n=1\/n=2\/n=3\/n=4\/n=5\/n=6:=og;rcases this with rfl | rfl | rfl | rfl | rfl | rfl | rfl<;>decide
 rw[e];have e2:0<=c*p2 n/\c*p2 n<=4096:=by
  have:n=0\/n=1\/n=2\/n=3\/n=4\/n=5\/n=6:=og;rcases this with rfl | rfl | rfl | rfl | rfl | rfl | rfl<;>(simp only[aff,aa4,To,aa5,Tp,aa6,aa7];omega)
 exact IntWalk.i64_in _ og
def jE{n:Nat}(h:n<64):2^n<18446744073709551616:=Nat.pow_lt_pow_right (a:=2) (n:=64) og h
def Ow(x:Nat)(k:Nat):(((x >>> k)&&&1:Nat):Int)=if x.testBit k then 1 else 0:=by
 rw[Nat.testBit_eq_decide_div_mod_eq,Nat.shiftRight_eq_div_pow,Nat.and_one_is_mod];by_cases h:x/2^k%2=1
 ·simp[h]
 ·have:x/2^k%2=0:=og;simp[this]
def aiz(h:0<=k/\k<=6):1<=p2 k/\p2 k<=64:=by
 have:k=0\/k=1\/k=2\/k=3\/k=4\/k=5\/k=6:=og;rcases this with rfl | rfl | rfl | rfl | rfl | rfl | rfl<;>decide
def pK(s:PB)(b':BB)(k:Int)(q:0<=k/\k<7){v:Nat}(hv:v=b'.gP k/\∀ m,0<=m->m<7->¬m=k->b'.gP m=s.b.gP m):0+0+k.toNat*1<71/\ep (bN s) (0+0+k.toNat*1) (.int .u64 (v:Int))=bN {s with b:=b'} :=by
 refine⟨og,?_⟩;funext i;unfold ep;by_cases h:i=0+0+k.toNat*1
 ·rw[if_pos h,h,(ej {s with b:=b'} k q).2,hv.1]
 ·rw[if_neg h];by_cases h2:i<7
  ·have e1:=(ej s (i:Int)).2;have e2:=(ej {s with b:=b'} (i:Int)).2;rw[show 0+0+(i:Int).toNat*1=i from og]at e1 e2;rw[e1,e2];rw[hv.2 i og og og]
  ·have c:¬(i%1=0/\i/1<7):=og;unfold bN;simp only[if_neg c]
def W0(f:Int->Nat)(m:Nat):Array Value:=((List.range m).map fun (j:Nat)=>Value.int .u64 ((f (j:Int):Nat):Int)).toArray
def abg{f:Int->Nat}(h:0<=z/\z<m):(W0 f m)[z.toNat]? =some (.int .u64 ((f z:Nat):Int)):=by
 have h1:z.toNat<m:=og;have h2:((z.toNat:Nat):Int)=z:=og;simp[W0,h1,h2]
def afi{c n:Int}(hc:0<=c/\c<=64)(h:0<=n/\n<=6):0<=c*p2 n/\c*p2 n<=4096:=by
 have:n=0\/n=1\/n=2\/n=3\/n=4\/n=5\/n=6:=og;rcases this with rfl | rfl | rfl | rfl | rfl | rfl | rfl<;>(simp only[aff,aa4,To,aa5,Tp,aa6,aa7];omega)
def Ox(s:PB):0+0+7<=71/\dB (bN s) (0+0) 7= .agg (W0 s.b.gP 7):=by
 refine⟨og,?_⟩;unfold dB W0;congr 2
def zS:BB.cR.gP 6=1/\∀ m:Int,0<=m->m<7->¬m=6->BB.cR.gP m=0:=by
 refine⟨dk,fun m h0 h1 h2=> ?_⟩;have:m=0\/m=1\/m=2\/m=3\/m=4\/m=5:=og;rcases this with rfl | rfl | rfl | rfl | rfl | rfl<;>decide+kernel
def BB.dR:BB:=⟨fun _=>0,fun _=>false⟩
theorem zT:∀ m:Int,0<=m->m<7->BB.dR.gP m=0:=fun m h0 h1=>by
 have:m=0\/m=1\/m=2\/m=3\/m=4\/m=5\/m=6:=og;rcases this with rfl | rfl | rfl | rfl | rfl | rfl | rfl<;>decide+kernel
def BG:∀ i,i<71->cellsOf #[.int .u64 0,.int .u64 0,.int .u64 0,.int .u64 0,.int .u64 0,.int .u64 0,.int .u64 0,iI 0,iI 0,iI 0,iI 0,iI 0,iI 0,iI 0,iI 0,iI 0,iI 0,iI 0,iI 0,iI 0,iI 0,iI 0,iI 0,iI 0,iI 0,iI 0,iI 0,iI 0,iI 0,iI 0,iI 0,iI 0,iI 0,iI 0,iI 0,iI 0,iI 0,iI 0,iI 0,iI 0,iI 0,iI 0,iI 0,iI 0,iI 0,iI 0,iI 0,iI 0,iI 0,iI 0,iI 0,iI 0,iI 0,iI 0,iI 0,iI 0,iI 0,iI 0,iI 0,iI 0,iI 0,iI 0,iI 0,iI 0,iI 0,iI 0,iI 0,iI 0,iI 0,iI 0,iI 0] i=bN ⟨BB.dR,fun _=>0⟩ i:=fun i hi=>by
 by_cases h2:i<7
 ·have e2:=(ej ⟨BB.dR,fun _=>0⟩ (i:Int)).2;rw[show 0+0+(i:Int).toNat*1=i from og]at e2;rw[e2,zT _ og og];have:i=0\/i=1\/i=2\/i=3\/i=4\/i=5\/i=6:=og;rcases this with rfl | rfl | rfl | rfl | rfl | rfl | rfl<;>rfl
 ·have e2:=(mV ⟨BB.dR,fun _=>0⟩ ((i-7:Nat):Int)).2;rw[show 0+7+((i-7:Nat):Int).toNat*1=i from og]at e2;rw[e2];exact match i,hi,h2 with
  | 0,_,h=>absurd og h
  | 1,_,h=>absurd og h
  | 2,_,h=>absurd og h
  | 3,_,h=>absurd og h
  | 4,_,h=>absurd og h
  | 5,_,h=>absurd og h
  | 6,_,h=>absurd og h
  | 7,_,_=>rfl
  | 8,_,_=>rfl
  | 9,_,_=>rfl
  | 10,_,_=>rfl
  | 11,_,_=>rfl
  | 12,_,_=>rfl
  | 13,_,_=>rfl
  | 14,_,_=>rfl
  | 15,_,_=>rfl
  | 16,_,_=>rfl
  | 17,_,_=>rfl
  | 18,_,_=>rfl
  | 19,_,_=>rfl
  | 20,_,_=>rfl
  | 21,_,_=>rfl
  | 22,_,_=>rfl
  | 23,_,_=>rfl
  | 24,_,_=>rfl
  | 25,_,_=>rfl
  | 26,_,_=>rfl
  | 27,_,_=>rfl
  | 28,_,_=>rfl
  | 29,_,_=>rfl
  | 30,_,_=>rfl
  | 31,_,_=>rfl
  | 32,_,_=>rfl
  | 33,_,_=>rfl
  | 34,_,_=>rfl
  | 35,_,_=>rfl
  | 36,_,_=>rfl
  | 37,_,_=>rfl
  | 38,_,_=>rfl
  | 39,_,_=>rfl
  | 40,_,_=>rfl
  | 41,_,_=>rfl
  | 42,_,_=>rfl
  | 43,_,_=>rfl
  | 44,_,_=>rfl
  | 45,_,_=>rfl
  | 46,_,_=>rfl
  | 47,_,_=>rfl
  | 48,_,_=>rfl
  | 49,_,_=>rfl
  | 50,_,_=>rfl
  | 51,_,_=>rfl
  | 52,_,_=>rfl
  | 53,_,_=>rfl
  | 54,_,_=>rfl
  | 55,_,_=>rfl
  | 56,_,_=>rfl
  | 57,_,_=>rfl
  | 58,_,_=>rfl
  | 59,_,_=>rfl
  | 60,_,_=>rfl
  | 61,_,_=>rfl
  | 62,_,_=>rfl
  | 63,_,_=>rfl
  | 64,_,_=>rfl
  | 65,_,_=>rfl
  | 66,_,_=>rfl
  | 67,_,_=>rfl
  | 68,_,_=>rfl
  | 69,_,_=>rfl
  | 70,_,_=>rfl
  | k+71,h,_=>absurd h og
structure RG where
 fr:Int
 n:Int
 w:Bool
def RG.nil:RG:=⟨0,0,false⟩
def RG.c9(r:RG):Array Value:= #[iI r.fr,iI r.n,.bool r.w]
def RG.cell(r:RG)(j:Nat):Value:=match j with
 | 0=>iI r.fr
 | 1=>iI r.n
 | 2=>.bool r.w
 | _=>undef
def bG(l:List RG)(z:Int):RG:=l.getD z.toNat RG.nil
def fG(l:List RG)(i:Nat):Value:=(l.getD (i/3) RG.nil).cell (i%3)
abbrev gc(p:Option Addr)(c:Nat)(l:List RG):aG:=aN p c 171 3 l.length (fG l)
def qw(r:RG)(i:Nat):Value:=r.cell i
def qw.agg(r:RG):0+3<=3/\dB (qw r) 0 3= .agg r.c9:=⟨og,rfl⟩
theorem qw.box(r:RG):∀ i,i<3->cellsOf r.c9 i=qw r i:=fun i h=>by
 match i,h with
 | 0,_=>rfl
 | 1,_=>rfl
 | 2,_=>rfl
 | k+3,h=>omega
theorem qw.f(r:RG):0+0<3/\qw r (0+0)=iI r.fr:=⟨og,rfl⟩
theorem qw.n(r:RG):0+1<3/\qw r (0+1)=iI r.n:=⟨og,rfl⟩
theorem qw.w(r:RG):0+2<3/\qw r (0+2)= .bool r.w:=⟨og,rfl⟩
theorem qw.st(r q:RG):0+3<=3/\cY (qw q) 0 r.c9.toList=qw r:=⟨og,by
 funext i
 match i with
 | 0=>rfl
 | 1=>rfl
 | 2=>rfl
 | k+3=>simp[cY,ep,RG.c9,qw,RG.cell]⟩
theorem BH(l:List RG)(h:0<=z/\z<l.length)(j:Nat)(hj:j<3:=by omega):fG l (0+z.toNat*3+j)=(bG l z).cell j:=by
 grind [fG,bG]
def fG.agg{l:List RG}{z:Int}(h:0<=z/\z<l.length):0+z.toNat*3+3<=l.length*3/\dB (fG l) (0+z.toNat*3) 3= .agg (bG l z).c9:=by
 refine⟨og,?_⟩;simp only[dB,List.range,List.range.loop,List.map_cons,List.map_nil];rw[BH l h 0,BH l h 1,BH l h 2];rfl
theorem fG.f{l:List RG}(h:0<=z/\z<l.length):0+z.toNat*3+0<l.length*3/\fG l (0+z.toNat*3+0)=iI (bG l z).fr:=⟨og,BH l h 0⟩
theorem fG.n{l:List RG}{z:Int}(h:0<=z/\z<l.length):0+z.toNat*3+1<l.length*3/\fG l (0+z.toNat*3+1)=iI (bG l z).n:=⟨og,BH l h 1⟩
theorem fG.w{l:List RG}{z:Int}(h:0<=z/\z<l.length):0+z.toNat*3+2<l.length*3/\fG l (0+z.toNat*3+2)= .bool (bG l z).w:=⟨og,BH l h 2⟩
def fG.app(l:List RG)(r:RG)(C1:Nat->Value)(hC:∀ i,i<3->C1 i=r.cell i):∀ i,i<(l.length+1)*3->fG (l++[r]) i=if i<l.length*3 then fG l i else C1 (i-l.length*3):=fun i hi=>by
 grind [fG]
def Jt(l:List RG)(r:RG):List RG:=l.dropLast++[r]
theorem CM{l:List RG}{r:RG}(h:0<l.length):(Jt l r).length=l.length:=by grind [Jt]
theorem fG.grow{l:List RG}(h:0<l.length)(m:Int):0+((l.length:Int)-1).toNat*3+1<l.length*3/\ep (fG l) (0+((l.length:Int)-1).toNat*3+1) (iI m)=fG (Jt l {bG l ((l.length:Int)-1)with n:=m}):=by
 refine⟨og,?_⟩;funext i;unfold ep fG Jt;simp only[List.getD_eq_getElem?_getD];by_cases c:i/3<l.length-1
 ·rw[if_neg og,List.getElem?_append_left eI,List.getElem?_dropLast,if_pos c]
 ·by_cases c2:i/3=l.length-1
  ·rw[List.getElem?_append_right eI,show i/3-l.dropLast.length=0 from eI];have e:l[i/3]?.getD RG.nil=bG l ((l.length:Int)-1):=by
    simp_all[bG]
   rw[e];have:i%3=0\/i%3=1\/i%3=2:=og;rcases this with q | q | q
   ·rw[if_neg og,q];rfl
   ·rw[if_pos og,q];rfl
   ·rw[if_neg og,q];rfl
  ·rw[if_neg og,List.getElem?_append_right eI,List.getElem?_eq_none og,List.getElem?_eq_none eI]
def Gf(l:List RG)(r:RG):List RG:=match l.getLast? with
 | some q=>if q.fr+q.n=r.fr/\q.w=r.w then l.dropLast++[{q with n:=q.n+r.n}]else l++[r]
 | none=>[r]
theorem QX(r:RG):Gf [] r=[r]:=rfl
theorem L9(l:List RG)(q r:RG):Gf (l++[q]) r=if q.fr+q.n=r.fr/\q.w=r.w then l++[{q with n:=q.n+r.n}]else l++[q,r]:=by
 simp[Gf]
theorem W1(l:List RG)(q:RG):bG (l++[q]) (((l++[q]).length:Int)-1)=q:=by
 simp_all[bG]
theorem wV{l:List RG}(h:0<l.length):∃ l' q,l=l'++[q]:=⟨l.dropLast,l.getLast (by intro e;rw[e]at h;simp at h),(List.dropLast_concat_getLast _).symm⟩
theorem abh{l:List RG}{r:RG}(h:0<l.length)(h1:(bG l ((l.length:Int)-1)).fr+(bG l ((l.length:Int)-1)).n=r.fr)(h2:(bG l ((l.length:Int)-1)).w=r.w):Gf l r=Jt l {bG l ((l.length:Int)-1)with n:=(bG l ((l.length:Int)-1)).n+r.n} :=by
 obtain⟨l',q,rfl⟩:=wV h;grind [W1,Jt,Gf]
theorem Ez{l:List RG}{r:RG}(h:0<l.length->¬((bG l ((l.length:Int)-1)).fr+(bG l ((l.length:Int)-1)).n=r.fr/\(bG l ((l.length:Int)-1)).w=r.w)):Gf l r=l++[r]:=by
 rcases Nat.eq_zero_or_pos l.length with q | q
 ·grind [Gf]
 ·obtain⟨l',x,rfl⟩:=wV q;simp_all[bG,Gf]
def Tu(l:List RG)(a n m:Int)(w:Bool)(_:0<n):Gf (Gf l ⟨a,n,w⟩) ⟨a+n,m,w⟩=Gf l ⟨a,n+m,w⟩:=by
 rcases Nat.eq_zero_or_pos l.length with q | q
 ·grind [Gf]
 grind [Gf]
def mg(l:List RG):List RG:=l.foldl Gf []
def ry(a:Int)(w:Bool):Nat->List RG
 | 0=>[]
 | k+1=>ry a w k++[⟨a+k,1,w⟩]
theorem CN(l:List RG)(a:Int)(w:Bool):∀ k:Nat,0<k->(ry a w k).foldl Gf l=Gf l ⟨a,k,w⟩
 | 0,h=>og
 | 1,_=>by simp[ry]
 | k+2,_=>by
  rw[ry,List.foldl_append,CN l a w (k+1) og];have:=Tu l a ((k+1:Nat):Int) 1 w og;simp only[List.foldl_cons,List.foldl_nil];rw[this];congr 1
def RG.W2(r:RG):List RG:=ry r.fr r.w r.n.toNat
theorem Ma:∀ (l:List RG) (jM:List RG),(∀ r∈l,0<r.n)->(l.flatMap RG.W2).foldl Gf jM=l.foldl Gf jM
 | [],_,_=>rfl
 | r::l,jM,h=>by
  have h1:=h r sq;simp only[List.flatMap_cons,List.foldl_append,List.foldl_cons];rw[RG.W2,CN jM r.fr r.w r.n.toNat og,Ma l _ fun x hx=>h x (by simp[hx])];congr 2;cases r;simp only[RG.mk.injEq,true_and,and_true];simp at h1;omega
theorem pL{a:Int}{w:Bool}{u:RG} :∀ {k:Nat},u∈ry a w k↔∃ i:Int,a<=i/\i<a+k/\u=⟨i,1,w⟩
 | 0=>by simp only[ry,List.not_mem_nil,false_iff];rintro⟨i,h1,h2,_⟩;simp at h2;omega
 | k+1=>by
  rw[ry,List.mem_append,pL (k:=k),List.mem_singleton];grind
def zU{a:Int}{w:Bool} :∀ k:Nat,(ry a w k).Pairwise (fun x y=>x.fr<y.fr)
 | 0=>.nil
 | k+1=>by
  rw[ry,List.pairwise_append];refine⟨zU k,sq,fun x hx y hy=> ?_⟩;obtain⟨i,h1,h2,rfl⟩:=pL.1 hx;simp only[List.mem_singleton]at hy;subst hy;exact h2
def tQ{α:Type}(f:α->Int):∀ {l m:List α},l.Pairwise (fun x y=>f x<f y)->m.Pairwise (fun x y=>f x<f y)->(∀ x,x∈l↔x∈m)->l=m
 | [],[],_,_,_=>rfl
 | [],y::m,_,_,h=>absurd ((h y).2 sq) sq
 | x::l,[],_,_,h=>absurd ((h x).1 sq) sq
 | x::l,y::m,hl,hm,h=>by
  rw[List.pairwise_cons]at hl hm;have e:x=y:=by
   grind
  subst e;congr 1;refine tQ f hl.2 hm.2 fun z=> ?_;grind
def kd(w:Bool):Int:=if w then 2 else 1
structure Vd(f:Int->Int):Prop where
 v:∀ i,f i=0\/f i=1\/f i=2
 out:∀ i,i<0\/16<=i->f i=0
def nO(f:Int->Int):Nat->List RG
 | 0=>[]
 | k+1=>nO f k++(if f k=0 then []else [⟨k,1,decide (f k=2)⟩])
def su(f:Int->Int)(k:Nat):List RG:=mg (nO f k)
def aj(f:Int->Int):List RG:=su f 16
theorem EA(f:Int->Int)(k:Nat):su f (k+1)=if f k=0 then su f k else Gf (su f k) ⟨k,1,decide (f k=2)⟩:=by
 grind [su,mg,nO]
theorem yM{f:Int->Int}{u:RG} :∀ {k:Nat},u∈nO f k↔∃ i:Int,0<=i/\i<k/\f i≠0/\u=⟨i,1,decide (f i=2)⟩
 | 0=>by simp only[nO,List.not_mem_nil,false_iff];rintro⟨i,h1,h2,_⟩;simp at h2;omega
 | k+1=>by
  rw[nO,List.mem_append,yM (k:=k)];grind
def xZ{f:Int->Int} :∀ k:Nat,(nO f k).Pairwise (fun x y=>x.fr<y.fr)
 | 0=>.nil
 | k+1=>by
  rw[nO,List.pairwise_append];refine⟨xZ k,by split<;>simp,fun x hx y hy=> ?_⟩;obtain⟨i,h1,h2,_,rfl⟩:=yM.1 hx;split at hy
  ·simp at hy
  ·simp only[List.mem_singleton]at hy;subst hy;exact h2
structure GL(l:List RG):Prop where
 b:∀ r∈l,0<=r.fr/\0<r.n/\r.fr+r.n<=16
 p:l.Pairwise fun x y=>x.fr+x.n<=y.fr\/y.fr+y.n<=x.fr
def RG.has(r:RG)(i:Int):Prop:=r.fr<=i/\i<r.fr+r.n
structure Ve(l:List RG)(f:Int->Int):Prop where
 h1:∀ r∈l,∀ i,r.has i->f i=kd r.w
 h2:∀ i,f i≠0->∃ r∈l,r.has i
def GL.cG{l m:List RG}(h:GL l)(hp:l.Perm m):GL m:=
 ⟨fun r hr=>h.b r (hp.mem_iff.2 hr),(hp.pairwise_iff fun hxy=>hxy.symm).1 h.p⟩
def Ve.cG{l m:List RG}{f:Int->Int}(h:Ve l f)(hp:l.Perm m):Ve m f:=
 ⟨fun r hr=>h.h1 r (hp.mem_iff.2 hr),fun i hi=>by obtain⟨r,hr,h2⟩:=h.h2 i hi;exact⟨r,hp.mem_iff.1 hr,h2⟩⟩
theorem W3(w:Bool):decide (kd w=2)=w:=by cases w<;>rfl
theorem QY(w:Bool):kd w≠0:=by cases w<;>decide
def abi{l:List RG}{f:Int->Int}(hg:GL l)(hc:Ve l f)(hf:Vd f)(hs:l.Pairwise fun x y=>x.fr<=y.fr):mg l=aj f:=by
 unfold aj su;have e:l.flatMap RG.W2=nO f 16:=by
  refine tQ (fun r=>r.fr) ?_ (xZ 16) fun u=> ?_
  ·rw[List.pairwise_flatMap];refine⟨fun r _=>zU _,?_⟩;have hq:=hs.and hg.p;refine hq.imp_of_mem ?_;rintro x y hx hy ⟨h1,h2⟩ u hu v hv;obtain⟨i,i1,i2,rfl⟩:=pL.1 hu;obtain⟨j,j1,j2,rfl⟩:=pL.1 hv;grind
  ·rw[List.mem_flatMap,yM];constructor
   ·rintro⟨r,hr,hu⟩;obtain⟨i,i1,i2,rfl⟩:=pL.1 hu;have hb:=hg.b r hr;have:=hc.h1 r hr i ⟨i1,og⟩;grind [QY,W3]
   ·rintro⟨i,i1,i2,i3,rfl⟩;obtain⟨r,hr,h⟩:=hc.h2 i i3;have hb:=hg.b r hr;refine⟨r,hr,pL.2 ⟨i,h.1,?_,?_⟩⟩
    ·have:=h.2;omega
    grind [Ve.h1,W3]
 rw[<-e];exact(Ma l [] fun r hr=>(hg.b r hr).2.1).symm
structure qg(l:List RG)(f:Int->Int)(k:Nat):Prop where
 b:∀ r∈l,0<=r.fr/\0<r.n/\r.fr+r.n<=k
 s:l.Pairwise fun x y=>x.fr+x.n<=y.fr
 h1:∀ r∈l,∀ i,r.has i->f i=kd r.w
 h2:∀ i:Int,0<=i->i<k->f i≠0->∃ r∈l,r.has i
def Mb{f:Int->Int}(hf:Vd f):∀ k:Nat,qg (su f k) f k
 | 0=>⟨by intro r h;simp[su,nO,mg]at h,by simp[su,nO,mg],by intro r h;simp[su,nO,mg]at h,fun i a b=>by simp at b;omega⟩
 | k+1=>by
  have ih:=Mb hf k;rw[EA];split
  ·rename_i c;refine⟨fun r hr=> ?_,ih.s,ih.h1,fun i a b d=> ?_⟩
   ·have:=ih.b r hr;omega
   grind [qg.h2]
  ·rename_i c;have hk:f k=kd (decide (f k=2)):=by
    rcases hf.v k with q | q | q
    ·omega
    ·rw[q];rfl
    ·rw[q];rfl
   rcases Nat.eq_zero_or_pos (su f k).length with q | q
   ·rw[List.length_eq_zero_iff]at q;rw[q,QX];rw[q]at ih;refine⟨fun r hr=> ?_,sq,fun r hr i hi=> ?_,fun i a b d=> ?_⟩
    ·grind
    ·simp only[List.mem_singleton]at hr;subst hr;have:i=k:=by have:=hi.1;have:=hi.2;simp at*;omega
     grind
    ·by_cases e:i=k
     ·subst e;exact⟨_,List.mem_singleton.2 rfl,sq,eI⟩
     grind [qg.h2]
   ·obtain⟨l',x,hx⟩:=wV q;rw[hx]at ih ⊢;rw[L9];have hbx:=ih.b x sq;have hsx:=(List.pairwise_append.1 ih.s).2.2;split
    ·rename_i d;obtain⟨d1,d2⟩:=d;refine⟨fun r hr=> ?_,?_,fun r hr i hi=> ?_,fun i a b e=> ?_⟩
     ·rcases List.mem_append.1 hr with hr | hr
      ·have:=ih.b r (by simp[hr]);omega
      grind
     ·rw[List.pairwise_append];refine⟨(List.pairwise_append.1 ih.s).1,sq,fun y hy z hz=> ?_⟩;grind
     ·rcases List.mem_append.1 hr with hr | hr
      ·grind [qg.h1]
      ·simp only[List.mem_singleton]at hr;subst hr;have h1:=hi.1;have h2:=hi.2;simp at h1 h2 d1;by_cases e:i=k
       ·grind
       ·exact ih.h1 x sq i ⟨h1,og⟩
     ·by_cases e2:i=k
      ·refine⟨_,List.mem_append.2 (.inr (List.mem_singleton.2 rfl)),?_,?_⟩;all_goals grind
      ·obtain⟨r,hr,hh⟩:=ih.h2 i a og e;rcases List.mem_append.1 hr with hr | hr
       ·grind
       ·simp only[List.mem_singleton]at hr;subst hr;exact⟨_,List.mem_append.2 (.inr (List.mem_singleton.2 rfl)),hh.1,by have:=hh.2;simp;omega⟩
    ·rename_i d;have mI:∀ r,r∈l'++[x,⟨(k:Int),1,decide (f k=2)⟩]↔r∈l'++[x]\/r=⟨(k:Int),1,decide (f k=2)⟩:=fun r=>by simp[or_assoc]
     refine⟨fun r hr=> ?_,?_,fun r hr i hi=> ?_,fun i a b e=> ?_⟩
     ·rcases(mI r).1 hr with hr | hr
      ·have:=ih.b r hr;omega
      grind
     ·rw[show l'++[x,(⟨(k:Int),1,decide (f k=2)⟩:RG)]=(l'++[x])++[⟨(k:Int),1,decide (f k=2)⟩]from sq,List.pairwise_append];refine⟨ih.s,sq,fun y hy z hz=> ?_⟩;simp only[List.mem_singleton]at hz;subst hz;exact(ih.b y hy).2.2
     ·rcases(mI r).1 hr with hr | hr
      ·grind [qg.h1]
      ·subst hr;have:i=k:=by have:=hi.1;have:=hi.2;simp at*;omega
       grind
     ·by_cases e2:i=k
      ·subst e2;exact⟨_,(mI _).2 (.inr rfl),sq,eI⟩
      grind [qg.h2]
def kE{f:Int->Int}(hf:Vd f):qg (aj f) f 16:=Mb hf 16
def abj{f:Int->Int}(hf:Vd f):GL (aj f):=⟨(kE hf).b,(kE hf).s.imp fun h=>.inl h⟩
def qh{f:Int->Int}(hf:Vd f):Ve (aj f) f:=⟨(kE hf).h1,fun i hi=>by
 refine(kE hf).h2 i ?_ ?_ hi
 ·by_cases q:i<0
  ·exact absurd (hf.out i (.inl q)) hi
  ·omega
 ·by_cases q:i<16
  ·exact q
  ·exact absurd (hf.out i (.inr og)) hi⟩
theorem QZ(l:List RG)(r:RG):(Gf l r).length<=l.length+1:=by
 grind [Gf]
def HI(f:Int->Int):∀ k,(su f k).length<=k
 | 0=>by simp[su,nO,mg]
 | k+1=>by
  rw[EA];have:=HI f k;grind [QZ]
def sx(f:Int->Int):(aj f).length<=16:=HI f 16
def zV{l:List RG}(h:0<=z/\z<l.length:=by omega):bG l z∈l:=by
 grind [bG]
def abk{l:List RG}{r:RG}(h:r∈l):∃ z:Int,(0<=z/\z<l.length)/\bG l z=r:=by
 obtain⟨k,hk,rfl⟩:=List.mem_iff_getElem.1 h;refine⟨k,og,?_⟩;grind [bG]
def atP(l:List RG)(n:Int)(k:Int):Prop:=(k= -1/\∀ r∈l,¬r.has n)\/((0<=k/\k<l.length)/\(bG l k).has n)
def vC{f:Int->Int}(hf:Vd f){n:Int}(h:atP (aj f) n k):(k<0↔f n=0)/\(0<=k->k<(aj f).length/\f n=kd (bG (aj f) k).w):=by
 rcases h with⟨rfl,h⟩ | ⟨h1,h2⟩
 ·refine⟨⟨fun _=> ?_,fun _=>og⟩,fun q=>og⟩;by_cases c:f n=0
  ·omega
  ·obtain⟨r,hr,hh⟩:=(qh hf).h2 n c;simp_all
 ·have e:=(qh hf).h1 _ (zV h1) n h2;grind [kd]
structure MS where
 az:Int->Int
 fr:Int->Int
 aU:Int->Bool
structure VB where
 bb:BB
 ja:Int->Int->Int
 rf:Int->Int
def Dg(b:Int->Int->Int)(f:Int)(row:Int->Int):Int->Int->Int:=fun x j=>if x=f then row j else b x j
def fR{α:Type}(f:Int->α)(a m:Int)(v:α):Int->α:=fun i=>if a<=i/\i<a+m then v else f i
def VB.take(v:VB):Int×Int×VB:=if(v.bb.take 0).2.1≠0 then(0,(v.bb.take 0).2.1,v)else((v.bb.take 0).1,0,⟨(v.bb.take 0).2.2,Dg v.ja (v.bb.take 0).1 fun _=>0,ad v.rf (v.bb.take 0).1 1⟩)
def VB.drop(v:VB)(f:Int):VB:=if v.rf f-1=0 then⟨(v.bb.qf f).2,v.ja,ad v.rf f (v.rf f-1)⟩else⟨v.bb,v.ja,ad v.rf f (v.rf f-1)⟩
def VB.copy(v:VB)(f g:Int):VB:=⟨v.bb,Dg v.ja f (v.ja g),v.rf⟩
def gQ(a m:Int):Prop:=a<0\/15<a\/m<1\/16-a<m
instance(a m:Int):Decidable (gQ a m):=by unfold gQ;infer_instance
def Oy(p:Int->Bool)(a:Int):Nat->Bool
 | 0=>false
 | k+1=>Oy p a k||p (a+k)
theorem yN{p:Int->Bool}{a:Int} :∀ {k:Nat},(∀ i:Int,a<=i->i<a+k->p i=false)->Oy p a k=false
 | 0,_=>rfl
 | k+1,h=>by rw[Oy,yN (k:=k) fun i h1 h2=>h i h1 og,h _ og og];rfl
theorem BI{p:Int->Bool}{a i:Int} :∀ {k:Nat},a<=i->i<a+k->p i=true->Oy p a k=true
 | 0,h1,h2,_=>by simp at h2;omega
 | k+1,h1,h2,h3=>by
  rw[Oy];by_cases c:i=a+k
  ·rw[<-c,h3];simp
  ·rw[BI (k:=k) h1 og h3];rfl
def MS.rz(m:MS)(a n:Int):Int:=if gQ a n then 1 else if Oy (fun i=>m.az i != 0) a n.toNat then 3 else 0
def MS.lM(m:MS)(a n:Int):Int:=if gQ a n then 1 else if Oy (fun i=>m.az i==0) a n.toNat then 10 else 0
def MS.lay(m:MS)(a n:Int)(w:Bool):MS:= {m with az:=fR m.az a n (kd w)}
def MS.map(m:MS)(a n:Int)(w:Bool):MS:=if m.rz a n=0 then m.lay a n w else m
def MS.mW(m:MS)(a n:Int)(w:Bool):MS:=if m.lM a n=0 then m.lay a n w else m
def Z1(fr:Int->Int)(x:Int×VB)(i:Int):Int×VB:=if 0<fr i then(x.1+1,x.2.drop (fr i-1))else x
def lN(p:Int->Bool)(a:Int):Nat->List Int
 | 0=>[]
 | k+1=>lN p a k++(if p (a+k)then [a+k]else [])
def Ju(v:VB)(fr:Int->Int)(a:Int):Nat->Int×VB
 | 0=>(0,v)
 | k+1=>Z1 fr (Ju v fr a k) (a+k)
def vD(v:VB)(fr:Int->Int)(l:List Int):Int×VB:=l.foldl (Z1 fr) (0,v)
theorem Mc(v:VB){fr:Int->Int}{p:Int->Bool}(hp:∀ i,p i=false->fr i=0)(a:Int):∀ k,Ju v fr a k=vD v fr (lN p a k)
 | 0=>rfl
 | k+1=>by
  rw[Ju,Mc v hp a k,lN,vD,vD,List.foldl_append];cases h:p (a+k)with
  | true=>simp
  | false=>simp[Z1,hp _ h]
theorem pM{p:Int->Bool}{a i:Int} :∀ {k:Nat},i∈lN p a k↔(a<=i/\i<a+k)/\p i=true
 | 0=>by simp only[lN,List.not_mem_nil,false_iff];rintro⟨⟨h1,h2⟩,_⟩;simp at h2;omega
 | k+1=>by
  rw[lN,List.mem_append,pM (k:=k)];grind
def tS{p:Int->Bool}{a:Int} :∀ k,(lN p a k).Pairwise (fun x y=>x<y)
 | 0=>.nil
 | k+1=>by
  rw[lN,List.pairwise_append];refine⟨tS k,by split<;>simp,fun x hx y hy=> ?_⟩;have:=pM.1 hx;split at hy
  ·simp only[List.mem_singleton]at hy;omega
  ·simp at hy
def MS.dM(v:VB)(m:MS)(a n:Int):Int×Int×VB×MS:=if gQ a n then(0,1,v,m)else
 ((Ju v m.fr a n.toNat).1,0,(Ju v m.fr a n.toNat).2,⟨fR m.az a n 0,fR m.fr a n 0,fR m.aU a n false⟩)
def MS.tT(m:MS)(a:Int)(w:Bool):Bool:=decide (0<=a/\a<128)&&(m.az (a/8)==2||(m.az (a/8)==1&& !w))
def MS.my(m:MS)(a:Int):Bool:=m.tT a false&&m.fr (a/8)==0
def MS.EB(m:MS)(n f:Int):MS:= {m with fr:=ad m.fr n (f+1),aU:=ad m.aU n true}
def MS.cD(v:VB)(m:MS)(a:Int)(w:Bool):Int×Int×VB×MS:=
 if m.tT a w=false then(0,10,v,m)
 else if m.fr (a/8)=0 then(if v.take.2.1≠0 then(0,v.take.2.1,v,m)else(v.take.1,0,v.take.2.2,m.EB (a/8) v.take.1))
 else if w=false\/m.aU (a/8)=true then(m.fr (a/8)-1,0,v,m)
 else if v.rf (m.fr (a/8)-1)<=1 then(m.fr (a/8)-1,0,v,{m with aU:=ad m.aU (a/8) true})
 else if v.take.2.1≠0 then(0,v.take.2.1,v,m)
 else(v.take.1,0,(v.take.2.2.copy v.take.1 (m.fr (a/8)-1)).drop (m.fr (a/8)-1),m.EB (a/8) v.take.1)
def MS.load(v:VB)(m:MS)(a:Int):Int×Int×VB×MS:=let t:=m.cD v a false
 if t.2.1≠0 then(0,t.2.1,t.2.2)else(t.2.2.1.ja t.1 (a%8),0,t.2.2)
def MS.store(v:VB)(m:MS)(a b:Int):Int×VB×MS:=let t:=m.cD v a true
 if t.2.1≠0 then(t.2.1,t.2.2)else(0,⟨t.2.2.1.bb,bW t.2.2.1.ja t.1 (a%8) b,t.2.2.1.rf⟩,t.2.2.2)
def zW(rf fr:Int->Int):Nat->Int->Int
 | 0=>rf
 | k+1=>if 0<fr k then ad (zW rf fr k) (fr k-1) (zW rf fr k (fr k-1)+1)else zW rf fr k
def MS.bare(m:MS):MS:= {m with aU:=fun _=>false}
def VB.jo(v:VB)(m:MS):VB:= {v with rf:=zW v.rf m.fr 16}
def sy(fr:Int->Int):Nat->Int
 | 0=>0
 | k+1=>sy fr k+(if 0<fr k then 1 else 0)
def MS.gk(m:MS):Int:=sy m.fr 16
def MS.nil:MS:=⟨fun _=>0,fun _=>0,fun _=>false⟩
def Jv(fr:Int->Int):∀ k:Nat,0<=sy fr k/\sy fr k<=k
 | 0=>by simp[sy]
 | k+1=>by have:=Jv fr k;rw[sy];split<;>omega
theorem HJ(fr:Int->Int)(h:0<=i):sy fr (i+1).toNat=sy fr i.toNat+(if 0<fr i then 1 else 0):=by
 rw[show(i+1).toNat=i.toNat+1 from og,sy,show((i.toNat:Nat):Int)=i from og]
structure MS.Ok (m:MS):Prop where
 f:Vd m.az
 lo:∀ i,0<=m.fr i/\m.fr i<=64
 un:∀ i,m.az i=0->m.fr i=0
 ow:∀ i,m.fr i=0->m.aU i=false
 inj:∀ i j,0<m.fr i->m.fr i=m.fr j->i=j
structure VB.Ok (v:VB):Prop where
 bb:v.bb.Inv
 rf:∀ f,0<=v.rf f/\v.rf f<=100000
 ja:∀ f j,0<=v.ja f j/\v.ja f j<256
def MS.In(m:MS)(v:VB):Prop:=∀ i,0<m.fr i->1<=v.rf (m.fr i-1)
theorem Vd.fR{f:Int->Int}(h:Vd f){a n:Int}(hb:¬gQ a n){v:Int}(hv:v=0\/v=1\/v=2):Vd (Go.X.Vm.fR f a n v):=by
 unfold gQ at hb;refine⟨fun i=> ?_,fun i hi=> ?_⟩
 ·unfold Go.X.Vm.fR;split
  ·exact hv
  ·exact h.v i
 ·unfold Go.X.Vm.fR;rw[if_neg og];exact h.out i hi
def W4(w:Bool):kd w=0\/kd w=1\/kd w=2:=by cases w<;>simp[kd]
theorem MS.Ok.nil:MS.nil.Ok:=⟨⟨fun _=>.inl rfl,fun _ _=>rfl⟩,fun _=>by simp[MS.nil],fun _ _=>rfl,fun _ _=>rfl,fun i j h=>by simp[MS.nil]at h⟩
theorem MS.Ok.lay{m:MS}(h:m.Ok){a n:Int}(hb:¬gQ a n)(w:Bool):(m.lay a n w).Ok:=
 ⟨h.f.fR hb (W4 w),h.lo,fun i hi=>h.un i (by
  simp only[MS.lay,fR]at hi
  split at hi
  ·exact absurd hi (QY w)
  ·exact hi),h.ow,h.inj⟩
theorem abl{m:MS}{n:Int}(h:m.rz a n=0):¬gQ a n:=by
 grind [MS.rz]
theorem W5{m:MS}{n:Int}(h:m.lM a n=0):¬gQ a n:=by
 grind [MS.lM]
theorem MS.Ok.map{m:MS}(h:m.Ok)(a n:Int)(w:Bool):(m.map a n w).Ok:=by
 grind [MS.map,MS.Ok.lay,abl]
theorem MS.Ok.mW{m:MS}(h:m.Ok)(a n:Int)(w:Bool):(m.mW a n w).Ok:=by
 grind [MS.mW,MS.Ok.lay,W5]
theorem MS.W6(m:MS)(a n:Int)(w:Bool):(m.map a n w).fr=m.fr/\(m.map a n w).aU=m.aU:=by unfold MS.map;split<;>exact⟨rfl,rfl⟩
theorem MS.Q3(m:MS)(a n:Int)(w:Bool):(m.mW a n w).fr=m.fr/\(m.mW a n w).aU=m.aU:=by unfold MS.mW;split<;>exact⟨rfl,rfl⟩
def nq(a n:Int)(r:RG):List RG:=if min (r.fr+r.n) (a+n)<=max r.fr a then [r]else
 (if r.fr<max r.fr a then [⟨r.fr,max r.fr a-r.fr,r.w⟩]else [])++(if min (r.fr+r.n) (a+n)<r.fr+r.n then [⟨min (r.fr+r.n) (a+n),r.fr+r.n-min (r.fr+r.n) (a+n),r.w⟩]else [])
def kj(a:Int):Nat->List Int
 | 0=>[]
 | k+1=>kj a k++[a+k]
def wW(a n:Int)(r:RG):List Int:=kj (max r.fr a) (min (r.fr+r.n) (a+n)-max r.fr a).toNat
theorem sB{a i:Int} :∀ {k:Nat},i∈kj a k↔a<=i/\i<a+k
 | 0=>by simp only[kj,List.not_mem_nil,false_iff];rintro⟨h1,h2⟩;simp at h2;omega
 | k+1=>by
  rw[kj,List.mem_append,sB (k:=k),List.mem_singleton];omega
def zX{a:Int} :∀ k,(kj a k).Pairwise (fun x y=>x<y)
 | 0=>.nil
 | k+1=>by
  rw[kj,List.pairwise_append];refine⟨zX k,sq,fun x hx y hy=> ?_⟩;have:=sB.1 hx;simp only[List.mem_singleton]at hy;omega
theorem BJ(a:Int):∀ k,(kj a k).length=k
 | 0=>rfl
 | k+1=>by rw[kj,List.length_append,BJ a k];rfl
def Q4{n:Int}{r q:RG}(hn:0<n)(hr:0<r.n)(h:q∈nq a n r):0<q.n/\r.fr<=q.fr/\q.fr+q.n<=r.fr+r.n/\q.w=r.w/\(q.fr+q.n<=a\/a+n<=q.fr):=by
 grind [nq]
theorem abm{a n:Int}{r:RG}{i:Int}(hr:r.has i)(h:i<a\/a+n<=i):∃ q∈nq a n r,q.has i:=by
 obtain⟨h1,h2⟩:=hr;unfold nq;split
 ·simp_all[RG.has]
 ·rename_i c;by_cases d:i<max r.fr a
  ·refine⟨⟨r.fr,max r.fr a-r.fr,r.w⟩,List.mem_append.2 (.inl ?_),h1,?_⟩;all_goals grind
  ·refine⟨⟨min (r.fr+r.n) (a+n),r.fr+r.n-min (r.fr+r.n) (a+n),r.w⟩,List.mem_append.2 (.inr ?_),?_,?_⟩;all_goals grind
def W7{n:Int}{r:RG} :(nq a n r).Pairwise (fun x y=>x.fr+x.n<=y.fr):=by
 unfold nq;split
 ·simp
 ·rw[List.pairwise_append];refine⟨by split<;>simp,by split<;>simp,fun x hx y hy=> ?_⟩;grind
def Oz{l:List RG}{f:Int->Int}{n:Int}(hl:qg l f 16)(hn:0<n):(l.flatMap (nq a n)).Pairwise (fun x y=>x.fr+x.n<=y.fr)/\(∀ r∈l.flatMap (nq a n),(0<=r.fr/\0<r.n/\r.fr+r.n<=16)/\(r.fr+r.n<=a\/a+n<=r.fr)):=by
 constructor
 ·rw[List.pairwise_flatMap];refine⟨fun _ _=>W7,hl.s.imp_of_mem ?_⟩;grind [nq]
 ·intro r hr;obtain⟨x,hx,h⟩:=List.mem_flatMap.1 hr;have h1:=Q4 hn (hl.b x hx).2.1 h;have:=hl.b x hx;omega
def EC{l:List RG}{f:Int->Int}{a n:Int}(hl:qg l f 16)(hc:Ve l f)(hn:0<n):Ve (l.flatMap (nq a n)) (fR f a n 0):=by
 refine⟨fun r hr i hi=> ?_,fun i hi=> ?_⟩
 ·obtain⟨x,hx,h⟩:=List.mem_flatMap.1 hr;obtain⟨h1,h2,h3,h4,h5⟩:=Q4 hn (hl.b x hx).2.1 h;have hi1:=hi.1;have SD:=hi.2;unfold fR;rw[if_neg og,hc.h1 x hx i ⟨og,og⟩,h4]
 ·unfold fR at hi;split at hi
  ·omega
  ·obtain⟨r,hr,hh⟩:=hc.h2 i hi;grind [abm]
def HK{l:List RG}{f:Int->Int}{n:Int}(hl:qg l f 16)(hn:0<n):GL (l.flatMap (nq a n)):=by
 obtain⟨h1,h2⟩:=Oz (a:=a) hl hn;exact⟨fun r hr=>(h2 r hr).1,h1.imp fun h=>.inl h⟩
def Q5{l:List RG}{n:Int}{w:Bool}(hl:GL l)(hb:¬gQ a n)(h:∀ r∈l,r.fr+r.n<=a\/a+n<=r.fr):GL (l++[⟨a,n,w⟩]):=by
 unfold gQ at hb;refine⟨fun r hr=> ?_,?_⟩
 ·rcases List.mem_append.1 hr with hr | hr
  ·exact hl.b r hr
  grind
 grind [GL.p]
def Me{l:List RG}{f g:Int->Int}{n:Int}{w:Bool}(hc:Ve l f)(h:∀ r∈l,r.fr+r.n<=a\/a+n<=r.fr)(hg:∀ i,¬(a<=i/\i<a+n)->g i=f i):Ve (l++[⟨a,n,w⟩]) (fR g a n (kd w)):=by
 refine⟨fun r hr i hi=> ?_,fun i hi=> ?_⟩
 ·have h1:=hi.1;have h2:=hi.2;grind [fR,Ve.h1]
 ·by_cases c:a<=i/\i<a+n
  ·exact⟨_,List.mem_append.2 (.inr (List.mem_singleton.2 rfl)),c.1,c.2⟩
  ·unfold fR at hi;rw[if_neg c,hg i c]at hi;obtain⟨r,hr,hh⟩:=hc.h2 i hi;grind
theorem Tv{f:Int->Int}(hf:Vd f){n:Int}(hb:¬gQ a n):(aj f).flatMap (wW a n)=lN (fun i=>f i != 0) a n.toNat:=by
 unfold gQ at hb;have hl:=kE hf;refine tQ (fun i=>i) ?_ (tS _) fun i=> ?_
 ·rw[List.pairwise_flatMap];refine⟨fun r _=>zX _,hl.s.imp_of_mem ?_⟩;grind [sB,wW]
 ·rw[List.mem_flatMap,pM];constructor
  ·rintro⟨r,hr,h⟩;have h1:=sB.1 h;have e:=(qh hf).h1 r hr i ⟨og,og⟩;grind [QY]
  ·rintro⟨h1,h2⟩;simp only[bne_iff_ne,ne_eq]at h2;obtain⟨r,hr,hh⟩:=(qh hf).h2 i h2;have a1:=hh.1;have a2:=hh.2;grind [sB,wW]
def HL{p:Int->Bool}{a:Int} :∀ k,(lN p a k).length<=k
 | 0=>by simp[lN]
 | k+1=>by
  have:=HL (p:=p) (a:=a) k;grind [lN]
theorem abn{l:List RG}(h:0<=i/\i<l.length):l[i.toNat]? =some (bG l i):=by
 grind [bG]
def afj(q:Prop)[Decidable q](r:RG):(if q then [r]else []).length<=1:=by split<;>simp
end Go.X.Vm
