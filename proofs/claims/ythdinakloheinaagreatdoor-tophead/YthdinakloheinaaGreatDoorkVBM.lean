import Derived.Test.YthdinakloheinaaGreatDoorXQ
set_option linter.all false
namespace Go.X.Gr
open Go Go.X
variable{k m n p:Int}
structure TG where
 aa:Int->Bool
 ax:Int->Int
 mp:Int->Int
 mg:Int->Int
 pr:Int->Int
 pg:Int->Int
def je(ax:Int->Int):Nat->Int->List Int
 | 0,_=>[]
 | k+1,n=>if n<0 then []else n::je ax k (ax n)
def kK(ax:Int->Int):Int->List Int->Prop
 | n,[]=>n<0
 | n,x::r=>x=n/\0<=n/\n<10/\kK ax (ax n) r
theorem kK.S8{ax:Int->Int} :∀ {n:Int} {l l':List Int},kK ax n l->kK ax n l'->l=l'
 | _,[],[],_,_=>rfl
 | _,[],_::_,h,k=>absurd h (by have:=k.2.1;simp only[kK];omega)
 | _,_::_,[],h,k=>absurd k (by have:=h.2.1;simp only[kK];omega)
 | _,_::_,_::_,⟨h1,_,_,h2⟩,⟨k1,_,_,k2⟩=>by subst h1;subst k1;rw[kK.S8 h2 k2]
theorem kK.range{ax:Int->Int} :∀ {n:Int} {l:List Int},kK ax n l->∀ x∈l,0<=x/\x<10
 | _,[],_,_,h=>by simp at h
 | _,_::_,⟨h1,h2,h3,h4⟩,x,hx=>by
  rcases List.mem_cons.1 hx with rfl | hx
  ·subst h1;exact⟨h2,h3⟩
  ·exact kK.range h4 x hx
theorem kK.congr{ax par':Int->Int} :∀ {n:Int} {l:List Int},kK ax n l->(∀ x∈l,par' x=ax x)->kK par' n l
 | _,[],h,_=>h
 | _,x::r,⟨h1,h2,h3,h4⟩,hc=>by
  subst h1;refine⟨rfl,h2,h3,?_⟩;rw[hc x sq];exact kK.congr h4 fun y hy=>hc y (List.mem_cons_of_mem _ hy)
abbrev Re:= {x:Int//0<=x/\x<10}
def ng(l:List Re):List Int:=l.map (·.1)
theorem Ff(l:List Re)(x:Re):ng (l++[x])=ng l++[x.1]:=by simp[ng]
def tv:∀ (l:List Int),(∀ x∈l,0<=x/\x<10)->∃ l':List Re,ng l'=l
 | [],_=>⟨[],rfl⟩
 | x::r,h=>by
  obtain⟨r',hr⟩:=tv r fun y hy=>h y (List.mem_cons_of_mem _ hy);exact⟨⟨x,h x sq⟩::r',by simp[ng]at*;exact hr⟩
def eZ(f:Int->Int):Nat->Int
 | 0=>0
 | k+1=>eZ f k+f (k:Int)
def aeu(p:Int->Bool):Nat->List Int
 | 0=>[]
 | k+1=>aeu p k++if p (k:Int)=true then [(k:Int)]else []
structure GV where
 ax:Int
 mp:Int
 mg:Int
 pr:Int
 pg:Int
def GV.cQ(g:GV):Array Value:= #[iI g.ax,iI g.mp,iI g.mg,iI g.pr,iI g.pg]
def GV.room(g:GV)(p m:Int):Bool:=(decide (p=0)||decide (g.mp<0)||decide (g.pr+p<=g.mp))&&(decide (m=0)||decide (g.mg<0)||decide (g.pg+m<=g.mg))
namespace TG
def gv(s:TG)(n:Int):GV:=⟨s.ax n,s.mp n,s.mg n,s.pr n,s.pg n⟩
def Er(s:TG)(n:Int)(g:GV):TG:=⟨s.aa,ad s.ax n g.ax,ad s.mp n g.mp,ad s.mg n g.mg,ad s.pr n g.pr,ad s.pg n g.pg⟩
def cF(s:TG)(n:Int):List Int:=je s.ax 5 n
def cI(s:TG)(n:Int):Int:=if n<0\/10<=n then 1 else if s.aa n=true then 0 else 2
def V6(p m:Int):Int:=if p<0\/20<p\/m<0\/64<m then 1 else 0
def room(s:TG)(p m n:Int):Bool:=(s.gv n).room p m
def free(s:TG):Option Nat:=dv (fun n=> !s.aa n) 10
def put(s:TG)(k p:Int):TG:=⟨ad s.aa k true,ad s.ax k p,ad s.mp k (-1),ad s.mg k (-1),ad s.pr k 0,ad s.pg k 0⟩
def Gz(s:TG)(k:Int):TG:=⟨ad s.aa k false,ad s.ax k 0,ad s.mp k 0,ad s.mg k 0,ad s.pr k 0,ad s.pg k 0⟩
def Es(s:TG)(p:Int):Int:=if s.cI p≠0 then s.cI p else if(s.cF p).length=4 then 7 else if s.free=none then 4 else 0
def qG(s:TG)(p:Int):Int:=if s.Es p=0 then((s.free.getD 0:Nat):Int)else 0
def add(s:TG)(p:Int):TG:=if s.Es p=0 then s.put (s.qG p) p else s
def below(s:TG)(n:Int):Prop:=∃ k:Int,0<=k/\k<10/\s.aa k=true/\s.ax k=n
def lay(s:TG)(l:List Int)(p m:Int):TG:= {s with pr:=fun y=>s.pr y+p*(l.count y:Int),pg:=fun y=>s.pg y+m*(l.count y:Int)}
def nw(s:TG)(n p m:Int):Int:=if s.cI n≠0 then s.cI n else V6 p m
def cY(s:TG)(n p m:Int):Int:=if s.nw n p m≠0 then s.nw n p m else if(s.cF n).all (s.room p m)=true then 0 else 6
def cr(s:TG)(n p m:Int):TG:=if s.cY n p m=0 then s.lay (s.cF n) p m else s
def gx(s:TG)(f:Int->Int)(n k:Int):Int:=if s.aa k=true/\s.ax k=n then f k else 0
def left(s:TG)(f:Int->Int)(n:Int):Int:=f n-eZ (s.gx f n) 10
def gi(s:TG)(n p m:Int):Int:=if s.nw n p m≠0 then s.nw n p m else if p<=s.left s.pr n/\m<=s.left s.pg n then 0 else 8
def fU(s:TG)(n p m:Int):TG:=if s.gi n p m=0 then s.lay (s.cF n) (-p) (-m)else s
def S9(s:TG)(n p m:Int):Int:=if s.cI n≠0 then s.cI n else if p< -1\/20<p\/m< -1\/64<m then 1 else 0
def xe(s:TG)(n p m:Int):TG:=if s.S9 n p m=0 then {s with mp:=ad s.mp n p,mg:=ad s.mg n m} else s
def iM(s:TG)(a b p m:Int):Int:=if s.cI b≠0 then s.cI b else if s.gi a p m≠0 then s.gi a p m else(s.fU a p m).cY b p m
def move(s:TG)(a b p m:Int):TG:=if s.cI b≠0\/s.gi a p m≠0 then s else if(s.fU a p m).cY b p m=0 then(s.fU a p m).cr b p m else s
def gj(s:TG)(n p m:Int):Option Int:=if s.nw n p m≠0 then none else(s.cF n).find? fun x=> !s.room p m x
def under(s:TG)(n o:Int):Bool:=if s.cI n≠0 then false else decide (o∈s.cF n)
def all(s:TG):List Int:=aeu s.aa 10
structure Ok (s:TG):Prop where
 nU:s.aa 0=true/\s.ax 0= -1
 tA:∃ d:Int->Nat,d 0=1/\∀ n,0<=n->n<10->s.aa n=true->1<=d n/\d n<=4/\(n≠0->0<=s.ax n/\s.ax n<10/\s.aa (s.ax n)=true/\d n=d (s.ax n)+1)
def Ta(s:TG)(n:Int):0<=s.cI n:=by unfold cI;split<;>(try split)<;>omega
theorem vW{s:TG}(h:s.cI n=0):0<=n/\n<10/\s.aa n=true:=by
 grind [cI]
def abb{s:TG}(h0:0<=n)(h1:n<10)(h2:s.aa n=true):s.cI n=0:=by
 grind [cI]
def vw(s:TG)(n:Int):s.cI n=0↔0<=n/\n<10/\s.aa n=true:=⟨vW,fun h=>abb h.1 h.2.1 h.2.2⟩
def Cm(p m:Int):V6 p m=0↔0<=p/\p<=20/\0<=m/\m<=64:=by
 grind [V6]
def I4{s:TG}(h:s.nw n p m=0):(0<=n/\n<10/\s.aa n=true)/\0<=p/\p<=20/\0<=m/\m<=64:=by
 unfold nw at h;split at h
 ·omega
 ·rename_i h1;exact⟨vW og,(Cm p m).1 h⟩
def Ok.Tc{s:TG}(h:s.Ok):∀ (f k:Nat),k<=f->∀ d:Int->Nat,d 0=1->(∀ n,0<=n->n<10->s.aa n=true->1<=d n/\d n<=4/\(n≠0->0<=s.ax n/\s.ax n<10/\s.aa (s.ax n)=true/\d n=d (s.ax n)+1))->
  ∀ n,0<=n->n<10->s.aa n=true->d n=k->kK s.ax n (je s.ax f n)/\(je s.ax f n).length=k/\∀ x∈je s.ax f n,s.aa x=true
 | 0,k,hk,d,d0,hd,n,h0,h1,h2,h3=>by have:=(hd n h0 h1 h2).1;omega
 | f+1,k,hk,d,d0,hd,n,h0,h1,h2,h3=>by
  have h4:=hd n h0 h1 h2;unfold je;rw[if_neg og];by_cases hn:n=0
  ·subst hn;have hp:s.ax 0= -1:=h.nU.2;have e:je s.ax f (s.ax 0)=[]:=by rw[hp];cases f<;>simp[je]
   grind [kK]
  ·obtain⟨p0,p1,p2,p3⟩:=h4.2.2 hn;obtain⟨q1,q2,q3⟩:=Ok.Tc h f (k-1) og d d0 hd (s.ax n) p0 p1 p2 og;grind [kK]
theorem Ok.cF{s:TG}(h:s.Ok){n:Int}(h0:0<=n)(h1:n<10)(h2:s.aa n=true):kK s.ax n (s.cF n)/\(s.cF n).length<=4/\∀ x∈s.cF n,s.aa x=true:=by
 obtain⟨d,d0,hd⟩:=h.tA;have h3:=hd n h0 h1 h2;obtain⟨q1,q2,q3⟩:=h.Tc 5 (d n) og d d0 hd n h0 h1 h2 rfl;exact⟨q1,by unfold TG.cF;omega,q3⟩
theorem Td(s:TG)(l:List Int)(x p m:Int):s.lay (l++[x]) p m= {s.lay l p m with pr:=ad (s.lay l p m).pr x ((s.lay l p m).pr x+p),pg:=ad (s.lay l p m).pg x ((s.lay l p m).pg x+m)} :=by
 have h:∀ (f:Int->Int) (q:Int),(fun y=>f y+q*((l++[x]).count y:Int))=ad (fun y=>f y+q*(l.count y:Int)) x (f x+q*(l.count x:Int)+q):=fun f q=>by
  funext y;unfold ad;by_cases hy:y=x
  ·subst hy;rw[if_pos rfl,List.count_append,List.count_singleton_self];grind
  grind
 simp_all[lay]
def Xi(s:TG)(p m:Int):s.lay [] p m=s:=by simp[lay]
def bR(s:TG)(B:Int):Prop:=∀ n,0<=n->n<10-> -B<=s.pr n/\s.pr n<=B/\ -B<=s.pg n/\s.pg n<=B
theorem bR.mono{s:TG}{B B':Int}(h:s.bR B)(hb:B<=B'):s.bR B':=fun n h0 h1=>by have:=h n h0 h1;omega
def Nt{c K:Int}(hc:0<=c)(hp: -K<=p/\p<=K)(hn:c<=n)(hK:0<=K:=by omega): -(K*n)<=p*c/\p*c<=K*n:=by
 have h1:p*c<=K*c:=Int.mul_le_mul_of_nonneg_right hp.2 hc;have h2: -K*c<=p*c:=Int.mul_le_mul_of_nonneg_right hp.1 hc;have h3:K*c<=K*n:=Int.mul_le_mul_of_nonneg_left hn hK;grind
theorem bR.lay{s:TG}{B:Int}(h:s.bR B){l:List Int}(hl:l.length<=5){p m:Int}(hp: -20<=p/\p<=20)(hm: -64<=m/\m<=64):(s.lay l p m).bR (B+320):=fun n h0 h1=>by
 have h2:=h n h0 h1;have hc:(l.count n:Int)<=5:=by have:=List.count_le_length (a:=n) (l:=l);omega
 have h3:=Nt (p:=p) (c:=l.count n) (K:=20) og hp hc;have h4:=Nt (p:=m) (c:=l.count n) (K:=64) og hm hc;show-(B+320)<=s.pr n+p*(l.count n:Int)/\s.pr n+p*(l.count n:Int)<=B+320/\ -(B+320)<=s.pg n+m*(l.count n:Int)/\s.pg n+m*(l.count n:Int)<=B+320;omega
end TG
def I5(s:TG)(f:Int->Int)(n:Int)(h:0<=k):eZ (s.gx f n) (k+1).toNat=eZ (s.gx f n) k.toNat+s.gx f n k:=by
 rw[show(k+1).toNat=k.toNat+1 from og];grind [eZ]
def Cn{f:Int->Int}{B:Int} :∀ (k:Nat),(∀ j:Int,0<=j->j<k-> -B<=f j/\f j<=B)-> -(B*k)<=eZ f k/\eZ f k<=B*k
 | 0,_=>by simp[eZ]
 | k+1,h=>by
  have h1:=Cn k fun j h0 h1=>h j h0 og;grind [eZ]
def Ps{s:TG}{B:Int}(h:s.bR B)(hB:0<=B/\B<=1000000000000)(hn:0<=n/\n<10)(h0:0<=k)(hk:k<=10:=by omega):(-(B*10)<=eZ (s.gx s.pr n) k.toNat/\eZ (s.gx s.pr n) k.toNat<=B*10)/\(-(B*10)<=eZ (s.gx s.pg n) k.toNat/\eZ (s.gx s.pg n) k.toNat<=B*10)/\s.bR B:=by
 have hm:B*(k.toNat:Int)<=B*10:=Int.mul_le_mul_of_nonneg_left og hB.1;have h1:=Cn (f:=s.gx s.pr n) (B:=B) k.toNat (fun j j0 j1=>by
  have:=h j j0 og
  unfold TG.gx;split<;>omega)
 have h2:=Cn (f:=s.gx s.pg n) (B:=B) k.toNat (fun j j0 j1=>by
  have:=h j j0 og
  unfold TG.gx;split<;>omega)
 grind
namespace TG
theorem Ok.lay{s:TG}(h:s.Ok)(l:List Int)(p m:Int):(s.lay l p m).Ok:=⟨h.nU,h.tA⟩
theorem Ok.fU{s:TG}(h:s.Ok){n p m:Int} :(s.fU n p m).Ok:=by
 unfold TG.fU;split
 ·exact h.lay _ _ _
 omega
theorem Ok.cr{s:TG}(h:s.Ok){n p m:Int} :(s.cr n p m).Ok:=by
 unfold TG.cr;split
 ·exact h.lay _ _ _
 ·exact h
def Bn{s:TG}(h:s.gi n p m=0):(0<=n/\n<10/\s.aa n=true)/\0<=p/\p<=20/\0<=m/\m<=64:=by
 unfold gi at h;split at h
 ·omega
 ·exact I4 og
def zj{s:TG}(h:s.cY n p m=0):(0<=n/\n<10/\s.aa n=true)/\0<=p/\p<=20/\0<=m/\m<=64:=by
 unfold cY at h;split at h
 ·omega
 ·exact I4 og
theorem bR.fU{s:TG}{B:Int}(h:s.bR B)(hO:s.Ok)(n p m:Int):(s.fU n p m).bR (B+320):=by
 unfold TG.fU;split
 ·rename_i h0;obtain⟨⟨n0,n1,n2⟩,p0,p1,m0,m1⟩:=Bn h0;have:=(hO.cF n0 n1 n2).2.1;exact h.lay og og og
 ·exact h.mono og
theorem bR.cr{s:TG}{B:Int}(h:s.bR B)(hO:s.Ok)(n p m:Int):(s.cr n p m).bR (B+320):=by
 unfold TG.cr;split
 ·rename_i h0;obtain⟨⟨n0,n1,n2⟩,p0,p1,m0,m1⟩:=zj h0;have:=(hO.cF n0 n1 n2).2.1;exact h.lay og og og
 ·exact h.mono og
end TG
namespace TG
def zk(s:TG)(n:Int):Bool:=(List.range 10).any (fun k=>s.aa (k:Int)&&decide (s.ax (k:Int)=n))
def Pt(s:TG)(n:Int):s.zk n=true↔s.below n:=by
 unfold zk below;simp only[List.any_eq_true,List.mem_range,Bool.and_eq_true,decide_eq_true_eq];constructor
 ·grind
 ·rintro⟨k,h1,h2,h3,h4⟩;refine⟨k.toNat,og,?_⟩;grind
theorem Xj{s:TG}(h0:0<=k)(h1:k<10)(h2:s.aa k=true)(h3:s.ax k=n):s.zk n=true:=(s.Pt n).2 ⟨k,h0,h1,h2,h3⟩
def fA(s:TG)(n:Int):Int:=if s.cI n≠0 then s.cI n else if n=0\/0<s.pr n\/0<s.pg n\/s.zk n=true then 5 else 0
def eS(s:TG)(n:Int):TG:=if s.fA n=0 then s.Gz n else s
def Co(s:TG)(n:Int):Int:=if s.cI n≠0 then s.cI n else if n=0\/s.pr n≠0\/s.pg n≠0\/s.zk n=true then 5 else 0
def xf(s:TG)(n:Int):TG:=if s.Co n=0 then {s with aa:=ad s.aa n false} else s
def Fg{s:TG}(hn:∀ j:Int,0<=j->j<10->s.aa j=true):s.free=none:=
 dC fun j j0 j1=>by simp[hn j j0 j1]
end TG
def I6(g:GV)(q m:Int):g.room q m=true↔(q=0\/g.mp<0\/g.pr+q<=g.mp)/\(m=0\/g.mg<0\/g.pg+m<=g.mg):=by
 grind [GV.room]
def cb(s:TG)(i:Nat):Value:=
 if i%5=0/\i/5<10 then iI (s.ax ((i/5:Nat):Int))else
 if 1<=i/\(i-1)%5=0/\(i-1)/5<10 then iI (s.mp (((i-1)/5:Nat):Int))else
 if 2<=i/\(i-2)%5=0/\(i-2)/5<10 then iI (s.mg (((i-2)/5:Nat):Int))else
 if 3<=i/\(i-3)%5=0/\(i-3)/5<10 then iI (s.pr (((i-3)/5:Nat):Int))else
 if 4<=i/\(i-4)%5=0/\(i-4)/5<10 then iI (s.pg (((i-4)/5:Nat):Int))else
 if 50<=i/\(i-50)%1=0/\(i-50)/1<10 then .bool (s.aa (((i-50)/1:Nat):Int))else
 undef
def iC(s:TG)(z0:Int)(q0:0<=z0/\z0<10:=by omega):(((0+0)+z0.toNat*5)+0)<60/\cb s (((0+0)+z0.toNat*5)+0)=iI (s.ax z0):=by
 refine⟨og,?_⟩;unfold cb;rw[if_pos og];grind
def mu(s:TG)(z0:Int)(q0:0<=z0/\z0<10):(((0+0)+z0.toNat*5)+1)<60/\cb s (((0+0)+z0.toNat*5)+1)=iI (s.mp z0):=by
 refine⟨og,?_⟩;unfold cb;rw[if_neg og];rw[if_pos og];grind
def mv(s:TG)(z0:Int)(q0:0<=z0/\z0<10):(((0+0)+z0.toNat*5)+2)<60/\cb s (((0+0)+z0.toNat*5)+2)=iI (s.mg z0):=by
 refine⟨og,?_⟩;unfold cb;rw[if_neg og];grind
def gk(s:TG)(z0:Int)(q0:0<=z0/\z0<10:=by omega):(((0+0)+z0.toNat*5)+3)<60/\cb s (((0+0)+z0.toNat*5)+3)=iI (s.pr z0):=by
 refine⟨og,?_⟩;grind [cb]
def vX(s:TG)(z0:Int)(q0:0<=z0/\z0<10)(v:Int):(((0+0)+z0.toNat*5)+3)<60/\dL (cb s) (((0+0)+z0.toNat*5)+3) (iI (v))=cb ({s with pr:=ad s.pr z0 v}):=by
 refine⟨og,?_⟩;funext j;grind [dL,ad,cb]
def gm(s:TG)(z0:Int)(q0:0<=z0/\z0<10:=by omega):(((0+0)+z0.toNat*5)+4)<60/\cb s (((0+0)+z0.toNat*5)+4)=iI (s.pg z0):=by
 grind [cb]
def vY(s:TG)(z0:Int)(q0:0<=z0/\z0<10)(v:Int):(((0+0)+z0.toNat*5)+4)<60/\dL (cb s) (((0+0)+z0.toNat*5)+4) (iI (v))=cb ({s with pg:=ad s.pg z0 v}):=by
 refine⟨og,?_⟩;funext j;grind [dL,ad,cb]
def A5(s:TG)(z0:Int)(q0:0<=z0/\z0<10):((0+50)+z0.toNat*1)<60/\cb s ((0+50)+z0.toNat*1)= .bool (s.aa z0):=by
 grind [cb]
def A6(s:TG)(z0:Int)(q0:0<=z0/\z0<10)(v:Bool):((0+50)+z0.toNat*1)<60/\dL (cb s) ((0+50)+z0.toNat*1) (.bool (v))=cb ({s with aa:=ad s.aa z0 v}):=by
 grind [dL,ad,cb]
def Et(s:GV)(i:Nat):Value:=
 if i=0 then iI (s.ax)else
 if i=1 then iI (s.mp)else
 if i=2 then iI (s.mg)else
 if i=3 then iI (s.pr)else
 if i=4 then iI (s.pg)else
 undef
def qH(s:GV):(0+1)<5/\Et s (0+1)=iI (s.mp):=by
 grind [Et]
def fV(s:GV):(0+2)<5/\Et s (0+2)=iI (s.mg):=by
 grind [Et]
def Eu(s:GV):(0+3)<5/\Et s (0+3)=iI (s.pr):=by
 grind [Et]
def pW(s:GV):(0+4)<5/\Et s (0+4)=iI (s.pg):=by
 grind [Et]
def I7(s:TG)(z:Int)(h:0<=z/\z<10:=by omega):0+0+z.toNat*5+5<=60/\cZ (cb s) (0+0+z.toNat*5) 5= .agg (s.gv z).cQ:=by
 refine⟨og,?_⟩;have h0:=(iC s z h).2;have h1:=(mu s z h).2;have h2:=(mv s z h).2;have h3:=(gk s z h).2;have h4:=(gm s z h).2;simp only[cZ,List.range,List.range.loop,List.map_cons,List.map_nil];simp only[Nat.add_zero]at h0 ⊢;rw[h0,h1,h2,h3,h4];rfl
def Lw(s:TG):0+50+10<=60/\cZ (cb s) (0+50) 10= .agg (Wt s.aa 10):=by
 refine⟨og,?_⟩;rfl
theorem iL(C:Nat->Value):∀ (vs:List Value) (i j:Nat),j<i->cC C i vs j=C j
 | [],_,_,_=>rfl
 | v::r,i,j,h=>by
  unfold cC;rw[iL (dL C i v) r (i+1) j og];simp[dL];omega
theorem fN:∀ (vs:List Value) (C:Nat->Value) (i j:Nat) (v:Value),vs[j]? =some v->cC C i vs (i+j)=v
 | [],_,_,_,_,h=>by simp at h
 | u::r,C,i,0,v,h=>by
  have h2:u=v:=by simpa using h
  unfold cC;rw[iL _ _ _ _ og,<-h2];simp[dL]
 | u::r,C,i,j+1,v,h=>by
  unfold cC;have:=fN r (dL C i u) (i+1) j v (by simpa using h);rw[show i+1+j=i+(j+1)from og]at this;exact this
theorem jw:∀ (vs:List Value) (C:Nat->Value) (i j:Nat),i+vs.length<=j->cC C i vs j=C j
 | [],_,_,_,_=>rfl
 | v::r,C,i,j,h=>by
  simp only[List.length_cons]at h;unfold cC;rw[jw r (dL C i v) (i+1) j og];simp[dL];omega
def Pu(s:TG)(z:Int)(h:0<=z/\z<10)(g:GV):0+0+z.toNat*5+5<=60/\cC (cb s) (0+0+z.toNat*5) g.cQ.toList=cb (s.Er z g):=by
 refine⟨og,?_⟩;funext i;have hl:g.cQ.toList.length=5:=rfl;by_cases a1:i<0+0+z.toNat*5
 ·rw[iL _ _ _ _ a1];unfold cb;simp only[TG.Er];grind [ae]
 ·by_cases a2:i<0+0+z.toNat*5+5
  ·have h0:=(iC (s.Er z g) z h).2;have h1:=(mu (s.Er z g) z h).2;have h2:=(mv (s.Er z g) z h).2;have h3:=(gk (s.Er z g) z h).2;have h4:=(gm (s.Er z g) z h).2;simp only[TG.Er,aj]at h0 h1 h2 h3 h4;obtain⟨j,rfl⟩:∃ j,i=0+0+z.toNat*5+j:=⟨i-(0+0+z.toNat*5),og⟩;have hj:j=0\/j=1\/j=2\/j=3\/j=4:=og;rcases hj with rfl | rfl | rfl | rfl | rfl
   ·exact(fN g.cQ.toList _ _ 0 _ rfl).trans h0.symm
   ·exact(fN g.cQ.toList _ _ 1 _ rfl).trans h1.symm
   ·exact(fN g.cQ.toList _ _ 2 _ rfl).trans h2.symm
   ·exact(fN g.cQ.toList _ _ 3 _ rfl).trans h3.symm
   ·exact(fN g.cQ.toList _ _ 4 _ rfl).trans h4.symm
  ·rw[jw _ _ _ _ og];unfold cb;simp only[TG.Er];grind [ae]
def Te(g:GV):∀ i,i<5->cellsOf g.cQ i=Et g i:=fun i h=>match i,h with
 | 0,_=>rfl
 | 1,_=>rfl
 | 2,_=>rfl
 | 3,_=>rfl
 | 4,_=>rfl
 | k+5,h=>absurd h og
def GV.zero:GV:=⟨0,0,0,0,0⟩
def TG.dc:TG:=⟨fun _=>false,fun _=>0,fun _=>0,fun _=>0,fun _=>0,fun _=>0⟩
def TG.aev:TG:= {TG.dc with aa:=ad (fun _=>false) 0 true}
def TG.cK:TG:=TG.aev.Er 0 ⟨-1,-1,-1,0,0⟩
set_option maxRecDepth 20000 in def aew:∀ i,i<60->cellsOf #[iI 0,iI 0,iI 0,iI 0,iI 0,iI 0,iI 0,iI 0,iI 0,iI 0,iI 0,iI 0,iI 0,iI 0,iI 0,iI 0,iI 0,iI 0,iI 0,iI 0,iI 0,iI 0,iI 0,iI 0,iI 0,iI 0,iI 0,iI 0,iI 0,iI 0,iI 0,iI 0,iI 0,iI 0,iI 0,iI 0,iI 0,iI 0,iI 0,iI 0,iI 0,iI 0,iI 0,iI 0,iI 0,iI 0,iI 0,iI 0,iI 0,iI 0,.bool false,.bool false,.bool false,.bool false,.bool false,.bool false,.bool false,.bool false,.bool false,.bool false] i=cb TG.dc i:=fun i hi=>match i,hi with
 | 0,_=>rfl
 | 1,_=>rfl
 | 2,_=>rfl
 | 3,_=>rfl
 | 4,_=>rfl
 | 5,_=>rfl
 | 6,_=>rfl
 | 7,_=>rfl
 | 8,_=>rfl
 | 9,_=>rfl
 | 10,_=>rfl
 | 11,_=>rfl
 | 12,_=>rfl
 | 13,_=>rfl
 | 14,_=>rfl
 | 15,_=>rfl
 | 16,_=>rfl
 | 17,_=>rfl
 | 18,_=>rfl
 | 19,_=>rfl
 | 20,_=>rfl
 | 21,_=>rfl
 | 22,_=>rfl
 | 23,_=>rfl
 | 24,_=>rfl
 | 25,_=>rfl
 | 26,_=>rfl
 | 27,_=>rfl
 | 28,_=>rfl
 | 29,_=>rfl
 | 30,_=>rfl
 | 31,_=>rfl
 | 32,_=>rfl
 | 33,_=>rfl
 | 34,_=>rfl
 | 35,_=>rfl
 | 36,_=>rfl
 | 37,_=>rfl
 | 38,_=>rfl
 | 39,_=>rfl
 | 40,_=>rfl
 | 41,_=>rfl
 | 42,_=>rfl
 | 43,_=>rfl
 | 44,_=>rfl
 | 45,_=>rfl
 | 46,_=>rfl
 | 47,_=>rfl
 | 48,_=>rfl
 | 49,_=>rfl
 | 50,_=>rfl
 | 51,_=>rfl
 | 52,_=>rfl
 | 53,_=>rfl
 | 54,_=>rfl
 | 55,_=>rfl
 | 56,_=>rfl
 | 57,_=>rfl
 | 58,_=>rfl
 | 59,_=>rfl
 | k+60,h=>absurd h og
end Go.X.Gr

namespace Go.X.Vm
open Go Go.X
variable{a i k o v:Int}{f g:Int->Bool}{n t:Nat}
def mn(f:Int->Bool):Nat->Nat
 | 0=>0
 | n+1=>mn f n|||(if f n then 2^n else 0)
theorem iu(f:Int->Bool)(n j:Nat):(mn f n).testBit j=(decide (j<n)&&f j):=by
 induction n with
 | zero=>simp[mn]
 | succ n ih=>
  simp only[mn,Nat.testBit_or,ih];by_cases h:j=n
  ·grind
  ·grind
def Tf(f:Int->Bool)(n:Nat):mn f n<2^n:=by
 apply Nat.lt_pow_two_of_testBit;grind [iu]
theorem pD(h:∀ i:Int,0<=i->i<n->f i=g i):mn f n=mn g n:=by
 apply Nat.eq_of_testBit_eq;grind [iu]
theorem Fh{a:Nat}(ha:a<n)(hg:g a=true)(h:∀ i:Int,0<=i->i<n->¬i=a->g i=f i):mn f n|||2^a=mn g n:=by
 apply Nat.eq_of_testBit_eq;grind [iu]
theorem Ax{a:Nat}(ha:a<n)(hg:g a=false)(h:∀ i:Int,0<=i->i<n->¬i=a->g i=f i):lK (mn f n) (2^a)=mn g n:=by
 apply Nat.eq_of_testBit_eq;grind [iu,lK]
structure BB where
 bV:Int->Int
 tk:Int->Bool
def p2(k:Int):Int:=((2^k.toNat:Nat):Int)
def BB.at_(b:BB)(k i:Int):Bool:=decide (0<=k)&&decide (b.bV i=k+1)&& !b.tk i
def BB.gz(b:BB)(k:Int):Nat:=mn (b.at_ k) 64
structure PB where
 b:BB
 u:Int->Int
def BB.ed(b:BB):Int->Int:=fun i=>if b.tk i then b.bV i else 0
def BB.fv(b:BB):PB:=⟨b,b.ed⟩
def BB.gF(b:BB)(a:Int):BB:= {b with tk:=ad b.tk a true}
def BB.bare(b:BB)(a:Int):BB:= {b with tk:=ad b.tk a false}
def BB.split(b:BB)(a:Int):BB:= {b with bV:=ad (ad b.bV a (b.bV a-1)) (a+p2 (b.bV a-2)) (b.bV a-1)}
def BB.gG:Nat->BB->Int->BB
 | 0,b,_=>b
 | n+1,b,a=>BB.gG n (b.split a) a
def nN(a k:Int):Int:=if(a/p2 k)%2=1 then a-p2 k else a+p2 k
def BB.dw(b:BB)(a:Int):Int:=nN a (b.bV a-1)
def BB.jV(b:BB)(a:Int):BB:= {b with bV:=ad (ad b.bV (max a (b.dw a)) 0) (min a (b.dw a)) (b.bV a+1)}
def BB.jH(b:BB)(a:Int):Prop:=b.bV a<7/\b.bV (b.dw a)=b.bV a/\b.tk (b.dw a)=false
instance (b:BB) (a:Int):Decidable (b.jH a):=by unfold BB.jH;infer_instance
def BB.kL:Nat->BB->Int->BB
 | 0,b,_=>b
 | n+1,b,a=>if b.jH a then BB.kL n (b.jV a) (min a (b.dw a))else b
def BB.low(b:BB)(k:Int):Option Nat:=dv (b.at_ k) 64
def BB.pick(b:BB)(o:Int):Option (Nat×Nat):=match dv (fun k=>decide (o<=k)&&(b.low k).isSome) 7 with
 | none=>none
 | some k=>(b.low k).map fun i=>(k,i)
def BB.take(b:BB)(o:Int):Int×Int×BB:=if o<0\/6<o then(0,1,b)else match b.pick o with
 | none=>(0,4,b)
 | some (k,i)=>(i,0,BB.gG ((k:Int)-o).toNat (b.gF i) i)
def BB.is(b:BB)(a:Int):Int:=if a<0\/63<a then 1 else if b.tk a then 0 else 2
def BB.rI(b:BB)(a:Int):Int×BB:=if b.is a≠0 then(b.is a,b)else(0,BB.kL (7-b.bV a).toNat (b.bare a) a)
def eM(f:Int->Bool):Nat->List Int
 | 0=>[]
 | k+1=>eM f k++(if f k then [(k:Int)]else [])
def lq(f:Int->Bool):∀ k,(eM f k).length<=k
 | 0=>by simp[eM]
 | k+1=>by
  have:=lq f k;grind [eM]
def zi(f:Int->Bool)(h:0<=k):(f k=true->eM f (k+1).toNat=eM f k.toNat++[k])/\(f k=false->eM f (k+1).toNat=eM f k.toNat):=by
 have e:((k.toNat:Nat):Int)=k:=og;rw[show(k+1).toNat=k.toNat+1 from og];grind [eM]
def eZ(f:Int->Int):Nat->Int
 | 0=>0
 | n+1=>eZ f n+f n
def BB.room(b:BB)(i:Int):Int:=if 0<b.bV i/\b.tk i=false then p2 (b.bV i-1)else 0
def BB.left(b:BB):Int:=eZ b.room 64
def BB.cK:BB:=⟨ad (fun _=>0) 0 7,fun _=>false⟩
structure BB.Inv (b:BB):Prop where
 jA:∀ i,0<=b.bV i/\b.bV i<=7
 out:∀ i,i<0\/64<=i->b.bV i=0
 tk:∀ i,b.tk i=true->0<b.bV i
 al:∀ i,0<b.bV i->i%p2 (b.bV i-1)=0
 dis:∀ i j,0<b.bV i->i<j->j<i+p2 (b.bV i-1)->b.bV j=0
def vZ(k:Int):0<p2 k:=by
 have:=Nat.two_pow_pos k.toNat;unfold p2;omega
theorem ahl:p2 0=1:=rfl
theorem aex:p2 1=2:=rfl
theorem Xk:p2 2=4:=rfl
theorem aey:p2 3=8:=rfl
theorem Xl:p2 4=16:=rfl
theorem aez:p2 5=32:=rfl
theorem ahm:p2 6=64:=rfl
def uH(h:0<=k:=by omega):p2 (k+1)=2*p2 k:=by
 unfold p2;rw[show(k+1).toNat=k.toNat+1 from og,Nat.pow_succ];omega
theorem Fi(h:0<v)(h7:v<=7):v=1\/v=2\/v=3\/v=4\/v=5\/v=6\/v=7:=og
def Xm(h1:1<v)(h7:v<=7)(h:i%p2 (v-1)=0):i%p2 (v-2)=0/\(i+p2 (v-2))%p2 (v-2)=0:=by
 rcases Fi og h7 with rfl | rfl | rfl | rfl | rfl | rfl | rfl;all_goals grind [p2]
def abd(h1:0<v)(h7:v<=7)(h:i%p2 (v-1)=0)(hi:0<=i/\i<64):i+p2 (v-1)<=64:=by
 grind [aex,Xk,aey,Xl,aez,p2]
def Cp(h1:0<v)(h7:v<7)(h:a%p2 (v-1)=0)(hi:0<=a/\a<64):∃ l,0<=l/\l+p2 v<=64/\l%p2 v=0/\((a=l/\nN a (v-1)=l+p2 (v-1))\/(a=l+p2 (v-1)/\nN a (v-1)=l)):=by
 have e:=uH (k:=v-1);rw[show v-1+1=v from og]at e;unfold nN;by_cases c:(a/p2 (v-1))%2=1
 ·rw[if_pos c];refine⟨a-p2 (v-1),?_,?_,?_,.inr ⟨og,rfl⟩⟩;all_goals grind [Fi,p2]
 ·rw[if_neg c];refine⟨a,?_,?_,?_,.inl ⟨rfl,rfl⟩⟩;all_goals grind [Xk,Xl,p2]
def BB.Inv.zl{b:BB}(h:b.Inv)(hi:0<b.bV i:=by omega):0<=i/\i<64:=by
 grind [Inv]
def BB.Inv.fit{b:BB}(h:b.Inv)(hi:0<b.bV i):i+p2 (b.bV i-1)<=64:=abd hi (h.jA i).2 (h.al i hi) (h.zl hi)
theorem BB.Inv.cK:BB.cK.Inv where
 jA:=fun i=>by
  show 0<=(if i=0 then(7:Int)else 0)/\(if i=0 then(7:Int)else 0)<=7
  omega
 out:=fun i hi=>by show ad (fun _=>0) 0 7 i=0;rw[ae _ _ og]
 tk:=fun i hi=>by cases hi
 al:=fun i hi=>by
  have:i=0:=by
   apply Classical.byContradiction;intro c
   simp_all[BB.cK,ae]
  simp_all
 dis:=fun i j hi h1 h2=>by
  have:i=0:=by
   apply Classical.byContradiction;intro c
   simp_all[BB.cK,ae]
  subst this
  show ad (fun _=>(0:Int)) 0 7 j=0
  grind [ae]
theorem BB.Inv.gF{b:BB}(h:b.Inv){a:Int}(ha:0<b.bV a):(b.gF a).Inv:=
 ⟨h.jA,h.out,fun i hi=>by
  have:ad b.tk a true i=true:=hi
  by_cases c:i=a
  ·rw[c];exact ha
  ·rw[ae _ _ c]at this;exact h.tk i this,h.al,h.dis⟩
theorem BB.Inv.bare{b:BB}(h:b.Inv)(a:Int):(b.bare a).Inv:=
 ⟨h.jA,h.out,fun i hi=>by
  have:ad b.tk a false i=true:=hi
  by_cases c:i=a
  ·rw[c,aj]at this;cases this
  ·rw[ae _ _ c]at this;exact h.tk i this,h.al,h.dis⟩
def BB.Inv.apart{b:BB}(h:b.Inv){j:Int}(hi:0<b.bV i)(hj:0<b.bV j)(fM:¬i=j){x:Int}(h1:i<=x/\x<i+p2 (b.bV i-1))(h2:j<=x/\x<j+p2 (b.bV j-1)):False:=by
 by_cases c:i<j
 ·grind [Inv]
 ·have:=h.dis j i hj og og;omega
theorem BB.Inv.split{b:BB}(h:b.Inv){a:Int}(ha:1<b.bV a):(b.split a).Inv/\a+p2 (b.bV a-2)<64/\b.bV (a+p2 (b.bV a-2))=0/\(b.split a).bV a=b.bV a-1:=by
 have hal:=h.al a og;have hrn:=h.jA a;have vm:=h.zl (i:=a);have adT:=h.fit (i:=a) og;have e2:=uH (k:=b.bV a-2);rw[show b.bV a-2+1=b.bV a-1 from og]at e2;have hp:=vZ (b.bV a-2);have hz:=h.dis a (a+p2 (b.bV a-2)) og og og;have fM:¬a=a+p2 (b.bV a-2):=og;have aks:=Xm ha hrn.2 hal;have o1:∀ i,(b.split a).bV i=if i=a+p2 (b.bV a-2)then b.bV a-1 else if i=a then b.bV a-1 else b.bV i:=fun i=>rfl
 have oa:(b.split a).bV a=b.bV a-1:=by rw[o1,if_neg fM,if_pos rfl]
 refine⟨⟨fun i=> ?_,fun i hi=> ?_,fun i hi=> ?_,fun i hi=> ?_,fun i j hi h1 h2=> ?_⟩,og,hz,oa⟩
 ·rw[o1];have:=h.jA i;split;all_goals omega
 ·grind [Inv]
 ·grind [BB.split,Inv]
 ·rw[o1]at hi ⊢;by_cases c1:i=a+p2 (b.bV a-2);all_goals grind [Inv]
 ·rw[o1]at hi h2;by_cases c1:i=a+p2 (b.bV a-2)
  ·rw[if_pos c1,show b.bV a-1-1=b.bV a-2 from og]at h2;rw[o1,if_neg og,if_neg og];grind [BB.Inv.dis,Inv]
  ·rw[if_neg c1]at hi h2;by_cases c2:i=a
   ·rw[if_pos c2,show b.bV a-1-1=b.bV a-2 from og]at h2;rw[o1,if_neg og,if_neg og];grind [Inv]
   ·rw[if_neg c2]at hi h2;have n1:¬j=a+p2 (b.bV a-2):=fun e=>h.apart (i:=i) (j:=a) hi og c2 (x:=j) ⟨og,h2⟩ ⟨og,og⟩;have n2:¬j=a:=fun e=>h.apart (i:=i) (j:=a) hi og c2 (x:=j) ⟨og,h2⟩ ⟨og,og⟩;grind [Inv]
theorem BB.Inv.gG:∀ (n:Nat) {b:BB} {a:Int},b.Inv->(n:Int)<b.bV a->(BB.gG n b a).Inv
 | 0,_,_,h,_=>h
 | n+1,b,a,h,ha=>by
  obtain⟨h1,_,_,h4⟩:=h.split (a:=a) og;exact BB.Inv.gG n h1 (by rw[h4];omega)
theorem BB.Inv.jV{b:BB}(h:b.Inv){a:Int}(ha:0<b.bV a)(hta:b.tk a=false)(hj:b.jH a):(b.jV a).Inv/\0<=b.dw a/\b.dw a<64/\¬b.dw a=a/\(b.jV a).bV (min a (b.dw a))=b.bV a+1/\(b.jV a).tk (min a (b.dw a))=false:=by
 obtain⟨j1,j2,j3⟩:=hj;have hal:=h.al a ha;have vm:=h.zl ha;obtain⟨l,l1,l2,l3,l4⟩:=Cp ha j1 hal vm;rw[show nN a (b.bV a-1)=b.dw a from rfl]at l4;have e2:=uH (k:=b.bV a-1);rw[show b.bV a-1+1=b.bV a from og]at e2;have hp:=vZ (b.bV a-1);have WS:min a (b.dw a)=l:=og;have vI:max a (b.dw a)=l+p2 (b.bV a-1):=og;have ol:b.bV l=b.bV a:=by
  grind
 have oh:b.bV (l+p2 (b.bV a-1))=b.bV a:=by
  grind
 have tl:b.tk l=false:=by
  grind
 have th:b.tk (l+p2 (b.bV a-1))=false:=by
  grind
 have o1:∀ i,(b.jV a).bV i=if i=l then b.bV a+1 else if i=l+p2 (b.bV a-1)then 0 else b.bV i:=fun i=>by
  simp_all[ad,BB.jV]
 have t1:(b.jV a).tk=b.tk:=rfl;refine⟨⟨fun i=> ?_,fun i hi=> ?_,fun i hi=> ?_,fun i hi=> ?_,fun i j hi h1 h2=> ?_⟩,og,og,og,by rw[WS,o1,if_pos rfl],by rw[WS,t1,tl]⟩
 ·rw[o1];have:=h.jA i;split;all_goals omega
 ·rw[o1,if_neg og,if_neg og];exact h.out i hi
 ·rw[t1]at hi;rw[o1];split;all_goals grind [Inv]
 ·rw[o1]at hi ⊢;by_cases c1:i=l
  ·simp_all
  ·rw[if_neg c1]at hi ⊢;by_cases c2:i=l+p2 (b.bV a-1);all_goals grind [Inv]
 ·rw[o1]at hi h2;by_cases c1:i=l
  ·rw[if_pos c1,show b.bV a+1-1=b.bV a from og]at h2;rw[o1,if_neg og];by_cases c2:j=l+p2 (b.bV a-1)
   ·omega
   ·rw[if_neg c2];by_cases c3:j<l+p2 (b.bV a-1);all_goals grind [BB.Inv.dis]
  ·rw[if_neg c1]at hi h2;by_cases c2:i=l+p2 (b.bV a-1)
   ·omega
   ·rw[if_neg c2]at hi h2;have n1:¬j=l:=fun e=>h.apart (i:=i) (j:=l) hi og c1 (x:=j) ⟨og,h2⟩ ⟨og,by rw[ol];omega⟩;rw[o1,if_neg n1];by_cases c3:j=l+p2 (b.bV a-1);all_goals grind [Inv]
theorem BB.Inv.kL:∀ (n:Nat) {b:BB} {a:Int},b.Inv->0<b.bV a->b.tk a=false->(BB.kL n b a).Inv
 | 0,_,_,h,_,_=>h
 | n+1,b,a,h,ha,ht=>by
  rw[BB.kL];by_cases c:b.jH a
  ·rw[if_pos c];obtain⟨h1,_,_,_,h5,h6⟩:=h.jV ha ht c;exact BB.Inv.kL n h1 (by rw[h5];omega) h6
  simp_all
def I8{p:Int->Bool}{m k:Nat}(h:dv p m=some k):k<m/\p k=true/\∀ j:Int,0<=j->j<k->p j=false:=by
 unfold dv at h;have h1:=List.find?_some h;have h2:=List.mem_range.1 (List.mem_of_find?_eq_some h);refine⟨h2,h1,fun j j0 jk=> ?_⟩;cases hp:p j with
 | false=>rfl
 | true=>
  exfalso;obtain⟨xs,ys,hs,hn⟩:=(List.find?_eq_some_iff_append.1 h).2;have hlen:xs.length=k:=by
   have h3:(List.range m)[xs.length]? =some k:=by rw[hs];simp
   grind
  have hj:j.toNat∈xs:=by
   have h3:xs=List.range k:=by
    have h4:xs=(List.range m).take xs.length:=by rw[hs];simp
    grind
   simp_all
  have:=hn j.toNat hj;rw[show((j.toNat:Nat):Int)=j from og,hp]at this;simp at this
def qI{p:Int->Bool}{m:Nat}(h:dv p m=none):∀ j:Int,0<=j->j<m->p j=false:=fun j h0 h1=>by
 unfold dv at h;have:=List.find?_eq_none.1 h j.toNat (List.mem_range.2 og);grind
theorem lr{b:BB}(hk:0<=k):b.at_ k i=true↔b.bV i=k+1/\b.tk i=false:=by
 grind [BB.at_]
def nV{b:BB}{k i:Nat}(h:b.pick o=some (k,i)):o<=k/\k<7/\i<64/\b.bV i=k+1/\b.tk i=false:=by
 grind [BB.pick,dv,BB.low,Option.map_eq_some_iff,lr]
theorem BB.Inv.take{b:BB}(h:b.Inv)(o:Int):(b.take o).2.2.Inv:=by
 unfold BB.take;split
 ·omega
 ·rename_i ho;split
  ·omega
  ·rename_i k i hp;obtain⟨h1,h2,h3,h4,h5⟩:=nV hp;have hh:=h.gF (a:=i) og;exact BB.Inv.gG _ hh (by show _<b.bV i;omega)
def wa{b:BB}(h:b.is a=0):0<=a/\a<64/\b.tk a=true:=by
 grind [BB.is]
theorem BB.Inv.rI{b:BB}(h:b.Inv)(a:Int):(b.rI a).2.Inv:=by
 unfold BB.rI;by_cases c:b.is a=0
 ·rw[if_neg (by simp[c])];obtain⟨h1,h2,h3⟩:=wa c;exact BB.Inv.kL _ (h.bare a) (h.tk a h3) (aj _ _ _)
 simp_all
def lg(b:BB)(k:Int):b.gz k<18446744073709551616:=Tf _ 64
theorem BB.xg(b:BB)(k:Int)(j:Nat):(b.gz k).testBit j=(decide (j<64)&&b.at_ k j):=iu _ _ _
theorem GA{b:BB}(h:b.gz k=0):∀ i:Int,0<=i->i<64->b.at_ k i=false:=fun i h0 h1=>by
 have:=b.xg k i.toNat;grind
theorem Ay{b:BB}(h:b.gz k=0):b.low k=none:=by grind [dC,GA,BB.low]
def Az{b:BB}(ht:(b.gz k).testBit t=true)(hl:∀ j,j<t->(b.gz k).testBit j=false):b.low k=some t/\t<64/\b.at_ k t=true:=by
 rw[BB.xg]at ht;simp only[Bool.and_eq_true,decide_eq_true_eq]at ht;refine⟨?_,ht.1,ht.2⟩;have:=eo (p:=b.at_ k) (m:=64) (k:=(t:Int)) og og ht.2 (fun j h0 h1=>by
  have h2:=hl j.toNat og
  rw[BB.xg,show((j.toNat:Nat):Int)=j from og]at h2
  have h3:j.toNat<64:=og
  simpa [h3]using h2)
 unfold BB.low;simpa using this
def GB{b:BB}(ho:0<=o)(hk:o<=k/\k<7)(hz:∀ j:Int,o<=j->j<k->b.gz j=0)(ht:(b.gz k).testBit t=true)(hl:∀ j,j<t->(b.gz k).testBit j=false):b.pick o=some (k.toNat,t):=by
 obtain⟨l1,_,_⟩:=Az ht hl;grind [BB.pick,eo,Ay]
theorem GC{b:BB}(hz:∀ j:Int,o<=j->j<7->b.gz j=0):b.pick o=none:=by
 grind [BB.pick,dC,Ay]
theorem pX{b:BB}(h:o<0\/6<o):b.take o=(0,1,b):=by unfold BB.take;rw[if_pos h]
theorem xh{b:BB}(h:¬(o<0\/6<o))(hz:b.pick o=none):b.take o=(0,4,b):=by grind [BB.take]
theorem BB.lR{b:BB}{k i:Nat}(h:¬(o<0\/6<o))(hz:b.pick o=some (k,i)):b.take o=((i:Int),0,BB.gG ((k:Int)-o).toNat (b.gF i) i):=by grind [BB.take]
theorem Fj{b:BB}{m:Int}(h:¬(b.bV i=m+1/\b.tk i=false)):b.at_ m i=false:=by
 grind [BB.at_]
theorem wb{b:BB}{m:Int}(h:¬i=a):(b.gF a).at_ m i=b.at_ m i:=by
 show(decide (0<=m)&&decide (b.bV i=m+1)&& !ad b.tk a true i)=(decide (0<=m)&&decide (b.bV i=m+1)&& !b.tk i);grind [ae]
theorem sC(b:BB)(m a:Int):(b.gF a).at_ m a=false:=Fj (by
 rintro⟨_,q⟩
 have:ad b.tk a true a=false:=q
 rw[aj]at this;cases this)
def GD{b:BB}(hk:0<=k)(ht:t<64)(h1:b.bV t=k+1)(h2:b.tk t=false):lK (b.gz k) (2^t)=(b.gF t).gz k/\∀ m,0<=m->m<7->¬m=k->(b.gF t).gz m=b.gz m:=by
 grind [Ax,pD,sC,wb,Fj,BB.gz]
def BB.Inv.Lx{b:BB}(h:b.Inv)(ha:1<b.bV a)(ht:b.tk a=true):b.gz (b.bV a-2)|||2^(a+p2 (b.bV a-2)).toNat=(b.split a).gz (b.bV a-2)/\∀ m,0<=m->m<7->¬m=b.bV a-2->(b.split a).gz m=b.gz m:=by
 obtain⟨_,s2,s3,_⟩:=h.split ha;have vm:=h.zl (i:=a);have hp:=vZ (b.bV a-2);have fM:¬a=a+p2 (b.bV a-2):=og;have o1:∀ i,(b.split a).bV i=if i=a+p2 (b.bV a-2)then b.bV a-1 else if i=a then b.bV a-1 else b.bV i:=fun i=>rfl
 have t1:∀ i,(b.split a).tk i=b.tk i:=fun _=>rfl;have t2:b.tk (a+p2 (b.bV a-2))=false:=by
  grind [Inv]
 refine⟨Fh og ?_ fun i _ _ hi=> ?_,fun m m0 _ hm=>pD fun i _ _=> ?_⟩
 ·rw[show(((a+p2 (b.bV a-2)).toNat:Nat):Int)=a+p2 (b.bV a-2)from og];grind [lr]
 ·have OX:¬i=a+p2 (b.bV a-2):=og;unfold BB.at_;grind
 ·unfold BB.at_;grind
theorem xj:∀ (n:Nat) (b:BB) (a:Int),(BB.gG n b a).tk=b.tk
 | 0,_,_=>rfl
 | n+1,b,a=>by rw[BB.gG,xj n];rfl
def BB.Inv.wc:∀ (n:Nat) {b:BB} {a:Int},b.Inv->(n:Int)<b.bV a->(BB.gG n b a).bV a=b.bV a-n/\∀ i,¬i=a->0<b.bV i->(BB.gG n b a).bV i=b.bV i
 | 0,_,_,h,_=>⟨by simp[BB.gG],fun _ _ _=>rfl⟩
 | n+1,b,a,h,ha=>by
  obtain⟨h1,h2,h3,h4⟩:=h.split (a:=a) og;obtain⟨i1,i2⟩:=BB.Inv.wc n h1 (by rw[h4];omega);rw[BB.gG];refine⟨by rw[i1,h4];omega,fun i hi h0=> ?_⟩;have e:(b.split a).bV i=b.bV i:=by
   show ad (ad b.bV a (b.bV a-1)) (a+p2 (b.bV a-2)) (b.bV a-1) i=b.bV i;grind [ae]
  simp_all
def BB.Inv.Fk{b:BB}(h:b.Inv)(ho:¬(o<0\/6<o)){k i:Nat}(hp:b.pick o=some (k,i)):(⟨BB.gG ((k:Int)-o).toNat (b.gF i) i,ad b.ed i (o+1)⟩:PB)=(b.take o).2.2.fv:=by
 obtain⟨h1,h2,h3,h4,h5⟩:=nV hp;have hh:=h.gF (a:=i) og;obtain⟨s1,s2⟩:=hh.wc ((k:Int)-o).toNat (a:=i) (by show _<b.bV i;omega);rw[BB.lR ho hp];unfold BB.fv;congr 1;funext j;unfold BB.ed;rw[xj];show ad b.ed i (o+1) j=if ad b.tk i true j=true then _ else 0
 by_cases c:j=i
 ·subst c;rw[aj,aj,if_pos rfl,s1];show o+1=b.bV i-_;omega
 ·rw[ae _ _ c,ae _ _ c];unfold BB.ed;by_cases q:b.tk j=true
  ·rw[if_pos q,if_pos q,s2 j c (h.tk j q)];rfl
  simp_all
theorem Tg:∀ a:Nat,a<64->∀ k:Nat,k<6->((a^^^2^k:Nat):Int)=(if((a/2^k:Nat):Int)%2=1 then(a:Int)-(2^k:Nat)else(a:Int)+(2^k:Nat))/\((lK a (2^k):Nat):Int)=min (a:Int) (if((a/2^k:Nat):Int)%2=1 then(a:Int)-(2^k:Nat)else(a:Int)+(2^k:Nat)):=dk
def Th(ha:0<=a/\a<64)(hk:0<=k/\k<6):((a.toNat^^^2^k.toNat:Nat):Int)=nN a k/\((lK a.toNat (2^k.toNat):Nat):Int)=min a (nN a k):=by
 grind [Tg,p2,nN]
def BB.Inv.zm{b:BB}(h:b.Inv)(ha:0<b.bV a)(h7:b.bV a<7):0<=b.dw a/\b.dw a<64/\¬b.dw a=a:=by
 obtain⟨l,l1,l2,l3,l4⟩:=Cp ha h7 (h.al a ha) (h.zl ha);rw[show nN a (b.bV a-1)=b.dw a from rfl]at l4;have e2:=uH (k:=b.bV a-1);rw[show b.bV a-1+1=b.bV a from og]at e2;have hp:=vZ (b.bV a-1);omega
def BB.Inv.Pv{b:BB}(h:b.Inv)(ha:0<b.bV a)(h7:b.bV a<7):((b.gF a).gz (b.bV a-1)).testBit (b.dw a).toNat=decide (b.jH a):=by
 obtain⟨r1,r2,r3⟩:=h.zm ha h7;grind [BB.xg,wb,lr,BB.jH]
def BB.Inv.Px{b:BB}(h:b.Inv)(ha:0<b.bV a)(hj:b.jH a):lK ((b.gF a).gz (b.bV a-1)) (2^(b.dw a).toNat)=((b.jV a).gF (min a (b.dw a))).gz (b.bV a-1)/\∀ m,0<=m->m<7->¬m=b.bV a-1->((b.jV a).gF (min a (b.dw a))).gz m=(b.gF a).gz m:=by
 obtain⟨r1,r2,r3⟩:=h.zm ha hj.1;have im:∀ m i,0<=m->((b.jV a).gF (min a (b.dw a))).at_ m i=(!decide (i=b.dw a)&&(b.gF a).at_ m i):=fun m i m0=>by
  rw[Bool.eq_iff_iff,Bool.and_eq_true,lr m0,lr m0];have o1:((b.jV a).gF (min a (b.dw a))).bV i=ad (ad b.bV (max a (b.dw a)) 0) (min a (b.dw a)) (b.bV a+1) i:=rfl;have t1:((b.jV a).gF (min a (b.dw a))).tk i=ad b.tk (min a (b.dw a)) true i:=rfl;have o2:(b.gF a).bV i=b.bV i:=rfl;have t2:(b.gF a).tk i=ad b.tk a true i:=rfl;grind [aj,ae]
 refine⟨Ax og ?_ fun i _ _ hi=> ?_,fun m m0 _ hm=>pD fun i _ _=> ?_⟩;all_goals grind [Fj,BB.gF,BB.jH]
def xo{b:BB}(ha:0<b.bV a)(hr:0<=a/\a<64)(ht:b.tk a=false):(b.gF a).gz (b.bV a-1)|||2^a.toNat=b.gz (b.bV a-1)/\∀ m,0<=m->m<7->¬m=b.bV a-1->b.gz m=(b.gF a).gz m:=by
 grind [Fh,pD,lr,wb,sC,BB.gz]
theorem BB.Cq:∀ (n:Nat) (b:BB) (a:Int),(BB.kL n b a).tk=b.tk
 | 0,_,_=>rfl
 | n+1,b,a=>by
  rw[BB.kL];split
  ·rw[BB.Cq n];rfl
  ·rfl
theorem BB.Inv.Fl:∀ (n:Nat) {b:BB} {a:Int},b.Inv->0<b.bV a->b.tk a=false->∀ i,b.tk i=true->(BB.kL n b a).bV i=b.bV i
 | 0,_,_,_,_,_,_,_=>rfl
 | n+1,b,a,h,ha,ht,i,hi=>by
  rw[BB.kL];by_cases c:b.jH a
  ·rw[if_pos c];obtain⟨h1,_,_,_,h5,h6⟩:=h.jV ha ht c;rw[BB.Inv.Fl n h1 (by rw[h5];omega) h6 i hi];show ad (ad b.bV (max a (b.dw a)) 0) (min a (b.dw a)) (b.bV a+1) i=b.bV i;have n1:¬i=a:=by rintro rfl;rw[ht]at hi;cases hi
   have n2:¬i=b.dw a:=by rintro rfl;rw[c.2.2]at hi;cases hi
   grind [ae]
  simp_all
def GF{b:BB}(ht:b.tk a=true):(b.bare a).gF a=b:=by
 unfold BB.bare BB.gF;simp only[];have:ad (ad b.tk a false) a true=b.tk:=by
  grind [aj,ae]
 rw[this]
def BB.Inv.zn{b:BB}(h:b.Inv)(hi:b.is a=0):(⟨BB.kL (7-b.bV a).toNat (b.bare a) a,ad b.ed a 0⟩:PB)=(b.rI a).2.fv:=by
 obtain⟨h1,h2,h3⟩:=wa hi;have ho:=h.tk a h3;have hk:=(h.bare a).Fl (7-b.bV a).toNat (a:=a) ho (aj _ _ _);unfold BB.rI;rw[if_neg (by simp[hi])];unfold BB.fv;congr 1;funext j;unfold BB.ed;rw[BB.Cq];show ad b.ed a 0 j=if ad b.tk a false j=true then _ else 0
 by_cases c:j=a;all_goals simp_all[BB.ed,ad,BB.bare]
theorem pE{b:BB}(h:b.is a≠0):b.rI a=(b.is a,b):=by grind [BB.rI]
theorem rJ{b:BB}(h:b.is a=0):b.rI a=(0,BB.kL (7-b.bV a).toNat (b.bare a) a):=by grind [BB.rI]
theorem BB.qz{b:BB}(h:a<0\/63<a):b.is a=1:=by unfold BB.is;rw[if_pos h]
theorem BB.wY{b:BB}(h:¬(a<0\/63<a))(ht:b.tk a=false):b.is a=2:=by grind [BB.is]
theorem BB.Cb{b:BB}(h:¬(a<0\/63<a))(ht:b.tk a=true):b.is a=0:=by grind [BB.is]
def BB.Inv.Fo{b:BB}(h:b.Inv)(a:Int):(b.ed a=0->b.tk a=false)/\(¬b.ed a=0->b.tk a=true/\b.ed a=b.bV a):=by
 grind [BB.ed,Inv]
theorem I9(k:Int):(p2 k).toNat=2^k.toNat:=rfl
def Ev:∀ (n:Nat) {b:BB} {a:Int},¬b.jH a->BB.kL n b a=b
 | 0,_,_,_=>rfl
 | n+1,b,a,h=>by rw[BB.kL,if_neg h]
theorem tB(f g:Int->Int):∀ n,eZ (fun i=>f i+g i) n=eZ f n+eZ g n
 | 0=>rfl
 | n+1=>by simp only[eZ,tB f g n];omega
theorem ot:∀ n,eZ (fun _=>0) n=0
 | 0=>rfl
 | n+1=>by simp only[eZ,ot n];rfl
theorem jW{f g:Int->Int} :∀ {n:Nat},(∀ i:Int,0<=i->i<n->f i=g i)->eZ f n=eZ g n
 | 0,_=>rfl
 | n+1,h=>by simp only[eZ,jW (n:=n) fun i h0 h1=>h i h0 og,h n og og]
def BB.Xn(b:BB)(q j:Int):Prop:=b.bV j>q/\b.tk j=false
def BB.Ja(b:BB)(q i fJ:Int):Prop:=(fJ= -1/\∀ j,i<j->j<64->¬b.Xn q j)\/
 (i<fJ/\fJ<64/\b.Xn q fJ/\∀ j,i<j->j<64->b.Xn q j->b.bV fJ<b.bV j\/(b.bV fJ=b.bV j/\fJ<=j))
theorem BB.Ja.take{b:BB}{q fJ:Int}(h:b.Ja q i fJ)(hi:i<64)(hc:b.Xn q i)(hle:fJ<0\/b.bV i<=b.bV fJ)(h0: -1<=i):b.Ja q (i-1) i:=by
 grind [BB.Ja]
theorem BB.Ja.none{b:BB}{q fJ:Int}(hq:0<=q)(h:b.Ja q (-1) fJ)(hb:fJ<0):b.pick q=none:=by
 rcases h with⟨_,h2⟩ | ⟨h4,_⟩
 ·unfold BB.pick;rw[dC (fun k k0 k1=>by
   by_cases c:q<=k
   ·have:b.low k= .none:=dC fun j j0 j1=>Fj fun e=>h2 j og og ⟨og,e.2⟩
    rw[this];simp
   ·simp[c])]
 ·omega
theorem BB.Ja.some{b:BB}{q fJ:Int}(hq:0<=q)(hI:b.Inv)(h:b.Ja q (-1) fJ)(hb:¬fJ<0):b.pick q=some ((b.bV fJ-1).toNat,fJ.toNat)/\fJ<64/\b.bV fJ>q/\b.tk fJ=false:=by
 rcases h with⟨h1,_⟩ | ⟨h4,h5,h6,h7⟩
 ·omega
 ·have hr:=hI.jA fJ;have hc:=h6.1;have e:(((b.bV fJ-1).toNat:Nat):Int)=b.bV fJ-1:=og;have hl:b.low (b.bV fJ-1)=Option.some fJ.toNat:=eo og og ((lr og).2 ⟨og,h6.2⟩) (fun j j0 j1=>Fj fun e=>by
   have:=h7 j og og ⟨og,e.2⟩
   omega)
  refine⟨?_,h5,h6.1,h6.2⟩;unfold BB.pick;rw[eo (k:=b.bV fJ-1) og og (by
   rw[hl];simp;omega) (fun k k0 k1=>by
   by_cases c:q<=k
   ·have:b.low k= .none:=dC fun j j0 j1=>Fj fun e=>by
     have:=h7 j og og ⟨og,e.2⟩
     omega
    rw[this];simp
   ·simp[c])]
  simp only[];rw[e,hl];rfl
def qJ(f:Int->Bool):Nat->Int
 | 0=>0
 | n+1=>qJ f n+if f n then 1 else 0
def Nu(f:Int->Bool)(n:Nat):0<=qJ f n/\qJ f n<=n:=by
 induction n with
 | zero=>simp[qJ]
 | succ n ih=>simp only[qJ];split<;>omega
def abe(x n:Nat):x >>> n<=x:=by rw[Nat.shiftRight_eq_div_pow];exact Nat.div_le_self _ _
def bO(s:PB)(i:Nat):Value:=
 if i%1=0/\i/1<7 then .int .u64 (((s.b.gz ((i/1:Nat):Int)):Nat):Int)else
 if 7<=i/\(i-7)%1=0/\(i-7)/1<64 then iI (s.u (((i-7)/1:Nat):Int))else
 undef
theorem dx(s:PB)(z0:Int)(q0:0<=z0/\z0<7:=by omega):((0+0)+z0.toNat*1)<71/\bO s ((0+0)+z0.toNat*1)= .int .u64 (((s.b.gz z0):Nat):Int):=by
 refine⟨og,?_⟩;unfold bO;rw[if_pos og];rw[show((((0+0)+z0.toNat*1)/1:Nat):Int)=z0 from og]
theorem lS(s:PB)(z0:Int)(q0:0<=z0/\z0<64:=by omega):((0+7)+z0.toNat*1)<71/\bO s ((0+7)+z0.toNat*1)=iI (s.u z0):=by
 refine⟨og,?_⟩;unfold bO;rw[if_neg og];rw[if_pos og];rw[show(((((0+7)+z0.toNat*1)-7)/1:Nat):Int)=z0 from og]
def tC(s:PB)(z0:Int)(q0:0<=z0/\z0<64)(v:Int):((0+7)+z0.toNat*1)<71/\dL (bO s) ((0+7)+z0.toNat*1) (iI (v))=bO ({s with u:=ad s.u z0 v}):=by
 refine⟨og,?_⟩;funext j;unfold dL;by_cases hj:j=((0+7)+z0.toNat*1)
 ·rw[if_pos hj,hj,(lS ({s with u:=ad s.u z0 v}) z0 q0).2];all_goals simp[ad,cv]
 ·rw[if_neg hj];unfold bO;refine gP (fun c0=> ?_) fun c0=> ?_
  ·first | rfl | simp[ad,cv]
  refine gP (fun c1=> ?_) fun c1=> ?_
  ·have fM:¬((((j-7)/1:Nat):Int)=z0):=og;simp only[ad,cv,fM,if_false,and_true,true_and]
  rfl
def aeB:List Int:=[0,1,56,2,57,49,28,3,61,58,42,50,38,29,17,4,62,47,59,36,45,43,51,22,53,39,33,30,24,18,12,5,63,55,48,27,60,41,37,16,46,35,44,21,52,32,23,11,54,26,40,15,34,20,31,10,25,14,19,9,13,8,7,6]
def ix(i:Nat):Value:=.int .u8 (aeB.getD i 0)
def Ti:∀ t:Nat,t<64->IntKind.u64.wrap (((2^t:Nat):Int)*285870213051353865)=((2^t*285870213051353865%18446744073709551616:Nat):Int)/\
  (((2^t*285870213051353865%18446744073709551616:Nat):Int)).fdiv (2^(min (58:Int).toNat IntKind.u64.bits))=((2^t*285870213051353865%18446744073709551616/288230376151711744:Nat):Int)/\
  (2^t*285870213051353865%18446744073709551616/288230376151711744)<64/\IntKind.i64.wrap (t:Int)=t/\
  aeB.getD (2^t*285870213051353865%18446744073709551616/288230376151711744) 0=(t:Int):=dk
def Lo(ht:t<64):0+(((2^t*285870213051353865%18446744073709551616/288230376151711744:Nat):Int)).toNat*1<64/\ix (0+(((2^t*285870213051353865%18446744073709551616/288230376151711744:Nat):Int)).toNat*1)= .int .u8 (t:Int):=by
 obtain⟨_,_,z3,_,z5⟩:=Ti t ht;have e:0+(((2^t*285870213051353865%18446744073709551616/288230376151711744:Nat):Int)).toNat*1=2^t*285870213051353865%18446744073709551616/288230376151711744:=og;rw[e];exact⟨z3,congrArg (Value.int .u8) z5⟩
def Xo{x:Nat}(h:0<x/\x<18446744073709551616):IntKind.u64.wrap (0-(x:Int))=((2^64-x:Nat):Int):=by
 have:((0-(x:Int))%(2^64:Int))=((2^64-x:Nat):Int):=by
  have h2:(2:Int)^64=18446744073709551616:=dq;have h3:(2:Nat)^64=18446744073709551616:=dq;rw[h2,h3];omega
 simpa [IntKind.wrap,IntKind.signed,IntKind.bits]using this
def Xp{n:Int}(h:0<=n/\n<64)(x:Nat):(x:Int).fdiv (2^(min n.toNat IntKind.u64.bits))=((x >>> n.toNat:Nat):Int):=by
 have:min n.toNat IntKind.u64.bits=n.toNat:=by show min n.toNat 64=_;omega
 rw[this,Nat.shiftRight_eq_div_pow,Int.fdiv_eq_ediv_of_nonneg _ (by exact Int.le_of_lt (Int.pow_pos og))];simp
def Xq:∀ n:Nat,n<64->IntKind.u64.wrap (1*2^(min n IntKind.u64.bits))=((2^n:Nat):Int):=dk
def xr{n:Int}(h:0<=n/\n<64:=by omega):IntKind.u64.wrap (1*2^(min n.toNat IntKind.u64.bits))=((2^n.toNat:Nat):Int):=Xq _ og
def Tj:∀ n:Nat,n<62->IntKind.i64.wrap (1*2^(min n IntKind.i64.bits))=((2^n:Nat):Int):=dk
def GG{n:Int}(h:0<=n/\n<62:=by omega):IntKind.i64.wrap (1*2^(min n.toNat IntKind.i64.bits))=p2 n:=Tj _ og
def iO(h:n<64):2^n<18446744073709551616:=Nat.pow_lt_pow_right (a:=2) (n:=64) og h
def Cf(x:Nat)(k:Nat):(((x >>> k)&&&1:Nat):Int)=if x.testBit k then 1 else 0:=by
 rw[Nat.testBit_eq_decide_div_mod_eq,Nat.shiftRight_eq_div_pow,Nat.and_one_is_mod];by_cases h:x/2^k%2=1
 ·simp[h]
 ·have:x/2^k%2=0:=og;simp[this]
def aeC(h:0<=k/\k<=6):1<=p2 k/\p2 k<=64:=by
 have:k=0\/k=1\/k=2\/k=3\/k=4\/k=5\/k=6:=og;rcases this with rfl | rfl | rfl | rfl | rfl | rfl | rfl<;>decide
def ou(s:PB)(b':BB)(k:Int)(q:0<=k/\k<7){v:Nat}(hv:v=b'.gz k/\∀ m,0<=m->m<7->¬m=k->b'.gz m=s.b.gz m):0+0+k.toNat*1<71/\dL (bO s) (0+0+k.toNat*1) (.int .u64 (v:Int))=bO {s with b:=b'} :=by
 refine⟨og,?_⟩;funext i;unfold dL;by_cases h:i=0+0+k.toNat*1
 ·rw[if_pos h,h,(dx {s with b:=b'} k q).2,hv.1]
 ·rw[if_neg h];by_cases h2:i<7
  ·have e1:=(dx s (i:Int)).2;have e2:=(dx {s with b:=b'} (i:Int)).2;rw[show 0+0+(i:Int).toNat*1=i from og]at e1 e2;rw[e1,e2];rw[hv.2 i og og og]
  ·have c:¬(i%1=0/\i/1<7):=og;unfold bO;simp only[if_neg c]
def xt:BB.cK.gz 6=1/\∀ m:Int,0<=m->m<7->¬m=6->BB.cK.gz m=0:=by
 refine⟨dk,fun m h0 h1 h2=> ?_⟩;have:m=0\/m=1\/m=2\/m=3\/m=4\/m=5:=og;rcases this with rfl | rfl | rfl | rfl | rfl | rfl<;>decide+kernel
def BB.dc:BB:=⟨fun _=>0,fun _=>false⟩
theorem xv:∀ m:Int,0<=m->m<7->BB.dc.gz m=0:=fun m h0 h1=>by
 have:m=0\/m=1\/m=2\/m=3\/m=4\/m=5\/m=6:=og;rcases this with rfl | rfl | rfl | rfl | rfl | rfl | rfl<;>decide+kernel
def zo:∀ i,i<71->cellsOf #[.int .u64 0,.int .u64 0,.int .u64 0,.int .u64 0,.int .u64 0,.int .u64 0,.int .u64 0,iI 0,iI 0,iI 0,iI 0,iI 0,iI 0,iI 0,iI 0,iI 0,iI 0,iI 0,iI 0,iI 0,iI 0,iI 0,iI 0,iI 0,iI 0,iI 0,iI 0,iI 0,iI 0,iI 0,iI 0,iI 0,iI 0,iI 0,iI 0,iI 0,iI 0,iI 0,iI 0,iI 0,iI 0,iI 0,iI 0,iI 0,iI 0,iI 0,iI 0,iI 0,iI 0,iI 0,iI 0,iI 0,iI 0,iI 0,iI 0,iI 0,iI 0,iI 0,iI 0,iI 0,iI 0,iI 0,iI 0,iI 0,iI 0,iI 0,iI 0,iI 0,iI 0,iI 0,iI 0] i=bO ⟨BB.dc,fun _=>0⟩ i:=fun i hi=>by
 by_cases h2:i<7
 ·have e2:=(dx ⟨BB.dc,fun _=>0⟩ (i:Int)).2;rw[show 0+0+(i:Int).toNat*1=i from og]at e2;rw[e2,xv _ og og];have:i=0\/i=1\/i=2\/i=3\/i=4\/i=5\/i=6:=og;rcases this with rfl | rfl | rfl | rfl | rfl | rfl | rfl<;>rfl
 ·have e2:=(lS ⟨BB.dc,fun _=>0⟩ ((i-7:Nat):Int)).2;rw[show 0+7+((i-7:Nat):Int).toNat*1=i from og]at e2;rw[e2];exact match i,hi,h2 with
  | 0,_,h=>absurd og h
  | 1,_,h=>absurd og h
  | 2,_,h=>absurd og h
  | 3,_,h=>absurd og h
  | 4,_,h=>absurd og h
  | 5,_,h=>absurd og h
  | 6,_,h=>absurd og h
  | 7,_,_=>rfl
  | 8,_,_=>rfl
  | 9,_,_=>rfl
  | 10,_,_=>rfl
  | 11,_,_=>rfl
  | 12,_,_=>rfl
  | 13,_,_=>rfl
  | 14,_,_=>rfl
  | 15,_,_=>rfl
  | 16,_,_=>rfl
  | 17,_,_=>rfl
  | 18,_,_=>rfl
  | 19,_,_=>rfl
  | 20,_,_=>rfl
  | 21,_,_=>rfl
  | 22,_,_=>rfl
  | 23,_,_=>rfl
  | 24,_,_=>rfl
  | 25,_,_=>rfl
  | 26,_,_=>rfl
  | 27,_,_=>rfl
  | 28,_,_=>rfl
  | 29,_,_=>rfl
  | 30,_,_=>rfl
  | 31,_,_=>rfl
  | 32,_,_=>rfl
  | 33,_,_=>rfl
  | 34,_,_=>rfl
  | 35,_,_=>rfl
  | 36,_,_=>rfl
  | 37,_,_=>rfl
  | 38,_,_=>rfl
  | 39,_,_=>rfl
  | 40,_,_=>rfl
  | 41,_,_=>rfl
  | 42,_,_=>rfl
  | 43,_,_=>rfl
  | 44,_,_=>rfl
  | 45,_,_=>rfl
  | 46,_,_=>rfl
  | 47,_,_=>rfl
  | 48,_,_=>rfl
  | 49,_,_=>rfl
  | 50,_,_=>rfl
  | 51,_,_=>rfl
  | 52,_,_=>rfl
  | 53,_,_=>rfl
  | 54,_,_=>rfl
  | 55,_,_=>rfl
  | 56,_,_=>rfl
  | 57,_,_=>rfl
  | 58,_,_=>rfl
  | 59,_,_=>rfl
  | 60,_,_=>rfl
  | 61,_,_=>rfl
  | 62,_,_=>rfl
  | 63,_,_=>rfl
  | 64,_,_=>rfl
  | 65,_,_=>rfl
  | 66,_,_=>rfl
  | 67,_,_=>rfl
  | 68,_,_=>rfl
  | 69,_,_=>rfl
  | 70,_,_=>rfl
  | k+71,h,_=>absurd h og
end Go.X.Vm
