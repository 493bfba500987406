import Derived.Test.YthdinakloheinaaGreatDoorkJHD
set_option linter.all false
namespace Go.X.Kn
open Go Go.X Go.X.Sg
variable{T n:Int}
structure dm(I:KA->Prop):Prop where
 rest:∀ {a:KA} {u:Int->PA},I a->(∀ p,(u p).st=(a.u p).st/\(u p).cO=(a.u p).cO/\(u p).fd=(a.u p).fd)->I {a with u:=u}
 end_:∀ {a:KA} {T:Int} {n:Int} (co:Int),a.Wk T->(0<=n/\n<20)->(a.u n).st=1->I a->I (a.cH n co)
 za:∀ {a:KA} {T:Int} {n:Int},a.Wk T->(0<=n/\n<20)->(a.u n).st=2->I a->I (a.dD n)
 spc:∀ {a:KA} (s:Sp.SS),I a->I {a with s:=s}
section
variable{I:KA->Prop}
theorem dm.box(S:dm I){a:KA}(h:I a)(n:Int)(x:BS):I (a.jr n x):=S.rest h fun p=>by
 by_cases e:p=n
 ·subst e;rw[ah];exact⟨rfl,rfl,rfl⟩
 ·rw[ae _ _ e];exact⟨rfl,rfl,rfl⟩
theorem dm.kY(S:dm I){a:KA}(h:I a)(n m:Int):I (a.de n m):=S.rest h fun p=>by
 have k:=dE a n m p;exact⟨k.1,k.2.2.1,k.2.2.2.2⟩
theorem dm.gK(S:dm I){a:KA}(h:I a)(p:Int):I (a.ko p):=by
 unfold KA.ko;split
 ·exact S.box h _ _
 ·exact h
def dm.Vh(S:dm I){T:Int}(k:Int):∀ {l:List Int} {a:KA},a.Wk T->l.Nodup->(∀ m∈l,(0<=m/\m<20)/\(a.u m).st≠0)->I a->I (l.foldl (KA.eN k) a)
 | [],_,_,_,_,h=>h
 | x::r,a,w,hn,hl,h=>by
  obtain⟨hx,hr⟩:=List.nodup_cons.1 hn;have q8:=hl x (.head _);refine S.Vh k (l:=r) (w.eN k q8.1) hr (fun m hm=>⟨(hl m (.tail _ hm)).1,?_⟩) ?_
  ·rw[vW _ _ (by rintro rfl;exact hx hm)];exact(hl m (.tail _ hm)).2
  ·unfold KA.eN;split
   ·exact h
   ·split
    ·rename_i c;exact S.za (w.cH q8.1 c 0) q8.1 (lX _ _ _) (S.end_ 0 w q8.1 c h)
    ·rename_i c;exact S.za w q8.1 (((w.st x).resolve_left q8.2).resolve_left c) h
def dm.Pd(S:dm I){a:KA}(h:I a)(z:Int):I (a.ea z):=S.spc _ h
def dm.vX(S:dm I):∀ {l:List Int} {a:KA},I a->I (l.foldl KA.ea a)
 | [],_,h=>h
 | x::r,_,h=>S.vX (l:=r) (S.Pd h x)
def dm.dS(S:dm I){a:KA}(h:I a):∀ k,I (a.dS k)
 | 0=>h
 | k+1=>S.vX (S.dS h k)
def dm.exit(S:dm I){a:KA}(w:a.Wk T)(hl:(a.u n).st=1)(co:Int)(h:I a):I (a.db n co):=by
 have hn:=w.jV (n:=n) og;have h1:=S.end_ co w hn hl h;have h2:I (a.gG n co):=by
  unfold KA.gG;split
  ·refine S.dS (S.Vh n (w.cH hn hl co) (pA (w.cH hn hl co).sI _) (fun m hm=>(w.cH hn hl co).y9 _ hm) h1) 4
  ·exact h1
 exact S.gK (S.kY h2 _ _) _
def dm.settle(S:dm I){a:KA}(w:a.Wk T)(hl:(a.u n).st=1)(o:Bool)(h:I a):I (a.cL n o):=by
 unfold KA.cL;split
 ·exact S.exit w hl _ h
 ·exact h
def dm.Fe(S:dm I){a:KA}(w:a.Wk T)(c:a.aF n=0){x:BS}(hx:x.dc 0=false)(o:Bool)(h:I a):I ((a.jr n x).cL n o):=by
 obtain⟨hr,hl⟩:=bE c;exact S.settle (w.jr hr hx) (by rw[gp];exact hl) o (S.box h n x)
theorem dm.send(S:dm I){a:KA}(w:a.Wk T)(n sig:Int)(o:Bool)(h:I a):I (a.uF n sig o):=by
 unfold KA.uF;split
 ·rename_i c;exact S.Fe w c (nW _ _ (w.bx n)) o h
 ·exact h
def dm.nj(S:dm I){a:KA}(w:a.Wk T)(n js sig:Int)(h:I a):I (a.j9 n js sig):=by
 unfold KA.j9;split
 ·exact S.send w _ _ _ h
 ·exact h
theorem dm.dX(S:dm I){a:KA}(w:a.Wk T)(n sig:Int)(on:Bool)(h:I a):I (a.mG n sig on):=by
 unfold KA.mG;split
 ·exact h
 ·split
  ·exact S.Fe w og (qq _ _ _ (w.bx n)) false h
  ·exact h
def dm.kt(S:dm I){a:KA}(w:a.Wk T)(n sig v:Int)(h:I a):I (a.B2 n sig v):=by
 unfold KA.B2;split
 ·exact h
 ·split
  ·exact S.Fe w og (xh _ _ _ (w.bx n)) false h
  ·exact h
theorem dm.take(S:dm I){a:KA}(n:Int)(h:I a):I (a.qs n):=by
 unfold KA.qs;split
 ·exact h
 ·exact S.box h _ _
theorem dm.fA(S:dm I){a:KA}{T:Int}(w:a.Wk T)(n co:Int)(h:I a):I (a.fA n co):=by
 unfold KA.fA;split
 ·rename_i c;exact S.exit w (bE (ui c).1).2 co h
 ·exact h
def dm.dc(S:dm I){a:KA}(w:a.Wk T)(n:Int)(h:I a):I (a.eT n):=by
 unfold KA.eT;split
 ·rename_i c;obtain⟨_,h2,h3,_⟩:=pQ c;exact S.Pd (S.za w h2 h3 h) _
 ·exact h
theorem dm.room(S:dm I){n:Int} :∀ (k:Nat) {a:KA} {T:Int},a.Ok T->I a->∃ b:KA,I b/\b.Ok T/\((a.kF n k).1≠0->(a.kF n k).2=b)/\((a.kF n k).1=0->b.aF n=0/\b.g.dJ (b.u n).cO 0 1=0/\(a.kF n k).2= {b with v:=b.v,f:=b.f,g:=b.g.bI (b.u n).cO 0 1})
 | 0,a,T,ok,h=>⟨a,h,ok,fun _=>rfl,fun e=>absurd (show(6:Int)=0 from e) dq⟩
 | k+1,a,T,ok,h=>by
  unfold KA.kF;by_cases c:a.aF n≠0
  ·rw[if_pos c];exact⟨a,h,ok,fun _=>rfl,fun e=>absurd (show(6:Int)=0 from e) dq⟩
  ·rw[if_neg c];cases hz:a.iR n with
   | none=>
    refine⟨a,h,ok,fun e=> ?_,fun e=>⟨og,e,rfl⟩⟩;show({a with v:=a.v,f:=a.f,g:=a.g.bI (a.u n).cO 0 1} :KA)=a;rw[zc e]
   | some z=>
    by_cases d:a.gU z<0
    ·simp only[if_pos d];exact⟨a,h,ok,fun _=>rfl,fun e=>absurd e dq⟩
    ·have hv:=pC d;have hl:=bE hv.2;simp only[if_neg d];exact S.room k (ok.wk.B1 ok.r0 ok.d0 (show a.gU z≠0 by omega) hl.2 (ok.hx.any _) 137) (S.exit ok.wk hl.2 137 h)
end
end Go.X.Kn

namespace Go.X.Gr
open Go Go.X
variable{s:TG}
theorem B7(F:Int->Int->Int)(a:Nat):∀ (b:Nat),bU (fun i=>bU (fun j=>F i j) a) b=bU (fun j=>bU (fun i=>F i j) b) a
 | 0=>by simp only[bU];exact(dx a fun _ _ _=>rfl).symm
 | b+1=>by
  simp only[bU];rw[B7 F a b,<-lL]
def J8(c:Int->Int->Int)(f:Int->Int)(L:List Int)(n:Int):Int:=(L.map fun x=>c n x*f x).sum
theorem FB(p:Int->Bool)(g:Int->Int):∀ (k:Nat),((LX p k).map g).sum=bU (fun x=>if p x=true then g x else 0) k
 | 0=>rfl
 | k+1=>by
  simp only[LX,bU,List.map_append,List.sum_append];rw[FB p g k];by_cases h:p (k:Int)=true
  ·simp[h]
  ·simp[h]
namespace TG
def o7(s:TG)(n x:Int):Int:=((s.cU x).count n:Int)
def Ok.Ru{s:TG}{d:Int->Nat}(hd:∀ n,0<=n->n<10->s.aa n=true->1<=d n/\d n<=4/\(n≠0->0<=s.aA n/\s.aA n<10/\s.aa (s.aA n)=true/\d n=d (s.aA n)+1))(h0p:s.aA 0= -1):
  ∀ (l:List Int) (n:Int),mU s.aA n l->(∀ y∈l,s.aa y=true)->(∀ x∈l,d x<=d n)/\l.Nodup
 | [],_,_,_=>⟨fun x hx=>by simp at hx,List.nodup_nil⟩
 | y::r,n,⟨e,h0,h1,h2⟩,hh=>by
  subst e;have ih:=Ok.Ru hd h0p r (s.aA y) h2 fun z hz=>hh z (List.mem_cons_of_mem _ hz);have h4:=hd y h0 h1 (hh y sq);have iZ:∀ x∈r,d x<d y:=fun x hx=>by
   have h5:=ih.1 x hx;by_cases hy:y=0
   ·subst hy;rw[h0p]at h2;match r,h2,hx with
    | _::_,h2,_=>exact absurd h2.2.1 og
   ·have:=(h4.2.2 hy).2.2.2;omega
  refine⟨fun x hx=> ?_,List.nodup_cons.2 ⟨fun hm=> ?_,ih.2⟩⟩
  ·rcases List.mem_cons.1 hx with rfl | hx
   ·exact Nat.le_refl _
   ·have:=iZ x hx;omega
  ·have:=iZ y hm;omega
def Ok.JO(h:s.Ok){x:Int}(h0:0<=x)(h1:x<10)(h2:s.aa x=true)(n:Int):s.o7 n x<=1:=by
 obtain⟨d,_,hd⟩:=h.vy;obtain⟨w1,_,w3⟩:=h.cU h0 h1 h2;have hn:=(Ok.Ru hd h.pq.2 _ _ w1 w3).2;have:=(List.nodup_iff_count.1 hn) n;unfold o7;omega
theorem Ok.Ys(h:s.Ok){k:Int}(h0:0<=k)(h1:k<10)(h2:s.aa k=true)(n:Int):s.o7 n k=(if n=k then 1 else 0)+(if 0<=s.aA k then s.o7 n (s.aA k)else 0):=by
 obtain⟨w1,_,w3⟩:=h.cU h0 h1 h2;unfold o7;cases hl:s.cU k with
 | nil=>rw[hl]at w1;exact absurd w1 (by show ¬k<0;omega)
 | cons y r=>
  rw[hl]at w1 w3;obtain⟨e,_,_,w2⟩:=w1;subst e;have hc:(y::r).count n=(if n=y then 1 else 0)+r.count n:=by
   rw[List.count_cons];by_cases hny:n=y
   ·subst hny;simp;omega
   ·have:¬y=n:=fun e=>hny e.symm;simp[hny,this]
  rw[hc];by_cases hy:y=0
  ·subst hy;rw[h.pq.2]at w2 ⊢;match r,w2 with
   | [],_=>rw[if_neg (show ¬(0:Int)<= -1 by omega),List.count_nil];split<;>rfl
   | _::_,w2=>exact absurd w2.2.1 og
  ·obtain⟨p0,p1,p2⟩:=h.Ab h0 h1 h2 hy;obtain⟨v1,_⟩:=h.cU p0 p1 p2;rw[if_pos p0,w2.WG v1];push_cast;split<;>simp
def Ok.ai3(h:s.Ok)(f:Int->Int){n:Int}(h0:0<=n)(h1:n<10)(h2:s.aa n=true):J8 s.o7 (s.left f) s.all n=f n:=by
 unfold J8 all;rw[FB];have e1:bU (fun x=>if s.aa x=true then s.o7 n x*s.left f x else 0) 10=bU (fun x=>if s.aa x=true then s.o7 n x*f x else 0) 10-bU (fun x=>bU (fun k=>if s.aa x=true then s.o7 n x*s.gK f x k else 0) 10) 10:=by
  have:bU (fun x=>if s.aa x=true then s.o7 n x*f x else 0) 10=bU (fun x=>if s.aa x=true then s.o7 n x*s.left f x else 0) 10+bU (fun x=>bU (fun k=>if s.aa x=true then s.o7 n x*s.gK f x k else 0) 10) 10:=by
   rw[<-lL];refine ck 10 fun j _ _=> ?_;by_cases hj:s.aa j=true
   ·simp only[hj,if_true];rw[z8,<-Int.mul_add];congr 1;unfold left;omega
   ·simp only[hj];rw[dx 10 fun _ _ _=>sq];simp
  omega
 rw[e1,B7];have e2:bU (fun k=>bU (fun x=>if s.aa x=true then s.o7 n x*s.gK f x k else 0) 10) 10=bU (fun k=>if s.aa k=true then(if 0<=s.aA k then s.o7 n (s.aA k)else 0)*f k else 0) 10:=by
  refine ck 10 fun k k0 k1=> ?_;by_cases hk:s.aa k=true
  ·rw[if_pos hk];by_cases hk0:k=0
   ·subst hk0;rw[if_neg (by rw[h.pq.2];omega)];rw[dx 10 (fun j j0 _=>by
     unfold gK
     rw[h.pq.2,if_neg (fun q:s.aa 0=true/\(-1:Int)=j=>og)];simp)]
    simp
   ·obtain⟨p0,p1,p2⟩:=h.Ab k0 og hk hk0;rw[if_pos p0];rw[show bU (fun x=>if s.aa x=true then s.o7 n x*s.gK f x k else 0) 10=bU (fun x=>if x=s.aA k then s.o7 n (s.aA k)*f k else 0) 10 from ck 10 (fun j _ _=>by
     unfold gK
     by_cases hj:j=s.aA k
     ·subst hj;simp[p2,hk]
     ·rw[if_neg hj,if_neg fun q:s.aa k=true/\s.aA k=j=>hj q.2.symm];simp)]
    rw[mA _ _ p0,if_pos og]
  ·rw[if_neg hk];refine dx 10 fun j _ _=> ?_;unfold gK;rw[if_neg fun q:s.aa k=true/\s.aA k=j=>hk q.1];simp
 rw[e2];have e3:bU (fun x=>if s.aa x=true then s.o7 n x*f x else 0) 10=bU (fun k=>if s.aa k=true then(if 0<=s.aA k then s.o7 n (s.aA k)else 0)*f k else 0) 10+bU (fun k=>if k=n then f n else 0) 10:=by
  rw[<-lL];refine ck 10 fun k k0 k1=> ?_;by_cases hk:s.aa k=true
  ·rw[if_pos hk,if_pos hk,h.Ys k0 og hk n,Int.add_mul];by_cases hkn:k=n
   ·subst hkn;simp;omega
   ·rw[if_neg hkn,if_neg fun e=>hkn e.symm];omega
  ·rw[if_neg hk,if_neg hk,if_neg fun e:k=n=>hk (by rw[e];exact h2)];rfl
 rw[e3,mA _ _ h0,if_pos og];omega
def cJ(s:TG)(n:Int):GV:=if s.cQ n=0 then s.gv n else GV.zero
def Own(s:TG)(f g:Int->Int):Prop:=∀ n,0<=n->n<10->s.aa n=true->f n=s.left s.pr n/\g n=s.left s.pg n
theorem Own.lay{s:TG}(hO:s.Ok){f g:Int->Int}(h:s.Own f g){n:Int}(h0:0<=n)(h1:n<10)(h2:s.aa n=true)(p m:Int):(s.lay (s.cU n) p m).Own (ad f n (f n+p)) (ad g n (g n+m)):=fun x x0 x1 x2=>by
 have a2:(s.lay (s.cU n) p m).left (s.lay (s.cU n) p m).pr x=s.left s.pr x+if x=n then p else 0:=Ac hO h0 h1 h2 s.pr p x0
 have b2:(s.lay (s.cU n) p m).left (s.lay (s.cU n) p m).pg x=s.left s.pg x+if x=n then m else 0:=Ac hO h0 h1 h2 s.pg m x0
 rw[a2,b2];obtain⟨e1,e2⟩:=h x x0 x1 x2;by_cases hx:x=n
 ·subst hx;rw[ah,ah,if_pos rfl,if_pos rfl,e1,e2];exact⟨rfl,rfl⟩
 ·rw[ae _ _ hx,ae _ _ hx,if_neg hx,if_neg hx,e1,e2];exact⟨og,og⟩
def Own.bI{s:TG}(hO:s.Ok){f g:Int->Int}(h:s.Own f g){n p m:Int}(hc:s.dJ n p m=0):(s.bI n p m).Own (ad f n (f n+p)) (ad g n (g n+m)):=by
 obtain⟨⟨n0,n1,n2⟩,_⟩:=wT hc;have e:s.bI n p m=s.lay (s.cU n) p m:=by unfold TG.bI;rw[if_pos hc]
 rw[e];exact h.lay hO n0 n1 n2 p m
theorem Own.eb{s:TG}(hO:s.Ok){f g:Int->Int}(h:s.Own f g){n p m:Int}(hc:s.gD n p m=0):(s.eb n p m).Own (ad f n (f n-p)) (ad g n (g n-m)):=by
 obtain⟨⟨n0,n1,n2⟩,_⟩:=zN hc;have e:s.eb n p m=s.lay (s.cU n) (-p) (-m):=by unfold TG.eb;rw[if_pos hc]
 rw[e];have:=h.lay hO n0 n1 n2 (-p) (-m);rw[show f n+ -p=f n-p from og,show g n+ -m=g n-m from og]at this;exact this
def Rv{a b p m:Int}(h:s.fl a b p m=0):s.gD a p m=0/\(s.eb a p m).dJ b p m=0/\s.move a b p m=(s.eb a p m).bI b p m:=by
 unfold fl at h;split at h
 ·omega
 ·split at h
  ·omega
  ·rename_i h1 h2;refine⟨og,h,?_⟩;unfold TG.move;rw[if_neg (fun q=>by rcases q with q | q<;>omega),if_pos h]
def Own.move{s:TG}(hO:s.Ok){f g:Int->Int}(h:s.Own f g){a b p m:Int}(hc:s.fl a b p m=0):(s.move a b p m).Own (ad (ad f a (f a-p)) b (ad f a (f a-p) b+p)) (ad (ad g a (g a-m)) b (ad g a (g a-m) b+m)):=by
 obtain⟨h1,h2,h3⟩:=Rv hc;rw[h3];exact(h.eb hO h1).bI hO.eb h2
theorem Own.add{s:TG}(hO:s.Ok){f g:Int->Int}(h:s.Own f g){a:Int}(ha:s.vx a=0):(s.add a).Own (ad f (s.kI a) 0) (ad g (s.kI a) 0):=by
 obtain⟨e1,e2,e3,e4,e5,_⟩:=OE ha;have e:s.add a=s.put (s.kI a) a:=by unfold TG.add;rw[if_pos ha]
 rw[e];intro x x0 x1 x2;show _=(s.put (s.kI a) a).left (ad s.pr (s.kI a) 0) x/\_=(s.put (s.kI a) a).left (ad s.pg (s.kI a) 0) x;by_cases hx:x=s.kI a
 ·have ha2:a≠s.kI a:=fun q=>by
   have:=(ky e1).2.2;rw[q,e5]at this;cases this
  rw[hx,Ae hO e5 e3 ha2,Ae hO e5 e3 ha2,ah,ah];exact⟨rfl,rfl⟩
 ·have yp:s.aa x=true:=by
   have:(s.put (s.kI a) a).aa x=ad s.aa (s.kI a) true x:=rfl;rw[this,ae _ _ hx]at x2;exact x2
  rw[Ad hO e5 _ yp,Ad hO e5 _ yp,ae _ _ hx,ae _ _ hx];exact h x x0 x1 yp
def Own.eh{s:TG}(hI:s.Inv){f g:Int->Int}(h:s.Own f g)(n:Int):(s.eh n).Own f g:=by
 unfold TG.eh;split
 ·rename_i h0;obtain⟨e1,e2,e3,e4,e5⟩:=BL h0;obtain⟨n0,n1,n2⟩:=ky e1;have hnn:=hI.nn n0 n1 n2;intro x x0 x1 x2;have hx:x≠n:=fun e=>by
   subst e;have:(s.yF x).aa x=ad s.aa x false x:=rfl;rw[this,ah]at x2;cases x2
  have x3:s.aa x=true:=by
   have:(s.yF n).aa x=ad s.aa n false x:=rfl;rw[this,ae _ _ hx]at x2;exact x2
  have iZ:∀ f:Int->Int,f n=0->(s.yF n).left (ad f n 0) x=s.left f x:=fun f hf=>by
   unfold left;rw[ae _ _ hx];congr 1;refine ck 10 fun j j0 j1=> ?_;unfold gK;show(if ad s.aa n false j=true/\ad s.aA n 0 j=x then ad f n 0 j else 0)=_;by_cases hj:j=n
   ·subst hj;rw[ah];simp[hf]
   ·rw[ae _ _ hj,ae _ _ hj,ae _ _ hj]
  show _=(s.yF n).left (ad s.pr n 0) x/\_=(s.yF n).left (ad s.pg n 0) x;rw[iZ _ og,iZ _ og];exact h x x0 x1 x3
 ·exact h
def Own.ki{s:TG}{f g:Int->Int}(h:s.Own f g)(n p m:Int):(s.ki n p m).Own f g:=by
 unfold TG.ki;split<;>exact h
theorem Own.cR:TG.cR.Own (fun _=>0) (fun _=>0):=fun n _ _ n2=>by
 have:n=0:=by rw[BM]at n2;simpa using n2
 subst this;decide+kernel
end TG
def Pu{c:Int->Int->Int}{f g:Int->Int}{L:List Int}(h:∀ x∈L,f x=g x)(n:Int):J8 c f L n=J8 c g L n:=by
 unfold J8;congr 1;exact List.map_congr_left fun x hx=>by rw[h x hx]
end Go.X.Gr

namespace Go.X.Kn
open Go Go.X Go.X.Gr Go.X.Vm
variable{T n x:Int}{m:Vm.MS}
theorem iY{f f':Int->Int}{n:Int} :∀ {k:Nat},0<=n->n<k->(∀ j:Int,0<=j->j<k->j≠n->f' j=f j)->Gr.bU f' k=Gr.bU f k-f n+f' n
 | 0,h0,h1,_=>og
 | k+1,h0,h1,h=>by
  unfold Gr.bU;by_cases e:n=k
  ·subst e;rw[Gr.ck k fun j a b=>h j a og og];omega
  ·rw[iY (n:=n) (k:=k) h0 og fun j a b c=>h j a og c,h k og og fun c=>e c.symm];omega
def uo{f:Int->Int}{n:Int} :∀ {k:Nat},0<=n->n<k->(∀ j:Int,0<=j->j<k->0<=f j)->f n<=Gr.bU f k
 | 0,h0,h1,_=>og
 | k+1,h0,h1,h=>by
  unfold Gr.bU;have hk:=h k og og;by_cases e:n=k
  ·subst e;have:=Aa (f:=f) k (fun j a b=>h j a og);omega
  ·have:=uo (f:=f) (n:=n) (k:=k) h0 og (fun j a b=>h j a og);omega
def KA.pc(a:KA)(y j:Int):Int:=if(a.u j).st≠0/\(a.u j).cO=y then 1 else 0
def KA.rc(a:KA)(y j:Int):Int:=if(a.u j).cO=y then a.gk j else 0
def KA.uU(a:KA)(y:Int):Int:=Gr.bU (a.pc y) 20
def KA.sK(a:KA)(y:Int):Int:=Gr.bU (a.rc y) 20
structure KA.GI (a:KA):Prop where
 cO:∀ n,0<=n->n<20->(a.u n).st≠0->a.g.cQ (a.u n).cO=0
 aU:a.g.Own a.uU a.sK
def AU(m:Vm.MS):0<=m.gk/\m.gk<=16:=Jv m.fr 16
def KA.ai4(a:KA)(y j:Int):0<=a.pc y j:=by unfold KA.pc;split<;>omega
def KA.ai5(a:KA)(y j:Int):0<=a.rc y j:=by
 unfold KA.rc;split
 ·exact(AU _).1
 ·exact Int.le_refl _
def lD{g:Gr.TG}{f f' h h':Int->Int}(o:g.Own f h)(e1:∀ y,0<=y->y<10->g.aa y=true->f' y=f y)(e2:∀ y,0<=y->y<10->g.aa y=true->h' y=h y):g.Own f' h':=fun n a b c=>by rw[e1 n a b c,e2 n a b c];exact o n a b c
theorem KA.GI.same{a a':KA}(h:a.GI)(hu:∀ p,(a'.u p).st=(a.u p).st/\(a'.u p).cO=(a.u p).cO)(hg:a'.g=a.g)(hf:∀ j,0<=j->a'.gk j=a.gk j):a'.GI:=by
 have e1:a'.uU=a.uU:=by
  funext y;exact Gr.ck 20 fun j _ _=>by unfold KA.pc;rw[(hu j).1,(hu j).2]
 have e2:a'.sK=a.sK:=by
  funext y;exact Gr.ck 20 fun j j0 _=>by unfold KA.rc;rw[(hu j).2,hf j j0]
 exact⟨fun n a0 a1 q=>by rw[(hu n).1]at q;rw[(hu n).2,hg];exact h.cO n a0 a1 q,by rw[e1,e2,hg];exact h.aU⟩
theorem Rw(v:VB)(fr:Int->Int)(a:Int):∀ k:Nat,(Ju v fr a k).1=Gr.bU (fun j=>if 0<fr (a+j)then 1 else 0) k
 | 0=>rfl
 | k+1=>by
  unfold Ju Z1 Gr.bU;have ih:=Rw v fr a k;split
  ·show(Ju v fr a k).1+1=_;rw[ih]
  ·rw[ih];omega
theorem wi(fr:Int->Int):∀ k:Nat,sy fr k=Gr.bU (fun j=>if 0<fr j then 1 else 0) k
 | 0=>rfl
 | k+1=>by unfold sy Gr.bU;rw[wi fr k]
theorem qt(f:Int->Int):∀ (m k:Nat),Gr.bU f (m+k)=Gr.bU f m+Gr.bU (fun j=>f ((m:Int)+j)) k
 | m,0=>(Int.add_zero _).symm
 | m,k+1=>by
  show Gr.bU f (m+k)+f ((m+k:Nat):Int)=_+(Gr.bU _ k+_);rw[qt f m k,show((m+k:Nat):Int)=(m:Int)+(k:Int)from og,Int.add_assoc]
def Iy(v:VB)(m:Vm.MS)(x n:Int):(m.dM v x n).1=m.gk-(m.dM v x n).2.2.2.gk/\0<=(m.dM v x n).1:=by
 unfold Vm.MS.dM;split
 ·exact⟨(Int.sub_self _).symm,Int.le_refl 0⟩
 ·rename_i c;have hb:¬(x<0\/15<x\/n<1\/16-x<n):=c;show(Ju v m.fr x n.toNat).1=sy m.fr 16-sy (fR m.fr x n 0) 16/\0<=(Ju v m.fr x n.toNat).1;rw[Rw,wi,wi];obtain⟨i,hi⟩:∃ i:Nat,x=i:=⟨x.toNat,og⟩;obtain⟨j,hj⟩:∃ j:Nat,n=j:=⟨n.toNat,og⟩;obtain⟨l,hl⟩:∃ l:Nat,(16:Nat)=i+j+l:=⟨16-i-j,og⟩;subst hi;subst hj;rw[hl,qt _ (i+j) l,qt _ i j,qt _ (i+j) l,qt _ i j,show((j:Int)).toNat=j by omega];have e1:Gr.bU (fun y=>if 0<fR m.fr (i:Int) (j:Int) 0 y then(1:Int)else 0) i=Gr.bU (fun y=>if 0<m.fr y then(1:Int)else 0) i:=Gr.ck i fun y a b=>by
   unfold fR;rw[if_neg (show ¬((i:Int)<=y/\y<(i:Int)+j) by omega)]
  have e2:Gr.bU (fun y=>if 0<fR m.fr (i:Int) (j:Int) 0 ((i:Int)+y)then(1:Int)else 0) j=0:=Gr.dx j fun y a b=>by
   unfold fR;rw[if_pos (show(i:Int)<=(i:Int)+y/\(i:Int)+y<(i:Int)+j by omega)];rfl
  have e3:Gr.bU (fun y=>if 0<fR m.fr (i:Int) (j:Int) 0 (((i+j:Nat):Int)+y)then(1:Int)else 0) l=Gr.bU (fun y=>if 0<m.fr (((i+j:Nat):Int)+y)then(1:Int)else 0) l:=Gr.ck l fun y a b=>by
   unfold fR;rw[if_neg (show ¬((i:Int)<=((i+j:Nat):Int)+y/\((i+j:Nat):Int)+y<(i:Int)+j) by omega)]
  have e4:=Aa (f:=fun y=>if 0<m.fr ((i:Int)+y)then(1:Int)else 0) j (fun y _ _=>by show(0:Int)<=if _ then _ else _;split<;>omega);rw[e1,e2,e3];exact⟨og,e4⟩
def DJ{g:Gr.TG}{p m:Int}(h:g.cQ n=0)(hp:0<=p/\p<=20)(hm:0<=m/\m<=64)(h1:p<=g.left g.pr n:=by omega)(h2:m<=g.left g.pg n:=by omega):g.gD n p m=0:=by
 have e:g.qB n p m=0:=by unfold Gr.TG.qB;rw[if_neg og];exact(Gr.TG.CH _ _).2 ⟨hp.1,hp.2,hm.1,hm.2⟩
 unfold Gr.TG.gD;rw[if_neg og,if_pos ⟨h1,h2⟩]
theorem KA.GI.left{a:KA}(h:a.GI){n:Int}(hn:0<=n/\n<20)(hs:(a.u n).st≠0):1<=a.g.left a.g.pr (a.u n).cO/\a.gk n<=a.g.left a.g.pg (a.u n).cO:=by
 obtain⟨h0,h1,h2⟩:=Gr.TG.ky (h.cO n hn.1 hn.2 hs);obtain⟨e1,e2⟩:=h.aU _ h0 h1 h2;rw[<-e1,<-e2];have k1:=uo (f:=a.pc (a.u n).cO) (n:=n) (k:=20) hn.1 og fun j _ _=>a.ai4 _ j;have k2:=uo (f:=a.rc (a.u n).cO) (n:=n) (k:=20) hn.1 og fun j _ _=>a.ai5 _ j;rw[show a.pc (a.u n).cO n=1 from if_pos ⟨hs,rfl⟩]at k1;rw[show a.rc (a.u n).cO n=a.gk n from if_pos rfl]at k2;exact⟨k1,k2⟩
theorem ou(g g':Gr.TG)(h:kG g g')(n:Int):g'.cQ n=g.cQ n:=by unfold Gr.TG.cQ;rw[h.1]
def KA.GI.adZ{a a':KA}(h:a.GI)(ho:a.g.Ok)(hn:0<=n/\n<20)(hs:(a.u n).st≠0)(hu:∀ p,((a'.u p).st≠0↔(a.u p).st≠0)/\(a'.u p).cO=(a.u p).cO)(hf:∀ j,0<=j->j≠n->a'.gk j=a.gk j)(d:Int)(hd:a.gk n=a'.gk n+d)(hg:a'.g=a.g.eb (a.u n).cO 0 d)(Ut:0<=d):a'.GI/\a.g.gD (a.u n).cO 0 d=0:=by
 obtain⟨l1,l2⟩:=h.left hn hs;have r1:=(AU (a.f n.toNat)).2;have r2:=(AU (a'.f n.toNat)).1;have r1:a.gk n<=16:=r1;have r2:0<=a'.gk n:=r2;have e:a.g.gD (a.u n).cO 0 d=0:=DJ (h.cO n hn.1 hn.2 hs) ⟨og,og⟩ ⟨Ut,og⟩;refine⟨⟨fun p p0 p1 q=> ?_,?_⟩,e⟩
 ·rw[(hu p).2,hg,ou _ _ (sJ _ _ _ _)];exact h.cO p p0 p1 ((hu p).1.1 q)
 ·rw[hg];refine lD (h.aU.eb ho e) (fun y y0 y1 _=> ?_) fun y y0 y1 _=> ?_
  ·have:a'.uU y=a.uU y:=Gr.ck 20 fun j _ _=>by
    unfold KA.pc;rw[(hu j).2];by_cases c:(a.u j).st≠0/\(a.u j).cO=y
    ·rw[if_pos c,if_pos ⟨(hu j).1.2 c.1,c.2⟩]
    ·rw[if_neg c,if_neg fun q=>c ⟨(hu j).1.1 q.1,q.2⟩]
   rw[this];by_cases c:y=(a.u n).cO
   ·rw[c,ah];omega
   ·rw[ae _ _ c]
  ·have k:=iY (f:=a.rc y) (f':=a'.rc y) (n:=n) (k:=20) hn.1 og (fun j j0 _ c=>by unfold KA.rc;rw[(hu j).2,hf j j0 c]);have k:a'.sK y=a.sK y-a.rc y n+a'.rc y n:=k;rw[k];unfold KA.rc;rw[(hu n).2];by_cases c:y=(a.u n).cO
   ·rw[c,ah,if_pos rfl,if_pos rfl];omega
   ·rw[ae _ _ c,if_neg fun q=>c q.symm,if_neg fun q=>c q.symm];omega
def FD{a:KA}(hn:0<=n)(v:VB)(g:Gr.TG)(u:Int->PA)(O:Tr.OS)(P:Tr.PS):(∀ j,0<=j->j≠n->({a with u:=u,v:=v,g:=g,f:=bD a.f n.toNat m,O:=O,P:=P} :KA).gk j=a.gk j)/\({a with u:=u,v:=v,g:=g,f:=bD a.f n.toNat m,O:=O,P:=P} :KA).gk n=m.gk:=by
 refine⟨fun j j0 c=> ?_,?_⟩
 ·show(bD a.f n.toNat m j.toNat).gk=_;rw[iu _ _ og];rfl
 ·show(bD a.f n.toNat m n.toNat).gk=_;rw[ly]
theorem KA.Wk.Uu{a:KA}(w:a.Wk T)(hn:0<=n/\n<20)(hs:(a.u n).st≠1):a.gk n=0:=by
 unfold KA.gk;rw[w.ud n hn.1 hn.2 hs];rfl
def gq:dm KA.GI where
 rest:=fun {a u} h hu=>h.same (fun p=>⟨(hu p).1,(hu p).2.1⟩) rfl fun _ _=>rfl
 end_:=fun {a T n} co w hn hl h=>by
  obtain⟨e1,e2⟩:=Iy a.v (a.f n.toNat) 0 16
  obtain⟨f1,f2⟩:=FD (a:=a) (m:=(a.um n).2.2.2) hn.1 (a.um n).2.2.1 (a.g.eb (a.u n).cO 0 (a.um n).1) (a.cH n co).u (a.cH n co).O (a.cH n co).P
  refine(h.adZ (a':=a.cH n co) w.gI.ok hn og (fun p=>⟨(wh hl co p).1,?_⟩) f1 (a.um n).1 ?_ rfl e2).1
  ·show(ad a.u n _ p).cO=_
   by_cases c:p=n
   ·subst c;rw[ah]
   ·rw[ae _ _ c]
  ·rw[show(a.cH n co).gk n=_ from f2]
   show(a.f n.toNat).gk=_
   show _=((a.f n.toNat).dM a.v 0 16).2.2.2.gk+((a.f n.toNat).dM a.v 0 16).1
   omega
 za:=fun {a T n} w hn hs h=>by
  obtain⟨l1,l2⟩:=h.left hn og
  have r0:=w.Uu hn og
  have e:a.g.gD (a.u n).cO 1 0=0:=DJ (h.cO n hn.1 hn.2 og) ⟨og,og⟩ ⟨og,og⟩ l1
  have un:(a.dD n).u n=PA.nil:=ah _ _ _
  refine⟨fun p p0 p1 q=> ?_,?_⟩
  ·have c:p≠n:=by rintro rfl;rw[un]at q;exact q rfl
   rw[ll _ c]at q ⊢
   show(a.g.eb _ 1 0).cQ _=0
   rw[ou _ _ (sJ _ _ _ _)];exact h.cO p p0 p1 q
  ·show(a.g.eb (a.u n).cO 1 0).Own _ _
   refine lD (h.aU.eb w.gI.ok e) (fun y y0 y1 _=> ?_) fun y y0 y1 _=> ?_
   ·have k:=iY (f:=a.pc y) (f':=(a.dD n).pc y) (n:=n) (k:=20) hn.1 og (fun j _ _ c=>by unfold KA.pc;rw[ll _ c])
    have k:(a.dD n).uU y=a.uU y-a.pc y n+(a.dD n).pc y n:=k
    have k0:(a.dD n).pc y n=0:=by unfold KA.pc;rw[un,if_neg fun q=>q.1 rfl]
    rw[k,k0]
    unfold KA.pc
    by_cases c:y=(a.u n).cO
    ·rw[c,ah,if_pos ⟨og,rfl⟩];omega
    ·rw[ae _ _ c,if_neg fun q=>c q.2.symm];omega
   ·have k:(a.dD n).sK y=a.sK y:=Gr.ck 20 fun j j0 j1=>by
     unfold KA.rc
     by_cases c:j=n
     ·subst c
      rw[show(a.dD j).gk j=0 from r0,r0];split<;>split<;>rfl
     ·rw[ll _ c];rfl
    rw[k]
    by_cases c:y=(a.u n).cO
    ·rw[c,ah];omega
    ·rw[ae _ _ c]
 spc:=fun s h=>h.same (fun _=>⟨rfl,rfl⟩) rfl fun _ _=>rfl
theorem KA.GI.jo{a:KA}(h:a.GI)(ok:a.zk T)(n:Int)(aU:Bool):(a.gH n aU).GI:=by
 unfold KA.gH;split
 ·exact h
 rename_i c;have hl:a.aF n=0:=og;have gE:a.g.dJ (a.u n).cO 1 (a.gk n)=0:=by
   have:a.gE n=0:=og;exact this
 obtain⟨hn,hs⟩:=bE hl;have ho:=ok.wk.gI.ok;have o1:=h.aU.bI ho gE;have rrz:0<=a.gk n/\a.gk n<=16:=AU _;have i1:(a.gC n).cQ (a.u n).cO=0:=by unfold KA.gC;rw[ou _ _ (nZ _ _ _ _)];exact h.cO n hn.1 hn.2 og
 split
 obtain⟨h0,h1,h2⟩:=Gr.TG.ky i1;obtain⟨q1,q2⟩:=o1 _ h0 h1 h2;rw[ah]at q1 q2;obtain⟨k0,k1,k2⟩:=Gr.TG.ky (h.cO n hn.1 hn.2 og);obtain⟨p1,p2⟩:=h.aU _ k0 k1 k2;obtain⟨l1,l2⟩:=h.left hn og;have e:(a.gC n).gD (a.u n).cO 1 (a.gk n)=0:=DJ i1 ⟨og,og⟩ ⟨og,og⟩ (by show 1<=(a.g.bI (a.u n).cO 1 (a.gk n)).left (a.g.bI (a.u n).cO 1 (a.gk n)).pr (a.u n).cO;omega) (by show a.gk n<=(a.g.bI (a.u n).cO 1 (a.gk n)).left (a.g.bI (a.u n).cO 1 (a.gk n)).pg (a.u n).cO;omega);refine⟨fun p p0 p1 q=> ?_,?_⟩
 ·show((a.gC n).eb _ 1 _).cQ _=0;rw[ou _ _ (sJ _ _ _ _)];unfold KA.gC;rw[ou _ _ (nZ _ _ _ _)];exact h.cO p p0 p1 q
 have o2:=Gr.TG.Own.eb (s:=a.gC n) (ok.wk.gI.bI _ _ _).ok o1 e;refine lD o2 (fun y _ _ _=> ?_) fun y _ _ _=> ?_
 show a.uU y=_;rotate_left
 show a.sK y=_;rotate_left
 ·have Fj:=a.free_spec.resolve_left (show a.free≠20 by omega);have gJ:n≠a.free:=by rintro e;rw[<-e]at Fj;omega
  have hu:∀ m,m≠a.free->(a.cS n aU).u m=a.u m:=fun m hm=>ae _ _ hm;have Ui:(a.cS n aU).u a.free=a.J1 n:=ah _ _ _;have hr:∀ j,0<=j->j≠a.free->(a.cS n aU).gk j=a.gk j:=fun j j0 c=>by
   show(bD (bD a.f n.toNat (a.f n.toNat).bare) a.free.toNat (a.f n.toNat).bare j.toNat).gk=_;rw[iu _ _ og];by_cases d:j=n
   ·subst d;rw[ly];rfl
   ·rw[iu _ _ og];rfl
  have hrc:(a.cS n aU).gk a.free=a.gk n:=by
   show(bD (bD a.f n.toNat (a.f n.toNat).bare) a.free.toNat (a.f n.toNat).bare a.free.toNat).gk=_;rw[ly];rfl
  have r0:=ok.wk.Uu Fj.1 og;refine⟨fun p p0 p1 q=> ?_,?_⟩
  ·show(a.gC n).cQ _=0;by_cases e:p=a.free
   ·rw[e,Ui];exact i1
   ·rw[hu p e]at q ⊢;unfold KA.gC;rw[ou _ _ (nZ _ _ _ _)];exact h.cO p p0 p1 q
  ·show(a.gC n).Own _ _;refine lD o1 (fun y _ _ _=> ?_) fun y _ _ _=> ?_
   ·have k:=iY (f:=a.pc y) (f':=(a.cS n aU).pc y) (n:=a.free) (k:=20) Fj.1.1 og (fun j _ _ c=>by unfold KA.pc;rw[hu j c]);have k:(a.cS n aU).uU y=a.uU y-a.pc y a.free+(a.cS n aU).pc y a.free:=k;have k0:a.pc y a.free=0:=if_neg fun q=>q.1 Fj.2;rw[k,k0];unfold KA.pc;rw[Ui];by_cases c:y=(a.u n).cO
    ·rw[c,ah,if_pos ⟨(by decide:(1:Int)≠0),rfl⟩];omega
    ·rw[ae _ _ c,if_neg fun q=>c q.2.symm];omega
   ·have k:=iY (f:=a.rc y) (f':=(a.cS n aU).rc y) (n:=a.free) (k:=20) Fj.1.1 og (fun j j0 _ c=>by unfold KA.rc;rw[hu j c,hr j j0 c]);have k:(a.cS n aU).sK y=a.sK y-a.rc y a.free+(a.cS n aU).rc y a.free:=k;have k0:a.rc y a.free=0:=by unfold KA.rc;rw[r0];split<;>rfl
    rw[k,k0];unfold KA.rc;rw[Ui,hrc];show(a.sK y-0+if(a.u n).cO=y then a.gk n else 0)=_;by_cases c:y=(a.u n).cO
    ·rw[c,ah,if_pos rfl];omega
    ·rw[ae _ _ c,if_neg fun q=>c q.symm];omega
 all_goals
  by_cases c:y=(a.u n).cO
  ·rw[c,ah,ah];omega
  ·rw[ae _ _ c,ae _ _ c]
theorem KA.GI.mem{a:KA}(h:a.GI)(hn:0<=n)(hm:m.gk=(a.f n.toNat).gk)(v:VB):({a with v:=v,f:=bD a.f n.toNat m,g:=a.g} :KA).GI:=by
 obtain⟨f1,f2⟩:=FD (a:=a) (m:=m) hn v a.g a.u a.O a.P;refine h.same (fun _=>⟨rfl,rfl⟩) rfl fun j j0=> ?_;by_cases c:j=n
 ·subst c;exact f2.trans hm
 ·exact f1 j j0 c
theorem KA.GI.dM{a:KA}{T:Int}(h:a.GI)(ok:a.zk T)(n x m:Int):(a.aP n x m).GI/\a.nY n x m=(if a.aF n≠0 then a.aF n else(a.xo n x m).2.1):=by
 by_cases c:a.aF n≠0
 ·unfold KA.aP KA.nY;rw[if_pos c,if_pos c,if_pos c];exact⟨h,rfl⟩
 ·obtain⟨hn,hs⟩:=bE (show a.aF n=0 by omega);obtain⟨e1,e2⟩:=Iy a.v (a.f n.toNat) x m;by_cases d:(a.xo n x m).2.1≠0
  ·have em:a.xo n x m=(0,1,a.v,a.f n.toNat):=by
    unfold KA.xo Vm.MS.dM at d ⊢;split at d
    ·rename_i q;rw[if_pos q]
    ·exact absurd rfl d
   have e:a.aP n x m=a:=by
    unfold KA.aP;rw[if_neg c,em,if_pos (show((0:Int),(1:Int),a.v,a.f n.toNat).2.1≠0 from(by decide:(1:Int)≠0)),ku]
   rw[e];refine⟨h,?_⟩;unfold KA.nY;rw[if_neg c,if_neg c,if_pos d]
  ·obtain⟨f1,f2⟩:=FD (a:=a) (m:=(a.xo n x m).2.2.2) hn.1 (a.xo n x m).2.2.1 (a.g.eb (a.u n).cO 0 (a.xo n x m).1) a.u a.O a.P;have e:a.aP n x m= {a with v:=(a.xo n x m).2.2.1,f:=bD a.f n.toNat (a.xo n x m).2.2.2,g:=a.g.eb (a.u n).cO 0 (a.xo n x m).1} :=by
    unfold KA.aP;rw[if_neg c,if_neg d]
   have k:=h.adZ (a':= {a with v:=(a.xo n x m).2.2.1,f:=bD a.f n.toNat (a.xo n x m).2.2.2,g:=a.g.eb (a.u n).cO 0 (a.xo n x m).1}) ok.wk.gI.ok hn og (fun p=>⟨Iff.rfl,rfl⟩) f1 (a.xo n x m).1 (by
    rw[f2]
    show(a.f n.toNat).gk=_
    unfold KA.xo;rw[e1];omega) rfl e2
   rw[e];refine⟨k.1,?_⟩;unfold KA.nY;rw[if_neg c,if_neg c,if_neg d,k.2];omega
def KA.GI.uM{a:KA}(h:a.GI)(wk:a.Wk T)(p w:Int):(a.nG p w).GI:=by
 unfold KA.nG;split
 ·exact h
 ·by_cases c:a.g.vx p=0
  ·obtain⟨_,_,k0,k1,kh,_⟩:=Gr.TG.OE c;have no:∀ n,0<=n->n<20->(a.u n).st≠0->(a.u n).cO≠a.g.kI p:=fun n a0 a1 q e=>by
    have:=(Gr.TG.ky (h.cO n a0 a1 q)).2.2;rw[e,kh]at this;cases this
   have hh:(a.g.add p).aa=ad a.g.aa (a.g.kI p) true:=by unfold Gr.TG.add;rw[if_pos c];rfl
   refine⟨fun n a0 a1 q=> ?_,?_⟩
   ·obtain⟨g0,g1,g2⟩:=Gr.TG.ky (h.cO n a0 a1 q);refine Gr.TG.Jk g0 g1 ?_;show(a.g.add p).aa (a.u n).cO=true;rw[hh,ae _ _ (no n a0 a1 q)];exact g2
   ·refine lD (h.aU.add wk.gI.ok c) (fun y _ _ _=> ?_) (fun y y0 y1 hy=> ?_)
    ·show a.uU y=_;by_cases e:y=a.g.kI p
     ·rw[e,ah];exact Gr.dx 20 fun j j0 j1=>if_neg fun q=>no j j0 og q.1 q.2
     ·rw[ae _ _ e]
    ·show a.sK y=_;by_cases e:y=a.g.kI p
     ·rw[e,ah];refine Gr.dx 20 fun j j0 j1=> ?_;unfold KA.rc;by_cases q:(a.u j).st=0
      ·rw[wk.Uu ⟨j0,og⟩ og];split<;>rfl
      ·rw[if_neg (no j j0 og q)]
     ·rw[ae _ _ e]
  ·have e:a.g.add p=a.g:=(Gr.TG.tF c).2;rw[e];exact h
def KA.GI.qa{a:KA}(h:a.GI)(wk:a.Wk T)(n:Int):(a.B4 n).GI:=by
 refine⟨fun p p0 p1 q=> ?_,h.aU.eh wk.gI n⟩;have hg:=h.cO p p0 p1 q;show(a.g.eh n).cQ (a.u p).cO=0;by_cases c:a.g.dP n=0
 ·obtain⟨k0,k1,k2,k3,k4⟩:=Gr.TG.BL c;have e:(a.g.eh n).aa=ad a.g.aa n false:=by unfold Gr.TG.eh;rw[if_pos c];rfl
  obtain⟨g0,g1,g2⟩:=Gr.TG.ky hg;apply Gr.TG.Jk g0 g1;rw[e];by_cases d:(a.u p).cO=n
  ·exfalso;have l:=(h.left ⟨p0,p1⟩ q).1;rw[d]at l;have z:Gr.bU (a.g.gK a.g.pr n) 10=0:=Gr.dx 10 fun j j0 j1=>by
    unfold Gr.TG.gK;by_cases x:a.g.aa j=true/\a.g.aA j=n
    ·exact absurd x.2 (Gr.TG.Xj k4 j0 og x.1)
    ·rw[if_neg x]
   unfold Gr.TG.left at l;omega
  ·rw[ae _ _ d];exact g2
 ·have e:a.g.eh n=a.g:=by unfold Gr.TG.eh;rw[if_neg c]
  rw[e];exact hg
theorem Pv(g:Gr.TG)(n p m:Int):(g.ki n p m).aa=g.aa/\(g.ki n p m).pr=g.pr/\(g.ki n p m).pg=g.pg:=by unfold Gr.TG.ki;split<;>exact⟨rfl,rfl,rfl⟩
def KA.GI.Z7{a:KA}(h:a.GI)(n p m:Int):(a.Ul n p m).GI:=
 ⟨fun y a0 a1 q=>by
  have:=h.cO y a0 a1 q
  show(a.g.ki n p m).cQ (a.u y).cO=0
  unfold Gr.TG.cQ at this ⊢
  rw[(Pv _ _ _ _).1];exact this,h.aU.ki n p m⟩
def KA.GI.Bf{a:KA}(h:a.GI)(wk:a.Wk T)(n z:Int):(a.pd n z).GI:=by
 unfold KA.pd;split
 ·exact h
 rename_i c;obtain⟨hn,hs⟩:=bE (show a.aF n=0 by omega);have hE:a.g.fl (a.u n).cO z 1 (a.gk n)=0:=by
   have:a.Ij n z=0:=og;exact this
 obtain⟨m1,m2,m3⟩:=Gr.TG.Rv hE;have hz:=Gr.TG.wT m2;have hl:kG a.g (a.g.move (a.u n).cO z 1 (a.gk n)):=by rw[m3];exact kG.trans (sJ _ _ _ _) (nZ _ _ _ _)
 have iz:a.g.cQ z=0:=by
  have:=Gr.TG.Jk hz.1.1 hz.1.2.1 hz.1.2.2;rwa[ou _ _ (sJ _ _ _ _)]at this
 have uu:∀ p,p≠n->ad a.u n {a.u n with cO:=z} p=a.u p:=fun p hp=>ae _ _ hp;have un:ad a.u n {a.u n with cO:=z} n= {a.u n with cO:=z} :=ah _ _ _;refine⟨fun p p0 p1 q=> ?_,?_⟩
 ·show(a.g.move _ _ _ _).cQ (ad a.u n {a.u n with cO:=z} p).cO=0;rw[ou _ _ hl];have q:(ad a.u n {a.u n with cO:=z} p).st≠0:=q;by_cases e:p=n
  ·rw[e,un];exact iz
  ·rw[uu p e]at q ⊢;exact h.cO p p0 p1 q
 refine lD (h.aU.move wk.gI.ok hE) (fun y _ _ _=> ?_) (fun y _ _ _=> ?_)
 have k:=iY (f:=a.pc y) (f':=KA.pc {a with u:=ad a.u n {a.u n with cO:=z},g:=a.g.move (a.u n).cO z 1 (a.gk n)} y) (n:=n) (k:=20) hn.1 og (fun j _ _ c=>by
  unfold KA.pc
  show(if(ad a.u n {a.u n with cO:=z} j).st≠0/\(ad a.u n {a.u n with cO:=z} j).cO=y then(1:Int)else 0)=_
  rw[uu j c])
 apply Eq.trans (b:=a.uU y-a.pc y n+(if z=y then 1 else 0))
 ·apply k.trans;have:KA.pc {a with u:=ad a.u n {a.u n with cO:=z},g:=a.g.move (a.u n).cO z 1 (a.gk n)} y n=if z=y then 1 else 0:=by
   unfold KA.pc;show(if(ad a.u n {a.u n with cO:=z} n).st≠0/\(ad a.u n {a.u n with cO:=z} n).cO=y then(1:Int)else 0)=_;rw[un];by_cases e:z=y
   ·rw[if_pos e,if_pos ⟨by show(a.u n).st≠0;omega,e⟩]
   ·rw[if_neg e,if_neg fun q=>e q.2]
  rw[this];rfl
 have e1:a.pc y n=if(a.u n).cO=y then 1 else 0:=by
  unfold KA.pc;by_cases e:(a.u n).cO=y
  ·rw[if_pos e,if_pos ⟨og,e⟩]
  ·rw[if_neg e,if_neg fun q=>e q.2]
 rw[e1];rotate_left
 have k:=iY (f:=a.rc y) (f':=KA.rc {a with u:=ad a.u n {a.u n with cO:=z},g:=a.g.move (a.u n).cO z 1 (a.gk n)} y) (n:=n) (k:=20) hn.1 og (fun j _ _ c=>by
  unfold KA.rc
  show(if(ad a.u n {a.u n with cO:=z} j).cO=y then a.gk j else 0)=_
  rw[uu j c])
 apply Eq.trans (b:=a.sK y-a.rc y n+(if z=y then a.gk n else 0))
 ·apply k.trans;have:KA.rc {a with u:=ad a.u n {a.u n with cO:=z},g:=a.g.move (a.u n).cO z 1 (a.gk n)} y n=if z=y then a.gk n else 0:=by
   unfold KA.rc;show(if(ad a.u n {a.u n with cO:=z} n).cO=y then a.gk n else 0)=_;rw[un]
  rw[this];rfl
 unfold KA.rc;rotate_left;all_goals
  by_cases e:y=z
  ·rw[e,ah,if_pos rfl];by_cases d:(a.u n).cO=z
   ·rw[d,ah,if_pos rfl]
   ·rw[if_neg d,ae _ _ fun q=>d q.symm];omega
  ·rw[ae _ _ e,if_neg (show ¬z=y from fun q=>e q.symm)];by_cases d:(a.u n).cO=y
   ·rw[d,ah,if_pos rfl];omega
   ·rw[if_neg d,ae _ _ fun q=>d q.symm];omega
theorem Iz{fr:Int->Int}{i v:Int}(h:0<=i/\i<16:=by omega)(hv:0<v:=by omega):sy (ad fr i v) 16=sy fr 16+(if 0<fr i then 0 else 1):=by
 rw[wi,wi,iY (f:=fun j=>if 0<fr j then 1 else 0) (f':=fun j=>if 0<ad fr i v j then 1 else 0) (n:=i) (k:=16) h.1 og (fun j _ _ c=>by show(if 0<ad fr i v j then(1:Int)else 0)=_;rw[ae _ _ c])];show _-(if 0<fr i then(1:Int)else 0)+(if 0<ad fr i v i then 1 else 0)=_;rw[ah,if_pos hv];split<;>omega
def Rx{v:VB}(h:v.Ok)(e:v.take.2.1=0:=by omega):0<=v.take.1:=by
 have k:=oC h e;exact k.1
def IA{v:VB}(hv:v.Ok)(hm:m.Ok)(x:Int)(w:Bool):(m.cD v x w).2.2.2.gk=m.gk+(if(m.cD v x w).2.1=0/\m.my x=true then 1 else 0):=by
 have lo:=hm.lo (x/8);unfold Vm.MS.cD;by_cases c1:m.tT x w=false
 ·rw[if_pos c1,if_neg (fun q=>absurd (show(10:Int)=0 from q.1) dq)];exact(Int.add_zero _).symm
 ·rw[if_neg c1];have tT:m.tT x w=true:=by simpa using c1
  have rx:=Vm.MS.qS tT;have m0:m.tT x false=true:=by
   unfold Vm.MS.tT at tT ⊢;simp only[Bool.and_eq_true,Bool.or_eq_true,decide_eq_true_eq,beq_iff_eq]at tT ⊢;exact⟨tT.1,tT.2.imp id fun q=>⟨q.1,rfl⟩⟩
  by_cases c2:m.fr (x/8)=0
  ·have wa:m.my x=true:=by unfold Vm.MS.my;rw[m0,c2];rfl
   rw[if_pos c2];by_cases c3:v.take.2.1≠0
   ·rw[if_pos c3,if_neg fun q=>c3 q.1];exact(Int.add_zero _).symm
   ·rw[if_neg c3,if_pos ⟨rfl,wa⟩];show sy (ad m.fr (x/8) (v.take.1+1)) 16=_;have:=Rx hv;rw[Iz,if_neg og];rfl
  ·have wa:m.my x=false:=by unfold Vm.MS.my;rw[beq_false_of_ne c2];simp
   rw[if_neg c2,wa];have z:∀ {p:Prop} [Decidable p],(if p/\false=true then(1:Int)else 0)=0:=if_neg fun q=>by cases q.2
   rw[z,Int.add_zero];split
   ·rfl
   ·split
    ·rfl
    ·split
     ·rfl
     ·rename_i c3;show sy (ad m.fr (x/8) (v.take.1+1)) 16=_;have:=Rx hv;rw[Iz,if_pos og];exact Int.add_zero _
def Px(v:VB)(m:Vm.MS)(x:Int):(m.load v x).2.1=(m.cD v x false).2.1/\(m.load v x).2.2.2=(m.cD v x false).2.2.2:=by
 unfold Vm.MS.load;show(if(m.cD v x false).2.1≠0 then _ else _:Int×Int×VB×Vm.MS).2.1=_/\(if(m.cD v x false).2.1≠0 then _ else _:Int×Int×VB×Vm.MS).2.2.2=_;split
 ·exact⟨rfl,rfl⟩
 ·rename_i c;exact⟨by show(0:Int)=_;omega,rfl⟩
def Na(v:VB)(m:Vm.MS)(x y:Int):(m.store v x y).1=(m.cD v x true).2.1/\(m.store v x y).2.2=(m.cD v x true).2.2.2:=by
 unfold Vm.MS.store;show(if(m.cD v x true).2.1≠0 then _ else _:Int×VB×Vm.MS).1=_/\(if(m.cD v x true).2.1≠0 then _ else _:Int×VB×Vm.MS).2.2=_;split
 ·exact⟨rfl,rfl⟩
 ·rename_i c;exact⟨by show(0:Int)=_;omega,rfl⟩
structure Uv(n x:Int)(D:TD):Prop where
 u:∀ b:KA,(D.A b).u=b.u/\(D.A b).g=b.g/\(∀ j,0<=j->j≠n->(D.A b).f j.toNat=b.f j.toNat)
 r:∀ {b:KA} {S:Int},b.Ok S->b.aF n=0->(D.A b).gk n=b.gk n+(if D.e b=0/\(b.f n.toNat).my x=true then 1 else 0)
def Py(hn:0<=n):Uv n x (Z6 n x):=
 ⟨fun b=>⟨rfl,rfl,fun j j0 c=>iu _ _ og⟩,fun {b S} ok c=>by
  have k:=IA (v:=b.v) (m:=b.f n.toNat) ok.wk.sys.jM.ok (ok.wk.sys.mo _ (by have:=(bE c).1;omega)) x false
  obtain⟨e1,e2⟩:=Px b.v (b.f n.toNat) x
  show(bD b.f n.toNat ((b.f n.toNat).load b.v x).2.2.2 n.toNat).gk=_
  rw[ly,e2,k]
  exact congrArg (b.gk n+ ·) (ite_congr (by rw[show(Z6 n x).e b=_ from e1]) (fun _=>rfl) fun _=>rfl)⟩
def PC{y:Int}(hn:0<=n):Uv n x (sfD n x y):=
 ⟨fun b=>⟨rfl,rfl,fun j j0 c=>iu _ _ og⟩,fun {b S} ok c=>by
  have k:=IA (v:=b.v) (m:=b.f n.toNat) ok.wk.sys.jM.ok (ok.wk.sys.mo _ (by have:=(bE c).1;omega)) x true
  obtain⟨e1,e2⟩:=Na b.v (b.f n.toNat) x y
  show(bD b.f n.toNat ((b.f n.toNat).store b.v x y).2.2 n.toNat).gk=_
  rw[ly,e2,k]
  exact congrArg (b.gk n+ ·) (ite_congr (by rw[show(sfD n x y).e b=_ from e1]) (fun _=>rfl) fun _=>rfl)⟩
def ad0(a b:KA):Prop:=∀ z,0<=z->z<20->(b.u z).st=1->(a.u z).st=1/\b.f z.toNat=a.f z.toNat
def J9(a:KA):dm (ad0 a) where
 rest:=fun h hu z z0 z1 q=>h z z0 z1 (by rw[<-(hu z).1];exact q)
 end_:=fun {b T n} co w hn hl h z z0 z1 q=>by
  by_cases c:z=n
  ·subst c;rw[lX]at q;exact absurd q dq
  ·rw[ni _ _ c]at q
   obtain⟨h1,h2⟩:=h z z0 z1 q
   refine⟨h1,?_⟩
   show bD b.f n.toNat _ z.toNat=_
   rw[iu _ _ og];exact h2
 za:=fun {b T n} w hn hs h z z0 z1 q=>by
  by_cases c:z=n
  ·subst c
   rw[show(b.dD z).u z=PA.nil from ah _ _ _]at q
   exact absurd (show(0:Int)=1 from q) dq
  ·rw[ll _ c]at q;exact h z z0 z1 q
 spc:=fun s h=>h
def dm.and{I J:KA->Prop}(S:dm I)(R:dm J):dm (fun a=>I a/\J a):=
 ⟨fun h hu=>⟨S.rest h.1 hu,R.rest h.2 hu⟩,fun co w hn hl h=>⟨S.end_ co w hn hl h.1,R.end_ co w hn hl h.2⟩,fun w hn hs h=>⟨S.za w hn hs h.1,R.za w hn hs h.2⟩,fun s h=>⟨S.spc s h.1,R.spc s h.2⟩⟩
def B8{a:KA}(ok:a.Ok T)(hT:T<=900000){w:Bool}{D:TD}{y0:Int}(hD:Uv n x D){I:KA->Prop}(S:dm I)(h:I a):(∃ e,(a.iX n x w D y0).1=e/\e≠0/\I (a.iX n x w D y0).2.1)\/(a.aF n=0/\(a.f n.toNat).my x=false/\a.iX n x w D y0=(D.e a,D.A a,D.y a))\/∃ b:KA,I b/\b.Ok T/\ad0 a b/\b.aF n=0/\(b.f n.toNat).my x=true/\b.g.dJ (b.u n).cO 0 1=0/\({b with v:=b.v,f:=b.f,g:=b.g.bI (b.u n).cO 0 1} :KA).Ok (T+1)/\a.iX n x w D y0=(D.e {b with v:=b.v,f:=b.f,g:=b.g.bI (b.u n).cO 0 1},if D.e {b with v:=b.v,f:=b.f,g:=b.g.bI (b.u n).cO 0 1} ≠0 then(D.A {b with v:=b.v,f:=b.f,g:=b.g.bI (b.u n).cO 0 1}).Z5 n else D.A {b with v:=b.v,f:=b.f,g:=b.g.bI (b.u n).cO 0 1},D.y {b with v:=b.v,f:=b.f,g:=b.g.bI (b.u n).cO 0 1}):=by
 unfold KA.iX;by_cases c1:a.aF n≠0
 ·rw[if_pos c1];exact .inl ⟨_,rfl,c1,h⟩
 ·rw[if_neg c1];by_cases c2:(a.f n.toNat).tT x w=false
  ·rw[if_pos c2];exact .inl ⟨10,rfl,dq,h⟩
  ·rw[if_neg c2];by_cases c3:(a.f n.toNat).my x=true
   ·rw[if_pos c3];obtain⟨b,⟨hb,hk⟩,uX,r1,r2⟩:=(S.and (J9 a)).room (n:=n) 21 ok ⟨h,fun z _ _ q=>⟨q,rfl⟩⟩;by_cases c4:(a.cy n).1≠0
    ·rw[if_pos c4];refine .inl ⟨_,rfl,c4,?_⟩;show I (a.kF n 21).2;rw[r1 c4];exact hb
    ·rw[if_neg c4];have c5:(a.kF n 21).1=0:=by
       have:(a.cy n).1=0:=og;exact this
     obtain⟨q1,q2,q3⟩:=r2 c5;have e:(a.cy n).2= {b with v:=b.v,f:=b.f,g:=b.g.bI (b.u n).cO 0 1} :=q3;obtain⟨hn,hs⟩:=bE q1;have okc:=(ok.bI hT n).1;rw[e]at okc ⊢;exact .inr (.inr ⟨b,hb,uX,hk,q1,by rw[(hk n hn.1 hn.2 hs).2];exact c3,q2,okc,rfl⟩)
   ·rw[if_neg c3];exact .inr (.inl ⟨og,by simpa using c3,rfl⟩)
def KA.GI.Rr{a:KA}(h:a.GI)(ok:a.Ok T)(hT:T<=900000){w:Bool}{D:TD}{y0:Int}(hD:Uv n x D):(a.iX n x w D y0).2.1.GI:=by
 rcases B8 (w:=w) (y0:=y0) ok hT hD gq h with⟨_,_,_,q⟩ | ⟨q1,q2,q3⟩ | ⟨b,hb,uX,hk,q1,q2,q3,q4,q5⟩
 ·exact q
 ·rw[q3];obtain⟨u1,u2,u3⟩:=hD.u a;have r:=hD.r ok q1;rw[q2,if_neg fun q=>by cases q.2]at r;refine h.same (fun _=>by rw[u1];exact⟨rfl,rfl⟩) u2 fun j j0=> ?_;by_cases c:j=n
  ·subst c;show(D.A a).gk j=_;rw[r];omega
  ·show((D.A a).f j.toNat).gk=_;rw[u3 j j0 c];rfl
 ·rw[q5];obtain⟨hn,hs⟩:=bE q1;have o1:=hb.aU.bI uX.wk.gI.ok q3;generalize hc:({b with v:=b.v,f:=b.f,g:=b.g.bI (b.u n).cO 0 1} :KA)=c at*;obtain⟨u1,u2,u3⟩:=hD.u c;have cu:c.u=b.u:=by rw[<-hc]
  have cg:c.g=b.g.bI (b.u n).cO 0 1:=by rw[<-hc]
  have cf:c.f=b.f:=by rw[<-hc]
  have r:=hD.r q4 (show c.aF n=0 by rw[<-hc];exact q1);rw[cf,q2]at r;have cr:∀ j,c.gk j=b.gk j:=fun j=>by unfold KA.gk;rw[cf]
  rw[cr]at r;have hp:∀ y,(D.A c).uU y=b.uU y:=fun y=>Gr.ck 20 fun j _ _=>by unfold KA.pc;rw[u1,cu]
  have hr:∀ y,(D.A c).sK y=b.sK y+(if(b.u n).cO=y/\D.e c=0 then 1 else 0):=fun y=>by
   have k:=iY (f:=b.rc y) (f':=(D.A c).rc y) (n:=n) (k:=20) hn.1 og (fun j j0 _ d=>by
    unfold KA.rc KA.gk;rw[u1,cu,u3 j j0 d,cf])
   have k:(D.A c).sK y=b.sK y-b.rc y n+(D.A c).rc y n:=k;rw[k];unfold KA.rc;rw[u1,cu,r];by_cases d:(b.u n).cO=y
   ·rw[if_pos d,if_pos d];by_cases e:D.e c=0
    ·rw[if_pos ⟨e,rfl⟩,if_pos ⟨d,e⟩];omega
    ·rw[if_neg fun q=>e q.1,if_neg fun q=>e q.2];omega
   ·rw[if_neg d,if_neg d,if_neg fun q=>d q.1];omega
  have gr:∀ p,0<=p->p<20->((D.A c).u p).st≠0->(b.g.bI (b.u n).cO 0 1).cQ ((D.A c).u p).cO=0:=fun p p0 p1 q=>by
   rw[u1,cu]at q ⊢;rw[ou _ _ (nZ _ _ _ _)];exact hb.cO p p0 p1 q
  by_cases e:D.e c=0
  ·show(if D.e c≠0 then(D.A c).Z5 n else D.A c).GI;rw[if_neg fun q=>q e];refine⟨by rw[u2,cg];exact gr,by
    rw[u2,cg]
    refine lD o1 (fun y _ _ _=> ?_) fun y _ _ _=> ?_
    ·rw[hp]
     by_cases d:y=(b.u n).cO
     ·rw[d,ah];omega
     ·rw[ae _ _ d]
    ·rw[hr]
     by_cases d:y=(b.u n).cO
     ·rw[d,ah,if_pos ⟨rfl,e⟩]
     ·rw[ae _ _ d,if_neg fun q=>d q.1.symm];omega⟩
  ·show(if D.e c≠0 then(D.A c).Z5 n else D.A c).GI;rw[if_pos e];have i1:=gr n hn.1 hn.2 (by rw[u1,cu];omega);rw[u1,cu]at i1;obtain⟨k0,k1,k2⟩:=Gr.TG.ky i1;obtain⟨e1,e2⟩:=o1 _ k0 k1 k2;rw[ah]at e1 e2;obtain⟨j0,j1,j2⟩:=Gr.TG.ky (hb.cO n hn.1 hn.2 og);obtain⟨f1,f2⟩:=hb.aU _ j0 j1 j2;obtain⟨l1,l2⟩:=hb.left hn og;have rrz:0<=b.gk n:=(AU _).1;have ue:(b.g.bI (b.u n).cO 0 1).gD (b.u n).cO 0 1=0:=DJ i1 ⟨og,og⟩ ⟨og,og⟩;have hg:((D.A c).Z5 n).g=(b.g.bI (b.u n).cO 0 1).eb (b.u n).cO 0 1:=by
    show(D.A c).g.eb ((D.A c).u n).cO 0 1=_;rw[u2,u1,cu,cg]
   refine⟨fun p p0 p1 q=>by rw[hg,ou _ _ (sJ _ _ _ _)];exact gr p p0 p1 q,by
    rw[hg]
    refine lD (o1.eb (uX.wk.gI.bI _ _ _).ok ue) (fun y _ _ _=> ?_) fun y _ _ _=> ?_
    ·show(D.A c).uU y=_
     rw[hp]
     by_cases d:y=(b.u n).cO
     ·rw[d,ah,ah];omega
     ·rw[ae _ _ d,ae _ _ d]
    ·show(D.A c).sK y=_
     rw[hr,if_neg fun q=>e q.2]
     by_cases d:y=(b.u n).cO
     ·rw[d,ah,ah];omega
     ·rw[ae _ _ d,ae _ _ d];omega⟩
theorem KA.GI.load{a:KA}(h:a.GI)(ok:a.Ok T)(hT:T<=900000)(n x:Int):(a.iy n x).2.1.GI:=by
 by_cases c:0<=n
 ·exact h.Rr ok hT (Py c)
 ·have:a.aF n=1:=if_pos (.inl og);unfold KA.iy KA.iX;rw[if_pos og];exact h
theorem KA.GI.store{a:KA}(h:a.GI)(ok:a.Ok T)(hT:T<=900000)(n x y:Int):(a.gV n x y).2.1.GI:=by
 by_cases c:0<=n
 ·exact h.Rr ok hT (PC c)
 ·have:a.aF n=1:=if_pos (.inl og);unfold KA.gV KA.iX;rw[if_pos og];exact h
def KA.GI.io{a:KA}(h:a.GI){u:Int->PA}(hu:∀ p,(u p).st=(a.u p).st/\(u p).cO=(a.u p).cO)(O:Tr.OS)(P:Tr.PS):({a with u:=u,O:=O,P:=P} :KA).GI:=h.same hu rfl fun _ _=>rfl
def AV(u:Int->PA)(n i v p:Int):(rG u n i v p).st=(u p).st/\(rG u n i v p).cO=(u p).cO:=by
 unfold rG;by_cases e:p=n
 ·subst e;rw[ah];exact⟨rfl,rfl⟩
 ·rw[ae _ _ e];exact⟨rfl,rfl⟩
def Ry(m:Vm.MS)(x n:Int)(w:Bool):(m.map x n w).gk=m.gk/\(m.mW x n w).gk=m.gk:=by
 unfold Vm.MS.gk;rw[(Vm.MS.W6 _ _ _ _).1,(Vm.MS.Q3 _ _ _ _).1];exact⟨rfl,rfl⟩
def KA.GI.B6{a a1:KA}{F:Tr.FF}{x:jA}(h:a.GI)(ok:a.Ok T)(hT:T<=800000)(s:a.o3 F x a1):a1.GI:=by
 have q:∀ {b:KA} {P:Prop} [Decidable P],b.GI->(if P then a else b).GI:=fun hb=>by
  split
  ·exact h
  ·exact hb
 cases s with
 | same=>exact h
 | dc=>exact gq.dc ok.wk _ h
 | nj=>exact gq.nj ok.wk _ _ _ h
 | dX=>exact gq.dX ok.wk _ _ _ h
 | kt=>exact gq.kt ok.wk _ _ _ h
 | take=>exact gq.take _ h
 | map=>
  unfold KA.Dm;split
  ·exact h
  ·rename_i c;exact h.mem (bE (by omega:a.aF x.a=0)).1.1 (Ry _ _ _ _).1 _
 | mW=>
  unfold KA.uH;split
  ·exact h
  ·rename_i c;exact h.mem (bE (by omega:a.aF x.a=0)).1.1 (Ry _ _ _ _).2 _
 | drop=>exact h.qa ok.wk _
 | It o=>
  rcases o with rfl | ⟨_,_,_,_,_,rfl⟩
  ·exact h
  ·exact h.io (AV _ _ _ _) _ a.P
 | close=>exact q (h.io (AV _ _ _ _) _ _)
 | Z4=>exact q (h.io (AV _ _ _ _) _ a.P)
 | Aw=>
  apply q;split
  ·exact(h.io (AV _ _ _ _) a.O a.P).io (AV _ _ _ _) _ _
  ·exact h.io (fun _=>⟨rfl,rfl⟩) _ _
 | mh=>exact q (h.io (fun _=>⟨rfl,rfl⟩) _ _)
 | cC=>
  have h1:(a.rH F x.a x.b x.s).GI:=h.io (fun _=>⟨rfl,rfl⟩) _ _;apply q;split
  ·exact gq.send (ok.yj og F _ _ _).wk _ _ _ h1
  ·exact h1
 | GY=>exact q (h.io (fun _=>⟨rfl,rfl⟩) _ a.P)
def KA.GI.step{a a1:KA}{c c1:KC}{x:jA}{e:Int}(h:a.GI)(ok:a.Ok T)(hT:T<=800000)(s:a.sH c c1 x a1 n e):a1.GI:=by
 cases s with
 | jo _=>exact h.jo ok.o0 _ _
 | exit _=>exact gq.fA ok.wk _ _ h
 | dM _=>exact(h.dM ok.o0 _ _ _).1
 | load _=>exact h.load ok og _ _
 | store _=>exact h.store ok og _ _ _
 | l8 _ _ _=>exact h
 | Z7 _=>exact h.Z7 _ _ _
 | Bf _ _ _=>exact h.Bf ok.wk _ _
 | add _ _ _=>exact h.uM ok.wk _ _
 | qE _ r _ _=>exact h.B6 ok hT r
def ad1:A0.GI:=by
 have hl:kG Gr.TG.cR G0:=nZ _ _ _ _;have o:=Gr.TG.Own.cR.bI Gr.TG.Inv.cR.ok (n:=0) (p:=1) (m:=0) dk;refine⟨fun n a0 a1 q=> ?_,lD o (fun y _ _ _=> ?_) fun y _ _ _=> ?_⟩
 ·have e:n=0:=Decidable.byContradiction fun c=>by rw[AS,if_neg c]at q;exact q rfl
  subst e;show G0.cQ 0=0;decide+kernel
 ·have k:=iY (f:=fun _=>0) (f':=A0.pc y) (n:=0) (k:=20) og og (fun j _ _ c=>by
   unfold KA.pc;rw[AS,if_neg c];exact if_neg fun q=>q.1 rfl)
  have k:A0.uU y=_:=k;rw[k,Gr.dx 20 fun _ _ _=>rfl];show 0-0+(if(A0.u 0).st≠0/\(A0.u 0).cO=y then(1:Int)else 0)=_;rw[AS,if_pos rfl];by_cases d:y=0
  ·subst d;rw[ah];rfl
  ·rw[ae _ _ d,if_neg fun q=>d q.2.symm];rfl
 ·have k:A0.sK y=0:=Gr.dx 20 fun j _ _=>by unfold KA.rc;split<;>rfl
  rw[k];by_cases d:y=0
  ·subst d;rw[ah];rfl
  ·rw[ae _ _ d]
end Go.X.Kn

namespace Go.X.Vm
open Go Go.X
theorem Rz{a p:Int}(ha:0<=a)(hp:0<=p):∀ n:Nat,fh (fun j=>decide (a<=j)&&decide (j<a+p)) n=if(n:Int)<=a then 0 else if(n:Int)<=a+p then n-a else p
 | 0=>by rw[fh,if_pos og]
 | n+1=>by
  rw[fh,Rz ha hp n];by_cases c:a<=(n:Int)/\(n:Int)<a+p
  ·rw[if_pos (c:=(decide (a<=(n:Int))&&decide ((n:Int)<a+p))=true) eI];rw[if_neg (c:=((n+1:Nat):Int)<=a) og,if_pos (c:=((n+1:Nat):Int)<=a+p) og];by_cases d:(n:Int)<=a
   ·rw[if_pos d];omega
   ·rw[if_neg d,if_pos og];omega
  ·rw[if_neg (c:=(decide (a<=(n:Int))&&decide ((n:Int)<a+p))=true) eI]
   (repeat' split)<;>omega
theorem B9(f:Int->Bool)(n:Nat):fh f n=bU (fun i=>if f i=true then 1 else 0) n:=by
 have:=Ey f 1 n;rwa[Int.mul_one]at this
def BB.iG.vol{b:BB}(h:b.iG):bU (fun i=>if 0<b.bK i then p2 (b.bK i-1)else 0) 64=64:=by
 have h1:bU (fun j=>cv b (fun _=>true) j) 64=64:=by
  rw[ck (g:=fun _=>1) fun j a c=>h.als (fun _ _=>rfl) ⟨a,og⟩];rfl
 have h2:∀ j,cv b (fun _=>true) j=bU (fun i=>if(true&&b.nw i j)=true then 1 else 0) 64:=fun j=>B9 _ 64;rw[ck (g:=fun j=>bU (fun i=>if(true&&b.nw i j)=true then 1 else 0) 64) fun j _ _=>h2 j,BD (fun j i=>if(true&&b.nw i j)=true then 1 else 0) 64 64]at h1;rw[<-h1];refine ck fun i a c=> ?_;rw[<-B9 (fun j=>true&&b.nw i j) 64];by_cases q:0<b.bK i
 ·have hp:=rn (b.bK i-1);have hf:=h.inv.fit q;have e:=Rz a (Int.le_of_lt hp) 64;rw[if_neg og]at e;rw[if_pos q,yO (g:=fun j=>decide (i<=j)&&decide (j<i+p2 (b.bK i-1))) fun j _ _=>by unfold BB.nw;simp[q],e];split<;>omega
 ·rw[if_neg q,BK fun j _ _=>by unfold BB.nw;simp[q]]
def Nb(f:Int->Bool):∀ n:Nat,fh f n+fh (fun i=> !f i) n=n
 | 0=>rfl
 | n+1=>by
  have:=Nb f n;rw[fh,fh];cases q:f n<;>simp<;>omega
theorem BB.iG.Yt{b:BB}(h:b.iG)(ht:∀ i,b.tk i=true->b.bK i=1):b.left=fh (fun i=> !b.tk i) 64:=by
 have h1:=h.vol;have h2:=Nb b.tk 64;have h3:bU (fun i=>if 0<b.bK i then p2 (b.bK i-1)else 0) 64=bU (fun i=>b.room i+(if b.tk i=true then 1 else 0)) 64:=by
  refine ck fun i _ _=> ?_;unfold BB.room;cases q:b.tk i with
  | true=>rw[if_pos (by rw[ht i q];omega),if_neg sq,ht i q];rfl
  | false=>simp
 rw[h3,lL,<-B9]at h1;show bU b.room 64=_;omega
theorem Acc.tk1{v:VB}{F:Int->Int}(h:Acc v F)(i:Int)(q:v.bb.tk i=true):v.bb.bK i=1:=by
 have h0:=h.ok.bb.tk i q;have hr:=h.ok.bb.rs h0;have hu:=h.us i hr.1 hr.2;unfold BB.eK at hu;rw[if_pos q]at hu;split at hu<;>omega
theorem Sys.left{v:VB}{f:Nat->MS}{k:Nat}(h:Sys v f k)(hF:v.bb.iG):v.bb.left=fh (fun g=>decide (v.rf g=0)) 64:=by
 rw[hF.Yt h.jM.tk1];refine yO fun i a b=> ?_;have hu:=h.jM.us i a b;have hr:=h.jM.rf i a b;unfold BB.eK at hu;rw[hr];cases q:v.bb.tk i with
 | true=>
  rw[if_pos q,h.jM.tk1 i q]at hu;by_cases c:vI f i k=0
  ·rw[if_pos c]at hu;omega
  ·simp[c]
 | false=>
  rw[if_neg (by simp[q])]at hu;by_cases c:vI f i k=0
  ·simp[c]
  ·rw[if_neg c]at hu;omega
theorem VB.iG.take{v:VB}(h:v.bb.iG):v.take.2.2.bb.iG:=by
 by_cases c:(v.bb.take 0).2.1=0
 ·rw[VB.lV c];exact h.take 0
 ·rw[mf c];exact h
theorem VB.iG.drop{v:VB}(h:v.bb.iG)(g:Int):(v.drop g).bb.iG:=by
 by_cases c:v.rf g-1=0
 ·rw[wX c];exact h.qf g
 ·rw[wY c];exact h
def FE{fr:Int->Int}{a:Int} :∀ (k:Nat) {v:VB},v.bb.iG->(Ju v fr a k).2.bb.iG
 | 0,_,h=>h
 | k+1,v,h=>by
  rw[Go.X.Vm.Ju];unfold Z1;split
  ·exact VB.iG.drop (FE k h) _
  ·exact FE k h
end Go.X.Vm

namespace Go.X.Kn
open Go Go.X
variable{T i n z:Int}{O O':Tr.OS}{P:Tr.PS}
theorem Nc{a:KA}(h:¬ 0<=n):a.aF n=1:=if_pos (.inl og)
open Go.X.Gr Go.X.Tr Go.X.Vm
def sL(O:Tr.OS)(k w z:Int):Int:=if O.aY z≠0/\O.aI z=w/\O.n z=k then 1 else 0
def uI(O:Tr.OS)(k w:Int):Int:=Gr.bU (sL O k w) 24
def ab4(O:Tr.OS)(k w z:Int):0<=sL O k w z:=by unfold sL;split<;>omega
def FG(h:(O'.aY z≠0↔O.aY z≠0)/\O'.aI z=O.aI z/\O'.n z=O.n z)(k w:Int):sL O' k w z=sL O k w z:=by
 unfold sL;simp only[h.1,h.2.1,h.2.2]
theorem IB(h0:0<=n)(h1:n<24)(h:∀ z,z≠n->(O'.aY z≠0↔O.aY z≠0)/\O'.aI z=O.aI z/\O'.n z=O.n z)(k w:Int):uI O' k w=uI O k w-sL O k w n+sL O' k w n:=
 iY h0 h1 fun j _ _ c=>FG (h j c) k w
structure IR(O:Tr.OS)(P:Tr.PS):Prop where
 e0:∀ k,0<=k->k<8->P.e k 0=uI O k 2
 e1:∀ k,0<=k->k<8->P.e k 1=uI O k 3
 jV:∀ z,0<=z->z<24->O.aY z≠0->O.aI z≠1->(0<=O.n z/\O.n z<8)/\(O.aI z=2\/O.aI z=3)
theorem IR.congr{P':Tr.PS}(h:IR O P)(e:P'.e=P.e)(c:∀ z,(O'.aY z≠0↔O.aY z≠0)/\O'.aI z=O.aI z/\O'.n z=O.n z):IR O' P':=by
 have q:∀ k w,uI O' k w=uI O k w:=fun k w=>Gr.ck 24 fun z _ _=>FG (c z) k w;refine⟨fun k a b=>by rw[e,q];exact h.e0 k a b,fun k a b=>by rw[e,q];exact h.e1 k a b,fun z a b r s=> ?_⟩;rw[(c z).2.1,(c z).2.2]at*;exact h.jV z a b ((c z).1.1 r) s
theorem C4(I:O.Inv T)(h:O.is n=0)(z:Int):(iH O n).aY z=O.aY z-if z=n then 1 else 0:=by
 obtain⟨n0,n1,n2⟩:=Tr.OS.GX h;have r:=I.aY n n0 n1;unfold iH;rw[if_neg og];split
 ·show ad O.aY n (O.aY n-1) z=_;by_cases c:z=n
  ·subst c;rw[ah,if_pos rfl]
  ·rw[ae _ _ c,if_neg c];omega
 ·show ad O.aY n 0 z=_;by_cases c:z=n
  ·subst c;rw[ah,if_pos rfl];omega
  ·rw[ae _ _ c,if_neg c];omega
def IR.MK(h:IR O P)(I:O.Inv T)(n:Int):IR (mj O n) P:=by
 unfold mj;split
 ·rename_i c;obtain⟨n0,n1,n2⟩:=Tr.OS.GX c;have r:=I.aY n n0 n1;refine h.congr rfl fun z=>⟨?_,rfl,rfl⟩;show ad O.aY n (O.aY n+1) z≠0↔_;by_cases e:z=n
  ·subst e;rw[ah];exact⟨fun _=>n2,fun _=>og⟩
  ·rw[ae _ _ e]
 ·exact h
def IR.close(h:IR O P)(I:O.Inv T)(J:P.Inv T)(n:Int):IR (iH O n) (j7 P O n):=by
 by_cases c:O.is n=0
 ·obtain⟨n0,n1,n2⟩:=Tr.OS.GX c;have r:=I.aY n n0 n1;unfold iH j7 H6;rw[if_neg og];by_cases d:0<O.aY n-1
  ·rw[if_pos d,if_neg fun q=>q.1.2 d];refine h.congr rfl fun z=>⟨?_,rfl,rfl⟩;show ad O.aY n (O.aY n-1) z≠0↔_;by_cases e:z=n
   ·subst e;rw[ah];exact⟨fun _=>n2,fun _=>og⟩
   ·rw[ae _ _ e]
  ·rw[if_neg d];have U:∀ k w,uI (O.yF n) k w=uI O k w-sL O k w n:=fun k w=>by
    rw[IB (O:=O) (O':=O.yF n) n0 n1 (fun z e=>by
     show(ad O.aY n 0 z≠0↔_)/\ad O.aI n 0 z=_/\ad O.n n 0 z=_
     rw[ae _ _ e,ae _ _ e,ae _ _ e];exact⟨Iff.rfl,rfl,rfl⟩) k w]
    have:sL (O.yF n) k w n=0:=if_neg fun q=>q.1 (ah _ _ _);omega
   have R:∀ z,0<=z->z<24->(O.yF n).aY z≠0->(O.yF n).aI z≠1->(0<=(O.yF n).n z/\(O.yF n).n z<8)/\((O.yF n).aI z=2\/(O.yF n).aI z=3):=fun z a b=>by
    show ad O.aY n 0 z≠0->ad O.aI n 0 z≠1->(0<=ad O.n n 0 z/\ad O.n n 0 z<8)/\(ad O.aI n 0 z=2\/ad O.aI n 0 z=3);by_cases e:z=n
    ·subst e;rw[ah];exact fun q=>absurd rfl q
    ·rw[ae _ _ e,ae _ _ e,ae _ _ e];exact h.jV z a b
   by_cases k1:O.aI n=1
   ·rw[if_neg fun q=>q.2 k1];have Z:∀ k w,w≠1->sL O k w n=0:=fun k w hw=>if_neg fun q=>hw (by rw[<-q.2.1,k1]);exact⟨fun k a b=>by rw[U,Z k 2 dq,h.e0 k a b];omega,fun k a b=>by rw[U,Z k 3 dq,h.e1 k a b];omega,R⟩
   ·rw[if_pos ⟨⟨c,d⟩,k1⟩];obtain⟨⟨m0,m1⟩,mk⟩:=h.jV n n0 n1 n2 k1;have p0:=h.e0 _ m0 m1;have p1:=h.e1 _ m0 m1;have q0:=(J.e0 (O.n n)).1;have q1:=(J.e1 (O.n n)).1;have G:∀ w,sL O (O.n n) w n<=uI O (O.n n) w:=fun w=>uo n0 n1 fun j _ _=>ab4 _ _ _ _;rcases mk with mk | mk
    ·have i2:∀ k,sL O k 2 n=if O.n n=k then 1 else 0:=fun k=>by unfold sL;simp[n2,mk]
     have i3:∀ k,sL O k 3 n=0:=fun k=>if_neg fun q=>by rw[mk]at q;exact absurd q.2.1 dq
     have g:=G 2;rw[i2,if_pos rfl]at g;have hp:P.l7 (O.n n) (decide (O.aI n=3)) (-1)=(0,{b:=if P.e (O.n n) 0+P.e (O.n n) 1+ -1=0 then ad P.b (O.n n) ⟨#[]⟩else P.b,e:=bW P.e (O.n n) 0 (P.e (O.n n) 0+ -1)}):=by
      rw[show decide (O.aI n=3)=false by rw[mk];decide];unfold Tr.PS.l7;rw[if_neg (by unfold Tr.PS.is;rw[if_neg og,if_neg og];omega),if_neg (show ¬P.e (O.n n) (HW false)=0 from fun q=>by have q:P.e (O.n n) 0=0:=q;omega)];rfl
     rw[hp];refine⟨fun k a b=> ?_,fun k a b=> ?_,R⟩
     ·rw[U,i2];show bW P.e (O.n n) 0 (P.e (O.n n) 0+ -1) k 0=_;unfold bW;by_cases e:O.n n=k
      ·rw[if_pos ⟨e.symm,rfl⟩,if_pos e,p0,e];omega
      ·rw[if_neg fun q=>e q.1.symm,if_neg e,h.e0 k a b];omega
     ·rw[U,i3];show bW P.e (O.n n) 0 (P.e (O.n n) 0+ -1) k 1=_;unfold bW;rw[if_neg fun q=>absurd q.2 dq,h.e1 k a b];omega
    ·have i3:∀ k,sL O k 3 n=if O.n n=k then 1 else 0:=fun k=>by unfold sL;simp[n2,mk]
     have i2:∀ k,sL O k 2 n=0:=fun k=>if_neg fun q=>by rw[mk]at q;exact absurd q.2.1 dq
     have g:=G 3;rw[i3,if_pos rfl]at g;have hp:P.l7 (O.n n) (decide (O.aI n=3)) (-1)=(0,{b:=if P.e (O.n n) 0+P.e (O.n n) 1+ -1=0 then ad P.b (O.n n) ⟨#[]⟩else P.b,e:=bW P.e (O.n n) 1 (P.e (O.n n) 1+ -1)}):=by
      rw[show decide (O.aI n=3)=true by rw[mk];decide];unfold Tr.PS.l7;rw[if_neg (by unfold Tr.PS.is;rw[if_neg og,if_neg og];omega),if_neg (show ¬P.e (O.n n) (HW true)=0 from fun q=>by have q:P.e (O.n n) 1=0:=q;omega)];rfl
     rw[hp];refine⟨fun k a b=> ?_,fun k a b=> ?_,R⟩
     ·rw[U,i2];show bW P.e (O.n n) 1 (P.e (O.n n) 1+ -1) k 0=_;unfold bW;rw[if_neg fun q=>absurd q.2 dq,h.e0 k a b];omega
     ·rw[U,i3];show bW P.e (O.n n) 1 (P.e (O.n n) 1+ -1) k 1=_;unfold bW;by_cases e:O.n n=k
      ·rw[if_pos ⟨e.symm,rfl⟩,if_pos e,p1,e];omega
      ·rw[if_neg fun q=>e q.1.symm,if_neg e,h.e1 k a b];omega
 ·unfold iH j7 H6;rw[if_pos c,if_neg fun q=>c q.1.1];exact h
theorem ab5(O:Tr.OS)(x k:Int)(w:Bool):∀ y,y≠z->((O.lay z k x w).aY y≠0↔O.aY y≠0)/\(O.lay z k x w).aI y=O.aI y/\(O.lay z k x w).n y=O.n y:=fun y e=>by
 show(ad O.aY z 1 y≠0↔_)/\ad O.aI z k y=_/\ad O.n z x y=_;rw[ae _ _ e,ae _ _ e,ae _ _ e];exact⟨Iff.rfl,rfl,rfl⟩
theorem sM(z0:0<=z)(z1:z<24)(hz:O.aY z=0)(x k:Int)(w:Bool)(a b:Int):uI (O.lay z k x w) a b=uI O a b+if k=b/\x=a then 1 else 0:=by
 rw[IB z0 z1 (ab5 O x k w) a b];have e1:sL O a b z=0:=if_neg fun q=>q.1 hz;have e2:sL (O.lay z k x w) a b z=if k=b/\x=a then 1 else 0:=by
  show(if ad O.aY z 1 z≠0/\ad O.aI z k z=b/\ad O.n z x z=a then(1:Int)else 0)=_;rw[ah,ah,ah];simp
 omega
def Ka{P:Tr.PS}(h:∀ z,0<=z->z<24->O.aY z≠0->O.aI z≠1->(0<=O.n z/\O.n z<8)/\(O.aI z=2\/O.aI z=3)){x k:Int}{w:Bool}(hk:k=1\/((k=2\/k=3)/\(0<=x/\x<8))):∀ y,0<=y->y<24->(O.lay z k x w).aY y≠0->(O.lay z k x w).aI y≠1->(0<=(O.lay z k x w).n y/\(O.lay z k x w).n y<8)/\((O.lay z k x w).aI y=2\/(O.lay z k x w).aI y=3):=fun y a b=>by
 show ad O.aY z 1 y≠0->ad O.aI z k y≠1->(0<=ad O.n z x y/\ad O.n z x y<8)/\(ad O.aI z k y=2\/ad O.aI z k y=3);by_cases e:y=z
 ·subst e;rw[ah,ah,ah];intro _ q;rcases hk with r | r
  ·exact absurd r q
  ·exact⟨r.2,r.1⟩
 ·rw[ae _ _ e,ae _ _ e,ae _ _ e];exact h y a b
def IR.alO(h:IR O P)(z0:0<=z)(z1:z<24)(hz:O.aY z=0)(x:Int)(w:Bool):IR (O.lay z 1 x w) P:=
 ⟨fun k a b=>by rw[sM z0 z1 hz,if_neg fun q=>absurd q.1 dq,h.e0 k a b];omega,fun k a b=>by rw[sM z0 z1 hz,if_neg fun q=>absurd q.1 dq,h.e1 k a b];omega,Ka (P:=P) h.jV (.inl rfl)⟩
def PD(P:Tr.PS):(P.make.2.1≠0/\P.make.2.2=P)\/∃ k:Nat,k<8/\P.e k 0+P.e k 1=0/\P.make=((k:Int),0,{P with e:=bW (bW P.e k 0 1) k 1 1}):=by
 unfold Tr.PS.make;cases e:dW (fun k=>P.e k 0+P.e k 1==0) 8 with
 | none=>exact .inl ⟨(by show(4:Int)≠0;decide),rfl⟩
 | some k=>
  obtain⟨h1,h2,_⟩:=CJ e;exact .inr ⟨k,h1,by simpa using h2,rfl⟩
def IR.Aw(h:IR O P)(J:P.Inv T):IR (jl P O) (kA P O):=by
 rcases PD P with⟨m1,m2⟩ | ⟨k,k8,kz,mk⟩
 ·have e:im P O≠0:=by
   unfold im;split
   ·decide
   ·exact m1
  have eP:kA P O=P:=by
   unfold kA;split
   ·rfl
   ·exact m2
  have eO:jl P O=O:=if_neg e;rw[eP,eO];exact h
 by_cases c:O.first<0\/O.fc<0
 ·have e:im P O≠0:=by unfold im;rw[if_pos c];decide
  have eP:kA P O=P:=if_pos c;have eO:jl P O=O:=if_neg e;rw[eP,eO];exact h
 have e:im P O=0:=by unfold im;rw[if_neg c,mk]
 have eP:kA P O= {P with e:=bW (bW P.e k 0 1) k 1 1} :=by unfold kA;rw[if_neg c,mk]
 have eO:jl P O=(O.lay O.first 2 k false).lay O.fc 3 k false:=by unfold jl;rw[if_pos e,mk]
 rw[eP,eO];obtain⟨f0,f1,f2⟩:=Tr.OS.jG (s:=O) fun q=>c (.inl q);have s9:0<=O.fc/\O.fc<24/\(O.lay O.first 2 k false).aY O.fc=0:=Tr.OS.jG (s:=O.lay O.first 2 0 false) fun q=>c (.inr q);obtain⟨s0,s1,s2'⟩:=s9;have q0:=(J.e0 k).1;have q1:=(J.e1 k).1;have z0:=h.e0 k og og;have z1:=h.e1 k og og;refine⟨fun j a b=> ?_,fun j a b=> ?_,Ka (P:=P) (Ka (P:=P) h.jV (.inr ⟨.inl rfl,og⟩)) (.inr ⟨.inr rfl,og⟩)⟩
 rw[sM s0 s1 s2',sM f0 f1 f2];show bW (bW P.e k 0 1) k 1 1 j 0=_;unfold bW;rw[if_neg fun q=>absurd q.2 dq,if_neg (show ¬((3:Int)=2/\(k:Int)=j)from fun q=>absurd q.1 dq)];by_cases e:j=k;rotate_left
 ·rw[if_neg fun q=>e q.1,if_neg fun q=>e q.2.symm,h.e0 j a b];omega
 rw[sM s0 s1 s2',sM f0 f1 f2];show bW (bW P.e k 0 1) k 1 1 j 1=_;unfold bW;rw[if_neg (show ¬((2:Int)=3/\(k:Int)=j)from fun q=>absurd q.1 dq)];by_cases e:j=k;rotate_left
 ·rw[if_neg fun q=>e q.1,if_neg fun q=>e q.1,if_neg fun q=>e q.2.symm,h.e1 j a b];omega
 all_goals subst e;rw[if_pos ⟨rfl,rfl⟩,if_pos ⟨rfl,rfl⟩];omega
def Yu{f:Int->Int}{O:Tr.OS}{P:Tr.PS}{T:Int}(h:IR O P)(I:O.Inv T)(J:P.Inv T):∀ k:Nat,IR (zj f O P k).1 (zj f O P k).2
 | 0=>h
 | k+1=>by
  have q:=Yu (f:=f) h I J k;obtain⟨i1,i2⟩:=ug (f:=f) I J k;unfold zj;split
  ·exact q.close i1 i2 _
  ·exact q
def Yv{f:Int->Int}{O:Tr.OS}{P:Tr.PS}{T:Int}(h:IR O P)(I:O.Inv T):∀ k:Nat,IR (Gh f O k) P
 | 0=>h
 | k+1=>by
  have q:=Yv (f:=f) h I k;unfold Gh;split
  ·exact q.MK (AL (f:=f) I k) _
  ·exact q
def Gi(f:Int->Int)(z:Int)(k:Nat):Int:=Gr.bU (fun i=>if f i=z+1 then 1 else 0) k
def Yw(f:Int->Int)(z:Int)(k:Nat):0<=Gi f z k:=Aa k fun _ _ _=>by split<;>omega
theorem wj(f:Int->Int)(z:Int)(k:Nat):Gi f z (k+1)=Gi f z k+if f (k:Int)=z+1 then 1 else 0:=rfl
def PE(f:Int->Int)(z:Int){k:Nat} :∀ {m:Nat},k<=m->Gi f z k<=Gi f z m
 | 0,h=>by
   have:k=0:=og;subst this;exact Int.le_refl _
 | m+1,h=>by
  by_cases e:k=m+1
  ·subst e;exact Int.le_refl _
  ·have:=PE f z (k:=k) (m:=m) og;rw[wj];split<;>omega
theorem Nd{f:Int->Int}{O:Tr.OS}{P:Tr.PS}{T:Int}(I:O.Inv T)(J:P.Inv T)(hf:∀ i,0<=f i/\f i<=24){m:Nat}(H:∀ z,0<=z->z<24->Gi f z m<=O.aY z):∀ k:Nat,k<=m->∀ z,0<=z->z<24->(zj f O P k).1.aY z=O.aY z-Gi f z k
 | 0,_,z,_,_=>by show O.aY z=O.aY z-0;omega
 | k+1,hk,z,z0,z1=>by
  have ih:=Nd (f:=f) (P:=P) I J hf H k og;have r:=hf (k:Int);rw[wj];unfold zj;split
  ·rename_i c;have w:=ih (f k-1) og og;have w1:=H (f k-1) og og;have w2:=PE f (f k-1) hk;rw[wj,if_pos og]at w2;rw[C4 (ug (f:=f) I J k).1 (show(zj f O P k).1.is (f k-1)=0 by unfold Tr.OS.is;rw[if_neg og,if_neg og]) z,ih z z0 z1];by_cases e:z=f k-1
   ·rw[if_pos e,if_pos og];omega
   ·rw[if_neg e,if_neg og];omega
  ·rw[if_neg og,ih z z0 z1];omega
theorem C5(h:O.is n=0)(z:Int):(mj O n).aY z=O.aY z+if z=n then 1 else 0:=by
 unfold mj;rw[if_pos h];show ad O.aY n (O.aY n+1) z=_;by_cases c:z=n
 ·subst c;rw[ah,if_pos rfl]
 ·rw[ae _ _ c,if_neg c];omega
theorem Nf{f:Int->Int}{O:Tr.OS}{m:Nat}(hf:∀ i,0<=f i/\f i<=24)(H:∀ z,0<=z->z<24->Gi f z m<=O.aY z):∀ k:Nat,k<=m->∀ z,0<=z->z<24->(Gh f O k).aY z=O.aY z+Gi f z k
 | 0,_,z,_,_=>by show O.aY z=O.aY z+0;omega
 | k+1,hk,z,z0,z1=>by
  have ih:=Nf (f:=f) hf H k og;have r:=hf (k:Int);rw[wj];unfold Gh;split
  ·rename_i c;have w:=ih (f k-1) og og;have w1:=H (f k-1) og og;have w2:=PE f (f k-1) hk;have w3:=Yw f (f k-1) k;rw[wj,if_pos og]at w2;rw[C5 (show(Gh f O k).is (f k-1)=0 by unfold Tr.OS.is;rw[if_neg og,if_neg og]) z,ih z z0 z1];by_cases e:z=f k-1
   ·rw[if_pos e,if_pos og];omega
   ·rw[if_neg e,if_neg og];omega
  ·rw[if_neg og,ih z z0 z1];omega
theorem sN{f:Int->Int}(h:∀ i,0<=i->i<6->f i=0)(z0:0<=z):Gi f z 6=0:=Gr.dx 6 fun i a b=>if_neg (by rw[h i a og];omega)
theorem ab6{f:Int->Int}(i0:0<=i)(i1:i<6)(v z:Int):Gi (ad f i v) z 6=Gi f z 6-(if f i=z+1 then 1 else 0)+if v=z+1 then 1 else 0:=by
 unfold Gi;rw[iY (f:=fun j=>if f j=z+1 then 1 else 0) (n:=i) i0 i1 fun j _ _ c=>by rw[ae _ _ c],ah]
def sO(u:Int->PA)(z:Int):Int:=Gr.bU (fun p=>Gi (u p).fd z 6) 20
def FH(u:Int->PA){p:Int}(p0:0<=p)(p1:p<20)(z:Int):Gi (u p).fd z 6<=sO u z:=uo (f:=fun p=>Gi (u p).fd z 6) p0 p1 fun _ _ _=>Yw _ _ _
theorem xt{u u':Int->PA}(n0:0<=n)(n1:n<20)(h:∀ p,p≠n->(u' p).fd=(u p).fd)(z:Int):sO u' z=sO u z-Gi (u n).fd z 6+Gi (u' n).fd z 6:=
 iY (f:=fun p=>Gi (u p).fd z 6) n0 n1 fun p _ _ c=>by rw[h p c]
theorem sP(u:Int->PA)(hn:0<=n/\n<20)(hi:0<=i/\i<6)(v z:Int):sO (rG u n i v) z=sO u z-(if(u n).fd i=z+1 then 1 else 0)+if v=z+1 then 1 else 0:=by
 rw[xt hn.1 hn.2 (fun p c=>by unfold rG;rw[ae _ _ c]) z];have e:(rG u n i v n).fd=ad (u n).fd i v:=by unfold rG;rw[ah]
 rw[e,ab6 hi.1 hi.2];omega
structure KA.FI (a:KA):Prop where
 h:∀ z,0<=z->z<24->a.O.aY z=sO a.u z
 io:IR a.O a.P
 nz:∀ p i,0<=i->i<6->(a.u p).st≠1->(a.u p).fd i=0
theorem KA.FI.same{a a':KA}(h:a.FI)(hu:∀ p,(a'.u p).st=(a.u p).st/\(a'.u p).fd=(a.u p).fd)(hO:a'.O=a.O)(hP:a'.P.e=a.P.e):a'.FI:=by
 refine⟨fun z a0 a1=> ?_,?_,fun p i i0 i1 q=> ?_⟩
 ·rw[hO,h.h z a0 a1];exact Gr.ck 20 fun p _ _=>by rw[(hu p).2]
 ·rw[hO];exact h.io.congr hP fun _=>⟨Iff.rfl,rfl,rfl⟩
 ·rw[(hu p).2];exact h.nz p i i0 i1 (by rw[<-(hu p).1];exact q)
def lE:dm KA.FI where
 rest:=fun h hu=>h.same (fun p=>⟨(hu p).1,(hu p).2.2⟩) rfl rfl
 end_:=fun {a T n} co w hn hl h=>by
  have hH:∀ z,0<=z->z<24->Gi (a.u n).fd z 6<=a.O.aY z:=fun z z0 z1=>by rw[h.h z z0 z1];exact FH _ hn.1 hn.2 z
  have e:(a.cH n co).u=ad a.u n {a.u n with st:=2,kJ:=co,fd:=Dj (a.u n).fd 6} :=rfl
  have fz:∀ i,0<=i->i<6->Dj (a.u n).fd 6 i=0:=fun i i0 i1=>by
   have:=(w.fd n i).1
   unfold Dj;split
   ·rfl
   ·omega
  refine⟨fun z z0 z1=> ?_,Yu h.io w.OI w.PI 6,fun p i i0 i1 q=> ?_⟩
  ·have k:=xt (u:=a.u) (u':=(a.cH n co).u) hn.1 hn.2 (fun p c=>by rw[e,ae _ _ c]) z
   have k2:((a.cH n co).u n).fd=Dj (a.u n).fd 6:=by rw[e,ah]
   rw[k2,sN fz z0]at k
   show(zj (a.u n).fd a.O a.P 6).1.aY z=sO (a.cH n co).u z
   rw[Nd (f:=(a.u n).fd) w.OI w.PI (w.fd n) hH 6 (Nat.le_refl 6) z z0 z1,h.h z z0 z1,k];omega
  ·rw[e]at q ⊢
   by_cases c:p=n
   ·subst c;rw[ah];exact fz i i0 i1
   ·rw[ae _ _ c]at q ⊢;exact h.nz p i i0 i1 q
 za:=fun {a T n} w hn hs h=>by
  have e:(a.dD n).u=ad a.u n PA.nil:=rfl
  have zn:∀ i,0<=i->i<6->(a.u n).fd i=0:=fun i i0 i1=>h.nz n i i0 i1 og
  refine⟨fun z z0 z1=> ?_,h.io,fun p i i0 i1 q=> ?_⟩
  ·have k:=xt (u:=a.u) (u':=(a.dD n).u) hn.1 hn.2 (fun p c=>by rw[e,ae _ _ c]) z
   have k2:((a.dD n).u n).fd=PA.nil.fd:=by rw[e,ah]
   rw[k2,sN zn z0,sN (f:=PA.nil.fd) (fun _ _ _=>rfl) z0]at k
   show a.O.aY z=sO (a.dD n).u z
   rw[h.h z z0 z1,k];omega
  ·rw[e]at q ⊢
   by_cases c:p=n
   ·subst c;rw[ah];rfl
   ·rw[ae _ _ c]at q ⊢;exact h.nz p i i0 i1 q
 spc:=fun _ h=>h.same (fun _=>⟨rfl,rfl⟩) rfl rfl
def FJ{u:Int->PA}{v:Int}(hs:(u n).st=1)(h:∀ p j,0<=j->j<6->(u p).st≠1->(u p).fd j=0):∀ p j,0<=j->j<6->(rG u n i v p).st≠1->(rG u n i v p).fd j=0:=fun p j j0 j1 q=>by
 unfold rG at q ⊢;by_cases c:p=n
 ·subst c;rw[ah]at q;exact absurd hs q
 ·rw[ae _ _ c]at q ⊢;exact h p j j0 j1 q
theorem KA.FI.jo{a:KA}(h:a.FI)(ok:a.zk T)(n:Int)(aU:Bool):(a.gH n aU).FI:=by
 unfold KA.gH;split
 ·exact h
 ·split
  ·exact h.same (fun _=>⟨rfl,rfl⟩) rfl rfl
  ·rename_i c1 c2;obtain⟨hn,hs⟩:=bE (show a.aF n=0 by omega);have hr:=a.free_spec.resolve_left (show a.free≠20 from fun q=>c1 (.inr (.inl q)));have hnc:n≠a.free:=by rintro e;rw[<-e]at hr;omega
   have w:=ok.wk;have e:(a.cS n aU).u=ad a.u a.free (a.J1 n):=rfl;have hH:∀ z,0<=z->z<24->Gi (a.u n).fd z 6<=a.O.aY z:=fun z z0 z1=>by rw[h.h z z0 z1];exact FH _ hn.1 hn.2 z
   refine⟨fun z z0 z1=> ?_,Yv h.io w.OI 6,fun p i i0 i1 q=> ?_⟩
   ·have k:=xt (u:=a.u) (u':=(a.cS n aU).u) hr.1.1 hr.1.2 (fun p c=>by rw[e,ae _ _ c]) z;have k2:((a.cS n aU).u a.free).fd=(a.u n).fd:=by rw[e,ah];rfl
    rw[k2,sN (f:=(a.u a.free).fd) (fun i i0 i1=>h.nz _ i i0 i1 og) z0]at k;show(Gh (a.u n).fd a.O 6).aY z=sO (a.cS n aU).u z;rw[Nf (f:=(a.u n).fd) (w.fd n) hH 6 (Nat.le_refl 6) z z0 z1,h.h z z0 z1,k];omega
   ·rw[e]at q ⊢;by_cases c:p=a.free
    ·subst c;rw[ah]at q;exact absurd rfl q
    ·rw[ae _ _ c]at q ⊢;exact h.nz p i i0 i1 q
def KA.FI.ad2{a:KA}(h:a.FI)(w:a.Wk T)(c:a.eY n i=0):((0<=n/\n<20)/\(a.u n).st=1/\(0<=i/\i<6))/\(a.u n).fd i=a.cW n i+1/\(0<=a.cW n i/\a.cW n i<24)/\a.O.is (a.cW n i)=0:=by
 obtain⟨hn,hs,hi,h4,h5⟩:=KA.rE c;have r:=w.fd n i;have v:0<=a.cW n i/\a.cW n i<24:=og;refine⟨⟨hn,hs,hi⟩,og,v,?_⟩;have g:=FH a.u hn.1 hn.2 (a.cW n i);have g2:1<=Gi (a.u n).fd (a.cW n i) 6:=by
  have:=uo (f:=fun j=>if(a.u n).fd j=a.cW n i+1 then 1 else 0) (n:=i) (k:=6) hi.1 og (fun j _ _=>by split<;>omega);simp only[if_pos (show(a.u n).fd i=a.cW n i+1 by omega)]at this;exact this
 have:=h.h _ v.1 v.2;unfold Tr.OS.is;rw[if_neg og,if_neg og]
def KA.FI.close{a:KA}{T:Int}(h:a.FI)(w:a.Wk T)(n i:Int):(a.gh n i).FI:=by
 unfold KA.gh;split
 ·exact h
 ·rename_i c;obtain⟨⟨hn,hs,hi⟩,e,v,o⟩:=h.ad2 w (show a.eY n i=0 by omega);refine⟨fun z z0 z1=> ?_,h.io.close w.OI w.PI _,FJ hs h.nz⟩;show(iH a.O (a.cW n i)).aY z=sO (rG a.u n i 0) z;rw[C4 w.OI o z,sP a.u hn hi,h.h z z0 z1,e,if_neg (show ¬(0:Int)=z+1 by omega)];by_cases q:z=a.cW n i
  ·rw[if_pos q,if_pos og];omega
  ·rw[if_neg q,if_neg og];omega
def FK{a:KA}(h:¬a.jN n<0:=by omega):(0<=a.jN n/\a.jN n<6)/\(a.u n).fd (a.jN n)=0:=by
 have:=pP (a.u n).fd 0 h;exact⟨⟨this.1,this.2.1⟩,this.2.2.2⟩
def KA.FI.Z4{a:KA}(h:a.FI)(w:a.Wk T)(n i:Int):(a.zb n i).FI:=by
 unfold KA.zb;split
 ·exact h
 ·rename_i c;obtain⟨⟨hn,hs,hi⟩,e,v,o⟩:=h.ad2 w (show a.eY n i=0 by omega);obtain⟨s1,s2⟩:=FK (a:=a) (n:=n);refine⟨fun z z0 z1=> ?_,h.io.MK w.OI _,FJ hs h.nz⟩;show(mj a.O (a.cW n i)).aY z=sO (rG a.u n (a.jN n) (a.cW n i+1)) z;rw[C5 o z,sP a.u hn s1,h.h z z0 z1,s2,if_neg (show ¬(0:Int)=z+1 by omega)];by_cases q:z=a.cW n i
  ·rw[if_pos q,if_pos og];omega
  ·rw[if_neg q,if_neg og];omega
theorem KA.FI.opens{a a1:KA}(h:a.FI)(w:a.Wk T)(ho:a.M8 n a1):a1.FI:=by
 rcases ho with rfl | ⟨x,wr,hl,hs,hf,rfl⟩
 ·exact h
 ·obtain⟨hn,pf⟩:=bE hl;obtain⟨_,s2⟩:=FK (a:=a) (n:=n);have f2:=(Tr.OS.jG (s:=a.O) og).2.2;refine⟨fun z z0 z1=> ?_,h.io.alO hf.1 hf.2 f2 x wr,FJ pf h.nz⟩;show ad a.O.aY a.O.first 1 z=sO (rG a.u n (a.jN n) (a.O.first+1)) z
  rw[sP a.u hn hs,s2,if_neg (show ¬(0:Int)=z+1 by omega)];have:=h.h z z0 z1;by_cases q:z=a.O.first
  ·rw[q]at this ⊢;rw[ah,if_pos rfl];omega
  ·rw[ae _ _ q,if_neg og];omega
def Uw(c:¬O.fc<0):0<=O.fc/\O.fc<24/\ad O.aY O.first 1 O.fc=0:=by
 have s:=Tr.OS.jG (s:=O.lay O.first 2 0 false) c;have e:(O.lay O.first 2 0 false).aY=ad O.aY O.first 1:=rfl
 rw[e]at s;exact s
def KA.FI.Aw{a:KA}{T:Int}(h:a.FI)(w:a.Wk T)(n:Int):(a.o9 n).FI:=by
 unfold KA.o9;split
 ·exact h
 ·rename_i c;obtain⟨hn,pf⟩:=bE (show a.aF n=0 by omega);have io:=h.io.Aw w.PI;split
  ·rename_i e;have eO:jl a.P a.O=(a.O.lay a.O.first 2 a.P.make.1 false).lay a.O.fc 3 a.P.make.1 false:=if_pos e;have eV:ml a.P a.O=a.O.first:=if_pos e
   have eU:nV a.P a.O=a.O.fc:=if_pos e;have cc:¬(a.O.first<0\/a.O.fc<0):=fun q=>by unfold im at e;rw[if_pos q]at e;exact absurd e dq
   obtain⟨f0,f1,f2⟩:=Tr.OS.jG (s:=a.O) fun q=>cc (.inl q);have s9:=Uw (O:=a.O) fun q=>cc (.inr q);have ne:a.O.fc≠a.O.first:=fun q=>by rw[q,ah]at s9;exact absurd s9.2.2 dq
   obtain⟨s0,s1,s2⟩:=s9;rw[ae _ _ ne]at s2;obtain⟨r1,r2⟩:=FK (a:=a) (n:=n);have r3:=pP (a.u n).fd (a.jN n+1) (show ¬jQ (a.u n).fd (a.jN n+1)<0 from fun q=>c (.inr (.inr q)));have r4:(0<=a.qZ n/\a.qZ n<6)/\(a.u n).fd (a.qZ n)=0/\a.qZ n≠a.jN n:=⟨⟨r3.1,r3.2.1⟩,r3.2.2.2,by have:=r3.2.2.1;show jQ (a.u n).fd (a.jN n+1)≠_;omega⟩;refine⟨fun z z0 z1=> ?_,io,FJ (by rw[(jI _ _ _ _ n).1];exact pf) (FJ pf h.nz)⟩;show(jl a.P a.O).aY z=sO (rG (rG a.u n (a.jN n) (ml a.P a.O+1)) n (a.qZ n) (nV a.P a.O+1)) z;have e2:(rG a.u n (a.jN n) (ml a.P a.O+1) n).fd (a.qZ n)=0:=by
    unfold rG;rw[ah];show ad (a.u n).fd (a.jN n) _ (a.qZ n)=0;rw[ae _ _ r4.2.2];exact r4.2.1
   rw[sP _ hn r4.1,e2,sP a.u hn r1,r2,eO,eV,eU,if_neg (show ¬(0:Int)=z+1 by omega)];show ad (ad a.O.aY a.O.first 1) a.O.fc 1 z=_;have:=h.h z z0 z1;by_cases q:z=a.O.fc
   ·rw[q]at this ⊢;rw[ah,if_neg og,if_pos rfl];omega
   ·rw[ae _ _ q];by_cases p:z=a.O.first
    ·rw[p]at this ⊢;rw[ah,if_pos rfl,if_neg og];omega
    ·rw[ae _ _ p,if_neg og,if_neg og];omega
  ·rename_i e;have eO:jl a.P a.O=a.O:=if_neg e;refine⟨fun z z0 z1=> ?_,io,h.nz⟩;show(jl a.P a.O).aY z=_;rw[eO];exact h.h z z0 z1
def KA.FI.Rr{a:KA}(h:a.FI)(ok:a.Ok T)(hT:T<=900000){x:Int}{w:Bool}{D:TD}{y0:Int}(hD:∀ c:0<=n,Uv n x D)(hA:∀ b:KA,b.FI->(D.A b).FI):(a.iX n x w D y0).2.1.FI:=by
 by_cases c:0<=n
 ·rcases B8 (w:=w) (y0:=y0) ok hT (hD c) lE h with⟨e,q1,q2,q3⟩ | ⟨q1,q2,q3⟩ | ⟨b,hb,uX,hk,q1,q2,q3,q4,q5⟩
  ·exact q3
  ·rw[q3];exact hA _ h
  ·rw[q5];have ZU:({b with v:=b.v,f:=b.f,g:=b.g.bI (b.u n).cO 0 1} :KA).FI:=hb.same (fun _=>⟨rfl,rfl⟩) rfl rfl;show(if _ then KA.Z5 _ n else _:KA).FI;split
   ·exact(hA _ ZU).same (fun _=>⟨rfl,rfl⟩) rfl rfl
   ·exact hA _ ZU
 ·unfold KA.iX;rw[if_pos (by rw[Nc c];decide)];exact h
def KA.FI.mv{a a':KA}(h:a.FI)(hu:a'.u=a.u)(r:a'.O.aY=a.O.aY/\a'.O.aI=a.O.aI/\a'.O.n=a.O.n)(p:a'.P.e=a.P.e):a'.FI:=
 ⟨fun z z0 z1=>by rw[r.1,hu];exact h.h z z0 z1,h.io.congr p fun z=>by rw[r.1,r.2.1,r.2.2];exact⟨Iff.rfl,rfl,rfl⟩,fun p i i0 i1 q=>by rw[hu]at q ⊢;exact h.nz p i i0 i1 q⟩
def afZ(P:Tr.PS)(n m:Int):(P.mh n m).2.2.e=P.e:=by
 unfold Tr.PS.mh;repeat' split
 all_goals rfl
def ab7(P:Tr.PS)(n:Int)(t:ByteArray):(P.cC n t).2.2.e=P.e:=by
 unfold Tr.PS.cC;repeat' split
 all_goals rfl
def Kb(F:Tr.FF)(O:Tr.OS)(n:Int)(x:ByteArray):(gT F O n x).aY=O.aY/\(gT F O n x).aI=O.aI/\(gT F O n x).n=O.n:=by
 unfold gT;split<;>exact⟨rfl,rfl,rfl⟩
def KA.FI.B6{a a1:KA}{F:Tr.FF}{x:jA}(h:a.FI)(ok:a.Ok T)(hT:T<=800000)(s:a.o3 F x a1):a1.FI:=by
 have S:=lE;have q:∀ {b:KA} {P:Prop} [Decidable P],b.FI->(if P then a else b).FI:=fun hb=>by
  split
  ·exact h
  ·exact hb
 have sm:∀ (v:VB) (f:Nat->Vm.MS) (g:Gr.TG),({a with v:=v,f:=f,g:=g} :KA).FI:=fun v f g=>h.same (fun _=>⟨rfl,rfl⟩) rfl rfl;cases s with
 | same=>exact h
 | dc=>exact S.dc ok.wk _ h
 | nj=>exact S.nj ok.wk _ _ _ h
 | dX=>exact S.dX ok.wk _ _ _ h
 | kt=>exact S.kt ok.wk _ _ _ h
 | take=>exact S.take _ h
 | map=>
  unfold KA.Dm;split
  ·exact h
  ·exact sm _ _ _
 | mW=>
  unfold KA.uH;split
  ·exact h
  ·exact sm _ _ _
 | drop=>exact sm _ _ _
 | It o=>exact h.opens ok.wk o
 | close=>exact h.close ok.wk _ _
 | Z4=>exact h.Z4 ok.wk _ _
 | Aw=>exact h.Aw ok.wk _
 | mh=>
  refine q (h.mv rfl ?_ ?_)
  ·show(oZ _ _ _ _).aY=_/\_;unfold oZ;split<;>exact⟨rfl,rfl,rfl⟩
  ·show(oY _ _ _ _).e=_;unfold oY;split
   ·exact afZ _ _ _
   ·rfl
 | cC=>
  have h1:(a.rH F x.a x.b x.s).FI:=by
   refine h.mv rfl ?_ ?_
   ·exact Kb _ _ _ _
   ·show(lB _ _ _ _).e=_;unfold lB;split
    ·exact ab7 _ _ _
    ·rfl
  refine q ?_;split
  ·exact S.send (ok.yj og F _ _ _).wk _ _ _ h1
  ·exact h1
 | GY=>
  refine q (h.mv rfl ?_ rfl);show(uD _ _ _).aY=_/\_;unfold uD;split<;>exact⟨rfl,rfl,rfl⟩
def KA.FI.step{a a1:KA}{c c1:KC}{x:jA}{e:Int}(h:a.FI)(ok:a.Ok T)(hT:T<=800000)(s:a.sH c c1 x a1 n e):a1.FI:=by
 cases s with
 | jo _=>exact h.jo ok.o0 _ _
 | exit _=>exact lE.fA ok.wk _ _ h
 | dM _=>
  unfold KA.aP;split
  ·exact h
  ·exact h.same (fun _=>⟨rfl,rfl⟩) rfl rfl
 | load _=>exact h.Rr ok og (fun c=>Py c) fun _ hb=>hb.same (fun _=>⟨rfl,rfl⟩) rfl rfl
 | store _=>exact h.Rr ok og (fun c=>PC c) fun _ hb=>hb.same (fun _=>⟨rfl,rfl⟩) rfl rfl
 | l8 _ _ _=>exact h
 | Z7 _=>exact h.same (fun _=>⟨rfl,rfl⟩) rfl rfl
 | Bf _ _ _=>
  unfold KA.pd;split
  ·exact h
  ·exact h.same (fun p=>by
    show(ad a.u x.a _ p).st=_/\(ad a.u x.a _ p).fd=_
    by_cases c:p=x.a
    ·subst c;rw[ah];exact⟨rfl,rfl⟩
    ·rw[ae _ _ c];exact⟨rfl,rfl⟩) rfl rfl
 | add _ _ _=>
  unfold KA.nG;split
  ·exact h
  ·exact h.same (fun _=>⟨rfl,rfl⟩) rfl rfl
 | qE _ r _ _=>exact h.B6 ok hT r
end Go.X.Kn

namespace Go.X.Kn
open Go Go.X Go.X.Gr
def IC{f g:Int->Int} :∀ (k:Nat),(∀ j:Int,0<=j->j<k->f j<=g j)->Gr.bU f k<=Gr.bU g k
 | 0,_=>Int.le_refl _
 | k+1,h=>by
  have:=IC k fun j a b=>h j a og;have:=h k og og;unfold Gr.bU;omega
theorem Yx(k:Nat):Gr.bU (fun _=>1) k=k:=by
 induction k with
 | zero=>rfl
 | succ k ih=>unfold Gr.bU;rw[ih];omega
def KA.cw(a:KA)(n j:Int):Int:=a.g.o7 n (a.u j).cO
def Ux{a:KA}(h:a.GI)(I:a.g.Inv){n j:Int}(j0:0<=j)(j1:j<20)(hs:(a.u j).st≠0):0<=a.cw n j/\a.cw n j<=1:=by
 obtain⟨g0,g1,g2⟩:=Gr.TG.ky (h.cO j j0 j1 hs);exact⟨Int.natCast_nonneg _,I.ok.JO g0 g1 g2 n⟩
theorem KA.Ng{a:KA}(h:a.GI){r:Int->Int->Int}{v:Int->Int}(n:Int)(hr:∀ y j,r y j=if(a.u j).cO=y then v j else 0)(hv:∀ j,0<=j->j<20->(a.u j).st=0->v j=0):J8 a.g.o7 (fun y=>Gr.bU (r y) 20) a.g.all n=Gr.bU (fun j=>a.cw n j*v j) 20:=by
 show((LX a.g.aa 10).map _).sum=_;rw[FB];have e:∀ y:Int,(if a.g.aa y=true then a.g.o7 n y*Gr.bU (r y) 20 else 0)=Gr.bU (fun j=>if a.g.aa y=true then a.g.o7 n y*r y j else 0) 20:=fun y=>by
  by_cases c:a.g.aa y=true
  ·simp only[c,if_true];rw[z8]
  ·simp only[c,if_false];exact(Gr.dx 20 fun _ _ _=>rfl).symm
 rw[Gr.ck 10 fun y _ _=>e y,B7];refine Gr.ck 20 fun j j0 j1=> ?_;by_cases hs:(a.u j).st=0
 ·rw[hv j j0 j1 hs,Int.mul_zero];refine Gr.dx 10 fun y _ _=> ?_;rw[hr,hv j j0 j1 hs];simp
 ·obtain⟨g0,g1,g2⟩:=Gr.TG.ky (h.cO j j0 j1 hs);have e2:∀ y:Int,(if a.g.aa y=true then a.g.o7 n y*r y j else 0)=if y=(a.u j).cO then a.cw n j*v j else 0:=fun y=>by
   rw[hr];by_cases c:y=(a.u j).cO
   ·subst c;rw[if_pos g2,if_pos rfl,if_pos rfl];rfl
   ·rw[if_neg (show ¬(a.u j).cO=y from fun q=>c q.symm),if_neg c,Int.mul_zero];split<;>rfl
  rw[Gr.ck 10 fun y _ _=>e2 y,mA _ _ g0,if_pos og]
theorem KA.Nh{a:KA}(I:a.g.Inv){f:Int->Int}{v:Int->Int}(e:∀ y,0<=y->y<10->a.g.aa y=true->v y=a.g.left f y){n:Int}(n0:0<=n)(n1:n<10)(n2:a.g.aa n=true):J8 a.g.o7 v a.g.all n=f n:=
 (Pu (fun x hx=>by
  obtain⟨x0,x1,x2⟩:=(LY a.g.aa 10 x).1 hx
  exact e x x0 x1 x2) n).trans (I.ok.ai3 f n0 n1 n2)
end Go.X.Kn
