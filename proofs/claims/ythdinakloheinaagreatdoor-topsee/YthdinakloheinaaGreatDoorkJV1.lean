import Derived.Test.YthdinakloheinaaGreatDoorkJG15
set_option linter.all false
namespace Go.X.Kn
open Go Go.X Go.X.Sg Go.X.Sp
section
variable {s:Sp.SS} {aO:Int->Nat}
theorem pU(hD:s.Deep aO){x:Int}(h:(0<=x/\x<6)/\s.aa x=true):(s.aA x= -1/\aO x=1/\s.cC aO x=[x])\/(((0<=s.aA x/\s.aA x<6)/\s.aa (s.aA x)=true)/\aO x=aO (s.aA x)+1/\s.cC aO x=x::s.cC aO (s.aA x)):=by
 obtain⟨_,_,h3⟩:=hD.d x h.1.1 h.1.2 h.2;rcases h3 with⟨h4,h5⟩ | ⟨h4,h5,h6,h7⟩
 ·left;refine⟨h4,h5,?_⟩;unfold Sp.SS.cC;rw[h5];rfl
 ·right;refine⟨⟨⟨h4,h5⟩,h6⟩,h7,?_⟩;unfold Sp.SS.cC;rw[h7];rfl
def Eb(hD:s.Deep aO){x:Int}(h:(0<=x/\x<6)/\s.aa x=true):x∈s.cC aO x:=by
 rcases pU hD h with⟨_,_,e⟩ | ⟨_,_,e⟩<;>rw[e]<;>exact .head _
def yW(hD:s.Deep aO):∀ (k:Nat) {x:Int},aO x=k->((0<=x/\x<6)/\s.aa x=true)->∀ y∈s.cC aO x,(((0<=y/\y<6)/\s.aa y=true)/\(y≠x->aO y<aO x))/\∀ z∈s.cC aO y,z∈s.cC aO x
 | 0,x,hk,h,_,_=>by have:=(hD.d x h.1.1 h.1.2 h.2).1;omega
 | k+1,x,hk,h,y,hy=>by
  rcases pU hD h with⟨_,_,e⟩ | ⟨h1,h2,e⟩
  ·simp_all
  ·rw[e]at hy;rcases List.mem_cons.1 hy with rfl | hy
   ·simp_all
   ·obtain⟨⟨h3,h4⟩,h5⟩:=yW hD k (x:=s.aA x) og h1 y hy;grind
def Gy(hD:s.Deep aO){x y z:Int}(h:(0<=x/\x<6)/\s.aa x=true)(hy:y∈s.cC aO x)(hz:z∈s.cC aO y):z∈s.cC aO x:=(yW hD _ rfl h y hy).2 z hz
def Ec(hD:s.Deep aO){x y:Int}(h:(0<=x/\x<6)/\s.aa x=true)(hy:y∈s.cC aO x)(hx:x∈s.cC aO y):y=x:=by
 refine Decidable.byContradiction fun q=> ?_;obtain⟨⟨h1,h2⟩,_⟩:=yW hD _ rfl h y hy;obtain⟨⟨_,h4⟩,_⟩:=yW hD _ rfl h1 x hx;omega
def nk(s:Sp.SS)(z p:Int):Prop:=∃ q,s.bR z q=p
def im(h:s.Inv aO){z p:Int}(hp:0<=p):nk s z p↔p<20/\0<=s.loc p/\z∈s.cC aO (s.loc p):=
 ⟨fun ⟨q,e⟩=>by have:=h.mem z q p hp e;exact⟨this.1,this.2.2.2.1,this.2.2.2.2⟩,fun ⟨a,b,c⟩=>h.has p hp a b z c⟩
def yX(h:s.Inv aO){p:Int}(hp:0<=p/\p<20)(hl:0<=s.loc p):(0<=s.loc p/\s.loc p<6)/\s.aa (s.loc p)=true:=⟨⟨hl,(h.loc p).2⟩,h.at_ p hp.1 hp.2 hl⟩
def Gz(h:s.Inv aO){p:Int}(hp:0<=p/\p<20)(hl:0<=s.loc p):nk s (s.loc p) p:=(im h hp.1).2 ⟨hp.2,hl,Eb h.D (yX h hp hl)⟩
def Nh(h:s.Inv aO){z p q:Int}(hp:0<=p)(hq:0<=q)(h1:nk s z q)(h2:nk s (s.loc q) p):nk s z p:=by
 obtain⟨_,_,a3⟩:=(im h hq).1 h1;obtain⟨b1,b2,b3⟩:=(im h hp).1 h2;exact(im h hp).2 ⟨b1,b2,Gy h.D (yX h ⟨hp,b1⟩ b2) b3 a3⟩
end
structure KA.Pw (a:KA):Prop where
 aA:∀ p,p≠0->(a.u p).st≠0->(a.u (a.u p).aA).st=1/\nk a.s (a.s.loc (a.u p).aA) p/\(a.s.bR (a.s.loc p) 1=p->a.s.loc (a.u p).aA≠a.s.loc p)
 hd:∀ z,0<=z->z<6->a.s.aa z=true->0<=a.s.bR z 1/\(a.u (a.s.bR z 1)).st≠0/\a.s.loc (a.s.bR z 1)=z/\((a.u (a.s.bR z 1)).st=2->∀ p,0<=p->nk a.s z p->p=a.s.bR z 1)
 zero:(a.u 0).aA= -1
theorem KA.Pw.same{a a':KA}(h:a.Pw)(hu:∀ p,(a'.u p).st=(a.u p).st/\(a'.u p).aA=(a.u p).aA)(hs:a'.s=a.s):a'.Pw:=by
 refine⟨fun p p0 q=> ?_,fun z z0 z1 hz=> ?_,by rw[(hu 0).2];exact h.zero⟩
 ·grind [KA.Pw.aA]
 ·rw[hs]at hz ⊢;rw[(hu _).1];exact h.hd z z0 z1 hz
theorem Wa(a:KA)(n m:Int)(x:BS):((a.jh n x).u m).aA=(a.u m).aA:=by
 grind [BP,u9]
theorem KA.Pw.box{a:KA}(h:a.Pw)(n:Int)(x:BS):(a.jh n x).Pw:=by grind [KA.Pw.same,fX,Wa,KA.jh]
theorem KA.Pw.gF{a:KA}(h:a.Pw)(p:Int):(a.jH p).Pw:=by
 grind [KA.jH,KA.Pw.box]
def Ij(n:Int):∀ (l:List Int) (a:KA),l.Nodup->(∀ m∈l,(0<=m/\m<20)/\0<=a.s.loc m)->
  ((l.foldl (KA.ey n) a).s.aa=a.s.aa/\(l.foldl (KA.ey n) a).s.aA=a.s.aA)/\(∀ z q,(l.foldl (KA.ey n) a).s.bR z q=if a.s.bR z q∈l/\a.s.bR z q≠n then-1 else a.s.bR z q)/\(∀ p,p∉l\/p=n->(l.foldl (KA.ey n) a).s.loc p=a.s.loc p/\(l.foldl (KA.ey n) a).u p=a.u p)/\(∀ p,p∈l->p≠n->(l.foldl (KA.ey n) a).u p=PA.nil)
 | [],a,_,_=>⟨⟨rfl,rfl⟩,fun z q=>by rw[if_neg fun h=>by cases h.1];rfl,fun p _=>⟨rfl,rfl⟩,fun p h=>by cases h⟩
 | x::r,a,hn,hl=>by
  obtain⟨hx,hr⟩:=List.nodup_cons.1 hn;have sN:=hl x (.head _);by_cases e:x=n
  ·have e1:a.ey n x=a:=if_pos e;obtain⟨i1,i2,i3,i4⟩:=Ij n r a hr fun m hm=>hl m (.tail _ hm);grind
  ·have e1:(a.ey n x).s=a.s.left x:=by
    unfold KA.ey;rw[if_neg e];have k:(a.s.fB x).2=a.s.left x:=by
     unfold Sp.SS.fB Sp.SS.bI;grind
    by_cases c:(a.u x).st=1
    ·rw[if_pos c];exact k
    ·rw[if_neg c];exact k
   have e2:∀ p,p≠x->(a.ey n x).u p=a.u p:=fun p hp=>yC a n hp;have e3:(a.ey n x).u x=PA.nil:=by unfold KA.ey;rw[if_neg e];exact au _ _ _
   have EG:∀ m,m≠x->(a.ey n x).s.loc m=a.s.loc m:=fun m hm=>by rw[e1];exact ai _ _ hm
   have gK:∀ m∈r,m≠x:=fun m hm q=>hx (q▸hm);obtain⟨i1,i2,i3,i4⟩:=Ij n r (a.ey n x) hr fun m hm=>by rw[EG m (gK m hm)];exact hl m (.tail _ hm)
   have hw:∀ z q,(a.ey n x).s.bR z q=if a.s.bR z q=x then-1 else a.s.bR z q:=fun z q=>by rw[e1];rfl
   rw[List.foldl_cons];refine⟨⟨i1.1.trans (by rw[e1];rfl),i1.2.trans (by rw[e1];rfl)⟩,fun z q=> ?_,fun p hp=> ?_,fun p hp PH=> ?_⟩;all_goals grind
def Wb{s:Sp.SS}{aO:Int->Nat}(h:s.Inv aO){z p:Int}(hz:(0<=z/\z<6)/\s.aa z=true)(hp:0<=p):p∈(s.mem z).1↔nk s z p:=by
 constructor
 ·grind [wR,nk]
 ·rintro⟨q,e⟩;have hm:=h.mem z q p hp e;unfold Sp.SS.mem;have:s.is z=0:=by unfold Sp.SS.is;rw[if_neg og,if_pos hz.2]
  rw[if_neg og];exact ks.2 ⟨q,og,og,og,e⟩
structure l8 (a b:KA):Prop where
 u:b.u=a.u
 bR:b.s.bR=a.s.bR
 loc:b.s.loc=a.s.loc
 aO:b.aO=a.aO
 aa:∀ y,b.s.aa y=true->a.s.aa y=true/\b.s.aA y=a.s.aA y
 eK:∀ y q,a.s.aa y=true->0<=q->q<21->0<=a.s.bR y q->b.s.aa y=true
theorem l8.refl(a:KA):l8 a a:=⟨rfl,rfl,rfl,rfl,fun _ h=>⟨h,rfl⟩,fun _ _ h _ _ _=>h⟩
def l8.trans{a b c:KA}(h:l8 a b)(k:l8 b c):l8 a c:=
 ⟨k.u.trans h.u,k.bR.trans h.bR,k.loc.trans h.loc,k.aO.trans h.aO,fun y q=>⟨(h.aa y (k.aa y q).1).1,(k.aa y q).2.trans (h.aa y (k.aa y q).1).2⟩,fun y q a0 a1 a2 a3=>k.eK y q (h.eK y q a0 a1 a2 a3) a1 a2 (by rw[h.bR];exact a3)⟩
theorem l8.one(a:KA)(z:Int):l8 a (a.dM z):=by
 rcases SS.rY a.s z with⟨_,e⟩ | ⟨_,hz,hz0,hh,e,hm,_⟩
 ·have:a.dM z=a:=by unfold KA.dM;rw[e]
  rw[this];exact l8.refl a
 ·refine⟨rfl,ud _ _,pL _ _,rfl,fun y hy=> ?_,fun y q a0 a1 a2 a3=> ?_⟩
  ·have hy:(a.s.drop z).2.aa y=true:=hy;refine⟨yD hy,?_⟩;show(a.s.drop z).2.aA y=_;rw[e]at hy ⊢;have hy:ae a.s.aa z false y=true:=hy;have:y≠z:=by rintro rfl;rw[au]at hy;cases hy
   exact ai _ _ this
  ·show(a.s.drop z).2.aa y=true;rw[e];show ae a.s.aa z false y=true;have:y≠z:=by rintro rfl;rcases hm q with c | c<;>omega
   rw[ai _ _ this];exact a0
def l8.HF:∀ (l:List Int) (a:KA),l8 a (l.foldl KA.dM a)
 | [],a=>l8.refl a
 | x::r,a=>(l8.one a x).trans (l8.HF r (a.dM x))
def l8.eb(a:KA):∀ k,l8 a (a.eb k)
 | 0=>l8.refl a
 | k+1=>(l8.eb a k).trans (l8.HF _ _)
def GA{a:KA}{y:Int}(hy:0<y/\y<6)(hm:∀ q,a.s.bR y q<0)(hk:∀ c,0<=c->c<6->a.s.aa c=true->a.s.aA c≠y):(a.dM y).s.aa y=false:=by
 by_cases h:a.s.aa y=true
 ·show(a.s.drop y).2.aa y=false;unfold Sp.SS.drop;have h1:a.s.is y=0:=by unfold Sp.SS.is;rw[if_neg og,if_pos h]
  have h2:¬(a.s.dw y).length>0:=by
   cases e:a.s.dw y with
   | nil=>simp
   | cons x r=>
    have hx:x∈dQ (a.s.bR y) 21:=by rw[show dQ (a.s.bR y) 21=a.s.dw y from rfl,e];exact .head _
    obtain⟨j,_,_,j2,_⟩:=ks.1 hx;have:=hm j;omega
  have h3:a.s.kids y=none:=by
   unfold Sp.SS.kids;grind [dL]
  rw[if_neg og,if_neg fun q=>q.elim og h2,h3];grind [au]
 ·have h:a.s.aa y=false:=by simpa using h
  cases e:(a.dM y).s.aa y with
  | false=>rfl
  | true=>have:=((l8.one a y).aa y e).1;rw[h]at this;cases this
end Go.X.Kn

namespace Go.X.Kn
open Go Go.X
variable{T n p y:Int}
structure RA (a:KA) (z y:Int):Prop where
 aa:(0<=y/\y<6)/\a.s.aa y=true
 cC:z∈a.s.cC a.aO y
 ne:y≠z
def RA.pos{a:KA}(hD:a.s.Deep a.aO)(Vy:a.aO 0=1){z:Int}(h:RA a z y):0<y:=by
 have h1:=h.aa;refine Decidable.byContradiction fun q=> ?_;have e:y=0:=og;rcases pU hD h1 with⟨_,_,e2⟩ | ⟨h2,h3,_⟩
 ·have:=h.cC;rw[e2]at this;grind [RA.ne]
 ·have:=(hD.d _ h2.1.1 h2.1.2 h2.2).1;simp_all
def GB{a:KA}{z:Int}(hD:a.s.Deep a.aO)(Vy:a.aO 0=1)(hB:∀ y,RA a z y->∀ q,a.s.bR y q<0)(m:Nat):∀ (L:List Int) (b:KA),l8 a b->(∀ y,RA a z y->b.s.aa y=true->a.aO y<=m)->∀ y,RA a z y->y∈L->a.aO y=m->(L.foldl KA.dM b).s.aa y=false
 | [],_,_,_,_,_,hm,_=>by cases hm
 | x::r,b,hs,hd,y,hy,hm,hdy=>by
  rw[List.foldl_cons];by_cases e:y=x
  ·subst e;have g:(b.dM y).s.aa y=false:=GA ⟨hy.pos hD Vy,hy.aa.1.2⟩ (fun q=>by rw[hs.bR];exact hB y hy q) (fun c c0 c1 ch cp=>by
    obtain⟨k1,k2⟩:=hs.aa c ch
    rcases pU hD ⟨⟨c0,c1⟩,k1⟩with⟨k3,_,_⟩ | ⟨_,k4,k5⟩
    ·have:=hy.aa;omega
    ·rw[<-k2,cp]at k4 k5
     have hz:=(yW hD _ rfl hy.aa z hy.cC).1
     have hcz:c≠z:=by
      grind
     have:=hd c ⟨⟨⟨c0,c1⟩,k1⟩,by rw[k5];exact .tail _ hy.cC,hcz⟩ ch
     omega)
   cases q:(r.foldl KA.dM (b.dM y)).s.aa y with
   | false=>rfl
   | true=>have:=((l8.HF r _).aa y q).1;rw[g]at this;cases this
  ·exact GB hD Vy hB m r (b.dM x) (hs.trans (l8.one b x)) (fun w hw hh=>hd w hw ((l8.one b x).aa w hh).1) y hy ((List.mem_cons.1 hm).resolve_left e) hdy
def O3{f:Int->Bool} :∀ {k:Nat} {y:Int},0<=y->y<k->f y=true->y∈Sp.fl f k
 | 0,y,h0,h1,_=>og
 | k+1,y,h0,h1,hf=>by
  unfold Sp.fl;by_cases e:y=k
  ·subst e;rw[if_pos hf];simp
  ·have:=O3 (f:=f) h0 (k:=k) og hf;split;all_goals exact List.mem_append_left _ this
def ux{a:KA}{z:Int}(hD:a.s.Deep a.aO)(Vy:a.aO 0=1)(hB:∀ y,RA a z y->∀ q,a.s.bR y q<0):∀ (k:Nat),∀ y,RA a z y->(a.eb k).s.aa y=true->a.aO y<=4-k
 | 0,y,hy,_=>(hD.d y hy.aa.1.1 hy.aa.1.2 hy.aa.2).2.1
 | k+1,y,hy,hh=>by
  have hh:((Sp.fl (a.eb k).s.aa 6).foldl KA.dM (a.eb k)).s.aa y=true:=hh;have h1:=((l8.HF _ _).aa y hh).1;have h2:=ux hD Vy hB k y hy h1;have h3:=(hD.d y hy.aa.1.1 hy.aa.1.2 hy.aa.2).1;refine Decidable.byContradiction fun q=> ?_;have:=GB hD Vy hB (4-k) _ (a.eb k) (l8.eb a k) (fun w hw hb=>ux hD Vy hB k w hw hb) y hy (O3 hy.aa.1.1 (by have:=hy.aa.1.2;omega) h1) og;simp_all
def Ni{a:KA}{z:Int}(hD:a.s.Deep a.aO)(Vy:a.aO 0=1)(hB:∀ y,RA a z y->∀ q,a.s.bR y q<0)(hy:RA a z y):(a.eb 4).s.aa y=false:=by
 cases q:(a.eb 4).s.aa y with
 | false=>rfl
 | true=>
  have:=ux hD Vy hB 4 y hy q;have:=(hD.d y hy.aa.1.1 hy.aa.1.2 hy.aa.2).1;omega
theorem wX(b:KA)(n h p:Int):((b.cJ n h).u p).aA=if 0<=p/\p<20/\(b.u p).st≠0/\(b.u p).aA=n then h else(b.u p).aA:=by
 show((if 0<=p/\p<20/\(b.u p).st≠0/\(b.u p).aA=n then {b.u p with aA:=h} else b.u p):PA).aA=_;grind
theorem yY(a:KA)(n co p:Int):((a.cD n co).u p).aA=(a.u p).aA:=by
 by_cases e:p=n
 ·subst e;show(ae a.u p _ p).aA=_;rw[au]
 grind [pM]
theorem wY{a:KA}(hl:(a.u n).st=1)(co p:Int):(((a.cD n co).u p).st≠0↔(a.u p).st≠0)/\(((a.cD n co).u p).st=1↔(a.u p).st=1/\p≠n)/\(((a.cD n co).u p).st=2↔(a.u p).st=2\/p=n):=by
 grind [pN,pM]
structure KA.Iu (a:KA) (T:Int):Prop where
 wk:a.Wk T
 r0:a.R0
 d0:a.aO 0=1
def KA.Ok.o0{a:KA}(h:a.Ok T):a.Iu T:=⟨h.wk,h.r0,h.d0⟩
theorem KA.Iu.ur{a:KA}(ok:a.Iu T)(hs:(a.u p).st≠0):(0<=p/\p<20)/\0<=a.s.loc p/\a.s.bI p=(a.s.loc p,0)/\a.s.is (a.s.loc p)=0/\(0<=a.s.loc p/\a.s.loc p<6)/\a.s.aa (a.s.loc p)=true:=by
 have hr:=ok.wk.kv hs;have h1:=(ok.wk.lc p hr.1 hr.2).1 hs;obtain⟨i1,i2,i3,i4⟩:=SS.Inv.is0 ok.wk.sI hr h1;simp_all
def KA.Pw.aaA{a:KA}(h:a.Pw)(ok:a.Iu T)(hs:(a.u n).st≠0:=by omega):a.head n=a.s.bR (a.s.loc n) 1:=by
 obtain⟨hr,h1,i1,i2,i3,i4⟩:=ok.ur hs;have h2:=(h.hd _ i3.1 i3.2 i4).1;unfold KA.head;rw[i1];show(a.s.find (a.s.loc n) 1).1=_;unfold Sp.SS.find;grind
theorem KA.Pw.afP{a:KA}(h:a.Pw)(ok:a.Iu T)(hl:(a.u n).st=1)(co:Int)(c:a.head n≠n):((a.cD n co).cJ n (a.head n)).Pw:=by
 obtain⟨hr,h1,i1,i2,i3,i4⟩:=ok.ur (p:=n) og;have hh:=h.aaA ok (n:=n);obtain⟨d1,d2,d3,d4⟩:=h.hd _ i3.1 i3.2 i4;rw[<-hh]at d1 d2 d3 d4;have d5:(a.u (a.head n)).st=1:=by
  rcases ok.wk.st (a.head n)with q | q | q
  ·omega
  ·omega
  ·exact absurd (d4 q n hr.1 (Gz ok.wk.sI hr h1)) fun e=>c e.symm
 have st':∀ p,(((a.cD n co).cJ n (a.head n)).u p).st=((a.cD n co).u p).st:=fun p=>(du _ _ _ _).1;refine⟨fun p p0 q=> ?_,fun z z0 z1 hz=> ?_,?_⟩
 ·rw[st']at q;have q1:=(wY hl co p).1.1 q;obtain⟨k1,k2,k3⟩:=h.aA p p0 q1;have Wc:=ok.wk.kv q1;rw[wX,yY];show _/\nk a.s (a.s.loc _) p/\(a.s.bR (a.s.loc p) 1=p->a.s.loc _≠a.s.loc p);grind [wY]
 ·have hz:a.s.aa z=true:=hz;obtain⟨k1,k2,k3,k4⟩:=h.hd z z0 z1 hz;show 0<=a.s.bR z 1/\(((a.cD n co).cJ n (a.head n)).u (a.s.bR z 1)).st≠0/\a.s.loc (a.s.bR z 1)=z/\((((a.cD n co).cJ n (a.head n)).u (a.s.bR z 1)).st=2->∀ p,0<=p->nk a.s z p->p=a.s.bR z 1);grind [wY]
 grind [wX,yY,KA.Pw.zero]
theorem KA.Pw.adu{a:KA}(h:a.Pw)(ok:a.Iu T)(SM:n≠0)(hl:(a.u n).st=1)(co:Int)(c:a.head n=n):(((a.cD n co).dV (a.s.bI n).1 n).cJ n n).Pw:=by
 obtain⟨hr,h1,i1,i2,i3,i4⟩:=ok.ur (p:=n) og;have I:=ok.wk.sI;have hzz:(0<=a.s.loc n/\a.s.loc n<6)/\a.s.aa (a.s.loc n)=true:=⟨i3,i4⟩;have hw:a.s.bR (a.s.loc n) 1=n:=(h.aaA ok (n:=n)).symm.trans c;rw[i1];show((((a.cD n co).dw (a.s.loc n) n).eb 4).cJ n n).Pw;have hwk:=(ok.wk.cD hr hl co).dw (a.s.loc n) n;obtain⟨g1,g2,g3,g4⟩:=Ij n (a.s.mem (a.s.loc n)).1 (a.cD n co) (yA I _) fun m hm=>SS.mem_range I hm;have em:(a.cD n co).dw (a.s.loc n) n=(a.s.mem (a.s.loc n)).1.foldl (KA.ey n) (a.cD n co):=rfl;rw[<-em]at g1 g2 g3 g4;have g2:∀ z q,((a.cD n co).dw (a.s.loc n) n).s.bR z q=if a.s.bR z q∈(a.s.mem (a.s.loc n)).1/\a.s.bR z q≠n then-1 else a.s.bR z q:=g2
 have g1:((a.cD n co).dw (a.s.loc n) n).s.aa=a.s.aa/\((a.cD n co).dw (a.s.loc n) n).s.aA=a.s.aA:=g1;have hL:∀ p,0<=p->(p∈(a.s.mem (a.s.loc n)).1↔nk a.s (a.s.loc n) p):=fun p hp=>Wb I hzz hp;have afR:((a.cD n co).dw (a.s.loc n) n).aO=a.aO:=H6 n _ _;generalize (a.cD n co).dw (a.s.loc n) n=m at*;have S:=l8.eb m 4;have kZ:∀ y,m.s.cC m.aO y=a.s.cC a.aO y:=fun y=>by
  rw[afR];exact Sp.SS.my (s:=a.s) (s':=m.s) g1.2 _ _
 have stay:∀ y q p,0<=p->(m.s.bR y q=p↔a.s.bR y q=p/\(p=n\/¬nk a.s (a.s.loc n) p)):=fun y q p hp=>by
  rw[g2];by_cases d:a.s.bR y q∈(a.s.mem (a.s.loc n)).1/\a.s.bR y q≠n
  ·rw[if_pos d];constructor
   ·intro q;omega
   ·rintro⟨e1,e2⟩;rw[e1]at d;rcases e2 with e2 | e2
    ·exact absurd e2 d.2
    ·exact absurd ((hL p hp).1 d.1) e2
  ·rw[if_neg d];constructor
   ·intro e1;refine⟨e1,?_⟩;rw[e1]at d;by_cases e2:p=n
    ·exact .inl e2
    ·exact .inr fun e3=>d ⟨(hL p hp).2 e3,e2⟩
   ·exact fun e=>e.1
 have u1:∀ p,0<=p->(p=n\/¬nk a.s (a.s.loc n) p)->m.s.loc p=a.s.loc p/\m.u p=(a.cD n co).u p:=fun p hp e=>g3 p (e.elim .inr fun e=>.inl fun q=>e ((hL p hp).1 q));have u2:∀ p,0<=p->(m.u p).st≠0->p=n\/¬nk a.s (a.s.loc n) p:=fun p hp e=>by
  by_cases e2:p=n
  ·exact .inl e2
  ·refine .inr fun e3=> ?_;rw[g4 p ((hL p hp).2 e3) e2]at e;exact e rfl
 have hB:∀ y,RA m (a.s.loc n) y->∀ q,m.s.bR y q<0:=fun y hy q=>by
  refine Decidable.byContradiction fun k=> ?_;obtain⟨k1,k2⟩:=(stay y q _ og).1 rfl;have k3:0<=m.s.bR y q:=og;have hyh:(0<=y/\y<6)/\a.s.aa y=true:=⟨hy.aa.1,by have:=hy.aa.2;rwa[g1.1]at this⟩;have hyw:=hy.cC;rw[kZ]at hyw;have k4:nk a.s y (m.s.bR y q):=⟨q,k1⟩;obtain⟨k5,k6,k7⟩:=(im I k3).1 k4;have k8:nk a.s (a.s.loc n) (m.s.bR y q):=(im I k3).2 ⟨k5,k6,Gy I.D (yX I ⟨k3,k5⟩ k6) k7 hyw⟩;have k9:=k2.resolve_right fun q=>q k8;rw[k9]at k7;exact hy.ne (Ec I.D hzz k7 hyw)
 have afS:∀ y,RA m (a.s.loc n) y->(m.eb 4).s.aa y=false:=fun y hy=>Ni hwk.sI.D (by rw[afR];exact ok.d0) hB hy;generalize m.eb 4=z4 at*;have n0:(0:Int)=n\/¬nk a.s (a.s.loc n) 0:=.inr (fun q=>by
  obtain⟨j,e⟩:=q
  have h2:=SS.Inv.in0 I ok.r0.loc ok.d0 e
  rw[h2,ok.r0.bR]at hw;exact SM hw.symm)
 have st':∀ p,((z4.cJ n n).u p).st=(m.u p).st:=fun p=>by rw[(du _ _ _ _).1,S.u]
 have par':∀ p,((z4.cJ n n).u p).aA=(m.u p).aA:=fun p=>by
  rw[wX,S.u];split
  ·rename_i e;exact e.2.2.2.symm
  ·rfl
 refine⟨fun p p0 q=> ?_,fun y y0 y1 hy=> ?_,?_⟩
 ·rw[st']at q;have Wc:=hwk.kv q;have e:=u2 p Wc.1 q;obtain⟨v1,v2⟩:=u1 p Wc.1 e;have q1:(a.u p).st≠0:=(wY hl co p).1.1 (by rw[<-v2];exact q);obtain⟨k1,k2,k3⟩:=h.aA p p0 q1;rw[par',v2,yY,st'];show _/\nk z4.s (z4.s.loc _) p/\(z4.s.bR (z4.s.loc p) 1=p->z4.s.loc _≠z4.s.loc p);rw[S.loc,S.bR,v1];have kr:=ok.wk.kv (n:=(a.u p).aA) og;have kn:(a.u p).aA≠n/\¬nk a.s (a.s.loc n) (a.u p).aA:=by
   by_cases e2:p=n
   ·subst e2;have k4:=k3 hw;refine⟨fun x=>k4 (by rw[x]),fun x=>k4 ?_⟩;obtain⟨x1,x2,x3⟩:=(im I kr.1).1 x;obtain⟨_,_,y3⟩:=(im I hr.1).1 k2;exact Ec I.D hzz y3 x3
   ·have e3:=e.resolve_left e2;refine⟨fun x=>e3 (by rw[x]at k2;exact k2),fun x=>e3 (Nh I Wc.1 kr.1 x k2)⟩
  obtain⟨w1,w2⟩:=u1 _ kr.1 (.inr kn.2);rw[w1,w2];obtain⟨j,hj⟩:=k2;exact⟨(wY hl co _).2.1.2 ⟨k1,kn.1⟩,⟨j,by rw[S.bR];exact(stay _ j p Wc.1).2 ⟨hj,e⟩⟩,fun x=>k3 ((stay _ 1 p Wc.1).1 x).1⟩
 ·have hy:z4.s.aa y=true:=hy;have hym:=(S.aa y hy).1;have hya:a.s.aa y=true:=by rwa[g1.1]at hym
  obtain⟨k1,k2,k3,k4⟩:=h.hd y y0 y1 hya;have hnb:¬RA m (a.s.loc n) y:=fun q=>by rw[afS y q]at hy;cases hy
  have hrk:=ok.wk.kv k2;have e:a.s.bR y 1=n\/¬nk a.s (a.s.loc n) (a.s.bR y 1):=by
   by_cases e2:a.s.bR y 1=n
   ·exact .inl e2
   ·refine .inr fun e3=>hnb ⟨⟨⟨y0,y1⟩,hym⟩,?_,?_⟩
    ·rw[kZ];have:=((im I k1).1 e3).2.2;rwa[k3]at this
    ·rintro rfl;exact e2 hw
  have ew:m.s.bR y 1=a.s.bR y 1:=(stay y 1 _ k1).2 ⟨rfl,e⟩;obtain⟨v1,v2⟩:=u1 _ k1 e;show 0<=z4.s.bR y 1/\((z4.cJ n n).u (z4.s.bR y 1)).st≠0/\z4.s.loc (z4.s.bR y 1)=y/\(((z4.cJ n n).u (z4.s.bR y 1)).st=2->∀ p,0<=p->nk z4.s y p->p=z4.s.bR y 1);rw[st',S.bR,S.loc,ew,v1,v2];refine⟨k1,(wY hl co _).1.2 k2,k3,fun q p hp x=> ?_⟩;obtain⟨j,hj⟩:=x;rw[S.bR]at hj;obtain⟨j1,j2⟩:=(stay y j p hp).1 hj;rcases(wY hl co _).2.2.1 q with q | q
  ·exact k4 q p hp ⟨j,j1⟩
  ·rw[q]at k3;rw[q];exact j2.resolve_right fun x=>x (by rw[k3];exact⟨j,j1⟩)
 ·rw[par',(u1 0 (Int.le_refl 0) n0).2,yY];exact h.zero
theorem KA.Pw.cR{a:KA}{T:Int}(h:a.Pw)(ok:a.Iu T){n:Int}(SM:n≠0)(hl:(a.u n).st=1)(co:Int):(a.cR n co).Pw:=by
 grind [KA.cR,KA.ij,KA.Pw.gF,KA.Pw.adu,KA.Pw.afP]
open Go.X.Sp
def Ed(w w':Int->Int->Int)(a b p:Int):(a≠b->tA w b p a=w a)/\(w a=w' a->tA w a p a=tA w' a p a):=by
 constructor
 ·intro h;unfold tA;cases dv (fun q=>decide (w b (q+1)<0)) 20 with
  | some k=>show cr w b _ p a=w a;funext q;unfold cr;rw[if_neg fun c=>h c.1]
  | none=>rfl
 ·intro h;unfold tA;rw[h];cases dv (fun q=>decide (w' a (q+1)<0)) 20 with
  | some k=>show cr w a _ p a=cr w' a _ p a;funext q;unfold cr;rw[h]
  | none=>exact h
theorem Ee(p:Int):∀ (l:List Int) (w:Int->Int->Int) (a:Int),a∉l->ix w p l a=w a
 | [],_,_,_=>rfl
 | x::r,w,a,h=>by
  unfold ix;rw[Ee p r _ a fun q=>h (.tail _ q)];exact(Ed w w a x p).1 (by rintro rfl;exact h (.head _))
theorem GC(p:Int):∀ (l:List Int) (w:Int->Int->Int) (a:Int),l.Nodup->a∈l->ix w p l a=tA w a p a
 | [],_,_,_,h=>by cases h
 | x::r,w,a,hn,h=>by
  obtain⟨hx,hr⟩:=List.nodup_cons.1 hn;unfold ix;by_cases e:a=x
  ·subst e;exact Ee p r _ a hx
  ·rw[GC p r _ a hr ((List.mem_cons.1 h).resolve_left e)];exact(Ed _ _ a a p).2 ((Ed w w a x p).1 e)
theorem Nj{w:Int->Int->Int}{a:Int}(h:w a 1<0):tA w a p a 1=p:=by
 unfold tA;rw[dW (k:=0) (m:=20) og og (by simpa using h) fun j j0 j1=>og];grind [cr]
theorem KA.Bs.adv{a:KA}{bu:Bool}(h:a.Bs n bu)(y:Int):(y∉(a.sA n bu).cC (a.dA n bu) (a.vk n bu)->∀ q,(a.df n bu).s.bR y q=a.s.bR y q)/\(y∈(a.sA n bu).cC (a.dA n bu) (a.vk n bu)->(∃ k,a.s.bR y k<0/\∀ q,(a.df n bu).s.bR y q=if q=k then a.free else a.s.bR y q)/\(a.s.bR y 1<0->(a.df n bu).s.bR y 1=a.free)):=by
 have hn:((a.sA n bu).cC (a.dA n bu) (a.vk n bu)).Nodup:=Sp.SS.uQ h.dS.D _ (a.vk n bu) rfl h.zr.1 h.zr.2.1 h.zr.2.2;obtain⟨e1,e2⟩:=uR a.free ((a.sA n bu).cC (a.dA n bu) (a.vk n bu)) (a.sA n bu).bR hn fun x _=>h.dS.free h.kv.1 h.loc x;rw[h.en,<-h.bR];refine⟨fun hy q=>e1 y hy q,fun hy=>⟨?_,fun q=> ?_⟩⟩
 ·obtain⟨k,_,_,k3,k4⟩:=e2 y hy;exact⟨k,k3,k4⟩
 ·show ix _ _ _ y 1=_;simp_all[GC,Nj]
def KA.Bs.Ya{a:KA}{bu:Bool}(h:a.Bs n bu){q:Int}(hp:p≠a.free)(e:(a.df n bu).s.bR y q=p):a.s.bR y q=p:=by
 obtain⟨w1,w2⟩:=h.adv y;by_cases hy:y∈(a.sA n bu).cC (a.dA n bu) (a.vk n bu);all_goals grind
theorem KA.Pw.df{a:KA}{T:Int}(h:a.Pw)(ok:a.Iu T){n:Int}{bu:Bool}(hl:a.aI n=0)(hf:a.free≠20)(hE:a.inE n bu=0):(a.df n bu).Pw:=by
 have h00:=SS.Inv.dg ok.wk.sI ok.r0.loc;have I:=ok.wk.fkI (n:=n) (bu:=bu) h00 hl hf hE;obtain⟨hn,hs⟩:=bX hl;obtain⟨hr,h1,i1,i2,i3,i4⟩:=ok.ur (p:=n) og;have BU:=I.kv.2;have Nq:a.sz n=a.s.loc n:=by unfold KA.sz;rw[i1]
 have hu:∀ m,m≠a.free->(a.df n bu).u m=a.u m:=fun m hm=>ai _ _ hm;have Y7:(a.df n bu).u a.free=a.M8 n:=au _ _ _;have hnc:n≠a.free:=by rintro e;rw[<-e]at BU;omega
 have hlc:∀ m,m≠a.free->(a.df n bu).s.loc m=a.s.loc m:=fun m hm=>by rw[I.ur,ai _ _ hm]
 have Tq:∀ y q,a.s.bR y q≠a.free:=fun y q e=>by
  have:=(ok.wk.sI.mem y q _ I.kv.1.1 e).2.2.2.1;exact((ok.wk.lc _ I.kv.1.1 I.kv.1.2).2 this) BU
 have G2:bu=true->a.s.aa (a.vk n bu)=false/\(a.df n bu).s.aa=ae a.s.aa (a.vk n bu) true/\((0<=a.vk n bu/\a.vk n bu<6)/\(a.sA n bu).aa (a.vk n bu)=true)/\(a.sA n bu).aA (a.vk n bu)=a.sz n:=fun ho=>by
  subst ho;have hE:(a.s.add a.aO (a.sz n)).2.1=0:=hE;have h2:=se hE;refine⟨h2.2.1,by rw[I.yP];exact h2.2.2,⟨h2.1,by show(a.s.add a.aO (a.sz n)).2.2.aa _=true;rw[h2.2.2];exact au _ _ _⟩,?_⟩;rcases a.s.om a.aO (a.sz n)with⟨q,_,_⟩ | ⟨k,_,_,_,_,q5⟩
  ·omega
  ·show(a.s.add a.aO (a.sz n)).2.2.aA (a.s.add a.aO (a.sz n)).1=_;simp_all[au]
 have dP:bu=false->a.vk n bu=a.s.loc n/\(a.df n bu).s.aa=a.s.aa/\(a.sA n bu).cC (a.dA n bu)=a.s.cC a.aO:=fun ho=>by
  subst ho;exact⟨Nq,by rw[I.yP];rfl,rfl⟩
 refine⟨fun p p0 q=> ?_,fun y y0 y1 hy=> ?_,?_⟩
 ·by_cases e:p=a.free
  ·subst e;rw[Y7];show((a.df n bu).u n).st=1/\nk _ ((a.df n bu).s.loc n) _/\(_->(a.df n bu).s.loc n≠_);rw[hu n hnc,hlc n hnc];refine⟨hs,⟨_,by rw[<-Nq];exact I.fS.2.1⟩,fun w=> ?_⟩;grind [KA.Pw.hd,KA.Bs.eK]
  ·rw[hu p e]at q ⊢;obtain⟨k1,⟨j,k2⟩,k3⟩:=h.aA p p0 q;have kqz:(a.u p).aA≠a.free:=by intro x;rw[x]at k1;omega
   have Wc:=ok.wk.kv q;rw[hu _ kqz,hlc _ kqz,hlc p e];exact⟨k1,⟨j,by rw[I.eK (by rw[k2];exact Wc.1)];exact k2⟩,fun w=>k3 (I.Ya e w)⟩
 ·by_cases hya:a.s.aa y=true
  ·obtain⟨k1,k2,k3,k4⟩:=h.hd y y0 y1 hya;have kc:a.s.bR y 1≠a.free:=Tq y 1;rw[I.eK k1,hu _ kc,hlc _ kc];refine⟨k1,k2,k3,fun q p hp ⟨j,hj⟩=> ?_⟩;by_cases e:p=a.free
   ·exfalso;obtain⟨w1,w2⟩:=I.adv y;have hw:y∈(a.sA n bu).cC (a.dA n bu) (a.vk n bu):=Decidable.byContradiction fun c=>Tq y j (by rw[<-w1 c j,hj,e]);have sn:nk a.s y n:=by
     cases ho:bu with
     | false=>
      have:=dP ho;rw[this.1,this.2.2]at hw;exact(im ok.wk.sI hn.1).2 ⟨hn.2,h1,hw⟩
     | true=>
      have g:=G2 ho;rcases pU I.dS.D g.2.2.1 with⟨z1,_,_⟩ | ⟨_,_,z3⟩
      ·omega
      ·rw[z3,g.2.2.2,Nq]at hw;have hyz:y≠a.vk n bu:=by intro x;rw[<-x,hya]at g;cases g.1
       have hw:=(List.mem_cons.1 hw).resolve_left hyz;have s1:nk (a.sA n bu) y n:=(im I.dS hn.1).2 ⟨hn.2,by rw[I.lo];exact h1,by rw[I.lo];exact hw⟩;obtain⟨j,e⟩:=s1;exact⟨j,by rw[<-I.bR];exact e⟩
    grind
   ·exact k4 q p hp ⟨j,I.Ya e hj⟩
  ·cases ho:bu with
   | false=>rw[(dP ho).2.1]at hy;exact absurd hy hya
   | true=>
    obtain⟨g1,g2,g3,g4⟩:=G2 ho;rw[g2]at hy;have e:y=a.vk n bu:=by
     grind [ai]
    rw[<-ho];have hw:y∈(a.sA n bu).cC (a.dA n bu) (a.vk n bu):=by rw[e];exact Eb I.dS.D g3
    have w0:a.s.bR y 1<0:=by rw[ok.wk.sI.A y (by rw[e];exact g1)];decide
    rw[((I.adv y).2 hw).2 w0,Y7,I.ur,au];exact⟨I.kv.1.1,(by decide:(1:Int)≠0),e.symm,fun q=>absurd q (by decide:¬(1:Int)=2)⟩
 grind [KA.Iu.r0,KA.R0.st,KA.Pw.zero]
def KA.Pw.dY{a:KA}(h:a.Pw)(ok:a.Iu T)(n:Int):(a.qZ n).Pw:=by
 unfold KA.qZ;split
 ·rename_i c;obtain⟨_,hr,hs,hp,_⟩:=As c;generalize (a.eS n 20).bA=x at*;obtain⟨_,h1,i1,i2,i3,i4⟩:=ok.ur (p:=x) og;have I:=ok.wk.sI;have ez:a.sz x=a.s.loc x:=by unfold KA.sz;rw[i1]
  rw[ez];have es:(a.eY x).s=a.s.left x:=by
   show(a.s.fB x).2=_;unfold Sp.SS.fB;rw[i1,if_neg (show ¬(a.s.loc x,(0:Int)).2≠0 from fun q=>q rfl)]
  have DH:∀ y q p,0<=p->((a.eY x).s.bR y q=p↔a.s.bR y q=p/\p≠x):=fun y q p hp=>by
   rw[es];show(if a.s.bR y q=x then(-1:Int)else a.s.bR y q)=p↔_;split
   ·constructor
    ·intro k;omega
    ·rintro⟨k1,k2⟩;omega
   ·constructor
    ·intro k;exact⟨k,og⟩
    ·exact fun k=>k.1
  have EG:∀ p,p≠x->(a.eY x).s.loc p=a.s.loc p:=fun p hp=>by rw[es];exact ai _ _ hp
  have S:=l8.one (a.eY x) (a.s.loc x);have hu:∀ p,p≠x->((a.eY x).dM (a.s.loc x)).u p=a.u p:=fun p hp=>by rw[S.u];exact uc _ hp
  have hux:((a.eY x).dM (a.s.loc x)).u x=PA.nil:=by rw[S.u];exact au _ _ _
  have sN:x≠0:=by rintro rfl;have:=ok.r0.st;omega
  refine⟨fun p p0 q=> ?_,fun y y0 y1 hy=> ?_,by rw[hu 0 fun e=>sN e.symm];exact h.zero⟩
  ·have e:p≠x:=by rintro rfl;rw[hux]at q;exact q rfl
   rw[hu p e]at q ⊢;obtain⟨k1,⟨j,k2⟩,k3⟩:=h.aA p p0 q;have kqz:(a.u p).aA≠x:=by intro w;rw[w]at k1;omega
   have Wc:=ok.wk.kv q;rw[hu _ kqz,S.loc,S.bR,EG _ kqz,EG p e];exact⟨k1,⟨j,by rw[S.bR];exact(DH _ _ p Wc.1).2 ⟨k2,e⟩⟩,fun w=>k3 ((DH _ _ p Wc.1).1 w).1⟩
  ·have hya:a.s.aa y=true:=by have:=(S.aa y hy).1;rw[es]at this;exact this
   obtain⟨k1,k2,k3,k4⟩:=h.hd y y0 y1 hya;by_cases e:a.s.bR y 1=x
   ·exfalso;rw[e]at k3 k4;have k5:=k4 hs;have y0':0<y:=by
     refine Decidable.byContradiction fun c=> ?_;have:y=0:=og;rw[this,ok.r0.bR]at e;exact sN e.symm
    have g:((a.eY x).dM y).s.aa y=false:=GA ⟨y0',y1⟩ (fun q=>by
     refine Decidable.byContradiction fun c=> ?_
     obtain⟨m1,m2⟩:=(DH y q _ (show 0<=(a.eY x).s.bR y q by omega)).1 rfl
     exact m2 (k5 _ og ⟨q,m1⟩)) (fun d d0 d1 dh dp=>by
     have dh:a.s.aa d=true:=by rw[es]at dh;exact dh
     have dp:a.s.aA d=y:=by rw[es]at dp;exact dp
     obtain⟨m1,m2,m3,_⟩:=h.hd d d0 d1 dh
     have hD:=I.D
     rcases pU hD ⟨⟨d0,d1⟩,dh⟩with⟨z1,_,_⟩ | ⟨z1,z2,z3⟩
     ·omega
     ·have mr:=ok.wk.kv m2
      have:nk a.s y (a.s.bR d 1):=(im I m1).2 ⟨mr.2,by rw[m3];exact d0,by rw[m3,z3,dp];exact .tail _ (Eb hD ⟨⟨y0,y1⟩,hya⟩)⟩
      have e2:=k5 _ m1 this
      rw[e2,k3]at m3
      rw[<-m3]at dp z2
      rw[dp]at z2;omega)
    rw[k3]at hy;rw[g]at hy;cases hy
   ·have ew:(a.eY x).s.bR y 1=a.s.bR y 1:=(DH y 1 _ k1).2 ⟨rfl,e⟩;rw[S.bR,S.loc,ew,hu _ e,EG _ e];refine⟨k1,k2,k3,fun q p hp ⟨j,hj⟩=> ?_⟩;rw[S.bR]at hj;exact k4 q p hp ⟨j,((DH y j p hp).1 hj).1⟩
 ·exact h
theorem KA.Pw.jO{a:KA}(h:a.Pw)(ok:a.Iu T)(n:Int)(bu:Bool):(a.iV n bu).Pw:=by
 unfold KA.iV;split
 ·omega
 ·split
  ·exact h.same (fun _=>⟨rfl,rfl⟩) rfl
  grind [KA.Pw.df]
end Go.X.Kn

namespace Go.X.Kn
open Go Go.X Go.X.Sg Go.X.Vm
variable{T k n q z:Int}{f:Int->Bool}
def KA.Pw.settle{a:KA}(h:a.Pw)(ok:a.Iu T)(hl:(a.u n).st=1)(o:Bool)(ho:o=true->n≠0):(a.cK n o).Pw:=by
 by_cases he:a.HN n o
 ·rw[qd he];refine h.cR ok (fun e=> ?_) hl _;subst e;rcases he.2 with q | q
  ·simp_all
  ·exact q (aaw ok.wk ok.r0)
 grind [KA.cK]
def KA.Pw.M4{a:KA}(h:a.Pw)(ok:a.Iu T)(c:a.aI n=0){x:BS}(hx:x.dY 0=false)(o:Bool)(ho:o=true->n≠0):((a.jh n x).cK n o).Pw:=by
 obtain⟨hr,hl⟩:=bX c;exact(h.box n x).settle ⟨ok.wk.jh hr hx,ok.r0.box _ _,ok.d0⟩ (by rw[fX];exact hl) o ho
theorem KA.Pw.send{a:KA}(h:a.Pw)(ok:a.Iu T)(n sig:Int)(o:Bool)(ho:o=true->n≠0):(a.vP n sig o).Pw:=by
 unfold KA.vP;split
 ·rename_i c;exact h.M4 ok c (o7 _ _ (ok.wk.bx n)) o ho
 omega
theorem KA.Pw.dP{a:KA}(h:a.Pw)(ok:a.Iu T)(n sig:Int)(on:Bool):(a.ml n sig on).Pw:=by
 unfold KA.ml;split
 ·omega
 ·rename_i c;split
  ·exact h.M4 ok og (r9 _ _ _ (ok.wk.bx n)) false sq
  omega
def KA.Pw.kg{a:KA}(h:a.Pw)(ok:a.Iu T)(n sig v:Int):(a.DZ n sig v).Pw:=by
 unfold KA.DZ;split
 ·omega
 ·rename_i c;split
  ·exact h.M4 ok og (Aq _ _ _ (ok.wk.bx n)) false sq
  omega
theorem KA.Pw.take{a:KA}(h:a.Pw)(n:Int):(a.qX n).Pw:=by
 unfold KA.qX;split
 ·exact h
 ·exact h.box _ _
def KA.Pw.wU{a:KA}(h:a.Pw)(ok:a.Iu T)(n fS sig:Int):(a.kt n fS sig).Pw:=by
 unfold KA.kt;split
 ·rename_i c;refine h.send ok _ _ _ fun _ e=> ?_;unfold KA.mR at c;split at c
  ·omega
  ·rename_i c1;split at c
   ·omega
   ·split at c
    ·omega
    ·rename_i c2;obtain⟨s1,s2,s3,_⟩:=D2 (show(a.mD n fS).2=0 by omega);obtain⟨_,f2,_⟩:=pG ok.wk.sI s2;rw[<-s3,e]at f2;have hz:=SS.Inv.in0 ok.wk.sI ok.r0.loc ok.d0 f2;rw[hz]at f2;exact c2 (ok.wk.sI.inj 0 1 fS (by rw[ok.r0.bR];omega) (by rw[f2,ok.r0.bR]))
 omega
theorem KA.Pw.ni{a:KA}{T:Int}(h:a.Pw)(ok:a.Iu T)(n co:Int):(a.ni n co).Pw:=by
 unfold KA.ni;split
 ·rename_i c;obtain⟨h1,h2⟩:=DY c;exact h.cR ok h2 (bX h1).2 co
 omega
theorem KA.Pw.fd{a:KA}(h:a.Pw)(n i v:Int)(O:Tr.OS)(P:Tr.PS):({a with u:=BW a.u n i v,O:=O,P:=P} :KA).Pw:=h.same (fun p=>⟨(jz a.u n i v p).1,by
 show(ae a.u n _ p).aA=_
 by_cases e:p=n
 ·subst e;rw[au]
 ·rw[ai _ _ e]⟩) rfl
theorem KA.Pw.bU{a:KA}(h:a.Pw)(g:Gr.TG)(v:VB)(f:Nat->Vm.MS)(O:Tr.OS)(P:Tr.PS):({a with g:=g,v:=v,f:=f,O:=O,P:=P} :KA).Pw:=h.same (fun _=>⟨rfl,rfl⟩) rfl
theorem KA.Pw.room{n:Int} :∀ (k:Nat) {a:KA} {T:Int},a.Pw->a.Ok T->(a.nj n k).2.Pw
 | 0,a,T,h,_=>h
 | k+1,a,T,h,ok=>by
  unfold KA.nj;by_cases c:a.aI n≠0
  ·simp_all
  ·rw[if_neg c];cases hz:a.iB n with
   | none=>exact h.bU _ a.v a.f a.O a.P
   | some z=>
    show(if a.gT z<0 then((6:Int),a)else(a.cR (a.gT z) 137).nj n k).2.Pw;split
    ·omega
    ·rename_i d;have hv:=si d;have hl:=bX hv.2;have hv0:a.gT z≠0:=og;exact KA.Pw.room k (h.cR ok.o0 hv0 hl.2 137) (ok.wk.DX ok.r0 ok.d0 hv0 hl.2 (ok.hx.any _) 137)
def KA.Pw.tch{a:KA}(h:a.Pw)(ok:a.Ok T){D:TD}(hD:∀ {b:KA},b.Pw->(D.A b).Pw)(x:Int)(w:Bool)(y0:Int):((a.kQ n x w D y0).2.1).Pw:=by
 have h1:(a.cb n).2.Pw:=h.room 21 ok;unfold KA.kQ;by_cases c1:a.aI n≠0
 ·simp_all
 ·rw[if_neg c1];by_cases c2:(a.f n.toNat).y8 x w=false
  ·simp_all
  ·rw[if_neg c2];by_cases c3:(a.f n.toNat).tJ x=true
   ·rw[if_pos c3];by_cases c4:(a.cb n).1≠0
    ·simp_all
    ·rw[if_neg c4];show(if D.e (a.cb n).2≠0 then(D.A (a.cb n).2).unA n else D.A (a.cb n).2).Pw;split
     ·exact(hD h1).same (fun _=>⟨rfl,rfl⟩) rfl
     simp_all
   simp_all
theorem KA.Pw.D6{a:KA}{T:Int}(h:a.Pw)(ok:a.Ok T)(hT:T<=900000)(F:Tr.FF)(n i:Int)(x:ByteArray):(a.nJ F n i x).Pw:=by
 have h1:(a.wV F n i x).Pw:=h.same (fun _=>⟨rfl,rfl⟩) rfl;unfold KA.nJ;split
 ·omega
 ·split
  ·exact h1.send (ok.D6 hT F n i x).o0 n 2 false sq
  omega
def KA.Pw.aiw{a a1:KA}{F:Tr.FF}{x:jP}(h:a.Pw)(ok:a.Ok T)(hT:T<=800000)(s:a.q8 F x a1):a1.Pw:=by
 have q:∀ {b:KA} {P:Prop} [Decidable P],b.Pw->(if P then a else b).Pw:=fun hb=>by
  grind
 cases s with
 | same=>exact h
 | dY=>exact h.dY ok.o0 _
 | wU=>exact h.wU ok.o0 _ _ _
 | dP=>exact h.dP ok.o0 _ _ _
 | kg=>exact h.kg ok.o0 _ _ _
 | take=>exact h.take _
 | map=>exact q (h.bU _ _ _ a.O a.P)
 | nA=>exact q (h.bU _ _ _ a.O a.P)
 | drop=>exact h.bU _ a.v a.f a.O a.P
 | V3 o=>
  rcases o with rfl | ⟨_,_,_,_,_,rfl⟩
  ·omega
  ·exact h.fd _ _ _ _ a.P
 | close=>exact q (h.fd _ _ _ _ _)
 | dup=>exact q (h.fd _ _ _ _ a.P)
 | Mu=>
  refine q ?_;split
  ·exact(h.fd _ _ _ a.O a.P).fd _ _ _ _ _
  ·grind [KA.Pw.bU]
 | mZ=>exact q (h.bU a.g a.v a.f _ _)
 | cg=>exact h.D6 ok og _ _ _ _
 | Mv=>exact q (h.bU a.g a.v a.f _ a.P)
def KA.Pw.step{a a1:KA}{c c1:KC}{x:jP}{e:Int}(h:a.Pw)(ok:a.Ok T)(hT:T<=800000)(s:a.uw c c1 x a1 n e):a1.Pw:=by
 have q:∀ {b:KA} {P:Prop} [Decidable P],b.Pw->(if P then a else b).Pw:=fun hb=>by
  grind
 cases s with
 | jO _=>exact h.jO ok.o0 _ _
 | exit _=>exact h.ni ok.o0 _ _
 | fJ _=>exact q (h.bU _ _ _ a.O a.P)
 | load _=>exact h.tch ok (fun hb=>hb.bU _ _ _ _ _) _ _ _
 | store _=>exact h.tch ok (fun hb=>hb.bU _ _ _ _ _) _ _ _
 | l6 _ _ _=>exact h
 | lim _=>exact h.bU _ a.v a.f a.O a.P
 | IM _ _ _=>
  refine q (h.same (fun p=>⟨(uv _ _ _ p).1,?_⟩) rfl);show(ae a.u _ _ p).aA=_;by_cases e:p=x.a
  ·rw[e,au]
  ·grind [ai]
 | add _ _ _=>exact q (h.bU _ a.v a.f a.O a.P)
 | qe _ r _ _=>exact h.aiw ok hT r
open Go.Proofs Go.X.Fa Go.X.Gr Go.X.Tr
def Ef{l:List Int}(h:0<=z/\z<l.length):dg l z∈l:=by
 grind [dg]
theorem ZD{l:List Int}(h:l.Nodup){y:Int}(hy:0<=y/\y<l.length)(hz:0<=z/\z<l.length)(e:dg l y=dg l z):y=z:=by
 grind [dg,List.getElem_inj]
def sj{a:KA}(I:a.s.Inv a.aO)(h:(a.mD n q).2=0):a.s.bR (a.s.bI n).1 q=(a.mD n q).1/\(0<=(a.mD n q).1/\(a.mD n q).1<20):=by
 obtain⟨_,h2,h3,_⟩:=D2 h;obtain⟨r,w,_⟩:=pG I h2;omega
theorem Nk{a:KA}(I:a.s.Inv a.aO){r:Int}(h:(a.mD n q).2=0)(k:(a.mD n r).2=0)(e:(a.mD n q).1=(a.mD n r).1):q=r:=by
 have h1:=sj I h;have k1:=sj I k;exact(I.inj (a.s.bI n).1 r q (by rw[k1.1];exact k1.2.1) (by rw[h1.1,k1.1,e]))
def GD{a:KA}(hl:a.aI n=0)(h:a.WB n q=true):(a.mD n q).2=0\/(a.mD n q).2=8:=by
 grind [KA.mD,KA.WB]
def GF{a:KA}(hl:a.aI n=0)(h:q∈a.sQ n):a.WB n q=true:=by
 unfold KA.sQ at h;rw[if_neg og]at h;exact(Vm.qB.1 h).2.2
theorem K7(a:KA)(n:Int):(a.sQ n).Nodup:=by
 unfold KA.sQ;split
 ·simp_all
 ·exact CQ 21
theorem KA.BC{a:KA}(ok:a.Ok T){p:Int}(hl:a.aI n=0)(hp:0<=p)(e:a.s.bR (a.s.loc n) q=p)(hs:(a.u p).st=1):a.mD n q=(p,0):=by
 obtain⟨hn,hs1⟩:=bX hl;obtain⟨hr,h1,i1,i2,i3,i4⟩:=ok.o0.ur (p:=n) og;have m:=ok.wk.sI.mem _ q p hp e;have f:a.s.find (a.s.loc n) q=(p,0):=by
  unfold Sp.SS.find;grind
 grind [KA.mD]
theorem GG{a:KA}(ok:a.Ok T){p:Int}(hl:a.aI n=0)(hp:(a.s.fS p (a.s.bI n).1).2=0):0<=p/\a.s.bR (a.s.loc n) (a.s.fS p (a.s.bI n).1).1=p:=by
 obtain⟨hn,hs1⟩:=bX hl;obtain⟨hr,h1,i1,i2,i3,i4⟩:=ok.o0.ur (p:=n) og;have i0:(a.s.bI n).1=a.s.loc n:=by rw[i1]
 rw[i0]at hp ⊢;by_cases c:p<0\/20<=p
 ·rw[Sp.SS.uO i2 c]at hp;exact absurd hp dq
 ·refine⟨og,?_⟩;unfold Sp.SS.fS at hp ⊢;grind [dv]
def KA.O4{a:KA}(ok:a.Ok T)(hl:a.aI n=0):(a.s.fS n (a.s.bI n).1).2=0/\a.mD n (a.s.fS n (a.s.bI n).1).1=(n,0):=by
 obtain⟨hn,hs1⟩:=bX hl;obtain⟨hr,h1,i1,i2,i3,i4⟩:=ok.o0.ur (p:=n) og;have hp:(a.s.fS n (a.s.bI n).1).2=0:=by
  obtain⟨q,e⟩:=Gz ok.wk.sI hr h1;have m:=ok.wk.sI.mem _ q n hr.1 e;rw[i1];show(a.s.fS n (a.s.loc n)).2=0;rw[Sp.SS.CA i2 og (q:=q) og e (fun j j0 j1 f=>by
   have:=ok.wk.sI.inj (a.s.loc n) j q (by rw[f];exact hr.1) (by rw[f,e]);omega)]
 grind [KA.BC,GG]
theorem KA.Pw.up{a:KA}(h:a.Pw)(ok:a.Ok T)(hl:a.aI n=0):a.Au n=0\/∃ p,a.mD n (a.Au n)=(p,0)/\a.aI p=0/\a.sQ p=a.sQ n:=by
 obtain⟨hn,hs1⟩:=bX hl;obtain⟨hr,h1,i1,i2,i3,i4⟩:=ok.o0.ur (p:=n) og;unfold KA.Au;by_cases c:a.aI n=0/\(a.s.fS (a.u n).aA (a.s.bI n).1).2=0
 ·rw[if_pos c];obtain⟨p0,pw⟩:=GG ok hl c.2;have SM:n≠0:=by rintro rfl;rw[h.zero]at p0;omega
  obtain⟨k1,k2,_⟩:=h.aA n SM og;obtain⟨jr,j1,j2,j3,j4,j5⟩:=ok.o0.ur (p:=(a.u n).aA) og;have hlp:a.aI (a.u n).aA=0:=by unfold KA.aI;rw[if_neg og,if_pos k1]
  refine .inr ⟨(a.u n).aA,KA.BC ok hl p0 pw k1,hlp,?_⟩;have s1:=(im ok.wk.sI hr.1).1 k2;have s2:=(im ok.wk.sI p0).1 ⟨_,pw⟩;have e:a.s.loc (a.u n).aA=a.s.loc n:=Ec ok.wk.sI.D (yX ok.wk.sI hr h1) s1.2.2 s2.2.2;unfold KA.sQ;rw[if_neg og,if_neg og];have:a.WB (a.u n).aA=a.WB n:=by funext q;unfold KA.WB;rw[j2,i1,e]
  rw[this]
 omega
def nl(a:KA)(n:Int)(f:Int->Bool)(k:Int):Prop:=∀ t,f t=true->∃ j,(0<=j/\j<k)/\a.mD n (dg (a.sQ n) j)=(t,0)
theorem nl.none(a:KA)(n:Int):nl a n (fun _=>false) 0:=fun _ h=>by cases h
def nl.skip{a:KA}(h:nl a n f k):nl a n f (k+1):=fun t q=>by
 grind [nl]
theorem nl.add{a:KA}(h:nl a n f k)(hk:0<=k)(e:(a.mD n (dg (a.sQ n) k)).2=0):nl a n (ae f (a.mD n (dg (a.sQ n) k)).1 true) (k+1):=fun t q=>by
 grind [nl,ae]
def nl.new{a:KA}(I:a.s.Inv a.aO)(h:nl a n f k)(hk:0<=k/\k<(a.sQ n).length)(e:(a.mD n (dg (a.sQ n) k)).2=0):f (a.mD n (dg (a.sQ n) k)).1=false:=by
 grind [ZD,K7,Nk,nl]
def KA.bP(a:KA):List Int:=Vm.fl (fun n=>decide ((a.u n).st=1)) 20
def Bc{a:KA}(h:0<=z/\z<a.bP.length):a.aI (dg a.bP z)=0:=by
 have hm:=Ef h;generalize dg a.bP z=p at*;obtain⟨h1,h2,h3⟩:=Vm.qB.1 hm;grind [KA.aI]
def KA.GH(a:KA):a.bP.length<=20:=Vm.ia _ 20
def KA.Wd(a:KA)(n:Int):(a.sQ n).length<=21:=by
 unfold KA.sQ;split
 ·simp
 ·exact Vm.ia _ 21
def aaC:A0.Pw:=by
 have ok:=V7;refine⟨fun p p0 q=> ?_,fun z z0 z1 hz=> ?_,by rw[E1,if_pos rfl]⟩
 ·rw[E1,if_neg p0]at q;exact absurd rfl q
 ·have hz:S0.aa z=true:=hz;have e:z=0:=by
   rcases(show z=0\/z=1\/z=2\/z=3\/z=4\/z=5 by omega)with e | e | e | e | e | e
   ·omega
   all_goals(rw[e]at hz;exact absurd hz dk)
  grind [KA.Ok.r0,KA.R0.bR,KA.R0.st,KA.R0.loc]
set_option maxRecDepth 20000
set_option maxHeartbeats 4000000
attribute [local irreducible] KA.cR KA.cK
set_option maxHeartbeats 16000000 in
def We(bl ol len cap:Nat)(hlen:len<=cap)(A:Int->jP)(hA:∀ z:Int,0<=z->z<len->(A z).ok):Spec Tryz.prog 8 [.slice (some ⟨bl,ol,none⟩) len cap] [.ro 0 0 32 cW,.ro 1 0 64 fw,.ro bl ol (8*len) (fD A)] (fun v H1=>v= .bool true/\H1=[]):=by
 refine Spec.go 178 [0,2,3,4,5,6,7,8,9,10,11,12,13,14,15,16,17,18,19,20,31,36,50,98,102,120,135,148,150,162,177] [] Tryz.func8 rfl rfl rfl ?_;intro W;refine ca (K6) .nil ?_;rintro _ _ ⟨b,c0,rfl,_,_,BU,rfl⟩;refine gO ?_;refine xj 0 (ZB _ _ len cap hlen A hA 120 og) (pk [19]) rfl ?_;rintro _ _ ⟨⟨bf,rfl,adw⟩,rfl⟩;refine gO ?_;refine we rfl ?_ ?_<;>intro h1
 ·try simp only[sb]at h1
  refine ah rfl rfl (ad .nil rfl ?_);try dsimp only[aL,aJ,aD,aR]
  exact⟨rfl,rfl⟩
 ·try simp only[sb]at h1
  have hle:(len:Int)<=120:=(adw (by simpa using h1)).1;have hTx:=(adw (by simpa using h1)).2;refine lp (σ:=Int×KA×KC) (fun x=>(len-x.1).toNat) (fun x=>(0<=x.1/\x.1<=len)/\x.2.1.Ok (2+20*x.1)/\cH x.2.1 x.2.2 (1+x.1.toNat) (2+20*x.1)/\x.2.1.Pw) (fun x=>[(5,iI x.1),(0,.slice (some ⟨bl,ol,none⟩) len cap),(3,aC b.kb 0 0)]) (fun x=>XM W (bZ [.ro 0 0 32 cW,.ro 1 0 64 fw,.ro bl ol (8*len) (fD A)]) (cU x.2.1 b x.2.2 [.ro 0 0 32 cW,.ro 1 0 64 fw,.ro bl ol (8*len) (fD A)])) ((0,A0,c0)) ?_ (S3 rfl rfl rfl) (fun _ hw=>XM.pick (pk [1,1,1,1,1,1,1,1,1,1,1,1,1,1,1,1,1,1,1,0]) hw) ?_
  ·exact⟨sq,V7,BU,aaC⟩
  intro x sN;obtain⟨hi,ho,hc,nS⟩:=sN;refine gC ?_;refine cd rfl ?_ ?_<;>intro h2
  ·have htx:=hTx x.1 og og;refine sd ?_;refine aen (.nT (.t7 .aa)) (PC A len _ og) ?_;refine xj 17 (adt x.2.1 b x.2.2 (1+x.1.toNat) (2+20*x.1) ho hc og og og (A x.1) ⟨og,og⟩) (pz 19) rfl ?_;rintro _ _ ⟨a1,r,c1,rfl,sW,gm,rfl⟩;refine gO ?_;refine sd ?_;refine ag ((x.1+1,a1,c1)) ?_ ?_ (S3 rfl rfl rfl) fun _ hw=>XM.pick (pz 20) hw
   ·
    (show(_-(x.1+1)).toNat<(_-x.1).toNat;omega)
   ·exact⟨(by show 0<=x.1+1/\x.1+1<=_;omega),(by have h9:=sW.ok ho og og (hc.F.sh og);rw[show 2+20*(x.1+1)=2+20*x.1+20 by omega];exact h9),(by show cH a1 c1 (1+(x.1+1).toNat) (2+20*(x.1+1));rw[show 2+20*(x.1+1)=2+20*x.1+20 by omega,show 1+(x.1+1).toNat=1+x.1.toNat+1 by omega];exact gm),nS.step ho og sW⟩
  ·refine ca (Ig b.kb (kp x.2.1 b x.2.2)) .h1 ?_;rintro _ _ ⟨pl,cl,rfl,rfl⟩;rw[show Vm.fl (fun n=>decide (((kp x.2.1 b x.2.2).u n).st=1)) 20=KA.bP x.2.1 from rfl];refine gO ?_;refine lp (σ:=Int) (fun i=>((KA.bP x.2.1).length-i).toNat) (fun i=>0<=i/\i<=(KA.bP x.2.1).length) (fun i=>[(7,iI i),(3,aC b.kb 0 0),(6,.slice pl (KA.bP x.2.1).length cl)]) (fun i=>XM W (bZ [.ro 0 0 32 cW,.ro 1 0 64 fw,.ro bl ol (8*len) (fD A)]) [db pl cl 3 (KA.bP x.2.1),.cells b.kb 0 453 (aF (kp x.2.1 b x.2.2)),.cells b.gb 0 60 (bE x.2.1.g),.cells b.sb 0 158 (Sp.aP x.2.1.s),.cells b.qb 0 2281 (aM x.2.2.q),.aV b7 (SC.da 254 x.2.2.q),.cells b.bb 0 577 (dD b.vp x.2.1.v.iq x.2.1.v.rf),.cells b.vp 0 71 (Vm.bL x.2.1.v.bb.fi),.dN (iR x.2.1) x.2.2.mb 34 (cN b.bb x.2.1.f x.2.2.pp x.2.2.cc),.aV (iR x.2.1) (rN 171 x.2.1.f x.2.2.pp x.2.2.cc),.cells b.tb 0 321 (aH x.2.2.F),.aV ax (FC.aX 9 x.2.2.F),.aV ax (FC.aY 3 x.2.2.F),db x.2.2.rp x.2.2.rc 3 x.2.2.rl,.cells b.pi 0 24 (Tr.bL x.2.1.P),.cells b.ob 0 122 (bh b.tb b.pi x.2.1.O),.dN (kG x.2.1) (fun z=>(x.2.2.t z).b) 4 (cT b.tb x.2.2.t),.aV (kG x.2.1) (rT 168 x.2.2.t),.ro 0 0 32 cW,.ro 1 0 64 fw,.ro bl ol (8*len) (fD A)]) (0) ?_ (S3 rfl rfl rfl) (fun _ hw=>XM.pick (pz 21) hw) ?_
   ·omega
   intro i hi9;have X9:=x.2.1.GH;refine gC ?_;refine cd rfl ?_ ?_<;>intro h3
   ·refine bH .aa og ?_;intro gA h4;subst h4;have hl:x.2.1.aI (dg (KA.bP x.2.1) i)=0:=Bc ⟨og,og⟩;obtain⟨hs1,hs2⟩:=KA.O4 ho hl;have hs3:(x.2.1.mD (dg (KA.bP x.2.1) i) (x.2.1.s.fS (dg (KA.bP x.2.1) i) (x.2.1.s.bI (dg (KA.bP x.2.1) i)).1).1).1=(dg (KA.bP x.2.1) i):=by rw[hs2]
    have hs4:(x.2.1.mD (dg (KA.bP x.2.1) i) (x.2.1.s.fS (dg (KA.bP x.2.1) i) (x.2.1.s.bI (dg (KA.bP x.2.1) i)).1).1).2=0:=by rw[hs2]
    have FP:=nS.up ho hl;have hll:=x.2.1.Wd (dg (KA.bP x.2.1) i);refine sd ?_;refine q9 .aa (ints_at) ?_;refine ca (UP b.kb (kp x.2.1 b x.2.2) x.2.1.s (dg (KA.bP x.2.1) i)) (pk [1,2]) ?_;rintro v12 _ ⟨Wf,rfl⟩;rw[if_pos (show(kp x.2.1 b x.2.2).aI (dg (KA.bP x.2.1) i)=0 from hl),hs1,iz]at Wf;subst Wf;refine gO ?_;refine sd ?_;refine q9 (.t2 .aa) (ints_at) ?_;refine ca (wW x.2.1 b x.2.2 x.2.1.aO ho.wk.sI (dg (KA.bP x.2.1) i) (x.2.1.s.fS (dg (KA.bP x.2.1) i) (x.2.1.s.bI (dg (KA.bP x.2.1) i)).1).1) (pz 2) ?_;rintro _ _ ⟨rfl,rfl⟩;rw[hs3,hs4,iz];refine gO ?_;refine sd ?_;refine q9 (.t2 .aa) (ints_at) ?_;refine ca (B0 x.2.1 b x.2.2 (dg (KA.bP x.2.1) i)) (pz 2) ?_;rintro _ _ ⟨yp,yk,rfl,rfl⟩;rw[hl,iz];refine gO ?_;refine sd ?_;refine q9 (.t3 .aa) (ints_at) ?_;refine Im rfl og ?_;refine XO.bN (z:=.agg (Bf (fun _=>false) 20)) (m:=20) (C:=ln (fun _=>false) 20) kq (E7 (fun _=>false) 20) (ln.box (fun _=>false) 20) rfl ?_;intro bs;refine gO ?_;refine lp (σ:=Int×(Int->Bool)) (fun z=>((x.2.1.sQ (dg (KA.bP x.2.1) i)).length-z.1).toNat) (fun z=>(0<=z.1/\z.1<=(x.2.1.sQ (dg (KA.bP x.2.1) i)).length)/\nl x.2.1 (dg (KA.bP x.2.1) i) z.2 z.1) (fun z=>[(15,iI z.1),(3,aC b.kb 0 0),(6,.slice (some ⟨gA,0,none⟩) (KA.bP x.2.1).length cl),(7,iI i),(12,.slice yp (x.2.1.sQ (dg (KA.bP x.2.1) i)).length yk),(14,aC bs 0 0)]) (fun z=>XM W (bZ [.ro 0 0 32 cW,.ro 1 0 64 fw,.ro bl ol (8*len) (fD A)]) [.cells bs 0 20 (ln z.2 20),db yp yk 3 (x.2.1.sQ (dg (KA.bP x.2.1) i)),db (some ⟨gA,0,none⟩) cl 3 (KA.bP x.2.1),.cells b.kb 0 453 (aF (kp x.2.1 b x.2.2)),.cells b.gb 0 60 (bE x.2.1.g),.cells b.sb 0 158 (Sp.aP x.2.1.s),.cells b.qb 0 2281 (aM x.2.2.q),.aV b7 (SC.da 254 x.2.2.q),.cells b.bb 0 577 (dD b.vp x.2.1.v.iq x.2.1.v.rf),.cells b.vp 0 71 (Vm.bL x.2.1.v.bb.fi),.dN (iR x.2.1) x.2.2.mb 34 (cN b.bb x.2.1.f x.2.2.pp x.2.2.cc),.aV (iR x.2.1) (rN 171 x.2.1.f x.2.2.pp x.2.2.cc),.cells b.tb 0 321 (aH x.2.2.F),.aV ax (FC.aX 9 x.2.2.F),.aV ax (FC.aY 3 x.2.2.F),db x.2.2.rp x.2.2.rc 3 x.2.2.rl,.cells b.pi 0 24 (Tr.bL x.2.1.P),.cells b.ob 0 122 (bh b.tb b.pi x.2.1.O),.dN (kG x.2.1) (fun z=>(x.2.2.t z).b) 4 (cT b.tb x.2.2.t),.aV (kG x.2.1) (rT 168 x.2.2.t),.ro 0 0 32 cW,.ro 1 0 64 fw,.ro bl ol (8*len) (fD A)]) ((0,fun _=>false)) ?_ (S6 rfl rfl rfl rfl rfl rfl) (fun _ hw=>XM.pick (pk [0,0,2,0,1,0,0,0,0,0,0,0,0,0,0,0,0,0,0,0,0,0,0]) hw) ?_
    ·exact⟨sq,nl.none _ _⟩
    intro z hz0;obtain⟨hzi,hz⟩:=hz0;refine gC ?_;refine cd rfl ?_ ?_<;>intro h5
    ·refine bH (.av .aa) og ?_;intro gB h6;subst h6;refine rq [0,1,2,3,4,5,6,7,8,9,10,11,12,13,14] mixed ?_;refine sd ?_;refine q9 (.t2 .aa) (ints_at) ?_;refine sd ?_;refine q9 (.av .aa) (ints_at) ?_;refine cq (wW x.2.1 b x.2.2 x.2.1.aO ho.wk.sI (dg (KA.bP x.2.1) i) (dg (x.2.1.sQ (dg (KA.bP x.2.1) i)) z.1)) (pk [3,4]) ?_;refine cq (O2 _) .nil ?_;refine cd rfl ?_ ?_<;>intro h7
     ·refine sd ?_;refine ag ((z.1+1,z.2)) ?_ ?_ (S6 rfl rfl rfl rfl rfl rfl) fun _ hw=>XM.pick (pk [2,2,2,0,1,0,0,0,0,0,0,0,0,0,0,0,0,0,0,0,0,0,0]) hw
      ·
       (show(_-(z.1+1)).toNat<(_-z.1).toNat;omega)
      ·exact⟨(by show 0<=z.1+1/\z.1+1<=_;omega),hz.skip⟩
     ·have hn8:(x.2.1.mD (dg (KA.bP x.2.1) i) (dg (x.2.1.sQ (dg (KA.bP x.2.1) i)) z.1)).2≠8:=h7;have he:(x.2.1.mD (dg (KA.bP x.2.1) i) (dg (x.2.1.sQ (dg (KA.bP x.2.1) i)) z.1)).2=0:=(GD hl (GF hl (Ef ⟨og,og⟩))).resolve_right hn8;obtain⟨_,ht0,ht1⟩:=sj ho.wk.sI he;have hnw:=hz.new ho.wk.sI ⟨og,og⟩ he;refine W2 123 rfl og ?_;refine W2 127 rfl og ?_;refine W2 131 rfl og ?_;refine sd ?_;refine ld (.t2 .aa) (K3 (ln.ld _ _ _ og) hnw) ?_;refine sd ?_;refine st (.t2 .aa) (ln.st _ _ _ _ og) rfl ?_;refine sd ?_;refine ag ((z.1+1,ae z.2 (x.2.1.mD (dg (KA.bP x.2.1) i) (dg (x.2.1.sQ (dg (KA.bP x.2.1) i)) z.1)).1 true)) ?_ ?_ (S6 rfl rfl rfl rfl rfl rfl) fun _ hw=>XM.pick (pk [2,2,2,0,1,0,0,0,0,0,0,0,0,0,0,0,0,0,0,0,0,0,0]) hw
      ·
       (show(_-(z.1+1)).toNat<(_-z.1).toNat;omega)
      ·exact⟨(by show 0<=z.1+1/\z.1+1<=_;omega),hz.add og he⟩
    ·refine sd ?_;refine q9 (.t2 .aa) (ints_at) ?_;refine ca (Gq x.2.1 b x.2.2 (dg (KA.bP x.2.1) i)) (pk [3,4]) ?_;rintro _ _ ⟨rfl,rfl⟩;rw[hl,iz];refine gO ?_;refine cd rfl ?_ ?_<;>intro ZX
     ·refine sd ?_;refine ag (i+1) ?_ ?_ (S3 rfl rfl rfl) fun _ hw=>XM.pick (pk [4,0,3,0,2,2,2,2,2,2,2,2,2,2,2,2,2,2,2,2,2]) hw
      ·
       (first | omega | (simp;done) | (simp;omega))
      ·
       (first | omega | (simp;done) | (simp;omega))
     ·obtain⟨p,Is,Fp,hp3⟩:=FP.resolve_left ZX;have Ge:(x.2.1.mD (dg (KA.bP x.2.1) i) (x.2.1.Au (dg (KA.bP x.2.1) i))).1=p:=by rw[Is]
      have q7:(x.2.1.mD (dg (KA.bP x.2.1) i) (x.2.1.Au (dg (KA.bP x.2.1) i))).2=0:=by rw[Is]
      refine sd ?_;refine q9 (.t4 .aa) (ints_at) ?_;refine ca (wW x.2.1 b x.2.2 x.2.1.aO ho.wk.sI (dg (KA.bP x.2.1) i) (x.2.1.Au (dg (KA.bP x.2.1) i))) (pz 2) ?_;rintro _ _ ⟨rfl,rfl⟩;rw[Ge,q7,iz];refine gO ?_;refine ca (B0 x.2.1 b x.2.2 p) (pz 2) ?_;rintro _ _ ⟨vp9,vk9,rfl,rfl⟩;rw[Fp,iz];refine gO ?_;refine Im rfl (by rw[hp3];omega) ?_;refine sd ?_;refine ag (i+1) ?_ ?_ (S3 rfl rfl rfl) fun _ hw=>XM.pick (pk [5,1,4,1,3,3,3,3,3,3,3,3,3,3,3,3,3,3,3,3,3]) hw
      ·
       (first | omega | (simp;done) | (simp;omega))
      ·
       (first | omega | (simp;done) | (simp;omega))
   ·refine ah rfl rfl (ad .nil rfl ?_);try dsimp only[aL,aJ,aD,aR]
    exact⟨rfl,rfl⟩
end Go.X.Kn
