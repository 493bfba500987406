import Derived.Test.YthdinakloheinaaGreatDoorkJO
import Derived.Shelf.Strings.Split
set_option linter.all false
set_option maxRecDepth 20000
set_option maxHeartbeats 16000000
namespace Go.X.Kn
open Go Go.X Go.X.Fa Go.X.Sg Go.X.Sp Go.X.Tr Go.X.Vm
variable{aU:Bool}{T i n p z:Int}{aK:Int->Nat}
theorem Pg{v:VB}{f:Nat->Vm.MS}{k z c:Nat}(h:Vm.Sys v f k)(hz:z<k)(hc:c<k)(gJ:c≠z)(hn:f c=Vm.MS.nil)(hk:k<=60):Vm.Sys (v.jo (f z)) (bD (bD f z (f z).bare) c (f z).bare) k:=by
 have hm:=h.mo z hz;have hb:(f z).bare.Ok:=⟨hm.f,hm.lo,hm.un,fun _ _=>rfl,hm.inj⟩;have e0:∀ g:Int,0<=g->cM (fun _:Int=>(0:Int)) g 16=0:=fun g hg=>by
  have iZ:∀ j,cM (fun _:Int=>(0:Int)) g j=0:=fun j=>by
   induction j with
   | zero=>rfl
   | succ j ih=>rw[cM,ih,if_neg og];rfl
  simp_all
 refine⟨(h.jM.jo hm fun g a b=>⟨BQ f g hz,by have:=OO f g k;show vI f g k<=1000;omega⟩).congr fun g a b=> ?_,fun j hj=> ?_⟩
 ·have e1:(bD f z (f z).bare) c=Vm.MS.nil:=by rw[iu _ _ gJ];exact hn
  rw[show bD (bD f z (f z).bare) c (f z).bare=Vm.bD (Vm.bD f z (f z).bare) c (f z).bare from rfl];rw[tZ _ g hc,tZ f g hz,show Vm.bD f z (f z).bare c=Vm.MS.nil from e1];show _=vI f g k-cM (f z).fr g 16+cM (f z).fr g 16-cM (fun _:Int=>(0:Int)) g 16+cM (f z).fr g 16;simp_all
 ·show(bD (bD f z (f z).bare) c (f z).bare j).Ok;by_cases e:j=c
  ·grind [bD]
  ·rw[iu _ _ e];by_cases e2:j=z
   ·grind [bD]
   ·rw[iu _ _ e2];exact h.mo j hj
def KA.free(a:KA):Int:=match dW (fun k=>decide ((a.u k).st=0)) 20 with
 | some k=>k
 | none=>20
def KA.qW{a:KA}{c:Int}(h0:0<=c/\c<20)(h1:(a.u c).st=0)(h2:∀ j:Int,0<=j->j<c->(a.u j).st≠0):a.free=c:=by
 unfold KA.free;rw[fw (k:=c) (m:=20) h0.1 og (decide_eq_true h1) fun j j0 j1=>decide_eq_false (h2 j j0 j1)];grind
theorem KA.DD{a:KA}(h:∀ j:Int,0<=j->j<20->(a.u j).st≠0):a.free=20:=by
 grind [KA.free,fx]
def KA.free_spec(a:KA):a.free=20\/((0<=a.free/\a.free<20)/\(a.u a.free).st=0):=by
 grind [KA.free,dW]
def Gh(f:Int->Int)(O:Tr.OS):Nat->Tr.OS
 | 0=>O
 | k+1=>if f (k:Int)>0 then mj (Gh f O k) (f (k:Int)-1)else Gh f O k
theorem Rn{f:Int->Int}(O:Tr.OS)(hi:0<=i)(h:f i>0):Gh f O (i+1).toNat=mj (Gh f O i.toNat) (f i-1):=by
 rw[show(i+1).toNat=i.toNat+1 by omega];grind [Gh]
theorem M2{f:Int->Int}(O:Tr.OS)(hi:0<=i)(h:¬f i>0):Gh f O (i+1).toNat=Gh f O i.toNat:=by
 rw[show(i+1).toNat=i.toNat+1 by omega];grind [Gh]
def AL{f:Int->Int}{O:Tr.OS}{T:Int}(h:O.Inv T):∀ k:Nat,(Gh f O k).Inv (T+k)
 | 0=>by have:=h;simpa [Gh]using this
 | k+1=>by
  have h1:=AL (f:=f) h k;unfold Gh;split
  ·have:=h1.MK (f (k:Int)-1);grind
  ·exact h1.mono og
def KA.sz(a:KA)(n:Int):Int:=(a.s.bZ n).1
def KA.gk(a:KA)(n:Int):Int:=(a.f n.toNat).gk
def KA.gC(a:KA)(n:Int):Gr.TG:=a.g.bI (a.u n).cO 1 (a.gk n)
def KA.gE(a:KA)(n:Int):Int:=a.g.dJ (a.u n).cO 1 (a.gk n)
def KA.inE(a:KA)(n:Int)(aU:Bool):Int:=if aU then(a.s.add a.aK (a.sz n)).2.1 else 0
def KA.xj(a:KA)(n:Int)(aU:Bool):Int:=if aU then(a.s.add a.aK (a.sz n)).1 else a.sz n
def KA.sA(a:KA)(n:Int)(aU:Bool):Sp.SS:=if aU then(a.s.add a.aK (a.sz n)).2.2 else a.s
def KA.dA(a:KA)(n:Int)(aU:Bool):Int->Nat:=if aU then a.s.WE a.aK (a.sz n)else a.aK
def KA.J1(a:KA)(n:Int):PA:=⟨1,n,(a.u n).cO,0,(a.u n).fd,(a.u n).bx.aW⟩
def KA.cS(a:KA)(n:Int)(aU:Bool):KA:=
 {u:=ad a.u a.free (a.J1 n),g:=a.gC n,s:=((a.sA n aU).enter (a.dA n aU) (a.xj n aU) a.free).2.2,aK:=a.dA n aU,v:=a.v.jo (a.f n.toNat),f:=bD (bD a.f n.toNat (a.f n.toNat).bare) a.free.toNat (a.f n.toNat).bare,P:=a.P,O:=Gh (a.u n).fd a.O 6}
def KA.mH(a:KA)(n:Int)(aU:Bool):Int:=if a.aF n≠0 then a.aF n else if a.free=20 then 4 else if a.gE n≠0 then a.gE n else a.inE n aU
def KA.gH(a:KA)(n:Int)(aU:Bool):KA:=if a.aF n≠0\/a.free=20\/a.gE n≠0 then a else
 if a.inE n aU≠0 then {a with g:=(a.gC n).eb (a.u n).cO 1 (a.gk n)} else a.cS n aU
def KA.nk(a:KA)(n:Int)(aU:Bool):Int:=if a.mH n aU=0 then((a.cS n aU).s.js a.free (a.sz n)).1 else 0
theorem zc{g:Gr.TG}{m:Int}(h:g.dJ n p m≠0):g.bI n p m=g:=if_neg h
def M3(x:BS):x.aW.first 0=0:=by
 rfl
def SS.Inv.is0{s:Sp.SS}(h:s.Inv aK)(hp:0<=p/\p<20)(hl:0<=s.loc p):s.bZ p=(s.loc p,0)/\s.is (s.loc p)=0/\(0<=s.loc p/\s.loc p<6)/\s.aa (s.loc p)=true:=by
 have h1:=h.loc p;have h2:=h.at_ p hp.1 hp.2 hl;refine⟨by unfold Sp.SS.bZ;rw[if_neg og,if_neg og],?_,og,h2⟩;unfold Sp.SS.is;rw[if_neg og,if_pos h2]
theorem SS.Inv.Sk{s:Sp.SS}(h:s.Inv aK)(hn:0<=n/\n<6/\s.aa n=true)(hp:0<=p/\p<20)(hl:¬ 0<=s.loc p){q:Int}(hw:0<=s.b8 z q):(s.fI aK n p).b8 z q=s.b8 z q:=by
 obtain⟨e1,e2⟩:=wS p (s.cU aK n) s.b8 (Sp.SS.wR h.D _ n rfl hn.1 hn.2.1 hn.2.2) fun a _=>h.free hp hl a;show jg s.b8 p (s.cU aK n) z q=_;grind
structure KA.Dk (a:KA) (n:Int) (aU:Bool):Prop where
 jV:(0<=a.free/\a.free<20)/\(a.u a.free).st=0
 loc:¬ 0<=(a.sA n aU).loc a.free
 inv:(a.sA n aU).Inv (a.dA n aU)
 zr:0<=a.xj n aU/\a.xj n aU<6/\(a.sA n aU).aa (a.xj n aU)=true
 is:(a.sA n aU).is (a.xj n aU)=0
 lo:(a.sA n aU).loc=a.s.loc
 b8:(a.sA n aU).b8=a.s.b8
 d0:a.dA n aU 0=a.aK 0
 en:(a.cS n aU).s=(a.sA n aU).fI (a.dA n aU) (a.xj n aU) a.free
 z:0<=a.sz n/\a.sz n<6/\a.s.aa (a.sz n)=true
 cU:a.sz n∈(a.sA n aU).cU (a.dA n aU) (a.xj n aU)
 hr:∀ y,a.s.aa y=true->(a.sA n aU).aa y=true
def KA.Wk.fkI{a:KA}(w:a.Wk T)(hh:a.s.aa 0=true)(hl:a.aF n=0)(hf:a.free≠20)(hE:a.inE n aU=0):a.Dk n aU:=by
 obtain⟨hn,hs⟩:=bE hl;have Fj:=a.free_spec.resolve_left hf;have h1:=(w.lc n hn.1 hn.2).1 og;obtain⟨i1,i2,i3,i4⟩:=SS.Inv.is0 w.sI hn h1;have ez:a.sz n=a.s.loc n:=by unfold KA.sz;rw[i1]
 have LW:¬ 0<=a.s.loc a.free:=fun q=>((w.lc _ Fj.1.1 Fj.1.2).2 q) Fj.2;cases aU with
 | false=>
  have e1:a.sA n false=a.s:=rfl;have e2:a.dA n false=a.aK:=rfl;have e3:a.xj n false=a.s.loc n:=ez;refine⟨Fj,LW,w.sI,by rw[e3];exact⟨i3.1,i3.2,i4⟩,by rw[e3];exact i2,rfl,rfl,rfl,?_,by rw[ez];exact⟨i3.1,i3.2,i4⟩,?_,fun y q=>q⟩
  ·show(a.s.enter a.aK (a.xj n false) a.free).2.2=_;rw[e3,Sp.SS.zM i2 og LW];rfl
  ·rw[ez,e3];show _∈a.s.cU a.aK (a.s.loc n);unfold Sp.SS.cU;obtain⟨d1,_,_⟩:=w.sI.D.d _ i3.1 i3.2 i4;obtain⟨k,hk⟩:∃ k,a.aK (a.s.loc n)=k+1:=⟨a.aK (a.s.loc n)-1,og⟩;rw[hk];exact .head _
 | true=>
  have hE:(a.s.add a.aK (a.sz n)).2.1=0:=hE;rcases a.s.pJ a.aK (a.sz n)with⟨q,_,_⟩ | ⟨k,q1,q2,q3,q4,q5⟩
  ·omega
  ·have e1:a.sA n true= {a.s with aa:=ad a.s.aa k true,aA:=ad a.s.aA k (a.sz n)} :=by show(a.s.add a.aK (a.sz n)).2.2=_;rw[q5]
   have e2:a.dA n true=ad a.aK k (a.aK (a.sz n)+1):=by show a.s.WE a.aK (a.sz n)=_;unfold Sp.SS.WE;rw[if_pos hE,q5]
   have e3:a.xj n true=k:=by show(a.s.add a.aK (a.sz n)).1=k;rw[q5]
   have hkh:(a.sA n true).aa k=true:=by rw[e1];exact ah _ _ _
   have ym:(a.sA n true).is k=0:=by unfold Sp.SS.is;rw[if_neg og,if_pos hkh]
   have aiS:¬ 0<=(a.sA n true).loc a.free:=by rw[e1];exact LW
   have hk0:(0:Int)≠k:=by rintro rfl;rw[hh]at q4;cases q4
   have hkz:a.sz n≠k:=by rintro e;rw[ez]at e;rw[e,q4]at i4;cases i4
   refine⟨Fj,aiS,w.sI.add _,by rw[e3];exact⟨q3.1,q3.2,hkh⟩,by rw[e3];exact ym,by rw[e1],by rw[e1],by rw[e2,ae _ _ hk0],?_,by rw[ez];exact⟨i3.1,i3.2,i4⟩,?_,fun y q=> ?_⟩
   ·show((a.sA n true).enter (a.dA n true) (a.xj n true) a.free).2.2=_;rw[e3,Sp.SS.zM ym og aiS]
   ·rw[e3,e2,e1];unfold Sp.SS.cU;rw[ah];refine .tail _ ?_;show a.sz n∈Sp.SS.jW _ (a.aK (a.sz n)) (ad a.s.aA k (a.sz n) k);rw[ah];obtain⟨d1,_,_⟩:=w.sI.D.d _ i3.1 i3.2 i4;obtain⟨j,hj⟩:∃ j,a.aK (a.sz n)=j+1:=⟨a.aK (a.sz n)-1,by rw[ez];omega⟩;rw[hj];exact .head _
   simp_all[ad]
theorem KA.Dk.AM{a:KA}(h:a.Dk n aU):(a.cS n aU).s.loc=ad a.s.loc a.free (a.xj n aU):=by
 rw[h.en];show ad (a.sA n aU).loc a.free (a.xj n aU)=_;rw[h.lo]
theorem KA.Dk.AN{a:KA}(h:a.Dk n aU):(a.cS n aU).s.aa=(a.sA n aU).aa:=by rw[h.en];rfl
theorem KA.Dk.fq{a:KA}(h:a.Dk n aU){q:Int}(hw:0<=a.s.b8 z q):(a.cS n aU).s.b8 z q=a.s.b8 z q:=by
 rw[h.en,SS.Inv.Sk h.inv h.zr h.jV.1 h.loc (by rw[h.b8];exact hw),h.b8]
theorem KA.Dk.sI{a:KA}(h:a.Dk n aU):(a.cS n aU).s.Inv (a.dA n aU):=by rw[h.en];exact h.inv.fI h.zr h.jV.1 h.loc
theorem KA.Dk.js{a:KA}{n:Int}{aU:Bool}(h:a.Dk n aU):((a.cS n aU).s.js a.free (a.sz n)).2=0/\(a.cS n aU).s.b8 (a.sz n) ((a.cS n aU).s.js a.free (a.sz n)).1=a.free/\1<=((a.cS n aU).s.js a.free (a.sz n)).1/\((a.cS n aU).s.js a.free (a.sz n)).1<=20:=by
 have hI:=h.sI;have hl:(a.cS n aU).s.loc a.free=a.xj n aU:=by rw[h.AM,ah]
 have me:(a.cS n aU).s.cU (a.dA n aU) (a.xj n aU)=(a.sA n aU).cU (a.dA n aU) (a.xj n aU):=by
  rw[h.en];exact Sp.SS.nN (s:=a.sA n aU) (s':=(a.sA n aU).fI (a.dA n aU) (a.xj n aU) a.free) rfl _ _
 obtain⟨q,hq⟩:=hI.has a.free h.jV.1.1 h.jV.1.2 (by rw[hl];exact h.zr.1) (a.sz n) (by rw[hl,me];exact h.cU);have hzh:(a.cS n aU).s.aa (a.sz n)=true:=by rw[h.AN];exact h.hr _ h.z.2.2
 have ym:(a.cS n aU).s.is (a.sz n)=0:=by unfold Sp.SS.is;rw[if_neg (by have:=h.z;omega),if_pos hzh]
 obtain⟨_,q2,q3,_⟩:=hI.mem _ q a.free h.jV.1.1 hq;have e:(a.cS n aU).s.js a.free (a.sz n)=(q,0):=Sp.SS.Ep ym (by have:=h.jV;omega) og hq (fun j j0 j1 e=>by
  have:=hI.inj (a.sz n) q j (by rw[hq];exact h.jV.1.1) (e.trans hq.symm)
  omega)
 grind
theorem KA.Ok.cS{a:KA}{T:Int}(h:a.Ok T)(hT:T<=900000){n:Int}{aU:Bool}(hl:a.aF n=0)(hf:a.free≠20)(hE:a.inE n aU=0):(a.cS n aU).Ok (T+10):=by
 have w:=h.wk;have hI:=w.fkI (SS.Inv.jK w.sI h.r0.loc) hl hf hE;have NM:=hI.jV.1;obtain⟨hn,hs⟩:=bE hl;have gJ:n≠a.free:=by rintro e;have:=hI.jV.2;rw[<-e,hs]at this;exact absurd this dq
 have hu:∀ m,m≠a.free->(a.cS n aU).u m=a.u m:=fun m hm=>ae _ _ hm;have Ui:(a.cS n aU).u a.free=a.J1 n:=ah _ _ _;have aaE:a.f a.free.toNat=Vm.MS.nil:=w.ud _ hI.jV.1.1 hI.jV.1.2 (by rw[hI.jV.2];decide);refine⟨⟨⟨by have:=w.T0;omega,og⟩,w.gI.bI _ _ _,(w.gS.bI w.gI.ok _ _ _).mono og,hI.sI,?_,fun m a0 a1 q=> ?_,w.PI.mono og,(AL w.OI 6).mono og,fun m a0 a1=> ?_,fun m=> ?_,fun m hm=> ?_,fun m i=> ?_,fun m=> ?_⟩,fun p h0 h1 _ h3=> ?_,⟨?_,?_,?_⟩,hI.d0.trans h.d0⟩
 ·grind [Pg,KA.Wk.sys,KA.cS]
 ·by_cases e:m=a.free
  ·subst e;rw[Ui]at q;exact absurd rfl q
  ·rw[hu m e]at q;show bD (bD a.f n.toNat _) a.free.toNat _ m.toNat=_;grind [iu,KA.Wk.ud]
 ·rw[hI.AM];by_cases e:m=a.free
  ·subst e;rw[Ui,ah];exact⟨fun _=>hI.zr.1,fun _=>(by decide:(1:Int)≠0)⟩
  grind [ae,KA.Wk.lc]
 ·by_cases e:m=a.free
  ·subst e;rw[Ui];exact .inr (.inl rfl)
  grind [KA.Wk.st]
 ·grind [KA.Wk.out]
 ·by_cases e:m=a.free
  ·subst e;rw[Ui];exact w.fd n i
  ·rw[hu m e];exact w.fd m i
 ·by_cases e:m=a.free
  ·subst e;rw[Ui];rfl
  grind [KA.Wk.bx]
 ·by_cases e:p=a.free
  ·subst e;rw[Ui];exact .inl (M3 _)
  ·rw[hu p e]at h3 ⊢;rw[hI.AM,ae _ _ e];rcases h.hx p h0 h1 og h3 with q | q;all_goals grind [KA.Dk.fq]
 ·grind [KA.Dk.jV,KA.Ok.r0,KA.R0.st]
 ·rw[hI.AM,ae _ _ (by rintro e;have:=hI.jV.2;rw[<-e,h.r0.st]at this;exact absurd this dq)];exact h.r0.loc
 grind [KA.Dk.fq,KA.Ok.r0,KA.R0.b8]
def KA.Wk.J2{a:KA}{T':Int}(w:a.Wk T)(hT:T<=T')(Uc:T'<=1000000){g:Gr.TG}(hg:g.Inv)(hS:g.cb (1000*T')):({a with g:=g} :KA).Wk T':=⟨⟨by have:=w.T0;omega,Uc⟩,hg,hS,w.sI,w.sys,w.ud,w.PI.mono hT,w.OI.mono hT,w.lc,w.st,w.out,w.fd,w.bx⟩
def KA.Ok.J2{a:KA}{T T':Int}(h:a.Ok T)(hT:T<=T')(Uc:T'<=1000000){g:Gr.TG}(hg:g.Inv)(hS:g.cb (1000*T')):({a with g:=g} :KA).Ok T':=⟨h.wk.J2 hT Uc hg hS,h.hx.same (fun _=>⟨rfl,rfl⟩) rfl,h.r0.same rfl rfl,h.d0⟩
theorem KA.Ok.jo{a:KA}(h:a.Ok T)(hT:T<=900000)(n:Int)(aU:Bool):(a.gH n aU).Ok (T+10):=by
 unfold KA.gH;split
 ·grind [KA.Ok.up]
 ·rename_i c;split
  ·exact h.J2 og og ((h.wk.gI.bI _ _ _).eb _ _ _) (vU (h.wk.gI.bI _ _ _) ((h.wk.gS.bI h.wk.gI.ok _ _ _).mono og) _ _ _)
  grind [KA.Ok.cS]
structure WF where
 kids:Int
 aW:Int
 js:Int
 kJ:Int
def KA.dG(a:KA)(n:Int):Nat->WF
 | 0=>⟨0,-1,0,0⟩
 | k+1=>
  if(a.u (k:Int)).st=0\/(a.u (k:Int)).aA≠n then a.dG n k else
  if(a.s.js k (a.sz n)).2=0/\(a.u (k:Int)).st=2/\((a.dG n k).aW<0\/(a.s.js k (a.sz n)).1<(a.dG n k).js)then⟨(a.dG n k).kids+1,k,(a.s.js k (a.sz n)).1,(a.u (k:Int)).kJ⟩
  else⟨(a.dG n k).kids+1,(a.dG n k).aW,(a.dG n k).js,(a.dG n k).kJ⟩
def KA.nl(a:KA)(n:Int):Int:=if a.aF n≠0 then a.aF n else if(a.dG n 20).kids=0 then 2 else if(a.dG n 20).aW<0 then 8 else 0
def KA.eT(a:KA)(n:Int):KA:=if a.nl n=0 then(a.dD (a.dG n 20).aW).ea (a.sz (a.dG n 20).aW)else a
def KA.Fk(a:KA)(n:Int):Int:=if a.nl n=0 then(a.dG n 20).js else 0
def KA.Fl(a:KA)(n:Int):Int:=if a.nl n=0 then(a.dG n 20).kJ else 0
def KA.WI(a:KA)(n:Int)(x:WF)(k:Int):Prop:=(0<=x.kids/\x.kids<=k)/\(x.aW<0\/((0<=x.aW/\x.aW<k)/\(a.u x.aW).st=2/\(a.u x.aW).aA=n/\a.s.js x.aW (a.sz n)=(x.js,0)/\x.kJ=(a.u x.aW).kJ))
def KA.J3(a:KA)(n:Int):∀ k:Nat,a.WI n (a.dG n k) k
 | 0=>⟨⟨Int.le_refl _,Int.le_refl _⟩,.inl (by show(-1:Int)<0;omega)⟩
 | k+1=>by
  obtain⟨h1,h2⟩:=a.J3 n k;grind [KA.dG,KA.WI]
def pQ{a:KA}(h:a.nl n=0):a.aF n=0/\(0<=(a.dG n 20).aW/\(a.dG n 20).aW<20)/\(a.u (a.dG n 20).aW).st=2/\(a.u (a.dG n 20).aW).aA=n/\a.s.js (a.dG n 20).aW (a.sz n)=((a.dG n 20).js,0)/\(a.dG n 20).kJ=(a.u (a.dG n 20).aW).kJ:=by
 unfold KA.nl at h;split at h
 ·omega
 ·split at h
  ·omega
  ·split at h
   ·omega
   ·have:=(a.J3 n 20).2.resolve_left aq;simp_all
def KA.Ok.za{a:KA}{T:Int}(h:a.Ok T){m:Int}(hm:0<=m/\m<20)(hs:(a.u m).st=2):(a.dD m).Ok T:=
 ⟨h.wk.dD hm og,h.hx.dD,h.r0.za (by rintro rfl;have:=h.r0.st;omega),h.d0⟩
def KA.Ok.Pd{a:KA}{T:Int}(h:a.Ok T)(z:Int):(a.ea z).Ok T:=⟨h.wk.ea z,h.hx.ea z,h.r0.Pd z,h.d0⟩
def KA.Ok.dc{a:KA}(h:a.Ok T)(n:Int):(a.eT n).Ok T:=by
 unfold KA.eT;split
 ·rename_i c;obtain⟨_,h2,h3,_⟩:=pQ c;exact(h.za h2 h3).Pd _
 omega
theorem Ro{a:KA}{b:KZ}{c c':KC}(w:a.Wk T)(hI:a.Dk n aU){nb:Nat}(hm:c'.mb=bD c.mb a.free.toNat nb){K:KP}(hu:K.u=(kp a b c).u)(hk:(K.gb=b.gb/\K.sb=b.sb/\K.qb=b.qb/\K.bb=b.bb)/\K.tb=b.tb/\K.pi=b.pi/\K.ob=b.ob)(hms:K.ms=(kp (a.cS n aU) b c').ms):K.put a.free ((kp a b c).gK n nb)=kp (a.cS n aU) b c':=by
 refine KP.ext (fun m=> ?_) hms hk;by_cases e:m=a.free
 ·subst e;rw[KP.uB];show _=(ad a.u a.free (a.J1 n) a.free).pu (c'.mb a.free.toNat);rw[ah,hm,ly];rfl
 ·rw[KP.BN _ _ e,hu];show(a.u m).pu (c.mb m.toNat)=(ad a.u a.free (a.J1 n) m).pu (c'.mb m.toNat);rw[ae _ _ e,hm];by_cases q:m.toNat=a.free.toNat
  ·have:=hI.jV;rw[w.out m og];rfl
  grind [bD]
theorem M4{a:KA}(hI:a.Dk n aU):ka (a.cS n aU)=He (ka a) a.free.toNat:=(xd fun _ _ _=>Iff.rfl).trans (Rm (p:=a.J1 n) hI.jV.1 (by decide:(1:Int)≠0))
def Yg{a:KA}(hI:a.Dk n false):mF (a.cS n false)=mF a:=by
 unfold mF;rw[hI.AN];rfl
theorem Uj{a:KA}(hI:a.Dk n true)(hE:(a.s.add a.aK (a.s.bZ n).1).2.1=0):mF (a.cS n true)=He (mF a) (a.s.add a.aK (a.s.bZ n).1).1.toNat:=by
 have h2:(a.sA n true).aa=ad a.s.aa (a.s.add a.aK (a.s.bZ n).1).1 true:=by
  show(a.s.add a.aK (a.s.bZ n).1).2.2.aa=_;rcases a.s.pJ a.aK (a.s.bZ n).1 with⟨q,_,_⟩ | ⟨k,_,_,_,_,q5⟩;all_goals simp_all
 have hz:=hI.zr;have hz:0<=(a.s.add a.aK (a.s.bZ n).1).1/\(a.s.add a.aK (a.s.bZ n).1).1<6:=⟨hz.1,hz.2.1⟩;funext j;rw[Bool.eq_iff_iff,kB,DG,DG,hI.AN,h2];grind [ah,ae]
theorem ln(F:Tr.FF)(n:Int):(F.dX n).roots=F.roots:=by unfold Tr.FF.dX;split<;>rfl
def CW:∀ (l:List MT) (F:Tr.FF),(AB F l).roots=F.roots
 | [],_=>rfl
 | m::r,F=>(CW r _).trans ((ln _ _).trans (ln _ _))
theorem uj(F:Tr.FF)(l:List MT)(r:WH):(Rk F l r).roots=F.roots:=(CW l _).trans (ln _ _)
theorem uk{s:Sp.SS}(h:(s.add aK p).2.1=0):(0<=(s.add aK p).1/\(s.add aK p).1<6)/\s.aa (s.add aK p).1=false/\(s.add aK p).2.2.aa=ad s.aa (s.add aK p).1 true:=by
 rcases s.pJ aK p with⟨q,_,_⟩ | ⟨k,_,_,h3,h4,q5⟩;all_goals simp_all
def afR{a:KA}(h:0<=z/\z<6)(hs:a.s.aa z=false):mF a z.toNat=false:=by
 grind [mF]
def Yh{a:KA}(h:0<=n/\n<20)(hs:(a.u n).st=0):ka a n.toNat=false:=by
 grind [ka]
theorem jm(a:KA)(n:Int)(h:0<=i):a.dG n (i+1).toNat=if(a.u i).st=0\/(a.u i).aA≠n then a.dG n i.toNat else if(a.s.js i (a.sz n)).2=0/\(a.u i).st=2/\((a.dG n i.toNat).aW<0\/(a.s.js i (a.sz n)).1<(a.dG n i.toNat).js)then⟨(a.dG n i.toNat).kids+1,i,(a.s.js i (a.sz n)).1,(a.u i).kJ⟩else⟨(a.dG n i.toNat).kids+1,(a.dG n i.toNat).aW,(a.dG n i.toNat).js,(a.dG n i.toNat).kJ⟩:=by
 rw[show(i+1).toNat=i.toNat+1 by omega];grind [KA.dG]
def cP.Yi{a:KA}{c:KC}{N:Nat}(h:cP a c N T)(hI:a.Dk n aU){q1 q2:SC}{d1:Int->Nat}{g w:Int}(h1:q1.toSF=c.q.toSF.uN a.free g w)(h2:q2.toSF=q1.toSF.gN d1 a.free true):∀ m,0<=m->m<20->q2.aa (10+m)=true->((a.cS n aU).u m).st=1:=fun m m0 m1 hm=>by
 have hm:q2.toSF.aa (10+m)=true:=hm;rw[h2,Fa.SF.sj,h1]at hm;show(ad a.u a.free (a.J1 n) m).st=1;by_cases e:m=a.free
 ·rw[e,ah];rfl
 ·rw[ae _ _ e];exact h.tk m m0 m1 ((Fa.SF.Hw hm).resolve_left e)
end Go.X.Kn

namespace Go.X.Kn
open Go Go.X Go.X.Vm
variable{T n:Int}
theorem KA.Wk.mem{a:KA}(w:a.Wk T)(hn:0<=n/\n<20)(hl:(a.u n).st=1){v:VB}{m:Vm.MS}(hs:Vm.Sys v (bD a.f n.toNat m) 20){g:Gr.TG}(hg:g.Inv)(hG:g.cb (1000*T)):({a with v:=v,f:=bD a.f n.toNat m,g:=g} :KA).Wk T:=
 ⟨w.T0,hg,hG,w.sI,hs,fun p a0 a1 q=>by
  show bD a.f n.toNat m p.toNat=_
  have:p≠n:=by rintro rfl;exact q hl
  rw[iu _ _ og];exact w.ud p a0 a1 q,w.PI,w.OI,w.lc,w.st,w.out,w.fd,w.bx⟩
theorem KA.Ok.mem{a:KA}{T:Int}(h:a.Ok T){n:Int}(c:a.aF n=0){v:VB}{m:Vm.MS}(hs:Vm.Sys v (bD a.f n.toNat m) 20){g:Gr.TG}(hg:g.Inv)(hG:g.cb (1000*T)):({a with v:=v,f:=bD a.f n.toNat m,g:=g} :KA).Ok T:=
 ⟨h.wk.mem (bE c).1 (bE c).2 hs hg hG,h.hx.same (fun _=>⟨rfl,rfl⟩) rfl,h.r0.same rfl rfl,h.d0⟩
def KA.rz(a:KA)(n f m:Int):Int:=if a.aF n≠0 then a.aF n else(a.f n.toNat).rz f m
def KA.Dm(a:KA)(n f m:Int)(w:Bool):KA:=if a.aF n≠0 then a else {a with v:=a.v,f:=bD a.f n.toNat ((a.f n.toNat).map f m w),g:=a.g}
theorem KA.Ok.map{a:KA}{T:Int}(h:a.Ok T)(n f m:Int)(w:Bool):(a.Dm n f m w).Ok T:=by
 unfold KA.Dm;split
 ·exact h
 ·rename_i c;have hn:=(bE (show a.aF n=0 by omega)).1;exact h.mem og (h.wk.sys.same og ((h.wk.sys.mo _ og).map _ _ _) (Vm.MS.W6 _ _ _ _).1) h.wk.gI h.wk.gS
def KA.lM(a:KA)(n f m:Int):Int:=if a.aF n≠0 then a.aF n else(a.f n.toNat).lM f m
def KA.uH(a:KA)(n f m:Int)(w:Bool):KA:=if a.aF n≠0 then a else {a with v:=a.v,f:=bD a.f n.toNat ((a.f n.toNat).mW f m w),g:=a.g}
theorem KA.Ok.mW{a:KA}{T:Int}(h:a.Ok T)(n f m:Int)(w:Bool):(a.uH n f m w).Ok T:=by
 unfold KA.uH;split
 ·exact h
 ·rename_i c;have hn:=(bE (show a.aF n=0 by omega)).1;exact h.mem og (h.wk.sys.same og ((h.wk.sys.mo _ og).mW _ _ _) (Vm.MS.Q3 _ _ _ _).1) h.wk.gI h.wk.gS
def KA.xo(a:KA)(n f m:Int):Int×Int×VB×Vm.MS:=(a.f n.toNat).dM a.v f m
def KA.nY(a:KA)(n f m:Int):Int:=if a.aF n≠0 then a.aF n else if(a.xo n f m).2.1≠0 then(a.xo n f m).2.1 else a.g.gD (a.u n).cO 0 (a.xo n f m).1
def KA.aP(a:KA)(n f m:Int):KA:=if a.aF n≠0 then a else {a with v:=(a.xo n f m).2.2.1,f:=bD a.f n.toNat (a.xo n f m).2.2.2,g:=if(a.xo n f m).2.1≠0 then a.g else a.g.eb (a.u n).cO 0 (a.xo n f m).1}
theorem KA.Ok.dM{a:KA}{T:Int}(h:a.Ok T)(n f m:Int):(a.aP n f m).Ok T:=by
 unfold KA.aP;split
 ·omega
 ·rename_i c;have hn:=(bE (show a.aF n=0 by omega)).1;refine h.mem og (h.wk.sys.dM og _ _) ?_ ?_
  ·split
   ·exact h.wk.gI
   ·exact h.wk.gI.eb _ _ _
  grind [KA.Ok.wk,KA.Wk.gS,vU,KA.Wk.gI]
def KA.Dn(a:KA)(z:Int):Nat->Int×Int
 | 0=>(-1,0)
 | k+1=>if 1<=k/\a.aF (k:Int)=0/\a.g.under (a.u (k:Int)).cO z=true/\(a.Dn z k).2<a.gk (k:Int)then((k:Int),a.gk (k:Int))else a.Dn z k
theorem pB(a:KA)(z:Int){i:Int}(h:1<=i):a.Dn z (i+1).toNat=if a.aF i=0/\a.g.under (a.u i).cO z=true/\(a.Dn z i.toNat).2<a.gk i then(i,a.gk i)else a.Dn z i.toNat:=by
 rw[show(i+1).toNat=i.toNat+1 by omega];grind [KA.Dn]
theorem Ih(a:KA)(z:Int):∀ k:Nat,(a.Dn z k).1= -1\/(1<=(a.Dn z k).1/\a.aF (a.Dn z k).1=0)
 | 0=>.inl rfl
 | k+1=>by
  unfold KA.Dn;split
  ·rename_i c;exact .inr ⟨by show(1:Int)<=(k:Int);omega,c.2.1⟩
  ·exact Ih a z k
def KA.gU(a:KA)(z:Int):Int:=(a.Dn z 20).1
def pC{a:KA}{z:Int}(h:¬a.gU z<0):1<=a.gU z/\a.aF (a.gU z)=0:=by
 grind [Ih,KA.gU]
def KA.iR(a:KA)(n:Int):Option Int:=a.g.iR (a.u n).cO 0 1
def KA.kF(a:KA)(n:Int):Nat->Int×KA
 | 0=>(6,a)
 | k+1=>if a.aF n≠0 then(6,a)else match a.iR n with
  | none=>(a.g.dJ (a.u n).cO 0 1,{a with v:=a.v,f:=a.f,g:=a.g.bI (a.u n).cO 0 1})
  | some z=>if a.gU z<0 then(6,a)else(a.db (a.gU z) 137).kF n k
def Ii{f g:Int->Bool}(h:∀ j,g j=true->f j=true):∀ k:Nat,Tr.fh g k<=Tr.fh f k
 | 0=>Int.le_refl _
 | k+1=>by
  unfold Tr.fh;have:=Ii h k;have h2:=h (k:Int);cases hg:g (k:Int)with
  | false=>simp;split<;>omega
  | true=>rw[h2 hg];simp;omega
def Rp{f g:Int->Bool}(h:∀ j,g j=true->f j=true){n:Int}(hf:f n=true)(hg:g n=false):∀ k:Nat,0<=n->n<k->Tr.fh g k<Tr.fh f k
 | 0,h0,h1=>og
 | k+1,h0,h1=>by
  unfold Tr.fh;by_cases e:(k:Int)=n
  ·have:=Ii h k;grind
  ·have:=Rp h hf hg k h0 og;grind
def KA.lvC(a:KA):Int:=Tr.fh (fun j=>decide ((a.u j).st=1)) 20
def M5(h p:Int):∀ (l:List Int) (a:KA),((l.foldl (KA.eN h) a).u p).st=1->(a.u p).st=1
 | [],_,q=>q
 | x::r,a,q=>by
  have q2:=M5 h p r (KA.eN h a x) q;by_cases e:p=x
  ·subst e;unfold KA.eN at q2;split at q2
   ·omega
   ·rw[show((if(a.u p).st=1 then a.cH p 0 else a).dD p).u p=PA.nil from ah _ _ _]at q2;exact absurd (show(0:Int)=1 from q2) dq
  grind [vW]
theorem Ph{a:KA}{co p:Int}(q:((a.db n co).u p).st=1):p≠n/\(a.u p).st=1:=by
 have q1:((a.gG n co).u p).st=1:=by
  grind [KA.db,KA.ko,gp,dE]
 have q2:((a.cH n co).u p).st=1:=by
  unfold KA.gG at q1;split at q1
  ·unfold KA.eH at q1;rw[E9]at q1;exact M5 n p _ _ q1
  omega
 grind [lX,ni]
def Uk{a:KA}{co:Int}(hn:0<=n/\n<20)(hl:(a.u n).st=1):(a.db n co).lvC<a.lvC:=by
 refine Rp (n:=n) (fun j q=> ?_) ?_ ?_ 20 hn.1 og;all_goals grind [Ph]
def KA.Rq(a:KA):0<=a.lvC/\a.lvC<=20:=Tr.Dv _ 20
def KA.cy(a:KA)(n:Int):Int×KA:=a.kF n 21
theorem KA.Ok.room{n:Int} :∀ (k:Nat) {a:KA} {T:Int},a.Ok T->T<=900000->((a.kF n k).2).Ok (T+1)/\((a.kF n k).1=0->(a.kF n k).2.aF n=0)
 | 0,a,T,h,hT=>⟨h.up og og,fun e=>absurd (show(6:Int)=0 from e) dq⟩
 | k+1,a,T,h,hT=>by
  unfold KA.kF;by_cases c:a.aF n≠0
  ·rw[if_pos c];exact⟨h.up og og,fun e=>absurd (show(6:Int)=0 from e) dq⟩
  ·rw[if_neg c];cases hz:a.iR n with
   | none=>exact⟨h.J2 og og (h.wk.gI.bI _ _ _) ((h.wk.gS.bI h.wk.gI.ok _ _ _).mono og),fun _=>by show a.aF n=0;omega⟩
   | some z=>
    show((if a.gU z<0 then((6:Int),a)else(a.db (a.gU z) 137).kF n k).2).Ok (T+1)/\_;by_cases d:a.gU z<0
    ·show _/\((if a.gU z<0 then((6:Int),a)else(a.db (a.gU z) 137).kF n k).1=0->_);rw[if_pos d];exact⟨h.up og og,fun e=>absurd (show(6:Int)=0 from e) dq⟩
    ·have hv:=pC d;have hl:=bE hv.2;have h2:=KA.Ok.room (n:=n) k (h.wk.B1 h.r0 h.d0 (show a.gU z≠0 by omega) hl.2 (h.hx.any _) 137) hT;simp only[if_neg d];exact h2
def KA.Ok.bI{a:KA}(h:a.Ok T)(hT:T<=900000)(n:Int):((a.cy n).2).Ok (T+1)/\((a.cy n).1=0->(a.cy n).2.aF n=0):=KA.Ok.room 21 h hT
structure TD where
 e:KA->Int
 A:KA->KA
 y:KA->Int
def KA.Z5(a:KA)(n:Int):KA:= {a with g:=a.g.eb (a.u n).cO 0 1}
def KA.iX(a:KA)(n x:Int)(w:Bool)(D:TD)(y0:Int):Int×KA×Int:=
 if a.aF n≠0 then(a.aF n,a,y0)else if(a.f n.toNat).tT x w=false then(10,a,y0)else
 if(a.f n.toNat).my x=true then
  if(a.cy n).1≠0 then((a.cy n).1,(a.cy n).2,y0)else
  (D.e (a.cy n).2,if D.e (a.cy n).2≠0 then(D.A (a.cy n).2).Z5 n else D.A (a.cy n).2,D.y (a.cy n).2)
 else(D.e a,D.A a,D.y a)
def KA.Cx(a:KA)(n x:Int):Int×Int×VB×Vm.MS:=(a.f n.toNat).load a.v x
def KA.mP(a:KA)(n x:Int):KA:= {a with v:=(a.Cx n x).2.2.1,f:=bD a.f n.toNat (a.Cx n x).2.2.2,g:=a.g}
def KA.sfR(a:KA)(n x y:Int):Int×VB×Vm.MS:=(a.f n.toNat).store a.v x y
def KA.sfA(a:KA)(n x y:Int):KA:= {a with v:=(a.sfR n x y).2.1,f:=bD a.f n.toNat (a.sfR n x y).2.2,g:=a.g}
def Z6(n x:Int):TD:=⟨fun a=>(a.Cx n x).2.1,fun a=>a.mP n x,fun a=>(a.Cx n x).1⟩
def sfD(n x y:Int):TD:=⟨fun a=>(a.sfR n x y).1,fun a=>a.sfA n x y,fun _=>y⟩
def KA.iy(a:KA)(n x:Int):Int×KA×Int:=a.iX n x false (Z6 n x) 0
def KA.gV(a:KA)(n x y:Int):Int×KA×Int:=a.iX n x true (sfD n x y) y
def KA.Ok.ld{a:KA}(h:a.Ok T)(c:a.aF n=0)(x:Int):(a.mP n x).Ok T:=by
 have hn:=(bE c).1;exact h.mem c (h.wk.sys.load (z:=n.toNat) og x) h.wk.gI h.wk.gS
def KA.Ok.sf{a:KA}(h:a.Ok T)(c:a.aF n=0)(x:Int){y:Int}(hy:0<=y/\y<256):(a.sfA n x y).Ok T:=by
 have hn:=(bE c).1;exact h.mem c (h.wk.sys.store (z:=n.toNat) og x y hy) h.wk.gI h.wk.gS
theorem KA.Ok.un{a:KA}(h:a.Ok T)(n:Int):(a.Z5 n).Ok T:=h.J2 og h.wk.T0.2 (h.wk.gI.eb _ _ _) (vU h.wk.gI h.wk.gS _ _ _)
def KA.Ok.Rr{a:KA}(h:a.Ok T)(hT:T<=900000){D:TD}(hD:∀ {b:KA} {S:Int},b.Ok S->b.aF n=0->(D.A b).Ok S)(x:Int)(w:Bool)(y0:Int):((a.iX n x w D y0).2.1).Ok (T+1):=by
 have h1:=h.up (T':=T+1) og og;have h2:=h.bI hT n;grind [KA.iX,KA.Ok.un]
theorem KA.Ok.load{a:KA}(h:a.Ok T)(hT:T<=900000)(n x:Int):((a.iy n x).2.1).Ok (T+1):=h.Rr hT (fun hb c=>hb.ld c x) x false 0
theorem KA.Ok.store{a:KA}(h:a.Ok T)(hT:T<=900000)(n x:Int){y:Int}(hy:0<=y/\y<256):((a.gV n x y).2.1).Ok (T+1):=h.Rr hT (fun hb c=>hb.sf c x hy) x true y
end Go.X.Kn

namespace Go.X.Kn
open Go Go.X
variable{T:Int}
def KA.nG(a:KA)(p w:Int):KA:=if w<1\/1000<w then a else {a with g:=a.g.add p}
def KA.B4(a:KA)(n:Int):KA:= {a with g:=a.g.eh n}
def KA.Ul(a:KA)(n p m:Int):KA:= {a with g:=a.g.ki n p m}
def KA.Ij(a:KA)(n z:Int):Int:=a.g.fl (a.u n).cO z 1 (a.gk n)
def KA.pd(a:KA)(n z:Int):KA:=if a.aF n≠0\/a.Ij n z≠0 then a else {a with u:=ad a.u n {a.u n with cO:=z},g:=a.g.move (a.u n).cO z 1 (a.gk n)}
theorem we(u:Int->PA)(n z p:Int):(ad u n {u n with cO:=z} p).st=(u p).st/\(ad u n {u n with cO:=z} p).bx=(u p).bx/\(ad u n {u n with cO:=z} p).fd=(u p).fd:=by
 grind [ad]
def KA.Ok.uM{a:KA}(h:a.Ok T)(p w:Int):(a.nG p w).Ok T:=by
 unfold KA.nG;split
 ·exact h
 ·exact h.J2 og h.wk.T0.2 (h.wk.gI.add p) (h.wk.gS.add (by have:=h.wk.T0;omega) p)
def KA.Ok.qa{a:KA}(h:a.Ok T)(n:Int):(a.B4 n).Ok T:=h.J2 og h.wk.T0.2 (h.wk.gI.eh n) (h.wk.gS.eh (by have:=h.wk.T0;omega) n)
def KA.Ok.Z7{a:KA}(h:a.Ok T)(n p m:Int):(a.Ul n p m).Ok T:=h.J2 og h.wk.T0.2 (h.wk.gI.ki n p m) (h.wk.gS.ki n p m)
theorem Yj{g:Gr.TG}{a b p m:Int}(h:g.fl a b p m≠0):g.move a b p m=g:=by
 unfold Gr.TG.move;unfold Gr.TG.fl at h;grind
def KA.Ok.Bf{a:KA}(h:a.Ok T)(hT:T<=900000)(n z:Int):(a.pd n z).Ok (T+1):=by
 unfold KA.pd;split
 ·grind [KA.Ok.up]
 ·rename_i c;have h1:=h.io (T':=T) (Int.le_refl _) h.wk.T0.2 (u:=ad a.u n {a.u n with cO:=z}) (O:=a.O) (P:=a.P) (fun p=>(we _ _ _ p).1) (fun p=>(we _ _ _ p).2.1) (fun p hp=>by
   have hl:a.aF n=0:=jw
   have:=(bE hl).1
   rw[ae _ _ og];exact h.wk.out p hp) (fun p i=>by rw[(we _ _ _ p).2.2];exact h.wk.fd p i) h.wk.OI h.wk.PI
  exact h1.J2 og og (h.wk.gI.move _ _ _ _) ((h.wk.gS.move h.wk.gI.ok _ _ _ _).mono og)
end Go.X.Kn

namespace Go.X.Tr
open Go Go.Shelf Go.RowKit Go.Lib Go.Proofs Go.X
section
variable{P:Program}{ρ:Ren}
set_option maxHeartbeats 1000000 in def Um(L:Lays.n146 P ρ)(hi9:(P.info? (ρ.t 9)).map (fun i=>(i.zero,i.size,i.bytes))=some (some (.string ByteArray.empty),1,16))(s:ByteArray)(w:World)(hs:s.size<4294967281):Calls P (ρ.f 146) #[.string s,.string ⟨#[47]⟩] w fun e w'=>e= .returned (.slice (some ⟨w.heap.size,0,none⟩) (countB s iW+1) (countB s iW+1))/\w'=w.alloc (.cells ((splitB iW 0 (countB s iW) s).map Value.string).toArray (ρ.t 9)):=by
 have h1:1<=iW.size:=dq;have hle:=Lib.countB_le iW h1 s.size s (Nat.le_refl _);have hlen:=Lib.splitB_all iW h1 0 _ s rfl;have c:=Any.strings_genSplit_core {L with} hi9 s iW 0 (-1) (countB s iW+1) w hs h1 (Nat.zero_le _)
  (fun x c _=>(Any.strings_Index_one {L with} x 47 _).mono fun e w' ⟨he,hw⟩=>⟨by rw[he];show _=Ending.returned (Value.int .i64 (Lib.index x.data.toList [47]));rw[Lib.index_one],hw⟩)
  ((Any.strings_Count_one {L with} s 47 w).mono fun e w' ⟨he,hw⟩=>⟨by
   rw[he]
   show _=Ending.returned (Value.int .i64 ((Lib.count s.data.toList [47]:Nat):Int))
   rw[Lib.count_one]
   rfl,hw⟩)
  dq dq (by rw[if_pos dq];omega)
 rw[Nat.add_sub_cancel,hlen]at c;have e2:Lib.cellsOf (Lib.splitB iW 0 (Lib.countB s iW) s) (Lib.countB s iW+1)=((Lib.splitB iW 0 (Lib.countB s iW) s).map Value.string).toArray:=by rw[<-hlen];exact Lib.cellsOf_full _
 rw[e2]at c;have t3:=L.t3;have t9:=L.t9;have t31:=L.t31;have a3:=L.a3;have a9:=L.a9;have a31:=L.a31;have z3:=L.z3;have v3:=L.v3;have z9:=L.z9;have v9:=L.v9;have z31:=L.z31;have v31:=L.v31;have aoM:∀ args w,(callFunc (ρ.f 221) args).run P w= .ok (.enter (ρ.f 221) args) w:=enters_of L.f221 kq rfl;go_enter L.f146,Body.n146_ntmps ρ;go_wp2_with (go_at_fn (ρ.f 221);refine c.mono ?_;rintro e w' ⟨rfl,hw⟩;rw[hw]);go_ret;simp_all
theorem Fo(s:ByteArray):(eM s).length=countB s iW+1:=Lib.splitB_all iW dq 0 _ s rfl
theorem zd(s:ByteArray):(eM s).length<=s.size+1:=by
 have:=Lib.countB_le iW dq s.size s (Nat.le_refl _);grind [Fo]
def Pj(L:Lays.n146 P ρ)(hi9:(P.info? (ρ.t 9)).map (fun i=>(i.zero,i.size,i.bytes))=some (some (.string ByteArray.empty),1,16))(s:ByteArray)(hs:s.size<=1000000):Spec P (ρ.f 146) [.string s,.string ⟨#[47]⟩] [] (fun v H1=>∃ b,v= .slice (some ⟨b,0,none⟩) (eM s).length (eM s).length/\H1=[kR (some ⟨b,0,none⟩) (eM s).length (ρ.t 9) (eM s)]):=by
 intro w hw;refine(Um L hi9 s w og).mono fun ee w' ⟨he,er⟩=>⟨_,_,he,⟨w.heap.size,by rw[Fo],rfl⟩,rfl,?_⟩;subst er;have hc:=zd s;refine(lK hw).fresh (fun b o D1=>by simp only[aG.gL,Value.ownBlock,Option.some.injEq]at D1;omega) (kO w _ _) (⟨by simp[strs],.inr ⟨w.heap.size,_,_,rfl,Nat.zero_le _,heap_alloc_new w _,Nat.le_refl _,by simp only[maxLen];omega,?_,?_⟩⟩);all_goals grind [eM,strs,List.take_of_length_le]
end
def Ik:∀ (k:Nat) (s:ByteArray),∀ x∈splitB iW 0 k s,x.size<=s.size
 | 0,s,x,h=>by simp[splitB]at h;rw[h];exact Nat.le_refl _
 | k+1,s,x,h=>by
  unfold splitB at h;split at h
  ·simp at h;rw[h];exact Nat.le_refl _
  ·rcases List.mem_cons.1 h with h | h
   ·rw[h,ByteArray.size_extract];omega
   ·have:=Ik k _ x h;rw[ByteArray.size_extract]at this;omega
def Il(s:ByteArray){z:Int}(h:0<=z/\z<(eM s).length):(lr (eM s) z).size<=s.size:=by
 refine Ik (countB s iW) s _ ?_;grind [lr,eM]
def ze(x:ByteArray):(cB x).length<=x.size+1:=by
 grind [cB,zd,ByteArray.size_extract]
end Go.X.Tr

namespace Go.X.Kn
open Go Go.X Go.X.Tr
variable{B T n:Int}{d:Int->Nat}{c:KC}{F:Tr.FF}
def KA.Ok.tz{a:KA}(h:a.Ok T)(c:a.aF n=0):(0<=(a.s.bZ n).1/\(a.s.bZ n).1<6)/\a.s.aa (a.s.bZ n).1=true:=by
 obtain⟨hn,hs⟩:=bE c;obtain⟨e,_,r,hh⟩:=SS.Inv.is0 h.wk.sI hn ((h.wk.lc n hn.1 hn.2).1 og);simp_all
def AO(F:Tr.FF)(l:List MT)(r:WH)(x:ByteArray):(sF F l r x).size<=x.size:=by
 unfold sF;split
 ·exact Nat.zero_le _
 ·unfold oG cB;split
  ·by_cases h:0<(Tr.eM (x.extract 1 x.size)).length
   ·have h1:=Il (x.extract 1 x.size) (z:=((Tr.eM (x.extract 1 x.size)).length:Int)-1) ⟨og,og⟩;grind [ByteArray.size_extract]
   ·have e:Tr.eM (x.extract 1 x.size)=[]:=by cases hp:Tr.eM (x.extract 1 x.size)with
     | nil=>rfl
     | cons a b=>rw[hp]at h;simp at h
    rw[e];exact Nat.zero_le _
  ·exact Nat.zero_le _
theorem Fp(s:Tr.FF)(n:Int)(x:ByteArray)(k:Int):(s.make n x k).roots=s.roots:=by
 unfold Tr.FF.make;split<;>rfl
def J4(s:Tr.FF)(n:Int)(x:ByteArray):(s.eh n x).roots=s.roots:=by
 unfold Tr.FF.eh;split
 ·unfold Tr.FF.sD;split<;>rfl
 rfl
def Pm(s:Tr.FF)(k n:Int)(x:ByteArray):(s.EW k n x).roots=s.roots:=by
 unfold Tr.FF.EW;split<;>rfl
def Pn(s:Tr.FF)(d:Int->Nat)(n:Int)(x:ByteArray)(to:Int)(y:ByteArray):(s.move d n x to y).roots=s.roots:=by
 unfold Tr.FF.move;repeat' split
 all_goals rfl
def AP(s:Tr.FF)(O:Tr.OS)(n:Int):(uc s O n).roots=s.roots:=by
 unfold uc;split;all_goals grind [ln]
theorem cP.Po{a a':KA}{N:Nat}{T':Int}(h:cP a c N T){F:FC}(hF:F.toFF.Ok d T')(hT:T<=T')(hp:F.rP=c.F.rP)(hc:F.rC=c.F.rC)(hr:F.toFF.roots=c.F.toFF.roots)(e:a'.s=a.s:=by rfl)(hu:∀ n,(a.u n).st=1->(a'.u n).st=1:=by exact fun _ q=>q):cP a' {c with F:=F,dF:=d} N T':=
 ⟨h.qO.mono (Nat.le_refl _) og,h.qR,hF,hp.trans h.rp,hc.trans h.rc,hr.trans h.rl,fun z h0 h1 h2=>h.tb z h0 h1 (by rwa[e]at h2),fun n n0 n1 hn=>hu n (h.tk n n0 n1 hn)⟩
theorem Pp(a:KA)(b:KZ){e:KC}(h1:e.mb=c.mb)(h2:∀ z,(e.t z).b=(c.t z).b):kp a b e=kp a b c:=by grind [kp]
theorem Pq{t:Nat->TB}{z:Nat}{m:TB}(h:m.b=(t z).b):∀ y,(bD t z m y).b=(t y).b:=fun y=>by
 grind [bD]
def cP.tab{a:KA}{N:Nat}{T':Int}(h:cP a c N T){F:FC}{z:Nat}{m:TB}(hm:m.Ok)(hF:F.toFF.Ok c.dF T')(hp:F.rP=c.F.rP)(hc:F.rC=c.F.rC)(hr:F.toFF.roots=c.F.toFF.roots):cP a {c with F:=F,t:=bD c.t z m} N T':=
 ⟨h.qO.mono (Nat.le_refl _) og,h.qR,hF,hp.trans h.rp,hc.trans h.rc,hr.trans h.rl,fun y h0 h1 h2=>by
  show(bD c.t z m y.toNat).Ok
  by_cases e:y.toNat=z
  ·rw[e,ly];exact hm
  ·rw[iu _ _ e];exact h.tb y h0 h1 h2,h.tk⟩
def Un{l:List MT}(h:l.length<=6)(a z:WH):(qn F l a z).length<=6:=by
 unfold qn;split
 ·rename_i c;have:l.length≠6:=by
   intro q;unfold vR at c;omega
  grind
 omega
def M6{l:List MT}(h:l.length<=6)(w:WH):(om l w).length<=6:=by
 unfold om;rw[List.length_eraseIdx];split<;>omega
def M7(F:Tr.FF)(l:List MT)(a z:WH):(sG F l a z).roots=F.roots:=by
 unfold sG;split;all_goals grind [ln]
def G1(F:Tr.FF)(l:List MT)(w:WH):(qX F l w).roots=F.roots:=by
 unfold qX;split;all_goals grind [FF.nS]
def KA.Yk(a:KA)(n x:Int)(w:Bool):KA:= {a with u:=rG a.u n (a.jN n) (a.O.first+1),O:=a.O.lay a.O.first 1 x w,P:=a.P}
def KA.M8(a:KA)(n:Int)(a1:KA):Prop:=a1=a\/∃ x w,a.aF n=0/\(0<=a.jN n/\a.jN n<6)/\(0<=a.O.first/\a.O.first<24)/\a1=a.Yk n x w
theorem KA.Ok.opens{a a1:KA}(h:a.Ok T)(hT:T<=900000)(Yf:1<=T)(ho:a.M8 n a1):a1.Ok (T+1):=by
 rcases ho with rfl | ⟨x,w,hl,hs,hf,rfl⟩
 ·grind [KA.Ok.up]
 ·exact h.io og og (fun p=>(jI _ _ _ _ p).1) (fun p=>(jI _ _ _ _ p).2) (AI (bE hl).1 _ _ h.wk.out) (Fh og h.wk.fd) ((h.wk.OI.lay Yf _ _ _ _ (.inl rfl) fun q=>absurd rfl q).mono og) (h.wk.PI.mono og)
def Im{B':Int}(h:F.Ok d B)(O:Tr.OS)(n:Int)(hB:B+1<=B':=by omega):(uc F O n).Ok d B':=by
 unfold uc;split
 ·exact FF.Ok.up (h.dX n) hB
 grind [FF.Ok.up]
def NVs(x:NV):Prop:=((0<=x.aI/\x.aI<=2)/\ -1000000<=x.bO/\x.bO<=1000000)/\(0<=x.bu/\x.bu<=1000000)/\0<=x.size/\x.size<=100
def aiT(h:F.Ok d B)(hB:B<=1000000)(n:Int):NVs (F.Z3 n):=by
 unfold Tr.FF.Z3;split
 ·rename_i c;have hr:0<=n/\n<40:=by
   unfold Tr.FF.cQ at c;omega
  have h1:=(h.sh hB).num n hr.1 hr.2;have h2:=(h.sh hB).data n hr.1 hr.2;have h3:=(h.sh hB).jY n hr.1 hr.2;have h4:=h.inv.kinds n hr.1 hr.2;grind [NVs]
 ·exact⟨⟨⟨dq,dq⟩,dq,dq⟩,⟨dq,dq⟩,dq,dq⟩
theorem aiU:NVs NV.zero:=⟨⟨⟨dq,dq⟩,dq,dq⟩,⟨dq,dq⟩,dq,dq⟩
def ab1(h:F.Ok d B)(hn:F.cQ n 2=0):(F.aJ n).length<=8/\∀ x∈F.aJ n,x.size<=8:=by
 have hr:0<=n/\n<40:=by
  unfold Tr.FF.cQ at hn;omega
 exact⟨(h.inv.jY n hr.1 hr.2).2.2.1,fun x hx=>Tr.FF.MF (h.inv.OT n hr.1 hr.2 x hx)⟩
end Go.X.Kn

namespace Go.X.Kn
open Go Go.X
open Go.X.Vm
structure mJ where
 n:Int
 m:Int
 e:Int
 s:ByteArray
def mJ.c9(x:mJ):Array Value:= #[iI x.n,iI x.m,iI x.e,.string x.s]
def mJ.nil:mJ:=⟨0,0,0,⟨#[]⟩⟩
def df(x:mJ)(i:Nat):Value:=if i=0 then iI x.n else if i=1 then iI x.m else if i=2 then iI x.e else if i=3 then .string x.s else undef
abbrev f9(b0:Nat)(x:mJ):aG:=.cells b0 0 4 (df x)
theorem df.box(x:mJ):∀ i,i<4->cellsOf x.c9 i=df x i:=fun i h=>match i,h with
 | 0,_=>rfl
 | 1,_=>rfl
 | 2,_=>rfl
 | 3,_=>rfl
def df.ext{C:Nat->Value}{x:mJ}(h0:C 0=iI x.n)(h1:C 1=iI x.m)(h2:C 2=iI x.e)(h3:C 3= .string x.s)(h:∀ k,C (k+4)=undef):C=df x:=funext fun i=>match i with
 | 0=>h0
 | 1=>h1
 | 2=>h2
 | 3=>h3
 | k+4=>(h k).trans (by simp[df])
def df.agg(x:mJ):0+4<=4/\dB (df x) 0 4= .agg x.c9:=⟨og,rfl⟩
theorem df.st(y x:mJ):0+4<=4/\cY (df y) 0 x.c9.toList=df x:=⟨og,df.ext rfl rfl rfl rfl fun k=>by simp[cY,ep,mJ.c9,df]⟩
def df.uS(x:mJ):0+3<4/\df x (0+3)= .string x.s:=⟨og,rfl⟩
def fP(x:mJ)(v:Int):0+0<4/\ep (df x) (0+0) (iI v)=df {x with n:=v} :=by grind [ep,df]
def CX(x:mJ)(v:Int):0+1<4/\ep (df x) (0+1) (iI v)=df {x with m:=v} :=by grind [ep,df]
def CY(x:mJ)(v:Int):0+2<4/\ep (df x) (0+2) (iI v)=df {x with e:=v} :=by grind [ep,df]
def CZ(x:mJ)(v:ByteArray):0+3<4/\ep (df x) (0+3) (.string v)=df {x with s:=v} :=by grind [ep,df]
abbrev J5(x:jA):Array Value:= #[.string x.aI,iI x.a,iI x.b,iI x.c,.int .u64 x.iZ,.bool x.on,.string x.s,.string x.t]
def Rs(x:jA):∀ i,i<8->cellsOf (J5 x) i=gM x i:=fun i h=>match i,h with
 | 0,_=>rfl
 | 1,_=>rfl
 | 2,_=>rfl
 | 3,_=>rfl
 | 4,_=>rfl
 | 5,_=>rfl
 | 6,_=>rfl
 | 7,_=>rfl
def ab2(x:jA):0+8<=8/\dB (gM x) 0 8= .agg (J5 x):=⟨og,rfl⟩
def Io:ByteArray:=⟨#[102,111,114,107]⟩
def Ip:ByteArray:=⟨#[101,120,105,116]⟩
def Uo:ByteArray:=⟨#[117,110,109,97,112]⟩
def Iq:ByteArray:=⟨#[108,111,97,100]⟩
def B5:ByteArray:=⟨#[115,116,111,114,101]⟩
def Ir:ByteArray:=⟨#[116,105,99,107]⟩
def Up:ByteArray:=⟨#[108,105,109,105,116]⟩
def Is:ByteArray:=⟨#[106,111,105,110]⟩
def Uq:ByteArray:=⟨#[97,100,100]⟩
def Oth(k:ByteArray):Prop:=k∉[Io,Ip,Uo,Iq,B5,Ir,Up,Is,Uq]
def qE{x:jA}{k:ByteArray}(h:x.aI=k)(hd:k∉[Io,Ip,Uo,Iq,B5,Ir,Up,Is,Uq]:=by simp[Io,Ip,Uo,Iq,B5,Ir,Up,Is,Uq]):Oth x.aI:=by grind [Oth]
inductive KA.o3 (a:KA) (F:Tr.FF) (x:jA):KA->Prop
 | same:KA.o3 a F x a
 | dc:KA.o3 a F x (a.eT x.a)
 | nj:KA.o3 a F x (a.j9 x.a x.b x.c)
 | dX:KA.o3 a F x (a.mG x.a x.b x.on)
 | kt:KA.o3 a F x (a.B2 x.a x.b x.c)
 | take:KA.o3 a F x (a.qs x.a)
 | map:KA.o3 a F x (a.Dm x.a x.b x.c x.on)
 | mW:KA.o3 a F x (a.uH x.a x.b x.c x.on)
 | drop:KA.o3 a F x (a.B4 x.a)
 | It {a1:KA} (h:a.M8 x.a a1):KA.o3 a F x a1
 | close:KA.o3 a F x (a.gh x.a x.b)
 | Z4:KA.o3 a F x (a.zb x.a x.b)
 | Aw:KA.o3 a F x (a.o9 x.a)
 | mh:KA.o3 a F x (a.yi F x.a x.b x.c)
 | cC:KA.o3 a F x (a.nX F x.a x.b x.s)
 | GY:KA.o3 a F x (a.wc x.a x.b x.c)
inductive KA.sH (a:KA) (c c1:KC) (x:jA):KA->Int->Int->Prop
 | jo (h:x.aI=Io):KA.sH a c c1 x (a.gH x.a x.on) (a.nk x.a x.on) (a.mH x.a x.on)
 | exit (h:x.aI=Ip):KA.sH a c c1 x (a.fA x.a x.b) 0 (a.uG x.a x.b)
 | dM (h:x.aI=Uo):KA.sH a c c1 x (a.aP x.a x.b x.c) 0 (a.nY x.a x.b x.c)
 | load (h:x.aI=Iq):KA.sH a c c1 x (a.iy x.a x.b).2.1 (a.iy x.a x.b).2.2 (a.iy x.a x.b).1
 | store (h:x.aI=B5):KA.sH a c c1 x (a.gV x.a x.b (IntKind.u8.wrap x.c)).2.1 0 (a.gV x.a x.b (IntKind.u8.wrap x.c)).1
 | l8 (h:x.aI=Ir) (r:Int) (hr:r<0\/(0<=r/\r<20/\c1.q.aa (10+r)=true)):KA.sH a c c1 x a r 0
 | Z7 (h:x.aI=Up):KA.sH a c c1 x (a.Ul x.a x.b x.c) 0 (a.g.kU x.a x.b x.c)
 | Bf (h:x.aI=Is) (e:Int) (he:e=0->a.aF x.a=0/\a.Ij x.a x.b=0):KA.sH a c c1 x (a.pd x.a x.b) 0 e
 | add (h:x.aI=Uq) (n e:Int):KA.sH a c c1 x (a.nG x.a x.b) n e
 | qE (h:Oth x.aI) {a1:KA} (h1:a.o3 c.F.toFF x a1) (n e:Int):KA.sH a c c1 x a1 n e
theorem KA.o3.ok{a a1:KA}{F:Tr.FF}{x:jA}{T:Int}(h:a.Ok T)(hT:T<=800000)(Yf:1<=T)(hF:F.Sh)(s:a.o3 F x a1):a1.Ok (T+20):=by
 have u:∀ {b:KA},b.Ok T->b.Ok (T+20):=fun q=>q.up og og;have u1:∀ {b:KA},b.Ok (T+1)->b.Ok (T+20):=fun q=>q.up og og;cases s with
 | same=>exact u h
 | dc=>exact u (h.dc _)
 | nj=>exact u (h.nj _ _ _)
 | dX=>exact u (h.dX _ _ _)
 | kt=>exact u (h.kt _ _ _)
 | take=>exact u (h.take _)
 | map=>exact u (h.map _ _ _ _)
 | mW=>exact u (h.mW _ _ _ _)
 | drop=>exact u (h.qa _)
 | It q=>exact u1 (h.opens og Yf q)
 | close=>exact u (h.close _ _)
 | Z4=>exact u1 (h.Z4 og _ _)
 | Aw=>exact u1 (h.Aw og Yf _)
 | mh=>exact u1 (h.mh og hF _ _ _)
 | cC=>exact u1 (h.cC og _ _ _ _)
 | GY=>exact u1 (h.GY og _ _ _)
theorem KA.sH.ok{a a1:KA}{c c1:KC}{x:jA}{T n e:Int}(h:a.Ok T)(hT:T<=800000)(Yf:1<=T)(hF:c.F.toFF.Sh)(s:a.sH c c1 x a1 n e):a1.Ok (T+20):=by
 have u:∀ {b:KA},b.Ok T->b.Ok (T+20):=fun q=>q.up og og;have u1:∀ {b:KA},b.Ok (T+1)->b.Ok (T+20):=fun q=>q.up og og;cases s with
 | jo _=>exact(h.jo og _ _).up og og
 | exit _=>exact u (h.fA _ _)
 | dM _=>exact u (h.dM _ _ _)
 | load _=>exact u1 (h.load og _ _)
 | store _=>exact u1 (h.store og _ _ (Vm.Q8 _))
 | l8 _ _ _=>exact u h
 | Z7 _=>exact u (h.Z7 _ _ _)
 | Bf _ _ _=>exact u1 (h.Bf og _ _)
 | add _ _ _=>exact u (h.uM _ _)
 | qE _ q _ _=>exact q.ok h hT Yf hF
def Yl{k:ByteArray}(h1:k≠⟨#[102,111,114,107]⟩)(h2:k≠⟨#[101,120,105,116]⟩)(h3:k≠⟨#[117,110,109,97,112]⟩)(h4:k≠⟨#[108,111,97,100]⟩)(h5:k≠⟨#[115,116,111,114,101]⟩)(h6:k≠⟨#[116,105,99,107]⟩)(h7:k≠⟨#[108,105,109,105,116]⟩)(h8:k≠⟨#[106,111,105,110]⟩)(h9:k≠⟨#[97,100,100]⟩):Oth k:=by
 simp_all[Oth,Io,Ip,Uo,Iq,B5,Ir,Up,Is,Uq]
def KA.Ok.aiV{a:KA}{T:Int}(h:a.Ok T)(hT:T<=900000)(n x:Int):0<=(a.iy n x).2.2/\(a.iy n x).2.2<256:=by
 have iZ:∀ {b:KA} {S:Int},b.Ok S->0<=((Z6 n x).y b)/\((Z6 n x).y b)<256:=fun {b S} hb=>by
  show 0<=((b.f n.toNat).load b.v x).1/\((b.f n.toNat).load b.v x).1<256;by_cases e:((b.f n.toNat).cD b.v x false).2.1=0
  ·rw[Vm.MS.JD e];exact(VB.Ok.cD (m:=b.f n.toNat) hb.wk.sys.jM.ok x false).ja _ _
  ·rw[Vm.MS.EO e];exact⟨Int.le_refl 0,(by decide:(0:Int)<256)⟩
 unfold KA.iy KA.iX;repeat' split
 all_goals first
  | exact⟨Int.le_refl 0,(by decide:(0:Int)<256)⟩
  | exact iZ (h.bI hT n).1
  | exact iZ h
def Ym{l:List ByteArray}{z:Int}(h:0<=z/\z<l.length):lr l z∈l:=by
 grind [lr]
end Go.X.Kn

namespace Go.X.Kn
open Go Go.X Go.X.Sg Go.X.Sp
section
variable{s:Sp.SS}{aK:Int->Nat}
theorem rm(hD:s.Deep aK){x:Int}(h:(0<=x/\x<6)/\s.aa x=true):(s.aA x= -1/\aK x=1/\s.cU aK x=[x])\/(((0<=s.aA x/\s.aA x<6)/\s.aa (s.aA x)=true)/\aK x=aK (s.aA x)+1/\s.cU aK x=x::s.cU aK (s.aA x)):=by
 obtain⟨_,_,h3⟩:=hD.d x h.1.1 h.1.2 h.2;rcases h3 with⟨h4,h5⟩ | ⟨h4,h5,h6,h7⟩
 ·left;refine⟨h4,h5,?_⟩;unfold Sp.SS.cU;rw[h5];rfl
 ·right;refine⟨⟨⟨h4,h5⟩,h6⟩,h7,?_⟩;unfold Sp.SS.cU;rw[h7];rfl
def Fq(hD:s.Deep aK){x:Int}(h:(0<=x/\x<6)/\s.aa x=true):x∈s.cU aK x:=by
 rcases rm hD h with⟨_,_,e⟩ | ⟨_,_,e⟩<;>rw[e]<;>exact .head _
def AQ(hD:s.Deep aK):∀ (k:Nat) {x:Int},aK x=k->((0<=x/\x<6)/\s.aa x=true)->∀ y∈s.cU aK x,(((0<=y/\y<6)/\s.aa y=true)/\(y≠x->aK y<aK x))/\∀ z∈s.cU aK y,z∈s.cU aK x
 | 0,x,hk,h,_,_=>by have:=(hD.d x h.1.1 h.1.2 h.2).1;omega
 | k+1,x,hk,h,y,hy=>by
  rcases rm hD h with⟨_,_,e⟩ | ⟨h1,h2,e⟩
  ·simp_all
  ·rw[e]at hy;rcases List.mem_cons.1 hy with rfl | hy
   ·simp_all
   ·obtain⟨⟨h3,h4⟩,h5⟩:=AQ hD k (x:=s.aA x) og h1 y hy;grind
def Iu(hD:s.Deep aK){x y z:Int}(h:(0<=x/\x<6)/\s.aa x=true)(hy:y∈s.cU aK x)(hz:z∈s.cU aK y):z∈s.cU aK x:=(AQ hD _ rfl h y hy).2 z hz
def M9(hD:s.Deep aK){x y:Int}(h:(0<=x/\x<6)/\s.aa x=true)(hy:y∈s.cU aK x)(hx:x∈s.cU aK y):y=x:=by
 refine Decidable.byContradiction fun q=> ?_;obtain⟨⟨h1,h2⟩,_⟩:=AQ hD _ rfl h y hy;obtain⟨⟨_,h4⟩,_⟩:=AQ hD _ rfl h1 x hx;omega
def oH(s:Sp.SS)(z p:Int):Prop:=∃ q,s.b8 z q=p
def ks(h:s.Inv aK){z p:Int}(hp:0<=p):oH s z p↔p<20/\0<=s.loc p/\z∈s.cU aK (s.loc p):=
 ⟨fun ⟨q,e⟩=>by have:=h.mem z q p hp e;exact⟨this.1,this.2.2.2.1,this.2.2.2.2⟩,fun ⟨a,b,c⟩=>h.has p hp a b z c⟩
def Fs(h:s.Inv aK){p:Int}(hp:0<=p/\p<20)(hl:0<=s.loc p):(0<=s.loc p/\s.loc p<6)/\s.aa (s.loc p)=true:=⟨⟨hl,(h.loc p).2⟩,h.at_ p hp.1 hp.2 hl⟩
def Ur(h:s.Inv aK){p:Int}(hp:0<=p/\p<20)(hl:0<=s.loc p):oH s (s.loc p) p:=(ks h hp.1).2 ⟨hp.2,hl,Fq h.D (Fs h hp hl)⟩
def Pr(h:s.Inv aK){z p q:Int}(hp:0<=p)(hq:0<=q)(h1:oH s z q)(h2:oH s (s.loc q) p):oH s z p:=by
 obtain⟨_,_,a3⟩:=(ks h hq).1 h1;obtain⟨b1,b2,b3⟩:=(ks h hp).1 h2;exact(ks h hp).2 ⟨b1,b2,Iu h.D (Fs h ⟨hp,b1⟩ b2) b3 a3⟩
end
structure KA.Pw (a:KA):Prop where
 aA:∀ p,p≠0->(a.u p).st≠0->(a.u (a.u p).aA).st=1/\oH a.s (a.s.loc (a.u p).aA) p/\(a.s.b8 (a.s.loc p) 1=p->a.s.loc (a.u p).aA≠a.s.loc p)
 hd:∀ z,0<=z->z<6->a.s.aa z=true->0<=a.s.b8 z 1/\(a.u (a.s.b8 z 1)).st≠0/\a.s.loc (a.s.b8 z 1)=z/\((a.u (a.s.b8 z 1)).st=2->∀ p,0<=p->oH a.s z p->p=a.s.b8 z 1)
 zero:(a.u 0).aA= -1
theorem KA.Pw.same{a a':KA}(h:a.Pw)(hu:∀ p,(a'.u p).st=(a.u p).st/\(a'.u p).aA=(a.u p).aA)(hs:a'.s=a.s):a'.Pw:=by
 refine⟨fun p p0 q=> ?_,fun z z0 z1 hz=> ?_,by rw[(hu 0).2];exact h.zero⟩
 ·grind [KA.Pw.aA]
 ·rw[hs]at hz ⊢;rw[(hu _).1];exact h.hd z z0 z1 hz
theorem Yn(a:KA)(n m:Int)(x:BS):((a.jr n x).u m).aA=(a.u m).aA:=by
 grind [DH,xf]
theorem KA.Pw.box{a:KA}(h:a.Pw)(n:Int)(x:BS):(a.jr n x).Pw:=by grind [KA.Pw.same,gp,Yn,KA.jr]
theorem KA.Pw.gK{a:KA}(h:a.Pw)(p:Int):(a.ko p).Pw:=by
 grind [KA.ko,KA.Pw.box]
def J6(n:Int):∀ (l:List Int) (a:KA),l.Nodup->(∀ m∈l,(0<=m/\m<20)/\0<=a.s.loc m)->
  ((l.foldl (KA.eN n) a).s.aa=a.s.aa/\(l.foldl (KA.eN n) a).s.aA=a.s.aA)/\(∀ z q,(l.foldl (KA.eN n) a).s.b8 z q=if a.s.b8 z q∈l/\a.s.b8 z q≠n then-1 else a.s.b8 z q)/\(∀ p,p∉l\/p=n->(l.foldl (KA.eN n) a).s.loc p=a.s.loc p/\(l.foldl (KA.eN n) a).u p=a.u p)/\(∀ p,p∈l->p≠n->(l.foldl (KA.eN n) a).u p=PA.nil)
 | [],a,_,_=>⟨⟨rfl,rfl⟩,fun z q=>by rw[if_neg fun h=>by cases h.1];rfl,fun p _=>⟨rfl,rfl⟩,fun p h=>by cases h⟩
 | x::r,a,hn,hl=>by
  obtain⟨hx,hr⟩:=List.nodup_cons.1 hn;have q8:=hl x (.head _);by_cases e:x=n
  ·have e1:a.eN n x=a:=if_pos e;obtain⟨i1,i2,i3,i4⟩:=J6 n r a hr fun m hm=>hl m (.tail _ hm);grind
  ·have e1:(a.eN n x).s=a.s.left x:=by
    unfold KA.eN;rw[if_neg e];have k:(a.s.fL x).2=a.s.left x:=by
     unfold Sp.SS.fL Sp.SS.bZ;grind
    by_cases c:(a.u x).st=1
    ·rw[if_pos c];exact k
    ·rw[if_neg c];exact k
   have e2:∀ p,p≠x->(a.eN n x).u p=a.u p:=fun p hp=>vW a n hp;have e3:(a.eN n x).u x=PA.nil:=by unfold KA.eN;rw[if_neg e];exact ah _ _ _
   have GG:∀ m,m≠x->(a.eN n x).s.loc m=a.s.loc m:=fun m hm=>by rw[e1];exact ae _ _ hm
   have gJ:∀ m∈r,m≠x:=fun m hm q=>hx (q▸hm);obtain⟨i1,i2,i3,i4⟩:=J6 n r (a.eN n x) hr fun m hm=>by rw[GG m (gJ m hm)];exact hl m (.tail _ hm)
   have hw:∀ z q,(a.eN n x).s.b8 z q=if a.s.b8 z q=x then-1 else a.s.b8 z q:=fun z q=>by rw[e1];rfl
   rw[List.foldl_cons];refine⟨⟨i1.1.trans (by rw[e1];rfl),i1.2.trans (by rw[e1];rfl)⟩,fun z q=> ?_,fun p hp=> ?_,fun p hp SQ=> ?_⟩;all_goals grind
def Yo{s:Sp.SS}{aK:Int->Nat}(h:s.Inv aK){z p:Int}(hz:(0<=z/\z<6)/\s.aa z=true)(hp:0<=p):p∈(s.mem z).1↔oH s z p:=by
 constructor
 ·grind [y8,oH]
 ·rintro⟨q,e⟩;have hm:=h.mem z q p hp e;unfold Sp.SS.mem;have:s.is z=0:=by unfold Sp.SS.is;rw[if_neg og,if_pos hz.2]
  rw[if_neg og];exact lC.2 ⟨q,og,og,og,e⟩
structure pD(a b:KA):Prop where
 u:b.u=a.u
 b8:b.s.b8=a.s.b8
 loc:b.s.loc=a.s.loc
 aK:b.aK=a.aK
 aa:∀ y,b.s.aa y=true->a.s.aa y=true/\b.s.aA y=a.s.aA y
 fq:∀ y q,a.s.aa y=true->0<=q->q<21->0<=a.s.b8 y q->b.s.aa y=true
theorem pD.refl(a:KA):pD a a:=⟨rfl,rfl,rfl,rfl,fun _ h=>⟨h,rfl⟩,fun _ _ h _ _ _=>h⟩
def pD.trans{a b c:KA}(h:pD a b)(k:pD b c):pD a c:=
 ⟨k.u.trans h.u,k.b8.trans h.b8,k.loc.trans h.loc,k.aK.trans h.aK,fun y q=>⟨(h.aa y (k.aa y q).1).1,(k.aa y q).2.trans (h.aa y (k.aa y q).1).2⟩,fun y q a0 a1 a2 a3=>k.fq y q (h.fq y q a0 a1 a2 a3) a1 a2 (by rw[h.b8];exact a3)⟩
theorem pD.one(a:KA)(z:Int):pD a (a.ea z):=by
 rcases SS.uf a.s z with⟨_,e⟩ | ⟨_,hz,hz0,hh,e,hm,_⟩
 ·have:a.ea z=a:=by unfold KA.ea;rw[e]
  rw[this];exact pD.refl a
 ·refine⟨rfl,vY _ _,qY _ _,rfl,fun y hy=> ?_,fun y q a0 a1 a2 a3=> ?_⟩
  ·have hy:(a.s.drop z).2.aa y=true:=hy;refine⟨AE hy,?_⟩;show(a.s.drop z).2.aA y=_;rw[e]at hy ⊢;have hy:ad a.s.aa z false y=true:=hy;have:y≠z:=by rintro rfl;rw[ah]at hy;cases hy
   exact ae _ _ this
  ·show(a.s.drop z).2.aa y=true;rw[e];show ad a.s.aa z false y=true;have:y≠z:=by rintro rfl;rcases hm q with c | c<;>omega
   rw[ae _ _ this];exact a0
def xr:∀ (l:List Int) (a:KA),pD a (l.foldl KA.ea a)
 | [],a=>pD.refl a
 | x::r,a=>(pD.one a x).trans (xr r (a.ea x))
def pD.dS(a:KA):∀ k,pD a (a.dS k)
 | 0=>pD.refl a
 | k+1=>(pD.dS a k).trans (xr _ _)
def Iv{a:KA}{y:Int}(hy:0<y/\y<6)(hm:∀ q,a.s.b8 y q<0)(hk:∀ c,0<=c->c<6->a.s.aa c=true->a.s.aA c≠y):(a.ea y).s.aa y=false:=by
 by_cases h:a.s.aa y=true
 ·show(a.s.drop y).2.aa y=false;unfold Sp.SS.drop;have h1:a.s.is y=0:=by unfold Sp.SS.is;rw[if_neg og,if_pos h]
  have h2:¬(a.s.dY y).length>0:=by
   cases e:a.s.dY y with
   | nil=>simp
   | cons x r=>
    have hx:x∈eB (a.s.b8 y) 21:=by rw[show eB (a.s.b8 y) 21=a.s.dY y from rfl,e];exact .head _
    obtain⟨j,_,_,j2,_⟩:=lC.1 hx;have:=hm j;omega
  have h3:a.s.kids y=none:=by
   unfold Sp.SS.kids;grind [fx]
  rw[if_neg og,if_neg fun q=>q.elim og h2,h3];grind [ah]
 ·have h:a.s.aa y=false:=by simpa using h
  cases e:(a.ea y).s.aa y with
  | false=>rfl
  | true=>have:=((pD.one a y).aa y e).1;rw[h]at this;cases this
end Go.X.Kn

namespace Go.X.Kn
open Go Go.X
variable{T n p y:Int}
structure Us(a:KA)(z y:Int):Prop where
 aa:(0<=y/\y<6)/\a.s.aa y=true
 cU:z∈a.s.cU a.aK y
 ne:y≠z
def Us.pos{a:KA}(hD:a.s.Deep a.aK)(Ut:a.aK 0=1){z:Int}(h:Us a z y):0<y:=by
 have h1:=h.aa;refine Decidable.byContradiction fun q=> ?_;have e:y=0:=og;rcases rm hD h1 with⟨_,_,e2⟩ | ⟨h2,h3,_⟩
 ·have:=h.cU;rw[e2]at this;grind [Us.ne]
 ·have:=(hD.d _ h2.1.1 h2.1.2 h2.2).1;simp_all
def Iw{a:KA}{z:Int}(hD:a.s.Deep a.aK)(Ut:a.aK 0=1)(hB:∀ y,Us a z y->∀ q,a.s.b8 y q<0)(m:Nat):∀ (L:List Int) (b:KA),pD a b->(∀ y,Us a z y->b.s.aa y=true->a.aK y<=m)->∀ y,Us a z y->y∈L->a.aK y=m->(L.foldl KA.ea b).s.aa y=false
 | [],_,_,_,_,_,hm,_=>by cases hm
 | x::r,b,hs,hd,y,hy,hm,hdy=>by
  rw[List.foldl_cons];by_cases e:y=x
  ·subst e;have g:(b.ea y).s.aa y=false:=Iv ⟨hy.pos hD Ut,hy.aa.1.2⟩ (fun q=>by rw[hs.b8];exact hB y hy q) (fun c c0 c1 ch cp=>by
    obtain⟨k1,k2⟩:=hs.aa c ch
    rcases rm hD ⟨⟨c0,c1⟩,k1⟩with⟨k3,_,_⟩ | ⟨_,k4,k5⟩
    ·have:=hy.aa;omega
    ·rw[<-k2,cp]at k4 k5
     have hz:=(AQ hD _ rfl hy.aa z hy.cU).1
     have hcz:c≠z:=by
      grind
     have:=hd c ⟨⟨⟨c0,c1⟩,k1⟩,by rw[k5];exact .tail _ hy.cU,hcz⟩ ch
     omega)
   cases q:(r.foldl KA.ea (b.ea y)).s.aa y with
   | false=>rfl
   | true=>have:=((xr r _).aa y q).1;rw[g]at this;cases this
  ·exact Iw hD Ut hB m r (b.ea x) (hs.trans (pD.one b x)) (fun w hw hh=>hd w hw ((pD.one b x).aa w hh).1) y hy ((List.mem_cons.1 hm).resolve_left e) hdy
def Rt{f:Int->Bool} :∀ {k:Nat} {y:Int},0<=y->y<k->f y=true->y∈Sp.fF f k
 | 0,y,h0,h1,_=>og
 | k+1,y,h0,h1,hf=>by
  unfold Sp.fF;by_cases e:y=k
  ·subst e;rw[if_pos hf];simp
  ·have:=Rt (f:=f) h0 (k:=k) og hf;split;all_goals exact List.mem_append_left _ this
def wg{a:KA}{z:Int}(hD:a.s.Deep a.aK)(Ut:a.aK 0=1)(hB:∀ y,Us a z y->∀ q,a.s.b8 y q<0):∀ (k:Nat),∀ y,Us a z y->(a.dS k).s.aa y=true->a.aK y<=4-k
 | 0,y,hy,_=>(hD.d y hy.aa.1.1 hy.aa.1.2 hy.aa.2).2.1
 | k+1,y,hy,hh=>by
  have hh:((Sp.fF (a.dS k).s.aa 6).foldl KA.ea (a.dS k)).s.aa y=true:=hh;have h1:=((xr _ _).aa y hh).1;have h2:=wg hD Ut hB k y hy h1;have h3:=(hD.d y hy.aa.1.1 hy.aa.1.2 hy.aa.2).1;refine Decidable.byContradiction fun q=> ?_;have:=Iw hD Ut hB (4-k) _ (a.dS k) (pD.dS a k) (fun w hw hb=>wg hD Ut hB k w hw hb) y hy (Rt hy.aa.1.1 (by have:=hy.aa.1.2;omega) h1) og;simp_all
def Ps{a:KA}{z:Int}(hD:a.s.Deep a.aK)(Ut:a.aK 0=1)(hB:∀ y,Us a z y->∀ q,a.s.b8 y q<0)(hy:Us a z y):(a.dS 4).s.aa y=false:=by
 cases q:(a.dS 4).s.aa y with
 | false=>rfl
 | true=>
  have:=wg hD Ut hB 4 y hy q;have:=(hD.d y hy.aa.1.1 hy.aa.1.2 hy.aa.2).1;omega
theorem zf(b:KA)(n h p:Int):((b.de n h).u p).aA=if 0<=p/\p<20/\(b.u p).st≠0/\(b.u p).aA=n then h else(b.u p).aA:=by
 show((if 0<=p/\p<20/\(b.u p).st≠0/\(b.u p).aA=n then {b.u p with aA:=h} else b.u p):PA).aA=_;grind
theorem AR(a:KA)(n co p:Int):((a.cH n co).u p).aA=(a.u p).aA:=by
 by_cases e:p=n
 ·subst e;show(ad a.u p _ p).aA=_;rw[ah]
 grind [ni]
theorem wh{a:KA}(hl:(a.u n).st=1)(co p:Int):(((a.cH n co).u p).st≠0↔(a.u p).st≠0)/\(((a.cH n co).u p).st=1↔(a.u p).st=1/\p≠n)/\(((a.cH n co).u p).st=2↔(a.u p).st=2\/p=n):=by
 grind [lX,ni]
structure KA.zk (a:KA) (T:Int):Prop where
 wk:a.Wk T
 r0:a.R0
 d0:a.aK 0=1
theorem KA.Ok.o0{a:KA}(h:a.Ok T):a.zk T:=⟨h.wk,h.r0,h.d0⟩
theorem KA.zk.AM{a:KA}(ok:a.zk T)(hs:(a.u p).st≠0):(0<=p/\p<20)/\0<=a.s.loc p/\a.s.bZ p=(a.s.loc p,0)/\a.s.is (a.s.loc p)=0/\(0<=a.s.loc p/\a.s.loc p<6)/\a.s.aa (a.s.loc p)=true:=by
 have hr:=ok.wk.jV hs;have h1:=(ok.wk.lc p hr.1 hr.2).1 hs;obtain⟨i1,i2,i3,i4⟩:=SS.Inv.is0 ok.wk.sI hr h1;simp_all
def KA.Pw.adV{a:KA}(h:a.Pw)(ok:a.zk T)(hs:(a.u n).st≠0:=by omega):a.head n=a.s.b8 (a.s.loc n) 1:=by
 obtain⟨hr,h1,i1,i2,i3,i4⟩:=ok.AM hs;have h2:=(h.hd _ i3.1 i3.2 i4).1;unfold KA.head;rw[i1];show(a.s.find (a.s.loc n) 1).1=_;unfold Sp.SS.find;grind
theorem KA.Pw.aiX{a:KA}(h:a.Pw)(ok:a.zk T)(hl:(a.u n).st=1)(co:Int)(c:a.head n≠n):((a.cH n co).de n (a.head n)).Pw:=by
 obtain⟨hr,h1,i1,i2,i3,i4⟩:=ok.AM (p:=n) og;have hh:=h.adV ok (n:=n);obtain⟨d1,d2,d3,d4⟩:=h.hd _ i3.1 i3.2 i4;rw[<-hh]at d1 d2 d3 d4;have d5:(a.u (a.head n)).st=1:=by
  rcases ok.wk.st (a.head n)with q | q | q
  ·omega
  ·omega
  ·exact absurd (d4 q n hr.1 (Ur ok.wk.sI hr h1)) fun e=>c e.symm
 have st':∀ p,(((a.cH n co).de n (a.head n)).u p).st=((a.cH n co).u p).st:=fun p=>(dE _ _ _ _).1;refine⟨fun p p0 q=> ?_,fun z z0 z1 hz=> ?_,?_⟩
 ·rw[st']at q;have q1:=(wh hl co p).1.1 q;obtain⟨k1,k2,k3⟩:=h.aA p p0 q1;have Yp:=ok.wk.jV q1;rw[zf,AR];show _/\oH a.s (a.s.loc _) p/\(a.s.b8 (a.s.loc p) 1=p->a.s.loc _≠a.s.loc p);grind [wh]
 ·have hz:a.s.aa z=true:=hz;obtain⟨k1,k2,k3,k4⟩:=h.hd z z0 z1 hz;show 0<=a.s.b8 z 1/\(((a.cH n co).de n (a.head n)).u (a.s.b8 z 1)).st≠0/\a.s.loc (a.s.b8 z 1)=z/\((((a.cH n co).de n (a.head n)).u (a.s.b8 z 1)).st=2->∀ p,0<=p->oH a.s z p->p=a.s.b8 z 1);grind [wh]
 grind [zf,AR,KA.Pw.zero]
theorem KA.Pw.afS{a:KA}(h:a.Pw)(ok:a.zk T)(hn0:n≠0)(hl:(a.u n).st=1)(co:Int)(c:a.head n=n):(((a.cH n co).eH (a.s.bZ n).1 n).de n n).Pw:=by
 obtain⟨hr,h1,i1,i2,i3,i4⟩:=ok.AM (p:=n) og;have I:=ok.wk.sI;have hzz:(0<=a.s.loc n/\a.s.loc n<6)/\a.s.aa (a.s.loc n)=true:=⟨i3,i4⟩;have hw:a.s.b8 (a.s.loc n) 1=n:=(h.adV ok (n:=n)).symm.trans c;rw[i1];show((((a.cH n co).dY (a.s.loc n) n).dS 4).de n n).Pw;have hwk:=(ok.wk.cH hr hl co).dY (a.s.loc n) n;obtain⟨g1,g2,g3,g4⟩:=J6 n (a.s.mem (a.s.loc n)).1 (a.cH n co) (pA I _) fun m hm=>SS.mem_range I hm;have em:(a.cH n co).dY (a.s.loc n) n=(a.s.mem (a.s.loc n)).1.foldl (KA.eN n) (a.cH n co):=rfl;rw[<-em]at g1 g2 g3 g4;have g2:∀ z q,((a.cH n co).dY (a.s.loc n) n).s.b8 z q=if a.s.b8 z q∈(a.s.mem (a.s.loc n)).1/\a.s.b8 z q≠n then-1 else a.s.b8 z q:=g2
 have g1:((a.cH n co).dY (a.s.loc n) n).s.aa=a.s.aa/\((a.cH n co).dY (a.s.loc n) n).s.aA=a.s.aA:=g1;have hL:∀ p,0<=p->(p∈(a.s.mem (a.s.loc n)).1↔oH a.s (a.s.loc n) p):=fun p hp=>Yo I hzz hp;have aiZ:((a.cH n co).dY (a.s.loc n) n).aK=a.aK:=JZ n _ _;generalize (a.cH n co).dY (a.s.loc n) n=m at*;have S:=pD.dS m 4;have me:∀ y,m.s.cU m.aK y=a.s.cU a.aK y:=fun y=>by
  rw[aiZ];exact Sp.SS.nN (s:=a.s) (s':=m.s) g1.2 _ _
 have stay:∀ y q p,0<=p->(m.s.b8 y q=p↔a.s.b8 y q=p/\(p=n\/¬oH a.s (a.s.loc n) p)):=fun y q p hp=>by
  rw[g2];by_cases d:a.s.b8 y q∈(a.s.mem (a.s.loc n)).1/\a.s.b8 y q≠n
  ·rw[if_pos d];constructor
   ·intro q;omega
   ·rintro⟨e1,e2⟩;rw[e1]at d;rcases e2 with e2 | e2
    ·exact absurd e2 d.2
    ·exact absurd ((hL p hp).1 d.1) e2
  ·rw[if_neg d];constructor
   ·intro e1;refine⟨e1,?_⟩;rw[e1]at d;by_cases e2:p=n
    ·exact .inl e2
    ·exact .inr fun e3=>d ⟨(hL p hp).2 e3,e2⟩
   ·exact fun e=>e.1
 have u1:∀ p,0<=p->(p=n\/¬oH a.s (a.s.loc n) p)->m.s.loc p=a.s.loc p/\m.u p=(a.cH n co).u p:=fun p hp e=>g3 p (e.elim .inr fun e=>.inl fun q=>e ((hL p hp).1 q));have u2:∀ p,0<=p->(m.u p).st≠0->p=n\/¬oH a.s (a.s.loc n) p:=fun p hp e=>by
  by_cases e2:p=n
  ·exact .inl e2
  ·refine .inr fun e3=> ?_;rw[g4 p ((hL p hp).2 e3) e2]at e;exact e rfl
 have hB:∀ y,Us m (a.s.loc n) y->∀ q,m.s.b8 y q<0:=fun y hy q=>by
  refine Decidable.byContradiction fun k=> ?_;obtain⟨k1,k2⟩:=(stay y q _ og).1 rfl;have k3:0<=m.s.b8 y q:=og;have hyh:(0<=y/\y<6)/\a.s.aa y=true:=⟨hy.aa.1,by have:=hy.aa.2;rwa[g1.1]at this⟩;have hyw:=hy.cU;rw[me]at hyw;have k4:oH a.s y (m.s.b8 y q):=⟨q,k1⟩;obtain⟨k5,k6,k7⟩:=(ks I k3).1 k4;have k8:oH a.s (a.s.loc n) (m.s.b8 y q):=(ks I k3).2 ⟨k5,k6,Iu I.D (Fs I ⟨k3,k5⟩ k6) k7 hyw⟩;have k9:=k2.resolve_right fun q=>q k8;rw[k9]at k7;exact hy.ne (M9 I.D hzz k7 hyw)
 have ai0:∀ y,Us m (a.s.loc n) y->(m.dS 4).s.aa y=false:=fun y hy=>Ps hwk.sI.D (by rw[aiZ];exact ok.d0) hB hy;generalize m.dS 4=z4 at*;have n0:(0:Int)=n\/¬oH a.s (a.s.loc n) 0:=.inr (fun q=>by
  obtain⟨j,e⟩:=q
  have h2:=SS.Inv.in0 I ok.r0.loc ok.d0 e
  rw[h2,ok.r0.b8]at hw;exact hn0 hw.symm)
 have st':∀ p,((z4.de n n).u p).st=(m.u p).st:=fun p=>by rw[(dE _ _ _ _).1,S.u]
 have par':∀ p,((z4.de n n).u p).aA=(m.u p).aA:=fun p=>by
  rw[zf,S.u];split
  ·rename_i e;exact e.2.2.2.symm
  ·rfl
 refine⟨fun p p0 q=> ?_,fun y y0 y1 hy=> ?_,?_⟩
 ·rw[st']at q;have Yp:=hwk.jV q;have e:=u2 p Yp.1 q;obtain⟨v1,v2⟩:=u1 p Yp.1 e;have q1:(a.u p).st≠0:=(wh hl co p).1.1 (by rw[<-v2];exact q);obtain⟨k1,k2,k3⟩:=h.aA p p0 q1;rw[par',v2,AR,st'];show _/\oH z4.s (z4.s.loc _) p/\(z4.s.b8 (z4.s.loc p) 1=p->z4.s.loc _≠z4.s.loc p);rw[S.loc,S.b8,v1];have kr:=ok.wk.jV (n:=(a.u p).aA) og;have kn:(a.u p).aA≠n/\¬oH a.s (a.s.loc n) (a.u p).aA:=by
   by_cases e2:p=n
   ·subst e2;have k4:=k3 hw;refine⟨fun x=>k4 (by rw[x]),fun x=>k4 ?_⟩;obtain⟨x1,x2,x3⟩:=(ks I kr.1).1 x;obtain⟨_,_,y3⟩:=(ks I hr.1).1 k2;exact M9 I.D hzz y3 x3
   ·have e3:=e.resolve_left e2;refine⟨fun x=>e3 (by rw[x]at k2;exact k2),fun x=>e3 (Pr I Yp.1 kr.1 x k2)⟩
  obtain⟨w1,w2⟩:=u1 _ kr.1 (.inr kn.2);rw[w1,w2];obtain⟨j,hj⟩:=k2;exact⟨(wh hl co _).2.1.2 ⟨k1,kn.1⟩,⟨j,by rw[S.b8];exact(stay _ j p Yp.1).2 ⟨hj,e⟩⟩,fun x=>k3 ((stay _ 1 p Yp.1).1 x).1⟩
 ·have hy:z4.s.aa y=true:=hy;have hym:=(S.aa y hy).1;have hya:a.s.aa y=true:=by rwa[g1.1]at hym
  obtain⟨k1,k2,k3,k4⟩:=h.hd y y0 y1 hya;have hnb:¬Us m (a.s.loc n) y:=fun q=>by rw[ai0 y q]at hy;cases hy
  have hrk:=ok.wk.jV k2;have e:a.s.b8 y 1=n\/¬oH a.s (a.s.loc n) (a.s.b8 y 1):=by
   by_cases e2:a.s.b8 y 1=n
   ·exact .inl e2
   ·refine .inr fun e3=>hnb ⟨⟨⟨y0,y1⟩,hym⟩,?_,?_⟩
    ·rw[me];have:=((ks I k1).1 e3).2.2;rwa[k3]at this
    ·rintro rfl;exact e2 hw
  have ew:m.s.b8 y 1=a.s.b8 y 1:=(stay y 1 _ k1).2 ⟨rfl,e⟩;obtain⟨v1,v2⟩:=u1 _ k1 e;show 0<=z4.s.b8 y 1/\((z4.de n n).u (z4.s.b8 y 1)).st≠0/\z4.s.loc (z4.s.b8 y 1)=y/\(((z4.de n n).u (z4.s.b8 y 1)).st=2->∀ p,0<=p->oH z4.s y p->p=z4.s.b8 y 1);rw[st',S.b8,S.loc,ew,v1,v2];refine⟨k1,(wh hl co _).1.2 k2,k3,fun q p hp x=> ?_⟩;obtain⟨j,hj⟩:=x;rw[S.b8]at hj;obtain⟨j1,j2⟩:=(stay y j p hp).1 hj;rcases(wh hl co _).2.2.1 q with q | q
  ·exact k4 q p hp ⟨j,j1⟩
  ·rw[q]at k3;rw[q];exact j2.resolve_right fun x=>x (by rw[k3];exact⟨j,j1⟩)
 ·rw[par',(u1 0 (Int.le_refl 0) n0).2,AR];exact h.zero
theorem KA.Pw.db{a:KA}{T:Int}(h:a.Pw)(ok:a.zk T){n:Int}(hn0:n≠0)(hl:(a.u n).st=1)(co:Int):(a.db n co).Pw:=by
 grind [KA.db,KA.gG,KA.Pw.gK,KA.Pw.afS,KA.Pw.aiX]
open Go.X.Sp
def Ft(w w':Int->Int->Int)(a b p:Int):(a≠b->vv w b p a=w a)/\(w a=w' a->vv w a p a=vv w' a p a):=by
 constructor
 ·intro h;unfold vv;cases dW (fun q=>decide (w b (q+1)<0)) 20 with
  | some k=>show bW w b _ p a=w a;funext q;unfold bW;rw[if_neg fun c=>h c.1]
  | none=>rfl
 ·intro h;unfold vv;rw[h];cases dW (fun q=>decide (w' a (q+1)<0)) 20 with
  | some k=>show bW w a _ p a=bW w' a _ p a;funext q;unfold bW;rw[h]
  | none=>exact h
theorem Fv(p:Int):∀ (l:List Int) (w:Int->Int->Int) (a:Int),a∉l->jg w p l a=w a
 | [],_,_,_=>rfl
 | x::r,w,a,h=>by
  unfold jg;rw[Fv p r _ a fun q=>h (.tail _ q)];exact(Ft w w a x p).1 (by rintro rfl;exact h (.head _))
theorem Ix(p:Int):∀ (l:List Int) (w:Int->Int->Int) (a:Int),l.Nodup->a∈l->jg w p l a=vv w a p a
 | [],_,_,_,h=>by cases h
 | x::r,w,a,hn,h=>by
  obtain⟨hx,hr⟩:=List.nodup_cons.1 hn;unfold jg;by_cases e:a=x
  ·subst e;exact Fv p r _ a hx
  ·rw[Ix p r _ a hr ((List.mem_cons.1 h).resolve_left e)];exact(Ft _ _ a a p).2 ((Ft w w a x p).1 e)
theorem Pt{w:Int->Int->Int}{a:Int}(h:w a 1<0):vv w a p a 1=p:=by
 unfold vv;rw[fw (k:=0) (m:=20) og og (by simpa using h) fun j j0 j1=>og];grind [bW]
theorem KA.Dk.afT{a:KA}{aU:Bool}(h:a.Dk n aU)(y:Int):(y∉(a.sA n aU).cU (a.dA n aU) (a.xj n aU)->∀ q,(a.cS n aU).s.b8 y q=a.s.b8 y q)/\(y∈(a.sA n aU).cU (a.dA n aU) (a.xj n aU)->(∃ k,a.s.b8 y k<0/\∀ q,(a.cS n aU).s.b8 y q=if q=k then a.free else a.s.b8 y q)/\(a.s.b8 y 1<0->(a.cS n aU).s.b8 y 1=a.free)):=by
 have hn:((a.sA n aU).cU (a.dA n aU) (a.xj n aU)).Nodup:=Sp.SS.wR h.inv.D _ (a.xj n aU) rfl h.zr.1 h.zr.2.1 h.zr.2.2;obtain⟨e1,e2⟩:=wS a.free ((a.sA n aU).cU (a.dA n aU) (a.xj n aU)) (a.sA n aU).b8 hn fun x _=>h.inv.free h.jV.1 h.loc x;rw[h.en,<-h.b8];refine⟨fun hy q=>e1 y hy q,fun hy=>⟨?_,fun q=> ?_⟩⟩
 ·obtain⟨k,_,_,k3,k4⟩:=e2 y hy;exact⟨k,k3,k4⟩
 ·show jg _ _ _ y 1=_;simp_all[Ix,Pt]
def KA.Dk.abC{a:KA}{aU:Bool}(h:a.Dk n aU){q:Int}(hp:p≠a.free)(e:(a.cS n aU).s.b8 y q=p):a.s.b8 y q=p:=by
 obtain⟨w1,w2⟩:=h.afT y;by_cases hy:y∈(a.sA n aU).cU (a.dA n aU) (a.xj n aU);all_goals grind
theorem KA.Pw.cS{a:KA}{T:Int}(h:a.Pw)(ok:a.zk T){n:Int}{aU:Bool}(hl:a.aF n=0)(hf:a.free≠20)(hE:a.inE n aU=0):(a.cS n aU).Pw:=by
 have h00:=SS.Inv.jK ok.wk.sI ok.r0.loc;have I:=ok.wk.fkI (n:=n) (aU:=aU) h00 hl hf hE;obtain⟨hn,hs⟩:=bE hl;obtain⟨hr,h1,i1,i2,i3,i4⟩:=ok.AM (p:=n) og;have DI:=I.jV.2;have ND:a.sz n=a.s.loc n:=by unfold KA.sz;rw[i1]
 have hu:∀ m,m≠a.free->(a.cS n aU).u m=a.u m:=fun m hm=>ae _ _ hm;have Ui:(a.cS n aU).u a.free=a.J1 n:=ah _ _ _;have hnc:n≠a.free:=by rintro e;rw[<-e]at DI;omega
 have hlc:∀ m,m≠a.free->(a.cS n aU).s.loc m=a.s.loc m:=fun m hm=>by rw[I.AM,ae _ _ hm]
 have WD:∀ y q,a.s.b8 y q≠a.free:=fun y q e=>by
  have:=(ok.wk.sI.mem y q _ I.jV.1.1 e).2.2.2.1;exact((ok.wk.lc _ I.jV.1.1 I.jV.1.2).2 this) DI
 have I9:aU=true->a.s.aa (a.xj n aU)=false/\(a.cS n aU).s.aa=ad a.s.aa (a.xj n aU) true/\((0<=a.xj n aU/\a.xj n aU<6)/\(a.sA n aU).aa (a.xj n aU)=true)/\(a.sA n aU).aA (a.xj n aU)=a.sz n:=fun ho=>by
  subst ho;have hE:(a.s.add a.aK (a.sz n)).2.1=0:=hE;have h2:=uk hE;refine⟨h2.2.1,by rw[I.AN];exact h2.2.2,⟨h2.1,by show(a.s.add a.aK (a.sz n)).2.2.aa _=true;rw[h2.2.2];exact ah _ _ _⟩,?_⟩;rcases a.s.pJ a.aK (a.sz n)with⟨q,_,_⟩ | ⟨k,_,_,_,_,q5⟩
  ·omega
  ·show(a.s.add a.aK (a.sz n)).2.2.aA (a.s.add a.aK (a.sz n)).1=_;simp_all[ah]
 have dX:aU=false->a.xj n aU=a.s.loc n/\(a.cS n aU).s.aa=a.s.aa/\(a.sA n aU).cU (a.dA n aU)=a.s.cU a.aK:=fun ho=>by
  subst ho;exact⟨ND,by rw[I.AN];rfl,rfl⟩
 refine⟨fun p p0 q=> ?_,fun y y0 y1 hy=> ?_,?_⟩
 ·by_cases e:p=a.free
  ·subst e;rw[Ui];show((a.cS n aU).u n).st=1/\oH _ ((a.cS n aU).s.loc n) _/\(_->(a.cS n aU).s.loc n≠_);rw[hu n hnc,hlc n hnc];refine⟨hs,⟨_,by rw[<-ND];exact I.js.2.1⟩,fun w=> ?_⟩;grind [KA.Pw.hd,KA.Dk.fq]
  ·rw[hu p e]at q ⊢;obtain⟨k1,⟨j,k2⟩,k3⟩:=h.aA p p0 q;have kqz:(a.u p).aA≠a.free:=by intro x;rw[x]at k1;omega
   have Yp:=ok.wk.jV q;rw[hu _ kqz,hlc _ kqz,hlc p e];exact⟨k1,⟨j,by rw[I.fq (by rw[k2];exact Yp.1)];exact k2⟩,fun w=>k3 (I.abC e w)⟩
 ·by_cases hya:a.s.aa y=true
  ·obtain⟨k1,k2,k3,k4⟩:=h.hd y y0 y1 hya;have kc:a.s.b8 y 1≠a.free:=WD y 1;rw[I.fq k1,hu _ kc,hlc _ kc];refine⟨k1,k2,k3,fun q p hp ⟨j,hj⟩=> ?_⟩;by_cases e:p=a.free
   ·exfalso;obtain⟨w1,w2⟩:=I.afT y;have hw:y∈(a.sA n aU).cU (a.dA n aU) (a.xj n aU):=Decidable.byContradiction fun c=>WD y j (by rw[<-w1 c j,hj,e]);have sn:oH a.s y n:=by
     cases ho:aU with
     | false=>
      have:=dX ho;rw[this.1,this.2.2]at hw;exact(ks ok.wk.sI hn.1).2 ⟨hn.2,h1,hw⟩
     | true=>
      have g:=I9 ho;rcases rm I.inv.D g.2.2.1 with⟨z1,_,_⟩ | ⟨_,_,z3⟩
      ·omega
      ·rw[z3,g.2.2.2,ND]at hw;have hyz:y≠a.xj n aU:=by intro x;rw[<-x,hya]at g;cases g.1
       have hw:=(List.mem_cons.1 hw).resolve_left hyz;have s1:oH (a.sA n aU) y n:=(ks I.inv hn.1).2 ⟨hn.2,by rw[I.lo];exact h1,by rw[I.lo];exact hw⟩;obtain⟨j,e⟩:=s1;exact⟨j,by rw[<-I.b8];exact e⟩
    grind
   ·exact k4 q p hp ⟨j,I.abC e hj⟩
  ·cases ho:aU with
   | false=>rw[(dX ho).2.1]at hy;exact absurd hy hya
   | true=>
    obtain⟨g1,g2,g3,g4⟩:=I9 ho;rw[g2]at hy;have e:y=a.xj n aU:=by
     grind [ae]
    rw[<-ho];have hw:y∈(a.sA n aU).cU (a.dA n aU) (a.xj n aU):=by rw[e];exact Fq I.inv.D g3
    have w0:a.s.b8 y 1<0:=by rw[ok.wk.sI.A y (by rw[e];exact g1)];decide
    rw[((I.afT y).2 hw).2 w0,Ui,I.AM,ah];exact⟨I.jV.1.1,(by decide:(1:Int)≠0),e.symm,fun q=>absurd q (by decide:¬(1:Int)=2)⟩
 grind [KA.zk.r0,KA.R0.st,KA.Pw.zero]
def KA.Pw.dc{a:KA}(h:a.Pw)(ok:a.zk T)(n:Int):(a.eT n).Pw:=by
 unfold KA.eT;split
 ·rename_i c;obtain⟨_,hr,hs,hp,_⟩:=pQ c;generalize (a.dG n 20).aW=x at*;obtain⟨_,h1,i1,i2,i3,i4⟩:=ok.AM (p:=x) og;have I:=ok.wk.sI;have ez:a.sz x=a.s.loc x:=by unfold KA.sz;rw[i1]
  rw[ez];have es:(a.dD x).s=a.s.left x:=by
   show(a.s.fL x).2=_;unfold Sp.SS.fL;rw[i1,if_neg (show ¬(a.s.loc x,(0:Int)).2≠0 from fun q=>q rfl)]
  have Fw:∀ y q p,0<=p->((a.dD x).s.b8 y q=p↔a.s.b8 y q=p/\p≠x):=fun y q p hp=>by
   rw[es];show(if a.s.b8 y q=x then(-1:Int)else a.s.b8 y q)=p↔_;split
   ·constructor
    ·intro k;omega
    ·rintro⟨k1,k2⟩;omega
   ·constructor
    ·intro k;exact⟨k,og⟩
    ·exact fun k=>k.1
  have GG:∀ p,p≠x->(a.dD x).s.loc p=a.s.loc p:=fun p hp=>by rw[es];exact ae _ _ hp
  have S:=pD.one (a.dD x) (a.s.loc x);have hu:∀ p,p≠x->((a.dD x).ea (a.s.loc x)).u p=a.u p:=fun p hp=>by rw[S.u];exact ll _ hp
  have hux:((a.dD x).ea (a.s.loc x)).u x=PA.nil:=by rw[S.u];exact ah _ _ _
  have q8:x≠0:=by rintro rfl;have:=ok.r0.st;omega
  refine⟨fun p p0 q=> ?_,fun y y0 y1 hy=> ?_,by rw[hu 0 fun e=>q8 e.symm];exact h.zero⟩
  ·have e:p≠x:=by rintro rfl;rw[hux]at q;exact q rfl
   rw[hu p e]at q ⊢;obtain⟨k1,⟨j,k2⟩,k3⟩:=h.aA p p0 q;have kqz:(a.u p).aA≠x:=by intro w;rw[w]at k1;omega
   have Yp:=ok.wk.jV q;rw[hu _ kqz,S.loc,S.b8,GG _ kqz,GG p e];exact⟨k1,⟨j,by rw[S.b8];exact(Fw _ _ p Yp.1).2 ⟨k2,e⟩⟩,fun w=>k3 ((Fw _ _ p Yp.1).1 w).1⟩
  ·have hya:a.s.aa y=true:=by have:=(S.aa y hy).1;rw[es]at this;exact this
   obtain⟨k1,k2,k3,k4⟩:=h.hd y y0 y1 hya;by_cases e:a.s.b8 y 1=x
   ·exfalso;rw[e]at k3 k4;have k5:=k4 hs;have y0':0<y:=by
     refine Decidable.byContradiction fun c=> ?_;have:y=0:=og;rw[this,ok.r0.b8]at e;exact q8 e.symm
    have g:((a.dD x).ea y).s.aa y=false:=Iv ⟨y0',y1⟩ (fun q=>by
     refine Decidable.byContradiction fun c=> ?_
     obtain⟨m1,m2⟩:=(Fw y q _ (show 0<=(a.dD x).s.b8 y q by omega)).1 rfl
     exact m2 (k5 _ og ⟨q,m1⟩)) (fun d d0 d1 dh dp=>by
     have dh:a.s.aa d=true:=by rw[es]at dh;exact dh
     have dp:a.s.aA d=y:=by rw[es]at dp;exact dp
     obtain⟨m1,m2,m3,_⟩:=h.hd d d0 d1 dh
     have hD:=I.D
     rcases rm hD ⟨⟨d0,d1⟩,dh⟩with⟨z1,_,_⟩ | ⟨z1,z2,z3⟩
     ·omega
     ·have mr:=ok.wk.jV m2
      have:oH a.s y (a.s.b8 d 1):=(ks I m1).2 ⟨mr.2,by rw[m3];exact d0,by rw[m3,z3,dp];exact .tail _ (Fq hD ⟨⟨y0,y1⟩,hya⟩)⟩
      have e2:=k5 _ m1 this
      rw[e2,k3]at m3
      rw[<-m3]at dp z2
      rw[dp]at z2;omega)
    rw[k3]at hy;rw[g]at hy;cases hy
   ·have ew:(a.dD x).s.b8 y 1=a.s.b8 y 1:=(Fw y 1 _ k1).2 ⟨rfl,e⟩;rw[S.b8,S.loc,ew,hu _ e,GG _ e];refine⟨k1,k2,k3,fun q p hp ⟨j,hj⟩=> ?_⟩;rw[S.b8]at hj;exact k4 q p hp ⟨j,((Fw y j p hp).1 hj).1⟩
 ·exact h
theorem KA.Pw.jo{a:KA}(h:a.Pw)(ok:a.zk T)(n:Int)(aU:Bool):(a.gH n aU).Pw:=by
 unfold KA.gH;split
 ·omega
 ·split
  ·exact h.same (fun _=>⟨rfl,rfl⟩) rfl
  grind [KA.Pw.cS]
end Go.X.Kn

namespace Go.X.Kn
open Go Go.X Go.X.Sg Go.X.Vm
variable{T n:Int}
def KA.Pw.settle{a:KA}(h:a.Pw)(ok:a.zk T)(hl:(a.u n).st=1)(o:Bool)(ho:o=true->n≠0):(a.cL n o).Pw:=by
 by_cases he:a.JY n o
 ·rw[rF he];refine h.db ok (fun e=> ?_) hl _;subst e;rcases he.2 with q | q
  ·simp_all
  ·exact q (adT ok.wk ok.r0)
 grind [KA.cL]
def KA.Pw.Fe{a:KA}(h:a.Pw)(ok:a.zk T)(c:a.aF n=0){x:BS}(hx:x.dc 0=false)(o:Bool)(ho:o=true->n≠0):((a.jr n x).cL n o).Pw:=by
 obtain⟨hr,hl⟩:=bE c;exact(h.box n x).settle ⟨ok.wk.jr hr hx,ok.r0.box _ _,ok.d0⟩ (by rw[gp];exact hl) o ho
theorem KA.Pw.send{a:KA}(h:a.Pw)(ok:a.zk T)(n sig:Int)(o:Bool)(ho:o=true->n≠0):(a.uF n sig o).Pw:=by
 unfold KA.uF;split
 ·rename_i c;exact h.Fe ok c (nW _ _ (ok.wk.bx n)) o ho
 omega
theorem KA.Pw.dX{a:KA}(h:a.Pw)(ok:a.zk T)(n sig:Int)(on:Bool):(a.mG n sig on).Pw:=by
 unfold KA.mG;split
 ·omega
 ·rename_i c;split
  ·exact h.Fe ok og (qq _ _ _ (ok.wk.bx n)) false sq
  omega
def KA.Pw.kt{a:KA}(h:a.Pw)(ok:a.zk T)(n sig v:Int):(a.B2 n sig v).Pw:=by
 unfold KA.B2;split
 ·omega
 ·rename_i c;split
  ·exact h.Fe ok og (xh _ _ _ (ok.wk.bx n)) false sq
  omega
theorem KA.Pw.take{a:KA}(h:a.Pw)(n:Int):(a.qs n).Pw:=by
 unfold KA.qs;split
 ·exact h
 ·exact h.box _ _
def KA.Pw.nj{a:KA}(h:a.Pw)(ok:a.zk T)(n js sig:Int):(a.j9 n js sig).Pw:=by
 unfold KA.j9;split
 ·rename_i c;refine h.send ok _ _ _ fun _ e=> ?_;unfold KA.ot at c;split at c
  ·omega
  ·rename_i c1;split at c
   ·omega
   ·split at c
    ·omega
    ·rename_i c2;obtain⟨s1,s2,s3,_⟩:=MZ (show(a.GQ n js).2=0 by omega);obtain⟨_,f2,_⟩:=vF ok.wk.sI s2;rw[<-s3,e]at f2;have hz:=SS.Inv.in0 ok.wk.sI ok.r0.loc ok.d0 f2;rw[hz]at f2;exact c2 (ok.wk.sI.inj 0 1 js (by rw[ok.r0.b8];omega) (by rw[f2,ok.r0.b8]))
 omega
theorem KA.Pw.fA{a:KA}{T:Int}(h:a.Pw)(ok:a.zk T)(n co:Int):(a.fA n co).Pw:=by
 unfold KA.fA;split
 ·rename_i c;obtain⟨h1,h2⟩:=ui c;exact h.db ok h2 (bE h1).2 co
 omega
theorem KA.Pw.fd{a:KA}(h:a.Pw)(n i v:Int)(O:Tr.OS)(P:Tr.PS):({a with u:=rG a.u n i v,O:=O,P:=P} :KA).Pw:=h.same (fun p=>⟨(jI a.u n i v p).1,by
 show(ad a.u n _ p).aA=_
 by_cases e:p=n
 ·subst e;rw[ah]
 ·rw[ae _ _ e]⟩) rfl
theorem KA.Pw.rest{a:KA}(h:a.Pw)(g:Gr.TG)(v:VB)(f:Nat->Vm.MS)(O:Tr.OS)(P:Tr.PS):({a with g:=g,v:=v,f:=f,O:=O,P:=P} :KA).Pw:=h.same (fun _=>⟨rfl,rfl⟩) rfl
theorem KA.Pw.room{n:Int} :∀ (k:Nat) {a:KA} {T:Int},a.Pw->a.Ok T->(a.kF n k).2.Pw
 | 0,a,T,h,_=>h
 | k+1,a,T,h,ok=>by
  unfold KA.kF;by_cases c:a.aF n≠0
  ·rw[if_pos c];exact h
  ·rw[if_neg c];cases hz:a.iR n with
   | none=>exact h.rest _ a.v a.f a.O a.P
   | some z=>
    show(if a.gU z<0 then((6:Int),a)else(a.db (a.gU z) 137).kF n k).2.Pw;split
    ·exact h
    ·rename_i d;have hv:=pC d;have hl:=bE hv.2;have hv0:a.gU z≠0:=og;exact KA.Pw.room k (h.db ok.o0 hv0 hl.2 137) (ok.wk.B1 ok.r0 ok.d0 hv0 hl.2 (ok.hx.any _) 137)
def KA.Pw.Rr{a:KA}(h:a.Pw)(ok:a.Ok T){D:TD}(hD:∀ {b:KA},b.Pw->(D.A b).Pw)(x:Int)(w:Bool)(y0:Int):((a.iX n x w D y0).2.1).Pw:=by
 have h1:(a.cy n).2.Pw:=h.room 21 ok;unfold KA.iX;by_cases c1:a.aF n≠0
 ·simp_all
 ·rw[if_neg c1];by_cases c2:(a.f n.toNat).tT x w=false
  ·simp_all
  ·rw[if_neg c2];by_cases c3:(a.f n.toNat).my x=true
   ·rw[if_pos c3];by_cases c4:(a.cy n).1≠0
    ·simp_all
    ·rw[if_neg c4];show(if D.e (a.cy n).2≠0 then(D.A (a.cy n).2).Z5 n else D.A (a.cy n).2).Pw;split
     ·exact(hD h1).same (fun _=>⟨rfl,rfl⟩) rfl
     simp_all
   simp_all
theorem KA.Pw.yj{a:KA}{T:Int}(h:a.Pw)(ok:a.Ok T)(hT:T<=900000)(F:Tr.FF)(n i:Int)(x:ByteArray):(a.nX F n i x).Pw:=by
 have h1:(a.rH F n i x).Pw:=h.same (fun _=>⟨rfl,rfl⟩) rfl;unfold KA.nX;split
 ·omega
 ·split
  ·exact h1.send (ok.yj hT F n i x).o0 n 2 false sq
  omega
def KA.Pw.B6{a a1:KA}{F:Tr.FF}{x:jA}(h:a.Pw)(ok:a.Ok T)(hT:T<=800000)(s:a.o3 F x a1):a1.Pw:=by
 have q:∀ {b:KA} {P:Prop} [Decidable P],b.Pw->(if P then a else b).Pw:=fun hb=>by
  grind
 cases s with
 | same=>exact h
 | dc=>exact h.dc ok.o0 _
 | nj=>exact h.nj ok.o0 _ _ _
 | dX=>exact h.dX ok.o0 _ _ _
 | kt=>exact h.kt ok.o0 _ _ _
 | take=>exact h.take _
 | map=>exact q (h.rest _ _ _ a.O a.P)
 | mW=>exact q (h.rest _ _ _ a.O a.P)
 | drop=>exact h.rest _ a.v a.f a.O a.P
 | It o=>
  rcases o with rfl | ⟨_,_,_,_,_,rfl⟩
  ·omega
  ·exact h.fd _ _ _ _ a.P
 | close=>exact q (h.fd _ _ _ _ _)
 | Z4=>exact q (h.fd _ _ _ _ a.P)
 | Aw=>
  refine q ?_;split
  ·exact(h.fd _ _ _ a.O a.P).fd _ _ _ _ _
  ·grind [KA.Pw.rest]
 | mh=>exact q (h.rest a.g a.v a.f _ _)
 | cC=>exact h.yj ok og _ _ _ _
 | GY=>exact q (h.rest a.g a.v a.f _ a.P)
def KA.Pw.step{a a1:KA}{c c1:KC}{x:jA}{e:Int}(h:a.Pw)(ok:a.Ok T)(hT:T<=800000)(s:a.sH c c1 x a1 n e):a1.Pw:=by
 have q:∀ {b:KA} {P:Prop} [Decidable P],b.Pw->(if P then a else b).Pw:=fun hb=>by
  grind
 cases s with
 | jo _=>exact h.jo ok.o0 _ _
 | exit _=>exact h.fA ok.o0 _ _
 | dM _=>exact q (h.rest _ _ _ a.O a.P)
 | load _=>exact h.Rr ok (fun hb=>hb.rest _ _ _ _ _) _ _ _
 | store _=>exact h.Rr ok (fun hb=>hb.rest _ _ _ _ _) _ _ _
 | l8 _ _ _=>exact h
 | Z7 _=>exact h.rest _ a.v a.f a.O a.P
 | Bf _ _ _=>
  refine q (h.same (fun p=>⟨(we _ _ _ p).1,?_⟩) rfl);show(ad a.u _ _ p).aA=_;by_cases e:p=x.a
  ·rw[e,ah]
  ·grind [ae]
 | add _ _ _=>exact q (h.rest _ a.v a.f a.O a.P)
 | qE _ r _ _=>exact h.B6 ok hT r
end Go.X.Kn

namespace Go.X.Kn
open Go Go.X
section
variable{k:KP}{mb:Nat->Nat}{s:Sp.SS}
end
theorem afU:∀ p:Int,S0.b8 0 p=if p=1 then 0 else-1:=fun p=>by
 have h:S0.b8=bW Sp.SS.cR.b8 0 1 0:=by rfl
 rw[h];unfold bW;by_cases c:p=1
 ·omega
 ·rw[if_neg fun q=>c q.2,if_neg c];rfl
def rJ.Gg(a b:Int):0+1<2/\rJ a b (0+1)=iI b:=⟨og,rfl⟩
section
variable{k:KP}{mb:Nat->Nat}{s:Sp.SS}
end
end Go.X.Kn

namespace Go.X.Kn
open Go Go.X Go.X.Fa Go.X.Sg Go.X.Sp Go.X.Vm
def A0:KA:= {u:=ad (fun _=>PA.nil) 0 ⟨1,-1,0,0,fun _=>0,BS.cR⟩,g:=G0,s:=S0,aK:=fun _=>1,v:=VB.cR,f:=fun _=>Vm.MS.nil,P:=Tr.PS.cR,O:=Tr.OS.dR}
theorem J7(g:Int)(hg:0<=g):∀ k,vI (fun _=>Vm.MS.nil) g k=0
 | 0=>rfl
 | k+1=>by
  have e:∀ j,cM Vm.MS.nil.fr g j=0:=fun j=>by
   induction j with
   | zero=>rfl
   | succ j ih=>rw[cM,ih,show Vm.MS.nil.fr j=0 from rfl,if_neg og];rfl
  rw[vI,J7 g hg k,e];rfl
theorem AS(n:Int):A0.u n=if n=0 then⟨1,-1,0,0,fun _=>0,BS.cR⟩else PA.nil:=rfl
def Yq:A0.Ok 2:=by
 have hS:S0=Sp.SS.cR.fI (fun _=>1) 0 0:=by rfl
 refine⟨⟨og,Gr.TG.Inv.cR.bI 0 1 0,(Gr.TG.cb.cR.bI Gr.TG.Inv.cR.ok 0 1 0).mono og,Sp.SS.Inv.cR.enter 0 0,⟨Vm.Sys.cR.jM.congr fun g a b=>(J7 g a 1).trans (J7 g a 20).symm,fun _ _=>Vm.MS.Ok.nil⟩,fun _ _ _ _=>rfl,Tr.PS.Inv.cR.mono og,Tr.OS.Inv.dR.mono og,fun m a b=> ?_,fun n=> ?_,fun n hn=> ?_,fun n i=> ?_,fun n=> ?_⟩,fun p _ _ _ _=>.inl ?_,⟨rfl,rfl,by show S0.b8 0 1=0;rw[afU,if_pos rfl]⟩,rfl⟩
 ·show _↔0<=ad (GC 20) 0 0 m;rw[AS];by_cases c:m=0
  ·grind [ah]
  ·rw[ae _ _ c,if_neg c];unfold GC;rw[if_pos og];exact⟨fun q=>absurd rfl q,fun q=>absurd q og⟩
 ·rw[AS];split
  ·simp_all
  ·exact .inl rfl
 ·grind [AS]
 ·rw[AS];split<;>exact⟨Int.le_refl 0,by show(0:Int)<=24;omega⟩
 ·rw[AS];split<;>rfl
 ·have e:(A0.u p).bx=BS.cR:=by rw[AS];split<;>rfl
  rw[e];exact Xl.cR.e
theorem Yr(b:KZ)(c:KC):adM (kp A0 b c) (c.mb 0):=⟨by
 funext n
 show(A0.u n).pu (c.mb n.toNat)=_
 by_cases h:n=0
 ·subst h;rw[ah];rfl
 ·rw[ae _ _ h,AS,if_neg h];rfl⟩
theorem afV:ka A0=He (fun _=>false) (0:Int).toNat:=by
 have h:=Rm (a:= {A0 with u:=fun _=>PA.nil}) (n:=0) (p:=⟨1,-1,0,0,fun _=>0,BS.cR⟩) ⟨og,og⟩ dq;have e:ka {A0 with u:=fun _=>PA.nil} =fun _=>false:=by
  funext j;unfold ka;exact decide_eq_false fun q=>q.2 rfl
 grind [A0]
theorem afW:mF A0=He (fun _=>false) (0:Int).toNat:=by
 have h0:∀ z:Int,A0.s.aa z=decide (z=0):=fun z=>by
  rfl
 grind [kB,mF]
theorem ab3(z:Int):S0.aa z=decide (z=0):=by
 rfl
theorem afX(b:KZ)(c:KC)(ob mb:Nat)(t:TB)(hm:c.mb=bD (fun _=>0) (0:Int).toNat mb)(ht:c.t=bD (fun _=>t) (0:Int).toNat t)(K:KP)(hK:K= {KP.raw b.gb b.sb b.qb b.bb b.tb b.pi with ob:=b.ob}):({K with ms:=ad K.ms 0 (ay t.b 0 0)} :KP).put 0 (EJ mb)=kp A0 b c:=by
 subst hK;refine KP.ext (fun m=> ?_) ?_ ⟨⟨rfl,rfl,rfl,rfl⟩,rfl,rfl,rfl⟩
 ·show _=(A0.u m).pu (c.mb m.toNat);by_cases e:m=0
  ·subst e;rw[KP.uB,hm,ly];rfl
  ·rw[KP.BN _ _ e,AS,if_neg e];rfl
 ·show ad (fun _=>Value.pointer none) 0 (ay t.b 0 0)=fun z=>if S0.aa z then ay (c.t z.toNat).b 0 0 else .pointer none
  rw[ht];grind [ab3,bD,ad]
def ai2{q:SC}(h:q.toSF=Q2):∀ m,0<=m->m<20->q.aa (10+m)=true->(A0.u m).st=1:=fun m m0 m1 hm=>by
 have hm:q.toSF.aa (10+m)=true:=hm;rw[h,show Q2=Q1.gN dK 0 true from rfl,Fa.SF.sj]at hm;by_cases e:m=0
 ·subst e;rfl
 ·have h2:=(Fa.SF.Hw (s:=Fa.SF.cR) hm).resolve_left e;have h3:ad (fun _:Int=>false) 0 true (10+m)=true:=h2;grind [ae]
end Go.X.Kn

namespace Go.X.Kn
open Go Go.X
variable{T:Int}
def KA.Fx(a:KA):List Int:=Vm.fF (fun n=>decide ((a.u n).st=1)) 20
def adX:A0.Pw:=by
 have ok:=Yq;refine⟨fun p p0 q=> ?_,fun z z0 z1 hz=> ?_,by rw[AS,if_pos rfl]⟩
 ·rw[AS,if_neg p0]at q;exact absurd rfl q
 ·have hz:S0.aa z=true:=hz;have e:z=0:=by
   rcases(show z=0\/z=1\/z=2\/z=3\/z=4\/z=5 by omega)with e | e | e | e | e | e
   ·omega
   all_goals(rw[e]at hz;exact absurd hz dk)
  grind [KA.Ok.r0,KA.R0.b8,KA.R0.st,KA.R0.loc]
def kG(g g':Gr.TG):Prop:=g'.aa=g.aa/\g'.aA=g.aA/\g'.mp=g.mp/\g'.mg=g.mg
theorem kG.refl(g:Gr.TG):kG g g:=⟨rfl,rfl,rfl,rfl⟩
def kG.trans{a b c:Gr.TG}(h:kG a b)(k:kG b c):kG a c:=⟨k.1.trans h.1,k.2.1.trans h.2.1,k.2.2.1.trans h.2.2.1,k.2.2.2.trans h.2.2.2⟩
theorem sJ(g:Gr.TG)(n p m:Int):kG g (g.eb n p m):=by unfold Gr.TG.eb;split<;>exact kG.refl g
theorem nZ(g:Gr.TG)(n p m:Int):kG g (g.bI n p m):=by unfold Gr.TG.bI;split<;>exact kG.refl g
def Fy{a:KA}(ok:a.zk T){n:Int}(c:a.nl n=0):(∀ p,p≠(a.dG n 20).aW->(a.eT n).u p=a.u p/\(a.eT n).s.loc p=a.s.loc p/\∀ z q,0<=p->((a.eT n).s.b8 z q=p↔a.s.b8 z q=p))/\(a.eT n).u (a.dG n 20).aW=PA.nil:=by
 obtain⟨_,hr,hs,hp,_⟩:=pQ c;unfold KA.eT;rw[if_pos c];generalize (a.dG n 20).aW=x at*;obtain⟨_,h1,i1,_⟩:=ok.AM (p:=x) og;have es:(a.dD x).s=a.s.left x:=by
  show(a.s.fL x).2=_;unfold Sp.SS.fL;rw[i1,if_neg (show ¬(a.s.loc x,(0:Int)).2≠0 from fun q=>q rfl)]
 have S:=pD.one (a.dD x) (a.sz x);refine⟨fun p e=>⟨by rw[S.u];exact ll _ e,by rw[S.loc,es];exact ae _ _ e,fun z q p0=> ?_⟩,by rw[S.u];exact ah _ _ _⟩;rw[S.b8,es];show(if a.s.b8 z q=x then(-1:Int)else a.s.b8 z q)=p↔_;split
 ·constructor
  ·intro k;omega
  ·intro k;omega
 ·exact Iff.rfl
theorem Fz{f g:Int->Bool} :∀ (k:Nat),(∀ n:Int,0<=n->n<k->f n=g n)->Vm.fF f k=Vm.fF g k
 | 0,_=>rfl
 | k+1,h=>by
  unfold Vm.fF;rw[Fz k fun n a b=>h n a og,h k og og]
theorem FA{f g:Int->Bool} :∀ (k:Nat),(∀ n:Int,0<=n->n<k->f n=g n)->Sp.fF f k=Sp.fF g k
 | 0,_=>rfl
 | k+1,h=>by
  unfold Sp.fF;rw[FA k fun n a b=>h n a og,h k og og]
theorem afY{b:KA}(ok:b.zk T){z q p:Int}(hz:b.s.is z=0)(hp:0<=p)(e:b.s.b8 z q=p):b.s.js p z=(q,0):=by
 obtain⟨m1,m2,m3,_⟩:=ok.wk.sI.mem z q p hp e;exact Sp.SS.Ep hz og og e (fun j j0 j1 f=>by
  have:=ok.wk.sI.inj z q j (by rw[e];exact hp) (f.trans e.symm)
  omega)
def sz0{b:KA}(ok:b.zk T):b.sz 0=0/\b.s.is 0=0:=by
 obtain⟨_,_,i1,i2,_⟩:=ok.AM (p:=0) (by rw[ok.r0.st];decide);rw[ok.r0.loc]at i1 i2;exact⟨by unfold KA.sz;rw[i1],i2⟩
def H1:KA:=A0.gH 0 true
def H2:KA:=H1.gH 0 false
end Go.X.Kn
