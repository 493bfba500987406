import Derived.Test.YthdinakloheinaaGreatDoorkJO
set_option linter.all false
namespace Go.X.Kn
open Go Go.X Go.X.Fa Go.X.Sg Go.X.Sp Go.X.Tr Go.X.Vm
variable{aS:Bool}{T i n p z:Int}{aL:Int->Nat}
theorem MB{v:VB}{f:Nat->Vm.MS}{k z c:Nat}(h:Vm.Sys v f k)(hz:z<k)(hc:c<k)(fM:c≠z)(hn:f c=Vm.MS.nil)(hk:k<=60):Vm.Sys (v.iA (f z)) (bE (bE f z (f z).bare) c (f z).bare) k:=by
 have hm:=h.mo z hz;have hb:(f z).bare.Ok:=⟨hm.f,hm.lo,hm.un,fun _ _=>rfl,hm.inj⟩;have e0:∀ g:Int,0<=g->cM (fun _:Int=>(0:Int)) g 16=0:=fun g hg=>by
  have im:∀ j,cM (fun _:Int=>(0:Int)) g j=0:=fun j=>by
   induction j with
   | zero=>rfl
   | succ j ih=>rw[cM,ih,if_neg og];rfl
  simp_all
 refine⟨(h.jL.iA hm fun g a b=>⟨zB f g hz,by have:=LP f g k;show wi f g k<=1000;omega⟩).congr fun g a b=> ?_,fun j hj=> ?_⟩
 ·have e1:(bE f z (f z).bare) c=Vm.MS.nil:=by rw[lV _ _ fM];exact hn
  rw[show bE (bE f z (f z).bare) c (f z).bare=Vm.bE (Vm.bE f z (f z).bare) c (f z).bare from rfl];rw[rW _ g hc,rW f g hz,show Vm.bE f z (f z).bare c=Vm.MS.nil from e1];show _=wi f g k-cM (f z).fr g 16+cM (f z).fr g 16-cM (fun _:Int=>(0:Int)) g 16+cM (f z).fr g 16;simp_all
 ·show(bE (bE f z (f z).bare) c (f z).bare j).Ok;by_cases e:j=c
  ·grind [bE]
  ·rw[lV _ _ e];by_cases e2:j=z
   ·grind [bE]
   ·rw[lV _ _ e2];exact h.mo j hj
def KA.free(a:KA):Int:=match dv (fun k=>decide ((a.u k).st=0)) 20 with
 | some k=>k
 | none=>20
def KA.pL{a:KA}{c:Int}(h0:0<=c/\c<20)(h1:(a.u c).st=0)(h2:∀ j:Int,0<=j->j<c->(a.u j).st≠0):a.free=c:=by
 unfold KA.free;rw[eo (k:=c) (m:=20) h0.1 og (decide_eq_true h1) fun j j0 j1=>decide_eq_false (h2 j j0 j1)];grind
theorem KA.Bu{a:KA}(h:∀ j:Int,0<=j->j<20->(a.u j).st≠0):a.free=20:=by
 grind [KA.free,dC]
def KA.free_spec(a:KA):a.free=20\/((0<=a.free/\a.free<20)/\(a.u a.free).st=0):=by
 grind [KA.free,dv]
def KU(f:Int->Int)(O:Tr.OS):Nat->Tr.OS
 | 0=>O
 | k+1=>if f (k:Int)>0 then p8 (KU f O k) (f (k:Int)-1)else KU f O k
theorem Ol{f:Int->Int}(O:Tr.OS)(hi:0<=i)(h:f i>0):KU f O (i+1).toNat=p8 (KU f O i.toNat) (f i-1):=by
 rw[show(i+1).toNat=i.toNat+1 by omega];grind [KU]
theorem Ki{f:Int->Int}(O:Tr.OS)(hi:0<=i)(h:¬f i>0):KU f O (i+1).toNat=KU f O i.toNat:=by
 rw[show(i+1).toNat=i.toNat+1 by omega];grind [KU]
def BD{f:Int->Int}{O:Tr.OS}{T:Int}(h:O.Inv T):∀ k:Nat,(KU f O k).Inv (T+k)
 | 0=>by have:=h;simpa [KU]using this
 | k+1=>by
  have h1:=BD (f:=f) h k;unfold KU;split
  ·have:=h1.ZN (f (k:Int)-1);grind
  ·exact h1.mono og
def KA.sz(a:KA)(n:Int):Int:=(a.s.bM n).1
def KA.Cu(a:KA)(n:Int):Int:=(a.f n.toNat).Cu
def KA.gC(a:KA)(n:Int):Gr.TG:=a.g.cr (a.u n).lv 1 (a.Cu n)
def KA.gE(a:KA)(n:Int):Int:=a.g.cY (a.u n).lv 1 (a.Cu n)
def KA.inE(a:KA)(n:Int)(aS:Bool):Int:=if aS then(a.s.add a.aL (a.sz n)).2.1 else 0
def KA.sH(a:KA)(n:Int)(aS:Bool):Int:=if aS then(a.s.add a.aL (a.sz n)).1 else a.sz n
def KA.sA(a:KA)(n:Int)(aS:Bool):Sp.SS:=if aS then(a.s.add a.aL (a.sz n)).2.2 else a.s
def KA.dA(a:KA)(n:Int)(aS:Bool):Int->Nat:=if aS then a.s.Pr a.aL (a.sz n)else a.aL
def KA.Kj(a:KA)(n:Int):PA:=⟨1,n,(a.u n).lv,0,(a.u n).fd,(a.u n).bx.aW⟩
def KA.cH(a:KA)(n:Int)(aS:Bool):KA:=
 {u:=ad a.u a.free (a.Kj n),g:=a.gC n,s:=((a.sA n aS).enter (a.dA n aS) (a.sH n aS) a.free).2.2,aL:=a.dA n aS,v:=a.v.iA (a.f n.toNat),f:=bE (bE a.f n.toNat (a.f n.toNat).bare) a.free.toNat (a.f n.toNat).bare,P:=a.P,O:=KU (a.u n).fd a.O 6}
def KA.kB(a:KA)(n:Int)(aS:Bool):Int:=if a.aH n≠0 then a.aH n else if a.free=20 then 4 else if a.gE n≠0 then a.gE n else a.inE n aS
def KA.fy(a:KA)(n:Int)(aS:Bool):KA:=if a.aH n≠0\/a.free=20\/a.gE n≠0 then a else
 if a.inE n aS≠0 then {a with g:=(a.gC n).fU (a.u n).lv 1 (a.Cu n)} else a.cH n aS
def KA.kQ(a:KA)(n:Int)(aS:Bool):Int:=if a.kB n aS=0 then((a.cH n aS).s.gh a.free (a.sz n)).1 else 0
def DK{g:Gr.TG}{m:Int}(h:g.cY n p m≠0):g.cr n p m=g:=if_neg h
def Kk(x:BS):x.aW.first 0=0:=by
 rfl
theorem SS.Inv.is0{s:Sp.SS}(h:s.Inv aL)(hp:0<=p/\p<20)(hl:0<=s.loc p):s.bM p=(s.loc p,0)/\s.is (s.loc p)=0/\(0<=s.loc p/\s.loc p<6)/\s.aa (s.loc p)=true:=by
 have h1:=h.loc p;have h2:=h.at_ p hp.1 hp.2 hl;refine⟨by unfold Sp.SS.bM;rw[if_neg og,if_neg og],?_,og,h2⟩;unfold Sp.SS.is;rw[if_neg og,if_pos h2]
theorem SS.Inv.OG{s:Sp.SS}(h:s.Inv aL)(hn:0<=n/\n<6/\s.aa n=true)(hp:0<=p/\p<20)(hl:¬ 0<=s.loc p){q:Int}(hw:0<=s.bG z q):(s.eR aL n p).bG z q=s.bG z q:=by
 obtain⟨e1,e2⟩:=uG p (s.cF aL n) s.bG (Sp.SS.uF h.D _ n rfl hn.1 hn.2.1 hn.2.2) fun a _=>h.free hp hl a;show iv s.bG p (s.cF aL n) z q=_;grind
structure KA.Bf (a:KA) (n:Int) (aS:Bool):Prop where
 jA:(0<=a.free/\a.free<20)/\(a.u a.free).st=0
 loc:¬ 0<=(a.sA n aS).loc a.free
 ec:(a.sA n aS).Inv (a.dA n aS)
 zr:0<=a.sH n aS/\a.sH n aS<6/\(a.sA n aS).aa (a.sH n aS)=true
 is:(a.sA n aS).is (a.sH n aS)=0
 lo:(a.sA n aS).loc=a.s.loc
 bG:(a.sA n aS).bG=a.s.bG
 d0:a.dA n aS 0=a.aL 0
 en:(a.cH n aS).s=(a.sA n aS).eR (a.dA n aS) (a.sH n aS) a.free
 z:0<=a.sz n/\a.sz n<6/\a.s.aa (a.sz n)=true
 cF:a.sz n∈(a.sA n aS).cF (a.dA n aS) (a.sH n aS)
 hr:∀ y,a.s.aa y=true->(a.sA n aS).aa y=true
def KA.Wk.fkI{a:KA}(w:a.Wk T)(hh:a.s.aa 0=true)(hl:a.aH n=0)(hf:a.free≠20)(hE:a.inE n aS=0):a.Bf n aS:=by
 obtain⟨hn,hs⟩:=bX hl;have Vf:=a.free_spec.resolve_left hf;have h1:=(w.lc n hn.1 hn.2).1 og;obtain⟨i1,i2,i3,i4⟩:=SS.Inv.is0 w.sI hn h1;have ez:a.sz n=a.s.loc n:=by unfold KA.sz;rw[i1]
 have I3:¬ 0<=a.s.loc a.free:=fun q=>((w.lc _ Vf.1.1 Vf.1.2).2 q) Vf.2;cases aS with
 | false=>
  have e1:a.sA n false=a.s:=rfl;have e2:a.dA n false=a.aL:=rfl;have e3:a.sH n false=a.s.loc n:=ez;refine⟨Vf,I3,w.sI,by rw[e3];exact⟨i3.1,i3.2,i4⟩,by rw[e3];exact i2,rfl,rfl,rfl,?_,by rw[ez];exact⟨i3.1,i3.2,i4⟩,?_,fun y q=>q⟩
  ·show(a.s.enter a.aL (a.sH n false) a.free).2.2=_;rw[e3,Sp.SS.xd i2 og I3];rfl
  ·rw[ez,e3];show _∈a.s.cF a.aL (a.s.loc n);unfold Sp.SS.cF;obtain⟨d1,_,_⟩:=w.sI.D.d _ i3.1 i3.2 i4;obtain⟨k,hk⟩:∃ k,a.aL (a.s.loc n)=k+1:=⟨a.aL (a.s.loc n)-1,og⟩;rw[hk];exact .head _
 | true=>
  have hE:(a.s.add a.aL (a.sz n)).2.1=0:=hE;rcases a.s.mF a.aL (a.sz n)with⟨q,_,_⟩ | ⟨k,q1,q2,q3,q4,q5⟩
  ·omega
  ·have e1:a.sA n true= {a.s with aa:=ad a.s.aa k true,ax:=ad a.s.ax k (a.sz n)} :=by show(a.s.add a.aL (a.sz n)).2.2=_;rw[q5]
   have e2:a.dA n true=ad a.aL k (a.aL (a.sz n)+1):=by show a.s.Pr a.aL (a.sz n)=_;unfold Sp.SS.Pr;rw[if_pos hE,q5]
   have e3:a.sH n true=k:=by show(a.s.add a.aL (a.sz n)).1=k;rw[q5]
   have hkh:(a.sA n true).aa k=true:=by rw[e1];exact aj _ _ _
   have vH:(a.sA n true).is k=0:=by unfold Sp.SS.is;rw[if_neg og,if_pos hkh]
   have afm:¬ 0<=(a.sA n true).loc a.free:=by rw[e1];exact I3
   have hk0:(0:Int)≠k:=by rintro rfl;rw[hh]at q4;cases q4
   have hkz:a.sz n≠k:=by rintro e;rw[ez]at e;rw[e,q4]at i4;cases i4
   refine⟨Vf,afm,w.sI.add _,by rw[e3];exact⟨q3.1,q3.2,hkh⟩,by rw[e3];exact vH,by rw[e1],by rw[e1],by rw[e2,ae _ _ hk0],?_,by rw[ez];exact⟨i3.1,i3.2,i4⟩,?_,fun y q=> ?_⟩
   ·show((a.sA n true).enter (a.dA n true) (a.sH n true) a.free).2.2=_;rw[e3,Sp.SS.xd vH og afm]
   ·rw[e3,e2,e1];unfold Sp.SS.cF;rw[aj];refine .tail _ ?_;show a.sz n∈Sp.SS.je _ (a.aL (a.sz n)) (ad a.s.ax k (a.sz n) k);rw[aj];obtain⟨d1,_,_⟩:=w.sI.D.d _ i3.1 i3.2 i4;obtain⟨j,hj⟩:∃ j,a.aL (a.sz n)=j+1:=⟨a.aL (a.sz n)-1,by rw[ez];omega⟩;rw[hj];exact .head _
   simp_all[ad]
theorem KA.Bf.o8{a:KA}(h:a.Bf n aS):(a.cH n aS).s.loc=ad a.s.loc a.free (a.sH n aS):=by
 rw[h.en];show ad (a.sA n aS).loc a.free (a.sH n aS)=_;rw[h.lo]
theorem KA.Bf.yt{a:KA}(h:a.Bf n aS):(a.cH n aS).s.aa=(a.sA n aS).aa:=by rw[h.en];rfl
theorem KA.Bf.eG{a:KA}(h:a.Bf n aS){q:Int}(hw:0<=a.s.bG z q):(a.cH n aS).s.bG z q=a.s.bG z q:=by
 rw[h.en,SS.Inv.OG h.ec h.zr h.jA.1 h.loc (by rw[h.bG];exact hw),h.bG]
theorem KA.Bf.sI{a:KA}(h:a.Bf n aS):(a.cH n aS).s.Inv (a.dA n aS):=by rw[h.en];exact h.ec.eR h.zr h.jA.1 h.loc
theorem KA.Bf.gh{a:KA}{n:Int}{aS:Bool}(h:a.Bf n aS):((a.cH n aS).s.gh a.free (a.sz n)).2=0/\(a.cH n aS).s.bG (a.sz n) ((a.cH n aS).s.gh a.free (a.sz n)).1=a.free/\1<=((a.cH n aS).s.gh a.free (a.sz n)).1/\((a.cH n aS).s.gh a.free (a.sz n)).1<=20:=by
 have hI:=h.sI;have hl:(a.cH n aS).s.loc a.free=a.sH n aS:=by rw[h.o8,aj]
 have lE:(a.cH n aS).s.cF (a.dA n aS) (a.sH n aS)=(a.sA n aS).cF (a.dA n aS) (a.sH n aS):=by
  rw[h.en];exact Sp.SS.la (s:=a.sA n aS) (s':=(a.sA n aS).eR (a.dA n aS) (a.sH n aS) a.free) rfl _ _
 obtain⟨q,hq⟩:=hI.has a.free h.jA.1.1 h.jA.1.2 (by rw[hl];exact h.zr.1) (a.sz n) (by rw[hl,lE];exact h.cF);have hzh:(a.cH n aS).s.aa (a.sz n)=true:=by rw[h.yt];exact h.hr _ h.z.2.2
 have vH:(a.cH n aS).s.is (a.sz n)=0:=by unfold Sp.SS.is;rw[if_neg (by have:=h.z;omega),if_pos hzh]
 obtain⟨_,q2,q3,_⟩:=hI.mem _ q a.free h.jA.1.1 hq;have e:(a.cH n aS).s.gh a.free (a.sz n)=(q,0):=Sp.SS.Cj vH (by have:=h.jA;omega) og hq (fun j j0 j1 e=>by
  have:=hI.inj (a.sz n) q j (by rw[hq];exact h.jA.1.1) (e.trans hq.symm)
  omega)
 grind
theorem KA.Ok.cH{a:KA}{T:Int}(h:a.Ok T)(hT:T<=900000){n:Int}{aS:Bool}(hl:a.aH n=0)(hf:a.free≠20)(hE:a.inE n aS=0):(a.cH n aS).Ok (T+10):=by
 have w:=h.wk;have hI:=w.fkI (SS.Inv.il w.sI h.r0.loc) hl hf hE;have KN:=hI.jA.1;obtain⟨hn,hs⟩:=bX hl;have fM:n≠a.free:=by rintro e;have:=hI.jA.2;rw[<-e,hs]at this;exact absurd this dq
 have hu:∀ m,m≠a.free->(a.cH n aS).u m=a.u m:=fun m hm=>ae _ _ hm;have Vg:(a.cH n aS).u a.free=a.Kj n:=aj _ _ _;have WR:a.f a.free.toNat=Vm.MS.nil:=w.tU _ hI.jA.1.1 hI.jA.1.2 (by rw[hI.jA.2];decide);refine⟨⟨⟨by have:=w.T0;omega,og⟩,w.gI.cr _ _ _,(w.gS.cr w.gI.ok _ _ _).mono og,hI.sI,?_,fun m a0 a1 q=> ?_,w.PI.mono og,(BD w.OI 6).mono og,fun m a0 a1=> ?_,fun m=> ?_,fun m hm=> ?_,fun m i=> ?_,fun m=> ?_⟩,fun p h0 h1 _ h3=> ?_,⟨?_,?_,?_⟩,hI.d0.trans h.d0⟩
 ·grind [MB,KA.Wk.sys,KA.cH]
 ·by_cases e:m=a.free
  ·subst e;rw[Vg]at q;exact absurd rfl q
  ·rw[hu m e]at q;show bE (bE a.f n.toNat _) a.free.toNat _ m.toNat=_;grind [lV,KA.Wk.tU]
 ·rw[hI.o8];by_cases e:m=a.free
  ·subst e;rw[Vg,aj];exact⟨fun _=>hI.zr.1,fun _=>(by decide:(1:Int)≠0)⟩
  grind [ae,KA.Wk.lc]
 ·by_cases e:m=a.free
  ·subst e;rw[Vg];exact .inr (.inl rfl)
  grind [KA.Wk.st]
 ·grind [KA.Wk.out]
 ·by_cases e:m=a.free
  ·subst e;rw[Vg];exact w.fd n i
  ·rw[hu m e];exact w.fd m i
 ·by_cases e:m=a.free
  ·subst e;rw[Vg];rfl
  grind [KA.Wk.bx]
 ·by_cases e:p=a.free
  ·subst e;rw[Vg];exact .inl (Kk _)
  ·rw[hu p e]at h3 ⊢;rw[hI.o8,ae _ _ e];rcases h.hx p h0 h1 og h3 with q | q;all_goals grind [KA.Bf.eG]
 ·grind [KA.Bf.jA,KA.Ok.r0,KA.R0.st]
 ·rw[hI.o8,ae _ _ (by rintro e;have:=hI.jA.2;rw[<-e,h.r0.st]at this;exact absurd this dq)];exact h.r0.loc
 grind [KA.Bf.eG,KA.Ok.r0,KA.R0.bG]
def KA.Wk.Hy{a:KA}{T':Int}(w:a.Wk T)(hT:T<=T')(Ql:T'<=1000000){g:Gr.TG}(hg:g.Inv)(hS:g.bR (1000*T')):({a with g:=g} :KA).Wk T':=⟨⟨by have:=w.T0;omega,Ql⟩,hg,hS,w.sI,w.sys,w.tU,w.PI.mono hT,w.OI.mono hT,w.lc,w.st,w.out,w.fd,w.bx⟩
def KA.Ok.Hy{a:KA}{T T':Int}(h:a.Ok T)(hT:T<=T')(Ql:T'<=1000000){g:Gr.TG}(hg:g.Inv)(hS:g.bR (1000*T')):({a with g:=g} :KA).Ok T':=⟨h.wk.Hy hT Ql hg hS,h.hx.same (fun _=>⟨rfl,rfl⟩) rfl,h.r0.same rfl rfl,h.d0⟩
theorem KA.Ok.iA{a:KA}(h:a.Ok T)(hT:T<=900000)(n:Int)(aS:Bool):(a.fy n aS).Ok (T+10):=by
 unfold KA.fy;split
 ·grind [KA.Ok.up]
 ·rename_i c;split
  ·exact h.Hy og og ((h.wk.gI.cr _ _ _).fU _ _ _) (tW (h.wk.gI.cr _ _ _) ((h.wk.gS.cr h.wk.gI.ok _ _ _).mono og) _ _ _)
  grind [KA.Ok.cH]
structure WF where
 kids:Int
 aW:Int
 gh:Int
 gJ:Int
def KA.cL(a:KA)(n:Int):Nat->WF
 | 0=>⟨0,-1,0,0⟩
 | k+1=>
  if(a.u (k:Int)).st=0\/(a.u (k:Int)).ax≠n then a.cL n k else
  if(a.s.gh k (a.sz n)).2=0/\(a.u (k:Int)).st=2/\((a.cL n k).aW<0\/(a.s.gh k (a.sz n)).1<(a.cL n k).gh)then⟨(a.cL n k).kids+1,k,(a.s.gh k (a.sz n)).1,(a.u (k:Int)).gJ⟩
  else⟨(a.cL n k).kids+1,(a.cL n k).aW,(a.cL n k).gh,(a.cL n k).gJ⟩
def KA.lC(a:KA)(n:Int):Int:=if a.aH n≠0 then a.aH n else if(a.cL n 20).kids=0 then 2 else if(a.cL n 20).aW<0 then 8 else 0
def KA.fH(a:KA)(n:Int):KA:=if a.lC n=0 then(a.eI (a.cL n 20).aW).dt (a.sz (a.cL n 20).aW)else a
def KA.yv(a:KA)(n:Int):Int:=if a.lC n=0 then(a.cL n 20).gh else 0
def KA.yw(a:KA)(n:Int):Int:=if a.lC n=0 then(a.cL n 20).gJ else 0
def KA.WI(a:KA)(n:Int)(x:WF)(k:Int):Prop:=(0<=x.kids/\x.kids<=k)/\(x.aW<0\/((0<=x.aW/\x.aW<k)/\(a.u x.aW).st=2/\(a.u x.aW).ax=n/\a.s.gh x.aW (a.sz n)=(x.gh,0)/\x.gJ=(a.u x.aW).gJ))
def KA.Hz(a:KA)(n:Int):∀ k:Nat,a.WI n (a.cL n k) k
 | 0=>⟨⟨Int.le_refl _,Int.le_refl _⟩,.inl (by show(-1:Int)<0;omega)⟩
 | k+1=>by
  obtain⟨h1,h2⟩:=a.Hz n k;grind [KA.cL,KA.WI]
def q9{a:KA}(h:a.lC n=0):a.aH n=0/\(0<=(a.cL n 20).aW/\(a.cL n 20).aW<20)/\(a.u (a.cL n 20).aW).st=2/\(a.u (a.cL n 20).aW).ax=n/\a.s.gh (a.cL n 20).aW (a.sz n)=((a.cL n 20).gh,0)/\(a.cL n 20).gJ=(a.u (a.cL n 20).aW).gJ:=by
 unfold KA.lC at h;split at h
 ·omega
 ·split at h
  ·omega
  ·split at h
   ·omega
   ·have:=(a.Hz n 20).2.resolve_left aq;simp_all
def KA.Ok.YJ{a:KA}{T:Int}(h:a.Ok T){m:Int}(hm:0<=m/\m<20)(hs:(a.u m).st=2):(a.eI m).Ok T:=
 ⟨h.wk.eI hm og,h.hx.eI,h.r0.YJ (by rintro rfl;have:=h.r0.st;omega),h.d0⟩
def KA.Ok.YK{a:KA}{T:Int}(h:a.Ok T)(z:Int):(a.dt z).Ok T:=⟨h.wk.dt z,h.hx.dt z,h.r0.YK z,h.d0⟩
def KA.Ok.db{a:KA}(h:a.Ok T)(n:Int):(a.fH n).Ok T:=by
 unfold KA.fH;split
 ·rename_i c;obtain⟨_,h2,h3,_⟩:=q9 c;exact(h.YJ h2 h3).YK _
 omega
theorem Om{a:KA}{b:KZ}{c c':KC}(w:a.Wk T)(hI:a.Bf n aS){nb:Nat}(hm:c'.mb=bE c.mb a.free.toNat nb){K:KP}(hu:K.u=(kp a b c).u)(hk:(K.gb=b.gb/\K.sb=b.sb/\K.qb=b.qb/\K.bb=b.bb)/\K.tb=b.tb/\K.pi=b.pi/\K.ob=b.ob)(hms:K.ms=(kp (a.cH n aS) b c').ms):K.put a.free ((kp a b c).gx n nb)=kp (a.cH n aS) b c':=by
 refine KP.ext (fun m=> ?_) hms hk;by_cases e:m=a.free
 ·subst e;rw[KP.sE];show _=(ad a.u a.free (a.Kj n) a.free).pu (c'.mb a.free.toNat);rw[aj,hm,rU];rfl
 ·rw[KP.zy _ _ e,hu];show(a.u m).pu (c.mb m.toNat)=(ad a.u a.free (a.Kj n) m).pu (c'.mb m.toNat);rw[ae _ _ e,hm];by_cases q:m.toNat=a.free.toNat
  ·have:=hI.jA;rw[w.out m og];rfl
  grind [bE]
theorem Kl{a:KA}(hI:a.Bf n aS):ka (a.cH n aS)=ET (ka a) a.free.toNat:=(uR fun _ _ _=>Iff.rfl).trans (NT (p:=a.Kj n) hI.jA.1 (by decide:(1:Int)≠0))
def Vh{a:KA}(hI:a.Bf n false):mh (a.cH n false)=mh a:=by
 unfold mh;rw[hI.yt];rfl
theorem QM{a:KA}(hI:a.Bf n true)(hE:(a.s.add a.aL (a.s.bM n).1).2.1=0):mh (a.cH n true)=ET (mh a) (a.s.add a.aL (a.s.bM n).1).1.toNat:=by
 have h2:(a.sA n true).aa=ad a.s.aa (a.s.add a.aL (a.s.bM n).1).1 true:=by
  show(a.s.add a.aL (a.s.bM n).1).2.2.aa=_;rcases a.s.mF a.aL (a.s.bM n).1 with⟨q,_,_⟩ | ⟨k,_,_,_,_,q5⟩;all_goals simp_all
 have hz:=hI.zr;have hz:0<=(a.s.add a.aL (a.s.bM n).1).1/\(a.s.add a.aL (a.s.bM n).1).1<6:=⟨hz.1,hz.2.1⟩;funext j;rw[Bool.eq_iff_iff,jF,Bw,Bw,hI.yt,h2];grind [aj,ae]
theorem lD(F:Tr.FF)(n:Int):(F.dy n).roots=F.roots:=by unfold Tr.FF.dy;split<;>rfl
def AR:∀ (l:List MT) (F:Tr.FF),(xX F l).roots=F.roots
 | [],_=>rfl
 | m::r,F=>(AR r _).trans ((lD _ _).trans (lD _ _))
theorem se(F:Tr.FF)(l:List MT)(r:WH):(NR F l r).roots=F.roots:=(AR l _).trans (lD _ _)
theorem si{s:Sp.SS}(h:(s.add aL p).2.1=0):(0<=(s.add aL p).1/\(s.add aL p).1<6)/\s.aa (s.add aL p).1=false/\(s.add aL p).2.2.aa=ad s.aa (s.add aL p).1 true:=by
 rcases s.mF aL p with⟨q,_,_⟩ | ⟨k,_,_,h3,h4,q5⟩;all_goals simp_all
def acQ{a:KA}(h:0<=z/\z<6)(hs:a.s.aa z=false):mh a z.toNat=false:=by
 grind [mh]
def Vi{a:KA}(h:0<=n/\n<20)(hs:(a.u n).st=0):ka a n.toNat=false:=by
 grind [ka]
theorem KA.kf(a:KA)(n:Int)(h:0<=i):a.cL n (i+1).toNat=if(a.u i).st=0\/(a.u i).ax≠n then a.cL n i.toNat else if(a.s.gh i (a.sz n)).2=0/\(a.u i).st=2/\((a.cL n i.toNat).aW<0\/(a.s.gh i (a.sz n)).1<(a.cL n i.toNat).gh)then⟨(a.cL n i.toNat).kids+1,i,(a.s.gh i (a.sz n)).1,(a.u i).gJ⟩else⟨(a.cL n i.toNat).kids+1,(a.cL n i.toNat).aW,(a.cL n i.toNat).gh,(a.cL n i.toNat).gJ⟩:=by
 rw[show(i+1).toNat=i.toNat+1 by omega];grind [KA.cL]
def cR.Vj{a:KA}{c:KC}{N:Nat}(h:cR a c N T)(hI:a.Bf n aS){q1 q2:SC}{d1:Int->Nat}{g w:Int}(h1:q1.toSF=c.q.toSF.sM a.free g w)(h2:q2.toSF=q1.toSF.fZ d1 a.free true):∀ m,0<=m->m<20->q2.aa (10+m)=true->((a.cH n aS).u m).st=1:=fun m m0 m1 hm=>by
 have hm:q2.toSF.aa (10+m)=true:=hm;rw[h2,Fa.SF.uC,h1]at hm;show(ad a.u a.free (a.Kj n) m).st=1;by_cases e:m=a.free
 ·rw[e,aj];rfl
 ·rw[ae _ _ e];exact h.tk m m0 m1 ((Fa.SF.Fb hm).resolve_left e)
end Go.X.Kn

namespace Go.X.Kn
open Go Go.Proofs Go.X Go.X.Sg
set_option maxRecDepth 20000
set_option maxHeartbeats 4000000
attribute [local irreducible] KA.aU KA.cD
def HA(a:KA)(b:KZ)(c:KC)(N:Nat)(T:Int)(ho:a.Ok T)(hc:cR a c N T)(hT:T<=800000)(n co:Int):Spec Tryz.prog 16 [aA b.kb 0 0,iI n,iI co] (df a b c [.ro 0 0 32 dD]) (fun v H1=>v=az 102 (a.pP n co)/\∃ c1:KC,cR (a.iS n co) c1 N T/\H1=(df (a.iS n co) b c1 [])):=by
 refine Spec.go 32 [0,1,2,6,8,16,23,26] [] Tryz.func16 fun W=> ?_;refine ca (eW b.kb (kp a b c) n) .h1 ?_;rintro _ _ ⟨⟨hl,rfl⟩ | ⟨hl,rfl⟩,rfl⟩
 ·obtain⟨kx,iy⟩:=bI hl;have hl:a.aH n=0:=hl;have iy:(a.u n).st=1:=iy;refine gO ?_;refine sp 20 rfl ?_ ?_<;>intro h1
  ·refine bS (pz 17) ?_;try dsimp only[aK,aJ,aG,aR]
   grind [KA.pP,KA.iS,az]
  ·refine cd rfl ?_ ?_<;>intro h2
   ·refine bS (pz 17) ?_;try dsimp only[aK,aJ,aG,aR]
    grind [KA.pP,KA.iS,az]
   ·refine cd rfl ?_ ?_<;>intro h3
    ·refine bS (pz 17) ?_;try dsimp only[aK,aJ,aG,aR]
     grind [KA.pP,KA.iS,az]
    ·refine vl 17 (BC a b c N T ho.wk hc og n co iy (ho.hx.any n)) (pz 18) rfl ?_;rintro _ _ ⟨c1,ie,rfl⟩;refine gO ?_;refine bS (pz 17) ?_;try dsimp only[aK,aJ,aG,aR]
     grind [KA.pP,KA.iS,az]
 ·have hl:a.aH n≠0:=hl;have jv:(kp a b c).aH n=a.aH n:=rfl;rw[jv];refine gO ?_;refine bS (pz 17) ?_;grind [aK,aJ,KA.pP,KA.iS,az]
def acR(a:KA)(b:KZ)(c:KC)(N:Nat)(T:Int)(ho:a.Ok T)(hc:cR a c N T)(hT:T<=800000)(n sg y:Int):Spec Tryz.prog 23 [aA b.kb 0 0,iI n,iI sg,iI y] (df a b c [.ro 0 0 32 dD]) (fun v H1=>v=az 102 (a.Vd n sg y)/\∃ c1:KC,cR (a.z8 n sg y) c1 N T/\H1=(df (a.z8 n sg y) b c1 [])):=by
 refine Spec.go 31 [0,1,2,3,8,9,10,18,26] [] Tryz.func23 fun W=> ?_;refine ca (eW b.kb (kp a b c) n) .h1 ?_;rintro _ _ ⟨⟨hl,rfl⟩ | ⟨hl,rfl⟩,rfl⟩
 ·obtain⟨kx,iy⟩:=bI hl;have hl:a.aH n=0:=hl;have iy:(a.u n).st=1:=iy;refine gO ?_;refine XR.mono (fun _ bK=>jX (k:=kp a b c) (n:=n) og .h1 bK) ?_;refine ca (aeW b.kb (0+jM n) (a.u n).bx sg y) .h1 ?_;rintro _ _ ⟨rfl,rfl⟩;by_cases sP:((a.u n).bx.set sg y).1=0
  ·rw[sP,jm];refine gO ?_;refine XR.mono (fun _ bK=>mI (k:=kp a b c) (n:=n) og (pz 3) bK) ?_;try unfold df
   rw[zL];try unfold df
   rw[<-uT a n ((a.u n).bx.set sg y).2,<-yi a n ((a.u n).bx.set sg y).2];refine vl 17 (yj (a.ic n ((a.u n).bx.set sg y).2) b c N T (ho.wk.ic kx (u6 _ _ _ (ho.wk.bx n))) (hc.box _ _) og n kx false (by rw[fp];exact iy) ((ho.hx.any n).box _)) (pz 18) rfl ?_;rintro _ _ ⟨c1,ie,rfl⟩;refine gO ?_;refine bS (pz 17) ?_;try dsimp only[aK,aJ,aG,aR]
   grind [KA.Vd,KA.z8,az]
  ·rw[aV _ sP];refine gO ?_;rw[YO sP];refine XR.mono (fun _ bK=>ni (k:=kp a b c) (n:=n) og (pz 3) bK) ?_;refine bS (pz 17) ?_;grind [aK,aJ,KA.Vd,KA.z8,aV]
 ·have hl:a.aH n≠0:=hl;have jv:(kp a b c).aH n=a.aH n:=rfl;rw[jv];refine gO ?_;refine bS (pz 17) ?_;grind [aK,aJ,KA.Vd,KA.z8,az]
def HB(a:KA)(b:KZ)(c:KC)(N:Nat)(T:Int)(ho:a.Ok T)(hc:cR a c N T)(hT:T<=800000)(n sg:Int):Spec Tryz.prog 24 [aA b.kb 0 0,iI n,iI sg,.bool true] (df a b c [.ro 0 0 32 dD]) (fun v H1=>v=az 102 (a.vF n sg true)/\∃ c1:KC,cR (a.lB n sg true) c1 N T/\H1=(df (a.lB n sg true) b c1 [])):=by
 refine Spec.go 31 [0,1,2,3,8,9,10,18,26] [] Tryz.func24 fun W=> ?_;refine ca (eW b.kb (kp a b c) n) .h1 ?_;rintro _ _ ⟨⟨hl,rfl⟩ | ⟨hl,rfl⟩,rfl⟩
 ·obtain⟨kx,iy⟩:=bI hl;have hl:a.aH n=0:=hl;have iy:(a.u n).st=1:=iy;refine gO ?_;refine XR.mono (fun _ bK=>jX (k:=kp a b c) (n:=n) og .h1 bK) ?_;refine ca (J4 b.kb (0+jM n) (a.u n).bx sg) .h1 ?_;rintro _ _ ⟨rfl,rfl⟩;by_cases sP:((a.u n).bx.dy sg true).1=0
  ·rw[sP,jm];refine gO ?_;refine XR.mono (fun _ bK=>mI (k:=kp a b c) (n:=n) og (pz 3) bK) ?_;try unfold df
   rw[zL];try unfold df
   rw[<-uT a n ((a.u n).bx.dy sg true).2,<-yi a n ((a.u n).bx.dy sg true).2];refine vl 17 (yj (a.ic n ((a.u n).bx.dy sg true).2) b c N T (ho.wk.ic kx (o7 _ _ _ (ho.wk.bx n))) (hc.box _ _) og n kx false (by rw[fp];exact iy) ((ho.hx.any n).box _)) (pz 18) rfl ?_;rintro _ _ ⟨c1,ie,rfl⟩;refine gO ?_;refine bS (pz 17) ?_;try dsimp only[aK,aJ,aG,aR]
   grind [KA.vF,KA.lB,az]
  ·rw[aV _ sP];refine gO ?_;rw[Kf sP];refine XR.mono (fun _ bK=>ni (k:=kp a b c) (n:=n) og (pz 3) bK) ?_;refine bS (pz 17) ?_;grind [aK,aJ,KA.vF,KA.lB,aV]
 ·have hl:a.aH n≠0:=hl;have jv:(kp a b c).aH n=a.aH n:=rfl;rw[jv];refine gO ?_;refine bS (pz 17) ?_;grind [aK,aJ,KA.vF,KA.lB,az]
def EI(a:KA)(b:KZ)(c:KC)(N:Nat)(T:Int)(ho:a.Ok T)(hc:cR a c N T)(hT:T<=800000)(n sg:Int):Spec Tryz.prog 24 [aA b.kb 0 0,iI n,iI sg,.bool false] (df a b c [.ro 0 0 32 dD]) (fun v H1=>v=az 102 (a.vF n sg false)/\∃ c1:KC,cR (a.lB n sg false) c1 N T/\H1=(df (a.lB n sg false) b c1 [])):=by
 refine Spec.go 31 [0,1,2,3,8,9,10,18,26] [] Tryz.func24 fun W=> ?_;refine ca (eW b.kb (kp a b c) n) .h1 ?_;rintro _ _ ⟨⟨hl,rfl⟩ | ⟨hl,rfl⟩,rfl⟩
 ·obtain⟨kx,iy⟩:=bI hl;have hl:a.aH n=0:=hl;have iy:(a.u n).st=1:=iy;refine gO ?_;refine XR.mono (fun _ bK=>jX (k:=kp a b c) (n:=n) og .h1 bK) ?_;refine ca (Hi b.kb (0+jM n) (a.u n).bx sg) .h1 ?_;rintro _ _ ⟨rfl,rfl⟩;by_cases sP:((a.u n).bx.dy sg false).1=0
  ·rw[sP,jm];refine gO ?_;refine XR.mono (fun _ bK=>mI (k:=kp a b c) (n:=n) og (pz 3) bK) ?_;try unfold df
   rw[zL];try unfold df
   rw[<-uT a n ((a.u n).bx.dy sg false).2,<-yi a n ((a.u n).bx.dy sg false).2];refine vl 17 (yj (a.ic n ((a.u n).bx.dy sg false).2) b c N T (ho.wk.ic kx (o7 _ _ _ (ho.wk.bx n))) (hc.box _ _) og n kx false (by rw[fp];exact iy) ((ho.hx.any n).box _)) (pz 18) rfl ?_;rintro _ _ ⟨c1,ie,rfl⟩;refine gO ?_;refine bS (pz 17) ?_;try dsimp only[aK,aJ,aG,aR]
   grind [KA.vF,KA.lB,az]
  ·rw[aV _ sP];refine gO ?_;rw[Kf sP];refine XR.mono (fun _ bK=>ni (k:=kp a b c) (n:=n) og (pz 3) bK) ?_;refine bS (pz 17) ?_;grind [aK,aJ,KA.vF,KA.lB,aV]
 ·have hl:a.aH n≠0:=hl;have jv:(kp a b c).aH n=a.aH n:=rfl;rw[jv];refine gO ?_;refine bS (pz 17) ?_;grind [aK,aJ,KA.vF,KA.lB,az]
def YP(a:KA)(b:KZ)(c:KC)(N:Nat)(T:Int)(ho:a.Ok T)(hc:cR a c N T)(hT:T<=800000)(n sg:Int)(on:Bool):Spec Tryz.prog 24 [aA b.kb 0 0,iI n,iI sg,.bool on] (df a b c [.ro 0 0 32 dD]) (fun v H1=>v=az 102 (a.vF n sg on)/\∃ c1:KC,cR (a.lB n sg on) c1 N T/\H1=(df (a.lB n sg on) b c1 [])):=by
 cases on
 ·exact EI a b c N T ho hc hT n sg
 ·exact HB a b c N T ho hc hT n sg
def Vk(a:KA)(b:KZ)(c:KC)(aL:Int->Nat)(hI:a.s.Inv aL)(n q:Int):Spec Tryz.prog 18 [aA b.kb 0 0,iI n,iI q] [.cells b.kb 0 453 (aD (kp a b c)),.cells b.sb 0 158 (Sp.aO a.s)] (fun v H1=>v= .tuple #[iI (a.pH n q).1,az 102 (a.pH n q).2]/\H1=[.cells b.kb 0 453 (aD (kp a b c)),.cells b.sb 0 158 (Sp.aO a.s)]):=aeV b.kb (kp a b c) a.s aL hI n q
def yx(a:KA)(b:KZ)(c:KC)(hf:∀ n i,0<=(a.u n).fd i/\(a.u n).fd i<=24)(n i:Int):Spec Tryz.prog 69 [aA b.kb 0 0,iI n,iI i] [.cells b.kb 0 453 (aD (kp a b c))] (fun v H1=>v= .tuple #[iI (a.dg n i),az 102 (a.eN n i)]/\H1=[.cells b.kb 0 453 (aD (kp a b c))]):=acJ b.kb (kp a b c) n i hf
def BE(a:KA)(b:KZ)(c:KC)(n:Int)(hn:0<=n/\n<20)(x:Int)(hx:0<=x:=by omega):Spec Tryz.prog 67 [aA b.kb 0 (0+0+n.toNat*22),iI x] [.cells b.kb 0 453 (aD (kp a b c))] (fun v H1=>v=iI (jJ (a.u n).fd x)/\H1=[.cells b.kb 0 453 (aD (kp a b c))]):=acI b.kb (kp a b c) n hn x hx
def YQ(a:KA)(b:KZ)(c:KC)(N:Nat)(T:Int)(ho:a.Ok T)(hc:cR a c N T)(hT:T<=800000)(n:Int):Spec Tryz.prog 26 [aA b.kb 0 0,iI n] (df a b c [.ro 0 0 32 dD]) (fun v H1=>v= .tuple #[iI (a.DG n),az 102 (a.DF n)]/\∃ c1:KC,cR (a.q7 n) c1 N T/\H1=(df (a.q7 n) b c1 [])):=by
 refine Spec.go 30 [0,1,4,5,6,7,8,9,17,27] [] Tryz.func26 fun W=> ?_;refine ca (eW b.kb (kp a b c) n) .h1 ?_;rintro _ _ ⟨⟨hl,rfl⟩ | ⟨hl,rfl⟩,rfl⟩
 ·obtain⟨kx,iy⟩:=bI hl;have hl:a.aH n=0:=hl;have iy:(a.u n).st=1:=iy;refine gO ?_;refine XR.mono (fun _ bK=>jX (k:=kp a b c) (n:=n) og .h1 bK) ?_;refine HQ 1 (abW b.kb (0+jM n) (a.u n).bx (ho.wk.bx n)) (pk [0,18]) rfl ?_;refine XR.mono (fun _ bK=>mI (k:=kp a b c) (n:=n) og (pk [0,1,1]) bK) ?_;try unfold df
  rw[zL];try unfold df
  rw[<-uT a n ((a.u n).bx.take).2,<-yi a n ((a.u n).bx.take).2];refine cd rfl ?_ ?_<;>intro h1
  ·refine bC rfl rfl rfl (ai (pk [0,1,1,1,1,1,1,1,1,1,1,1,1,1,1,1,1]) rfl ?_);have ht:((a.u n).bx.take).1=0:=by first | assumption | omega | simp_all
   have e1:a.DF n=2:=by unfold KA.DF;rw[if_neg og,if_pos ht]
   have e2:a.DG n=0:=by unfold KA.DG;rw[if_neg og,ht]
   have e3:a.q7 n=a.ic n ((a.u n).bx.take).2:=by unfold KA.q7;rw[if_neg og]
   rw[e1,e2,e3];exact⟨rfl,c,hc.box _ _,rfl⟩
  ·refine bC rfl rfl rfl (ai (pk [0,1,1,1,1,1,1,1,1,1,1,1,1,1,1,1,1]) rfl ?_);have ht:¬((a.u n).bx.take).1=0:=by first | assumption | omega | simp_all
   have e1:a.DF n=0:=by unfold KA.DF;rw[if_neg og,if_neg ht]
   have e2:a.DG n=((a.u n).bx.take).1:=by unfold KA.DG;rw[if_neg og]
   have e3:a.q7 n=a.ic n ((a.u n).bx.take).2:=by unfold KA.q7;rw[if_neg og]
   rw[e1,e2,e3];exact⟨rfl,c,hc.box _ _,rfl⟩
 ·have hl:a.aH n≠0:=hl;have jv:(kp a b c).aH n=a.aH n:=rfl;rw[jv];refine gO ?_;refine eH (pz 17) ?_;grind [aK,aJ,aR,KA.DF,KA.DG,KA.q7,az]
def QN(a:KA)(b:KZ)(c:KC)(N:Nat)(T:Int)(ho:a.Ok T)(hc:cR a c N T)(hT:T<=800000)(n q sg:Int):Spec Tryz.prog 78 [aA b.kb 0 0,iI n,iI q,iI sg] (df a b c [.ro 0 0 32 dD]) (fun v H1=>v=az 102 (a.me n q sg)/\∃ c1:KC,cR (a.jo n q sg) c1 N T/\H1=(df (a.jo n q sg) b c1 [])):=by
 refine Spec.go 42 [0,1,2,3,8,9,10,19,26,29] [] Tryz.func78 fun W=> ?_;refine cq (Vk a b c a.aL ho.wk.sI n q) (pk [0,1]) ?_;refine cd rfl ?_ ?_<;>intro h1
 ·refine bh rfl rfl (ai (pk [0,1,0,0,0,0,0,0,0,0,0,0,0,0,0,0,0]) rfl ?_);grind [aK,aJ,KA.me,KA.jo]
 ·refine sp 23 rfl ?_ ?_<;>intro h2
  ·refine bh rfl rfl (ai (pk [0,1,0,0,0,0,0,0,0,0,0,0,0,0,0,0,0]) rfl ?_);try dsimp only[aK,aJ,aG,aR]
   grind [KA.me,KA.jo,az]
  ·refine cd rfl ?_ ?_<;>intro h3
   ·refine bh rfl rfl (ai (pk [0,1,0,0,0,0,0,0,0,0,0,0,0,0,0,0,0]) rfl ?_);try dsimp only[aK,aJ,aG,aR]
    grind [KA.me,KA.jo,az]
   ·refine cd rfl ?_ ?_<;>intro h4
    ·refine bh rfl rfl (ai (pk [0,1,0,0,0,0,0,0,0,0,0,0,0,0,0,0,0]) rfl ?_);try dsimp only[aK,aJ,aG,aR]
     grind [KA.me,KA.jo,az]
    ·refine cq (jK b.kb (kp a b c) a.s _) (pz 2) ?_;refine cq (jK b.kb (kp a b c) a.s n) (pz 2) ?_;refine vl 17 (Vb a b c N T ho.wk hc og (a.pH n q).1 sg _ (ho.hx.any _)) (pk [0,1,0,0,0,0,0,0,0,0,0,0,0,0,0,0,0,0]) rfl ?_;rintro _ _ ⟨c1,ie,rfl⟩;refine gO ?_;refine bS (pz 17) ?_;try dsimp only[aK,aJ,aG,aR]
     grind [KA.me,KA.jo,az]
open Go.X.Tr
def On:Tryz.prog.info? 102=some Tryz.t102:=kq
theorem cR.same{a a':KA}{c:KC}{N:Nat}{T T':Int}(h:cR a c N T)(hT:T<=T')(e:a'.s=a.s)(hu:∀ n,(a.u n).st=1->(a'.u n).st=1:=by exact fun _ q=>q):cR a' c N T':=⟨h.qO.mono (Nat.le_refl _) og,h.qR,FF.Ok.up h.F hT,h.rp,h.rc,h.rl,fun z h0 h1 h2=>h.tb z h0 h1 (by rwa[e]at h2),fun n n0 n1 hn=>hu n (h.tk n n0 n1 hn)⟩
theorem Vl(a:KA)(n i v j w:Int)(O:Tr.OS)(P:Tr.PS):ka {a with u:=Bc (Bc a.u n i v) n j w,O:=O,P:=P} =ka a:=by grind [jq,ka]
def C7{F:Tr.FF}{d:Int->Nat}{B:Int}(h:F.Ok d B)(O:Tr.OS)(n:Int)(x:ByteArray):(fQ F O n x).Ok d (B+1):=by
 unfold fQ;split
 ·exact h.b7 _ _ _
 ·exact h.up1
def Vn(a:KA)(b:KZ)(c:KC)(N:Nat)(T:Int)(ho:a.Ok T)(hc:cR a c N T)(hT:T<=800000)(n i:Int):Spec Tryz.prog 25 [aA b.kb 0 0,iI n,iI i] (df a b c []) (fun v H1=>v=az 102 (a.j7 c.F.toFF n i)/\∃ c1:KC,cR (a.sc n i) c1 N T/\H1=(df (a.sc n i) b c1 [])):=by
 refine Spec.go 33 [0,1,2,6,7,8,17] [] Tryz.func25 fun W=> ?_;refine cq (yx a b c ho.wk.fd n i) .h1 ?_;refine cd rfl ?_ ?_<;>intro h1
 ·refine bS (pz 17) ?_;grind [aK,aJ,KA.j7,KA.sc]
 ·have HP:a.eN n i=0:=og;obtain⟨hn,hs,hi,hf,hv⟩:=KA.r7 HP;have YG:=ho.wk.fd n i;refine sd (sd (st .aa (lx _ hn hi _) rfl (ld .aa (gq _) ?_)));refine ca (Oe _ _ _ _ _ T og ho.wk.OI c.F (hc.F.sh og) T og _ ho.wk.PI (a.dg n i)) (pk [14,9,9,9,10]) ?_;rintro _ _ ⟨rfl,F1,My,KT,Hm,rfl⟩;refine gO ?_;refine bh rfl rfl (ai (pk [5,5,5,5,5,5,5,5,5,1,1,1,2,1,0,0,0]) rfl ?_);have e1:a.j7 c.F.toFF n i=Tr.j7 c.F.toFF a.P a.O (a.dg n i):=by unfold KA.j7;rw[if_neg og]
  have e2:a.sc n i= {a with u:=Bc a.u n i 0,O:=kG a.O (a.dg n i),P:=kF a.P a.O (a.dg n i)} :=by unfold KA.sc;rw[if_neg og]
  rw[e1,e2];refine⟨rfl,{c with F:=F1},⟨hc.qO,hc.qR,(by show F1.toFF.Ok _ _;rw[My];exact FF.Ok.tV hc.F _ _),KT.trans hc.rp,Hm.trans hc.rc,(by show F1.toFF.roots=_;rw[My,xU];exact hc.rl),hc.tb,fun m m0 m1 hm=>by rw[(jq _ _ _ _ _).1];exact hc.tk m m0 m1 hm⟩,?_⟩;try unfold df
  rw[Hw,DI a b c n i 0 (kG a.O (a.dg n i)) (kF a.P a.O (a.dg n i))];rfl
def acS(a:KA)(b:KZ)(c:KC)(N:Nat)(T:Int)(ho:a.Ok T)(hc:cR a c N T)(hT:T<=800000)(n i:Int):Spec Tryz.prog 164 [aA b.kb 0 0,iI n,iI i] (df a b c []) (fun v H1=>v= .tuple #[iI (a.Kh n i),az 102 (a.Kg n i)]/\∃ c1:KC,cR (a.Be n i) c1 N (T+1)/\H1=(df (a.Be n i) b c1 [])):=by
 refine Spec.go 47 [0,1,2,6,7,8,9,10,19,28] [] Tryz.func164 fun W=> ?_;refine cq (yx a b c ho.wk.fd n i) .h1 ?_;refine cd rfl ?_ ?_<;>intro h1
 ·refine eH (pz 17) ?_;have e1:a.Kg n i=a.eN n i:=by unfold KA.Kg;rw[if_pos og]
  have e2:a.Kh n i=0:=by unfold KA.Kh;rw[if_pos (.inl og)]
  have e3:a.Be n i=a:=by unfold KA.Be;rw[if_pos (.inl og)]
  rw[e1,e2,e3];exact⟨rfl,c,hc.up (Nat.le_refl _) og,rfl⟩
 ·have HP:a.eN n i=0:=og;obtain⟨hn,hs,hi,hf,hv⟩:=KA.r7 HP;have YG:=ho.wk.fd n i;refine sd ?_;refine cq (BE a b c n hn 0) .h1 ?_;refine cd rfl ?_ ?_<;>intro h2
  ·refine eH (pz 17) ?_;have B0:a.mQ n<0:=by unfold KA.mQ;omega
   have e1:a.Kg n i=4:=by unfold KA.Kg;rw[if_neg og,if_pos B0]
   have e2:a.Kh n i=0:=by unfold KA.Kh;rw[if_pos (.inr B0)]
   have e3:a.Be n i=a:=by unfold KA.Be;rw[if_pos (.inr B0)]
   rw[e1,e2,e3];exact⟨rfl,c,hc.up (Nat.le_refl _) og,rfl⟩
  ·have B0:=u7 (a.u n).fd 0;refine sd (sd (sd (st .aa (lx _ hn ⟨B0.1,B0.2.1⟩ _) rfl (ld .aa (gq _) ?_))));refine cq (Hs _ _ _ _ _ T og ho.wk.OI (a.dg n i)) (pk [14]) ?_;refine bC rfl rfl rfl (ai (pk [1,1,1,1,1,1,1,1,1,1,1,1,1,1,0,0,0]) rfl ?_);have hs2:¬a.mQ n<0:=by unfold KA.mQ;omega
   have e1:a.Kg n i=a.O.is (a.dg n i):=by unfold KA.Kg;rw[if_neg og,if_neg hs2]
   have e2:a.Kh n i=a.mQ n:=by unfold KA.Kh;rw[if_neg og]
   have e3:a.Be n i= {a with u:=Bc a.u n (a.mQ n) (a.dg n i+1),O:=p8 a.O (a.dg n i),P:=a.P} :=by unfold KA.Be;rw[if_neg og]
   rw[e1,e2,e3];refine⟨rfl,c,hc.same og rfl fun m q=>by rw[(jq _ _ _ _ _).1];exact q,?_⟩;try unfold df
   rw[Hw,<-DI a b c n (a.mQ n) (a.dg n i+1) (p8 a.O (a.dg n i)) a.P];rfl
set_option maxHeartbeats 8000000 in
def YR(a:KA)(b:KZ)(c:KC)(N:Nat)(T:Int)(ho:a.Ok T)(hc:cR a c N T)(hT:T<=800000)(n:Int):Spec Tryz.prog 20 [aA b.kb 0 0,iI n] (df a b c []) (fun v H1=>v= .tuple #[iI (a.yp n),iI (a.yq n),az 102 (a.ub n)]/\∃ c1:KC,cR (a.q8 n) c1 N (T+1)/\H1=(df (a.q8 n) b c1 [])):=by
 have hop:=F0 a.P a.O;have h1:a.mQ n=jJ (a.u n).fd 0:=rfl;have h2:a.DJ n=jJ (a.u n).fd (jJ (a.u n).fd 0+1):=rfl;refine Spec.go 62 [0,1,4,5,6,7,8,9,10,11,12,20,25,32,44] [] Tryz.func20 fun W=> ?_;refine ca (eW b.kb (kp a b c) n) .h1 ?_;rintro _ _ ⟨⟨hl,rfl⟩ | ⟨hl,rfl⟩,rfl⟩
 ·obtain⟨kx,iy⟩:=bI hl;have hl:a.aH n=0:=hl;have iy:(a.u n).st=1:=iy;refine gO ?_;refine cq (BE a b c n kx 0) .h1 ?_;refine cd rfl ?_ ?_<;>intro h1
  ·refine rt3 (pz 17) ?_;try dsimp only[aK,aJ,aG,aR]
   grind [KA.ub,KA.yp,KA.yq,KA.q8,cR.up,az]
  ·have B0:=u7 (a.u n).fd 0;refine sd ?_;refine cq (BE a b c n kx (jJ (a.u n).fd 0+1)) .h1 ?_;refine cd rfl ?_ ?_<;>intro h2
   ·refine rt3 (pz 17) ?_;try dsimp only[aK,aJ,aG,aR]
    grind [KA.ub,KA.yp,KA.yq,KA.q8,cR.up,az]
   ·have ZV:=u7 (a.u n).fd (jJ (a.u n).fd 0+1);refine ld .aa (gq _) ?_;refine cq (acB _ _ _ _ _ T og _ ho.wk.PI) (pk [14,13]) ?_;refine cd rfl ?_ ?_<;>intro h3
    ·refine wJ rfl rfl rfl rfl (ai (pk [2,2,2,2,2,2,2,2,2,2,2,2,2,1,0,0,0]) rfl ?_);try dsimp only[aK,aJ,aG,aR]
     have e1:a.ub n=kH a.P a.O:=by unfold KA.ub;rw[if_neg og,if_neg og]
     have h0:¬kH a.P a.O=0:=og;have e2:a.yp n=0:=by unfold KA.yp;rw[if_neg og]
     have e3:a.yq n=0:=by unfold KA.yq;rw[if_neg og]
     have e4:a.q8 n= {a with O:=nI a.P a.O,P:=nH a.P a.O} :=by unfold KA.q8;rw[if_neg og,if_neg h0]
     rw[e1,e2,e3,e4];exact⟨rfl,c,hc.same og rfl,rfl⟩
    ·refine rq [0,1,2,3,4,5,6,7,8,9,10,12,13,11,14,15] mixed (sd (sd (sd (st (.t2 .aa) (lx _ kx ⟨B0.1,B0.2.1⟩ _) rfl (sd (st (.t2 .aa) (lx _ kx ⟨ZV.1,ZV.2.1⟩ _) rfl (wJ rfl rfl rfl rfl (ai (pk [2,2,2,2,2,2,2,2,2,2,2,2,2,1,0,0,0]) rfl ?_))))))));try dsimp only[aK,aJ,aG,aR]
     have e1:a.ub n=kH a.P a.O:=by unfold KA.ub;rw[if_neg og,if_neg og]
     have h0:kH a.P a.O=0:=og;have e2:a.yp n=a.mQ n:=by unfold KA.yp;rw[if_pos og]
     have e3:a.yq n=a.DJ n:=by unfold KA.yq;rw[if_pos og]
     have e4:a.q8 n= {a with u:=Bc (Bc a.u n (a.mQ n) (nJ a.P a.O+1)) n (a.DJ n) (oY a.P a.O+1),O:=nI a.P a.O,P:=nH a.P a.O} :=by unfold KA.q8;rw[if_neg og,if_pos h0]
     rw[e1,e2,e3,e4,h0];refine⟨rfl,c,hc.same og rfl fun m q=>by rw[(jq _ _ _ _ _).1,(jq _ _ _ _ _).1];exact q,?_⟩;try unfold df
     rw[DI a b c n (jJ (a.u n).fd 0) (nJ a.P a.O+1) a.O a.P,DI {a with u:=Bc a.u n (jJ (a.u n).fd 0) (nJ a.P a.O+1),O:=a.O,P:=a.P} b c n (jJ (a.u n).fd (jJ (a.u n).fd 0+1)) (oY a.P a.O+1) (nI a.P a.O) (nH a.P a.O)];try unfold df
     rw[Vl];rfl
 ·have hl:a.aH n≠0:=hl;have jv:(kp a b c).aH n=a.aH n:=rfl;rw[jv];refine gO ?_;refine rt3 (pz 17) ?_;grind [aK,aJ,aR,KA.ub,KA.yp,KA.yq,KA.q8,aV,cR.up]
def YS(a:KA)(b:KZ)(c:KC)(N:Nat)(T:Int)(ho:a.Ok T)(hc:cR a c N T)(hT:T<=800000)(n i m:Int):Spec Tryz.prog 22 [aA b.kb 0 0,iI n,iI i,iI m] (df a b c []) (fun v H1=>v= .tuple #[.string (a.kA c.F.toFF n i m),az 102 (a.lZ c.F.toFF n i m)]/\∃ c1:KC,cR (a.yr c.F.toFF n i m) c1 N (T+1)/\H1=(df (a.yr c.F.toFF n i m) b c1 [])):=by
 refine Spec.go 31 [0,1,2,3,8,9,10,11,20] [] Tryz.func22 fun W=> ?_;refine cq (yx a b c ho.wk.fd n i) .h1 ?_;refine cd rfl ?_ ?_<;>intro h1
 ·refine eH (pz 17) ?_;grind [aK,aJ,aR,KA.lZ,KA.kA,KA.yr,cR.up]
 ·have HP:a.eN n i=0:=og;obtain⟨hn,hs,hi,hf,hv⟩:=KA.r7 HP;have YG:=ho.wk.fd n i;refine ld .aa (gq _) ?_;refine cq (acy _ _ _ _ _ T og ho.wk.OI c.F (hc.F.sh og) T og _ ho.wk.PI (a.dg n i) m) (pk [14,9,9,9,10]) ?_;refine bC rfl rfl rfl (ai (pk [5,5,5,5,5,5,5,5,5,1,1,1,2,1,0,0,0]) rfl ?_);have e1:a.lZ c.F.toFF n i m=tO c.F.toFF a.P a.O (a.dg n i) m:=by unfold KA.lZ;rw[if_neg og]
  have e2:a.kA c.F.toFF n i m=tP c.F.toFF a.P a.O (a.dg n i) m:=by unfold KA.kA;rw[if_neg og]
  have e3:a.yr c.F.toFF n i m= {a with O:=qa c.F.toFF a.O (a.dg n i) m,P:=p9 a.P a.O (a.dg n i) m} :=by unfold KA.yr;rw[if_neg og]
  rw[e1,e2,e3];exact⟨rfl,c,hc.same og rfl,rfl⟩
set_option maxHeartbeats 8000000 in
def Vo(a:KA)(b:KZ)(c:KC)(N:Nat)(T:Int)(ho:a.Ok T)(hc:cR a c N T)(hT:T<=800000)(n i:Int)(x:ByteArray)(hx:x.size<=1000000):Spec Tryz.prog 21 [aA b.kb 0 0,iI n,iI i,.string x] (df a b c [.ro 0 0 32 dD]) (fun v H1=>v= .tuple #[iI (a.Aa c.F.toFF n i x),az 102 (a.eT c.F.toFF n i x)]/\∃ c1:KC,cR (a.nK c.F.toFF n i x) c1 N (T+1)/\H1=(df (a.nK c.F.toFF n i x) b c1 [])):=by
 refine Spec.go 41 [0,1,2,3,8,9,10,11,12,21,35] [] Tryz.func21 fun W=> ?_;refine cq (yx a b c ho.wk.fd n i) .h1 ?_;refine cd rfl ?_ ?_<;>intro h1
 ·refine eH (pz 17) ?_;grind [aK,aJ,aR,KA.eT,KA.Aa,KA.nK,cR.up]
 ·have HP:a.eN n i=0:=og;obtain⟨hn,hs,hi,hf,hv⟩:=KA.r7 HP;have YG:=ho.wk.fd n i;refine ld .aa (gq _) ?_;refine ca (Yz _ _ _ _ _ T og ho.wk.OI c.F (hc.F.sh og) T og _ ho.wk.PI (a.dg n i) x hx) (pk [14,9,9,9,10]) ?_;rintro _ _ ⟨rfl,F1,My,KT,Hm,rfl⟩;have hcf:cR (a.uc c.F.toFF n i x) {c with F:=F1} N (T+1):=⟨hc.qO,hc.qR,(by show F1.toFF.Ok _ _;rw[My];exact C7 hc.F _ _ _),KT.trans hc.rp,Hm.trans hc.rc,(by show F1.toFF.roots=_;rw[My,ED];exact hc.rl),hc.tb,hc.tk⟩;refine gO ?_;refine XO.v (Nc rfl rfl dq Tryz.underlying33 On rfl Tryz.underlying102 rfl) rfl (gO ?_);refine cd rfl ?_ ?_<;>intro h2
  ·refine vl 17 (Vb (a.uc c.F.toFF n i x) b {c with F:=F1} N (T+1) (ho.AQ og c.F.toFF n i x).wk hcf og n 2 false ((ho.AQ og c.F.toFF n i x).hx.any n)) (pk [5,5,5,5,5,5,5,5,5,1,1,1,2,1,0,0,0,0]) rfl ?_;rintro _ _ ⟨c1,ie,rfl⟩;refine gO ?_;refine eH (pz 17) ?_;try dsimp only[aK,aJ,aG,aR]
   grind [KA.eT,KA.Aa,KA.nK]
  ·refine bC rfl rfl rfl (ai (pk [5,5,5,5,5,5,5,5,5,1,1,1,2,1,0,0,0]) rfl ?_);try dsimp only[aK,aJ,aG,aR]
   have e1:a.eT c.F.toFF n i x=(iE c.F.toFF a.P a.O (a.dg n i) x):=by unfold KA.eT;rw[if_neg og]
   have e2:a.Aa c.F.toFF n i x=jj c.F.toFF a.P a.O (a.dg n i) x:=by unfold KA.Aa;rw[if_neg og]
   have e3:a.nK c.F.toFF n i x=a.uc c.F.toFF n i x:=by unfold KA.nK;rw[if_neg og,if_neg og]
   rw[e1,e2,e3];exact⟨rfl,_,hcf,rfl⟩
def YT(a:KA)(b:KZ)(c:KC)(N:Nat)(T:Int)(ho:a.Ok T)(hc:cR a c N T)(hT:T<=800000)(n i z:Int):Spec Tryz.prog 165 [aA b.kb 0 0,iI n,iI i,iI z] (df a b c []) (fun v H1=>v=az 102 (a.nl n i z)/\∃ c1:KC,cR (a.vG n i z) c1 N (T+1)/\H1=(df (a.vG n i z) b c1 [])):=by
 refine Spec.go 28 [0,1,2,3,8,9,10,19] [] Tryz.func165 fun W=> ?_;refine cq (yx a b c ho.wk.fd n i) .h1 ?_;refine cd rfl ?_ ?_<;>intro h1
 ·refine bS (pz 17) ?_;have e1:a.nl n i z=a.eN n i:=by unfold KA.nl;rw[if_pos og]
  have e3:a.vG n i z=a:=by unfold KA.vG;rw[if_pos og]
  rw[e1,e3];exact⟨rfl,c,hc.up (Nat.le_refl _) og,rfl⟩
 ·have HP:a.eN n i=0:=og;obtain⟨hn,hs,hi,hf,hv⟩:=KA.r7 HP;have YG:=ho.wk.fd n i;refine ld .aa (gq _) ?_;refine cq (acz _ _ _ _ _ (a.dg n i) z) (pk [14]) ?_;refine bh rfl rfl (ai (pk [1,1,1,1,1,1,1,1,1,1,1,1,1,1,0,0,0]) rfl ?_);have e1:a.nl n i z=Tr.nl a.O (a.dg n i) z:=by unfold KA.nl;rw[if_neg og]
  have e3:a.vG n i z= {a with O:=vC a.O (a.dg n i) z,P:=a.P} :=by unfold KA.vG;rw[if_neg og]
  rw[e1,e3];exact⟨rfl,c,hc.same og rfl,rfl⟩
end Go.X.Kn

namespace Go.X.Kn
open Go Go.X Go.X.Vm
variable{n:Int}
theorem KA.Wk.mem{a:KA}{T:Int}(w:a.Wk T)(hn:0<=n/\n<20)(hl:(a.u n).st=1){v:VB}{m:Vm.MS}(hs:Vm.Sys v (bE a.f n.toNat m) 20){g:Gr.TG}(hg:g.Inv)(hG:g.bR (1000*T)):({a with v:=v,f:=bE a.f n.toNat m,g:=g} :KA).Wk T:=
 ⟨w.T0,hg,hG,w.sI,hs,fun p a0 a1 q=>by
  show bE a.f n.toNat m p.toNat=_
  have:p≠n:=by rintro rfl;exact q hl
  rw[lV _ _ og];exact w.tU p a0 a1 q,w.PI,w.OI,w.lc,w.st,w.out,w.fd,w.bx⟩
theorem KA.Ok.mem{a:KA}{T:Int}(h:a.Ok T){n:Int}(c:a.aH n=0){v:VB}{m:Vm.MS}(hs:Vm.Sys v (bE a.f n.toNat m) 20){g:Gr.TG}(hg:g.Inv)(hG:g.bR (1000*T)):({a with v:=v,f:=bE a.f n.toNat m,g:=g} :KA).Ok T:=
 ⟨h.wk.mem (bX c).1 (bX c).2 hs hg hG,h.hx.same (fun _=>⟨rfl,rfl⟩) rfl,h.r0.same rfl rfl,h.d0⟩
def KA.pZ(a:KA)(n f m:Int):Int:=if a.aH n≠0 then a.aH n else(a.f n.toNat).pZ f m
def KA.HC(a:KA)(n f m:Int)(w:Bool):KA:=if a.aH n≠0 then a else {a with v:=a.v,f:=bE a.f n.toNat ((a.f n.toNat).map f m w),g:=a.g}
theorem KA.Ok.map{a:KA}{T:Int}(h:a.Ok T)(n f m:Int)(w:Bool):(a.HC n f m w).Ok T:=by
 unfold KA.HC;split
 ·exact h
 ·rename_i c;have hn:=(bX (show a.aH n=0 by omega)).1;exact h.mem og (h.wk.sys.same og ((h.wk.sys.mo _ og).map _ _ _) (Vm.MS.abf _ _ _ _).1) h.wk.gI h.wk.gS
def KA.kM(a:KA)(n f m:Int):Int:=if a.aH n≠0 then a.aH n else(a.f n.toNat).kM f m
def KA.yy(a:KA)(n f m:Int)(w:Bool):KA:=if a.aH n≠0 then a else {a with v:=a.v,f:=bE a.f n.toNat ((a.f n.toNat).nh f m w),g:=a.g}
theorem KA.Ok.nh{a:KA}{T:Int}(h:a.Ok T)(n f m:Int)(w:Bool):(a.yy n f m w).Ok T:=by
 unfold KA.yy;split
 ·exact h
 ·rename_i c;have hn:=(bX (show a.aH n=0 by omega)).1;exact h.mem og (h.wk.sys.same og ((h.wk.sys.mo _ og).nh _ _ _) (Vm.MS.Xw _ _ _ _).1) h.wk.gI h.wk.gS
def KA.Km(a:KA)(n f m:Int):Int×Int×VB×Vm.MS:=(a.f n.toNat).fE a.v f m
def KA.ud(a:KA)(n f m:Int):Int:=if a.aH n≠0 then a.aH n else if(a.Km n f m).2.1≠0 then(a.Km n f m).2.1 else a.g.gi (a.u n).lv 0 (a.Km n f m).1
def KA.o9(a:KA)(n f m:Int):KA:=if a.aH n≠0 then a else {a with v:=(a.Km n f m).2.2.1,f:=bE a.f n.toNat (a.Km n f m).2.2.2,g:=if(a.Km n f m).2.1≠0 then a.g else a.g.fU (a.u n).lv 0 (a.Km n f m).1}
theorem KA.Ok.fE{a:KA}{T:Int}(h:a.Ok T)(n f m:Int):(a.o9 n f m).Ok T:=by
 unfold KA.o9;split
 ·omega
 ·rename_i c;have hn:=(bX (show a.aH n=0 by omega)).1;refine h.mem og (h.wk.sys.fE og _ _) ?_ ?_
  ·split
   ·exact h.wk.gI
   ·exact h.wk.gI.fU _ _ _
  grind [KA.Ok.wk,KA.Wk.gS,tW,KA.Wk.gI]
def KA.Bg(a:KA)(z:Int):Nat->Int×Int
 | 0=>(-1,0)
 | k+1=>if 1<=k/\a.aH (k:Int)=0/\a.g.under (a.u (k:Int)).lv z=true/\(a.Bg z k).2<a.Cu (k:Int)then((k:Int),a.Cu (k:Int))else a.Bg z k
theorem n5(a:KA)(z:Int){i:Int}(h:1<=i):a.Bg z (i+1).toNat=if a.aH i=0/\a.g.under (a.u i).lv z=true/\(a.Bg z i.toNat).2<a.Cu i then(i,a.Cu i)else a.Bg z i.toNat:=by
 rw[show(i+1).toNat=i.toNat+1 by omega];grind [KA.Bg]
theorem F2(a:KA)(z:Int):∀ k:Nat,(a.Bg z k).1= -1\/(1<=(a.Bg z k).1/\a.aH (a.Bg z k).1=0)
 | 0=>.inl rfl
 | k+1=>by
  unfold KA.Bg;split
  ·rename_i c;exact .inr ⟨by show(1:Int)<=(k:Int);omega,c.2.1⟩
  ·exact F2 a z k
def KA.gK(a:KA)(z:Int):Int:=(a.Bg z 20).1
def sj{a:KA}{z:Int}(h:¬a.gK z<0):1<=a.gK z/\a.aH (a.gK z)=0:=by
 grind [F2,KA.gK]
def KA.gj(a:KA)(n:Int):Option Int:=a.g.gj (a.u n).lv 0 1
def KA.my(a:KA)(n:Int):Nat->Int×KA
 | 0=>(6,a)
 | k+1=>if a.aH n≠0 then(6,a)else match a.gj n with
  | none=>(a.g.cY (a.u n).lv 0 1,{a with v:=a.v,f:=a.f,g:=a.g.cr (a.u n).lv 0 1})
  | some z=>if a.gK z<0 then(6,a)else(a.aU (a.gK z) 137).my n k
def F3{f g:Int->Bool}(h:∀ j,g j=true->f j=true):∀ k:Nat,Tr.qJ g k<=Tr.qJ f k
 | 0=>Int.le_refl _
 | k+1=>by
  unfold Tr.qJ;have:=F3 h k;have h2:=h (k:Int);cases hg:g (k:Int)with
  | false=>simp;split<;>omega
  | true=>rw[h2 hg];simp;omega
def Oo{f g:Int->Bool}(h:∀ j,g j=true->f j=true){n:Int}(hf:f n=true)(hg:g n=false):∀ k:Nat,0<=n->n<k->Tr.qJ g k<Tr.qJ f k
 | 0,h0,h1=>og
 | k+1,h0,h1=>by
  unfold Tr.qJ;by_cases e:(k:Int)=n
  ·have:=F3 h k;grind
  ·have:=Oo h hf hg k h0 og;grind
def KA.lvC(a:KA):Int:=Tr.qJ (fun j=>decide ((a.u j).st=1)) 20
def Ko(h p:Int):∀ (l:List Int) (a:KA),((l.foldl (KA.dN h) a).u p).st=1->(a.u p).st=1
 | [],_,q=>q
 | x::r,a,q=>by
  have q2:=Ko h p r (KA.dN h a x) q;by_cases e:p=x
  ·subst e;unfold KA.dN at q2;split at q2
   ·omega
   ·rw[show((if(a.u p).st=1 then a.cm p 0 else a).eI p).u p=PA.nil from aj _ _ _]at q2;exact absurd (show(0:Int)=1 from q2) dq
  grind [xZ]
theorem MD{a:KA}{co p:Int}(q:((a.aU n co).u p).st=1):p≠n/\(a.u p).st=1:=by
 have q1:((a.dW n co).u p).st=1:=by
  grind [KA.aU,KA.iW,fp,cW]
 have q2:((a.cm n co).u p).st=1:=by
  unfold KA.dW at q1;split at q1
  ·unfold KA.dG at q1;rw[Dd]at q1;exact Ko n p _ _ q1
  omega
 grind [nY,l8]
def QO{a:KA}{co:Int}(hn:0<=n/\n<20)(hl:(a.u n).st=1):(a.aU n co).lvC<a.lvC:=by
 refine Oo (n:=n) (fun j q=> ?_) ?_ ?_ 20 hn.1 og;all_goals grind [MD]
def KA.Oq(a:KA):0<=a.lvC/\a.lvC<=20:=Tr.Nu _ 20
def KA.bQ(a:KA)(n:Int):Int×KA:=a.my n 21
open Go.Proofs Go.X.Fa Go.X.Gr
set_option maxRecDepth 20000
set_option maxHeartbeats 4000000
attribute [local irreducible] KA.aU KA.cD
def acT(a:KA)(b:KZ)(c:KC)(N:Nat)(T:Int)(ho:a.Ok T)(hc:cR a c N T)(hT:T<=800000)(n f m:Int)(w:Bool):Spec Tryz.prog 79 [aA b.kb 0 0,iI n,iI f,iI m,.bool w] (df a b c []) (fun v H1=>v=az 102 (a.pZ n f m)/\∃ c1:KC,cR (a.HC n f m w) c1 N T/\H1=(df (a.HC n f m w) b c1 [])):=by
 refine Spec.go 30 [0,1,2,3,4,10,11,12,20] [] Tryz.func79 fun W=> ?_;refine ca (eW b.kb (kp a b c) n) .h1 ?_;rintro _ _ ⟨⟨hl,rfl⟩ | ⟨hl,rfl⟩,rfl⟩
 ·obtain⟨kx,iy⟩:=bI hl;have hl:a.aH n=0:=hl;have iy:(a.u n).st=1:=iy;have mj:=qd a b c (n:=n);have Ot:=ho.wk.sys.mo n.toNat og;refine gO ?_;refine XR.mono (fun _ bK=>kU (z:=n.toNat) (fG kx) (pk [7,7]) bK) ?_;refine ld (.t4 .aa) (dz _ og mj) ?_;refine ca (afa b.bb _ _ _ (a.f n.toNat) Ot _ _ _) (pz 2) ?_;rintro _ _ ⟨rfl,pu,cu,rfl⟩;refine gO ?_;refine XR.mono (fun _ bK=>lW ((a.f n.toNat).map f m w) (fG kx) (pz 4) bK) ?_;refine bh rfl rfl (ai (pk [2,2,2,2,2,2,2,0,0,0,0,0,0,0,0,0,0]) rfl ?_);have e1:a.pZ n f m=(a.f n.toNat).pZ f m:=by unfold KA.pZ;rw[if_neg og]
  have e2:a.HC n f m w= {a with v:=a.v,f:=bE a.f n.toNat ((a.f n.toNat).map f m w),g:=a.g} :=by unfold KA.HC;rw[if_neg og]
  rw[e1,e2];exact⟨rfl,{c with pp:=bE c.pp n.toNat pu,cc:=bE c.cc n.toNat cu},⟨hc.qO,hc.qR,hc.F,hc.rp,hc.rc,hc.rl,hc.tb,hc.tk⟩,rfl⟩
 ·have hl:a.aH n≠0:=hl;have jv:(kp a b c).aH n=a.aH n:=rfl;rw[jv];refine gO ?_;refine bS (pz 17) ?_;grind [aK,aJ,KA.pZ,KA.HC,az]
def ME(a:KA)(b:KZ)(c:KC)(N:Nat)(T:Int)(ho:a.Ok T)(hc:cR a c N T)(hT:T<=800000)(n f m:Int)(w:Bool):Spec Tryz.prog 80 [aA b.kb 0 0,iI n,iI f,iI m,.bool w] (df a b c []) (fun v H1=>v=az 102 (a.kM n f m)/\∃ c1:KC,cR (a.yy n f m w) c1 N T/\H1=(df (a.yy n f m w) b c1 [])):=by
 refine Spec.go 30 [0,1,2,3,4,10,11,12,20] [] Tryz.func80 fun W=> ?_;refine ca (eW b.kb (kp a b c) n) .h1 ?_;rintro _ _ ⟨⟨hl,rfl⟩ | ⟨hl,rfl⟩,rfl⟩
 ·obtain⟨kx,iy⟩:=bI hl;have hl:a.aH n=0:=hl;have iy:(a.u n).st=1:=iy;have mj:=qd a b c (n:=n);have Ot:=ho.wk.sys.mo n.toNat og;refine gO ?_;refine XR.mono (fun _ bK=>kU (z:=n.toNat) (fG kx) (pk [7,7]) bK) ?_;refine ld (.t4 .aa) (dz _ og mj) ?_;refine ca (Qw b.bb _ _ _ (a.f n.toNat) Ot _ _ _) (pz 2) ?_;rintro _ _ ⟨rfl,pu,cu,rfl⟩;refine gO ?_;refine XR.mono (fun _ bK=>lW ((a.f n.toNat).nh f m w) (fG kx) (pz 4) bK) ?_;refine bh rfl rfl (ai (pk [2,2,2,2,2,2,2,0,0,0,0,0,0,0,0,0,0]) rfl ?_);have e1:a.kM n f m=(a.f n.toNat).kM f m:=by unfold KA.kM;rw[if_neg og]
  have e2:a.yy n f m w= {a with v:=a.v,f:=bE a.f n.toNat ((a.f n.toNat).nh f m w),g:=a.g} :=by unfold KA.yy;rw[if_neg og]
  rw[e1,e2];exact⟨rfl,{c with pp:=bE c.pp n.toNat pu,cc:=bE c.cc n.toNat cu},⟨hc.qO,hc.qR,hc.F,hc.rp,hc.rc,hc.rl,hc.tb,hc.tk⟩,rfl⟩
 ·have hl:a.aH n≠0:=hl;have jv:(kp a b c).aH n=a.aH n:=rfl;rw[jv];refine gO ?_;refine bS (pz 17) ?_;grind [aK,aJ,KA.kM,KA.yy,az]
def Vp(a:KA)(b:KZ)(c:KC)(N:Nat)(T:Int)(ho:a.Ok T)(hc:cR a c N T)(hT:T<=800000)(n f m:Int):Spec Tryz.prog 42 [aA b.kb 0 0,iI n,iI f,iI m] (df a b c []) (fun v H1=>v=az 102 (a.ud n f m)/\∃ c1:KC,cR (a.o9 n f m) c1 N T/\H1=(df (a.o9 n f m) b c1 [])):=by
 refine Spec.go 44 [0,1,2,3,8,9,10,11,19,32] [] Tryz.func42 fun W=> ?_;refine ca (eW b.kb (kp a b c) n) .h1 ?_;rintro _ _ ⟨⟨hl,rfl⟩ | ⟨hl,rfl⟩,rfl⟩
 ·obtain⟨kx,iy⟩:=bI hl;have hl:a.aH n=0:=hl;have iy:(a.u n).st=1:=iy;have mj:=qd a b c (n:=n);have Ot:=ho.wk.sys.mo n.toNat og;refine gO ?_;refine XR.mono (fun _ bK=>kU (z:=n.toNat) (fG kx) (pk [7,7]) bK) ?_;refine ld (.t4 .aa) (dz _ og mj) ?_;refine ca (J8 b.bb b.vp (c.mb n.toNat) a.v ho.wk.sys.jL.ok _ _ (a.f n.toNat) Ot (ho.wk.sys.In og) f m) (pk [9,9,0,0]) ?_;rintro _ _ ⟨rfl,pu,cu,rfl⟩;refine gO ?_;refine XR.mono (fun _ bK=>lW (a.Km n f m).2.2.2 (fG kx) (pk [2,2,2,2]) bK) ?_;refine cd rfl ?_ ?_<;>intro h1
  ·have hu:(a.Km n f m).2.1≠0:=h1;refine bh rfl rfl (ai (pk [4,4,4,4,4,2,2,0,0,0,0,0,0,0,0,0,0]) rfl ?_);have e1:a.ud n f m=(a.Km n f m).2.1:=by unfold KA.ud;rw[if_neg og,if_pos hu]
   have e2:a.o9 n f m= {a with v:=(a.Km n f m).2.2.1,f:=bE a.f n.toNat (a.Km n f m).2.2.2,g:=a.g} :=by unfold KA.o9;rw[if_neg og,if_pos hu]
   rw[e1,e2];exact⟨rfl,{c with pp:=bE c.pp n.toNat pu,cc:=bE c.cc n.toNat cu},⟨hc.qO,hc.qR,hc.F,hc.rp,hc.rc,hc.rl,hc.tb,hc.tk⟩,rfl⟩
  ·have hu:¬(a.Km n f m).2.1≠0:=h1;refine rq [0,1,2,3,4,5,6,7,8,9,10] mixed (ld (.t4 .aa) (gp _) (ld (.t4 .aa) (dI _) ?_));refine cq (o6 _ _ a.g ho.wk.gI.ok _ _ _ (1000*T) (by have:=ho.wk.T0;omega) ho.wk.gS) (pk [5]) ?_;refine bh rfl rfl (ai (pk [5,0,4,4,4,2,2,0,0,0,0,0,0,0,0,0,0]) rfl ?_);have e1:a.ud n f m=a.g.gi (a.u n).lv 0 (a.Km n f m).1:=by unfold KA.ud;rw[if_neg og,if_neg hu]
   have e2:a.o9 n f m= {a with v:=(a.Km n f m).2.2.1,f:=bE a.f n.toNat (a.Km n f m).2.2.2,g:=a.g.fU (a.u n).lv 0 (a.Km n f m).1} :=by unfold KA.o9;rw[if_neg og,if_neg hu]
   rw[e1,e2];exact⟨rfl,{c with pp:=bE c.pp n.toNat pu,cc:=bE c.cc n.toNat cu},⟨hc.qO,hc.qR,hc.F,hc.rp,hc.rc,hc.rl,hc.tb,hc.tk⟩,rfl⟩
 ·have hl:a.aH n≠0:=hl;have jv:(kp a b c).aH n=a.aH n:=rfl;rw[jv];refine gO ?_;refine bS (pz 17) ?_;grind [aK,aJ,KA.ud,KA.o9,az]
def Vq(a:KA)(b:KZ)(c:KC)(N:Nat)(T:Int)(ho:a.Ok T)(hc:cR a c N T)(hT:T<=800000)(n:Int)(o:Bool):Spec Tryz.prog 87 [aA b.kb 0 0,iI n,.bool o] (df a b c []) (fun v H1=>∃ (e:Int) (c1:KC),v=az 102 e/\cR a c1 N T/\H1=(df a b c1 [])):=by
 refine Spec.go 26 [0,1,2,6,8,16] [] Tryz.func87 fun W=> ?_;refine ca (eW b.kb (kp a b c) n) .h1 ?_;rintro _ _ ⟨⟨hl,rfl⟩ | ⟨hl,rfl⟩,rfl⟩
 ·obtain⟨kx,iy⟩:=bI hl;have hl:a.aH n=0:=hl;have iy:(a.u n).st=1:=iy;refine gO ?_;refine ld .aa (jf _) ?_;refine ca (Hn _ _ c.q c.d hc.qO.ec hc.qR n _) (pk [3,3]) ?_;rintro _ _ ⟨rfl,q2,HV,KH,rfl⟩;refine gO ?_;refine bh rfl rfl (ai (pk [2,2,2,0,0,0,0,0,0,0,0,0,0,0,0,0,0]) rfl ?_);exact⟨_,{c with q:=q2},rfl,⟨(by show q2.toSF.Ok _ _ _;rw[HV];exact hc.qO.fZ _ _),KH,hc.F,hc.rp,hc.rc,hc.rl,hc.tb,fun m m0 m1 hm=>hc.tk m m0 m1 (by have hm:q2.toSF.aa (10+m)=true:=hm;rw[HV,Fa.SF.uC]at hm;exact hm)⟩,rfl⟩
 ·have hl:a.aH n≠0:=hl;have jv:(kp a b c).aH n=a.aH n:=rfl;rw[jv];refine gO ?_;refine bS (pz 17) ?_;exact⟨a.aH n,c,(aV _ hl).symm,hc,rfl⟩
end Go.X.Kn
