import Derived.Test.YthdinakloheinaaGreatDoorkJO
set_option linter.all false
namespace Go.X.Kn
open Go Go.X Go.X.Fa Go.X.Sg Go.X.Sp Go.X.Tr Go.X.Vm
variable{bu:Bool}{T i n p z:Int}{aO:Int->Nat}
theorem M7{v:VB}{f:Nat->Vm.MS}{k z c:Nat}(h:Vm.Sys v f k)(hz:z<k)(hc:c<k)(gK:c≠z)(hn:f c=Vm.MS.nil)(hk:k<=60):Vm.Sys (v.jO (f z)) (bF (bF f z (f z).bare) c (f z).bare) k:=by
 have hm:=h.mo z hz;have hb:(f z).bare.Ok:=⟨hm.f,hm.lo,hm.un,fun _ _=>rfl,hm.inj⟩;have e0:∀ g:Int,0<=g->cM (fun _:Int=>(0:Int)) g 16=0:=fun g hg=>by
  have iJ:∀ j,cM (fun _:Int=>(0:Int)) g j=0:=fun j=>by
   induction j with
   | zero=>rfl
   | succ j ih=>rw[cM,ih,if_neg og];rfl
  simp_all
 refine⟨(h.jI.jO hm fun g a b=>⟨zT f g hz,by have:=Mg f g k;show wH f g k<=1000;omega⟩).congr fun g a b=> ?_,fun j hj=> ?_⟩
 ·have e1:(bF f z (f z).bare) c=Vm.MS.nil:=by rw[lM _ _ gK];exact hn
  rw[show bF (bF f z (f z).bare) c (f z).bare=Vm.bF (Vm.bF f z (f z).bare) c (f z).bare from rfl];rw[rV _ g hc,rV f g hz,show Vm.bF f z (f z).bare c=Vm.MS.nil from e1];show _=wH f g k-cM (f z).fr g 16+cM (f z).fr g 16-cM (fun _:Int=>(0:Int)) g 16+cM (f z).fr g 16;simp_all
 ·show(bF (bF f z (f z).bare) c (f z).bare j).Ok;by_cases e:j=c
  ·grind [bF]
  ·rw[lM _ _ e];by_cases e2:j=z
   ·grind [bF]
   ·rw[lM _ _ e2];exact h.mo j hj
def KA.free(a:KA):Int:=match dv (fun k=>decide ((a.u k).st=0)) 20 with
 | some k=>k
 | none=>20
def KA.pJ{a:KA}{c:Int}(h0:0<=c/\c<20)(h1:(a.u c).st=0)(h2:∀ j:Int,0<=j->j<c->(a.u j).st≠0):a.free=c:=by
 unfold KA.free;rw[dW (k:=c) (m:=20) h0.1 og (decide_eq_true h1) fun j j0 j1=>decide_eq_false (h2 j j0 j1)];grind
theorem KA.BL{a:KA}(h:∀ j:Int,0<=j->j<20->(a.u j).st≠0):a.free=20:=by
 grind [KA.free,dL]
def KA.free_spec(a:KA):a.free=20\/((0<=a.free/\a.free<20)/\(a.u a.free).st=0):=by
 grind [KA.free,dv]
def Lk(f:Int->Int)(O:Tr.OS):Nat->Tr.OS
 | 0=>O
 | k+1=>if f (k:Int)>0 then p8 (Lk f O k) (f (k:Int)-1)else Lk f O k
theorem OW{f:Int->Int}(O:Tr.OS)(hi:0<=i)(h:f i>0):Lk f O (i+1).toNat=p8 (Lk f O i.toNat) (f i-1):=by
 rw[show(i+1).toNat=i.toNat+1 by omega];grind [Lk]
theorem KN{f:Int->Int}(O:Tr.OS)(hi:0<=i)(h:¬f i>0):Lk f O (i+1).toNat=Lk f O i.toNat:=by
 rw[show(i+1).toNat=i.toNat+1 by omega];grind [Lk]
def BX{f:Int->Int}{O:Tr.OS}{T:Int}(h:O.Inv T):∀ k:Nat,(Lk f O k).Inv (T+k)
 | 0=>by have:=h;simpa [Lk]using this
 | k+1=>by
  have h1:=BX (f:=f) h k;unfold Lk;split
  ·have:=h1.aai (f (k:Int)-1);grind
  ·exact h1.mono og
def KA.sz(a:KA)(n:Int):Int:=(a.s.bI n).1
def KA.CN(a:KA)(n:Int):Int:=(a.f n.toNat).CN
def KA.gC(a:KA)(n:Int):Gr.TG:=a.g.cv (a.u n).kx 1 (a.CN n)
def KA.gE(a:KA)(n:Int):Int:=a.g.cX (a.u n).kx 1 (a.CN n)
def KA.inE(a:KA)(n:Int)(bu:Bool):Int:=if bu then(a.s.add a.aO (a.sz n)).2.1 else 0
def KA.vk(a:KA)(n:Int)(bu:Bool):Int:=if bu then(a.s.add a.aO (a.sz n)).1 else a.sz n
def KA.sA(a:KA)(n:Int)(bu:Bool):Sp.SS:=if bu then(a.s.add a.aO (a.sz n)).2.2 else a.s
def KA.dA(a:KA)(n:Int)(bu:Bool):Int->Nat:=if bu then a.s.Ts a.aO (a.sz n)else a.aO
def KA.M8(a:KA)(n:Int):PA:=⟨1,n,(a.u n).kx,0,(a.u n).fd,(a.u n).bx.bA⟩
def KA.df(a:KA)(n:Int)(bu:Bool):KA:=
 {u:=ae a.u a.free (a.M8 n),g:=a.gC n,s:=((a.sA n bu).enter (a.dA n bu) (a.vk n bu) a.free).2.2,aO:=a.dA n bu,v:=a.v.jO (a.f n.toNat),f:=bF (bF a.f n.toNat (a.f n.toNat).bare) a.free.toNat (a.f n.toNat).bare,P:=a.P,O:=Lk (a.u n).fd a.O 6}
def KA.lz(a:KA)(n:Int)(bu:Bool):Int:=if a.aI n≠0 then a.aI n else if a.free=20 then 4 else if a.gE n≠0 then a.gE n else a.inE n bu
def KA.iV(a:KA)(n:Int)(bu:Bool):KA:=if a.aI n≠0\/a.free=20\/a.gE n≠0 then a else
 if a.inE n bu≠0 then {a with g:=(a.gC n).fa (a.u n).kx 1 (a.CN n)} else a.df n bu
def KA.lW(a:KA)(n:Int)(bu:Bool):Int:=if a.lz n bu=0 then((a.df n bu).s.fS a.free (a.sz n)).1 else 0
def D7{g:Gr.TG}{m:Int}(h:g.cX n p m≠0):g.cv n p m=g:=if_neg h
def KQ(x:BS):x.bA.first 0=0:=by
 rfl
def SS.Inv.is0{s:Sp.SS}(h:s.Inv aO)(hp:0<=p/\p<20)(hl:0<=s.loc p):s.bI p=(s.loc p,0)/\s.is (s.loc p)=0/\(0<=s.loc p/\s.loc p<6)/\s.aa (s.loc p)=true:=by
 have h1:=h.loc p;have h2:=h.at_ p hp.1 hp.2 hl;refine⟨by unfold Sp.SS.bI;rw[if_neg og,if_neg og],?_,og,h2⟩;unfold Sp.SS.is;rw[if_neg og,if_pos h2]
theorem SS.Inv.O9{s:Sp.SS}(h:s.Inv aO)(hn:0<=n/\n<6/\s.aa n=true)(hp:0<=p/\p<20)(hl:¬ 0<=s.loc p){q:Int}(hw:0<=s.bR z q):(s.fh aO n p).bR z q=s.bR z q:=by
 obtain⟨e1,e2⟩:=uR p (s.cC aO n) s.bR (Sp.SS.uQ h.D _ n rfl hn.1 hn.2.1 hn.2.2) fun a _=>h.free hp hl a;show ix s.bR p (s.cC aO n) z q=_;grind
structure KA.Bs (a:KA) (n:Int) (bu:Bool):Prop where
 kv:(0<=a.free/\a.free<20)/\(a.u a.free).st=0
 loc:¬ 0<=(a.sA n bu).loc a.free
 dS:(a.sA n bu).Inv (a.dA n bu)
 zr:0<=a.vk n bu/\a.vk n bu<6/\(a.sA n bu).aa (a.vk n bu)=true
 is:(a.sA n bu).is (a.vk n bu)=0
 lo:(a.sA n bu).loc=a.s.loc
 bR:(a.sA n bu).bR=a.s.bR
 d0:a.dA n bu 0=a.aO 0
 en:(a.df n bu).s=(a.sA n bu).fh (a.dA n bu) (a.vk n bu) a.free
 z:0<=a.sz n/\a.sz n<6/\a.s.aa (a.sz n)=true
 cC:a.sz n∈(a.sA n bu).cC (a.dA n bu) (a.vk n bu)
 hr:∀ y,a.s.aa y=true->(a.sA n bu).aa y=true
def KA.Wk.fkI{a:KA}(w:a.Wk T)(hh:a.s.aa 0=true)(hl:a.aI n=0)(hf:a.free≠20)(hE:a.inE n bu=0):a.Bs n bu:=by
 obtain⟨hn,hs⟩:=bX hl;have VG:=a.free_spec.resolve_left hf;have h1:=(w.lc n hn.1 hn.2).1 og;obtain⟨i1,i2,i3,i4⟩:=SS.Inv.is0 w.sI hn h1;have ez:a.sz n=a.s.loc n:=by unfold KA.sz;rw[i1]
 have Jv:¬ 0<=a.s.loc a.free:=fun q=>((w.lc _ VG.1.1 VG.1.2).2 q) VG.2;cases bu with
 | false=>
  have e1:a.sA n false=a.s:=rfl;have e2:a.dA n false=a.aO:=rfl;have e3:a.vk n false=a.s.loc n:=ez;refine⟨VG,Jv,w.sI,by rw[e3];exact⟨i3.1,i3.2,i4⟩,by rw[e3];exact i2,rfl,rfl,rfl,?_,by rw[ez];exact⟨i3.1,i3.2,i4⟩,?_,fun y q=>q⟩
  ·show(a.s.enter a.aO (a.vk n false) a.free).2.2=_;rw[e3,Sp.SS.xG i2 og Jv];rfl
  ·rw[ez,e3];show _∈a.s.cC a.aO (a.s.loc n);unfold Sp.SS.cC;obtain⟨d1,_,_⟩:=w.sI.D.d _ i3.1 i3.2 i4;obtain⟨k,hk⟩:∃ k,a.aO (a.s.loc n)=k+1:=⟨a.aO (a.s.loc n)-1,og⟩;rw[hk];exact .head _
 | true=>
  have hE:(a.s.add a.aO (a.sz n)).2.1=0:=hE;rcases a.s.om a.aO (a.sz n)with⟨q,_,_⟩ | ⟨k,q1,q2,q3,q4,q5⟩
  ·omega
  ·have e1:a.sA n true= {a.s with aa:=ae a.s.aa k true,aA:=ae a.s.aA k (a.sz n)} :=by show(a.s.add a.aO (a.sz n)).2.2=_;rw[q5]
   have e2:a.dA n true=ae a.aO k (a.aO (a.sz n)+1):=by show a.s.Ts a.aO (a.sz n)=_;unfold Sp.SS.Ts;rw[if_pos hE,q5]
   have e3:a.vk n true=k:=by show(a.s.add a.aO (a.sz n)).1=k;rw[q5]
   have hkh:(a.sA n true).aa k=true:=by rw[e1];exact au _ _ _
   have vS:(a.sA n true).is k=0:=by unfold Sp.SS.is;rw[if_neg og,if_pos hkh]
   have afF:¬ 0<=(a.sA n true).loc a.free:=by rw[e1];exact Jv
   have hk0:(0:Int)≠k:=by rintro rfl;rw[hh]at q4;cases q4
   have hkz:a.sz n≠k:=by rintro e;rw[ez]at e;rw[e,q4]at i4;cases i4
   refine⟨VG,afF,w.sI.add _,by rw[e3];exact⟨q3.1,q3.2,hkh⟩,by rw[e3];exact vS,by rw[e1],by rw[e1],by rw[e2,ai _ _ hk0],?_,by rw[ez];exact⟨i3.1,i3.2,i4⟩,?_,fun y q=> ?_⟩
   ·show((a.sA n true).enter (a.dA n true) (a.vk n true) a.free).2.2=_;rw[e3,Sp.SS.xG vS og afF]
   ·rw[e3,e2,e1];unfold Sp.SS.cC;rw[au];refine .tail _ ?_;show a.sz n∈Sp.SS.ja _ (a.aO (a.sz n)) (ae a.s.aA k (a.sz n) k);rw[au];obtain⟨d1,_,_⟩:=w.sI.D.d _ i3.1 i3.2 i4;obtain⟨j,hj⟩:∃ j,a.aO (a.sz n)=j+1:=⟨a.aO (a.sz n)-1,by rw[ez];omega⟩;rw[hj];exact .head _
   simp_all[ae]
theorem KA.Bs.ur{a:KA}(h:a.Bs n bu):(a.df n bu).s.loc=ae a.s.loc a.free (a.vk n bu):=by
 rw[h.en];show ae (a.sA n bu).loc a.free (a.vk n bu)=_;rw[h.lo]
theorem KA.Bs.yP{a:KA}(h:a.Bs n bu):(a.df n bu).s.aa=(a.sA n bu).aa:=by rw[h.en];rfl
theorem KA.Bs.eK{a:KA}(h:a.Bs n bu){q:Int}(hw:0<=a.s.bR z q):(a.df n bu).s.bR z q=a.s.bR z q:=by
 rw[h.en,SS.Inv.O9 h.dS h.zr h.kv.1 h.loc (by rw[h.bR];exact hw),h.bR]
theorem KA.Bs.sI{a:KA}(h:a.Bs n bu):(a.df n bu).s.Inv (a.dA n bu):=by rw[h.en];exact h.dS.fh h.zr h.kv.1 h.loc
theorem KA.Bs.fS{a:KA}{n:Int}{bu:Bool}(h:a.Bs n bu):((a.df n bu).s.fS a.free (a.sz n)).2=0/\(a.df n bu).s.bR (a.sz n) ((a.df n bu).s.fS a.free (a.sz n)).1=a.free/\1<=((a.df n bu).s.fS a.free (a.sz n)).1/\((a.df n bu).s.fS a.free (a.sz n)).1<=20:=by
 have hI:=h.sI;have hl:(a.df n bu).s.loc a.free=a.vk n bu:=by rw[h.ur,au]
 have kZ:(a.df n bu).s.cC (a.dA n bu) (a.vk n bu)=(a.sA n bu).cC (a.dA n bu) (a.vk n bu):=by
  rw[h.en];exact Sp.SS.my (s:=a.sA n bu) (s':=(a.sA n bu).fh (a.dA n bu) (a.vk n bu) a.free) rfl _ _
 obtain⟨q,hq⟩:=hI.has a.free h.kv.1.1 h.kv.1.2 (by rw[hl];exact h.zr.1) (a.sz n) (by rw[hl,kZ];exact h.cC);have hzh:(a.df n bu).s.aa (a.sz n)=true:=by rw[h.yP];exact h.hr _ h.z.2.2
 have vS:(a.df n bu).s.is (a.sz n)=0:=by unfold Sp.SS.is;rw[if_neg (by have:=h.z;omega),if_pos hzh]
 obtain⟨_,q2,q3,_⟩:=hI.mem _ q a.free h.kv.1.1 hq;have e:(a.df n bu).s.fS a.free (a.sz n)=(q,0):=Sp.SS.CA vS (by have:=h.kv;omega) og hq (fun j j0 j1 e=>by
  have:=hI.inj (a.sz n) q j (by rw[hq];exact h.kv.1.1) (e.trans hq.symm)
  omega)
 grind
theorem KA.Ok.df{a:KA}{T:Int}(h:a.Ok T)(hT:T<=900000){n:Int}{bu:Bool}(hl:a.aI n=0)(hf:a.free≠20)(hE:a.inE n bu=0):(a.df n bu).Ok (T+10):=by
 have w:=h.wk;have hI:=w.fkI (SS.Inv.dg w.sI h.r0.loc) hl hf hE;have Li:=hI.kv.1;obtain⟨hn,hs⟩:=bX hl;have gK:n≠a.free:=by rintro e;have:=hI.kv.2;rw[<-e,hs]at this;exact absurd this dq
 have hu:∀ m,m≠a.free->(a.df n bu).u m=a.u m:=fun m hm=>ai _ _ hm;have Y7:(a.df n bu).u a.free=a.M8 n:=au _ _ _;have W9:a.f a.free.toNat=Vm.MS.nil:=w.tY _ hI.kv.1.1 hI.kv.1.2 (by rw[hI.kv.2];decide);refine⟨⟨⟨by have:=w.T0;omega,og⟩,w.gI.cv _ _ _,(w.gS.cv w.gI.ok _ _ _).mono og,hI.sI,?_,fun m a0 a1 q=> ?_,w.PI.mono og,(BX w.OI 6).mono og,fun m a0 a1=> ?_,fun m=> ?_,fun m hm=> ?_,fun m i=> ?_,fun m=> ?_⟩,fun p h0 h1 _ h3=> ?_,⟨?_,?_,?_⟩,hI.d0.trans h.d0⟩
 ·grind [M7,KA.Wk.sys,KA.df]
 ·by_cases e:m=a.free
  ·subst e;rw[Y7]at q;exact absurd rfl q
  ·rw[hu m e]at q;show bF (bF a.f n.toNat _) a.free.toNat _ m.toNat=_;grind [lM,KA.Wk.tY]
 ·rw[hI.ur];by_cases e:m=a.free
  ·subst e;rw[Y7,au];exact⟨fun _=>hI.zr.1,fun _=>(by decide:(1:Int)≠0)⟩
  grind [ai,KA.Wk.lc]
 ·by_cases e:m=a.free
  ·subst e;rw[Y7];exact .inr (.inl rfl)
  grind [KA.Wk.st]
 ·grind [KA.Wk.out]
 ·by_cases e:m=a.free
  ·subst e;rw[Y7];exact w.fd n i
  ·rw[hu m e];exact w.fd m i
 ·by_cases e:m=a.free
  ·subst e;rw[Y7];rfl
  grind [KA.Wk.bx]
 ·by_cases e:p=a.free
  ·subst e;rw[Y7];exact .inl (KQ _)
  ·rw[hu p e]at h3 ⊢;rw[hI.ur,ai _ _ e];rcases h.hx p h0 h1 og h3 with q | q;all_goals grind [KA.Bs.eK]
 ·grind [KA.Bs.kv,KA.Ok.r0,KA.R0.st]
 ·rw[hI.ur,ai _ _ (by rintro e;have:=hI.kv.2;rw[<-e,h.r0.st]at this;exact absurd this dq)];exact h.r0.loc
 grind [KA.Bs.eK,KA.Ok.r0,KA.R0.bR]
def KA.Wk.H8{a:KA}{T':Int}(w:a.Wk T)(hT:T<=T')(QN:T'<=1000000){g:Gr.TG}(hg:g.Inv)(hS:g.bM (1000*T')):({a with g:=g} :KA).Wk T':=⟨⟨by have:=w.T0;omega,QN⟩,hg,hS,w.sI,w.sys,w.tY,w.PI.mono hT,w.OI.mono hT,w.lc,w.st,w.out,w.fd,w.bx⟩
def KA.Ok.H8{a:KA}{T T':Int}(h:a.Ok T)(hT:T<=T')(QN:T'<=1000000){g:Gr.TG}(hg:g.Inv)(hS:g.bM (1000*T')):({a with g:=g} :KA).Ok T':=⟨h.wk.H8 hT QN hg hS,h.hx.same (fun _=>⟨rfl,rfl⟩) rfl,h.r0.same rfl rfl,h.d0⟩
theorem KA.Ok.jO{a:KA}(h:a.Ok T)(hT:T<=900000)(n:Int)(bu:Bool):(a.iV n bu).Ok (T+10):=by
 unfold KA.iV;split
 ·grind [KA.Ok.up]
 ·rename_i c;split
  ·exact h.H8 og og ((h.wk.gI.cv _ _ _).fa _ _ _) (ua (h.wk.gI.cv _ _ _) ((h.wk.gS.cv h.wk.gI.ok _ _ _).mono og) _ _ _)
  grind [KA.Ok.df]
structure WF where
 kids:Int
 bA:Int
 fS:Int
 jF:Int
def KA.eS(a:KA)(n:Int):Nat->WF
 | 0=>⟨0,-1,0,0⟩
 | k+1=>
  if(a.u (k:Int)).st=0\/(a.u (k:Int)).aA≠n then a.eS n k else
  if(a.s.fS k (a.sz n)).2=0/\(a.u (k:Int)).st=2/\((a.eS n k).bA<0\/(a.s.fS k (a.sz n)).1<(a.eS n k).fS)then⟨(a.eS n k).kids+1,k,(a.s.fS k (a.sz n)).1,(a.u (k:Int)).jF⟩
  else⟨(a.eS n k).kids+1,(a.eS n k).bA,(a.eS n k).fS,(a.eS n k).jF⟩
def KA.sC(a:KA)(n:Int):Int:=if a.aI n≠0 then a.aI n else if(a.eS n 20).kids=0 then 2 else if(a.eS n 20).bA<0 then 8 else 0
def KA.qZ(a:KA)(n:Int):KA:=if a.sC n=0 then(a.eY (a.eS n 20).bA).dM (a.sz (a.eS n 20).bA)else a
def KA.D8(a:KA)(n:Int):Int:=if a.sC n=0 then(a.eS n 20).fS else 0
def KA.D9(a:KA)(n:Int):Int:=if a.sC n=0 then(a.eS n 20).jF else 0
def KA.WI(a:KA)(n:Int)(x:WF)(k:Int):Prop:=(0<=x.kids/\x.kids<=k)/\(x.bA<0\/((0<=x.bA/\x.bA<k)/\(a.u x.bA).st=2/\(a.u x.bA).aA=n/\a.s.fS x.bA (a.sz n)=(x.fS,0)/\x.jF=(a.u x.bA).jF))
def KA.H9(a:KA)(n:Int):∀ k:Nat,a.WI n (a.eS n k) k
 | 0=>⟨⟨Int.le_refl _,Int.le_refl _⟩,.inl (by show(-1:Int)<0;omega)⟩
 | k+1=>by
  obtain⟨h1,h2⟩:=a.H9 n k;grind [KA.eS,KA.WI]
def As{a:KA}(h:a.sC n=0):a.aI n=0/\(0<=(a.eS n 20).bA/\(a.eS n 20).bA<20)/\(a.u (a.eS n 20).bA).st=2/\(a.u (a.eS n 20).bA).aA=n/\a.s.fS (a.eS n 20).bA (a.sz n)=((a.eS n 20).fS,0)/\(a.eS n 20).jF=(a.u (a.eS n 20).bA).jF:=by
 unfold KA.sC at h;split at h
 ·omega
 ·split at h
  ·omega
  ·split at h
   ·omega
   ·have:=(a.H9 n 20).2.resolve_left aq;simp_all
def KA.Ok.Y1{a:KA}{T:Int}(h:a.Ok T){m:Int}(hm:0<=m/\m<20)(hs:(a.u m).st=2):(a.eY m).Ok T:=
 ⟨h.wk.eY hm og,h.hx.eY,h.r0.Y1 (by rintro rfl;have:=h.r0.st;omega),h.d0⟩
def KA.Ok.Y2{a:KA}{T:Int}(h:a.Ok T)(z:Int):(a.dM z).Ok T:=⟨h.wk.dM z,h.hx.dM z,h.r0.Y2 z,h.d0⟩
def KA.Ok.dY{a:KA}(h:a.Ok T)(n:Int):(a.qZ n).Ok T:=by
 unfold KA.qZ;split
 ·rename_i c;obtain⟨_,h2,h3,_⟩:=As c;exact(h.Y1 h2 h3).Y2 _
 omega
theorem OX{a:KA}{b:KZ}{c c':KC}(w:a.Wk T)(hI:a.Bs n bu){nb:Nat}(hm:c'.mb=bF c.mb a.free.toNat nb){K:KP}(hu:K.u=(kp a b c).u)(hk:(K.gb=b.gb/\K.sb=b.sb/\K.qb=b.qb/\K.bb=b.bb)/\K.tb=b.tb/\K.pi=b.pi/\K.ob=b.ob)(hms:K.ms=(kp (a.df n bu) b c').ms):K.put a.free ((kp a b c).gF n nb)=kp (a.df n bu) b c':=by
 refine KP.ext (fun m=> ?_) hms hk;by_cases e:m=a.free
 ·subst e;rw[KP.sx];show _=(ae a.u a.free (a.M8 n) a.free).pu (c'.mb a.free.toNat);rw[au,hm,rS];rfl
 ·rw[KP.zQ _ _ e,hu];show(a.u m).pu (c.mb m.toNat)=(ae a.u a.free (a.M8 n) m).pu (c'.mb m.toNat);rw[ai _ _ e,hm];by_cases q:m.toNat=a.free.toNat
  ·have:=hI.kv;rw[w.out m og];rfl
  grind [bF]
theorem KR{a:KA}(hI:a.Bs n bu):iR (a.df n bu)=Bg (iR a) a.free.toNat:=(u6 fun _ _ _=>Iff.rfl).trans (Oq (p:=a.M8 n) hI.kv.1 (by decide:(1:Int)≠0))
def VH{a:KA}(hI:a.Bs n false):kG (a.df n false)=kG a:=by
 unfold kG;rw[hI.yP];rfl
theorem Rj{a:KA}(hI:a.Bs n true)(hE:(a.s.add a.aO (a.s.bI n).1).2.1=0):kG (a.df n true)=Bg (kG a) (a.s.add a.aO (a.s.bI n).1).1.toNat:=by
 have h2:(a.sA n true).aa=ae a.s.aa (a.s.add a.aO (a.s.bI n).1).1 true:=by
  show(a.s.add a.aO (a.s.bI n).1).2.2.aa=_;rcases a.s.om a.aO (a.s.bI n).1 with⟨q,_,_⟩ | ⟨k,_,_,_,_,q5⟩;all_goals simp_all
 have hz:=hI.zr;have hz:0<=(a.s.add a.aO (a.s.bI n).1).1/\(a.s.add a.aO (a.s.bI n).1).1<6:=⟨hz.1,hz.2.1⟩;funext j;rw[Bool.eq_iff_iff,jA,BO,BO,hI.yP,h2];grind [au,ai]
theorem j9(F:Tr.FF)(n:Int):(F.dP n).roots=F.roots:=by unfold Tr.FF.dP;split<;>rfl
def A8:∀ (l:List MT) (F:Tr.FF),(yy F l).roots=F.roots
 | [],_=>rfl
 | m::r,F=>(A8 r _).trans ((j9 _ _).trans (j9 _ _))
theorem sc(F:Tr.FF)(l:List MT)(r:WH):(On F l r).roots=F.roots:=(A8 l _).trans (j9 _ _)
theorem se{s:Sp.SS}(h:(s.add aO p).2.1=0):(0<=(s.add aO p).1/\(s.add aO p).1<6)/\s.aa (s.add aO p).1=false/\(s.add aO p).2.2.aa=ae s.aa (s.add aO p).1 true:=by
 rcases s.om aO p with⟨q,_,_⟩ | ⟨k,_,_,h3,h4,q5⟩;all_goals simp_all
def ada{a:KA}(h:0<=z/\z<6)(hs:a.s.aa z=false):kG a z.toNat=false:=by
 grind [kG]
def VI{a:KA}(h:0<=n/\n<20)(hs:(a.u n).st=0):iR a n.toNat=false:=by
 grind [iR]
theorem iA(a:KA)(n:Int)(h:0<=i):a.eS n (i+1).toNat=if(a.u i).st=0\/(a.u i).aA≠n then a.eS n i.toNat else if(a.s.fS i (a.sz n)).2=0/\(a.u i).st=2/\((a.eS n i.toNat).bA<0\/(a.s.fS i (a.sz n)).1<(a.eS n i.toNat).fS)then⟨(a.eS n i.toNat).kids+1,i,(a.s.fS i (a.sz n)).1,(a.u i).jF⟩else⟨(a.eS n i.toNat).kids+1,(a.eS n i.toNat).bA,(a.eS n i.toNat).fS,(a.eS n i.toNat).jF⟩:=by
 rw[show(i+1).toNat=i.toNat+1 by omega];grind [KA.eS]
def cH.VJ{a:KA}{c:KC}{N:Nat}(h:cH a c N T)(hI:a.Bs n bu){q1 q2:SC}{d1:Int->Nat}{g w:Int}(h1:q1.toSF=c.q.toSF.sG a.free g w)(h2:q2.toSF=q1.toSF.fU d1 a.free true):∀ m,0<=m->m<20->q2.aa (10+m)=true->((a.df n bu).u m).st=1:=fun m m0 m1 hm=>by
 have hm:q2.toSF.aa (10+m)=true:=hm;rw[h2,Fa.SF.qz,h1]at hm;show(ae a.u a.free (a.M8 n) m).st=1;by_cases e:m=a.free
 ·rw[e,au];rfl
 ·rw[ai _ _ e];exact h.tk m m0 m1 ((Fa.SF.Fy hm).resolve_left e)
end Go.X.Kn

namespace Go.X.Kn
open Go Go.Proofs Go.X Go.X.Sg
set_option maxRecDepth 20000
set_option maxHeartbeats 4000000
attribute [local irreducible] KA.cR KA.cK
def Y8(a:KA)(b:KZ)(c:KC)(N:Nat)(T:Int)(ho:a.Ok T)(hc:cH a c N T)(hT:T<=800000)(n co:Int):Spec Tryz.prog 16 [aC b.kb 0 0,iI n,iI co] (cU a b c [.ro 0 0 32 cW]) (fun v H1=>v=az 102 (a.uo n co)/\∃ c1:KC,cH (a.ni n co) c1 N T/\H1=(cU (a.ni n co) b c1 [])):=by
 apply Spec.go 32 [0,1,2,6,8,16,23,26] [] Tryz.func16 rfl rfl rfl;intro W;refine ca (ef b.kb (kp a b c) n) .h1 ?_;rintro _ _ ⟨⟨hl,rfl⟩ | ⟨hl,rfl⟩,rfl⟩
 ·obtain⟨jy,gh⟩:=bC hl;have hl:a.aI n=0:=hl;have gh:(a.u n).st=1:=gh;apply gO;refine sp 20 rfl ?_ ?_<;>intro h1
  ·refine ah rfl rfl (ad (pz 17) rfl ?_);try dsimp only[aL,aJ,aD,aR]
   grind [KA.uo,KA.ni,az]
  ·refine cd rfl ?_ ?_<;>intro h2
   ·refine ah rfl rfl (ad (pz 17) rfl ?_);try dsimp only[aL,aJ,aD,aR]
    grind [KA.uo,KA.ni,az]
   ·refine cd rfl ?_ ?_<;>intro h3
    ·refine ah rfl rfl (ad (pz 17) rfl ?_);try dsimp only[aL,aJ,aD,aR]
     grind [KA.uo,KA.ni,az]
    ·refine xj 17 (BV a b c N T ho.wk hc og n co gh (ho.hx.any n)) (pz 18) rfl ?_;rintro _ _ ⟨c1,gm,rfl⟩;apply gO;refine ah rfl rfl (ad (pz 17) rfl ?_);try dsimp only[aL,aJ,aD,aR]
     grind [KA.uo,KA.ni,az]
 ·have hl:a.aI n≠0:=hl;have iD:(kp a b c).aI n=a.aI n:=rfl;rw[iD];apply gO;refine ah rfl rfl (ad (pz 17) rfl ?_);grind [aL,aJ,KA.uo,KA.ni,az]
def adb(a:KA)(b:KZ)(c:KC)(N:Nat)(T:Int)(ho:a.Ok T)(hc:cH a c N T)(hT:T<=800000)(n sg y:Int):Spec Tryz.prog 23 [aC b.kb 0 0,iI n,iI sg,iI y] (cU a b c [.ro 0 0 32 cW]) (fun v H1=>v=az 102 (a.VE n sg y)/\∃ c1:KC,cH (a.DZ n sg y) c1 N T/\H1=(cU (a.DZ n sg y) b c1 [])):=by
 apply Spec.go 31 [0,1,2,3,8,9,10,18,26] [] Tryz.func23 rfl rfl rfl;intro W;refine ca (ef b.kb (kp a b c) n) .h1 ?_;rintro _ _ ⟨⟨hl,rfl⟩ | ⟨hl,rfl⟩,rfl⟩
 ·obtain⟨jy,gh⟩:=bC hl;have hl:a.aI n=0:=hl;have gh:(a.u n).st=1:=gh;apply gO;apply XR.mono fun _ bJ=>jV (k:=kp a b c) (n:=n) og .h1 bJ;refine ca (afc b.kb (0+jG n) (a.u n).bx sg y) .h1 ?_;rintro _ _ ⟨rfl,rfl⟩;by_cases sN:((a.u n).bx.set sg y).1=0
  ·rw[sN,iz];apply gO;apply XR.mono fun _ bJ=>mB (k:=kp a b c) (n:=n) og (pz 3) bJ;try unfold cU
   rw[Ab];try unfold cU
   rw[<-va a n ((a.u n).bx.set sg y).2,<-yH a n ((a.u n).bx.set sg y).2];refine xj 17 (yK (a.jh n ((a.u n).bx.set sg y).2) b c N T (ho.wk.jh jy (Aq _ _ _ (ho.wk.bx n))) (hc.box _ _) og n jy false (by rw[fX];exact gh) ((ho.hx.any n).box _)) (pz 18) rfl ?_;rintro _ _ ⟨c1,gm,rfl⟩;apply gO;refine ah rfl rfl (ad (pz 17) rfl ?_);try dsimp only[aL,aJ,aD,aR]
   grind [KA.VE,KA.DZ,az]
  ·rw[aQ _ sN];apply gO;rw[Y6 sN];refine XR.mono (fun _ bJ=>mY (k:=kp a b c) (n:=n) og (pz 3) bJ) ?_;refine ah rfl rfl (ad (pz 17) rfl ?_);grind [aL,aJ,KA.VE,KA.DZ,aQ]
 ·have hl:a.aI n≠0:=hl;have iD:(kp a b c).aI n=a.aI n:=rfl;rw[iD];apply gO;refine ah rfl rfl (ad (pz 17) rfl ?_);grind [aL,aJ,KA.VE,KA.DZ,az]
def Ia(a:KA)(b:KZ)(c:KC)(N:Nat)(T:Int)(ho:a.Ok T)(hc:cH a c N T)(hT:T<=800000)(n sg:Int):Spec Tryz.prog 24 [aC b.kb 0 0,iI n,iI sg,.bool true] (cU a b c [.ro 0 0 32 cW]) (fun v H1=>v=az 102 (a.vQ n sg true)/\∃ c1:KC,cH (a.ml n sg true) c1 N T/\H1=(cU (a.ml n sg true) b c1 [])):=by
 apply Spec.go 31 [0,1,2,3,8,9,10,18,26] [] Tryz.func24 rfl rfl rfl;intro W;refine ca (ef b.kb (kp a b c) n) .h1 ?_;rintro _ _ ⟨⟨hl,rfl⟩ | ⟨hl,rfl⟩,rfl⟩
 ·obtain⟨jy,gh⟩:=bC hl;have hl:a.aI n=0:=hl;have gh:(a.u n).st=1:=gh;apply gO;apply XR.mono fun _ bJ=>jV (k:=kp a b c) (n:=n) og .h1 bJ;refine ca (Ku b.kb (0+jG n) (a.u n).bx sg) .h1 ?_;rintro _ _ ⟨rfl,rfl⟩;by_cases sN:((a.u n).bx.dP sg true).1=0
  ·rw[sN,iz];apply gO;apply XR.mono fun _ bJ=>mB (k:=kp a b c) (n:=n) og (pz 3) bJ;try unfold cU
   rw[Ab];try unfold cU
   rw[<-va a n ((a.u n).bx.dP sg true).2,<-yH a n ((a.u n).bx.dP sg true).2];refine xj 17 (yK (a.jh n ((a.u n).bx.dP sg true).2) b c N T (ho.wk.jh jy (r9 _ _ _ (ho.wk.bx n))) (hc.box _ _) og n jy false (by rw[fX];exact gh) ((ho.hx.any n).box _)) (pz 18) rfl ?_;rintro _ _ ⟨c1,gm,rfl⟩;apply gO;refine ah rfl rfl (ad (pz 17) rfl ?_);try dsimp only[aL,aJ,aD,aR]
   grind [KA.vQ,KA.ml,az]
  ·rw[aQ _ sN];apply gO;rw[KK sN];refine XR.mono (fun _ bJ=>mY (k:=kp a b c) (n:=n) og (pz 3) bJ) ?_;refine ah rfl rfl (ad (pz 17) rfl ?_);grind [aL,aJ,KA.vQ,KA.ml,aQ]
 ·have hl:a.aI n≠0:=hl;have iD:(kp a b c).aI n=a.aI n:=rfl;rw[iD];apply gO;refine ah rfl rfl (ad (pz 17) rfl ?_);grind [aL,aJ,KA.vQ,KA.ml,az]
def EZ(a:KA)(b:KZ)(c:KC)(N:Nat)(T:Int)(ho:a.Ok T)(hc:cH a c N T)(hT:T<=800000)(n sg:Int):Spec Tryz.prog 24 [aC b.kb 0 0,iI n,iI sg,.bool false] (cU a b c [.ro 0 0 32 cW]) (fun v H1=>v=az 102 (a.vQ n sg false)/\∃ c1:KC,cH (a.ml n sg false) c1 N T/\H1=(cU (a.ml n sg false) b c1 [])):=by
 apply Spec.go 31 [0,1,2,3,8,9,10,18,26] [] Tryz.func24 rfl rfl rfl;intro W;refine ca (ef b.kb (kp a b c) n) .h1 ?_;rintro _ _ ⟨⟨hl,rfl⟩ | ⟨hl,rfl⟩,rfl⟩
 ·obtain⟨jy,gh⟩:=bC hl;have hl:a.aI n=0:=hl;have gh:(a.u n).st=1:=gh;apply gO;apply XR.mono fun _ bJ=>jV (k:=kp a b c) (n:=n) og .h1 bJ;refine ca (HP b.kb (0+jG n) (a.u n).bx sg) .h1 ?_;rintro _ _ ⟨rfl,rfl⟩;by_cases sN:((a.u n).bx.dP sg false).1=0
  ·rw[sN,iz];apply gO;apply XR.mono fun _ bJ=>mB (k:=kp a b c) (n:=n) og (pz 3) bJ;try unfold cU
   rw[Ab];try unfold cU
   rw[<-va a n ((a.u n).bx.dP sg false).2,<-yH a n ((a.u n).bx.dP sg false).2];refine xj 17 (yK (a.jh n ((a.u n).bx.dP sg false).2) b c N T (ho.wk.jh jy (r9 _ _ _ (ho.wk.bx n))) (hc.box _ _) og n jy false (by rw[fX];exact gh) ((ho.hx.any n).box _)) (pz 18) rfl ?_;rintro _ _ ⟨c1,gm,rfl⟩;apply gO;refine ah rfl rfl (ad (pz 17) rfl ?_);try dsimp only[aL,aJ,aD,aR]
   grind [KA.vQ,KA.ml,az]
  ·rw[aQ _ sN];apply gO;rw[KK sN];refine XR.mono (fun _ bJ=>mY (k:=kp a b c) (n:=n) og (pz 3) bJ) ?_;refine ah rfl rfl (ad (pz 17) rfl ?_);grind [aL,aJ,KA.vQ,KA.ml,aQ]
 ·have hl:a.aI n≠0:=hl;have iD:(kp a b c).aI n=a.aI n:=rfl;rw[iD];apply gO;refine ah rfl rfl (ad (pz 17) rfl ?_);grind [aL,aJ,KA.vQ,KA.ml,az]
def Y9(a:KA)(b:KZ)(c:KC)(N:Nat)(T:Int)(ho:a.Ok T)(hc:cH a c N T)(hT:T<=800000)(n sg:Int)(on:Bool):Spec Tryz.prog 24 [aC b.kb 0 0,iI n,iI sg,.bool on] (cU a b c [.ro 0 0 32 cW]) (fun v H1=>v=az 102 (a.vQ n sg on)/\∃ c1:KC,cH (a.ml n sg on) c1 N T/\H1=(cU (a.ml n sg on) b c1 [])):=by
 cases on
 ·exact EZ a b c N T ho hc hT n sg
 ·exact Ia a b c N T ho hc hT n sg
def wW(a:KA)(b:KZ)(c:KC)(aO:Int->Nat)(hI:a.s.Inv aO)(n q:Int):Spec Tryz.prog 18 [aC b.kb 0 0,iI n,iI q] [.cells b.kb 0 453 (aF (kp a b c)),.cells b.sb 0 158 (Sp.aP a.s)] (fun v H1=>v= .tuple #[iI (a.mD n q).1,az 102 (a.mD n q).2]/\H1=[.cells b.kb 0 453 (aF (kp a b c)),.cells b.sb 0 158 (Sp.aP a.s)]):=afb b.kb (kp a b c) a.s aO hI n q
def yQ(a:KA)(b:KZ)(c:KC)(hf:∀ n i,0<=(a.u n).fd i/\(a.u n).fd i<=24)(n i:Int):Spec Tryz.prog 69 [aC b.kb 0 0,iI n,iI i] [.cells b.kb 0 453 (aF (kp a b c))] (fun v H1=>v= .tuple #[iI (a.dt n i),az 102 (a.eN n i)]/\H1=[.cells b.kb 0 453 (aF (kp a b c))]):=ac3 b.kb (kp a b c) n i hf
def BZ(a:KA)(b:KZ)(c:KC)(n:Int)(hn:0<=n/\n<20)(x:Int)(hx:0<=x:=by omega):Spec Tryz.prog 67 [aC b.kb 0 (0+0+n.toNat*22),iI x] [.cells b.kb 0 453 (aF (kp a b c))] (fun v H1=>v=iI (jE (a.u n).fd x)/\H1=[.cells b.kb 0 453 (aF (kp a b c))]):=ac2 b.kb (kp a b c) n hn x hx
def Za(a:KA)(b:KZ)(c:KC)(N:Nat)(T:Int)(ho:a.Ok T)(hc:cH a c N T)(hT:T<=800000)(n:Int):Spec Tryz.prog 26 [aC b.kb 0 0,iI n] (cU a b c [.ro 0 0 32 cW]) (fun v H1=>v= .tuple #[iI (a.D1 n),az 102 (a.D0 n)]/\∃ c1:KC,cH (a.qX n) c1 N T/\H1=(cU (a.qX n) b c1 [])):=by
 apply Spec.go 30 [0,1,4,5,6,7,8,9,17,27] [] Tryz.func26 rfl rfl rfl;intro W;refine ca (ef b.kb (kp a b c) n) .h1 ?_;rintro _ _ ⟨⟨hl,rfl⟩ | ⟨hl,rfl⟩,rfl⟩
 ·obtain⟨jy,gh⟩:=bC hl;have hl:a.aI n=0:=hl;have gh:(a.u n).st=1:=gh;apply gO;apply XR.mono fun _ bJ=>jV (k:=kp a b c) (n:=n) og .h1 bJ;refine Io 1 (aci b.kb (0+jG n) (a.u n).bx (ho.wk.bx n)) (pk [0,18]) rfl ?_;apply XR.mono fun _ bJ=>mB (k:=kp a b c) (n:=n) og (pk [0,1,1]) bJ;try unfold cU
  rw[Ab];try unfold cU
  rw[<-va a n ((a.u n).bx.take).2,<-yH a n ((a.u n).bx.take).2];refine cd rfl ?_ ?_<;>intro h1
  ·refine ao rfl rfl rfl (ad (pk [0,1,1,1,1,1,1,1,1,1,1,1,1,1,1,1,1]) rfl ?_);have ht:((a.u n).bx.take).1=0:=by first | assumption | omega | simp_all
   have e1:a.D0 n=2:=by unfold KA.D0;rw[if_neg og,if_pos ht]
   have e2:a.D1 n=0:=by unfold KA.D1;rw[if_neg og,ht]
   have e3:a.qX n=a.jh n ((a.u n).bx.take).2:=by unfold KA.qX;rw[if_neg og]
   rw[e1,e2,e3];exact⟨rfl,c,hc.box _ _,rfl⟩
  ·refine ao rfl rfl rfl (ad (pk [0,1,1,1,1,1,1,1,1,1,1,1,1,1,1,1,1]) rfl ?_);have ht:¬((a.u n).bx.take).1=0:=by first | assumption | omega | simp_all
   have e1:a.D0 n=0:=by unfold KA.D0;rw[if_neg og,if_neg ht]
   have e2:a.D1 n=((a.u n).bx.take).1:=by unfold KA.D1;rw[if_neg og]
   have e3:a.qX n=a.jh n ((a.u n).bx.take).2:=by unfold KA.qX;rw[if_neg og]
   rw[e1,e2,e3];exact⟨rfl,c,hc.box _ _,rfl⟩
 ·have hl:a.aI n≠0:=hl;have iD:(kp a b c).aI n=a.aI n:=rfl;rw[iD];apply gO;refine ao rfl rfl rfl (ad (pz 17) rfl ?_);grind [aL,aJ,aR,KA.D0,KA.D1,KA.qX,az]
def Rk(a:KA)(b:KZ)(c:KC)(N:Nat)(T:Int)(ho:a.Ok T)(hc:cH a c N T)(hT:T<=800000)(n q sg:Int):Spec Tryz.prog 78 [aC b.kb 0 0,iI n,iI q,iI sg] (cU a b c [.ro 0 0 32 cW]) (fun v H1=>v=az 102 (a.mR n q sg)/\∃ c1:KC,cH (a.kt n q sg) c1 N T/\H1=(cU (a.kt n q sg) b c1 [])):=by
 apply Spec.go 42 [0,1,2,3,8,9,10,19,26,29] [] Tryz.func78 rfl rfl rfl;intro W;refine cq (wW a b c a.aO ho.wk.sI n q) (pk [0,1]) ?_;refine cd rfl ?_ ?_<;>intro h1
 ·refine ah rfl rfl (ad (pk [0,1,0,0,0,0,0,0,0,0,0,0,0,0,0,0,0]) rfl ?_);grind [aL,aJ,KA.mR,KA.kt]
 ·refine sp 23 rfl ?_ ?_<;>intro h2
  ·refine ah rfl rfl (ad (pk [0,1,0,0,0,0,0,0,0,0,0,0,0,0,0,0,0]) rfl ?_);try dsimp only[aL,aJ,aD,aR]
   grind [KA.mR,KA.kt,az]
  ·refine cd rfl ?_ ?_<;>intro h3
   ·refine ah rfl rfl (ad (pk [0,1,0,0,0,0,0,0,0,0,0,0,0,0,0,0,0]) rfl ?_);try dsimp only[aL,aJ,aD,aR]
    grind [KA.mR,KA.kt,az]
   ·refine cd rfl ?_ ?_<;>intro h4
    ·refine ah rfl rfl (ad (pk [0,1,0,0,0,0,0,0,0,0,0,0,0,0,0,0,0]) rfl ?_);try dsimp only[aL,aJ,aD,aR]
     grind [KA.mR,KA.kt,az]
    ·refine cq (il b.kb (kp a b c) a.s _) (pz 2) ?_;refine cq (il b.kb (kp a b c) a.s n) (pz 2) ?_;refine xj 17 (VC a b c N T ho.wk hc og (a.mD n q).1 sg _ (ho.hx.any _)) (pk [0,1,0,0,0,0,0,0,0,0,0,0,0,0,0,0,0,0]) rfl ?_;rintro _ _ ⟨c1,gm,rfl⟩;apply gO;refine ah rfl rfl (ad (pz 17) rfl ?_);try dsimp only[aL,aJ,aD,aR]
     grind [KA.mR,KA.kt,az]
open Go.X.Tr
def OY:Tryz.prog.info? 102=some Tryz.t102:=kq
theorem cH.same{a a':KA}{c:KC}{N:Nat}{T T':Int}(h:cH a c N T)(hT:T<=T')(e:a'.s=a.s)(hu:∀ n,(a.u n).st=1->(a'.u n).st=1:=by exact fun _ q=>q):cH a' c N T':=⟨h.qO.mono (Nat.le_refl _) og,h.qR,FF.Ok.up h.F hT,h.rp,h.rc,h.rl,fun z h0 h1 h2=>h.tb z h0 h1 (by rwa[e]at h2),fun n n0 n1 hn=>hu n (h.tk n n0 n1 hn)⟩
theorem VK(a:KA)(n i v j w:Int)(O:Tr.OS)(P:Tr.PS):iR {a with u:=BW (BW a.u n i v) n j w,O:=O,P:=P} =iR a:=by grind [jz,iR]
def Ds{F:Tr.FF}{d:Int->Nat}{B:Int}(h:F.Ok d B)(O:Tr.OS)(n:Int)(x:ByteArray):(fW F O n x).Ok d (B+1):=by
 unfold fW;split
 ·exact h.cg _ _ _
 ·exact h.up1
def VL(a:KA)(b:KZ)(c:KC)(N:Nat)(T:Int)(ho:a.Ok T)(hc:cH a c N T)(hT:T<=800000)(n i:Int):Spec Tryz.prog 25 [aC b.kb 0 0,iI n,iI i] (cU a b c []) (fun v H1=>v=az 102 (a.jY c.F.toFF n i)/\∃ c1:KC,cH (a.sa n i) c1 N T/\H1=(cU (a.sa n i) b c1 [])):=by
 apply Spec.go 33 [0,1,2,6,7,8,17] [] Tryz.func25 rfl rfl rfl;intro W;refine cq (yQ a b c ho.wk.fd n i) .h1 ?_;refine cd rfl ?_ ?_<;>intro h1
 ·refine ah rfl rfl (ad (pz 17) rfl ?_);grind [aL,aJ,KA.jY,KA.sa]
 ·have Lc:a.eN n i=0:=og;obtain⟨hn,hs,hi,hf,hv⟩:=KA.rZ Lc;have YY:=ho.wk.fd n i;refine sd (sd (st .aa (lu _ hn hi _) rfl (ld .aa (gx _) ?_)));refine ca (ON _ _ _ _ _ T og ho.wk.OI c.F (hc.F.sh og) T og _ ho.wk.PI (a.dt n i)) (pk [14,9,9,9,10]) ?_;rintro _ _ ⟨rfl,F1,M3,Is,HR,rfl⟩;apply gO;refine ah rfl rfl (ad (pk [5,5,5,5,5,5,5,5,5,1,1,1,2,1,0,0,0]) rfl ?_);have e1:a.jY c.F.toFF n i=jY c.F.toFF a.P a.O (a.dt n i):=by unfold KA.jY;rw[if_neg og]
  have e2:a.sa n i= {a with u:=BW a.u n i 0,O:=kB a.O (a.dt n i),P:=kA a.P a.O (a.dt n i)} :=by unfold KA.sa;rw[if_neg og]
  rw[e1,e2];refine⟨rfl,{c with F:=F1},⟨hc.qO,hc.qR,(by show F1.toFF.Ok _ _;rw[M3];exact FF.Ok.tZ hc.F _ _),Is.trans hc.rp,HR.trans hc.rc,(by show F1.toFF.roots=_;rw[M3,yv];exact hc.rl),hc.tb,fun m m0 m1 hm=>by rw[(jz _ _ _ _ _).1];exact hc.tk m m0 m1 hm⟩,?_⟩;try unfold cU
  rw[H7,D4 a b c n i 0 (kB a.O (a.dt n i)) (kA a.P a.O (a.dt n i))];rfl
def ade(a:KA)(b:KZ)(c:KC)(N:Nat)(T:Int)(ho:a.Ok T)(hc:cH a c N T)(hT:T<=800000)(n i:Int):Spec Tryz.prog 164 [aC b.kb 0 0,iI n,iI i] (cU a b c []) (fun v H1=>v= .tuple #[iI (a.KM n i),az 102 (a.KL n i)]/\∃ c1:KC,cH (a.Br n i) c1 N (T+1)/\H1=(cU (a.Br n i) b c1 [])):=by
 apply Spec.go 47 [0,1,2,6,7,8,9,10,19,28] [] Tryz.func164 rfl rfl rfl;intro W;refine cq (yQ a b c ho.wk.fd n i) .h1 ?_;refine cd rfl ?_ ?_<;>intro h1
 ·refine ao rfl rfl rfl (ad (pz 17) rfl ?_);have e1:a.KL n i=a.eN n i:=by unfold KA.KL;rw[if_pos og]
  have e2:a.KM n i=0:=by unfold KA.KM;rw[if_pos (.inl og)]
  have e3:a.Br n i=a:=by unfold KA.Br;rw[if_pos (.inl og)]
  rw[e1,e2,e3];exact⟨rfl,c,hc.up (Nat.le_refl _) og,rfl⟩
 ·have Lc:a.eN n i=0:=og;obtain⟨hn,hs,hi,hf,hv⟩:=KA.rZ Lc;have YY:=ho.wk.fd n i;refine sd ?_;refine cq (BZ a b c n hn 0) .h1 ?_;refine cd rfl ?_ ?_<;>intro h2
  ·refine ao rfl rfl rfl (ad (pz 17) rfl ?_);have It:a.mK n<0:=by unfold KA.mK;omega
   have e1:a.KL n i=4:=by unfold KA.KL;rw[if_neg og,if_pos It]
   have e2:a.KM n i=0:=by unfold KA.KM;rw[if_pos (.inr It)]
   have e3:a.Br n i=a:=by unfold KA.Br;rw[if_pos (.inr It)]
   rw[e1,e2,e3];exact⟨rfl,c,hc.up (Nat.le_refl _) og,rfl⟩
  ·have It:=vj (a.u n).fd 0;refine sd (sd (sd (st .aa (lu _ hn ⟨It.1,It.2.1⟩ _) rfl (ld .aa (gx _) ?_))));refine cq (H3 _ _ _ _ _ T og ho.wk.OI (a.dt n i)) (pk [14]) ?_;refine ao rfl rfl rfl (ad (pk [1,1,1,1,1,1,1,1,1,1,1,1,1,1,0,0,0]) rfl ?_);have hs2:¬a.mK n<0:=by unfold KA.mK;omega
   have e1:a.KL n i=a.O.is (a.dt n i):=by unfold KA.KL;rw[if_neg og,if_neg hs2]
   have e2:a.KM n i=a.mK n:=by unfold KA.KM;rw[if_neg og]
   have e3:a.Br n i= {a with u:=BW a.u n (a.mK n) (a.dt n i+1),O:=p8 a.O (a.dt n i),P:=a.P} :=by unfold KA.Br;rw[if_neg og]
   rw[e1,e2,e3];refine⟨rfl,c,hc.same og rfl fun m q=>by rw[(jz _ _ _ _ _).1];exact q,?_⟩;try unfold cU
   rw[H7,<-D4 a b c n (a.mK n) (a.dt n i+1) (p8 a.O (a.dt n i)) a.P];rfl
set_option maxHeartbeats 8000000 in
def Zb(a:KA)(b:KZ)(c:KC)(N:Nat)(T:Int)(ho:a.Ok T)(hc:cH a c N T)(hT:T<=800000)(n:Int):Spec Tryz.prog 20 [aC b.kb 0 0,iI n] (cU a b c []) (fun v H1=>v= .tuple #[iI (a.yM n),iI (a.yN n),az 102 (a.uq n)]/\∃ c1:KC,cH (a.qY n) c1 N (T+1)/\H1=(cU (a.qY n) b c1 [])):=by
 have hop:=Gm a.P a.O;have h1:a.mK n=jE (a.u n).fd 0:=rfl;have h2:a.D5 n=jE (a.u n).fd (jE (a.u n).fd 0+1):=rfl;apply Spec.go 62 [0,1,4,5,6,7,8,9,10,11,12,20,25,32,44] [] Tryz.func20 rfl rfl rfl;intro W;refine ca (ef b.kb (kp a b c) n) .h1 ?_;rintro _ _ ⟨⟨hl,rfl⟩ | ⟨hl,rfl⟩,rfl⟩
 ·obtain⟨jy,gh⟩:=bC hl;have hl:a.aI n=0:=hl;have gh:(a.u n).st=1:=gh;apply gO;refine cq (BZ a b c n jy 0) .h1 ?_;refine cd rfl ?_ ?_<;>intro h1
  ·refine mL rfl rfl rfl rfl (ad (pz 17) rfl ?_);try dsimp only[aL,aJ,aD,aR]
   grind [KA.uq,KA.yM,KA.yN,KA.qY,cH.up,az]
  ·have It:=vj (a.u n).fd 0;refine sd ?_;refine cq (BZ a b c n jy (jE (a.u n).fd 0+1)) .h1 ?_;refine cd rfl ?_ ?_<;>intro h2
   ·refine mL rfl rfl rfl rfl (ad (pz 17) rfl ?_);try dsimp only[aL,aJ,aD,aR]
    grind [KA.uq,KA.yM,KA.yN,KA.qY,cH.up,az]
   ·have hsm:=vj (a.u n).fd (jE (a.u n).fd 0+1);apply ld .aa (gx _);refine cq (acW _ _ _ _ _ T og _ ho.wk.PI) (pk [14,13]) ?_;refine cd rfl ?_ ?_<;>intro h3
    ·refine mL rfl rfl rfl rfl (ad (pk [2,2,2,2,2,2,2,2,2,2,2,2,2,1,0,0,0]) rfl ?_);try dsimp only[aL,aJ,aD,aR]
     have e1:a.uq n=kD a.P a.O:=by unfold KA.uq;rw[if_neg og,if_neg og]
     have h0:¬kD a.P a.O=0:=og;have e2:a.yM n=0:=by unfold KA.yM;rw[if_neg og]
     have e3:a.yN n=0:=by unfold KA.yN;rw[if_neg og]
     have e4:a.qY n= {a with O:=nG a.P a.O,P:=nF a.P a.O} :=by unfold KA.qY;rw[if_neg og,if_neg h0]
     rw[e1,e2,e3,e4];exact⟨rfl,c,hc.same og rfl,rfl⟩
    ·refine rq [0,1,2,3,4,5,6,7,8,9,10,12,13,11,14,15] mixed (sd (sd (sd (st (.t2 .aa) (lu _ jy ⟨It.1,It.2.1⟩ _) rfl (sd (st (.t2 .aa) (lu _ jy ⟨hsm.1,hsm.2.1⟩ _) rfl (mL rfl rfl rfl rfl (ad (pk [2,2,2,2,2,2,2,2,2,2,2,2,2,1,0,0,0]) rfl ?_))))))));try dsimp only[aL,aJ,aD,aR]
     have e1:a.uq n=kD a.P a.O:=by unfold KA.uq;rw[if_neg og,if_neg og]
     have h0:kD a.P a.O=0:=og;have e2:a.yM n=a.mK n:=by unfold KA.yM;rw[if_pos og]
     have e3:a.yN n=a.D5 n:=by unfold KA.yN;rw[if_pos og]
     have e4:a.qY n= {a with u:=BW (BW a.u n (a.mK n) (nH a.P a.O+1)) n (a.D5 n) (o3 a.P a.O+1),O:=nG a.P a.O,P:=nF a.P a.O} :=by unfold KA.qY;rw[if_neg og,if_pos h0]
     rw[e1,e2,e3,e4,h0];refine⟨rfl,c,hc.same og rfl fun m q=>by rw[(jz _ _ _ _ _).1,(jz _ _ _ _ _).1];exact q,?_⟩;try unfold cU
     rw[D4 a b c n (jE (a.u n).fd 0) (nH a.P a.O+1) a.O a.P,D4 {a with u:=BW a.u n (jE (a.u n).fd 0) (nH a.P a.O+1),O:=a.O,P:=a.P} b c n (jE (a.u n).fd (jE (a.u n).fd 0+1)) (o3 a.P a.O+1) (nG a.P a.O) (nF a.P a.O)];try unfold cU
     rw[VK];rfl
 ·have hl:a.aI n≠0:=hl;have iD:(kp a b c).aI n=a.aI n:=rfl;rw[iD];apply gO;refine mL rfl rfl rfl rfl (ad (pz 17) rfl ?_);grind [aL,aJ,aR,KA.uq,KA.yM,KA.yN,KA.qY,aQ,cH.up]
def Zc(a:KA)(b:KZ)(c:KC)(N:Nat)(T:Int)(ho:a.Ok T)(hc:cH a c N T)(hT:T<=800000)(n i m:Int):Spec Tryz.prog 22 [aC b.kb 0 0,iI n,iI i,iI m] (cU a b c []) (fun v H1=>v= .tuple #[.string (a.ky c.F.toFF n i m),az 102 (a.lQ c.F.toFF n i m)]/\∃ c1:KC,cH (a.yO c.F.toFF n i m) c1 N (T+1)/\H1=(cU (a.yO c.F.toFF n i m) b c1 [])):=by
 apply Spec.go 31 [0,1,2,3,8,9,10,11,20] [] Tryz.func22 rfl rfl rfl;intro W;refine cq (yQ a b c ho.wk.fd n i) .h1 ?_;refine cd rfl ?_ ?_<;>intro h1
 ·refine ao rfl rfl rfl (ad (pz 17) rfl ?_);grind [aL,aJ,aR,KA.lQ,KA.ky,KA.yO,cH.up]
 ·have Lc:a.eN n i=0:=og;obtain⟨hn,hs,hi,hf,hv⟩:=KA.rZ Lc;have YY:=ho.wk.fd n i;apply ld .aa (gx _);refine cq (acT _ _ _ _ _ T og ho.wk.OI c.F (hc.F.sh og) T og _ ho.wk.PI (a.dt n i) m) (pk [14,9,9,9,10]) ?_;refine ao rfl rfl rfl (ad (pk [5,5,5,5,5,5,5,5,5,1,1,1,2,1,0,0,0]) rfl ?_);have e1:a.lQ c.F.toFF n i m=tT c.F.toFF a.P a.O (a.dt n i) m:=by unfold KA.lQ;rw[if_neg og]
  have e2:a.ky c.F.toFF n i m=tU c.F.toFF a.P a.O (a.dt n i) m:=by unfold KA.ky;rw[if_neg og]
  have e3:a.yO c.F.toFF n i m= {a with O:=qa c.F.toFF a.O (a.dt n i) m,P:=p9 a.P a.O (a.dt n i) m} :=by unfold KA.yO;rw[if_neg og]
  rw[e1,e2,e3];exact⟨rfl,c,hc.same og rfl,rfl⟩
set_option maxHeartbeats 8000000 in
def VM(a:KA)(b:KZ)(c:KC)(N:Nat)(T:Int)(ho:a.Ok T)(hc:cH a c N T)(hT:T<=800000)(n i:Int)(x:ByteArray)(hx:x.size<=1000000):Spec Tryz.prog 21 [aC b.kb 0 0,iI n,iI i,.string x] (cU a b c [.ro 0 0 32 cW]) (fun v H1=>v= .tuple #[iI (a.Ar c.F.toFF n i x),az 102 (a.eW c.F.toFF n i x)]/\∃ c1:KC,cH (a.nJ c.F.toFF n i x) c1 N (T+1)/\H1=(cU (a.nJ c.F.toFF n i x) b c1 [])):=by
 apply Spec.go 41 [0,1,2,3,8,9,10,11,12,21,35] [] Tryz.func21 rfl rfl rfl;intro W;refine cq (yQ a b c ho.wk.fd n i) .h1 ?_;refine cd rfl ?_ ?_<;>intro h1
 ·refine ao rfl rfl rfl (ad (pz 17) rfl ?_);grind [aL,aJ,aR,KA.eW,KA.Ar,KA.nJ,cH.up]
 ·have Lc:a.eN n i=0:=og;obtain⟨hn,hs,hi,hf,hv⟩:=KA.rZ Lc;have YY:=ho.wk.fd n i;apply ld .aa (gx _);refine ca (YS _ _ _ _ _ T og ho.wk.OI c.F (hc.F.sh og) T og _ ho.wk.PI (a.dt n i) x hx) (pk [14,9,9,9,10]) ?_;rintro _ _ ⟨rfl,F1,M3,Is,HR,rfl⟩;have hcf:cH (a.wV c.F.toFF n i x) {c with F:=F1} N (T+1):=⟨hc.qO,hc.qR,(by show F1.toFF.Ok _ _;rw[M3];exact Ds hc.F _ _ _),Is.trans hc.rp,HR.trans hc.rc,(by show F1.toFF.roots=_;rw[M3,EU];exact hc.rl),hc.tb,hc.tk⟩;apply gO;refine XO.v (NI rfl rfl dq Tryz.underlying33 OY rfl Tryz.underlying102 rfl) rfl (gO ?_);refine cd rfl ?_ ?_<;>intro h2
  ·refine xj 17 (VC (a.wV c.F.toFF n i x) b {c with F:=F1} N (T+1) (ho.D6 og c.F.toFF n i x).wk hcf og n 2 false ((ho.D6 og c.F.toFF n i x).hx.any n)) (pk [5,5,5,5,5,5,5,5,5,1,1,1,2,1,0,0,0,0]) rfl ?_;rintro _ _ ⟨c1,gm,rfl⟩;apply gO;refine ao rfl rfl rfl (ad (pz 17) rfl ?_);try dsimp only[aL,aJ,aD,aR]
   grind [KA.eW,KA.Ar,KA.nJ]
  ·refine ao rfl rfl rfl (ad (pk [5,5,5,5,5,5,5,5,5,1,1,1,2,1,0,0,0]) rfl ?_);try dsimp only[aL,aJ,aD,aR]
   have e1:a.eW c.F.toFF n i x=(iG c.F.toFF a.P a.O (a.dt n i) x):=by unfold KA.eW;rw[if_neg og]
   have e2:a.Ar c.F.toFF n i x=jf c.F.toFF a.P a.O (a.dt n i) x:=by unfold KA.Ar;rw[if_neg og]
   have e3:a.nJ c.F.toFF n i x=a.wV c.F.toFF n i x:=by unfold KA.nJ;rw[if_neg og,if_neg og]
   rw[e1,e2,e3];exact⟨rfl,_,hcf,rfl⟩
def Zd(a:KA)(b:KZ)(c:KC)(N:Nat)(T:Int)(ho:a.Ok T)(hc:cH a c N T)(hT:T<=800000)(n i z:Int):Spec Tryz.prog 165 [aC b.kb 0 0,iI n,iI i,iI z] (cU a b c []) (fun v H1=>v=az 102 (a.nf n i z)/\∃ c1:KC,cH (a.vR n i z) c1 N (T+1)/\H1=(cU (a.vR n i z) b c1 [])):=by
 apply Spec.go 28 [0,1,2,3,8,9,10,19] [] Tryz.func165 rfl rfl rfl;intro W;refine cq (yQ a b c ho.wk.fd n i) .h1 ?_;refine cd rfl ?_ ?_<;>intro h1
 ·refine ah rfl rfl (ad (pz 17) rfl ?_);have e1:a.nf n i z=a.eN n i:=by unfold KA.nf;rw[if_pos og]
  have e3:a.vR n i z=a:=by unfold KA.vR;rw[if_pos og]
  rw[e1,e3];exact⟨rfl,c,hc.up (Nat.le_refl _) og,rfl⟩
 ·have Lc:a.eN n i=0:=og;obtain⟨hn,hs,hi,hf,hv⟩:=KA.rZ Lc;have YY:=ho.wk.fd n i;apply ld .aa (gx _);refine cq (acU _ _ _ _ _ (a.dt n i) z) (pk [14]) ?_;refine ah rfl rfl (ad (pk [1,1,1,1,1,1,1,1,1,1,1,1,1,1,0,0,0]) rfl ?_);have e1:a.nf n i z=nf a.O (a.dt n i) z:=by unfold KA.nf;rw[if_neg og]
  have e3:a.vR n i z= {a with O:=vM a.O (a.dt n i) z,P:=a.P} :=by unfold KA.vR;rw[if_neg og]
  rw[e1,e3];exact⟨rfl,c,hc.same og rfl,rfl⟩
end Go.X.Kn

namespace Go.X.Kn
open Go Go.X Go.X.Vm
variable{n:Int}
theorem KA.Wk.mem{a:KA}{T:Int}(w:a.Wk T)(hn:0<=n/\n<20)(hl:(a.u n).st=1){v:VB}{m:Vm.MS}(hs:Vm.Sys v (bF a.f n.toNat m) 20){g:Gr.TG}(hg:g.Inv)(hG:g.bM (1000*T)):({a with v:=v,f:=bF a.f n.toNat m,g:=g} :KA).Wk T:=
 ⟨w.T0,hg,hG,w.sI,hs,fun p a0 a1 q=>by
  show bF a.f n.toNat m p.toNat=_
  have:p≠n:=by rintro rfl;exact q hl
  rw[lM _ _ og];exact w.tY p a0 a1 q,w.PI,w.OI,w.lc,w.st,w.out,w.fd,w.bx⟩
theorem KA.Ok.mem{a:KA}{T:Int}(h:a.Ok T){n:Int}(c:a.aI n=0){v:VB}{m:Vm.MS}(hs:Vm.Sys v (bF a.f n.toNat m) 20){g:Gr.TG}(hg:g.Inv)(hG:g.bM (1000*T)):({a with v:=v,f:=bF a.f n.toNat m,g:=g} :KA).Ok T:=
 ⟨h.wk.mem (bX c).1 (bX c).2 hs hg hG,h.hx.same (fun _=>⟨rfl,rfl⟩) rfl,h.r0.same rfl rfl,h.d0⟩
def KA.pZ(a:KA)(n f m:Int):Int:=if a.aI n≠0 then a.aI n else(a.f n.toNat).pZ f m
def KA.Ib(a:KA)(n f m:Int)(w:Bool):KA:=if a.aI n≠0 then a else {a with v:=a.v,f:=bF a.f n.toNat ((a.f n.toNat).map f m w),g:=a.g}
theorem KA.Ok.map{a:KA}{T:Int}(h:a.Ok T)(n f m:Int)(w:Bool):(a.Ib n f m w).Ok T:=by
 unfold KA.Ib;split
 ·exact h
 ·rename_i c;have hn:=(bX (show a.aI n=0 by omega)).1;exact h.mem og (h.wk.sys.same og ((h.wk.sys.mo _ og).map _ _ _) (Vm.MS.abE _ _ _ _).1) h.wk.gI h.wk.gS
def KA.kL(a:KA)(n f m:Int):Int:=if a.aI n≠0 then a.aI n else(a.f n.toNat).kL f m
def KA.yT(a:KA)(n f m:Int)(w:Bool):KA:=if a.aI n≠0 then a else {a with v:=a.v,f:=bF a.f n.toNat ((a.f n.toNat).nA f m w),g:=a.g}
theorem KA.Ok.nA{a:KA}{T:Int}(h:a.Ok T)(n f m:Int)(w:Bool):(a.yT n f m w).Ok T:=by
 unfold KA.yT;split
 ·exact h
 ·rename_i c;have hn:=(bX (show a.aI n=0 by omega)).1;exact h.mem og (h.wk.sys.same og ((h.wk.sys.mo _ og).nA _ _ _) (Vm.MS.XV _ _ _ _).1) h.wk.gI h.wk.gS
def KA.KS(a:KA)(n f m:Int):Int×Int×VB×Vm.MS:=(a.f n.toNat).fJ a.v f m
def KA.uu(a:KA)(n f m:Int):Int:=if a.aI n≠0 then a.aI n else if(a.KS n f m).2.1≠0 then(a.KS n f m).2.1 else a.g.gu (a.u n).kx 0 (a.KS n f m).1
def KA.pd(a:KA)(n f m:Int):KA:=if a.aI n≠0 then a else {a with v:=(a.KS n f m).2.2.1,f:=bF a.f n.toNat (a.KS n f m).2.2.2,g:=if(a.KS n f m).2.1≠0 then a.g else a.g.fa (a.u n).kx 0 (a.KS n f m).1}
theorem KA.Ok.fJ{a:KA}{T:Int}(h:a.Ok T)(n f m:Int):(a.pd n f m).Ok T:=by
 unfold KA.pd;split
 ·omega
 ·rename_i c;have hn:=(bX (show a.aI n=0 by omega)).1;apply h.mem og (h.wk.sys.fJ og _ _)
  ·split
   ·exact h.wk.gI
   ·exact h.wk.gI.fa _ _ _
  grind [KA.Ok.wk,KA.Wk.gS,ua,KA.Wk.gI]
def KA.Bt(a:KA)(z:Int):Nat->Int×Int
 | 0=>(-1,0)
 | k+1=>if 1<=k/\a.aI (k:Int)=0/\a.g.under (a.u (k:Int)).kx z=true/\(a.Bt z k).2<a.CN (k:Int)then((k:Int),a.CN (k:Int))else a.Bt z k
theorem n5(a:KA)(z:Int){i:Int}(h:1<=i):a.Bt z (i+1).toNat=if a.aI i=0/\a.g.under (a.u i).kx z=true/\(a.Bt z i.toNat).2<a.CN i then(i,a.CN i)else a.Bt z i.toNat:=by
 rw[show(i+1).toNat=i.toNat+1 by omega];grind [KA.Bt]
theorem Gn(a:KA)(z:Int):∀ k:Nat,(a.Bt z k).1= -1\/(1<=(a.Bt z k).1/\a.aI (a.Bt z k).1=0)
 | 0=>.inl rfl
 | k+1=>by
  unfold KA.Bt;split
  ·rename_i c;exact .inr ⟨by show(1:Int)<=(k:Int);omega,c.2.1⟩
  ·exact Gn a z k
def KA.gT(a:KA)(z:Int):Int:=(a.Bt z 20).1
def si{a:KA}{z:Int}(h:¬a.gT z<0):1<=a.gT z/\a.aI (a.gT z)=0:=by
 grind [Gn,KA.gT]
def KA.iB(a:KA)(n:Int):Option Int:=a.g.iB (a.u n).kx 0 1
def KA.nj(a:KA)(n:Int):Nat->Int×KA
 | 0=>(6,a)
 | k+1=>if a.aI n≠0 then(6,a)else match a.iB n with
  | none=>(a.g.cX (a.u n).kx 0 1,{a with v:=a.v,f:=a.f,g:=a.g.cv (a.u n).kx 0 1})
  | some z=>if a.gT z<0 then(6,a)else(a.cR (a.gT z) 137).nj n k
def Gp{f g:Int->Bool}(h:∀ j,g j=true->f j=true):∀ k:Nat,Tr.qG g k<=Tr.qG f k
 | 0=>Int.le_refl _
 | k+1=>by
  unfold Tr.qG;have:=Gp h k;have h2:=h (k:Int);cases hg:g (k:Int)with
  | false=>simp;split<;>omega
  | true=>rw[h2 hg];simp;omega
def OZ{f g:Int->Bool}(h:∀ j,g j=true->f j=true){n:Int}(hf:f n=true)(hg:g n=false):∀ k:Nat,0<=n->n<k->Tr.qG g k<Tr.qG f k
 | 0,h0,h1=>og
 | k+1,h0,h1=>by
  unfold Tr.qG;by_cases e:(k:Int)=n
  ·have:=Gp h k;grind
  ·have:=OZ h hf hg k h0 og;grind
def KA.lvC(a:KA):Int:=Tr.qG (fun j=>decide ((a.u j).st=1)) 20
def KT(h p:Int):∀ (l:List Int) (a:KA),((l.foldl (KA.ey h) a).u p).st=1->(a.u p).st=1
 | [],_,q=>q
 | x::r,a,q=>by
  have q2:=KT h p r (KA.ey h a x) q;by_cases e:p=x
  ·subst e;unfold KA.ey at q2;split at q2
   ·omega
   ·rw[show((if(a.u p).st=1 then a.cD p 0 else a).eY p).u p=PA.nil from au _ _ _]at q2;exact absurd (show(0:Int)=1 from q2) dq
  grind [yC]
theorem M9{a:KA}{co p:Int}(q:((a.cR n co).u p).st=1):p≠n/\(a.u p).st=1:=by
 have q1:((a.ij n co).u p).st=1:=by
  grind [KA.cR,KA.jH,fX,du]
 have q2:((a.cD n co).u p).st=1:=by
  unfold KA.ij at q1;split at q1
  ·unfold KA.dV at q1;rw[Dx]at q1;exact KT n p _ _ q1
  omega
 grind [pN,pM]
def Rl{a:KA}{co:Int}(hn:0<=n/\n<20)(hl:(a.u n).st=1):(a.cR n co).lvC<a.lvC:=by
 refine OZ (n:=n) (fun j q=> ?_) ?_ ?_ 20 hn.1 og;all_goals grind [M9]
def KA.O0(a:KA):0<=a.lvC/\a.lvC<=20:=Tr.N0 _ 20
def KA.cb(a:KA)(n:Int):Int×KA:=a.nj n 21
end Go.X.Kn
