import Derived.Test.YthdinakloheinaaGreatDoorkJPY
set_option linter.all false
namespace Go.X.Kn
open Go Go.X Go.X.Sg Go.X.Vm
variable{T n:Int}
def KA.Pw.settle{a:KA}(h:a.Pw)(ok:a.oC T)(hl:(a.u n).st=1)(o:Bool)(ho:o=true->n≠0):(a.cD n o).Pw:=by
 by_cases he:a.EF n o
 ·rw[mZ he];refine h.aU ok (fun e=> ?_) hl _;subst e;rcases he.2 with q | q
  ·simp_all
  ·exact q (Z3 ok.wk ok.r0)
 grind [KA.cD]
def KA.Pw.DE{a:KA}(h:a.Pw)(ok:a.oC T)(c:a.aH n=0){x:BS}(hx:x.db 0=false)(o:Bool)(ho:o=true->n≠0):((a.ic n x).cD n o).Pw:=by
 obtain⟨hr,hl⟩:=bX c;exact(h.box n x).settle ⟨ok.wk.ic hr hx,ok.r0.box _ _,ok.d0⟩ (by rw[fp];exact hl) o ho
theorem KA.Pw.send{a:KA}(h:a.Pw)(ok:a.oC T)(n sig:Int)(o:Bool)(ho:o=true->n≠0):(a.sG n sig o).Pw:=by
 unfold KA.sG;split
 ·rename_i c;exact h.DE ok c (mP _ _ (ok.wk.bx n)) o ho
 omega
theorem KA.Pw.dy{a:KA}(h:a.Pw)(ok:a.oC T)(n sig:Int)(on:Bool):(a.lB n sig on).Pw:=by
 unfold KA.lB;split
 ·omega
 ·rename_i c;split
  ·exact h.DE ok og (o7 _ _ _ (ok.wk.bx n)) false sq
  omega
def KA.Pw.jN{a:KA}(h:a.Pw)(ok:a.oC T)(n sig v:Int):(a.z8 n sig v).Pw:=by
 unfold KA.z8;split
 ·omega
 ·rename_i c;split
  ·exact h.DE ok og (u6 _ _ _ (ok.wk.bx n)) false sq
  omega
theorem KA.Pw.take{a:KA}(h:a.Pw)(n:Int):(a.q7 n).Pw:=by
 unfold KA.q7;split
 ·exact h
 ·exact h.box _ _
def KA.Pw.qf{a:KA}(h:a.Pw)(ok:a.oC T)(n gh sig:Int):(a.jo n gh sig).Pw:=by
 unfold KA.jo;split
 ·rename_i c;refine h.send ok _ _ _ fun _ e=> ?_;unfold KA.me at c;split at c
  ·omega
  ·rename_i c1;split at c
   ·omega
   ·split at c
    ·omega
    ·rename_i c2;obtain⟨s1,s2,s3,_⟩:=ym (show(a.pH n gh).2=0 by omega);obtain⟨_,f2,_⟩:=pI ok.wk.sI s2;rw[<-s3,e]at f2;have hz:=SS.Inv.in0 ok.wk.sI ok.r0.loc ok.d0 f2;rw[hz]at f2;exact c2 (ok.wk.sI.inj 0 1 gh (by rw[ok.r0.bG];omega) (by rw[f2,ok.r0.bG]))
 omega
theorem KA.Pw.iS{a:KA}{T:Int}(h:a.Pw)(ok:a.oC T)(n co:Int):(a.iS n co).Pw:=by
 unfold KA.iS;split
 ·rename_i c;obtain⟨h1,h2⟩:=wH c;exact h.aU ok h2 (bX h1).2 co
 omega
theorem KA.Pw.fd{a:KA}(h:a.Pw)(n i v:Int)(O:Tr.OS)(P:Tr.PS):({a with u:=Bc a.u n i v,O:=O,P:=P} :KA).Pw:=h.same (fun p=>⟨(jq a.u n i v p).1,by
 show(ad a.u n _ p).ax=_
 by_cases e:p=n
 ·subst e;rw[aj]
 ·rw[ae _ _ e]⟩) rfl
theorem KA.Pw.bU{a:KA}(h:a.Pw)(g:Gr.TG)(v:VB)(f:Nat->Vm.MS)(O:Tr.OS)(P:Tr.PS):({a with g:=g,v:=v,f:=f,O:=O,P:=P} :KA).Pw:=h.same (fun _=>⟨rfl,rfl⟩) rfl
theorem KA.Pw.room{n:Int} :∀ (k:Nat) {a:KA} {T:Int},a.Pw->a.Ok T->(a.my n k).2.Pw
 | 0,a,T,h,_=>h
 | k+1,a,T,h,ok=>by
  unfold KA.my;by_cases c:a.aH n≠0
  ·rw[if_pos c];exact h
  ·rw[if_neg c];cases hz:a.gj n with
   | none=>exact h.bU _ a.v a.f a.O a.P
   | some z=>
    show(if a.gK z<0 then((6:Int),a)else(a.aU (a.gK z) 137).my n k).2.Pw;split
    ·exact h
    ·rename_i d;have hv:=sj d;have hl:=bX hv.2;have hv0:a.gK z≠0:=og;exact KA.Pw.room k (h.aU ok.o0 hv0 hl.2 137) (ok.wk.DD ok.r0 ok.d0 hv0 hl.2 (ok.hx.any _) 137)
def KA.Pw.Z5{a:KA}(h:a.Pw)(ok:a.Ok T){D:TD}(hD:∀ {b:KA},b.Pw->(D.A b).Pw)(x:Int)(w:Bool)(y0:Int):((a.ky n x w D y0).2.1).Pw:=by
 have h1:(a.bQ n).2.Pw:=h.room 21 ok;unfold KA.ky;by_cases c1:a.aH n≠0
 ·simp_all
 ·rw[if_neg c1];by_cases c2:(a.f n.toNat).xy x w=false
  ·simp_all
  ·rw[if_neg c2];by_cases c3:(a.f n.toNat).sD x=true
   ·rw[if_pos c3];by_cases c4:(a.bQ n).1≠0
    ·simp_all
    ·rw[if_neg c4];show(if D.e (a.bQ n).2≠0 then(D.A (a.bQ n).2).unA n else D.A (a.bQ n).2).Pw;split
     ·exact(hD h1).same (fun _=>⟨rfl,rfl⟩) rfl
     simp_all
   simp_all
theorem KA.Pw.AQ{a:KA}{T:Int}(h:a.Pw)(ok:a.Ok T)(hT:T<=900000)(F:Tr.FF)(n i:Int)(x:ByteArray):(a.nK F n i x).Pw:=by
 have h1:(a.uc F n i x).Pw:=h.same (fun _=>⟨rfl,rfl⟩) rfl;unfold KA.nK;split
 ·omega
 ·split
  ·exact h1.send (ok.AQ hT F n i x).o0 n 2 false sq
  omega
def KA.Pw.acY{a a1:KA}{F:Tr.FF}{x:iV}(h:a.Pw)(ok:a.Ok T)(hT:T<=800000)(s:a.qg F x a1):a1.Pw:=by
 have q:∀ {b:KA} {P:Prop} [Decidable P],b.Pw->(if P then a else b).Pw:=fun hb=>by
  grind
 cases s with
 | same=>exact h
 | db=>exact h.db ok.o0 _
 | qf=>exact h.qf ok.o0 _ _ _
 | dy=>exact h.dy ok.o0 _ _ _
 | jN=>exact h.jN ok.o0 _ _ _
 | take=>exact h.take _
 | map=>exact q (h.bU _ _ _ a.O a.P)
 | nh=>exact q (h.bU _ _ _ a.O a.P)
 | drop=>exact h.bU _ a.v a.f a.O a.P
 | Ov o=>
  rcases o with rfl | ⟨_,_,_,_,_,rfl⟩
  ·omega
  ·exact h.fd _ _ _ _ a.P
 | close=>exact q (h.fd _ _ _ _ _)
 | dup=>exact q (h.fd _ _ _ _ a.P)
 | JR=>
  refine q ?_;split
  ·exact(h.fd _ _ _ a.O a.P).fd _ _ _ _ _
  ·grind [KA.Pw.bU]
 | mJ=>exact q (h.bU a.g a.v a.f _ _)
 | b7=>exact h.AQ ok og _ _ _ _
 | JS=>exact q (h.bU a.g a.v a.f _ a.P)
def KA.Pw.step{a a1:KA}{c c1:KC}{x:iV}{e:Int}(h:a.Pw)(ok:a.Ok T)(hT:T<=800000)(s:a.sQ c c1 x a1 n e):a1.Pw:=by
 have q:∀ {b:KA} {P:Prop} [Decidable P],b.Pw->(if P then a else b).Pw:=fun hb=>by
  grind
 cases s with
 | iA _=>exact h.iA ok.o0 _ _
 | exit _=>exact h.iS ok.o0 _ _
 | fE _=>exact q (h.bU _ _ _ a.O a.P)
 | load _=>exact h.Z5 ok (fun hb=>hb.bU _ _ _ _ _) _ _ _
 | store _=>exact h.Z5 ok (fun hb=>hb.bU _ _ _ _ _) _ _ _
 | pU _ _ _=>exact h
 | lim _=>exact h.bU _ a.v a.f a.O a.P
 | Ii _ _ _=>
  refine q (h.same (fun p=>⟨(yz _ _ _ p).1,?_⟩) rfl);show(ad a.u _ _ p).ax=_;by_cases e:p=x.a
  ·rw[e,aj]
  ·grind [ae]
 | add _ _ _=>exact q (h.bU _ a.v a.f a.O a.P)
 | ue _ r _ _=>exact h.acY ok hT r
end Go.X.Kn

namespace Go.X.Kn
open Go Go.X Go.X.Fa
structure KI (k:KP) (mb:Nat->Nat) (s:Sp.SS):Prop where
 gx:Kid k mb
 ec:s.Inv fun _=>1
 h0:s.aa 0=true
 hN:∀ n,s.aa n=true->n=0
 loc:∀ n,0<=n->n<20->(0<=s.loc n↔(k.u n).st≠0)
 one:s.bG 0 1=0
 st0:(k.u 0).st=1
section
variable {k:KP} {mb:Nat->Nat} {s:Sp.SS}
theorem KI.hz(h:KI k mb s)(t:Int):(s.bM t).1=0:=by
 unfold Sp.SS.bM;split
 ·rfl
 ·split
  ·rfl
  ·exact h.hN _ (h.ec.at_ t og og og)
theorem KI.is0(h:KI k mb s):s.is 0=0:=by unfold Sp.SS.is;rw[if_neg og,if_pos h.h0]
theorem VF(h:KI k mb s):k.aH 0=0:=KP.uM ⟨og,og⟩ h.st0
theorem KI.pH(h:KI k mb s){p:Int}(hp:1<=p/\p<=20):k.pH s 0 p=if s.bG 0 p<0 then(0,2)else if(k.u (s.bG 0 p)).st=1 then(s.bG 0 p,0)else(0,8):=by
 have hf:s.find 0 p=if s.bG 0 p<0 then(0,2)else(s.bG 0 p,0):=by
  unfold Sp.SS.find;rw[if_neg (by rw[h.is0];omega),if_neg og]
 grind [KP.pH,VF,KI.hz]
def EN(k:KP)(s:Sp.SS)(en:Int->Bool)(cd:Int->Int):Prop:=
 ∀ p,2<=p->p<21->(en p=true↔(0<=s.bG 0 p/\(k.u (s.bG 0 p)).st=2))/\(en p=true->cd p=(k.u (s.bG 0 p)).gJ)
end
theorem acZ:∀ p:Int,S0.bG 0 p=if p=1 then 0 else-1:=fun p=>by
 have h:S0.bG=cv Sp.SS.cK.bG 0 1 0:=by rfl
 rw[h];unfold cv;by_cases c:p=1
 ·omega
 ·rw[if_neg fun q=>c q.2,if_neg c];rfl
structure KX where
 k:KP
 mb:Nat->Nat
 s:Sp.SS
 g:Gr.TG
 q:SC
 d:Int->Nat
 m:Nat
 en:Int->Bool
 cd:Int->Int
 ps:Nat->Option Addr
 cs:Nat->Nat
structure KX.Ok (x:KX) (i:Int):Prop where
 I:KI x.k x.mb x.s
 E:EN x.k x.s x.en x.cd
 gI:x.g.Inv
 gS:x.g.bR (1000*i+1000)
 qO:x.q.toSF.Ok x.d x.m 1
 qR:x.q.pA
def nO.D5(a b:Int):0+1<2/\nO a b (0+1)=iI b:=⟨og,rfl⟩
section
variable {k:KP} {mb:Nat->Nat} {s:Sp.SS}
end
end Go.X.Kn

namespace Go.X.Kn
open Go Go.X Go.X.Fa Go.X.Sg Go.X.Sp Go.X.Vm
def A0:KA:= {u:=ad (fun _=>PA.nil) 0 ⟨1,-1,0,0,fun _=>0,BS.cK⟩,g:=G0,s:=S0,aL:=fun _=>1,v:=VB.cK,f:=fun _=>Vm.MS.nil,P:=Tr.PS.cK,O:=Tr.OS.dc}
theorem HH(g:Int)(hg:0<=g):∀ k,wi (fun _=>Vm.MS.nil) g k=0
 | 0=>rfl
 | k+1=>by
  have e:∀ j,cM Vm.MS.nil.fr g j=0:=fun j=>by
   induction j with
   | zero=>rfl
   | succ j ih=>rw[cM,ih,show Vm.MS.nil.fr j=0 from rfl,if_neg og];rfl
  rw[wi,HH g hg k,e];rfl
theorem DQ(n:Int):A0.u n=if n=0 then⟨1,-1,0,0,fun _=>0,BS.cK⟩else PA.nil:=rfl
def Kv:A0.Ok 2:=by
 have hS:S0=Sp.SS.cK.eR (fun _=>1) 0 0:=by rfl
 refine⟨⟨og,Gr.TG.Inv.cK.cr 0 1 0,(Gr.TG.bR.cK.cr Gr.TG.Inv.cK.ok 0 1 0).mono og,Sp.SS.Inv.cK.enter 0 0,⟨Vm.Sys.cK.jL.congr fun g a b=>(HH g a 1).trans (HH g a 20).symm,fun _ _=>Vm.MS.Ok.nil⟩,fun _ _ _ _=>rfl,Tr.PS.Inv.cK.mono og,Tr.OS.Inv.dc.mono og,fun m a b=> ?_,fun n=> ?_,fun n hn=> ?_,fun n i=> ?_,fun n=> ?_⟩,fun p _ _ _ _=>.inl ?_,⟨rfl,rfl,by show S0.bG 0 1=0;rw[acZ,if_pos rfl]⟩,rfl⟩
 ·show _↔0<=ad (Em 20) 0 0 m;rw[DQ];by_cases c:m=0
  ·grind [aj]
  ·rw[ae _ _ c,if_neg c];unfold Em;rw[if_pos og];exact⟨fun q=>absurd rfl q,fun q=>absurd q og⟩
 ·rw[DQ];split
  ·simp_all
  ·exact .inl rfl
 ·grind [DQ]
 ·rw[DQ];split<;>exact⟨Int.le_refl 0,by show(0:Int)<=24;omega⟩
 ·rw[DQ];split<;>rfl
 ·have e:(A0.u p).bx=BS.cK:=by rw[DQ];split<;>rfl
  rw[e];exact TF.cK.e
theorem VG(b:KZ)(c:KC):ZJ (kp A0 b c) (c.mb 0):=⟨by
 funext n
 show(A0.u n).pu (c.mb n.toNat)=_
 by_cases h:n=0
 ·subst h;rw[aj];rfl
 ·rw[ae _ _ h,DQ,if_neg h];rfl⟩
theorem ac0:ka A0=ET (fun _=>false) (0:Int).toNat:=by
 have h:=NT (a:= {A0 with u:=fun _=>PA.nil}) (n:=0) (p:=⟨1,-1,0,0,fun _=>0,BS.cK⟩) ⟨og,og⟩ dq;have e:ka {A0 with u:=fun _=>PA.nil} =fun _=>false:=by
  funext j;unfold ka;exact decide_eq_false fun q=>q.2 rfl
 grind [A0]
theorem ac1:mh A0=ET (fun _=>false) (0:Int).toNat:=by
 have h0:∀ z:Int,A0.s.aa z=decide (z=0):=fun z=>by
  rfl
 grind [jF,mh]
theorem Y4(z:Int):S0.aa z=decide (z=0):=by
 rfl
theorem ac2(b:KZ)(c:KC)(ob mb:Nat)(t:TB)(hm:c.mb=bE (fun _=>0) (0:Int).toNat mb)(ht:c.t=bE (fun _=>t) (0:Int).toNat t)(K:KP)(hK:K= {KP.raw b.gb b.sb b.qb b.bb b.tb b.pi with ob:=b.ob}):({K with ms:=ad K.ms 0 (aA t.b 0 0)} :KP).put 0 (CE mb)=kp A0 b c:=by
 subst hK;refine KP.ext (fun m=> ?_) ?_ ⟨⟨rfl,rfl,rfl,rfl⟩,rfl,rfl,rfl⟩
 ·show _=(A0.u m).pu (c.mb m.toNat);by_cases e:m=0
  ·subst e;rw[KP.sE,hm,rU];rfl
  ·rw[KP.zy _ _ e,DQ,if_neg e];rfl
 ·show ad (fun _=>Value.pointer none) 0 (aA t.b 0 0)=fun z=>if S0.aa z then aA (c.t z.toNat).b 0 0 else .pointer none
  rw[ht];grind [Y4,bE,ad]
def afy{q:SC}(h:q.toSF=Q2):∀ m,0<=m->m<20->q.aa (10+m)=true->(A0.u m).st=1:=fun m m0 m1 hm=>by
 have hm:q.toSF.aa (10+m)=true:=hm;rw[h,show Q2=Q1.fZ dK 0 true from rfl,Fa.SF.uC]at hm;by_cases e:m=0
 ·subst e;rfl
 ·have h2:=(Fa.SF.Fb (s:=Fa.SF.cK) hm).resolve_left e;have h3:ad (fun _:Int=>false) 0 true (10+m)=true:=h2;grind [ae]
end Go.X.Kn

namespace Go.X.Kn
open Go Go.X
variable{T co n p:Int}
def DR{a:KA}(I:a.s.Inv a.aL){q:Int}(h:(a.pH n q).2=0):a.s.bG (a.s.bM n).1 q=(a.pH n q).1/\(0<=(a.pH n q).1/\(a.pH n q).1<20):=by
 obtain⟨_,h2,h3,_⟩:=ym h;obtain⟨r,w,_⟩:=pI I h2;omega
def F8(a:KA)(n:Int)(f:Int->Bool)(k:Int):Prop:=∀ t,f t=true->∃ j,(0<=j/\j<k)/\a.pH n (il (a.lsL n) j)=(t,0)
theorem F8.none(a:KA)(n:Int):F8 a n (fun _=>false) 0:=fun _ h=>by cases h
theorem F8.add{a:KA}{f:Int->Bool}{k:Int}(h:F8 a n f k)(hk:0<=k)(e:(a.pH n (il (a.lsL n) k)).2=0):F8 a n (ad f (a.pH n (il (a.lsL n) k)).1 true) (k+1):=fun t q=>by
 grind [F8,ad]
def KA.DS(a:KA):List Int:=Vm.eM (fun n=>decide ((a.u n).st=1)) 20
def afz:A0.Pw:=by
 have ok:=Kv;refine⟨fun p p0 q=> ?_,fun z z0 z1 hz=> ?_,by rw[DQ,if_pos rfl]⟩
 ·rw[DQ,if_neg p0]at q;exact absurd rfl q
 ·have hz:S0.aa z=true:=hz;have e:z=0:=by
   rcases(show z=0\/z=1\/z=2\/z=3\/z=4\/z=5 by omega)with e | e | e | e | e | e
   ·omega
   all_goals(rw[e]at hz;exact absurd hz dk)
  grind [KA.Ok.r0,KA.R0.bG,KA.R0.st,KA.R0.loc]
open Go.X.Gr Go.X.Sg Go.X.Vm
def F9(a:KA)(p m:Int):((a.iW p).u m).st=(a.u m).st/\((a.iW p).u m).ax=(a.u m).ax/\((a.iW p).u m).gJ=(a.u m).gJ:=by
 unfold KA.iW;split
 ·refine⟨fp _ _ _ _,DM _ _ _ _,?_⟩;by_cases e:m=p
  ·subst e;rw[yb]
  ·rw[r9 _ _ e]
 ·exact⟨rfl,rfl,rfl⟩
def ML{a:KA}(ok:a.oC T)(hl:(a.u n).st=1)(co:Int):(∀ p,0<=p->(p=n\/¬(a.head n=n/\fh a.s (a.s.loc n) p))->(a.dW n co).u p=(a.cm n co).u p/\(a.dW n co).s.loc p=a.s.loc p/\∀ z q,((a.dW n co).s.bG z q=p↔a.s.bG z q=p))/\(∀ p,0<=p->p≠n->a.head n=n->fh a.s (a.s.loc n) p->(a.dW n co).u p=PA.nil):=by
 obtain⟨hr,h1,i1,i2,i3,i4⟩:=ok.o8 (p:=n) og;by_cases c:a.head n=n
 ·have e:a.dW n co=((a.cm n co).cU (a.s.loc n) n).de 4:=by unfold KA.dW;rw[if_pos c,i1];rfl
  obtain⟨g1,g2,g3,g4⟩:=BF n (a.s.mem (a.s.loc n)).1 (a.cm n co) (rZ ok.wk.sI _) fun m hm=>SS.mem_range ok.wk.sI hm;have em:(a.cm n co).cU (a.s.loc n) n=(a.s.mem (a.s.loc n)).1.foldl (KA.dN n) (a.cm n co):=rfl;rw[<-em]at g1 g2 g3 g4;have g2:∀ z q,((a.cm n co).cU (a.s.loc n) n).s.bG z q=if a.s.bG z q∈(a.s.mem (a.s.loc n)).1/\a.s.bG z q≠n then-1 else a.s.bG z q:=g2
  have hL:∀ p,0<=p->(p∈(a.s.mem (a.s.loc n)).1↔fh a.s (a.s.loc n) p):=fun p hp=>Kt ok.wk.sI ⟨i3,i4⟩ hp;have S:=lH.de ((a.cm n co).cU (a.s.loc n) n) 4;rw[e];refine⟨fun p hp k=> ?_,fun p hp k1 _ k2=> ?_⟩
  ·have k':p∉(a.s.mem (a.s.loc n)).1\/p=n:=by
    rcases k with k | k
    ·exact .inr k
    ·exact .inl fun q=>k ⟨c,(hL p hp).1 q⟩
   obtain⟨j1,j2⟩:=g3 p k';refine⟨by rw[S.u,j2],by rw[S.loc,j1];rfl,fun z q=> ?_⟩;rw[S.bG,g2];by_cases d:a.s.bG z q∈(a.s.mem (a.s.loc n)).1/\a.s.bG z q≠n
   ·rw[if_pos d];constructor
    ·intro x;omega
    ·rintro rfl;rcases k' with k' | k'
     ·exact absurd d.1 k'
     ·exact absurd k' d.2
   ·rw[if_neg d]
  ·rw[S.u];exact g4 p ((hL p hp).2 k2) k1
 ·have e:a.dW n co=a.cm n co:=if_neg c;rw[e];exact⟨fun p _ _=>⟨rfl,rfl,fun _ _=>Iff.rfl⟩,fun p _ _ k=>absurd k c⟩
def pc{a:KA}(ok:a.oC T)(hl:(a.u n).st=1)(co:Int)(hp:0<=p):((p=n\/¬(a.head n=n/\fh a.s (a.s.loc n) p))->(((a.aU n co).u p).st=((a.cm n co).u p).st/\((a.aU n co).u p).gJ=((a.cm n co).u p).gJ)/\(((a.aU n co).u p).ax=(a.u p).ax\/((a.u p).ax=n/\((a.aU n co).u p).ax=a.head n))/\(a.aU n co).s.loc p=a.s.loc p/\∀ z q,((a.aU n co).s.bG z q=p↔a.s.bG z q=p))/\(p≠n->a.head n=n->fh a.s (a.s.loc n) p->((a.aU n co).u p).st=0):=by
 obtain⟨k1,k2⟩:=ML ok hl co;have e:∀ m,((a.aU n co).u m).st=((a.dW n co).u m).st/\((a.aU n co).u m).gJ=((a.dW n co).u m).gJ:=fun m=>by
  unfold KA.aU;obtain⟨j1,_,j3⟩:=F9 ((a.dW n co).cw n (a.head n)) (((a.dW n co).cw n (a.head n)).u n).ax m;rw[j1,j3];exact⟨(cW _ _ _ _).1,(cW _ _ _ _).2.2.2.1⟩
 have es:(a.aU n co).s=(a.dW n co).s:=(np _ _).1;refine⟨fun d=> ?_,fun d1 d2 d3=>by rw[(e p).1,k2 p hp d1 d2 d3];rfl⟩;obtain⟨j1,j2,j3⟩:=k1 p hp d;rw[(e p).1,(e p).2,j1,es];refine⟨⟨rfl,rfl⟩,?_,j2,j3⟩;have ep:((a.aU n co).u p).ax=(((a.dW n co).cw n (a.head n)).u p).ax:=(F9 _ _ _).2.1;rw[ep,so,j1,uh];split
 ·rename_i q;exact .inr ⟨q.2.2.2,rfl⟩
 ·exact .inl rfl
def dm(g g':Gr.TG):Prop:=g'.aa=g.aa/\g'.ax=g.ax/\g'.mp=g.mp/\g'.mg=g.mg
theorem dm.refl(g:Gr.TG):dm g g:=⟨rfl,rfl,rfl,rfl⟩
def dm.trans{a b c:Gr.TG}(h:dm a b)(k:dm b c):dm a c:=⟨k.1.trans h.1,k.2.1.trans h.2.1,k.2.2.1.trans h.2.2.1,k.2.2.2.trans h.2.2.2⟩
def nt(g:Gr.TG)(n p m:Int):dm g (g.fU n p m):=by unfold Gr.TG.fU;split<;>exact dm.refl g
def mS(g:Gr.TG)(n p m:Int):dm g (g.cr n p m):=by unfold Gr.TG.cr;split<;>exact dm.refl g
def Ox(n:Int):∀ (l:List Int) (a:KA),dm a.g (l.foldl (KA.dN n) a).g
 | [],a=>dm.refl _
 | x::r,a=>dm.trans (by
   unfold KA.dN;split
   ·exact dm.refl _
   ·refine dm.trans ?_ (nt _ _ _ _)
    split
    ·exact nt _ _ _ _
    ·exact dm.refl _) (Ox n r (a.dN n x))
theorem Kw(a:KA):∀ k,(a.de k).g=a.g
 | 0=>rfl
 | k+1=>by
  have e:∀ (l:List Int) (x:KA),(l.foldl KA.dt x).g=x.g:=fun l=>by
   induction l with
   | nil=>intro x;rfl
   | cons y r ih=>intro x;rw[List.foldl_cons,ih];rfl
  show((Sp.eM (a.de k).s.aa 6).foldl KA.dt (a.de k)).g=a.g;rw[e];exact Kw a k
def VH(a:KA)(n co:Int):dm a.g (a.aU n co).g:=by
 have e:(a.aU n co).g=(a.dW n co).g:=(np _ _).2.1;rw[e];unfold KA.dW;split
 ·unfold KA.dG;rw[Kw];exact dm.trans (nt _ _ _ _) (Ox n _ _)
 ·exact nt _ _ _ _
def VI{g:Gr.TG}(ho:g.Ok)(h:∀ y,g.aa y=true->g.mg y= -1)(n:Int):g.gj n 0 1=none:=by
 unfold Gr.TG.gj;split
 ·rfl
 ·rename_i c;obtain⟨⟨h0,h1,h2⟩,_⟩:=Gr.TG.I4 (show g.nw n 0 1=0 by omega);rw[List.find?_eq_none];intro x hx;have hh:=(ho.cF h0 h1 h2).2.2 x hx;have:g.room 0 1 x=true:=(I6 _ _ _).2 ⟨.inl rfl,.inr (.inl (by show g.mg x<0;rw[h x hh];omega))⟩;simp[this]
structure KA.Hd (a:KA):Prop where
 u1:(a.u 1).st=1/\(a.u 1).ax=0/\a.s.loc 1=1
 u2:(a.u 2).st=1/\(a.u 2).ax=0/\a.s.loc 2=0
 w1:a.s.bG 0 2=1
 w2:a.s.bG 0 3=2
 w3:a.s.bG 1 1=1
 bM:∀ p,0<=p->p≠0->p≠2->(a.u p).st≠0->fh a.s 1 p/\(p≠1->fh a.s 1 (a.u p).ax)
 g:∀ y,a.g.aa y=true->a.g.mg y= -1
def DT{a:KA}(ok:a.oC T)(hp:0<=p)(h:a.s.loc p=0):¬fh a.s 1 p:=fun q=>by
 obtain⟨_,_,q3⟩:=(eD ok.wk.sI hp).1 q;rw[h]at q3;rcases oO ok.wk.sI.D (x:=0) ⟨⟨og,og⟩,SS.Inv.il ok.wk.sI ok.r0.loc⟩with⟨_,_,e⟩ | ⟨h2,h3,_⟩
 ·rw[e]at q3;exact absurd (List.mem_singleton.1 q3) dq
 ·have:=(ok.wk.sI.D.d _ h2.1.1 h2.1.2 h2.2).1;have:=ok.d0;omega
theorem KA.Hd.ne{a:KA}(h:a.Hd)(ok:a.oC T)(hs:fh a.s 1 n):n≠0/\n≠2:=
 ⟨by rintro rfl;exact DT ok og ok.r0.loc hs,by rintro rfl;exact DT ok og h.u2.2.2 hs⟩
theorem KA.Hd.same{a a':KA}(h:a.Hd)(hu:∀ p,(a'.u p).st=(a.u p).st/\(a'.u p).ax=(a.u p).ax)(hs:a'.s=a.s)(hg:dm a.g a'.g):a'.Hd:=by
 refine⟨?_,?_,by rw[hs];exact h.w1,by rw[hs];exact h.w2,by rw[hs];exact h.w3,fun p p0 p1 p2 q=> ?_,fun y hy=> ?_⟩
 ·rw[(hu 1).1,(hu 1).2,hs];exact h.u1
 ·rw[(hu 2).1,(hu 2).2,hs];exact h.u2
 ·rw[(hu p).1]at q;rw[(hu p).2,hs];exact h.bM p p0 p1 p2 q
 ·rw[hg.1]at hy;rw[hg.2.2.2];exact h.g y hy
def KA.Hd.Z8{a:KA}(h:a.Hd)(pw:a.Pw)(ok:a.oC T):a.head 1=1:=by
 rw[pw.Ku ok (n:=1) (by rw[h.u1.1];decide),h.u1.2.2];exact h.w3
def KA.Pw.QY{a:KA}(pw:a.Pw)(ok:a.oC T){z:Int}(hs:(a.u n).st≠0)(hz:fh a.s z n):fh a.s z (a.head n):=by
 obtain⟨hr,h1,i1,i2,i3,i4⟩:=ok.o8 (p:=n) hs;obtain⟨k1,_,k3,_⟩:=pw.hd _ i3.1 i3.2 i4;have s1:=(eD ok.wk.sI hr.1).1 hz;rw[pw.Ku ok hs];exact(eD ok.wk.sI k1).2 ⟨(ok.wk.sI.mem _ 1 _ k1 rfl).1,by rw[k3];exact h1,by rw[k3];exact s1.2.2⟩
def KA.Hd.apart{a:KA}(h:a.Hd)(pw:a.Pw)(ok:a.oC T)(hl:(a.u n).st=1)(hs:fh a.s 1 n)(h1:n≠1)(hp:p=0\/p=1\/p=2):¬(a.head n=n/\fh a.s (a.s.loc n) p):=by
 rintro⟨c1,c2⟩;have hr:=ok.wk.jA (n:=n) og;have I:=ok.wk.sI;have s1:=(eD I hr.1).1 hs;rcases hp with rfl | rfl | rfl
 ·exact DT ok og ok.r0.loc (sm I og hr.1 hs c2)
 ·have s2:=((eD I).1 c2).2.2;have e1:=h.u1.2.2;have hh:=uf I (p:=1) ⟨og,og⟩ og;rw[e1]at s2 hh;have e:a.s.loc n=1:=yE I.D hh s2 s1.2.2;have:=pw.Ku ok (n:=n);rw[e,h.w3]at this;omega
 ·exact DT ok og h.u2.2.2 (sm I og hr.1 hs c2)
def KA.Hd.exit{a:KA}(h:a.Hd)(pw:a.Pw)(ok:a.oC T)(hl:(a.u n).st=1)(hs:fh a.s 1 n)(h1:n≠1)(co:Int):(a.aU n co).Hd:=by
 obtain⟨n0,n2⟩:=h.ne ok hs;have hr:=ok.wk.jA (n:=n) og;have pw':=pw.aU ok n0 hl co;have K:∀ p,(p=1\/p=2)->(((a.aU n co).u p).st=(a.u p).st/\((a.u p).ax=0->((a.aU n co).u p).ax=0))/\(a.aU n co).s.loc p=a.s.loc p/\∀ z q,((a.aU n co).s.bG z q=p↔a.s.bG z q=p):=fun p hp=>by
  obtain⟨⟨j1,_⟩,j2,j3,j4⟩:=(pc ok hl co (p:=p) og).1 (.inr (h.apart pw ok hl hs h1 (.inr hp)));rw[l8 _ _ (show p≠n by omega)]at j1;refine⟨⟨j1,fun q=> ?_⟩,j3,j4⟩;rcases j2 with e | ⟨e,_⟩
  ·rw[e];exact q
  ·omega
 obtain⟨⟨a1,a2⟩,a3,a4⟩:=K 1 (.inl rfl);obtain⟨⟨b1,b2⟩,b3,b4⟩:=K 2 (.inr rfl);refine⟨⟨a1.trans h.u1.1,a2 h.u1.2.1,a3.trans h.u1.2.2⟩,⟨b1.trans h.u2.1,b2 h.u2.2.1,b3.trans h.u2.2.2⟩,(a4 0 2).2 h.w1,(b4 0 3).2 h.w2,(a4 1 1).2 h.w3,fun p p0 Rj Y5 Y3=> ?_,fun y hy=> ?_⟩
 ·have E:=pc ok hl co p0;have alive:∀ {r:Int},0<=r->((a.aU n co).u r).st≠0->r=n\/¬(a.head n=n/\fh a.s (a.s.loc n) r):=fun {r} r0 q=>by
   by_cases e:r=n
   ·exact .inl e
   ·exact .inr fun c=>q ((pc ok hl co r0).2 e c.1 c.2)
  obtain⟨⟨j1,_⟩,j2,j3,j4⟩:=E.1 (alive p0 Y3);have st0:(a.u p).st≠0:=(ui hl co p).1.1 (by rw[<-j1];exact Y3);obtain⟨⟨j,hj⟩,q2⟩:=h.bM p p0 Rj Y5 st0;refine⟨⟨j,(j4 1 j).2 hj⟩,fun p1=> ?_⟩;have pr:=(pw'.ax p Rj Y3).1;have rr:=(ok.wk.aU hr hl co).jA (n:=((a.aU n co).u p).ax) og;have kr:=((pc ok hl co rr.1).1 (alive rr.1 og)).2.2.2;have sr:fh a.s 1 ((a.aU n co).u p).ax:=by
   rcases j2 with e | ⟨_,e⟩
   ·rw[e];exact q2 p1
   ·rw[e];exact pw.QY ok og hs
  obtain⟨i,hi⟩:=sr;exact⟨i,(kr 1 i).2 hi⟩
 ·obtain⟨l1,_,_,l4⟩:=VH a n co;rw[l1]at hy;rw[l4];exact h.g y hy
theorem KA.Hd.box{a:KA}(h:a.Hd)(n:Int)(x:BS):(a.ic n x).Hd:=h.same (fun p=>⟨fp _ _ _ _,DM _ _ _ _⟩) rfl (dm.refl _)
def KA.Hd.DE{a:KA}(h:a.Hd)(pw:a.Pw)(ok:a.oC T)(c:a.aH n=0)(hs:fh a.s 1 n){x:BS}(hx:x.db 0=false)(o:Bool)(ho:o=true->n≠1):((a.ic n x).cD n o).Hd:=by
 obtain⟨hr,hl⟩:=bX c;have h':=h.box n x;have pw':=pw.box n x;have ok':(a.ic n x).oC T:=⟨ok.wk.ic hr hx,ok.r0.box _ _,ok.d0⟩;by_cases he:(a.ic n x).EF n o
 ·rw[mZ he];refine h'.exit pw' ok' (by rw[fp];exact hl) hs (fun e=> ?_) _;subst e;rcases he.2 with q | q
  ·exact ho q rfl
  ·exact q (h'.Z8 pw' ok')
 ·rw[sa he];exact h'
theorem KA.Hd.send{a:KA}(h:a.Hd)(pw:a.Pw)(ok:a.oC T)(hs:fh a.s 1 n)(sig:Int)(o:Bool)(ho:o=true->n≠1):(a.sG n sig o).Hd:=by
 unfold KA.sG;split
 ·rename_i c;exact h.DE pw ok c hs (mP _ _ (ok.wk.bx n)) o ho
 ·exact h
def KA.Hd.qf{a:KA}(h:a.Hd)(pw:a.Pw)(ok:a.oC T)(hs:fh a.s 1 n)(gh sig:Int):(a.jo n gh sig).Hd:=by
 unfold KA.jo;split
 ·rename_i c;have c0:(a.pH n gh).2=0:=by
   unfold KA.me at c;split at c
   ·omega
   ·omega
  obtain⟨s1,s2,s3,s4⟩:=ym c0;obtain⟨k1,k2⟩:=DR ok.wk.sI c0;obtain⟨hr,hl⟩:=bX s1;obtain⟨_,h1,i1,_⟩:=ok.o8 (p:=n) og;rw[i1]at k1;have st:fh a.s (a.s.loc n) (a.pH n gh).1:=⟨gh,k1⟩;refine h.send pw ok (sm ok.wk.sI k2.1 hr.1 hs st) sig _ fun o e=> ?_;have o:=of_decide_eq_true o;rw[e]at st o;apply o;have I:=ok.wk.sI;have z1:=((eD I).1 st).2.2;have z2:=((eD I hr.1).1 hs).2.2;have hh:=uf I (p:=1) ⟨og,og⟩ (by rw[h.u1.2.2];omega);rw[h.u1.2.2]at z1 hh;have:=yE I.D hh z1 z2;obtain⟨_,_,i2,_⟩:=ok.o8 (p:=1) (by rw[h.u1.1];decide);rw[i1,i2,h.u1.2.2,this]
 ·exact h
theorem KA.Hd.dy{a:KA}(h:a.Hd)(pw:a.Pw)(ok:a.oC T)(hs:fh a.s 1 n)(sig:Int)(on:Bool):(a.lB n sig on).Hd:=by
 unfold KA.lB;split
 ·exact h
 ·split
  ·exact h.DE pw ok og hs (o7 _ _ _ (ok.wk.bx n)) false sq
  ·exact h
def KA.Hd.jN{a:KA}(h:a.Hd)(pw:a.Pw)(ok:a.oC T)(hs:fh a.s 1 n)(sig v:Int):(a.z8 n sig v).Hd:=by
 unfold KA.z8;split
 ·exact h
 ·split
  ·exact h.DE pw ok og hs (u6 _ _ _ (ok.wk.bx n)) false sq
  ·exact h
def DU{a:KA}(ok:a.oC T)(c:a.lC n=0):(∀ p,p≠(a.cL n 20).aW->(a.fH n).u p=a.u p/\(a.fH n).s.loc p=a.s.loc p/\∀ z q,0<=p->((a.fH n).s.bG z q=p↔a.s.bG z q=p))/\(a.fH n).u (a.cL n 20).aW=PA.nil:=by
 obtain⟨_,hr,hs,hp,_⟩:=q9 c;unfold KA.fH;rw[if_pos c];generalize (a.cL n 20).aW=x at*;obtain⟨_,h1,i1,_⟩:=ok.o8 (p:=x) og;have es:(a.eI x).s=a.s.left x:=by
  show(a.s.fi x).2=_;unfold Sp.SS.fi;rw[i1,if_neg (show ¬(a.s.loc x,(0:Int)).2≠0 from fun q=>q rfl)]
 have S:=lH.one (a.eI x) (a.sz x);refine⟨fun p e=>⟨by rw[S.u];exact qV _ e,by rw[S.loc,es];exact ae _ _ e,fun z q p0=> ?_⟩,by rw[S.u];exact aj _ _ _⟩;rw[S.bG,es];show(if a.s.bG z q=x then(-1:Int)else a.s.bG z q)=p↔_;split
 ·constructor
  ·intro k;omega
  ·intro k;omega
 ·exact Iff.rfl
def KA.Hd.db{a:KA}(h:a.Hd)(pw:a.Pw)(ok:a.oC T)(n:Int):(a.fH n).Hd:=by
 by_cases c:a.lC n=0
 ·obtain⟨k1,k2⟩:=DU ok c;obtain⟨_,hr,hs,hp,_⟩:=q9 c;have hg:dm a.g (a.fH n).g:=by unfold KA.fH;rw[if_pos c];exact nt _ _ _ _
  generalize (a.cL n 20).aW=x at*;obtain⟨a1,a2,a3⟩:=k1 1 (by rintro rfl;have:=h.u1.1;omega);obtain⟨b1,b2,b3⟩:=k1 2 (by rintro rfl;have:=h.u2.1;omega);refine⟨by rw[a1,a2];exact h.u1,by rw[b1,b2];exact h.u2,(a3 0 2 og).2 h.w1,(b3 0 3 og).2 h.w2,(a3 1 1 og).2 h.w3,fun p p0 Rj Y5 q=> ?_,fun y hy=> ?_⟩
  ·have e:p≠x:=by rintro rfl;rw[k2]at q;exact q rfl
   obtain⟨c1,_,c3⟩:=k1 p e;rw[c1]at q ⊢;obtain⟨⟨j,hj⟩,q2⟩:=h.bM p p0 Rj Y5 q;refine⟨⟨j,(c3 1 j p0).2 hj⟩,fun p1=> ?_⟩;have pr:=(pw.ax p Rj q).1;have rr:=ok.wk.jA (n:=(a.u p).ax) og;obtain⟨i,hi⟩:=q2 p1;exact⟨i,((k1 (a.u p).ax (by intro z;rw[z]at pr;omega)).2.2 1 i rr.1).2 hi⟩
  ·rw[hg.1]at hy;rw[hg.2.2.2];exact h.g y hy
 ·have e:a.fH n=a:=if_neg c;rw[e];exact h
theorem KA.Hd.iA{a:KA}(h:a.Hd)(pw:a.Pw)(ok:a.oC T)(hs:fh a.s 1 n)(aS:Bool):(a.fy n aS).Hd:=by
 unfold KA.fy;split
 ·exact h
 ·rename_i c;split
  ·exact h.same (fun _=>⟨rfl,rfl⟩) rfl (dm.trans (mS _ _ _ _) (nt _ _ _ _))
  ·have hl:a.aH n=0:=og;have I:=ok.wk.fkI (n:=n) (aS:=aS) (SS.Inv.il ok.wk.sI ok.r0.loc) hl og og;obtain⟨hn,hs1⟩:=bX hl;obtain⟨hr,h1,i1,i2,i3,i4⟩:=ok.o8 (p:=n) og;have BA:=I.jA.2;have hu:∀ m,(a.u m).st≠0->(a.cH n aS).u m=a.u m/\(a.cH n aS).s.loc m=a.s.loc m:=fun m hm=>by
    have e:m≠a.free:=by rintro rfl;exact hm BA
    exact⟨ae _ _ e,by rw[I.o8,ae _ _ e]⟩
   obtain⟨a1,a2⟩:=hu 1 (by rw[h.u1.1];decide);obtain⟨b1,b2⟩:=hu 2 (by rw[h.u2.1];decide);have kw:∀ {z q p:Int},0<=p->a.s.bG z q=p->(a.cH n aS).s.bG z q=p:=fun p0 e=>by rw[I.eG (by rw[e];exact p0)];exact e
   have ks:∀ {p:Int},0<=p->fh a.s 1 p->fh (a.cH n aS).s 1 p:=fun p0 ⟨j,e⟩=>⟨j,kw p0 e⟩;refine⟨by rw[a1,a2];exact h.u1,by rw[b1,b2];exact h.u2,kw og h.w1,kw og h.w2,kw og h.w3,fun p p0 Rj Y5 q=> ?_,fun y hy=> ?_⟩
   ·by_cases e:p=a.free
    ·subst e;have Vg:(a.cH n aS).u a.free=a.Kj n:=aj _ _ _;refine⟨?_,fun _=>by rw[Vg];exact ks hn.1 hs⟩;have lc:(a.cH n aS).s.loc a.free=a.sH n aS:=by rw[I.o8,aj]
     have lE:(a.cH n aS).s.cF (a.dA n aS) (a.sH n aS)=(a.sA n aS).cF (a.dA n aS) (a.sH n aS):=by
      rw[I.en];exact Sp.SS.la (s:=a.sA n aS) (s':=(a.sA n aS).eR (a.dA n aS) (a.sH n aS) a.free) rfl _ _
     have s1:fh (a.sA n aS) 1 n:=by obtain⟨j,e⟩:=hs;exact⟨j,by rw[I.bG];exact e⟩
     have s2:=((eD I.ec hn.1).1 s1).2.2;rw[I.lo,show a.s.loc n=a.sz n by unfold KA.sz;rw[i1]]at s2;refine(eD I.sI I.jA.1.1).2 ⟨I.jA.1.2,by rw[lc];exact I.zr.1,?_⟩;rw[lc,lE];exact Ab I.ec.D ⟨⟨I.zr.1,I.zr.2.1⟩,I.zr.2.2⟩ I.cF s2
    ·have e1:(a.cH n aS).u p=a.u p:=ae _ _ e;rw[e1]at q ⊢;obtain⟨q1,q2⟩:=h.bM p p0 Rj Y5 q;have pr:=(pw.ax p Rj q).1;exact⟨ks p0 q1,fun p1=>ks (ok.wk.jA (n:=(a.u p).ax) og).1 (q2 p1)⟩
   ·obtain⟨l1,_,_,l4⟩:=mS a.g (a.u n).lv 1 (a.Cu n);have hy:(a.gC n).aa y=true:=hy;show(a.gC n).mg y= -1;unfold KA.gC at hy ⊢;rw[l1]at hy;rw[l4];exact h.g y hy
theorem KA.Hd.iS{a:KA}{T:Int}(h:a.Hd)(pw:a.Pw)(ok:a.oC T){n:Int}(hs:fh a.s 1 n)(h1:n≠1)(co:Int):(a.iS n co).Hd:=by
 unfold KA.iS;split
 ·rename_i c;exact h.exit pw ok (bX (wH c).1).2 hs h1 co
 ·exact h
theorem KA.Hd.cr{a:KA}(h:a.Hd)(ok:a.oC T)(n:Int):(a.bQ n).2.Hd:=by
 have hz:a.gj n=none:=VI ok.wk.gI.ok h.g _;unfold KA.bQ KA.my;rw[hz];split
 ·exact h
 ·exact h.same (fun _=>⟨rfl,rfl⟩) rfl (mS _ _ _ _)
theorem KA.Hd.mem{a:KA}(h:a.Hd)(v:VB)(f:Nat->Vm.MS)(O:Tr.OS)(P:Tr.PS):({a with v:=v,f:=f,O:=O,P:=P} :KA).Hd:=h.same (fun _=>⟨rfl,rfl⟩) rfl (dm.refl _)
def KA.Hd.Z5{a:KA}(h:a.Hd)(ok:a.oC T){D:TD}(hD:∀ {b:KA},b.Hd->(D.A b).Hd)(x:Int)(w:Bool)(y0:Int):((a.ky n x w D y0).2.1).Hd:=by
 have h1:=h.cr ok n;unfold KA.ky;by_cases c1:a.aH n≠0
 ·rw[if_pos c1];exact h
 ·rw[if_neg c1];by_cases c2:(a.f n.toNat).xy x w=false
  ·rw[if_pos c2];exact h
  ·rw[if_neg c2];by_cases c3:(a.f n.toNat).sD x=true
   ·rw[if_pos c3];by_cases c4:(a.bQ n).1≠0
    ·rw[if_pos c4];exact h1
    ·rw[if_neg c4];show(if D.e (a.bQ n).2≠0 then(D.A (a.bQ n).2).unA n else D.A (a.bQ n).2).Hd;split
     ·exact(hD h1).same (fun _=>⟨rfl,rfl⟩) rfl (nt _ _ _ _)
     ·exact hD h1
   ·rw[if_neg c3];exact hD h
theorem KA.Hd.fd{a:KA}(h:a.Hd)(n i v:Int)(O:Tr.OS)(P:Tr.PS):({a with u:=Bc a.u n i v,O:=O,P:=P} :KA).Hd:=h.same (fun p=>⟨(jq a.u n i v p).1,by
 show(ad a.u n _ p).ax=_
 by_cases e:p=n
 ·subst e;rw[aj]
 ·rw[ae _ _ e]⟩) rfl (dm.refl _)
theorem KA.Hd.drop{a:KA}(h:a.Hd)(n:Int):(a.MG n).Hd:=by
 refine⟨h.u1,h.u2,h.w1,h.w2,h.w3,h.bM,fun y hy=> ?_⟩;have hy:(a.g.eS n).aa y=true:=hy;show(a.g.eS n).mg y= -1;unfold Gr.TG.eS at hy ⊢;split at hy
 ·rename_i c;rw[if_pos c];have hy:ad a.g.aa n false y=true:=hy;show ad a.g.mg n 0 y= -1;by_cases e:y=n
  ·subst e;rw[aj]at hy;cases hy
  ·rw[ae _ _ e]at hy ⊢;exact h.g y hy
 ·rename_i c;rw[if_neg c];exact h.g y hy
def KA.Hd.acY{a a1:KA}{F:Tr.FF}{x:iV}(h:a.Hd)(pw:a.Pw)(ok:a.Ok T)(hT:T<=800000)(hs:fh a.s 1 x.a)(s:a.qg F x a1):a1.Hd:=by
 have q:∀ {b:KA} {P:Prop} [Decidable P],b.Hd->(if P then a else b).Hd:=fun hb=>by
  split
  ·exact h
  ·exact hb
 cases s with
 | same=>exact h
 | db=>exact h.db pw ok.o0 _
 | qf=>exact h.qf pw ok.o0 hs _ _
 | dy=>exact h.dy pw ok.o0 hs _ _
 | jN=>exact h.jN pw ok.o0 hs _ _
 | take=>exact q (h.box _ _)
 | map=>exact q (h.mem _ _ a.O a.P)
 | nh=>exact q (h.mem _ _ a.O a.P)
 | drop=>exact h.drop _
 | Ov o=>
  rcases o with rfl | ⟨_,_,_,_,_,rfl⟩
  ·exact h
  ·exact h.fd _ _ _ _ a.P
 | close=>exact q (h.fd _ _ _ _ _)
 | dup=>exact q (h.fd _ _ _ _ a.P)
 | JR=>
  refine q ?_;split
  ·exact(h.fd _ _ _ a.O a.P).fd _ _ _ _ _
  ·exact h.mem a.v a.f _ _
 | mJ=>exact q (h.mem a.v a.f _ _)
 | b7=>
  have h1:(a.uc F x.a x.b x.s).Hd:=h.mem a.v a.f _ _;refine q ?_;split
  ·exact h1.send (pw.same (fun _=>⟨rfl,rfl⟩) rfl) (ok.AQ og F _ _ _).o0 hs 2 false sq
  ·exact h1
 | JS=>exact q (h.mem a.v a.f _ a.P)
def EK:List ByteArray:=[iT,gu,⟨#[119,97,105,116]⟩,⟨#[115,105,103,110,97,108]⟩,⟨#[104,111,108,100]⟩,⟨#[104,111,119]⟩,⟨#[116,97,107,101]⟩,⟨#[109,97,112]⟩,⟨#[112,114,111,116,101,99,116]⟩,mR,iU,fw,⟨#[115,108,101,101,112]⟩,⟨#[111,112,101,110]⟩,⟨#[99,108,111,115,101]⟩,⟨#[100,117,112]⟩,⟨#[112,105,112,101]⟩,⟨#[114,101,97,100]⟩,⟨#[119,114,105,116,101]⟩,⟨#[115,101,101,107]⟩,⟨#[109,107,100,105,114]⟩,⟨#[114,101,109,111,118,101]⟩,⟨#[109,111,118,101]⟩,⟨#[108,105,110,107]⟩,⟨#[98,105,110,100]⟩,⟨#[117,110,98,105,110,100]⟩,⟨#[110,97,109,101,115]⟩]
def Wi(k:ByteArray):Prop:=k∈EK
def nu{k y:ByteArray}(h:Wi k)(e:k=y)(hy:¬y∈EK):False:=hy (e▸h)
def KA.Hd.step{a a1:KA}{c c1:KC}{x:iV}{e:Int}(h:a.Hd)(pw:a.Pw)(ok:a.Ok T)(hT:T<=800000)(hs:fh a.s 1 x.a)(h1:x.aN=gu->x.a≠1)(hk:Wi x.aN)(s:a.sQ c c1 x a1 n e):a1.Hd:=by
 have q:∀ {b:KA} {P:Prop} [Decidable P],b.Hd->(if P then a else b).Hd:=fun hb=>by
  split
  ·exact h
  ·exact hb
 cases s with
 | iA _=>exact h.iA pw ok.o0 hs _
 | exit k=>exact h.iS pw ok.o0 hs (h1 k) _
 | fE _=>
  refine q (h.same (fun _=>⟨rfl,rfl⟩) rfl ?_);show dm a.g (if _ then _ else _);split
  ·exact dm.refl _
  ·exact nt _ _ _ _
 | load _=>exact h.Z5 ok.o0 (fun hb=>hb.mem _ _ _ _) _ _ _
 | store _=>exact h.Z5 ok.o0 (fun hb=>hb.mem _ _ _ _) _ _ _
 | pU k _ _=>exact(nu hk k (by simp[EK,iT,gu,mR,iU,fw,yB])).elim
 | lim k=>exact(nu hk k (by simp[EK,iT,gu,mR,iU,fw,HF])).elim
 | Ii k _ _=>exact(nu hk k (by simp[EK,iT,gu,mR,iU,fw,yC])).elim
 | add k _ _=>exact(nu hk k (by simp[EK,iT,gu,mR,iU,fw,HG])).elim
 | ue _ r _ _=>exact h.acY pw ok hT hs r
structure KA.He (b:KA) (co:Int):Prop where
 u1:(b.u 1).st=2/\(b.u 1).ax=0/\(b.u 1).gJ=co
 u2:(b.u 2).st=1/\(b.u 2).ax=0/\b.s.loc 2=0
 w1:b.s.bG 0 2=1
 w2:b.s.bG 0 3=2
 no:∀ p,0<=p->p≠0->p≠1->p≠2->(b.u p).st=0
def QZ(a:KA)(n co:Int):((a.cm n co).u n).gJ=co:=by
 show(ad a.u n _ n).gJ=co;rw[aj]
def KA.Hd.Z9{a:KA}(h:a.Hd)(pw:a.Pw)(ok:a.oC T)(co:Int):(a.aU 1 co).He co:=by
 have hl:=h.u1.1;have E:=fun p (hp:0<=p)=>pc ok hl co hp;have I:=ok.wk.sI;obtain⟨⟨j1,j2⟩,j3,j4,j5⟩:=(E 1 og).1 (.inl rfl);have e1:=QZ a 1 co;rw[nY]at j1;rw[e1]at j2;have n2:¬(a.head 1=1/\fh a.s (a.s.loc 1) 2):=fun c=>DT ok og h.u2.2.2 (by rw[<-h.u1.2.2];exact c.2);obtain⟨⟨i1,_⟩,i3,i4,i5⟩:=(E 2 og).1 (.inr n2);rw[l8 _ _ dq]at i1;refine⟨⟨j1,?_,j2⟩,⟨i1.trans h.u2.1,?_,i4.trans h.u2.2.2⟩,(j5 0 2).2 h.w1,(i5 0 3).2 h.w2,fun p p0 p1 p2 p3=> ?_⟩
 ·rcases j3 with e | ⟨e,_⟩
  ·rw[e];exact h.u1.2.1
  ·have:=h.u1.2.1;omega
 ·rcases i3 with e | ⟨e,_⟩
  ·rw[e];exact h.u2.2.1
  ·have:=h.u2.2.1;omega
 ·by_cases q:(a.u p).st=0
  ·by_cases d:a.head 1=1/\fh a.s (a.s.loc 1) p
   ·exact(E p p0).2 p2 d.1 d.2
   ·rw[((E p p0).1 (.inr d)).1.1,l8 _ _ p2];exact q
  ·exact(E p p0).2 p2 (h.Z8 pw ok) (by rw[h.u1.2.2];exact(h.bM p p0 p1 p3 q).1)
theorem DV{f g:Int->Bool} :∀ (k:Nat),(∀ n:Int,0<=n->n<k->f n=g n)->Vm.eM f k=Vm.eM g k
 | 0,_=>rfl
 | k+1,h=>by
  unfold Vm.eM;rw[DV k fun n a b=>h n a og,h k og og]
theorem DW{f g:Int->Bool} :∀ (k:Nat),(∀ n:Int,0<=n->n<k->f n=g n)->Sp.eM f k=Sp.eM g k
 | 0,_=>rfl
 | k+1,h=>by
  unfold Sp.eM;rw[DW k fun n a b=>h n a og,h k og og]
def VJ{b:KA}(ok:b.oC T){z q:Int}(hz:b.s.is z=0)(hp:0<=p)(e:b.s.bG z q=p):b.s.gh p z=(q,0):=by
 obtain⟨m1,m2,m3,_⟩:=ok.wk.sI.mem z q p hp e;exact Sp.SS.Cj hz og og e (fun j j0 j1 f=>by
  have:=ok.wk.sI.inj z q j (by rw[e];exact hp) (f.trans e.symm)
  omega)
def sz0{b:KA}(ok:b.oC T):b.sz 0=0/\b.s.is 0=0:=by
 obtain⟨_,_,i1,i2,_⟩:=ok.o8 (p:=0) (by rw[ok.r0.st];decide);rw[ok.r0.loc]at i1 i2;exact⟨by unfold KA.sz;rw[i1],i2⟩
def KA.He.aaa{b:KA}{co T:Int}(h:b.He co)(pw:b.Pw)(ok:b.oC T):∀ k:Nat,b.cL 0 (k+3)=if k<=17 then⟨2,1,2,co⟩else b.cL 0 (k+3)
 | 0=>by
  obtain⟨z1,z2⟩:=sz0 ok;have p1:=VJ ok z2 og h.w1;have e1:b.cL 0 1=⟨0,-1,0,0⟩:=by
   show(if(b.u 0).st=0\/(b.u 0).ax≠0 then _ else _)=_;rw[if_pos (.inr (by rw[pw.zero];decide))];rfl
  have e2:b.cL 0 2=⟨1,1,2,co⟩:=by
   have w:=b.kf 0 (i:=1) og;rw[if_neg (by rw[h.u1.1,h.u1.2.1];decide),if_pos ⟨by rw[z1,p1],h.u1.1,.inl (by show(b.cL 0 1).aW<0;rw[e1];decide)⟩]at w;refine w.trans ?_;rw[show(1:Int).toNat=1 from rfl,e1,z1,p1,h.u1.2.2];rfl
  rw[if_pos og];unfold KA.cL;show(if(b.u 2).st=0\/(b.u 2).ax≠0 then _ else if(b.s.gh 2 (b.sz 0)).2=0/\(b.u 2).st=2/\_ then _ else _)=_;rw[e2,if_neg (by rw[h.u2.1,h.u2.2.1];decide),if_neg (by rw[h.u2.1];rintro⟨_,q,_⟩;exact absurd q dq)];rfl
 | k+1=>by
  by_cases c:k+1<=17
  ·rw[if_pos c];have:=h.aaa pw ok k;rw[if_pos og]at this;show b.cL 0 ((k+3)+1)=_;unfold KA.cL;rw[if_pos (.inl (h.no _ og og og og)),this]
  ·rw[if_neg c]
def KA.He.ac3{b:KA}(h:b.He co)(pw:b.Pw)(ok:b.oC T):b.lC 0=0/\b.yv 0=2/\b.yw 0=co/\(b.cL 0 20).aW=1:=by
 have e:=h.aaa pw ok 17;rw[if_pos og]at e;have e:b.cL 0 20=⟨2,1,2,co⟩:=e;have l:b.aH 0=0:=KA.uM og ok.r0.st;have w:b.lC 0=0:=by unfold KA.lC;rw[l,e];rfl
 refine⟨w,by unfold KA.yv;rw[if_pos w,e],by unfold KA.yw;rw[if_pos w,e],by rw[e]⟩
structure KA.Hf (b:KA):Prop where
 u1:(b.u 1).st=0
 u2:(b.u 2).st=1/\(b.u 2).ax=0/\b.s.loc 2=0
 no:∀ p,0<=p->p≠0->p≠2->(b.u p).st=0
theorem KA.He.left{b:KA}(h:b.He co)(pw:b.Pw)(ok:b.oC T):(b.fH 0).Hf:=by
 obtain⟨c,_,_,e⟩:=h.ac3 pw ok;obtain⟨k1,k2⟩:=DU ok c;rw[e]at k1 k2;obtain⟨a1,a2,_⟩:=k1 2 dq;refine⟨by rw[k2];rfl,by rw[a1,a2];exact h.u2,fun p p0 Rj Y5=> ?_⟩;by_cases q:p=1
 ·rw[q,k2];rfl
 ·rw[(k1 p q).1];exact h.no p p0 Rj q Y5
def KA.Hf.db{b:KA}(h:b.Hf)(pw:b.Pw)(ok:b.oC T):b.lC 0=8:=by
 have im:∀ k:Nat,k<=17->b.cL 0 (k+3)=⟨1,-1,0,0⟩:=fun k=>by
  induction k with
  | zero=>
   intro _;have e1:b.cL 0 1=⟨0,-1,0,0⟩:=by
    show(if(b.u 0).st=0\/(b.u 0).ax≠0 then _ else _)=_;rw[if_pos (.inr (by rw[pw.zero];decide))];rfl
   have e2:b.cL 0 2=⟨0,-1,0,0⟩:=by
    unfold KA.cL;show(if(b.u 1).st=0\/(b.u 1).ax≠0 then _ else _)=_;rw[if_pos (.inl h.u1),e1]
   unfold KA.cL;show(if(b.u 2).st=0\/(b.u 2).ax≠0 then _ else if(b.s.gh 2 (b.sz 0)).2=0/\(b.u 2).st=2/\_ then _ else _)=_;rw[e2,if_neg (by rw[h.u2.1,h.u2.2.1];decide),if_neg (by rw[h.u2.1];rintro⟨_,q,_⟩;exact absurd q dq)];rfl
  | succ k ih=>
   intro hk;show b.cL 0 ((k+3)+1)=_;unfold KA.cL;rw[if_pos (.inl (h.no _ og og og)),ih og]
 have e:b.cL 0 20=⟨1,-1,0,0⟩:=im 17 og;have l:b.aH 0=0:=KA.uM og ok.r0.st;unfold KA.lC;rw[l,e];rfl
theorem KA.Hf.DS{b:KA}{T:Int}(h:b.Hf)(ok:b.oC T):b.DS=[0,2]:=by
 have e:b.DS=Vm.eM (fun n=>decide (n=0\/n=2)) 20:=DV 20 fun n n0 n1=>by
  by_cases c0:n=0
  ·subst c0;rw[ok.r0.st];rfl
  ·by_cases c2:n=2
   ·subst c2;rw[h.u2.1];rfl
   ·rw[h.no n n0 c0 c2,decide_eq_false (show ¬(n=0\/n=2) by omega)];rfl
 rw[e];decide
theorem KA.Hf.VK{b:KA}(h:b.Hf)(pw:b.Pw)(ok:b.oC T):Sp.eM b.s.aa 6=[0]:=by
 have e:Sp.eM b.s.aa 6=Sp.eM (fun n=>decide (n=0)) 6:=DW 6 fun z z0 z1=>by
  by_cases c:z=0
  ·subst c;exact SS.Inv.il ok.wk.sI ok.r0.loc
  ·rw[decide_eq_false c];cases q:b.s.aa z with
   | false=>rfl
   | true=>
    obtain⟨k1,k2,k3,_⟩:=pw.hd z z0 og q;exfalso;by_cases d0:b.s.bG z 1=0
    ·rw[d0,ok.r0.loc]at k3;omega
    ·by_cases d2:b.s.bG z 1=2
     ·rw[d2,h.u2.2.2]at k3;omega
     ·exact k2 (h.no _ k1 d0 d2)
 rw[e];decide
def KA.He.aab{b:KA}(h:b.He co)(ok:b.oC T):b.aH 2=0/\b.s.gh 2 (b.s.bM 2).1=(3,0):=by
 obtain⟨_,_,i1,_⟩:=ok.o8 (p:=2) (by rw[h.u2.1];decide);refine⟨KA.uM og h.u2.1,?_⟩;rw[i1,h.u2.2.2];exact VJ ok (sz0 ok).2 og h.w2
def H1:KA:=A0.fy 0 true
def H2:KA:=H1.fy 0 false
def H_E:(A0.kB 0 true=0/\A0.kQ 0 true=2)/\H1.kB 0 false=0/\H1.kQ 0 false=3:=dk
theorem afA:H1=A0.cH 0 true:=by unfold H1 KA.fy;rw[if_neg dk,if_neg dk]
theorem afB:H2=H1.cH 0 false:=by unfold H2 KA.fy;rw[if_neg dk,if_neg dk]
def VL:A0.free=1/\H1.free=2:=dk
theorem ah3(h1:p≠1)(h2:p≠2):H2.u p=A0.u p:=by
 rw[afB];show ad H1.u H1.free _ p=_;rw[ae _ _ (by rw[VL.2];exact h2),afA];show ad A0.u A0.free _ p=_;rw[ae _ _ (by rw[VL.1];exact h1)]
def ah4:dm Gr.TG.cK H2.g:=by
 rw[afB];show dm _ (H1.g.cr _ _ _);refine dm.trans ?_ (mS _ _ _ _);rw[afA];show dm _ (A0.g.cr _ _ _);exact dm.trans (mS _ _ _ _) (mS _ _ _ _)
def aad:H2.Hd:=by
 refine⟨dk,dk,dk,dk,dk,fun p p0 Rj Y5 q=> ?_,fun y hy=> ?_⟩
 ·by_cases e:p=1
  ·subst e;exact⟨⟨1,dk⟩,fun h=>absurd rfl h⟩
  ·rw[ah3 e Y5,DQ,if_neg Rj]at q;exact absurd rfl q
 ·obtain⟨l1,_,_,l4⟩:=ah4;rw[l1,Gr.TG.zx]at hy;rw[l4,of_decide_eq_true hy];decide+kernel
def Oy:H1.Ok 12:=Kv.iA og 0 true
def aae:H2.Ok 22:=Oy.iA og 0 false
def aaf:H2.Pw:=(afz.iA Kv.o0 0 true).iA Oy.o0 0 false
end Go.X.Kn

namespace Go.X.Fa
open Go Go.Proofs Go.X
set_option maxRecDepth 20000
set_option maxHeartbeats 4000000
def UX:Spec Tryz.prog 97 [] [] (fun v H1=>∃ p,v=aA p 0 0/\∃ t:SC,t.toSF=SF.cK/\t.pA/\H1=[.cells p 0 2281 (aP t),.bk cP (t.dZ 254)]):=by
 refine Spec.go 10 [0,1] [] Tryz.func97 fun W=> ?_;refine XO.v (V.build (vs:= #[]) rfl (v:=.agg SI) fun _=>kq) rfl (gO ?_);refine XO.box (m:=2281) (C:=aP SC.dc) rfl Pd SJ rfl ?_;intro p;refine XO.mono (fun _ bK=>Ll 254 bK) ?_;refine gO ?_;refine XO.v (V.build (vs:= #[(0,.bool true),(1,iI (-1)),(2,iI 1)]) rfl (v:=.agg (nR (Cc true (-1) 1))) fun _=>kq) rfl (gO ?_);refine sd ?_;refine oS ?_;refine XO.gM rfl rfl (.ao .aa) (Cd _ 0 (-1) 1 true) (vT _) zW ?_;refine XO.mono (fun _ bK=>XM.newRow (s:=SC.dc) (z:=0) og .h1 bK) ?_;refine gO ?_;refine bS (pk [1,0]) ?_;try dsimp only[aK,aJ,aG,aR]
 exact⟨_,rfl,_,rfl,SC.pA.dc.new rfl (fun i hi=>by cases hi) (-1) 1 true,rfl⟩
end Go.X.Fa

namespace Go.X.Tr
open Go Go.X
def zo:∀ i,i<24->cellsOf (Value.agg #[.string ⟨#[]⟩,iI 0,iI 0,.string ⟨#[]⟩,iI 0,iI 0,.string ⟨#[]⟩,iI 0,iI 0,.string ⟨#[]⟩,iI 0,iI 0,.string ⟨#[]⟩,iI 0,iI 0,.string ⟨#[]⟩,iI 0,iI 0,.string ⟨#[]⟩,iI 0,iI 0,.string ⟨#[]⟩,iI 0,iI 0]).cells i=bO PS.cK i:=fun i hi=>match i,hi with
 | 0,_=>rfl
 | 1,_=>rfl
 | 2,_=>rfl
 | 3,_=>rfl
 | 4,_=>rfl
 | 5,_=>rfl
 | 6,_=>rfl
 | 7,_=>rfl
 | 8,_=>rfl
 | 9,_=>rfl
 | 10,_=>rfl
 | 11,_=>rfl
 | 12,_=>rfl
 | 13,_=>rfl
 | 14,_=>rfl
 | 15,_=>rfl
 | 16,_=>rfl
 | 17,_=>rfl
 | 18,_=>rfl
 | 19,_=>rfl
 | 20,_=>rfl
 | 21,_=>rfl
 | 22,_=>rfl
 | 23,_=>rfl
 | k+24,h=>absurd h og
end Go.X.Tr

namespace Go.X.Kn
open Go Go.Proofs Go.X
set_option maxRecDepth 20000
set_option maxHeartbeats 4000000
def Kx(mb:Nat):∀ w,(Instr.build 89 #[(0,iI 1),(1,iI (-1)),(4,aA mb 0 0)]).run Tryz.prog w= .ok (.agg (PU.cQ (CE mb))) w:=fun w=>kq
def Q3(a b c d e f:Nat):∀ w,(Instr.build 101 #[(1,aA a 0 0),(2,aA b 0 0),(3,aA c 0 0),(4,aA d 0 0),(5,aA e 0 0),(6,aA f 0 0)]).run Tryz.prog w= .ok (.agg (Fx (KP.raw a b c d e f))) w:=fun w=>kq
open Go.X.Fa
def Ga(p:Option Addr)(l c:Nat)(m:Int):Spec Tryz.prog 47 [.slice p l c,iI m] [] (fun v H1=>v= .bool (decide ((l:Int)<=m))/\H1=[]):=by
 refine Spec.go 9 [0,1,4] [] Tryz.func47 fun W=> ?_;refine bS .nil ?_;grind [aK,aJ]
def Q4(bl ol len cap:Nat)(hlen:len<=cap)(A:Int->iV)(hA:∀ z:Int,0<=z->z<len->(A z).ok)(hL:len<=1000000)(m:Int):Spec Tryz.prog 48 [.slice (some ⟨bl,ol,none⟩) len cap,iI m] [.ro bl ol (8*len) (gw A)] (fun v H1=>(∃ b,v= .bool b/\(b=true->∀ z:Int,0<=z->z<len->((A z).s.size:Int)<=m/\((A z).t.size:Int)<=m))/\H1=[]):=by
 refine Spec.go 30 [0,1,4,5,9,29] [] Tryz.func48 fun W=> ?_;refine lp (σ:=Int) (fun k=>(len-k).toNat) (fun k=>0<=k/\k<=len/\∀ z:Int,0<=z->z<k->((A z).s.size:Int)<=m/\((A z).t.size:Int)<=m) (fun k=>[(5,iI k),(0,.slice (some ⟨bl,ol,none⟩) len cap),(1,iI m)]) (fun k=>XM W (ck [.ro bl ol (8*len) (gw A)]) [.ro bl ol (8*len) (gw A)]) (0) ?_ S3 (xq .h1) ?_
 ·grind
 intro k hk;obtain⟨hk0,hk1,hkk⟩:=hk;refine gC ?_;refine cd rfl ?_ ?_<;>intro h1
 ·refine sd (WK .aa (O4 A len _ og) ?_);refine sp 20 rfl ?_ ?_<;>intro h2
  ·refine bS .nil ?_;grind [aK,aJ,aR]
  ·refine sd (WK .aa (O5 A len _ og) ?_);refine cd rfl ?_ ?_<;>intro h3
   ·refine bS .nil ?_;grind [aK,aJ,aR]
   ·refine sd (ag (k+1) ?_ ?_ S3 (xq .h1));all_goals grind
 ·refine bS .nil ?_;grind [aK,aJ,aR]
def Q5(p:Option Addr)(cap:Nat)(m:Int):Spec Tryz.prog 48 [.slice p 0 cap,iI m] [] (fun v H1=>v= .bool true/\H1=[]):=by
 refine Spec.go 30 [0,1,4,5,9] [] Tryz.func48 fun W=> ?_;refine lp (σ:=Int) (fun k=>0) (fun k=>0<=k) (fun k=>[(5,iI k),(0,.slice p 0 cap),(1,iI m)]) (fun k=>XM W (ck []) []) (0) ?_ S3 (xq .nil) ?_
 ·omega
 intro k hk;refine gC ?_;refine AZ rfl (by simp;omega) (bh rfl rfl (ai .nil rfl ?_));grind [aK,aJ,aR]
def ac4(e:Int):Spec Tryz.prog 19 [.iface 102 (iI e)] [] (fun v H1=>v=iI e/\H1=[]):=by
 refine Spec.go 15 [0,2,3,4,6,13] [] Tryz.func19 fun W=> ?_;refine XO.v (K0 rfl Tryz.underlying102 sq) rfl (gO ?_);refine bS .nil ?_;grind [aK,aJ]
def ac5:Spec Tryz.prog 19 [.nilIface] [] (fun v H1=>v=iI 0/\H1=[]):=by
 refine Spec.go 15 [0,2,6] [] Tryz.func19 fun W=> ?_;refine bS .nil ?_;grind [aK,aJ,aR]
def Oz(e:Int):Spec Tryz.prog 19 [az 102 e] [] (fun v H1=>v=iI e/\H1=[]):=by
 by_cases h:e=0
 ·subst h;exact ac5
 ·rw[aV _ h];exact ac4 e
def Y6(p:Option Addr)(cap:Nat)(m:Int):Spec Tryz.prog 13 [.slice p 0 cap,iI m] [] (fun v H1=>(∃ b,v= .bool b/\(b=true->((0:Nat):Int)<=m))/\H1=[]):=by
 refine Spec.go 12 [0,1,4] [] Tryz.func13 fun W=> ?_;refine cq (Ga _ _ _ _) .nil ?_;refine sp 8 rfl ?_ ?_<;>intro h1
 ·refine cq (Q5 _ _ _) .nil ?_;refine bS .nil ?_;grind [aK,aJ]
 ·refine bS .nil ?_;grind [aK,aJ,aR]
def Y7(kb:Nat)(k:KP)(q:SC)(hq:q.toSF=Q2)(hR:q.pA):Spec Tryz.prog 46 [aA kb 0 0] [.cells kb 0 453 (aD k),.cells k.qb 0 2281 (aP q),.bk cP (SC.dZ 254 q)] (fun v H1=>v=iI 0/\∃ t:SC,t.toSF=(Q2.pU dK).2/\t.pA/\H1=[.cells kb 0 453 (aD k),.cells k.qb 0 2281 (aP t),.bk cP (SC.dZ 254 t)]):=by
 refine Spec.go 8 [0,2] [] Tryz.func46 fun W=> ?_;refine ld .aa (jf _) ?_;refine ca (ab3 _ _ q dK (by rw[hq];exact CF.ec) hR (fun n a b=>Nat.le_trans (CF.aL n a b) og) (2000000000*0) og (by rw[hq];exact CF.w7) (by show 0<=q.toSF.ij/\q.toSF.ij<=2000000000*0;rw[hq];exact CF.ij) (by rw[hq];exact(CF.qB og).set)) (pk [1,1]) ?_;rintro _ _ ⟨rfl,t,ht,hr,rfl⟩;rw[hq,XG];rw[hq]at ht;refine gO ?_;refine bS (pk [2,0,0]) ?_;grind [aK,aJ]
def HI(kb:Nat)(k:KP):Spec Tryz.prog 27 [aA kb 0 0] [.cells kb 0 453 (aD k)] (fun v H1=>∃ p cap,v= .slice p (Vm.eM (fun n=>decide ((k.u n).st=1)) 20).length cap/\H1=[dE p cap 3 (Vm.eM (fun n=>decide ((k.u n).st=1)) 20),.cells kb 0 453 (aD k)]):=by
 refine Spec.go 22 [0,2,3,4,5,6,15] [] Tryz.func27 fun W=> ?_;refine XR.ft 3 1 ?_;refine lp (σ:=Int×List Int×Option Addr×Nat) (fun x=>(20-x.1).toNat) (fun x=>(0<=x.1/\x.1<=20)/\x.2.1=Vm.eM (fun n=>decide ((k.u n).st=1)) x.1.toNat) (fun x=>[(3,.slice x.2.2.1 x.2.1.length x.2.2.2),(5,iI x.1),(0,aA kb 0 0)]) (fun x=>XM W (ck [.cells kb 0 453 (aD k)]) [dE x.2.2.1 x.2.2.2 3 x.2.1,.cells kb 0 453 (aD k)]) ((0,[],none,0)) ?_ S3 (xq (pz 2)) ?_
 ·exact⟨sq,rfl⟩
 intro x hx;obtain⟨hx,hL⟩:=hx;have hlen:=Vm.lq (fun n=>decide ((k.u n).st=1)) x.1.toNat;rw[<-hL]at hlen;have hnx:=Vm.zi (fun n=>decide ((k.u n).st=1)) hx.1;refine gC ?_;refine cd rfl ?_ ?_<;>intro h1
 ·refine sd (ld (.ao .aa) (fS _) ?_);refine cd rfl ?_ ?_<;>intro h2
  ·have h52:=h2;refine XO.buildSlice (A:= #[iI _]) (vs:= #[(0,iI _)]) rfl (tZ _) rfl rfl ?_;intro h3;refine gO ?_;refine kW (e:=3) rfl rfl Tryz.underlying55 qe (.ao .aa) .aa og rfl ?_;intro h4 h5;refine gO ?_;refine sd (ag ((x.1+1,x.2.1++[x.1],_,_)) ?_ ?_ S3 (xq (pk [0,1])));all_goals grind
  ·have h52:=h2;refine sd (ag ((x.1+1,x.2.1,_,_)) ?_ ?_ S3 (xq (pz 2)));all_goals grind
 ·refine bS (pz 2) ?_;try dsimp only[aK,aJ,aG,aR]
  have abT:x.1=20:=og;simp_all
theorem Ky{k:KP}{mb:Nat}(h:ZJ k mb):Vm.eM (fun n=>decide ((k.u n).st=1)) 20=[0]:=by
 have e:(fun n=>decide ((k.u n).st=1))=fun n=>decide (n=0):=by
  funext n;rw[h.u];by_cases c:n=0
  ·subst c;rw[aj];rfl
  ·rw[ae _ _ c,decide_eq_false c];rfl
 rw[e];decide
end Go.X.Kn
