import Derived.Test.YthdinakloheinaaGreatDoorkNKM
set_option linter.all false
namespace Go.X.Kn
open Go Go.X Go.X.Fa Go.X.Sg Go.X.Sp Go.X.Tr Go.X.Vm
variable{B T co i m n p z:Int}{f:Int->Int}
structure PA where
 st:Int
 aA:Int
 cB:Int
 km:Int
 fd:Int->Int
 bx:BS
def PA.nil:PA:=⟨0,0,0,0,fun _=>0,BS.cP⟩
structure KA where
 u:Int->PA
 g:Gr.TG
 s:Sp.SS
 aV:Int->Nat
 v:VB
 f:Nat->Vm.MS
 P:Tr.PS
 O:Tr.OS
structure TB where
 b:Nat
 r:WH
 l:List MT
 p:Option Addr
 cap:Nat
 k:Nat
 c:Nat
 C:Nat->Value
structure TB.Ok (t:TB):Prop where
 rv:RV.ok ⟨t.p,t.cap,t.k,t.l.length,t.c,t.C⟩
 mc:MC t.C t.l
 len:t.l.length<=6
structure KZ where
 kb:Nat
 gb:Nat
 sb:Nat
 qb:Nat
 bb:Nat
 tb:Nat
 pi:Nat
 ob:Nat
 vp:Nat
structure KC where
 mb:Nat->Nat
 pp:Nat->Option Addr
 cc:Nat->Nat
 q:SC
 d:Int->Nat
 F:FC
 dF:Int->Nat
 rp:Option Addr
 rc:Nat
 rl:List Int
 t:Nat->TB
def PA.pu(p:PA)(b:Nat):PU:=⟨p.st,p.aA,p.cB,p.km,if p.st=0 then .pointer none else ay b 0 0,p.fd,p.bx⟩
def kp(a:KA)(b:KZ)(c:KC):KP:=⟨fun n=>(a.u n).pu (c.mb n.toNat),b.gb,b.sb,b.qb,b.bb,b.tb,b.pi,b.ob,fun z=>if a.s.aa z then ay (c.t z.toNat).b 0 0 else .pointer none⟩
def om(a:KA)(b:KZ)(c:KC)(h:(a.u n).st≠0:=by omega):((kp a b c).u n).mem=ay (c.mb n.toNat) 0 0:=by
 show(if(a.u n).st=0 then Value.pointer none else ay (c.mb n.toNat) 0 0)=_;simp_all
def KP.ext{k k':KP}(hu:∀ n,k.u n=k'.u n)(hm:k.ms=k'.ms)(h:(k.gb=k'.gb/\k.sb=k'.sb/\k.qb=k'.qb/\k.bb=k'.bb)/\k.tb=k'.tb/\k.pi=k'.pi/\k.ob=k'.ob):k=k':=by
 cases k;cases k';obtain⟨⟨h1,h2,h3,h4⟩,h5,h6,h7⟩:=h;simp only at hm h1 h2 h3 h4 h5 h6 h7 hu;have e:=funext hu;simp_all
theorem Vf(a:KA)(b:KZ)(c:KC)(n:Int)(p:PA):(kp a b c).put n (p.pu (c.mb n.toNat))=kp {a with u:=ad a.u n p} b c:=by
 refine KP.ext (fun m=> ?_) rfl ⟨⟨rfl,rfl,rfl,rfl⟩,rfl,rfl,rfl⟩;grind [KP.sW,aj,KP.Aj,ae,kp]
def HX(a:KA)(b:KZ)(c:KC)(n:Int)(p:PA)(u:PU)(h:u=p.pu (c.mb n.toNat)):(kp a b c).put n u=kp {a with u:=ad a.u n p} b c:=by rw[h,Vf]
def iR(a:KA):Nat->Bool:=fun j=>decide (j<20/\(a.u (j:Int)).st≠0)
def fh{a:KA}(h:0<=n/\n<20)(hs:(a.u n).st≠0:=by omega):iR a n.toNat=true:=by
 grind [iR]
def vv{a a':KA}(h:∀ n,0<=n->n<20->((a.u n).st=0↔(a'.u n).st=0)):iR a=iR a':=by
 grind [iR]
def Vg{a:KA}{p:PA}(h:0<=n/\n<20)(hp:p.st=0):iR {a with u:=ad a.u n p} =ji (iR a) n.toNat:=by
 grind [iW,iR,aj,ae]
def OO{a:KA}{p:PA}(h:0<=n/\n<20)(hp:p.st≠0):iR {a with u:=ad a.u n p} =Fz (iR a) n.toNat:=by
 grind [jO,iR,aj,ae]
def kz(a:KA):Nat->Bool:=fun j=>decide (j<6)&&a.s.aa (j:Int)
theorem Ce{a:KA}{j:Nat} :kz a j=true↔j<6/\a.s.aa (j:Int)=true:=by simp[kz]
def dY{a:KA}(h:0<=z/\z<6)(hs:a.s.aa z=true):kz a z.toNat=true:=by grind [kz]
abbrev cT(tb:Nat)(t:Nat->TB):Nat->Nat->Value:=fun z=>Tr.aK tb (t z).r (.slice (t z).p (t z).l.length (t z).c)
abbrev rT(e:TypeId)(t:Nat->TB):Nat->qh:=fun z=>⟨.slice (t z).p (t z).k (t z).cap,e,4,(t z).k,bZ (t z).C ((t z).k*4)⟩
abbrev KH(P:Nat->Bool)(tb:Nat)(e:TypeId)(t:Nat->TB):List aG:=[.dG P (fun z=>(t z).b) 4 (cT tb t),.aQ P (rT e t)]
abbrev Vh(tb:Nat)(e:TypeId)(t:TB):List aG:=[.cells t.b 0 4 (Tr.aK tb t.r (.slice t.p t.l.length t.c)),aL t.p t.cap e 4 t.k t.C]
theorem acA(tb:Nat)(t:Nat->TB)(z:Nat)(m:TB):I7 (cT tb t) z (Tr.aK tb m.r (.slice m.p m.l.length m.c))=cT tb (bu t z m):=by
 grind [G9,Ha,bu]
theorem acB(e:TypeId)(t:Nat->TB)(z:Nat)(m:TB):BE (rT e t) z ⟨.slice m.p m.k m.cap,e,4,m.k,bZ m.C (m.k*4)⟩=rT e (bu t z m):=by
 grind [ng,lV,bu]
theorem acC(t:Nat->TB)(z:Nat)(m:TB):I8 (fun z=>(t z).b) z m.b=fun j=>(bu t z m j).b:=by
 grind [u5,rO,bu]
section
variable {W w:World} {S:Nat->Nat->Prop} {H H0:List aG} {tb:Nat} {e:TypeId} {t:Nat->TB} {P:Nat->Bool}
def gT{z:Nat}(hz:P z=true)(hp:cG H0 (KH P tb e t) H)(h:XM W S H0 w):XM W S (.cells (t z).b 0 4 (Tr.aK tb (t z).r (.slice (t z).p (t z).l.length (t z).c))::aL (t z).p (t z).cap e 4 (t z).k (t z).C:: .dG (ji P z) (fun z=>(t z).b) 4 (cT tb t):: .aQ (ji P z) (rT e t)::H) w:=by
 have h0:XM W S (.dG P (fun z=>(t z).b) 4 (cT tb t):: .aQ P (rT e t)::H) w:=h.cb hp.cb;have h1:=CB z hz h0;have h2:=h1.cb (pk [2]).cb;simp only[List.cons_append,List.nil_append]at h2;have h3:=oK z hz h2;have h4:=h3.cb (pk [2,0,1,0]).cb;simp_all
def HY{z:Nat}(m:TB)(hz:P z=false)(hp:cG H0 (Vh tb e m++KH P tb e t) H)(h:XM W S H0 w):XM W S (KH (Fz P z) tb e (bu t z m)++H) w:=by
 have h:XM W S (.cells m.b 0 4 (Tr.aK tb m.r (.slice m.p m.l.length m.c))::aL m.p m.cap e 4 m.k m.C:: .dG P (fun z=>(t z).b) 4 (cT tb t):: .aQ P (rT e t)::H) w:=h.cb hp.cb;have h0:=h.cb (pk [0,1]).cb;simp only[List.cons_append,List.nil_append]at h0;have h1:=FB z og hz h0;have h2:=h1.cb (pk [1,1]).cb;simp only[List.cons_append,List.nil_append]at h2;have h3:=qG (x:=⟨.slice m.p m.k m.cap,e,4,m.k,bZ m.C (m.k*4)⟩) z hz h2;have h4:=h3.cb (pk [1,0]).cb;simp_all[acA,acB,acC]
def yW{z:Nat}(m:TB)(hz:P z=true)(hp:cG H0 (Vh tb e m++KH (ji P z) tb e t) H)(h:XM W S H0 w):XM W S (KH P tb e (bu t z m)++H) w:=by
 have h1:=HY m (uZ _ _) hp h;grind [FA]
def gQ{z:Nat}(hz:P z=true)(hp:cG H0 (Vh tb e (t z)++KH (ji P z) tb e t) H)(h:XM W S H0 w):XM W S (KH P tb e t++H) w:=by
 have h1:=yW (t z) hz hp h;rwa[jG]at h1
def Rk{z:Nat}(m:TB)(hp:cG H0 (Vh tb e m) H)(h:XM W S H0 w):XM W S (KH (Fz (fun _=>false) z) tb e (bu (fun _=>m) z m)++H) w:=by
 have h0:XM W S (Vh tb e m++H) w:=h.cb hp.cb;have h1:XM W S (.dG (fun _=>false) (fun _=>m.b) 4 (cT tb fun _=>m):: .aQ (fun _=>false) (rT e fun _=>m):: .cells m.b 0 4 (Tr.aK tb m.r (.slice m.p m.l.length m.c))::aL m.p m.cap e 4 m.k m.C::H) w:=CC (FD h0);exact HY m rfl (pk [2,2,0,0]) h1
end
structure KA.Wk (a:KA) (T:Int):Prop where
 T0:0<=T/\T<=1000000
 gI:a.g.Inv
 gS:a.g.bU (1000*T)
 sI:a.s.Inv a.aV
 sys:Vm.Sys a.v a.f 20
 sE:∀ n,0<=n->n<20->(a.u n).st≠1->a.f n.toNat=Vm.MS.nil
 PI:a.P.Inv T
 OI:a.O.Inv T
 lc:∀ n,0<=n->n<20->((a.u n).st≠0↔0<=a.s.loc n)
 st:∀ n,(a.u n).st=0\/(a.u n).st=1\/(a.u n).st=2
 out:∀ n,(n<0\/20<=n)->a.u n=PA.nil
 fd:∀ n i,0<=(a.u n).fd i/\(a.u n).fd i<=24
 bx:∀ n,(a.u n).bx.dX 0=false
structure cI (a:KA) (c:KC) (N:Nat) (T:Int):Prop where
 qO:c.q.toSF.Ok c.d N N
 qR:c.q.mA
 F:c.F.toFF.Ok c.dF T
 rp:c.F.rP=c.rp
 rc:c.F.rC=c.rc
 rl:c.F.roots=c.rl
 tb:∀ z,0<=z->z<6->a.s.aa z=true->(c.t z.toNat).Ok
 tk:∀ n,0<=n->n<20->c.q.aa (10+n)=true->(a.u n).st=1
theorem FF.Ok.up{s:Tr.FF}{d:Int->Nat}{B':Int}(h:s.Ok d B)(hB:B<=B'):s.Ok d B':=⟨h.eG,fun n a b=>Int.le_trans (h.bj n a b) hB,Int.le_trans h.nn hB⟩
theorem KA.Wk.up{a:KA}{T':Int}(h:a.Wk T)(hT:T<=T')(Rl:T'<=1000000):a.Wk T':=⟨⟨by have:=h.T0;omega,Rl⟩,h.gI,h.gS.mono og,h.sI,h.sys,h.sE,h.PI.mono hT,h.OI.mono hT,h.lc,h.st,h.out,h.fd,h.bx⟩
theorem cI.up{a:KA}{c:KC}{N N':Nat}{T T':Int}(h:cI a c N T)(hN:N<=N')(hT:T<=T'):cI a c N' T':=⟨h.qO.mono hN og,h.qR,FF.Ok.up h.F hT,h.rp,h.rc,h.rl,h.tb,h.tk⟩
def cI.sh{a:KA}{c:KC}{N:Nat}{T:Int}(h:cI a c N T)(hT:T<=1000000):c.F.toFF.Sh:=h.F.sh hT
def Rm(s:Tr.FF)(n m:Int):(s.kQ n).bj m<=s.bj m\/(s.kQ n).bj m=0:=by
 unfold Tr.FF.kQ;split
 ·have e:ad s.bj n (s.bj n-1) m<=s.bj m:=by
   grind [aj,ae]
  unfold Tr.FF.rk;split
  ·by_cases c:m=n
   ·right;subst c;exact aj _ _ _
   ·left;exact Int.le_trans (Int.le_of_eq (ae _ _ c)) e
  simp_all
 omega
theorem FF.Ok.YU{s:Tr.FF}{d:Int->Nat}(h:s.Ok d B)(n:Int):(s.kQ n).Ok d B:=
 ⟨(h.kQ n).eG,fun m a b=>by
  have h1:=h.bj m a b
  have h2:=h.nn
  rcases Rm s n m with q | q<;>omega,h.nn⟩
def FF.Ok.aaP:∀ (l:List MT) {s:Tr.FF} {d:Int->Nat} {B:Int},s.Ok d B->(DN s l).Ok d B
 | [],_,_,_,h=>h
 | m::r,_,_,_,h=>FF.Ok.aaP r (FF.Ok.YU (FF.Ok.YU h _) _)
def FF.Ok.YV{s:Tr.FF}{d:Int->Nat}(h:s.Ok d B)(l:List MT)(r:WH):(Cd s l r).Ok d B:=FF.Ok.YU (FF.Ok.aaP l h) _
theorem FF.Ok.uD{s:Tr.FF}{d:Int->Nat}(h:s.Ok d B)(O:Tr.OS)(n:Int):(mZ s O n).Ok d B:=by
 unfold mZ;split;all_goals grind [FF.Ok.YU]
theorem OS.Inv.uD{O:Tr.OS}{J:Int}(h:O.Inv J)(n:Int):(kS O n).Inv J:=by
 have hm:=h.close n;refine⟨fun m a b=> ?_,hm.at_,hm.aO,hm.cm⟩;have h1:=(hm.cQ m a b).1;have h2:=(h.cQ m a b);refine⟨h1,?_⟩;unfold kS;split
 ·omega
 ·split
  ·show ad O.cQ n (O.cQ n-1) m<=J;grind [aj,ae]
  ·show ad O.cQ n 0 m<=J;grind [aj,ae]
theorem Vi{P:Tr.PS}{K:Int}(h:P.Inv K)(n:Int)(w:Bool):(P.mL n w (-1)).2.Inv K:=by
 have hm:=Tr.PS.U4 (n:=n) (w:=w) h (.inr rfl);have ig:∀ m k,(P.mL n w (-1)).2.e m k<=P.e m k:=fun m k=>by
  unfold Tr.PS.mL;split
  ·simp_all
  ·split;all_goals grind [cL]
 exact⟨fun m=>⟨(hm.e0 m).1,Int.le_trans (ig m 0) (h.e0 m).2⟩,fun m=>⟨(hm.e1 m).1,Int.le_trans (ig m 1) (h.e1 m).2⟩,hm.cl,hm.len⟩
theorem PS.uD{P:Tr.PS}{K:Int}(h:P.Inv K)(O:Tr.OS)(n:Int):(kR P O n).Inv K:=by
 unfold kR;split;all_goals grind [Vi]
theorem uE{g:Gr.TG}(h:g.Inv)(hS:g.bU B)(n p m:Int):(g.cR n p m).bU B:=by
 have hI:=h.cR n p m;intro y y0 y1;have h1:=hS y y0 y1;unfold Gr.TG.cR at hI ⊢;split
 ·rename_i c;rw[if_pos c]at hI;obtain⟨⟨n0,n1,n2⟩,p0,p1,m0,m1⟩:=Gr.TG.vj c;have hw:=h.ok.cX n0 n1 n2;show-B<=g.pr y+ -p*((g.cX n).count y:Int)/\g.pr y+ -p*((g.cX n).count y:Int)<=B/\ -B<=g.pg y+ -m*((g.cX n).count y:Int)/\g.pg y+ -m*((g.cX n).count y:Int)<=B;have k0:(0:Int)<=((g.cX n).count y:Int):=og;have e1:0<=p*((g.cX n).count y:Int):=Int.mul_nonneg og k0;have e2:0<=m*((g.cX n).count y:Int):=Int.mul_nonneg og k0;have e3: -p*((g.cX n).count y:Int)= -(p*((g.cX n).count y:Int)):=Int.neg_mul _ _;have e4: -m*((g.cX n).count y:Int)= -(m*((g.cX n).count y:Int)):=Int.neg_mul _ _;by_cases q:y∈g.cX n
  ·have hn:=hI.nn y0 y1 (hw.2.2 y q);have hn1:0<=g.pr y+ -p*((g.cX n).count y:Int)/\0<=g.pg y+ -m*((g.cX n).count y:Int):=hn;omega
  grind
 omega
theorem oD{f:Int->Int}{x:Int} :∀ {k:Nat},x∈eo f k↔∃ j:Int,0<=j/\j<k/\0<=f j/\f j=x
 | 0=>by simp[eo];omega
 | k+1=>by
  rw[eo,List.mem_append,oD];constructor
  ·rintro(⟨j,a,b,c,d⟩ | h)
   ·exact⟨j,a,og,c,d⟩
   ·split at h
    ·rename_i q;exact⟨k,og,og,q,(List.mem_singleton.1 h).symm⟩
    ·cases h
  ·rintro⟨j,a,b,c,d⟩;by_cases e:j=(k:Int)
   ·subst e;right;rw[if_pos c];exact List.mem_singleton.2 d.symm
   ·exact .inl ⟨j,a,og,c,d⟩
def pB{f:Int->Int}(hi:∀ q q',0<=f q->f q'=f q->q'=q):∀ k:Nat,(eo f k).Nodup
 | 0=>List.nodup_nil
 | k+1=>by
  rw[eo];split
  ·rename_i c;refine List.nodup_append.2 ⟨pB hi k,List.nodup_cons.2 ⟨sq,List.nodup_nil⟩,fun x hx y hy=> ?_⟩;rw[List.mem_singleton.1 hy];rintro rfl;obtain⟨j,a,b,_,d⟩:=oD.1 hx;grind
  ·rw[List.append_nil];exact pB hi k
theorem yX{s:Sp.SS}{aV:Int->Nat}(h:s.Inv aV)(z:Int):(s.mem z).1.Nodup:=by
 unfold Sp.SS.mem;split
 ·simp_all
 ·exact pB (fun q q' a b=>h.inj z q q' a b) 21
theorem uF(s:Sp.SS)(z:Int):(s.drop z).2.loc=s.loc:=by
 unfold Sp.SS.drop;grind
def HZ{s:Sp.SS}(hp:0<=p/\p<20):(s.gx p).2.loc p<0:=by
 unfold Sp.SS.gx;split
 ·rename_i c;unfold Sp.SS.bS at c;grind
 ·show ad s.loc p (-1) p<0;grind [aj]
theorem uG(s:Sp.SS)(h:m≠p):(s.gx p).2.loc m=s.loc m:=by
 unfold Sp.SS.gx;split
 ·rfl
 ·exact ae _ _ h
theorem SS.xo(s:Sp.SS)(z:Int):((s.drop z).1≠0/\(s.drop z).2=s)\/((s.drop z).1=0/\(0<=z/\z<6)/\z≠0/\s.aa z=true/\(s.drop z).2= {s with aa:=ad s.aa z false,aA:=ad s.aA z 0} /\(∀ j,s.dE z j<0\/¬(0<=j/\j<21))/\∀ j:Int,0<=j->j<6->¬(s.aa j=true/\s.aA j=z)):=by
 by_cases h:(s.drop z).1=0
 ·right;refine⟨h,?_⟩;unfold Sp.SS.drop at h ⊢;split at h
  ·omega
  ·rename_i c;have hi:(0<=z/\z<6)/\s.aa z=true:=by
    have c:s.is z=0:=og;unfold Sp.SS.is at c;grind
   rw[if_neg c];split at h
   ·omega
   ·rename_i d;rw[if_neg d];split at h
    ·omega
    ·rename_i e;refine⟨hi.1,fun q=>d (.inl q),hi.2,rfl,fun j=> ?_,fun j j0 j1 q=> ?_⟩
     ·by_cases q:0<=j/\j<21
      ·left;refine Decidable.byContradiction fun r=>d (.inr ?_);have:s.dE z j∈s.fU z:=oD.2 ⟨j,og,og,og,rfl⟩;simp_all
      omega
     ·unfold Sp.SS.kids at e;have:=q9 e j j0 og;simp_all
 grind [Mv]
def Fh(f:Int->Int)(i:Int):Int->Int:=fun j=>if 0<=j/\j<i/\f j>0 then 0 else f j
theorem afy(f:Int->Int):Fh f 0=f:=by funext j;unfold Fh;rw[if_neg og]
theorem YW(f:Int->Int)(hi:0<=i)(h:f i>0):ad (Fh f i) i 0=Fh f (i+1):=by
 grind [Fh,ad]
theorem Vj(f:Int->Int)(h:¬f i>0):Fh f i=Fh f (i+1):=by
 grind [Fh]
def DP(f:Int->Int)(O:Tr.OS)(P:Tr.PS):Nat->Tr.OS×Tr.PS
 | 0=>(O,P)
 | k+1=>if f (k:Int)>0 then(kS (DP f O P k).1 (f (k:Int)-1),kR (DP f O P k).2 (DP f O P k).1 (f (k:Int)-1))else DP f O P k
theorem YX(O:Tr.OS)(P:Tr.PS)(hi:0<=i)(h:f i>0):DP f O P (i+1).toNat=(kS (DP f O P i.toNat).1 (f i-1),kR (DP f O P i.toNat).2 (DP f O P i.toNat).1 (f i-1)):=by
 rw[show(i+1).toNat=i.toNat+1 by omega];grind [DP]
theorem Vk(O:Tr.OS)(P:Tr.PS)(hi:0<=i)(h:¬f i>0):DP f O P (i+1).toNat=DP f O P i.toNat:=by
 rw[show(i+1).toNat=i.toNat+1 by omega];grind [DP]
def yY{f:Int->Int}{O:Tr.OS}{P:Tr.PS}{T:Int}(hO:O.Inv T)(hP:P.Inv T):∀ k:Nat,(DP f O P k).1.Inv T/\(DP f O P k).2.Inv T
 | 0=>⟨hO,hP⟩
 | k+1=>by
  obtain⟨h1,h2⟩:=yY (f:=f) hO hP k;grind [DP,OS.Inv.uD,PS.uD]
abbrev KA.um(a:KA)(n:Int):Int×Int×VB×Vm.MS:=(a.f n.toNat).ep a.v 0 16
def Rn{m:Vm.MS}(h:m.Ok)(v:VB):(m.ep v 0 16).2.2.2=Vm.MS.nil:=by
 unfold Vm.MS.ep;rw[if_neg dq];have e:∀ {α:Type} (f:Int->α) (v:α),(∀ i,i<0\/16<=i->f i=v)->fT f 0 16 v=fun _=>v:=fun f v h=>by
  funext i;unfold fT;split;all_goals grind
 have h1:∀ i,i<0\/16<=i->m.fr i=0:=fun i hi=>h.un i (h.f.out i hi);show Vm.MS.mk _ _ _=_;rw[e m.az 0 h.f.out,e m.fr 0 h1,e m.bH false fun i hi=>h.ow i (h1 i hi)];rfl
def KA.c9(a:KA)(n co:Int):KA:=
 {a with u:=ad a.u n {a.u n with st:=2,km:=co,fd:=Fh (a.u n).fd 6},g:=a.g.cR (a.u n).cB 0 (a.um n).1,v:=(a.um n).2.2.1,f:=(bu a.f n.toNat (a.um n).2.2.2),O:=(DP (a.u n).fd a.O a.P 6).1,P:=(DP (a.u n).fd a.O a.P 6).2}
def nl{α:Type}(f:Int->α)(n m:Int)(x:α){Q:α->Prop}(h1:m=n->Q x)(h2:m≠n->Q (f m)):Q (ad f n x m):=by
 grind [ad]
theorem KA.Wk.c9{a:KA}{T:Int}(h:a.Wk T){n:Int}(hn:0<=n/\n<20)(hl:(a.u n).st=1)(co:Int):(a.c9 n co).Wk T where
 T0:=h.T0
 gI:=h.gI.cR _ _ _
 gS:=uE h.gI h.gS _ _ _
 sI:=h.sI
 sys:=h.sys.ep (z:=n.toNat) og 0 16
 sE:=fun m h0 h1 h2=>by
  show bu a.f n.toNat (a.um n).2.2.2 m.toNat=_
  by_cases e:m=n
  ·subst e;rw[lz];exact Rn (h.sys.mo _ og) _
  ·rw[iA _ _ og]
   refine h.sE m h0 h1 fun q=>h2 ?_
   show(ad a.u n _ m).st=1
   rw[ae _ _ e];exact q
 PI:=(yY (f:=(a.u n).fd) h.OI h.PI 6).2
 OI:=(yY (f:=(a.u n).fd) h.OI h.PI 6).1
 lc:=fun m a0 a1=>nl a.u n m _ (Q:=fun x=>x.st≠0↔0<=a.s.loc m) (fun e=>by
  subst e;exact⟨fun _=>(h.lc m a0 a1).1 og,fun _=>(by decide:(2:Int)≠0)⟩) fun _=>h.lc m a0 a1
 st:=fun m=>nl a.u n m _ (Q:=fun x=>x.st=0\/x.st=1\/x.st=2) (fun _=>.inr (.inr rfl)) fun _=>h.st m
 out:=fun m hm=>by
  show ad a.u n _ m=_
  rw[ae _ _ og];exact h.out m hm
 fd:=fun m i=>nl a.u n m _ (Q:=fun x=>0<=x.fd i/\x.fd i<=24) (fun _=>by
  have:=h.fd n i
  show 0<=Fh _ 6 i/\Fh _ 6 i<=24
  unfold Fh;split<;>omega) fun _=>h.fd m i
 bx:=fun m=>nl a.u n m _ (Q:=fun x=>x.bx.dX 0=false) (fun _=>h.bx n) fun _=>h.bx m
def KA.fj(a:KA)(n:Int):KA:= {a with u:=ad a.u n PA.nil,g:=a.g.cR (a.u n).cB 1 0,s:=(a.s.gx n).2}
theorem KA.Wk.fj{a:KA}{T:Int}(h:a.Wk T){n:Int}(hn:0<=n/\n<20)(hs:(a.u n).st≠1):(a.fj n).Wk T where
 T0:=h.T0
 gI:=h.gI.cR _ _ _
 gS:=uE h.gI h.gS _ _ _
 sI:=h.sI.gx _
 sys:=h.sys
 sE:=fun m h0 h1 h2=>by
  by_cases e:m=n
  ·subst e;exact h.sE m h0 h1 hs
  ·refine h.sE m h0 h1 (fun q=>h2 ?_)
   show(ad a.u n _ m).st=1
   rw[ae _ _ e];exact q
 PI:=h.PI
 OI:=h.OI
 lc:=fun m a0 a1=>by
  show(ad a.u n PA.nil m).st≠0↔0<=(a.s.gx n).2.loc m
  by_cases e:m=n
  ·subst e
   rw[aj]
   exact⟨fun q=>absurd rfl q,fun q=>absurd q (by have:=HZ (s:=a.s) (p:=m) hn;omega)⟩
  ·rw[ae _ _ e,uG _ e];exact h.lc m a0 a1
 st:=fun m=>nl a.u n m _ (Q:=fun x=>x.st=0\/x.st=1\/x.st=2) (fun _=>.inl rfl) fun _=>h.st m
 out:=fun m hm=>nl a.u n m _ (Q:=fun x=>x=PA.nil) (fun _=>rfl) fun _=>h.out m hm
 fd:=fun m i=>nl a.u n m _ (Q:=fun x=>0<=x.fd i/\x.fd i<=24) (fun _=>by simp[PA.nil]) fun _=>h.fd m i
 bx:=fun m=>nl a.u n m _ (Q:=fun x=>x.bx.dX 0=false) (fun _=>rfl) fun _=>h.bx m
def KA.fL(a:KA)(z:Int):KA:= {a with s:=(a.s.drop z).2}
theorem KA.Wk.fL{a:KA}{T:Int}(h:a.Wk T)(z:Int):(a.fL z).Wk T:=⟨h.T0,h.gI,h.gS,h.sI.drop z,h.sys,h.sE,h.PI,h.OI,(fun n a0 a1=>by rw[show(a.fL z).s.loc=a.s.loc from uF _ _];exact h.lc n a0 a1),h.st,h.out,h.fd,h.bx⟩
def jS(f:Int->Int)(a:Int):Int:=match dW (fun k=>decide (a<=k)&&(f k==0)) 6 with
 | some k=>k
 | none=> -1
theorem Ro{a:Int}(h0:0<=i/\a<=i/\i<6)(h1:f i=0)(hn:∀ j:Int,0<=j->a<=j->j<i->f j≠0):jS f a=i:=by
 unfold jS;have e:dW (fun k=>decide (a<=k)&&(f k==0)) 6=some i.toNat:=by
  grind [fx]
 grind
theorem M2{a:Int}(hn:∀ j:Int,0<=j->a<=j->j<6->f j≠0):jS f a= -1:=by
 grind [jS,fy]
def KP.eY(k:KP)(n i:Int):Int:=if k.aB n≠0 then k.aB n else if i<0\/6<=i then 1 else if(k.u n).fd i=0 then 2 else 0
def KP.dD(k:KP)(n i:Int):Int:=if k.eY n i=0 then(k.u n).fd i-1 else 0
theorem KP.sF{k:KP}(h:k.eY n i=0):(0<=n/\n<20)/\(k.u n).st=1/\(0<=i/\i<6)/\(k.u n).fd i≠0/\k.dD n i=(k.u n).fd i-1:=by
 have hv:k.dD n i=(k.u n).fd i-1:=by unfold KP.dD;rw[if_pos h]
 unfold KP.eY at h;split at h
 ·omega
 ·split at h
  ·omega
  ·split at h
   ·omega
   ·have:=bE (k:=k) (n:=n) og;omega
theorem acE(a:KA)(b:KZ)(c:KC)(n:Int):(kp a b c).put n {(kp a b c).u n with fd:=Fh (a.u n).fd 0} =kp a b c:=by
 rw[afy];exact Bk _ _
theorem acF(a:KA)(b:KZ)(c:KC)(hi:0<=i)(h:(a.u n).fd i>0):((kp a b c).put n {(kp a b c).u n with fd:=Fh (a.u n).fd i}).put n {((kp a b c).put n {(kp a b c).u n with fd:=Fh (a.u n).fd i}).u n with fd:=ad (((kp a b c).put n {(kp a b c).u n with fd:=Fh (a.u n).fd i}).u n).fd i 0} =(kp a b c).put n {(kp a b c).u n with fd:=Fh (a.u n).fd (i+1)} :=by
 grind [KP.HE,KP.sW,YW]
theorem acG(a:KA)(b:KZ)(c:KC)(hl:(a.u n).st=1)(hn:0<=n/\n<20)(K:KP)(hK:K=(kp a b c).put n {(kp a b c).u n with fd:=Fh (a.u n).fd 6}):(K.put n {K.u n with st:=2}).put n {(K.put n {K.u n with st:=2}).u n with km:=co} =kp (a.c9 n co) b c:=by
 subst hK;rw[KP.sW,KP.HE,KP.HE,KP.sW];refine(HX a b c n {a.u n with st:=2,km:=co,fd:=Fh (a.u n).fd 6} _ ?_).trans rfl;show PU.mk 2 (a.u n).aA (a.u n).cB co (if(a.u n).st=0 then _ else _) _ _=PU.mk 2 (a.u n).aA (a.u n).cB co (if(2:Int)=0 then _ else _) _ _;rw[if_neg og,if_neg og];rfl
theorem YY(a:KA)(hl:(a.u n).st=1):iR (a.c9 n co)=iR a:=by
 refine(vv fun m _ _=> ?_).symm;show(a.u m).st=0↔(ad a.u n _ m).st=0;grind [aj,ae]
theorem YZ(a:KA)(b:KZ)(c:KC)(n:Int):(kp a b c).put n PU.nil=kp (a.fj n) b c:=by
 refine KP.ext (fun m=> ?_) ?_ ⟨⟨rfl,rfl,rfl,rfl⟩,rfl,rfl,rfl⟩
 ·by_cases e:m=n
  ·subst e;rw[KP.sW];show _=(ad a.u m PA.nil m).pu _;rw[aj];rfl
  ·rw[KP.Aj _ _ e];show(a.u m).pu _=(ad a.u n PA.nil m).pu _;grind [ae]
 ·have e:(a.s.gx n).2.aa=a.s.aa:=by unfold Sp.SS.gx;split<;>rfl
  show _=fun z=>if(a.s.gx n).2.aa z then _ else _
  rw[e];rfl
theorem wm(s:Sp.SS)(n:Int):(s.gx n).2.aa=s.aa:=by unfold Sp.SS.gx;split<;>rfl
theorem Vl(a:KA)(n:Int):kz (a.fj n)=kz a:=by
 grind [kz,KA.fj,wm]
theorem Vn(a:KA)(hn:0<=n/\n<20):iR (a.fj n)=ji (iR a) n.toNat:=(vv fun _ _ _=>Iff.rfl).trans (Vg (p:=PA.nil) hn rfl)
theorem Vo{a:KA}(hz:0<=z/\z<6)(h:(a.s.drop z).2= {a.s with aa:=ad a.s.aa z false,aA:=ad a.s.aA z 0}):kz (a.fL z)=ji (kz a) z.toNat:=by
 funext j;rw[Bool.eq_iff_iff,iW,Ce,Ce];show j<6/\(a.s.drop z).2.aa j=true↔_;rw[h];grind [aj,ae]
def Vp(a:KA)(b:KZ)(c:KC)(h:a.s.aa z=true):(kp a b c).ms z=ay (c.t z.toNat).b 0 0:=if_pos h
theorem Y0(a:KA)(b:KZ)(c:KC)(h:(a.s.drop z).2= {a.s with aa:=ad a.s.aa z false,aA:=ad a.s.aA z 0}):({kp a b c with ms:=ad (kp a b c).ms z (.pointer none)} :KP)=kp (a.fL z) b c:=by
 refine KP.ext (fun m=>rfl) ?_ ⟨⟨rfl,rfl,rfl,rfl⟩,rfl,rfl,rfl⟩;show ad (kp a b c).ms z (.pointer none)=fun y=>if(a.s.drop z).2.aa y then ay (c.t y.toNat).b 0 0 else .pointer none
 rw[h];grind [ad,kp]
def KA.gR(h:Int)(a:KA)(m:Int):KA:=if m=h then a else(if(a.u m).st=1 then a.c9 m 0 else a).fj m
def KA.round(a:KA):KA:=(Sp.fM a.s.aa 6).foldl KA.fL a
def KA.fU(a:KA)(z h:Int):KA:=(a.s.mem z).1.foldl (KA.gR h) a
def KA.fY(a:KA):Nat->KA
 | 0=>a
 | k+1=>(a.fY k).round
def KA.ed(a:KA)(z h:Int):KA:=(a.fU z h).fY 4
theorem M3{α β:Type}(f:α->β->α)(a:α)(l:List β)(x:β):(l++[x]).foldl f a=f (l.foldl f a) x:=iV
theorem qc(a:KA)(co:Int)(h:m≠n):(a.c9 n co).u m=a.u m:=ae _ _ h
theorem nL(a:KA)(h:m≠n):(a.fj n).u m=a.u m:=ae _ _ h
theorem yZ(a:KA)(h:Int)(e:m≠n):(a.gR h n).u m=a.u m:=by
 grind [KA.gR,nL,qc]
theorem nm(a:KA)(n co:Int):((a.c9 n co).u n).st=2:=by
 show(ad a.u n _ n).st=2;rw[aj]
def DQ{s:Sp.SS}(h:p∈(s.mem z).1):∃ q:Int,0<=q/\q<21/\s.dE z q=p/\0<=p:=by
 unfold Sp.SS.mem at h;split at h
 ·cases h
 ·obtain⟨j,h0,h1,h2,h3⟩:=oD.1 h;grind
theorem Gq(a:KA)(h:Int){m:Int} :∀ {l:List Int},m∉l->(l.foldl (KA.gR h) a).u m=a.u m
 | [],_=>rfl
 | x::r,hm=>by
  rw[List.foldl_cons,Gq (a.gR h x) h fun q=>hm (.tail _ q),yZ _ _ (by rintro rfl;exact hm (.head _))]
theorem KA.Wk.gR{a:KA}{T:Int}(w:a.Wk T)(h:Int){m:Int}(hm:0<=m/\m<20):(a.gR h m).Wk T:=by
 grind [KA.gR,KA.Wk.c9,nm,KA.Wk.fj]
theorem SS.mem_range{s:Sp.SS}{aV:Int->Nat}(h:s.Inv aV)(hp:p∈(s.mem z).1):(0<=p/\p<20)/\0<=s.loc p:=by
 obtain⟨q,_,_,e,p0⟩:=DQ hp;have:=h.mem z q p p0 e;omega
def KA.Wk.DR{a:KA}(w:a.Wk T)(z:Int)(hp:p∈(a.s.mem z).1):(0<=p/\p<20)/\(a.u p).st≠0:=by
 grind [SS.mem_range,KA.Wk.sI,KA.Wk.lc]
def KA.Wk.Vq{T:Int}(h:Int):∀ {l:List Int} {a:KA},a.Wk T->(∀ m∈l,0<=m/\m<20)->(l.foldl (KA.gR h) a).Wk T
 | [],_,w,_=>w
 | x::r,_,w,hl=>KA.Wk.Vq (l:=r) h (w.gR h (hl x (.head _))) fun m hm=>hl m (.tail _ hm)
def KA.Wk.fU{a:KA}{T:Int}(w:a.Wk T)(z h:Int):(a.fU z h).Wk T:=KA.Wk.Vq h w fun _ hm=>(SS.mem_range w.sI hm).1
def KA.Wk.uH{T:Int} :∀ {l:List Int} {a:KA},a.Wk T->(l.foldl KA.fL a).Wk T
 | [],_,w=>w
 | x::r,_,w=>KA.Wk.uH (l:=r) (w.fL x)
def KA.Wk.round{a:KA}{T:Int}(w:a.Wk T):a.round.Wk T:=KA.Wk.uH w
def KA.Wk.fY{a:KA}{T:Int}(w:a.Wk T):∀ k,(a.fY k).Wk T
 | 0=>w
 | k+1=>(w.fY k).round
theorem KA.Wk.ed{a:KA}{T:Int}(w:a.Wk T)(z h:Int):(a.ed z h).Wk T:=(w.fU z h).fY 4
theorem DS(a:KA)(h:0<=i):a.fY (i+1).toNat=(a.fY i.toNat).round:=by
 rw[show(i+1).toNat=i.toNat+1 by omega];rfl
theorem vw{l:List Int}(h:0<=i/\i<l.length):l.take (i+1).toNat=l.take i.toNat++[gh l i]:=aaF h
theorem Vr{l:List Int}(hn:l.Nodup)(h:0<=i/\i<l.length):gh l i∉l.take i.toNat:=by
 intro q;have h1:(l.take i.toNat++l.drop i.toNat).Nodup:=by rwa[List.take_append_drop]
 grind [gh,List.drop_eq_getElem_cons]
theorem FF.mX(s:Tr.FF)(n:Int):(s.kQ n).roots=s.roots:=by
 unfold Tr.FF.kQ Tr.FF.rk;split
 ·split<;>rfl
 rfl
def wo:∀ (l:List MT) (s:Tr.FF),(DN s l).roots=s.roots
 | [],_=>rfl
 | m::r,s=>(wo r _).trans ((FF.mX _ _).trans (FF.mX _ _))
theorem sY(s:Tr.FF)(l:List MT)(r:WH):(Cd s l r).roots=s.roots:=(FF.mX _ _).trans (wo _ _)
def H3{s:Sp.SS}{y:Int}(h:(s.drop z).2.aa y=true):s.aa y=true:=by
 rcases SS.xo s z with⟨_,e⟩ | ⟨_,_,_,_,e,_⟩;all_goals simp_all[ad]
def sG(k:KP)(h:0<=z/\z<6){v:Value}(e:k.ms z=v):0+447+z.toNat*1<453/\aD k (0+447+z.toNat*1)=v:=by grind [aD]
theorem cI.Vs{a:KA}{c:KC}{N:Nat}(h:cI a c N T)(hs:(a.u n).st≠1):cI (a.fj n) c N T:=⟨h.qO,h.qR,h.F,h.rp,h.rc,h.rl,fun z h0 h1 h2=>h.tb z h0 h1 (by rwa[show(a.fj n).s.aa=a.s.aa from wm _ _]at h2),fun m m0 m1 hm=>by
 have h1:=h.tk m m0 m1 hm
 have:m≠n:=by rintro rfl;exact hs h1
 rw[nL _ this];exact h1⟩
theorem pC(x:BS)(n:Int)(h:x.dX 0=false):(x.send n).2.dX 0=false:=by
 unfold BS.send;split
 ·rename_i c;have:=(gK n).1 c;show(if x.zR n=1 then x else _).dX 0=false;split;all_goals grind [ae]
 omega
def Br{x y:BS}{h:Int}(e:∀ k:Int,0<=k->k<9->(x.dX k&&(!x.bj k&&decide (x.kf k=h)))=(y.dX k&&(!y.bj k&&decide (y.kf k=h)))):x.first h=y.first h:=by
 unfold BS.first
 have e2:dW (fun k=>x.dX k&&(!x.bj k&&decide (x.kf k=h))) 9=dW (fun k=>y.dX k&&(!y.bj k&&decide (y.kf k=h))) 9:=by
  cases hy:dW (fun k=>y.dX k&&(!y.bj k&&decide (y.kf k=h))) 9 with
  | none=>exact fy fun j j0 j1=>(e j j0 og).trans (q9 hy j j0 j1)
  | some m=>
   obtain⟨h1,h2,h3⟩:=JU hy;have:=fx (p:=fun k=>x.dX k&&(!x.bj k&&decide (x.kf k=h))) (m:=9) (k:=(m:Int)) og og ((e m og og).trans h2) fun j j0 j1=>(e j j0 og).trans (h3 j j0 j1);rw[this];rfl
 rw[e2]
theorem Gs(x:BS):(x.send 3).2.first 0=x.first 0:=by
 unfold BS.send;rw[if_pos dq];show(if x.zR 3=1 then x else _).first 0=_
 split
 ·rfl
 ·rename_i c;refine Br fun k k0 k1=> ?_;show(ad x.dX 3 true k&&_)=_;by_cases e:k=3
  ·subst e;have h0:¬x.kf 3=0:=fun q=>c (by unfold BS.zR;rw[if_pos ⟨rfl,q⟩]);simp_all
  grind [ae]
def KA.jM(a:KA)(n:Int)(x:BS):KA:= {a with u:=ad a.u n {a.u n with bx:=x}}
def KA.aB(a:KA)(n:Int):Int:=if n<0\/20<=n then 1 else if(a.u n).st=1 then 0 else 2
theorem Y1(a:KA)(b:KZ)(c:KC)(n:Int):(kp a b c).aB n=a.aB n:=rfl
theorem bQ{a:KA}(h:a.aB n=0):(0<=n/\n<20)/\(a.u n).st=1:=by
 grind [KA.aB]
def KA.Oy{a:KA}(h:0<=n/\n<20)(e:(a.u n).st=1):a.aB n=0:=by grind [KA.aB]
theorem As(a:KA)(b:KZ)(c:KC)(n:Int)(x:BS):(kp a b c).box n x=kp (a.jM n x) b c:=HX a b c n {a.u n with bx:=x} _ rfl
theorem y8(a:KA)(x:BS)(h:m≠n):(a.jM n x).u m=a.u m:=ae _ _ h
theorem H4(a:KA)(n:Int)(x:BS):(a.jM n x).u n= {a.u n with bx:=x} :=aj _ _ _
theorem gU(a:KA)(n m:Int)(x:BS):((a.jM n x).u m).st=(a.u m).st:=by
 grind [H4,y8]
theorem vx(a:KA)(n:Int)(x:BS):iR (a.jM n x)=iR a:=vv fun m _ _=>by rw[gU]
theorem KA.Wk.jM{a:KA}{T:Int}(h:a.Wk T){n:Int}(hn:0<=n/\n<20){x:BS}(hx:x.dX 0=false):(a.jM n x).Wk T where
 T0:=h.T0
 gI:=h.gI
 gS:=h.gS
 sI:=h.sI
 sys:=h.sys
 sE:=fun m a0 a1 q=>h.sE m a0 a1 (by rwa[gU]at q)
 PI:=h.PI
 OI:=h.OI
 lc:=fun m a0 a1=>by rw[gU];exact h.lc m a0 a1
 st:=fun m=>by rw[gU];exact h.st m
 out:=fun m hm=>by rw[y8 _ _ og];exact h.out m hm
 fd:=fun m i=>nl a.u n m _ (Q:=fun z=>0<=z.fd i/\z.fd i<=24) (fun _=>h.fd n i) fun _=>h.fd m i
 bx:=fun m=>nl a.u n m _ (Q:=fun z=>z.bx.dX 0=false) (fun _=>hx) fun _=>h.bx m
def KA.head(a:KA)(n:Int):Int:=(a.s.find (a.s.bS n).1 1).1
def KA.dN(a:KA)(n h:Int):KA:= {a with u:=fun j=>if 0<=j/\j<20/\(a.u j).st≠0/\(a.u j).aA=n then {a.u j with aA:=h} else a.u j}
theorem dS(a:KA)(n h j:Int):((a.dN n h).u j).st=(a.u j).st/\((a.dN n h).u j).bx=(a.u j).bx/\((a.dN n h).u j).cB=(a.u j).cB/\((a.dN n h).u j).km=(a.u j).km/\((a.dN n h).u j).fd=(a.u j).fd:=by
 show((if 0<=j/\j<20/\(a.u j).st≠0/\(a.u j).aA=n then {a.u j with aA:=h} else a.u j):PA).st=_/\((if 0<=j/\j<20/\(a.u j).st≠0/\(a.u j).aA=n then {a.u j with aA:=h} else a.u j):PA).bx=_/\((if 0<=j/\j<20/\(a.u j).st≠0/\(a.u j).aA=n then {a.u j with aA:=h} else a.u j):PA).cB=_/\((if 0<=j/\j<20/\(a.u j).st≠0/\(a.u j).aA=n then {a.u j with aA:=h} else a.u j):PA).km=_/\((if 0<=j/\j<20/\(a.u j).st≠0/\(a.u j).aA=n then {a.u j with aA:=h} else a.u j):PA).fd=_;grind
theorem KI(a:KA)(b:KZ)(c:KC)(n h:Int):(kp a b c).kL n h 20=kp (a.dN n h) b c:=by
 refine KP.ext (fun m=> ?_) rfl ⟨⟨rfl,rfl,rfl,rfl⟩,rfl,rfl,rfl⟩;show(if 0<=m/\m<20/\(a.u m).st≠0/\(a.u m).aA=n then {(a.u m).pu _ with aA:=h} else(a.u m).pu _)=PA.pu (if 0<=m/\m<20/\(a.u m).st≠0/\(a.u m).aA=n then {a.u m with aA:=h} else a.u m) _;split<;>rfl
theorem Gt(a:KA)(n h:Int):iR (a.dN n h)=iR a:=by grind [dS,iR]
def KA.Wk.dN{a:KA}{T:Int}(w:a.Wk T)(n h:Int):(a.dN n h).Wk T where
 T0:=w.T0
 gI:=w.gI
 gS:=w.gS
 sI:=w.sI
 sys:=w.sys
 sE:=fun m a0 a1 q=>w.sE m a0 a1 (by rwa[(dS _ _ _ _).1]at q)
 PI:=w.PI
 OI:=w.OI
 lc:=fun m a0 a1=>by rw[(dS _ _ _ _).1];exact w.lc m a0 a1
 st:=fun m=>by rw[(dS _ _ _ _).1];exact w.st m
 out:=fun m hm=>by
  show(if 0<=m/\m<20/\(a.u m).st≠0/\(a.u m).aA=n then {a.u m with aA:=h} else a.u m)=PA.nil
  rw[if_neg og];exact w.out m hm
 fd:=fun m i=>by rw[(dS _ _ _ _).2.2.2.2];exact w.fd m i
 bx:=fun m=>by rw[(dS _ _ _ _).2.1];exact w.bx m
def KA.jW(a:KA)(p:Int):KA:=if a.aB p=0 then a.jM p ((a.u p).bx.send 3).2 else a
theorem KA.Wk.jW{a:KA}{T:Int}(w:a.Wk T)(p:Int):(a.jW p).Wk T:=by
 grind [KA.jW,KA.Wk.jM,bQ,pC,KA.Wk.bx]
def KA.gZ(a:KA)(n co:Int):KA:=if a.head n=n then(a.c9 n co).ed (a.s.bS n).1 n else a.c9 n co
def KA.dt(a:KA)(n co:Int):KA:=((a.gZ n co).dN n (a.head n)).jW (((a.gZ n co).dN n (a.head n)).u n).aA
theorem KA.Wk.gZ{a:KA}{T:Int}(w:a.Wk T){n:Int}(hn:0<=n/\n<20)(hl:(a.u n).st=1)(co:Int):(a.gZ n co).Wk T:=by
 unfold KA.gZ;split
 ·exact(w.c9 hn hl co).ed _ _
 grind [KA.Wk.c9]
theorem KA.Wk.dt{a:KA}{T:Int}(w:a.Wk T){n:Int}(hn:0<=n/\n<20)(hl:(a.u n).st=1)(co:Int):(a.dt n co).Wk T:=((w.gZ hn hl co).dN _ _).jW _
def KA.Hx(a:KA)(n:Int):Prop:=∀ p,0<=p->p<20->p≠n->(a.u p).st=1->(a.u p).bx.first 0=0\/a.s.dE (a.s.loc p) 1=p
theorem KA.Hx.c9{a:KA}{n:Int}(h:a.Hx n)(co:Int):(a.c9 n co).Hx n:=fun p h0 h1 h2 h3=>by
 rw[qc _ _ h2]at h3 ⊢;exact h p h0 h1 h2 h3
def KA.Hx.aia{a:KA}(h:a.Hx n)(co:Int):(a.c9 m co).Hx n:=fun p h0 h1 h2 h3=>by
 by_cases e:p=m
 ·grind [nm]
 ·rw[qc _ _ e]at h3 ⊢;exact h p h0 h1 h2 h3
def y9{s:Sp.SS}{q:Int}(e:p≠n)(h:s.dE z q=p):(s.gx n).2.dE z q=p:=by
 unfold Sp.SS.gx;split
 ·omega
 ·show(if s.dE z q=n then-1 else s.dE z q)=p;omega
theorem KA.Hx.fj{a:KA}{n m:Int}(h:a.Hx n):(a.fj m).Hx n:=fun p h0 h1 h2 h3=>by
 by_cases e:p=m
 ·simp_all[KA.fj,PA.nil,aj]
 ·rw[nL _ e]at h3 ⊢;rcases h p h0 h1 h2 h3 with q | q
  ·omega
  ·right;show(a.s.gx m).2.dE ((a.s.gx m).2.loc p) 1=p;rw[uG _ e];exact y9 e q
theorem Bs(s:Sp.SS)(z:Int):(s.drop z).2.dE=s.dE:=by
 grind [SS.xo]
theorem KA.Hx.fL{a:KA}{n:Int}(h:a.Hx n)(z:Int):(a.fL z).Hx n:=fun p h0 h1 h2 h3=>by
 show _\/(a.s.drop z).2.dE ((a.s.drop z).2.loc p) 1=p;rw[Bs,uF];exact h p h0 h1 h2 h3
def KA.Hx.Vq{n:Int}(k:Int):∀ {l:List Int} {a:KA},a.Hx n->(l.foldl (KA.gR k) a).Hx n
 | [],_,w=>w
 | x::r,a,w=>KA.Hx.Vq k (l:=r) (by
   unfold KA.gR
   split
   ·exact w
   ·refine KA.Hx.fj ?_
    split
    ·exact w.aia 0
    ·exact w)
def KA.Hx.uH{n:Int} :∀ {l:List Int} {a:KA},a.Hx n->(l.foldl KA.fL a).Hx n
 | [],_,w=>w
 | x::r,_,w=>KA.Hx.uH (l:=r) (w.fL x)
def KA.Hx.fY{a:KA}{n:Int}(w:a.Hx n):∀ k,(a.fY k).Hx n
 | 0=>w
 | k+1=>KA.Hx.uH (w.fY k)
theorem KA.Hx.gZ{a:KA}{n:Int}(w:a.Hx n)(co:Int):(a.gZ n co).Hx n:=by
 unfold KA.gZ;split
 ·exact KA.Hx.fY (KA.Hx.Vq n (w.c9 co)) 4
 grind [KA.Hx.c9]
def KA.Hx.dN{a:KA}{n:Int}(w:a.Hx n)(m h:Int):(a.dN m h).Hx n:=fun p h0 h1 h2 h3=>by
 rw[(dS _ _ _ _).1]at h3;rw[(dS _ _ _ _).2.1];exact w p h0 h1 h2 h3
theorem KA.Hx.jW{a:KA}{n:Int}(w:a.Hx n)(m:Int):(a.jW m).Hx n:=fun p h0 h1 h2 h3=>by
 unfold KA.jW at h3 ⊢;split
 ·rename_i c;rw[if_pos c,gU]at h3;by_cases e:p=m
  ·subst e;rw[H4];show((a.u p).bx.send 3).2.first 0=0\/_
   rw[Gs];exact w p h0 h1 h2 h3
  ·rw[y8 _ _ e];exact w p h0 h1 h2 h3
 grind [KA.Hx]
theorem KA.Wk.KJ{a:KA}(w:a.Wk T)(h0:0<=p/\p<20)(hs:(a.u p).st≠0)(h:a.s.dE (a.s.loc p) 1=p):a.head p=p:=by
 have h1:=(w.lc p h0.1 h0.2).1 hs;have h2:=w.sI.loc p;have h3:=w.sI.at_ p h0.1 h0.2 h1;have e1:a.s.bS p=(a.s.loc p,0):=by unfold Sp.SS.bS;rw[if_neg og,if_neg og]
 unfold KA.head;rw[e1];have e2:a.s.is (a.s.loc p)=0:=by unfold Sp.SS.is;rw[if_neg og,if_pos h3]
 show(a.s.find (a.s.loc p) 1).1=p;unfold Sp.SS.find;grind
def KA.KK(a:KA)(n:Int)(o:Bool):Prop:=(a.u n).bx.first 0≠0/\(o=true\/a.head n≠n)
instance (a:KA) (n:Int) (o:Bool):Decidable (a.KK n o):=by unfold KA.KK;infer_instance
def KA.cK(a:KA)(n:Int)(o:Bool):KA:=if a.KK n o then a.dt n (128+(a.u n).bx.first 0)else a
def KA.wq(a:KA)(n sig:Int)(o:Bool):KA:=if a.aB n=0 then(a.jM n ((a.u n).bx.send sig).2).cK n o else a
theorem DT(a:KA):∀ k,(a.fY k).u=a.u
 | 0=>rfl
 | k+1=>by
  show((Sp.fM (a.fY k).s.aa 6).foldl KA.fL (a.fY k)).u=a.u;have e:∀ (l:List Int) (x:KA),(l.foldl KA.fL x).u=x.u:=fun l=>by
   induction l with
   | nil=>intro x;rfl
   | cons y r ih=>intro x;rw[List.foldl_cons,ih];rfl
  rw[e];exact DT a k
theorem KL(h:Int):∀ (l:List Int) (a:KA),(l.foldl (KA.gR h) a).u h=a.u h
 | [],_=>rfl
 | x::r,a=>by
  rw[List.foldl_cons,KL h r];by_cases e:h=x
  ·unfold KA.gR;rw[if_pos e.symm]
  ·exact yZ a h e
theorem KM(a:KA)(z h:Int):(a.ed z h).u h=a.u h:=by
 unfold KA.ed;rw[DT];unfold KA.fU;exact KL h _ a
theorem DU(a:KA)(n co:Int):((a.gZ n co).u n).st≠1:=by
 grind [nm,KA.gZ,KM]
def Gu{a:KA}{b:KZ}{c:KC}(w:a.Wk T)(hx:a.Hx n)(hs:(a.u n).st≠1)(q:(kp a b c).aB p=0):(((kp a b c).u p).bx.send 3).2.first 0=0\/(false=false/\(a.s.find (a.s.bS p).1 1).1=p):=by
 obtain⟨h1,h2⟩:=bQ (a:=a) (n:=p) q;have gY:p≠n:=by rintro rfl;exact hs h2
 rcases hx p h1.1 h1.2 gY h2 with e | e
 ·left;rw[Gs];exact e
 ·exact .inr ⟨rfl,w.KJ h1 og e⟩
def acH(a:KA)(b:KZ)(c:KC)(p:Int):(if(kp a b c).aB p=0 then(kp a b c).box p (((kp a b c).u p).bx.send 3).2 else kp a b c)=kp (a.jW p) b c:=by
 unfold KA.jW;rw[Y1];split
 ·exact As a b c p _
 rfl
theorem Y2(a:KA)(p:Int):iR (a.jW p)=iR a:=by
 grind [KA.jW,vx]
theorem uI(a:KA)(p:Int):(a.jW p).s=a.s/\(a.jW p).g=a.g/\(a.jW p).v=a.v/\(a.jW p).f=a.f/\(a.jW p).P=a.P/\(a.jW p).O=a.O:=by
 unfold KA.jW;split<;>exact⟨rfl,rfl,rfl,rfl,rfl,rfl⟩
theorem cI.gF{a:KA}{c:KC}{N:Nat}(h:cI a c N T)(n m p:Int):cI ((a.dN n m).jW p) c N T:=⟨h.qO,h.qR,h.F,h.rp,h.rc,h.rl,fun z h0 h1 h2=>h.tb z h0 h1 (by rwa[(uI _ _).1]at h2),fun j j0 j1 hj=>by
 have h1:=h.tk j j0 j1 hj
 unfold KA.jW;split
 ·rw[gU,(dS _ _ _ _).1];exact h1
 ·rw[(dS _ _ _ _).1];exact h1⟩
def cI.afz{a:KA}{c:KC}{N:Nat}(h:cI a c N T){t:SC}(ht:t.toSF=c.q.toSF.vY c.d n):∀ m,0<=m->m<20->t.aa (10+m)=true->((a.c9 n co).u m).st=1:=fun m m0 m1 hm=>by
 have hm:t.toSF.aa (10+m)=true:=hm;rw[ht]at hm;obtain⟨h1,h2⟩:=Fa.SF.Ma m0 m1 hm;rw[qc _ _ h1];exact h.tk m m0 m1 h2
end Go.X.Kn

namespace Go.X.Kn
open Go Go.X Go.X.Sg
variable{x:BS}{bH:Bool}{T T' i n p q v z:Int}{aV:Int->Nat}{u:Int->PA}{c:KC}
theorem Gv(a:KA)(n h:Int):kz (a.dN n h)=kz a:=rfl
theorem cI.box{a:KA}{N:Nat}(h:cI a c N T)(n:Int)(x:BS):cI (a.jM n x) c N T:=⟨h.qO,h.qR,h.F,h.rp,h.rc,h.rl,h.tb,fun m m0 m1 hm=>by rw[gU];exact h.tk m m0 m1 hm⟩
theorem za(a:KA)(n:Int)(x:BS):kz (a.jM n x)=kz a:=rfl
def KA.Hx.any{a:KA}(h:a.Hx (-1))(n:Int):a.Hx n:=fun p h0 h1 _ h3=>h p h0 h1 og h3
theorem KA.Hx.box{a:KA}(h:a.Hx n)(x:BS):(a.jM n x).Hx n:=fun p h0 h1 h2 h3=>by
 grind [y8,KA.Hx,KA.jM]
theorem KA.Wk.nV{a:KA}(w:a.Wk T)(h:(a.u n).st≠0):0<=n/\n<20:=by
 by_cases e:n<0\/20<=n
 ·rw[w.out n e]at h;exact absurd rfl h
 omega
structure KA.R0 (a:KA):Prop where
 st:(a.u 0).st=1
 loc:a.s.loc 0=0
 dE:a.s.dE 0 1=0
structure KA.Ok (a:KA) (T:Int):Prop where
 wk:a.Wk T
 hx:a.Hx (-1)
 r0:a.R0
 d0:a.aV 0=1
def Gw:∀ (l:List Int) (x:KA),(l.foldl KA.fL x).aV=x.aV
 | [],_=>rfl
 | _::r,x=>Gw r (x.fL _)
def DV(a:KA):∀ k,(a.fY k).aV=a.aV
 | 0=>rfl
 | k+1=>(Gw _ _).trans (DV a k)
def OP(h:Int):∀ (l:List Int) (x:KA),(l.foldl (KA.gR h) x).aV=x.aV
 | [],_=>rfl
 | y::r,x=>(OP h r (KA.gR h x y)).trans (by
  unfold KA.gR;split
  ·rfl
  ·show(if(x.u y).st=1 then x.c9 y 0 else x).aV=_
   split<;>rfl)
def Rp(a:KA)(n co:Int):(a.dt n co).aV=a.aV:=by
 have e1:(a.gZ n co).aV=a.aV:=by
  unfold KA.gZ;split
  ·exact(DV _ 4).trans (OP n _ _)
  rfl
 unfold KA.dt KA.jW;split
 ·exact e1
 ·exact e1
theorem KA.R0.end_{a:KA}(h:a.R0)(hn:n≠0)(co:Int):(a.c9 n co).R0:=⟨by rw[qc _ _ fun e=>hn e.symm];exact h.st,h.loc,h.dE⟩
def KA.R0.Au{a:KA}(h:a.R0)(hn:n≠0):(a.fj n).R0:=
 ⟨by rw[nL _ fun e=>hn e.symm];exact h.st,by show(a.s.gx n).2.loc 0=0;rw[uG _ fun e=>hn e.symm];exact h.loc,y9 (fun e=>hn e.symm) h.dE⟩
def KA.R0.M4{a:KA}(h:a.R0)(z:Int):(a.fL z).R0:=⟨h.st,by show(a.s.drop z).2.loc 0=0;rw[uF];exact h.loc,by show(a.s.drop z).2.dE 0 1=0;rw[Bs];exact h.dE⟩
def KA.R0.Vq(k:Int):∀ {l:List Int} {a:KA},a.R0->(0∉l)->(l.foldl (KA.gR k) a).R0
 | [],_,w,_=>w
 | x::r,a,w,hl=>KA.R0.Vq k (l:=r) (by
   have hx:x≠0:=by rintro rfl;exact hl (.head _)
   unfold KA.gR
   split
   ·exact w
   ·refine KA.R0.Au ?_ hx
    split
    ·exact w.end_ hx 0
    ·exact w) fun q=>hl (.tail _ q)
def KA.R0.uH:∀ {l:List Int} {a:KA},a.R0->(l.foldl KA.fL a).R0
 | [],_,w=>w
 | x::r,_,w=>KA.R0.uH (l:=r) (w.M4 x)
def KA.R0.fY{a:KA}(w:a.R0):∀ k,(a.fY k).R0
 | 0=>w
 | k+1=>KA.R0.uH (w.fY k)
theorem SS.Inv.gh{s:Sp.SS}(h:s.Inv aV)(hl:s.loc 0=0):s.aa 0=true:=by
 have:=h.at_ 0 og og og;simp_all
def SS.Inv.in0{s:Sp.SS}(h:s.Inv aV)(hl:s.loc 0=0)(hd:aV 0=1)(e:s.dE z q=0):z=0:=by
 have:=(h.mem z q 0 og e).2.2.2.2;rw[hl]at this;unfold Sp.SS.cX at this;rw[hd]at this;simpa [Sp.SS.jo]using this
def KN{a:KA}(w:a.Wk T)(r:a.R0)(hn:(a.u n).st≠0)(h:a.head n=n):a.s.dE (a.s.loc n) 1=n:=by
 have hr:=w.nV hn;have h1:=(w.lc n hr.1 hr.2).1 hn;by_cases e:n=0
 ·subst e;rw[r.loc];exact r.dE
 ·unfold KA.head at h;have e1:a.s.bS n=(a.s.loc n,0):=by unfold Sp.SS.bS;rw[if_neg og,if_neg og]
  rw[e1]at h;have h:(a.s.find (a.s.loc n) 1).1=n:=h;unfold Sp.SS.find at h;grind
def KA.Wk.DW{a:KA}(w:a.Wk T)(r0:a.R0)(hd:a.aV 0=1)(hn:n≠0)(hl:(a.u n).st=1)(hx:a.Hx n)(co:Int):(a.dt n co).Ok T:=by
 have hr:=w.nV (n:=n) og;have wE:=((hx.gZ co).dN n (a.head n)).jW (((a.gZ n co).dN n (a.head n)).u n).aA;refine⟨w.dt hr hl co,fun p h0 h1 _ h3=> ?_,?_,(congrFun (Rp _ _ _) 0).trans hd⟩
 ·grind [KA.dt,KA.jW,gU,dS,DU,KA.Hx]
 ·have r1:(a.gZ n co).R0:=by
   unfold KA.gZ;split
   ·rename_i hh;unfold KA.ed;refine KA.R0.fY (KA.R0.Vq n (r0.end_ hn co) fun q=> ?_) 4;obtain⟨j,_,_,e,_⟩:=DQ q;have hz:=SS.Inv.in0 w.sI r0.loc hd e;have hw:=KN w r0 (n:=n) og hh;have h1:=(w.lc n hr.1 hr.2).1 og;have e1:a.s.bS n=(a.s.loc n,0):=by unfold Sp.SS.bS;rw[if_neg og,if_neg og]
    rw[e1]at hz;have hz:a.s.loc n=0:=hz;rw[hz,r0.dE]at hw;omega
   grind [KA.R0.end_]
  unfold KA.dt;have r2:((a.gZ n co).dN n (a.head n)).R0:=⟨by rw[(dS _ _ _ _).1];exact r1.st,r1.loc,r1.dE⟩;refine⟨?_,by rw[(uI _ _).1];exact r2.loc,by rw[(uI _ _).1];exact r2.dE⟩;grind [KA.jW,gU,KA.R0.st]
theorem zb{a:KA}{o:Bool}(h:¬a.KK n o):a.cK n o=a:=if_neg h
theorem wu{a:KA}{o:Bool}(h:a.KK n o):a.cK n o=a.dt n (128+(a.u n).bx.first 0):=if_pos h
open Go.X.Tr
theorem KA.Hx.same{a a':KA}(h:a.Hx n)(hu:∀ p,(a'.u p).st=(a.u p).st/\(a'.u p).bx=(a.u p).bx)(hs:a'.s=a.s):a'.Hx n:=fun p h0 h1 h2 h3=>by
 grind [KA.Hx]
theorem KA.R0.same{a a':KA}(h:a.R0)(hu:(a'.u 0).st=(a.u 0).st)(hs:a'.s=a.s):a'.R0:=⟨by rw[hu];exact h.st,by rw[hs];exact h.loc,by rw[hs];exact h.dE⟩
theorem afA{a:KA}(w:a.Wk T)(r:a.R0):a.head 0=0:=by grind [KA.Wk.KJ,KA.R0.st,KA.R0.loc,KA.R0.dE]
def KA.Wk.Vt{a:KA}(w:a.Wk T)(r:a.R0)(hd:a.aV 0=1)(hl:(a.u n).st=1)(hx:a.Hx n)(o:Bool)(ho:o=true->n≠0):(a.cK n o).Ok T:=by
 by_cases he:a.KK n o
 ·rw[wu he];refine w.DW r hd (fun e=> ?_) hl hx _;subst e;rcases he.2 with q | q;all_goals grind [afA]
 ·rw[zb he];refine⟨w,fun p h0 h1 h2 h3=> ?_,r,hd⟩;by_cases e:p=n
  ·subst e;by_cases f:(a.u p).bx.first 0=0
   ·omega
   ·right;exact KN w r og (Decidable.byContradiction fun q=>he ⟨f,.inr q⟩)
  grind [KA.Hx]
theorem KA.R0.box{a:KA}(h:a.R0)(n:Int)(x:BS):(a.jM n x).R0:=h.same (gU _ _ _ _) rfl
def KA.Ok.M5{a:KA}(h:a.Ok T)(c:a.aB n=0)(hx:x.dX 0=false)(o:Bool)(ho:o=true->n≠0):((a.jM n x).cK n o).Ok T:=by
 obtain⟨hr,hl⟩:=bQ c;exact(h.wk.jM hr hx).Vt (h.r0.box _ _) h.d0 (by rw[gU];exact hl) ((h.hx.any n).box _) o ho
def KA.Ok.aib{a:KA}(h:a.Ok T)(c:a.aB n=0)(hx:x.dX 0=false)(hf:x.first 0=(a.u n).bx.first 0):(a.jM n x).Ok T:=by
 obtain⟨hr,hl⟩:=bQ c;refine⟨h.wk.jM hr hx,fun p h0 h1 h2 h3=> ?_,h.r0.box _ _,h.d0⟩;rw[gU]at h3;by_cases e:p=n
 ·subst e;rw[H4];show x.first 0=0\/_
  rw[hf];exact h.hx p h0 h1 og h3
 ·rw[y8 _ _ e];exact h.hx p h0 h1 og h3
theorem KA.Ok.send{a:KA}(h:a.Ok T)(n sig:Int)(o:Bool)(ho:o=true->n≠0):(a.wq n sig o).Ok T:=by
 unfold KA.wq;split
 ·rename_i c;exact h.M5 c (pC _ _ (h.wk.bx n)) o ho
 omega
def sH(x:BS)(n:Int)(on:Bool)(h:x.dX 0=false):(x.ea n on).2.dX 0=false:=by
 unfold BS.ea;split;all_goals grind
def Av(x:BS)(n v:Int)(h:x.dX 0=false):(x.set n v).2.dX 0=false:=by
 unfold BS.set;split
 ·rename_i c;have:=(gK n).1 c.1;split
  ·omega
  ·show(if _ then _ else _:BS).dX 0=false;split;all_goals grind [ae]
 omega
def M6(x:BS)(h:x.dX 0=false):x.take.2.dX 0=false:=by
 show ad x.dX (x.first 2) false 0=false;grind [aj,ae]
theorem Rq(h:x.first v≠0):x.kf (x.first v)=v:=by
 unfold BS.first at h ⊢
 grind [dW]
def M7(x:BS)(h:x.dX 0=false):x.take.2.first 0=x.first 0:=by
 refine Br fun k k0 k1=> ?_;show(ad x.dX (x.first 2) false k&&(!x.bj k&&decide (x.kf k=0)))=_;grind [aj,Rq,ae]
def KA.Ga(a:KA)(n q:Int):Int×Int:=
 if a.aB n≠0 then(0,a.aB n)else if(a.s.find (a.s.bS n).1 q).2≠0 then(0,(a.s.find (a.s.bS n).1 q).2)else
 if(a.u (a.s.find (a.s.bS n).1 q).1).st=1 then((a.s.find (a.s.bS n).1 q).1,0)else(0,8)
def KA.uJ(a:KA)(n c:Int):Int:=if a.aB n≠0 then a.aB n else if c<0\/255<c then 1 else if n=0 then 8 else 0
def KA.mI(a:KA)(n co:Int):KA:=if a.uJ n co=0 then a.dt n co else a
def DX{a:KA}{c:Int}(h:a.uJ n c=0):a.aB n=0/\n≠0:=by
 grind [KA.uJ]
theorem KA.Ok.mI{a:KA}{T:Int}(h:a.Ok T)(n co:Int):(a.mI n co).Ok T:=by
 unfold KA.mI;split
 ·rename_i c;obtain⟨h1,h2⟩:=DX c;exact h.wk.DW h.r0 h.d0 h2 (bQ h1).2 (h.hx.any n) co
 omega
def KA.wv(a:KA)(n sig:Int)(on:Bool):Int:=if a.aB n≠0 then a.aB n else((a.u n).bx.ea sig on).1
def KA.mJ(a:KA)(n sig:Int)(on:Bool):KA:=if a.aB n≠0 then a else if((a.u n).bx.ea sig on).1=0 then(a.jM n ((a.u n).bx.ea sig on).2).cK n false else a
theorem KA.Ok.ea{a:KA}(h:a.Ok T)(n sig:Int)(on:Bool):(a.mJ n sig on).Ok T:=by
 unfold KA.mJ;split
 ·omega
 ·rename_i c;split
  ·exact h.M5 og (sH _ _ _ (h.wk.bx n)) false sq
  omega
def KA.Vu(a:KA)(n sig v:Int):Int:=if a.aB n≠0 then a.aB n else((a.u n).bx.set sig v).1
def KA.DY(a:KA)(n sig v:Int):KA:=if a.aB n≠0 then a else if((a.u n).bx.set sig v).1=0 then(a.jM n ((a.u n).bx.set sig v).2).cK n false else a
def KA.Ok.kf{a:KA}(h:a.Ok T)(n sig v:Int):(a.DY n sig v).Ok T:=by
 unfold KA.DY;split
 ·omega
 ·rename_i c;split
  ·exact h.M5 og (Av _ _ _ (h.wk.bx n)) false sq
  omega
theorem KQ{on:Bool}(h:(x.ea n on).1≠0):(x.ea n on).2=x:=by
 unfold BS.ea at h ⊢;grind
theorem Y3(h:(x.set n v).1≠0):(x.set n v).2=x:=by
 unfold BS.set at h ⊢;grind
def KA.DZ(a:KA)(n:Int):Int:=if a.aB n≠0 then a.aB n else if(a.u n).bx.take.1=0 then 2 else 0
def KA.D0(a:KA)(n:Int):Int:=if a.aB n≠0 then 0 else(a.u n).bx.take.1
def KA.ru(a:KA)(n:Int):KA:=if a.aB n≠0 then a else a.jM n (a.u n).bx.take.2
theorem KA.Ok.take{a:KA}(h:a.Ok T)(n:Int):(a.ru n).Ok T:=by
 unfold KA.ru;split
 ·exact h
 ·exact h.aib og (M6 _ (h.wk.bx n)) (M7 _ (h.wk.bx n))
def KA.oE(a:KA)(n jB sig:Int):Int:=if(a.Ga n jB).2≠0 then(a.Ga n jB).2 else if sig<1\/8<sig then 1 else if jB=1 then 8 else 0
def KA.kI(a:KA)(n jB sig:Int):KA:=if a.oE n jB sig=0 then a.wq (a.Ga n jB).1 sig (decide ((a.s.bS (a.Ga n jB).1).1≠(a.s.bS n).1))else a
def Vv{a:KA}(h:(a.Ga n q).2=0):a.aB n=0/\(a.s.find (a.s.bS n).1 q).2=0/\(a.Ga n q).1=(a.s.find (a.s.bS n).1 q).1/\(a.u (a.Ga n q).1).st=1:=by
 grind [KA.Ga]
def KA.Ok.sJ{a:KA}(h:a.Ok T)(n jB sig:Int):(a.kI n jB sig).Ok T:=by
 unfold KA.kI;split
 ·rename_i c;refine h.send _ _ _ fun _ e=> ?_;unfold KA.oE at c;split at c
  ·omega
  ·rename_i c1;split at c
   ·omega
   ·split at c
    ·omega
    ·rename_i c2;obtain⟨s1,s2,s3,_⟩:=Vv (show(a.Ga n jB).2=0 by omega);obtain⟨_,f2,_⟩:=Bl h.wk.sI s2;rw[<-s3,e]at f2;have hz:=SS.Inv.in0 h.wk.sI h.r0.loc h.d0 f2;rw[hz]at f2;exact c2 (h.wk.sI.inj 0 1 jB (by rw[h.r0.dE];omega) (by rw[f2,h.r0.dE]))
 omega
def KA.Wk.io{a:KA}(h:a.Wk T)(hT:T<=T')(Rl:T'<=1000000){O:Tr.OS}{P:Tr.PS}(s8:∀ p,(u p).st=(a.u p).st)(hbx:∀ p,(u p).bx=(a.u p).bx)(I2:∀ p,(p<0\/20<=p)->u p=PA.nil)(Y4:∀ p i,0<=(u p).fd i/\(u p).fd i<=24)(hO:O.Inv T')(hP:P.Inv T'):({a with u:=u,O:=O,P:=P} :KA).Wk T' where
 T0:=⟨by have:=h.T0;omega,Rl⟩
 gI:=h.gI
 gS:=h.gS.mono og
 sI:=h.sI
 sys:=h.sys
 sE:=fun m a0 a1 q=>h.sE m a0 a1 (by rw[<-s8];exact q)
 PI:=hP
 OI:=hO
 lc:=fun m a0 a1=>by rw[show(({a with u:=u,O:=O,P:=P} :KA).u m).st=(a.u m).st from s8 m];exact h.lc m a0 a1
 st:=fun m=>by rw[show(({a with u:=u,O:=O,P:=P} :KA).u m).st=(a.u m).st from s8 m];exact h.st m
 out:=I2
 fd:=Y4
 bx:=fun m=>by rw[show(({a with u:=u,O:=O,P:=P} :KA).u m).bx=(a.u m).bx from hbx m];exact h.bx m
def KA.Ok.io{a:KA}{T T':Int}(h:a.Ok T)(hT:T<=T')(Rl:T'<=1000000){u:Int->PA}{O:Tr.OS}{P:Tr.PS}(s8:∀ p,(u p).st=(a.u p).st)(hbx:∀ p,(u p).bx=(a.u p).bx)(I2:∀ p,(p<0\/20<=p)->u p=PA.nil)(Y4:∀ p i,0<=(u p).fd i/\(u p).fd i<=24)(hO:O.Inv T')(hP:P.Inv T'):({a with u:=u,O:=O,P:=P} :KA).Ok T':=
 ⟨h.wk.io hT Rl s8 hbx I2 Y4 hO hP,h.hx.same (fun p=>⟨s8 p,hbx p⟩) rfl,h.r0.same (s8 0) rfl,h.d0⟩
theorem KA.Ok.up{a:KA}{T T':Int}(h:a.Ok T)(hT:T<=T')(Rl:T'<=1000000):a.Ok T':=⟨h.wk.up hT Rl,h.hx,h.r0,h.d0⟩
theorem KA.Ok.io0{a:KA}(h:a.Ok T)(hT:T<=T')(Rl:T'<=1000000){O:Tr.OS}{P:Tr.PS}(hO:O.Inv T')(hP:P.Inv T'):({a with O:=O,P:=P} :KA).Ok T':=
 h.io hT Rl (fun _=>rfl) (fun _=>rfl) h.wk.out h.wk.fd hO hP
def Bt(u:Int->PA)(n i v:Int):Int->PA:=ad u n {u n with fd:=ad (u n).fd i v}
theorem kv(u:Int->PA)(n i v p:Int):(Bt u n i v p).st=(u p).st/\(Bt u n i v p).bx=(u p).bx:=by
 unfold Bt;grind [aj,ae]
def zc(hn:0<=n/\n<20)(i v:Int)(h:∀ p,(p<0\/20<=p)->u p=PA.nil):∀ p,(p<0\/20<=p)->Bt u n i v p=PA.nil:=fun p hp=>by
 unfold Bt;rw[ae _ _ og];exact h p hp
def D1(hv:0<=v/\v<=24)(h:∀ p j,0<=(u p).fd j/\(u p).fd j<=24):∀ p j,0<=(Bt u n i v p).fd j/\(Bt u n i v p).fd j<=24:=fun p j=>by
 unfold Bt;by_cases e:p=n
 ·subst e;rw[aj];grind [aj,ae]
 grind [ae]
theorem D2(a:KA)(b:KZ)(c:KC)(n i v:Int)(O:Tr.OS)(P:Tr.PS):(kp a b c).put n {(kp a b c).u n with fd:=ad ((kp a b c).u n).fd i v} =kp {a with u:=Bt a.u n i v,O:=O,P:=P} b c:=(HX a b c n {a.u n with fd:=ad (a.u n).fd i v} _ rfl).trans rfl
theorem H5(a:KA)(n i v:Int)(O:Tr.OS)(P:Tr.PS):iR {a with u:=Bt a.u n i v,O:=O,P:=P} =iR a:=by grind [kv,iR]
def KA.eY(a:KA)(n i:Int):Int:=if a.aB n≠0 then a.aB n else if i<0\/6<=i then 1 else if(a.u n).fd i=0 then 2 else 0
def KA.dD(a:KA)(n i:Int):Int:=if a.eY n i=0 then(a.u n).fd i-1 else 0
theorem KA.sF{a:KA}(h:a.eY n i=0):(0<=n/\n<20)/\(a.u n).st=1/\(0<=i/\i<6)/\(a.u n).fd i≠0/\a.dD n i=(a.u n).fd i-1:=by
 have hv:a.dD n i=(a.u n).fd i-1:=by unfold KA.dD;rw[if_pos h]
 unfold KA.eY at h;split at h
 ·omega
 ·split at h
  ·omega
  ·split at h
   ·omega
   ·have:=bQ (a:=a) (n:=n) og;omega
def KA.ks(a:KA)(F:Tr.FF)(n i:Int):Int:=if a.eY n i≠0 then a.eY n i else Tr.ks F a.P a.O (a.dD n i)
def KA.qx(a:KA)(n i:Int):KA:=if a.eY n i≠0 then a else {a with u:=Bt a.u n i 0,O:=kS a.O (a.dD n i),P:=kR a.P a.O (a.dD n i)}
def KA.Ok.close{a:KA}(h:a.Ok T)(n i:Int):(a.qx n i).Ok T:=by
 unfold KA.qx;split
 ·exact h
 ·rename_i c;obtain⟨hn,_,_,_,_⟩:=KA.sF (show a.eY n i=0 by omega);exact h.io (Int.le_refl _) h.wk.T0.2 (fun p=>(kv _ _ _ _ p).1) (fun p=>(kv _ _ _ _ p).2) (zc hn _ _ h.wk.out) (D1 og h.wk.fd) (OS.Inv.uD h.wk.OI _) (PS.uD h.wk.PI _ _)
def KA.na(a:KA)(n:Int):Int:=jS (a.u n).fd 0
def vy(f:Int->Int)(x:Int)(h:¬jS f x<0:=by omega):0<=jS f x/\jS f x<6/\x<=jS f x/\f (jS f x)=0:=by
 grind [jS,dW]
def KA.KR(a:KA)(n i:Int):Int:=if a.eY n i≠0 then a.eY n i else if a.na n<0 then 4 else a.O.is (a.dD n i)
def KA.KS(a:KA)(n i:Int):Int:=if a.eY n i≠0\/a.na n<0 then 0 else a.na n
def KA.Aw(a:KA)(n i:Int):KA:=if a.eY n i≠0\/a.na n<0 then a else {a with u:=Bt a.u n (a.na n) (a.dD n i+1),O:=qt a.O (a.dD n i),P:=a.P}
def KA.Ok.dup{a:KA}(h:a.Ok T)(hT:T<=900000)(n i:Int):(a.Aw n i).Ok (T+1):=by
 unfold KA.Aw;split
 ·grind [KA.Ok.up]
 ·rename_i c;obtain⟨hn,_,_,h4,h5⟩:=KA.sF (show a.eY n i=0 by omega);have:=h.wk.fd n i;exact h.io og og (fun p=>(kv _ _ _ _ p).1) (fun p=>(kv _ _ _ _ p).2) (zc hn _ _ h.wk.out) (D1 og h.wk.fd) (h.wk.OI.aaM _) (h.wk.PI.mono og)
def KA.D3(a:KA)(n:Int):Int:=jS (a.u n).fd (a.na n+1)
def KA.uK(a:KA)(n:Int):Int:=if a.aB n≠0 then a.aB n else if a.na n<0\/a.D3 n<0 then 4 else kT a.P a.O
def KA.zd(a:KA)(n:Int):Int:=if a.uK n=0 then a.na n else 0
def KA.ze(a:KA)(n:Int):Int:=if a.uK n=0 then a.D3 n else 0
def KA.qd(a:KA)(n:Int):KA:=if a.aB n≠0\/a.na n<0\/a.D3 n<0 then a else
 if kT a.P a.O=0 then {a with u:=Bt (Bt a.u n (a.na n) (oe a.P a.O+1)) n (a.D3 n) (py a.P a.O+1),O:=od a.P a.O,P:=oc a.P a.O} else {a with O:=od a.P a.O,P:=oc a.P a.O}
def Gx(P:Tr.PS)(O:Tr.OS):(0<=oe P O/\oe P O<24)/\0<=py P O/\py P O<24:=by
 unfold oe py;by_cases h:kT P O=0
 ·rw[if_pos h,if_pos h];unfold kT at h;split at h
  ·omega
  ·rename_i c;have h1:=Tr.OS.nI (s:=O) fun q=>c (.inl q);have h2:=Tr.OS.nI (s:=O.lay O.first 2 0 false) fun q=>c (.inr q);exact⟨⟨h1.1,h1.2.1⟩,h2.1,h2.2.1⟩
 omega
def KA.Ok.Kx{a:KA}{T:Int}(h:a.Ok T)(hT:T<=900000)(Vw:1<=T)(n:Int):(a.qd n).Ok (T+1):=by
 have h2:=Gx a.P a.O;have hO:=h.wk.OI.Kx Vw a.P;have hP:=MV h.wk.PI og a.O;unfold KA.qd;split
 ·grind [KA.Ok.up]
 ·rename_i c;have hn:=(bQ (show a.aB n=0 by omega)).1;split
  ·exact h.io og og (fun p=>((kv _ _ _ _ p).1).trans (kv _ _ _ _ p).1) (fun p=>((kv _ _ _ _ p).2).trans (kv _ _ _ _ p).2) (zc hn _ _ (zc hn _ _ h.wk.out)) (D1 og (D1 og h.wk.fd)) hO hP
  grind [KA.Ok.io0]
def KA.mj(a:KA)(F:Tr.FF)(n i m:Int):Int:=if a.eY n i≠0 then a.eY n i else uy F a.P a.O (a.dD n i) m
def KA.kM(a:KA)(F:Tr.FF)(n i m:Int):ByteArray:=if a.eY n i≠0 then⟨#[]⟩else uz F a.P a.O (a.dD n i) m
def KA.wx(a:KA)(F:Tr.FF)(n i m:Int):KA:=if a.eY n i≠0 then a else {a with O:=qv F a.O (a.dD n i) m,P:=qu a.P a.O (a.dD n i) m}
theorem KA.Ok.mV{a:KA}{T:Int}(h:a.Ok T)(hT:T<=900000){F:Tr.FF}(hF:F.Sh)(n i m:Int):(a.wx F n i m).Ok (T+1):=by
 unfold KA.wx;split
 ·grind [KA.Ok.up]
 ·exact h.io0 og og (h.wk.OI.mV hF _ _) (MW h.wk.PI _ _ _)
def KA.uL(a:KA)(F:Tr.FF)(n i:Int)(x:ByteArray):KA:= {a with O:=jw F a.O (a.dD n i) x,P:=mn a.P a.O (a.dD n i) x}
def KA.fg(a:KA)(F:Tr.FF)(n i:Int)(x:ByteArray):Int:=if a.eY n i≠0 then a.eY n i else iT F a.P a.O (a.dD n i) x
def KA.Ax(a:KA)(F:Tr.FF)(n i:Int)(x:ByteArray):Int:=if a.eY n i≠0 then 0 else jv F a.P a.O (a.dD n i) x
def KA.pD(a:KA)(F:Tr.FF)(n i:Int)(x:ByteArray):KA:=if a.eY n i≠0 then a else if iT F a.P a.O (a.dD n i) x=12 then(a.uL F n i x).wq n 2 false else a.uL F n i x
theorem KA.Ok.Gy{a:KA}(h:a.Ok T)(hT:T<=900000)(F:Tr.FF)(n i:Int)(x:ByteArray):(a.uL F n i x).Ok (T+1):=
 h.io0 og og (h.wk.OI.acu F _ _) (Kz h.wk.PI _ _ _)
theorem KA.Ok.cm{a:KA}(h:a.Ok T)(hT:T<=900000)(F:Tr.FF)(n i:Int)(x:ByteArray):(a.pD F n i x).Ok (T+1):=by
 unfold KA.pD;split
 ·grind [KA.Ok.up]
 ·split
  ·exact(h.Gy hT F n i x).send n 2 false sq
  grind [KA.Ok.Gy]
def KA.nJ(a:KA)(n i z:Int):Int:=if a.eY n i≠0 then a.eY n i else Tr.nJ a.O (a.dD n i) z
def KA.uM(a:KA)(n i z:Int):KA:=if a.eY n i≠0 then a else {a with O:=wj a.O (a.dD n i) z,P:=a.P}
def KA.Ok.Ky{a:KA}{T:Int}(h:a.Ok T)(hT:T<=900000)(n i z:Int):(a.uM n i z).Ok (T+1):=by
 unfold KA.uM;split
 ·grind [KA.Ok.up]
 ·exact h.io0 og og (h.wk.OI.Ky _ _) (h.wk.PI.mono og)
open Go.X.Fa Go.X.Sp Go.X.Vm
theorem M8{v:VB}{f:Nat->Vm.MS}{k z c:Nat}(h:Vm.Sys v f k)(hz:z<k)(hc:c<k)(gY:c≠z)(hn:f c=Vm.MS.nil)(hk:k<=60):Vm.Sys (v.jl (f z)) (bu (bu f z (f z).bare) c (f z).bare) k:=by
 have hm:=h.mo z hz;have hb:(f z).bare.Ok:=⟨hm.f,hm.lo,hm.un,fun _ _=>rfl,hm.inj⟩;have e0:∀ g:Int,0<=g->cM (fun _:Int=>(0:Int)) g 16=0:=fun g hg=>by
  have ig:∀ j,cM (fun _:Int=>(0:Int)) g j=0:=fun j=>by
   induction j with
   | zero=>rfl
   | succ j ih=>rw[cM,ih,if_neg og];rfl
  simp_all
 refine⟨(h.jJ.jl hm fun g a b=>⟨Al f g hz,by have:=ME f g k;show w8 f g k<=1000;omega⟩).congr fun g a b=> ?_,fun j hj=> ?_⟩
 ·have e1:(bu f z (f z).bare) c=Vm.MS.nil:=by rw[iA _ _ gY];exact hn
  rw[show bu (bu f z (f z).bare) c (f z).bare=Vm.bu (Vm.bu f z (f z).bare) c (f z).bare from rfl];rw[sB _ g hc,sB f g hz,show Vm.bu f z (f z).bare c=Vm.MS.nil from e1];show _=w8 f g k-cM (f z).fr g 16+cM (f z).fr g 16-cM (fun _:Int=>(0:Int)) g 16+cM (f z).fr g 16;simp_all
 ·show(bu (bu f z (f z).bare) c (f z).bare j).Ok;by_cases e:j=c
  ·grind [bu]
  ·rw[iA _ _ e];by_cases e2:j=z
   ·grind [bu]
   ·rw[iA _ _ e2];exact h.mo j hj
def KA.free(a:KA):Int:=match dW (fun k=>decide ((a.u k).st=0)) 20 with
 | some k=>k
 | none=>20
def KA.p9{a:KA}{c:Int}(h0:0<=c/\c<20)(h1:(a.u c).st=0)(h2:∀ j:Int,0<=j->j<c->(a.u j).st≠0):a.free=c:=by
 unfold KA.free;rw[fx (k:=c) (m:=20) h0.1 og (decide_eq_true h1) fun j j0 j1=>decide_eq_false (h2 j j0 j1)];grind
theorem KA.Cb{a:KA}(h:∀ j:Int,0<=j->j<20->(a.u j).st≠0):a.free=20:=by
 grind [KA.free,fy]
def KA.free_spec(a:KA):a.free=20\/((0<=a.free/\a.free<20)/\(a.u a.free).st=0):=by
 grind [KA.free,dW]
def LC(f:Int->Int)(O:Tr.OS):Nat->Tr.OS
 | 0=>O
 | k+1=>if f (k:Int)>0 then qt (LC f O k) (f (k:Int)-1)else LC f O k
theorem OQ{f:Int->Int}(O:Tr.OS)(hi:0<=i)(h:f i>0):LC f O (i+1).toNat=qt (LC f O i.toNat) (f i-1):=by
 rw[show(i+1).toNat=i.toNat+1 by omega];grind [LC]
theorem KT{f:Int->Int}(O:Tr.OS)(hi:0<=i)(h:¬f i>0):LC f O (i+1).toNat=LC f O i.toNat:=by
 rw[show(i+1).toNat=i.toNat+1 by omega];grind [LC]
def Cf{f:Int->Int}{O:Tr.OS}{T:Int}(h:O.Inv T):∀ k:Nat,(LC f O k).Inv (T+k)
 | 0=>by have:=h;simpa [LC]using this
 | k+1=>by
  have h1:=Cf (f:=f) h k;unfold LC;split
  ·have:=h1.aaM (f (k:Int)-1);grind
  ·exact h1.mono og
def KA.sz(a:KA)(n:Int):Int:=(a.s.bS n).1
def KA.eZ(a:KA)(n:Int):Int:=(a.f n.toNat).eZ
def KA.gC(a:KA)(n:Int):Gr.TG:=a.g.aP (a.u n).cB 1 (a.eZ n)
def KA.gE(a:KA)(n:Int):Int:=a.g.cZ (a.u n).cB 1 (a.eZ n)
def KA.inE(a:KA)(n:Int)(bH:Bool):Int:=if bH then(a.s.add a.aV (a.sz n)).2.1 else 0
def KA.KU(a:KA)(n:Int)(bH:Bool):Int:=if bH then(a.s.add a.aV (a.sz n)).1 else a.sz n
def KA.sA(a:KA)(n:Int)(bH:Bool):Sp.SS:=if bH then(a.s.add a.aV (a.sz n)).2.2 else a.s
def KA.dA(a:KA)(n:Int)(bH:Bool):Int->Nat:=if bH then a.s.Ub a.aV (a.sz n)else a.aV
def KA.M9(a:KA)(n:Int):PA:=⟨1,n,(a.u n).cB,0,(a.u n).fd,(a.u n).bx.bA⟩
def KA.dU(a:KA)(n:Int)(bH:Bool):KA:=
 {u:=ad a.u a.free (a.M9 n),g:=a.gC n,s:=((a.sA n bH).enter (a.dA n bH) (a.KU n bH) a.free).2.2,aV:=a.dA n bH,v:=a.v.jl (a.f n.toNat),f:=bu (bu a.f n.toNat (a.f n.toNat).bare) a.free.toNat (a.f n.toNat).bare,P:=a.P,O:=LC (a.u n).fd a.O 6}
def KA.lP(a:KA)(n:Int)(bH:Bool):Int:=if a.aB n≠0 then a.aB n else if a.free=20 then 4 else if a.gE n≠0 then a.gE n else a.inE n bH
def KA.hQ(a:KA)(n:Int)(bH:Bool):KA:=if a.aB n≠0\/a.free=20\/a.gE n≠0 then a else
 if a.inE n bH≠0 then {a with g:=(a.gC n).cR (a.u n).cB 1 (a.eZ n)} else a.dU n bH
def KA.mr(a:KA)(n:Int)(bH:Bool):Int:=if a.lP n bH=0 then((a.dU n bH).s.jB a.free (a.sz n)).1 else 0
theorem xr{g:Gr.TG}{m:Int}(h:g.cZ n p m≠0):g.aP n p m=g:=if_neg h
def KV(x:BS):x.bA.first 0=0:=by
 rfl
def SS.Inv.is0{s:Sp.SS}(h:s.Inv aV)(hp:0<=p/\p<20)(hl:0<=s.loc p):s.bS p=(s.loc p,0)/\s.is (s.loc p)=0/\(0<=s.loc p/\s.loc p<6)/\s.aa (s.loc p)=true:=by
 have h1:=h.loc p;have h2:=h.at_ p hp.1 hp.2 hl;refine⟨by unfold Sp.SS.bS;rw[if_neg og,if_neg og],?_,og,h2⟩;unfold Sp.SS.is;rw[if_neg og,if_pos h2]
theorem SS.Inv.PL{s:Sp.SS}(h:s.Inv aV)(hn:0<=n/\n<6/\s.aa n=true)(hp:0<=p/\p<20)(hl:¬ 0<=s.loc p)(hw:0<=s.dE z q):(s.fu aV n p).dE z q=s.dE z q:=by
 obtain⟨e1,e2⟩:=zV p (s.cX aV n) s.dE (Sp.SS.zU h.D _ n rfl hn.1 hn.2.1 hn.2.2) fun a _=>h.free hp hl a;show kO s.dE p (s.cX aV n) z q=_;grind
structure KA.Gz (a:KA) (n:Int) (bH:Bool):Prop where
 nV:(0<=a.free/\a.free<20)/\(a.u a.free).st=0
 loc:¬ 0<=(a.sA n bH).loc a.free
 eG:(a.sA n bH).Inv (a.dA n bH)
 zr:0<=a.KU n bH/\a.KU n bH<6/\(a.sA n bH).aa (a.KU n bH)=true
 is:(a.sA n bH).is (a.KU n bH)=0
 lo:(a.sA n bH).loc=a.s.loc
 dE:(a.sA n bH).dE=a.s.dE
 d0:a.dA n bH 0=a.aV 0
 en:(a.dU n bH).s=(a.sA n bH).fu (a.dA n bH) (a.KU n bH) a.free
 z:0<=a.sz n/\a.sz n<6/\a.s.aa (a.sz n)=true
 cX:a.sz n∈(a.sA n bH).cX (a.dA n bH) (a.KU n bH)
 hr:∀ y,a.s.aa y=true->(a.sA n bH).aa y=true
def KA.Wk.fkI{a:KA}(w:a.Wk T)(hh:a.s.aa 0=true)(hl:a.aB n=0)(hf:a.free≠20)(hE:a.inE n bH=0):a.Gz n bH:=by
 obtain⟨hn,hs⟩:=bQ hl;have D4:=a.free_spec.resolve_left hf;have h1:=(w.lc n hn.1 hn.2).1 og;obtain⟨i1,i2,i3,i4⟩:=SS.Inv.is0 w.sI hn h1;have ez:a.sz n=a.s.loc n:=by unfold KA.sz;rw[i1]
 have JP:¬ 0<=a.s.loc a.free:=fun q=>((w.lc _ D4.1.1 D4.1.2).2 q) D4.2;cases bH with
 | false=>
  have e1:a.sA n false=a.s:=rfl;have e2:a.dA n false=a.aV:=rfl;have e3:a.KU n false=a.s.loc n:=ez;refine⟨D4,JP,w.sI,by rw[e3];exact⟨i3.1,i3.2,i4⟩,by rw[e3];exact i2,rfl,rfl,rfl,?_,by rw[ez];exact⟨i3.1,i3.2,i4⟩,?_,fun y q=>q⟩
  ·show(a.s.enter a.aV (a.KU n false) a.free).2.2=_;rw[e3,Sp.SS.yb i2 og JP];rfl
  ·rw[ez,e3];show _∈a.s.cX a.aV (a.s.loc n);unfold Sp.SS.cX;obtain⟨d1,_,_⟩:=w.sI.D.d _ i3.1 i3.2 i4;obtain⟨k,hk⟩:∃ k,a.aV (a.s.loc n)=k+1:=⟨a.aV (a.s.loc n)-1,og⟩;rw[hk];exact .head _
 | true=>
  have hE:(a.s.add a.aV (a.sz n)).2.1=0:=hE;rcases a.s.qY a.aV (a.sz n)with⟨q,_,_⟩ | ⟨k,q1,q2,q3,q4,q5⟩
  ·omega
  ·have e1:a.sA n true= {a.s with aa:=ad a.s.aa k true,aA:=ad a.s.aA k (a.sz n)} :=by show(a.s.add a.aV (a.sz n)).2.2=_;rw[q5]
   have e2:a.dA n true=ad a.aV k (a.aV (a.sz n)+1):=by show a.s.Ub a.aV (a.sz n)=_;unfold Sp.SS.Ub;rw[if_pos hE,q5]
   have e3:a.KU n true=k:=by show(a.s.add a.aV (a.sz n)).1=k;rw[q5]
   have hkh:(a.sA n true).aa k=true:=by rw[e1];exact aj _ _ _
   have wz:(a.sA n true).is k=0:=by unfold Sp.SS.is;rw[if_neg og,if_pos hkh]
   have afB:¬ 0<=(a.sA n true).loc a.free:=by rw[e1];exact JP
   have hk0:(0:Int)≠k:=by rintro rfl;rw[hh]at q4;cases q4
   have hkz:a.sz n≠k:=by rintro e;rw[ez]at e;rw[e,q4]at i4;cases i4
   refine⟨D4,afB,w.sI.add _,by rw[e3];exact⟨q3.1,q3.2,hkh⟩,by rw[e3];exact wz,by rw[e1],by rw[e1],by rw[e2,ae _ _ hk0],?_,by rw[ez];exact⟨i3.1,i3.2,i4⟩,?_,fun y q=> ?_⟩
   ·show((a.sA n true).enter (a.dA n true) (a.KU n true) a.free).2.2=_;rw[e3,Sp.SS.yb wz og afB]
   ·rw[e3,e2,e1];unfold Sp.SS.cX;rw[aj];refine .tail _ ?_;show a.sz n∈Sp.SS.jo _ (a.aV (a.sz n)) (ad a.s.aA k (a.sz n) k);rw[aj];obtain⟨d1,_,_⟩:=w.sI.D.d _ i3.1 i3.2 i4;obtain⟨j,hj⟩:∃ j,a.aV (a.sz n)=j+1:=⟨a.aV (a.sz n)-1,by rw[ez];omega⟩;rw[hj];exact .head _
   simp_all[ad]
theorem KA.Gz.Y5{a:KA}(h:a.Gz n bH):(a.dU n bH).s.loc=ad a.s.loc a.free (a.KU n bH):=by
 rw[h.en];show ad (a.sA n bH).loc a.free (a.KU n bH)=_;rw[h.lo]
theorem KA.Gz.D5{a:KA}(h:a.Gz n bH):(a.dU n bH).s.aa=(a.sA n bH).aa:=by rw[h.en];rfl
theorem KA.Gz.fE{a:KA}(h:a.Gz n bH)(hw:0<=a.s.dE z q):(a.dU n bH).s.dE z q=a.s.dE z q:=by
 rw[h.en,SS.Inv.PL h.eG h.zr h.nV.1 h.loc (by rw[h.dE];exact hw),h.dE]
theorem KA.Gz.sI{a:KA}(h:a.Gz n bH):(a.dU n bH).s.Inv (a.dA n bH):=by rw[h.en];exact h.eG.fu h.zr h.nV.1 h.loc
theorem KA.Gz.jB{a:KA}{n:Int}{bH:Bool}(h:a.Gz n bH):((a.dU n bH).s.jB a.free (a.sz n)).2=0/\(a.dU n bH).s.dE (a.sz n) ((a.dU n bH).s.jB a.free (a.sz n)).1=a.free/\1<=((a.dU n bH).s.jB a.free (a.sz n)).1/\((a.dU n bH).s.jB a.free (a.sz n)).1<=20:=by
 have hI:=h.sI;have hl:(a.dU n bH).s.loc a.free=a.KU n bH:=by rw[h.Y5,aj]
 have kY:(a.dU n bH).s.cX (a.dA n bH) (a.KU n bH)=(a.sA n bH).cX (a.dA n bH) (a.KU n bH):=by
  rw[h.en];exact Sp.SS.pf (s:=a.sA n bH) (s':=(a.sA n bH).fu (a.dA n bH) (a.KU n bH) a.free) rfl _ _
 obtain⟨q,hq⟩:=hI.has a.free h.nV.1.1 h.nV.1.2 (by rw[hl];exact h.zr.1) (a.sz n) (by rw[hl,kY];exact h.cX);have hzh:(a.dU n bH).s.aa (a.sz n)=true:=by rw[h.D5];exact h.hr _ h.z.2.2
 have wz:(a.dU n bH).s.is (a.sz n)=0:=by unfold Sp.SS.is;rw[if_neg (by have:=h.z;omega),if_pos hzh]
 obtain⟨_,q2,q3,_⟩:=hI.mem _ q a.free h.nV.1.1 hq;have e:(a.dU n bH).s.jB a.free (a.sz n)=(q,0):=Sp.SS.JE wz (by have:=h.nV;omega) og hq (fun j j0 j1 e=>by
  have:=hI.inj (a.sz n) q j (by rw[hq];exact h.nV.1.1) (e.trans hq.symm)
  omega)
 grind
theorem KA.Ok.dU{a:KA}{T:Int}(h:a.Ok T)(hT:T<=900000){n:Int}{bH:Bool}(hl:a.aB n=0)(hf:a.free≠20)(hE:a.inE n bH=0):(a.dU n bH).Ok (T+10):=by
 have w:=h.wk;have hI:=w.fkI (SS.Inv.gh w.sI h.r0.loc) hl hf hE;have MF:=hI.nV.1;obtain⟨hn,hs⟩:=bQ hl;have gY:n≠a.free:=by rintro e;have:=hI.nV.2;rw[<-e,hs]at this;exact absurd this dq
 have hu:∀ m,m≠a.free->(a.dU n bH).u m=a.u m:=fun m hm=>ae _ _ hm;have Xb:(a.dU n bH).u a.free=a.M9 n:=aj _ _ _;have XP:a.f a.free.toNat=Vm.MS.nil:=w.sE _ hI.nV.1.1 hI.nV.1.2 (by rw[hI.nV.2];decide);refine⟨⟨⟨by have:=w.T0;omega,og⟩,w.gI.aP _ _ _,(w.gS.aP w.gI.ok _ _ _).mono og,hI.sI,?_,fun m a0 a1 q=> ?_,w.PI.mono og,(Cf w.OI 6).mono og,fun m a0 a1=> ?_,fun m=> ?_,fun m hm=> ?_,fun m i=> ?_,fun m=> ?_⟩,fun p h0 h1 _ h3=> ?_,⟨?_,?_,?_⟩,hI.d0.trans h.d0⟩
 ·grind [M8,KA.Wk.sys,KA.dU]
 ·by_cases e:m=a.free
  ·subst e;rw[Xb]at q;exact absurd rfl q
  ·rw[hu m e]at q;show bu (bu a.f n.toNat _) a.free.toNat _ m.toNat=_;grind [iA,KA.Wk.sE]
 ·rw[hI.Y5];by_cases e:m=a.free
  ·subst e;rw[Xb,aj];exact⟨fun _=>hI.zr.1,fun _=>(by decide:(1:Int)≠0)⟩
  grind [ae,KA.Wk.lc]
 ·by_cases e:m=a.free
  ·subst e;rw[Xb];exact .inr (.inl rfl)
  grind [KA.Wk.st]
 ·grind [KA.Wk.out]
 ·by_cases e:m=a.free
  ·subst e;rw[Xb];exact w.fd n i
  ·rw[hu m e];exact w.fd m i
 ·by_cases e:m=a.free
  ·subst e;rw[Xb];rfl
  grind [KA.Wk.bx]
 ·by_cases e:p=a.free
  ·subst e;rw[Xb];exact .inl (KV _)
  ·rw[hu p e]at h3 ⊢;rw[hI.Y5,ae _ _ e];rcases h.hx p h0 h1 og h3 with q | q;all_goals grind [KA.Gz.fE]
 ·grind [KA.Gz.nV,KA.Ok.r0,KA.R0.st]
 ·rw[hI.Y5,ae _ _ (by rintro e;have:=hI.nV.2;rw[<-e,h.r0.st]at this;exact absurd this dq)];exact h.r0.loc
 grind [KA.Gz.fE,KA.Ok.r0,KA.R0.dE]
def KA.Wk.H6{a:KA}(w:a.Wk T)(hT:T<=T')(Rl:T'<=1000000){g:Gr.TG}(hg:g.Inv)(hS:g.bU (1000*T')):({a with g:=g} :KA).Wk T':=⟨⟨by have:=w.T0;omega,Rl⟩,hg,hS,w.sI,w.sys,w.sE,w.PI.mono hT,w.OI.mono hT,w.lc,w.st,w.out,w.fd,w.bx⟩
def KA.Ok.H6{a:KA}{T T':Int}(h:a.Ok T)(hT:T<=T')(Rl:T'<=1000000){g:Gr.TG}(hg:g.Inv)(hS:g.bU (1000*T')):({a with g:=g} :KA).Ok T':=⟨h.wk.H6 hT Rl hg hS,h.hx.same (fun _=>⟨rfl,rfl⟩) rfl,h.r0.same rfl rfl,h.d0⟩
theorem KA.Ok.jl{a:KA}(h:a.Ok T)(hT:T<=900000)(n:Int)(bH:Bool):(a.hQ n bH).Ok (T+10):=by
 unfold KA.hQ;split
 ·grind [KA.Ok.up]
 ·rename_i c;split
  ·exact h.H6 og og ((h.wk.gI.aP _ _ _).cR _ _ _) (uE (h.wk.gI.aP _ _ _) ((h.wk.gS.aP h.wk.gI.ok _ _ _).mono og) _ _ _)
  grind [KA.Ok.dU]
structure WF where
 kids:Int
 bA:Int
 jB:Int
 km:Int
def KA.fk(a:KA)(n:Int):Nat->WF
 | 0=>⟨0,-1,0,0⟩
 | k+1=>
  if(a.u (k:Int)).st=0\/(a.u (k:Int)).aA≠n then a.fk n k else
  if(a.s.jB k (a.sz n)).2=0/\(a.u (k:Int)).st=2/\((a.fk n k).bA<0\/(a.s.jB k (a.sz n)).1<(a.fk n k).jB)then⟨(a.fk n k).kids+1,k,(a.s.jB k (a.sz n)).1,(a.u (k:Int)).km⟩
  else⟨(a.fk n k).kids+1,(a.fk n k).bA,(a.fk n k).jB,(a.fk n k).km⟩
def KA.sZ(a:KA)(n:Int):Int:=if a.aB n≠0 then a.aB n else if(a.fk n 20).kids=0 then 2 else if(a.fk n 20).bA<0 then 8 else 0
def KA.ry(a:KA)(n:Int):KA:=if a.sZ n=0 then(a.fj (a.fk n 20).bA).fL (a.sz (a.fk n 20).bA)else a
def KA.D6(a:KA)(n:Int):Int:=if a.sZ n=0 then(a.fk n 20).jB else 0
def KA.D7(a:KA)(n:Int):Int:=if a.sZ n=0 then(a.fk n 20).km else 0
def KA.WI(a:KA)(n:Int)(x:WF)(k:Int):Prop:=(0<=x.kids/\x.kids<=k)/\(x.bA<0\/((0<=x.bA/\x.bA<k)/\(a.u x.bA).st=2/\(a.u x.bA).aA=n/\a.s.jB x.bA (a.sz n)=(x.jB,0)/\x.km=(a.u x.bA).km))
def KA.H7(a:KA)(n:Int):∀ k:Nat,a.WI n (a.fk n k) k
 | 0=>⟨⟨Int.le_refl _,Int.le_refl _⟩,.inl (by show(-1:Int)<0;omega)⟩
 | k+1=>by
  obtain⟨h1,h2⟩:=a.H7 n k;grind [KA.fk,KA.WI]
def Ay{a:KA}(h:a.sZ n=0):a.aB n=0/\(0<=(a.fk n 20).bA/\(a.fk n 20).bA<20)/\(a.u (a.fk n 20).bA).st=2/\(a.u (a.fk n 20).bA).aA=n/\a.s.jB (a.fk n 20).bA (a.sz n)=((a.fk n 20).jB,0)/\(a.fk n 20).km=(a.u (a.fk n 20).bA).km:=by
 unfold KA.sZ at h;split at h
 ·omega
 ·split at h
  ·omega
  ·split at h
   ·omega
   ·have:=(a.H7 n 20).2.resolve_left aq;simp_all
def KA.Ok.Au{a:KA}{T:Int}(h:a.Ok T){m:Int}(hm:0<=m/\m<20)(hs:(a.u m).st=2):(a.fj m).Ok T:=
 ⟨h.wk.fj hm og,h.hx.fj,h.r0.Au (by rintro rfl;have:=h.r0.st;omega),h.d0⟩
def KA.Ok.M4{a:KA}{T:Int}(h:a.Ok T)(z:Int):(a.fL z).Ok T:=⟨h.wk.fL z,h.hx.fL z,h.r0.M4 z,h.d0⟩
def KA.Ok.dX{a:KA}(h:a.Ok T)(n:Int):(a.ry n).Ok T:=by
 unfold KA.ry;split
 ·rename_i c;obtain⟨_,h2,h3,_⟩:=Ay c;exact(h.Au h2 h3).M4 _
 omega
theorem OT{a:KA}{b:KZ}{c':KC}(w:a.Wk T)(hI:a.Gz n bH){nb:Nat}(hm:c'.mb=bu c.mb a.free.toNat nb){K:KP}(hu:K.u=(kp a b c).u)(hk:(K.gb=b.gb/\K.sb=b.sb/\K.qb=b.qb/\K.bb=b.bb)/\K.tb=b.tb/\K.pi=b.pi/\K.ob=b.ob)(hms:K.ms=(kp (a.dU n bH) b c').ms):K.put a.free ((kp a b c).gF n nb)=kp (a.dU n bH) b c':=by
 refine KP.ext (fun m=> ?_) hms hk;by_cases e:m=a.free
 ·subst e;rw[KP.sW];show _=(ad a.u a.free (a.M9 n) a.free).pu (c'.mb a.free.toNat);rw[aj,hm,lz];rfl
 ·rw[KP.Aj _ _ e,hu];show(a.u m).pu (c.mb m.toNat)=(ad a.u a.free (a.M9 n) m).pu (c'.mb m.toNat);rw[ae _ _ e,hm];by_cases q:m.toNat=a.free.toNat
  ·have:=hI.nV;rw[w.out m og];rfl
  grind [bu]
theorem KW{a:KA}(hI:a.Gz n bH):iR (a.dU n bH)=Fz (iR a) a.free.toNat:=(vv fun _ _ _=>Iff.rfl).trans (OO (p:=a.M9 n) hI.nV.1 (by decide:(1:Int)≠0))
def Vy{a:KA}(hI:a.Gz n false):kz (a.dU n false)=kz a:=by
 unfold kz;rw[hI.D5];rfl
theorem Rr{a:KA}(hI:a.Gz n true)(hE:(a.s.add a.aV (a.s.bS n).1).2.1=0):kz (a.dU n true)=Fz (kz a) (a.s.add a.aV (a.s.bS n).1).1.toNat:=by
 have h2:(a.sA n true).aa=ad a.s.aa (a.s.add a.aV (a.s.bS n).1).1 true:=by
  show(a.s.add a.aV (a.s.bS n).1).2.2.aa=_;rcases a.s.qY a.aV (a.s.bS n).1 with⟨q,_,_⟩ | ⟨k,_,_,_,_,q5⟩;all_goals simp_all
 have hz:=hI.zr;have hz:0<=(a.s.add a.aV (a.s.bS n).1).1/\(a.s.add a.aV (a.s.bS n).1).1<6:=⟨hz.1,hz.2.1⟩;funext j;rw[Bool.eq_iff_iff,jO,Ce,Ce,hI.D5,h2];grind [aj,ae]
theorem kx(F:Tr.FF)(n:Int):(F.ea n).roots=F.roots:=by unfold Tr.FF.ea;split<;>rfl
def Bu:∀ (l:List MT) (F:Tr.FF),(yV F l).roots=F.roots
 | [],_=>rfl
 | m::r,F=>(Bu r _).trans ((kx _ _).trans (kx _ _))
theorem sK(F:Tr.FF)(l:List MT)(r:WH):(OM F l r).roots=F.roots:=(Bu l _).trans (kx _ _)
theorem xt{s:Sp.SS}(h:(s.add aV p).2.1=0):(0<=(s.add aV p).1/\(s.add aV p).1<6)/\s.aa (s.add aV p).1=false/\(s.add aV p).2.2.aa=ad s.aa (s.add aV p).1 true:=by
 rcases s.qY aV p with⟨q,_,_⟩ | ⟨k,_,_,h3,h4,q5⟩;all_goals simp_all
def acI{a:KA}(h:0<=z/\z<6)(hs:a.s.aa z=false):kz a z.toNat=false:=by
 grind [kz]
def Vz{a:KA}(h:0<=n/\n<20)(hs:(a.u n).st=0):iR a n.toNat=false:=by
 grind [iR]
theorem iO(a:KA)(n:Int)(h:0<=i):a.fk n (i+1).toNat=if(a.u i).st=0\/(a.u i).aA≠n then a.fk n i.toNat else if(a.s.jB i (a.sz n)).2=0/\(a.u i).st=2/\((a.fk n i.toNat).bA<0\/(a.s.jB i (a.sz n)).1<(a.fk n i.toNat).jB)then⟨(a.fk n i.toNat).kids+1,i,(a.s.jB i (a.sz n)).1,(a.u i).km⟩else⟨(a.fk n i.toNat).kids+1,(a.fk n i.toNat).bA,(a.fk n i.toNat).jB,(a.fk n i.toNat).km⟩:=by
 rw[show(i+1).toNat=i.toNat+1 by omega];grind [KA.fk]
def cI.VA{a:KA}{N:Nat}(h:cI a c N T)(hI:a.Gz n bH){q1 q2:SC}{d1:Int->Nat}{g w:Int}(h1:q1.toSF=c.q.toSF.te a.free g w)(h2:q2.toSF=q1.toSF.gq d1 a.free true):∀ m,0<=m->m<20->q2.aa (10+m)=true->((a.dU n bH).u m).st=1:=fun m m0 m1 hm=>by
 have hm:q2.toSF.aa (10+m)=true:=hm;rw[h2,Fa.SF.qX,h1]at hm;show(ad a.u a.free (a.M9 n) m).st=1;by_cases e:m=a.free
 ·rw[e,aj];rfl
 ·rw[ae _ _ e];exact h.tk m m0 m1 ((Fa.SF.FU hm).resolve_left e)
end Go.X.Kn

namespace Go.X.Kn
open Go Go.X Go.X.Tr Go.X.Vm
variable{n:Int}
theorem KA.Wk.mem{a:KA}{T:Int}(w:a.Wk T)(hn:0<=n/\n<20)(hl:(a.u n).st=1){v:VB}{m:Vm.MS}(hs:Vm.Sys v (bu a.f n.toNat m) 20){g:Gr.TG}(hg:g.Inv)(hG:g.bU (1000*T)):({a with v:=v,f:=bu a.f n.toNat m,g:=g} :KA).Wk T:=
 ⟨w.T0,hg,hG,w.sI,hs,fun p a0 a1 q=>by
  show bu a.f n.toNat m p.toNat=_
  have:p≠n:=by rintro rfl;exact q hl
  rw[iA _ _ og];exact w.sE p a0 a1 q,w.PI,w.OI,w.lc,w.st,w.out,w.fd,w.bx⟩
theorem KA.Ok.mem{a:KA}{T:Int}(h:a.Ok T){n:Int}(c:a.aB n=0){v:VB}{m:Vm.MS}(hs:Vm.Sys v (bu a.f n.toNat m) 20){g:Gr.TG}(hg:g.Inv)(hG:g.bU (1000*T)):({a with v:=v,f:=bu a.f n.toNat m,g:=g} :KA).Ok T:=
 ⟨h.wk.mem (bQ c).1 (bQ c).2 hs hg hG,h.hx.same (fun _=>⟨rfl,rfl⟩) rfl,h.r0.same rfl rfl,h.d0⟩
def KA.qp(a:KA)(n f m:Int):Int:=if a.aB n≠0 then a.aB n else(a.f n.toNat).qp f m
def KA.D8(a:KA)(n f m:Int)(w:Bool):KA:=if a.aB n≠0 then a else {a with v:=a.v,f:=bu a.f n.toNat ((a.f n.toNat).map f m w),g:=a.g}
theorem KA.Ok.map{a:KA}{T:Int}(h:a.Ok T)(n f m:Int)(w:Bool):(a.D8 n f m w).Ok T:=by
 unfold KA.D8;split
 ·exact h
 ·rename_i c;have hn:=(bQ (show a.aB n=0 by omega)).1;exact h.mem og (h.wk.sys.same og ((h.wk.sys.mo _ og).map _ _ _) (Vm.MS.Ut _ _ _ _).1) h.wk.gI h.wk.gS
def KA.lg(a:KA)(n f m:Int):Int:=if a.aB n≠0 then a.aB n else(a.f n.toNat).lg f m
def KA.uN(a:KA)(n f m:Int)(w:Bool):KA:=if a.aB n≠0 then a else {a with v:=a.v,f:=bu a.f n.toNat ((a.f n.toNat).mS f m w),g:=a.g}
theorem KA.Ok.mS{a:KA}{T:Int}(h:a.Ok T)(n f m:Int)(w:Bool):(a.uN n f m w).Ok T:=by
 unfold KA.uN;split
 ·exact h
 ·rename_i c;have hn:=(bQ (show a.aB n=0 by omega)).1;exact h.mem og (h.wk.sys.same og ((h.wk.sys.mo _ og).mS _ _ _) (Vm.MS.Ou _ _ _ _).1) h.wk.gI h.wk.gS
def KA.wy(a:KA)(n f m:Int):Int×Int×VB×Vm.MS:=(a.f n.toNat).ep a.v f m
def KA.oq(a:KA)(n f m:Int):Int:=if a.aB n≠0 then a.aB n else if(a.wy n f m).2.1≠0 then(a.wy n f m).2.1 else a.g.gk (a.u n).cB 0 (a.wy n f m).1
def KA.jN(a:KA)(n f m:Int):KA:=if a.aB n≠0 then a else {a with v:=(a.wy n f m).2.2.1,f:=bu a.f n.toNat (a.wy n f m).2.2.2,g:=if(a.wy n f m).2.1≠0 then a.g else a.g.cR (a.u n).cB 0 (a.wy n f m).1}
theorem KA.Ok.ep{a:KA}{T:Int}(h:a.Ok T)(n f m:Int):(a.jN n f m).Ok T:=by
 unfold KA.jN;split
 ·omega
 ·rename_i c;have hn:=(bQ (show a.aB n=0 by omega)).1;refine h.mem og (h.wk.sys.ep og _ _) ?_ ?_
  ·split
   ·exact h.wk.gI
   ·exact h.wk.gI.cR _ _ _
  grind [KA.Ok.wk,KA.Wk.gS,uE,KA.Wk.gI]
def KA.BQ(a:KA)(z:Int):Nat->Int×Int
 | 0=>(-1,0)
 | k+1=>if 1<=k/\a.aB (k:Int)=0/\a.g.under (a.u (k:Int)).cB z=true/\(a.BQ z k).2<a.eZ (k:Int)then((k:Int),a.eZ (k:Int))else a.BQ z k
theorem oF(a:KA)(z:Int){i:Int}(h:1<=i):a.BQ z (i+1).toNat=if a.aB i=0/\a.g.under (a.u i).cB z=true/\(a.BQ z i.toNat).2<a.eZ i then(i,a.eZ i)else a.BQ z i.toNat:=by
 rw[show(i+1).toNat=i.toNat+1 by omega];grind [KA.BQ]
theorem GA(a:KA)(z:Int):∀ k:Nat,(a.BQ z k).1= -1\/(1<=(a.BQ z k).1/\a.aB (a.BQ z k).1=0)
 | 0=>.inl rfl
 | k+1=>by
  unfold KA.BQ;split
  ·rename_i c;exact .inr ⟨by show(1:Int)<=(k:Int);omega,c.2.1⟩
  ·exact GA a z k
def KA.iP(a:KA)(z:Int):Int:=(a.BQ z 20).1
def sL{a:KA}{z:Int}(h:¬a.iP z<0):1<=a.iP z/\a.aB (a.iP z)=0:=by
 grind [GA,KA.iP]
def KA.iQ(a:KA)(n:Int):Option Int:=a.g.iQ (a.u n).cB 0 1
def KA.ll(a:KA)(n:Int):Nat->Int×KA
 | 0=>(6,a)
 | k+1=>if a.aB n≠0 then(6,a)else match a.iQ n with
  | none=>(a.g.cZ (a.u n).cB 0 1,{a with v:=a.v,f:=a.f,g:=a.g.aP (a.u n).cB 0 1})
  | some z=>if a.iP z<0 then(6,a)else(a.dt (a.iP z) 137).ll n k
def GB{f g:Int->Bool}(h:∀ j,g j=true->f j=true):∀ k:Nat,BN g k<=BN f k
 | 0=>Int.le_refl _
 | k+1=>by
  unfold BN;have:=GB h k;have h2:=h (k:Int);cases hg:g (k:Int)with
  | false=>simp;split<;>omega
  | true=>rw[h2 hg];simp;omega
def OU{f g:Int->Bool}(h:∀ j,g j=true->f j=true){n:Int}(hf:f n=true)(hg:g n=false):∀ k:Nat,0<=n->n<k->BN g k<BN f k
 | 0,h0,h1=>og
 | k+1,h0,h1=>by
  unfold BN;by_cases e:(k:Int)=n
  ·have:=GB h k;grind
  ·have:=OU h hf hg k h0 og;grind
def KA.lvC(a:KA):Int:=BN (fun j=>decide ((a.u j).st=1)) 20
def KX(h p:Int):∀ (l:List Int) (a:KA),((l.foldl (KA.gR h) a).u p).st=1->(a.u p).st=1
 | [],_,q=>q
 | x::r,a,q=>by
  have q2:=KX h p r (KA.gR h a x) q;by_cases e:p=x
  ·subst e;unfold KA.gR at q2;split at q2
   ·omega
   ·rw[show((if(a.u p).st=1 then a.c9 p 0 else a).fj p).u p=PA.nil from aj _ _ _]at q2;exact absurd (show(0:Int)=1 from q2) dq
  grind [yZ]
theorem Na{a:KA}{co p:Int}(q:((a.dt n co).u p).st=1):p≠n/\(a.u p).st=1:=by
 have q1:((a.gZ n co).u p).st=1:=by
  grind [KA.dt,KA.jW,gU,dS]
 have q2:((a.c9 n co).u p).st=1:=by
  unfold KA.gZ at q1;split at q1
  ·unfold KA.ed at q1;rw[DT]at q1;exact KX n p _ _ q1
  omega
 grind [nm,qc]
def Rs{a:KA}{co:Int}(hn:0<=n/\n<20)(hl:(a.u n).st=1):(a.dt n co).lvC<a.lvC:=by
 refine OU (n:=n) (fun j q=> ?_) ?_ ?_ 20 hn.1 og;all_goals grind [Na]
def KA.OV(a:KA):0<=a.lvC/\a.lvC<=20:=YA _ 20
def KA.cv(a:KA)(n:Int):Int×KA:=a.ll n 21
end Go.X.Kn

namespace Go.X.Kn
open Go Go.X Go.X.Vm
variable{T n:Int}
theorem KA.Ok.room{n:Int} :∀ (k:Nat) {a:KA} {T:Int},a.Ok T->T<=900000->((a.ll n k).2).Ok (T+1)/\((a.ll n k).1=0->(a.ll n k).2.aB n=0)
 | 0,a,T,h,hT=>⟨h.up og og,fun e=>absurd (show(6:Int)=0 from e) dq⟩
 | k+1,a,T,h,hT=>by
  unfold KA.ll;by_cases c:a.aB n≠0
  ·rw[if_pos c];exact⟨h.up og og,fun e=>absurd (show(6:Int)=0 from e) dq⟩
  ·rw[if_neg c];cases hz:a.iQ n with
   | none=>exact⟨h.H6 og og (h.wk.gI.aP _ _ _) ((h.wk.gS.aP h.wk.gI.ok _ _ _).mono og),fun _=>by show a.aB n=0;omega⟩
   | some z=>
    show((if a.iP z<0 then((6:Int),a)else(a.dt (a.iP z) 137).ll n k).2).Ok (T+1)/\_;by_cases d:a.iP z<0
    ·show _/\((if a.iP z<0 then((6:Int),a)else(a.dt (a.iP z) 137).ll n k).1=0->_);rw[if_pos d];exact⟨h.up og og,fun e=>absurd (show(6:Int)=0 from e) dq⟩
    ·have hv:=sL d;have hl:=bQ hv.2;have h2:=KA.Ok.room (n:=n) k (h.wk.DW h.r0 h.d0 (show a.iP z≠0 by omega) hl.2 (h.hx.any _) 137) hT;simp only[if_neg d];exact h2
def KA.Ok.aP{a:KA}(h:a.Ok T)(hT:T<=900000)(n:Int):((a.cv n).2).Ok (T+1)/\((a.cv n).1=0->(a.cv n).2.aB n=0):=KA.Ok.room 21 h hT
structure TD where
 e:KA->Int
 A:KA->KA
 y:KA->Int
def KA.unA(a:KA)(n:Int):KA:= {a with g:=a.g.cR (a.u n).cB 0 1}
def KA.jd(a:KA)(n x:Int)(w:Bool)(D:TD)(y0:Int):Int×KA×Int:=
 if a.aB n≠0 then(a.aB n,a,y0)else if(a.f n.toNat).sV x w=false then(10,a,y0)else
 if(a.f n.toNat).l9 x=true then
  if(a.cv n).1≠0 then((a.cv n).1,(a.cv n).2,y0)else
  (D.e (a.cv n).2,if D.e (a.cv n).2≠0 then(D.A (a.cv n).2).unA n else D.A (a.cv n).2,D.y (a.cv n).2)
 else(D.e a,D.A a,D.y a)
def KA.zC(a:KA)(n x:Int):Int×Int×VB×Vm.MS:=(a.f n.toNat).load a.v x
def KA.lW(a:KA)(n x:Int):KA:= {a with v:=(a.zC n x).2.2.1,f:=bu a.f n.toNat (a.zC n x).2.2.2,g:=a.g}
def KA.sfR(a:KA)(n x y:Int):Int×VB×Vm.MS:=(a.f n.toNat).store a.v x y
def KA.sfA(a:KA)(n x y:Int):KA:= {a with v:=(a.sfR n x y).2.1,f:=bu a.f n.toNat (a.sfR n x y).2.2,g:=a.g}
def Xc(n x:Int):TD:=⟨fun a=>(a.zC n x).2.1,fun a=>a.lW n x,fun a=>(a.zC n x).1⟩
def sfD(n x y:Int):TD:=⟨fun a=>(a.sfR n x y).1,fun a=>a.sfA n x y,fun _=>y⟩
def KA.ia(a:KA)(n x:Int):Int×KA×Int:=a.jd n x false (Xc n x) 0
def KA.gw(a:KA)(n x y:Int):Int×KA×Int:=a.jd n x true (sfD n x y) y
def KA.Ok.ld{a:KA}(h:a.Ok T)(c:a.aB n=0)(x:Int):(a.lW n x).Ok T:=by
 have hn:=(bQ c).1;exact h.mem c (h.wk.sys.load (z:=n.toNat) og x) h.wk.gI h.wk.gS
def KA.Ok.sf{a:KA}(h:a.Ok T)(c:a.aB n=0)(x:Int){y:Int}(hy:0<=y/\y<256):(a.sfA n x y).Ok T:=by
 have hn:=(bQ c).1;exact h.mem c (h.wk.sys.store (z:=n.toNat) og x y hy) h.wk.gI h.wk.gS
theorem KA.Ok.un{a:KA}(h:a.Ok T)(n:Int):(a.unA n).Ok T:=h.H6 og h.wk.T0.2 (h.wk.gI.cR _ _ _) (uE h.wk.gI h.wk.gS _ _ _)
def KA.Ok.tch{a:KA}(h:a.Ok T)(hT:T<=900000){D:TD}(hD:∀ {b:KA} {S:Int},b.Ok S->b.aB n=0->(D.A b).Ok S)(x:Int)(w:Bool)(y0:Int):((a.jd n x w D y0).2.1).Ok (T+1):=by
 have h1:=h.up (T':=T+1) og og;have h2:=h.aP hT n;grind [KA.jd,KA.Ok.un]
theorem KA.Ok.load{a:KA}(h:a.Ok T)(hT:T<=900000)(n x:Int):((a.ia n x).2.1).Ok (T+1):=h.tch hT (fun hb c=>hb.ld c x) x false 0
theorem KA.Ok.store{a:KA}(h:a.Ok T)(hT:T<=900000)(n x:Int){y:Int}(hy:0<=y/\y<256):((a.gw n x y).2.1).Ok (T+1):=h.tch hT (fun hb c=>hb.sf c x hy) x true y
end Go.X.Kn

namespace Go.X.Kn
open Go Go.X
variable{T:Int}
def KA.nM(a:KA)(p w:Int):KA:=if w<1\/1000<w then a else {a with g:=a.g.add p}
def KA.Az(a:KA)(n:Int):KA:= {a with g:=a.g.du n}
def KA.Rt(a:KA)(n p m:Int):KA:= {a with g:=a.g.jD n p m}
def KA.GC(a:KA)(n z:Int):Int:=a.g.eN (a.u n).cB z 1 (a.eZ n)
def KA.pE(a:KA)(n z:Int):KA:=if a.aB n≠0\/a.GC n z≠0 then a else {a with u:=ad a.u n {a.u n with cB:=z},g:=a.g.move (a.u n).cB z 1 (a.eZ n)}
theorem zf(u:Int->PA)(n z p:Int):(ad u n {u n with cB:=z} p).st=(u p).st/\(ad u n {u n with cB:=z} p).bx=(u p).bx/\(ad u n {u n with cB:=z} p).fd=(u p).fd:=by
 grind [ad]
def KA.Ok.td{a:KA}(h:a.Ok T)(p w:Int):(a.nM p w).Ok T:=by
 unfold KA.nM;split
 ·exact h
 ·exact h.H6 og h.wk.T0.2 (h.wk.gI.add p) (h.wk.gS.add (by have:=h.wk.T0;omega) p)
def KA.Ok.pd{a:KA}(h:a.Ok T)(n:Int):(a.Az n).Ok T:=h.H6 og h.wk.T0.2 (h.wk.gI.du n) (h.wk.gS.du (by have:=h.wk.T0;omega) n)
def KA.Ok.VC{a:KA}(h:a.Ok T)(n p m:Int):(a.Rt n p m).Ok T:=h.H6 og h.wk.T0.2 (h.wk.gI.jD n p m) (h.wk.gS.jD n p m)
theorem VD{g:Gr.TG}{a b p m:Int}(h:g.eN a b p m≠0):g.move a b p m=g:=by
 unfold Gr.TG.move;unfold Gr.TG.eN at h;grind
def KA.Ok.BF{a:KA}(h:a.Ok T)(hT:T<=900000)(n z:Int):(a.pE n z).Ok (T+1):=by
 unfold KA.pE;split
 ·grind [KA.Ok.up]
 ·rename_i c;have h1:=h.io (T':=T) (Int.le_refl _) h.wk.T0.2 (u:=ad a.u n {a.u n with cB:=z}) (O:=a.O) (P:=a.P) (fun p=>(zf _ _ _ p).1) (fun p=>(zf _ _ _ p).2.1) (fun p hp=>by
   have hl:a.aB n=0:=iV
   have:=(bQ hl).1
   rw[ae _ _ og];exact h.wk.out p hp) (fun p i=>by rw[(zf _ _ _ p).2.2];exact h.wk.fd p i) h.wk.OI h.wk.PI
  exact h1.H6 og og (h.wk.gI.move _ _ _ _) ((h.wk.gS.move h.wk.gI.ok _ _ _ _).mono og)
end Go.X.Kn
