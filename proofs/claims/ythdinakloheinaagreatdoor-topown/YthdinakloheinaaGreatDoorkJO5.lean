import Derived.Test.YthdinakloheinaaGreatDoorkNKM
set_option linter.all false
namespace Go.X.Kn
open Go Go.X Go.X.Fa Go.X.Sg Go.X.Sp Go.X.Tr Go.X.Vm
variable{B T co i m n p z:Int}{f:Int->Int}
structure PA where
 st:Int
 aD:Int
 cL:Int
 kf:Int
 fd:Int->Int
 bx:BS
def PA.nil:PA:=⟨0,0,0,0,fun _=>0,BS.cC⟩
structure KA where
 u:Int->PA
 g:Gr.TG
 s:Sp.SS
 aQ:Int->Nat
 v:VB
 f:Nat->Vm.MS
 P:Tr.PS
 O:Tr.OS
structure TB where
 b:Nat
 r:WH
 l:List MT
 p:Option Addr
 cap:Nat
 k:Nat
 c:Nat
 C:Nat->Value
structure TB.Ok (t:TB):Prop where
 rv:RV.ok ⟨t.p,t.cap,t.k,t.l.length,t.c,t.C⟩
 mc:MC t.C t.l
 len:t.l.length<=6
structure KZ where
 kb:Nat
 gb:Nat
 sb:Nat
 qb:Nat
 bb:Nat
 tb:Nat
 pi:Nat
 ob:Nat
 vp:Nat
structure KC where
 mb:Nat->Nat
 pp:Nat->Option Addr
 cc:Nat->Nat
 q:SC
 d:Int->Nat
 F:FC
 dF:Int->Nat
 rp:Option Addr
 rc:Nat
 rl:List Int
 t:Nat->TB
def PA.pu(p:PA)(b:Nat):PU:=⟨p.st,p.aD,p.cL,p.kf,if p.st=0 then .pointer none else az b 0 0,p.fd,p.bx⟩
def kp(a:KA)(b:KZ)(c:KC):KP:=⟨fun n=>(a.u n).pu (c.mb n.toNat),b.gb,b.sb,b.qb,b.bb,b.tb,b.pi,b.ob,fun z=>if a.s.aa z then az (c.t z.toNat).b 0 0 else .pointer none⟩
def pw(a:KA)(b:KZ)(c:KC)(h:(a.u n).st≠0:=by omega):((kp a b c).u n).mem=az (c.mb n.toNat) 0 0:=by
 show(if(a.u n).st=0 then Value.pointer none else az (c.mb n.toNat) 0 0)=_;simp_all
def KP.ext{k k':KP}(hu:∀ n,k.u n=k'.u n)(hm:k.ms=k'.ms)(h:(k.gb=k'.gb/\k.sb=k'.sb/\k.qb=k'.qb/\k.bb=k'.bb)/\k.tb=k'.tb/\k.pi=k'.pi/\k.ob=k'.ob):k=k':=by
 cases k;cases k';obtain⟨⟨h1,h2,h3,h4⟩,h5,h6,h7⟩:=h;simp only at hm h1 h2 h3 h4 h5 h6 h7 hu;have e:=funext hu;simp_all
theorem Vq(a:KA)(b:KZ)(c:KC)(n:Int)(p:PA):(kp a b c).put n (p.pu (c.mb n.toNat))=kp {a with u:=ad a.u n p} b c:=by
 refine KP.ext (fun m=> ?_) rfl ⟨⟨rfl,rfl,rfl,rfl⟩,rfl,rfl,rfl⟩;grind [KP.sR,aj,KP.Ag,ae,kp]
def HL(a:KA)(b:KZ)(c:KC)(n:Int)(p:PA)(u:PU)(h:u=p.pu (c.mb n.toNat)):(kp a b c).put n u=kp {a with u:=ad a.u n p} b c:=by rw[h,Vq]
def jg(a:KA):Nat->Bool:=fun j=>decide (j<20/\(a.u (j:Int)).st≠0)
def fD{a:KA}(h:0<=n/\n<20)(hs:(a.u n).st≠0:=by omega):jg a n.toNat=true:=by
 grind [jg]
def vy{a a':KA}(h:∀ n,0<=n->n<20->((a.u n).st=0↔(a'.u n).st=0)):jg a=jg a':=by
 grind [jg]
def Vr{a:KA}{p:PA}(h:0<=n/\n<20)(hp:p.st=0):jg {a with u:=ad a.u n p} =ji (jg a) n.toNat:=by
 grind [iS,jg,aj,ae]
def OT{a:KA}{p:PA}(h:0<=n/\n<20)(hp:p.st≠0):jg {a with u:=ad a.u n p} =Fl (jg a) n.toNat:=by
 grind [jK,jg,aj,ae]
def lu(a:KA):Nat->Bool:=fun j=>decide (j<6)&&a.s.aa (j:Int)
theorem Cb{a:KA}{j:Nat} :lu a j=true↔j<6/\a.s.aa (j:Int)=true:=by simp[lu]
def dV{a:KA}(h:0<=z/\z<6)(hs:a.s.aa z=true):lu a z.toNat=true:=by grind [lu]
abbrev cT(tb:Nat)(t:Nat->TB):Nat->Nat->Value:=fun z=>Tr.aL tb (t z).r (.slice (t z).p (t z).l.length (t z).c)
abbrev rT(e:TypeId)(t:Nat->TB):Nat->pZ:=fun z=>⟨.slice (t z).p (t z).k (t z).cap,e,4,(t z).k,bZ (t z).C ((t z).k*4)⟩
abbrev Kx(P:Nat->Bool)(tb:Nat)(e:TypeId)(t:Nat->TB):List aF:=[.dR P (fun z=>(t z).b) 4 (cT tb t),.aW P (rT e t)]
abbrev Vs(tb:Nat)(e:TypeId)(t:TB):List aF:=[.cells t.b 0 4 (Tr.aL tb t.r (.slice t.p t.l.length t.c)),aM t.p t.cap e 4 t.k t.C]
theorem acJ(tb:Nat)(t:Nat->TB)(z:Nat)(m:TB):IY (cT tb t) z (Tr.aL tb m.r (.slice m.p m.l.length m.c))=cT tb (aJ t z m):=by
 grind [GX,GY,aJ]
theorem acK(e:TypeId)(t:Nat->TB)(z:Nat)(m:TB):BA (rT e t) z ⟨.slice m.p m.k m.cap,e,4,m.k,bZ m.C (m.k*4)⟩=rT e (aJ t z m):=by
 grind [nf,lT,aJ]
theorem acL(t:Nat->TB)(z:Nat)(m:TB):IZ (fun z=>(t z).b) z m.b=fun j=>(aJ t z m j).b:=by
 grind [uZ,rH,aJ]
section
variable {W w:World} {S:Nat->Nat->Prop} {H H0:List aF} {tb:Nat} {e:TypeId} {t:Nat->TB} {P:Nat->Bool}
def gR{z:Nat}(hz:P z=true)(hp:cG H0 (Kx P tb e t) H)(h:XM W S H0 w):XM W S (.cells (t z).b 0 4 (Tr.aL tb (t z).r (.slice (t z).p (t z).l.length (t z).c))::aM (t z).p (t z).cap e 4 (t z).k (t z).C:: .dR (ji P z) (fun z=>(t z).b) 4 (cT tb t):: .aW (ji P z) (rT e t)::H) w:=by
 have h0:XM W S (.dR P (fun z=>(t z).b) 4 (cT tb t):: .aW P (rT e t)::H) w:=h.b8 hp.b8;have h1:=Cy z hz h0;have h2:=h1.b8 (pk [2]).b8;simp only[List.cons_append,List.nil_append]at h2;have h3:=oC z hz h2;have h4:=h3.b8 (pk [2,0,1,0]).b8;simp_all
def HM{z:Nat}(m:TB)(hz:P z=false)(hp:cG H0 (Vs tb e m++Kx P tb e t) H)(h:XM W S H0 w):XM W S (Kx (Fl P z) tb e (aJ t z m)++H) w:=by
 have h:XM W S (.cells m.b 0 4 (Tr.aL tb m.r (.slice m.p m.l.length m.c))::aM m.p m.cap e 4 m.k m.C:: .dR P (fun z=>(t z).b) 4 (cT tb t):: .aW P (rT e t)::H) w:=h.b8 hp.b8;have h0:=h.b8 (pk [0,1]).b8;simp only[List.cons_append,List.nil_append]at h0;have h1:=Fp z og hz h0;have h2:=h1.b8 (pk [1,1]).b8;simp only[List.cons_append,List.nil_append]at h2;have h3:=qy (x:=⟨.slice m.p m.k m.cap,e,4,m.k,bZ m.C (m.k*4)⟩) z hz h2;have h4:=h3.b8 (pk [1,0]).b8;simp_all[acJ,acK,acL]
def yV{z:Nat}(m:TB)(hz:P z=true)(hp:cG H0 (Vs tb e m++Kx (ji P z) tb e t) H)(h:XM W S H0 w):XM W S (Kx P tb e (aJ t z m)++H) w:=by
 have h1:=HM m (uY _ _) hp h;grind [Fo]
def gP{z:Nat}(hz:P z=true)(hp:cG H0 (Vs tb e (t z)++Kx (ji P z) tb e t) H)(h:XM W S H0 w):XM W S (Kx P tb e t++H) w:=by
 have h1:=yV (t z) hz hp h;rwa[fJ]at h1
def Rl{z:Nat}(m:TB)(hp:cG H0 (Vs tb e m) H)(h:XM W S H0 w):XM W S (Kx (Fl (fun _=>false) z) tb e (aJ (fun _=>m) z m)++H) w:=by
 have h0:XM W S (Vs tb e m++H) w:=h.b8 hp.b8;have h1:XM W S (.dR (fun _=>false) (fun _=>m.b) 4 (cT tb fun _=>m):: .aW (fun _=>false) (rT e fun _=>m):: .cells m.b 0 4 (Tr.aL tb m.r (.slice m.p m.l.length m.c))::aM m.p m.cap e 4 m.k m.C::H) w:=Cz (Fq h0);exact HM m rfl (pk [2,2,0,0]) h1
end
structure KA.Wk (a:KA) (T:Int):Prop where
 T0:0<=T/\T<=1000000
 gI:a.g.Inv
 gS:a.g.bV (1000*T)
 sI:a.s.Inv a.aQ
 sys:Vm.Sys a.v a.f 20
 sx:∀ n,0<=n->n<20->(a.u n).st≠1->a.f n.toNat=Vm.MS.nil
 PI:a.P.Inv T
 OI:a.O.Inv T
 lc:∀ n,0<=n->n<20->((a.u n).st≠0↔0<=a.s.loc n)
 st:∀ n,(a.u n).st=0\/(a.u n).st=1\/(a.u n).st=2
 out:∀ n,(n<0\/20<=n)->a.u n=PA.nil
 fd:∀ n i,0<=(a.u n).fd i/\(a.u n).fd i<=24
 bx:∀ n,(a.u n).bx.dU 0=false
structure cK (a:KA) (c:KC) (N:Nat) (T:Int):Prop where
 qO:c.q.toSF.Ok c.d N N
 qR:c.q.mv
 F:c.F.toFF.Ok c.dF T
 rp:c.F.rP=c.rp
 rc:c.F.rC=c.rc
 rl:c.F.roots=c.rl
 tb:∀ z,0<=z->z<6->a.s.aa z=true->(c.t z.toNat).Ok
 tk:∀ n,0<=n->n<20->c.q.aa (10+n)=true->(a.u n).st=1
theorem FF.Ok.up{s:Tr.FF}{d:Int->Nat}{B':Int}(h:s.Ok d B)(hB:B<=B'):s.Ok d B':=⟨h.inv,fun n a b=>Int.le_trans (h.bj n a b) hB,Int.le_trans h.nn hB⟩
theorem KA.Wk.up{a:KA}{T':Int}(h:a.Wk T)(hT:T<=T')(Rm:T'<=1000000):a.Wk T':=⟨⟨by have:=h.T0;omega,Rm⟩,h.gI,h.gS.mono og,h.sI,h.sys,h.sx,h.PI.mono hT,h.OI.mono hT,h.lc,h.st,h.out,h.fd,h.bx⟩
theorem cK.up{a:KA}{c:KC}{N N':Nat}{T T':Int}(h:cK a c N T)(hN:N<=N')(hT:T<=T'):cK a c N' T':=⟨h.qO.mono hN og,h.qR,FF.Ok.up h.F hT,h.rp,h.rc,h.rl,h.tb,h.tk⟩
def cK.sh{a:KA}{c:KC}{N:Nat}{T:Int}(h:cK a c N T)(hT:T<=1000000):c.F.toFF.Sh:=h.F.sh hT
def Rn(s:Tr.FF)(n m:Int):(s.kO n).bj m<=s.bj m\/(s.kO n).bj m=0:=by
 unfold Tr.FF.kO;split
 ·have e:ad s.bj n (s.bj n-1) m<=s.bj m:=by
   grind [aj,ae]
  unfold Tr.FF.q8;split
  ·by_cases c:m=n
   ·right;subst c;exact aj _ _ _
   ·left;exact Int.le_trans (Int.le_of_eq (ae _ _ c)) e
  simp_all
 omega
theorem FF.Ok.Y2{s:Tr.FF}{d:Int->Nat}(h:s.Ok d B)(n:Int):(s.kO n).Ok d B:=
 ⟨(h.kO n).inv,fun m a b=>by
  have h1:=h.bj m a b
  have h2:=h.nn
  rcases Rn s n m with q | q<;>omega,h.nn⟩
def FF.Ok.aaV:∀ (l:List MT) {s:Tr.FF} {d:Int->Nat} {B:Int},s.Ok d B->(DD s l).Ok d B
 | [],_,_,_,h=>h
 | m::r,_,_,_,h=>FF.Ok.aaV r (FF.Ok.Y2 (FF.Ok.Y2 h _) _)
def FF.Ok.Y3{s:Tr.FF}{d:Int->Nat}(h:s.Ok d B)(l:List MT)(r:WH):(Ca s l r).Ok d B:=FF.Ok.Y2 (FF.Ok.aaV l h) _
theorem FF.Ok.uC{s:Tr.FF}{d:Int->Nat}(h:s.Ok d B)(O:Tr.OS)(n:Int):(mY s O n).Ok d B:=by
 unfold mY;split;all_goals grind [FF.Ok.Y2]
theorem OS.Inv.uC{O:Tr.OS}{J:Int}(h:O.Inv J)(n:Int):(kR O n).Inv J:=by
 have hm:=h.close n;refine⟨fun m a b=> ?_,hm.at_,hm.aN,hm.cb⟩;have h1:=(hm.cP m a b).1;have h2:=(h.cP m a b);refine⟨h1,?_⟩;unfold kR;split
 ·omega
 ·split
  ·show ad O.cP n (O.cP n-1) m<=J;grind [aj,ae]
  ·show ad O.cP n 0 m<=J;grind [aj,ae]
theorem Vt{P:Tr.PS}{K:Int}(h:P.Inv K)(n:Int)(w:Bool):(P.mL n w (-1)).2.Inv K:=by
 have hm:=Tr.PS.Ve (n:=n) (w:=w) h (.inr rfl);have iD:∀ m k,(P.mL n w (-1)).2.e m k<=P.e m k:=fun m k=>by
  unfold Tr.PS.mL;split
  ·simp_all
  ·split;all_goals grind [cI]
 exact⟨fun m=>⟨(hm.e0 m).1,Int.le_trans (iD m 0) (h.e0 m).2⟩,fun m=>⟨(hm.e1 m).1,Int.le_trans (iD m 1) (h.e1 m).2⟩,hm.cl,hm.len⟩
theorem PS.uC{P:Tr.PS}{K:Int}(h:P.Inv K)(O:Tr.OS)(n:Int):(kQ P O n).Inv K:=by
 unfold kQ;split;all_goals grind [Vt]
theorem uD{g:Gr.TG}(h:g.Inv)(hS:g.bV B)(n p m:Int):(g.dz n p m).bV B:=by
 have hI:=h.dz n p m;intro y y0 y1;have h1:=hS y y0 y1;unfold Gr.TG.dz at hI ⊢;split
 ·rename_i c;rw[if_pos c]at hI;obtain⟨⟨n0,n1,n2⟩,p0,p1,m0,m1⟩:=Gr.TG.ya c;have hw:=h.ok.dm n0 n1 n2;show-B<=g.pr y+ -p*((g.dm n).count y:Int)/\g.pr y+ -p*((g.dm n).count y:Int)<=B/\ -B<=g.pg y+ -m*((g.dm n).count y:Int)/\g.pg y+ -m*((g.dm n).count y:Int)<=B;have k0:(0:Int)<=((g.dm n).count y:Int):=og;have e1:0<=p*((g.dm n).count y:Int):=Int.mul_nonneg og k0;have e2:0<=m*((g.dm n).count y:Int):=Int.mul_nonneg og k0;have e3: -p*((g.dm n).count y:Int)= -(p*((g.dm n).count y:Int)):=Int.neg_mul _ _;have e4: -m*((g.dm n).count y:Int)= -(m*((g.dm n).count y:Int)):=Int.neg_mul _ _;by_cases q:y∈g.dm n
  ·have hn:=hI.nn y0 y1 (hw.2.2 y q);have hn1:0<=g.pr y+ -p*((g.dm n).count y:Int)/\0<=g.pg y+ -m*((g.dm n).count y:Int):=hn;omega
  grind
 omega
theorem ou{f:Int->Int}{x:Int} :∀ {k:Nat},x∈eo f k↔∃ j:Int,0<=j/\j<k/\0<=f j/\f j=x
 | 0=>by simp[eo];omega
 | k+1=>by
  rw[eo,List.mem_append,ou];constructor
  ·rintro(⟨j,a,b,c,d⟩ | h)
   ·exact⟨j,a,og,c,d⟩
   ·split at h
    ·rename_i q;exact⟨k,og,og,q,(List.mem_singleton.1 h).symm⟩
    ·cases h
  ·rintro⟨j,a,b,c,d⟩;by_cases e:j=(k:Int)
   ·subst e;right;rw[if_pos c];exact List.mem_singleton.2 d.symm
   ·exact .inl ⟨j,a,og,c,d⟩
def px{f:Int->Int}(hi:∀ q q',0<=f q->f q'=f q->q'=q):∀ k:Nat,(eo f k).Nodup
 | 0=>List.nodup_nil
 | k+1=>by
  rw[eo];split
  ·rename_i c;refine List.nodup_append.2 ⟨px hi k,List.nodup_cons.2 ⟨sq,List.nodup_nil⟩,fun x hx y hy=> ?_⟩;rw[List.mem_singleton.1 hy];rintro rfl;obtain⟨j,a,b,_,d⟩:=ou.1 hx;grind
  ·rw[List.append_nil];exact px hi k
theorem yW{s:Sp.SS}{aQ:Int->Nat}(h:s.Inv aQ)(z:Int):(s.mem z).1.Nodup:=by
 unfold Sp.SS.mem;split
 ·simp_all
 ·exact px (fun q q' a b=>h.inj z q q' a b) 21
theorem uE(s:Sp.SS)(z:Int):(s.drop z).2.loc=s.loc:=by
 unfold Sp.SS.drop;grind
def HN{s:Sp.SS}(hp:0<=p/\p<20):(s.gw p).2.loc p<0:=by
 unfold Sp.SS.gw;split
 ·rename_i c;unfold Sp.SS.bU at c;grind
 ·show ad s.loc p (-1) p<0;grind [aj]
theorem uF(s:Sp.SS)(h:m≠p):(s.gw p).2.loc m=s.loc m:=by
 unfold Sp.SS.gw;split
 ·rfl
 ·exact ae _ _ h
theorem SS.xj(s:Sp.SS)(z:Int):((s.drop z).1≠0/\(s.drop z).2=s)\/((s.drop z).1=0/\(0<=z/\z<6)/\z≠0/\s.aa z=true/\(s.drop z).2= {s with aa:=ad s.aa z false,aD:=ad s.aD z 0} /\(∀ j,s.dv z j<0\/¬(0<=j/\j<21))/\∀ j:Int,0<=j->j<6->¬(s.aa j=true/\s.aD j=z)):=by
 by_cases h:(s.drop z).1=0
 ·right;refine⟨h,?_⟩;unfold Sp.SS.drop at h ⊢;split at h
  ·omega
  ·rename_i c;have hi:(0<=z/\z<6)/\s.aa z=true:=by
    have c:s.is z=0:=og;unfold Sp.SS.is at c;grind
   rw[if_neg c];split at h
   ·omega
   ·rename_i d;rw[if_neg d];split at h
    ·omega
    ·rename_i e;refine⟨hi.1,fun q=>d (.inl q),hi.2,rfl,fun j=> ?_,fun j j0 j1 q=> ?_⟩
     ·by_cases q:0<=j/\j<21
      ·left;refine Decidable.byContradiction fun r=>d (.inr ?_);have:s.dv z j∈s.fU z:=ou.2 ⟨j,og,og,og,rfl⟩;simp_all
      omega
     ·unfold Sp.SS.kids at e;have:=qV e j j0 og;simp_all
 grind [My]
def E3(f:Int->Int)(i:Int):Int->Int:=fun j=>if 0<=j/\j<i/\f j>0 then 0 else f j
theorem afR(f:Int->Int):E3 f 0=f:=by funext j;unfold E3;rw[if_neg og]
theorem Y4(f:Int->Int)(hi:0<=i)(h:f i>0):ad (E3 f i) i 0=E3 f (i+1):=by
 grind [E3,ad]
theorem Vu(f:Int->Int)(h:¬f i>0):E3 f i=E3 f (i+1):=by
 grind [E3]
def DE(f:Int->Int)(O:Tr.OS)(P:Tr.PS):Nat->Tr.OS×Tr.PS
 | 0=>(O,P)
 | k+1=>if f (k:Int)>0 then(kR (DE f O P k).1 (f (k:Int)-1),kQ (DE f O P k).2 (DE f O P k).1 (f (k:Int)-1))else DE f O P k
theorem Y5(O:Tr.OS)(P:Tr.PS)(hi:0<=i)(h:f i>0):DE f O P (i+1).toNat=(kR (DE f O P i.toNat).1 (f i-1),kQ (DE f O P i.toNat).2 (DE f O P i.toNat).1 (f i-1)):=by
 rw[show(i+1).toNat=i.toNat+1 by omega];grind [DE]
theorem Vv(O:Tr.OS)(P:Tr.PS)(hi:0<=i)(h:¬f i>0):DE f O P (i+1).toNat=DE f O P i.toNat:=by
 rw[show(i+1).toNat=i.toNat+1 by omega];grind [DE]
def yX{f:Int->Int}{O:Tr.OS}{P:Tr.PS}{T:Int}(hO:O.Inv T)(hP:P.Inv T):∀ k:Nat,(DE f O P k).1.Inv T/\(DE f O P k).2.Inv T
 | 0=>⟨hO,hP⟩
 | k+1=>by
  obtain⟨h1,h2⟩:=yX (f:=f) hO hP k;grind [DE,OS.Inv.uC,PS.uC]
abbrev KA.um(a:KA)(n:Int):Int×Int×VB×Vm.MS:=(a.f n.toNat).cS a.v 0 16
def Ro{m:Vm.MS}(h:m.Ok)(v:VB):(m.cS v 0 16).2.2.2=Vm.MS.nil:=by
 unfold Vm.MS.cS;rw[if_neg dq];have e:∀ {α:Type} (f:Int->α) (v:α),(∀ i,i<0\/16<=i->f i=v)->df f 0 16 v=fun _=>v:=fun f v h=>by
  funext i;unfold df;split;all_goals grind
 have h1:∀ i,i<0\/16<=i->m.fr i=0:=fun i hi=>h.un i (h.f.out i hi);show Vm.MS.mk _ _ _=_;rw[e m.ax 0 h.f.out,e m.fr 0 h1,e m.aX false fun i hi=>h.ow i (h1 i hi)];rfl
def KA.cV(a:KA)(n co:Int):KA:=
 {a with u:=ad a.u n {a.u n with st:=2,kf:=co,fd:=E3 (a.u n).fd 6},g:=a.g.dz (a.u n).cL 0 (a.um n).1,v:=(a.um n).2.2.1,f:=(aJ a.f n.toNat (a.um n).2.2.2),O:=(DE (a.u n).fd a.O a.P 6).1,P:=(DE (a.u n).fd a.O a.P 6).2}
def nl{α:Type}(f:Int->α)(n m:Int)(x:α){Q:α->Prop}(h1:m=n->Q x)(h2:m≠n->Q (f m)):Q (ad f n x m):=by
 grind [ad]
theorem KA.Wk.cV{a:KA}{T:Int}(h:a.Wk T){n:Int}(hn:0<=n/\n<20)(hl:(a.u n).st=1)(co:Int):(a.cV n co).Wk T where
 T0:=h.T0
 gI:=h.gI.dz _ _ _
 gS:=uD h.gI h.gS _ _ _
 sI:=h.sI
 sys:=h.sys.cS (z:=n.toNat) og 0 16
 sx:=fun m h0 h1 h2=>by
  show aJ a.f n.toNat (a.um n).2.2.2 m.toNat=_
  by_cases e:m=n
  ·subst e;rw[bW];exact Ro (h.sys.mo _ og) _
  ·rw[b7 _ _ og]
   refine h.sx m h0 h1 fun q=>h2 ?_
   show(ad a.u n _ m).st=1
   rw[ae _ _ e];exact q
 PI:=(yX (f:=(a.u n).fd) h.OI h.PI 6).2
 OI:=(yX (f:=(a.u n).fd) h.OI h.PI 6).1
 lc:=fun m a0 a1=>nl a.u n m _ (Q:=fun x=>x.st≠0↔0<=a.s.loc m) (fun e=>by
  subst e;exact⟨fun _=>(h.lc m a0 a1).1 og,fun _=>(by decide:(2:Int)≠0)⟩) fun _=>h.lc m a0 a1
 st:=fun m=>nl a.u n m _ (Q:=fun x=>x.st=0\/x.st=1\/x.st=2) (fun _=>.inr (.inr rfl)) fun _=>h.st m
 out:=fun m hm=>by
  show ad a.u n _ m=_
  rw[ae _ _ og];exact h.out m hm
 fd:=fun m i=>nl a.u n m _ (Q:=fun x=>0<=x.fd i/\x.fd i<=24) (fun _=>by
  have:=h.fd n i
  show 0<=E3 _ 6 i/\E3 _ 6 i<=24
  unfold E3;split<;>omega) fun _=>h.fd m i
 bx:=fun m=>nl a.u n m _ (Q:=fun x=>x.bx.dU 0=false) (fun _=>h.bx n) fun _=>h.bx m
def KA.eY(a:KA)(n:Int):KA:= {a with u:=ad a.u n PA.nil,g:=a.g.dz (a.u n).cL 1 0,s:=(a.s.gw n).2}
theorem KA.Wk.eY{a:KA}{T:Int}(h:a.Wk T){n:Int}(hn:0<=n/\n<20)(hs:(a.u n).st≠1):(a.eY n).Wk T where
 T0:=h.T0
 gI:=h.gI.dz _ _ _
 gS:=uD h.gI h.gS _ _ _
 sI:=h.sI.gw _
 sys:=h.sys
 sx:=fun m h0 h1 h2=>by
  by_cases e:m=n
  ·subst e;exact h.sx m h0 h1 hs
  ·refine h.sx m h0 h1 (fun q=>h2 ?_)
   show(ad a.u n _ m).st=1
   rw[ae _ _ e];exact q
 PI:=h.PI
 OI:=h.OI
 lc:=fun m a0 a1=>by
  show(ad a.u n PA.nil m).st≠0↔0<=(a.s.gw n).2.loc m
  by_cases e:m=n
  ·subst e
   rw[aj]
   exact⟨fun q=>absurd rfl q,fun q=>absurd q (by have:=HN (s:=a.s) (p:=m) hn;omega)⟩
  ·rw[ae _ _ e,uF _ e];exact h.lc m a0 a1
 st:=fun m=>nl a.u n m _ (Q:=fun x=>x.st=0\/x.st=1\/x.st=2) (fun _=>.inl rfl) fun _=>h.st m
 out:=fun m hm=>nl a.u n m _ (Q:=fun x=>x=PA.nil) (fun _=>rfl) fun _=>h.out m hm
 fd:=fun m i=>nl a.u n m _ (Q:=fun x=>0<=x.fd i/\x.fd i<=24) (fun _=>by simp[PA.nil]) fun _=>h.fd m i
 bx:=fun m=>nl a.u n m _ (Q:=fun x=>x.bx.dU 0=false) (fun _=>rfl) fun _=>h.bx m
def KA.fL(a:KA)(z:Int):KA:= {a with s:=(a.s.drop z).2}
theorem KA.Wk.fL{a:KA}{T:Int}(h:a.Wk T)(z:Int):(a.fL z).Wk T:=⟨h.T0,h.gI,h.gS,h.sI.drop z,h.sys,h.sx,h.PI,h.OI,(fun n a0 a1=>by rw[show(a.fL z).s.loc=a.s.loc from uE _ _];exact h.lc n a0 a1),h.st,h.out,h.fd,h.bx⟩
def jO(f:Int->Int)(a:Int):Int:=match dS (fun k=>decide (a<=k)&&(f k==0)) 6 with
 | some k=>k
 | none=> -1
theorem Rp{a:Int}(h0:0<=i/\a<=i/\i<6)(h1:f i=0)(hn:∀ j:Int,0<=j->a<=j->j<i->f j≠0):jO f a=i:=by
 unfold jO;have e:dS (fun k=>decide (a<=k)&&(f k==0)) 6=some i.toNat:=by
  grind [fq]
 grind
theorem M2{a:Int}(hn:∀ j:Int,0<=j->a<=j->j<6->f j≠0):jO f a= -1:=by
 grind [jO,ft]
def KP.eZ(k:KP)(n i:Int):Int:=if k.aA n≠0 then k.aA n else if i<0\/6<=i then 1 else if(k.u n).fd i=0 then 2 else 0
def KP.dx(k:KP)(n i:Int):Int:=if k.eZ n i=0 then(k.u n).fd i-1 else 0
theorem KP.sy{k:KP}(h:k.eZ n i=0):(0<=n/\n<20)/\(k.u n).st=1/\(0<=i/\i<6)/\(k.u n).fd i≠0/\k.dx n i=(k.u n).fd i-1:=by
 have hv:k.dx n i=(k.u n).fd i-1:=by unfold KP.dx;rw[if_pos h]
 unfold KP.eZ at h;split at h
 ·omega
 ·split at h
  ·omega
  ·split at h
   ·omega
   ·have:=bJ (k:=k) (n:=n) og;omega
theorem acN(a:KA)(b:KZ)(c:KC)(n:Int):(kp a b c).put n {(kp a b c).u n with fd:=E3 (a.u n).fd 0} =kp a b c:=by
 rw[afR];exact Bc _ _
theorem acO(a:KA)(b:KZ)(c:KC)(hi:0<=i)(h:(a.u n).fd i>0):((kp a b c).put n {(kp a b c).u n with fd:=E3 (a.u n).fd i}).put n {((kp a b c).put n {(kp a b c).u n with fd:=E3 (a.u n).fd i}).u n with fd:=ad (((kp a b c).put n {(kp a b c).u n with fd:=E3 (a.u n).fd i}).u n).fd i 0} =(kp a b c).put n {(kp a b c).u n with fd:=E3 (a.u n).fd (i+1)} :=by
 grind [KP.Ht,KP.sR,Y4]
theorem acP(a:KA)(b:KZ)(c:KC)(hl:(a.u n).st=1)(hn:0<=n/\n<20)(K:KP)(hK:K=(kp a b c).put n {(kp a b c).u n with fd:=E3 (a.u n).fd 6}):(K.put n {K.u n with st:=2}).put n {(K.put n {K.u n with st:=2}).u n with kf:=co} =kp (a.cV n co) b c:=by
 subst hK;rw[KP.sR,KP.Ht,KP.Ht,KP.sR];refine(HL a b c n {a.u n with st:=2,kf:=co,fd:=E3 (a.u n).fd 6} _ ?_).trans rfl;show PU.mk 2 (a.u n).aD (a.u n).cL co (if(a.u n).st=0 then _ else _) _ _=PU.mk 2 (a.u n).aD (a.u n).cL co (if(2:Int)=0 then _ else _) _ _;rw[if_neg og,if_neg og];rfl
theorem Y6(a:KA)(hl:(a.u n).st=1):jg (a.cV n co)=jg a:=by
 refine(vy fun m _ _=> ?_).symm;show(a.u m).st=0↔(ad a.u n _ m).st=0;grind [aj,ae]
theorem Y7(a:KA)(b:KZ)(c:KC)(n:Int):(kp a b c).put n PU.nil=kp (a.eY n) b c:=by
 refine KP.ext (fun m=> ?_) ?_ ⟨⟨rfl,rfl,rfl,rfl⟩,rfl,rfl,rfl⟩
 ·by_cases e:m=n
  ·subst e;rw[KP.sR];show _=(ad a.u m PA.nil m).pu _;rw[aj];rfl
  ·rw[KP.Ag _ _ e];show(a.u m).pu _=(ad a.u n PA.nil m).pu _;grind [ae]
 ·have e:(a.s.gw n).2.aa=a.s.aa:=by unfold Sp.SS.gw;split<;>rfl
  show _=fun z=>if(a.s.gw n).2.aa z then _ else _
  rw[e];rfl
theorem wq(s:Sp.SS)(n:Int):(s.gw n).2.aa=s.aa:=by unfold Sp.SS.gw;split<;>rfl
theorem Vw(a:KA)(n:Int):lu (a.eY n)=lu a:=by
 grind [lu,KA.eY,wq]
theorem Vy(a:KA)(hn:0<=n/\n<20):jg (a.eY n)=ji (jg a) n.toNat:=(vy fun _ _ _=>Iff.rfl).trans (Vr (p:=PA.nil) hn rfl)
theorem Vz{a:KA}(hz:0<=z/\z<6)(h:(a.s.drop z).2= {a.s with aa:=ad a.s.aa z false,aD:=ad a.s.aD z 0}):lu (a.fL z)=ji (lu a) z.toNat:=by
 funext j;rw[Bool.eq_iff_iff,iS,Cb,Cb];show j<6/\(a.s.drop z).2.aa j=true↔_;rw[h];grind [aj,ae]
def VA(a:KA)(b:KZ)(c:KC)(h:a.s.aa z=true):(kp a b c).ms z=az (c.t z.toNat).b 0 0:=if_pos h
theorem Y8(a:KA)(b:KZ)(c:KC)(h:(a.s.drop z).2= {a.s with aa:=ad a.s.aa z false,aD:=ad a.s.aD z 0}):({kp a b c with ms:=ad (kp a b c).ms z (.pointer none)} :KP)=kp (a.fL z) b c:=by
 refine KP.ext (fun m=>rfl) ?_ ⟨⟨rfl,rfl,rfl,rfl⟩,rfl,rfl,rfl⟩;show ad (kp a b c).ms z (.pointer none)=fun y=>if(a.s.drop z).2.aa y then az (c.t y.toNat).b 0 0 else .pointer none
 rw[h];grind [ad,kp]
def KA.gQ(h:Int)(a:KA)(m:Int):KA:=if m=h then a else(if(a.u m).st=1 then a.cV m 0 else a).eY m
def KA.round(a:KA):KA:=(Sp.gB a.s.aa 6).foldl KA.fL a
def KA.fU(a:KA)(z h:Int):KA:=(a.s.mem z).1.foldl (KA.gQ h) a
def KA.fY(a:KA):Nat->KA
 | 0=>a
 | k+1=>(a.fY k).round
def KA.ec(a:KA)(z h:Int):KA:=(a.fU z h).fY 4
theorem M3{α β:Type}(f:α->β->α)(a:α)(l:List β)(x:β):(l++[x]).foldl f a=f (l.foldl f a) x:=by simp_all
theorem ov(a:KA)(co:Int)(h:m≠n):(a.cV n co).u m=a.u m:=ae _ _ h
theorem mj(a:KA)(h:m≠n):(a.eY n).u m=a.u m:=ae _ _ h
theorem yY(a:KA)(h:Int)(e:m≠n):(a.gQ h n).u m=a.u m:=by
 grind [KA.gQ,mj,ov]
theorem ml(a:KA)(n co:Int):((a.cV n co).u n).st=2:=by
 show(ad a.u n _ n).st=2;rw[aj]
def DF{s:Sp.SS}(h:p∈(s.mem z).1):∃ q:Int,0<=q/\q<21/\s.dv z q=p/\0<=p:=by
 unfold Sp.SS.mem at h;split at h
 ·cases h
 ·obtain⟨j,h0,h1,h2,h3⟩:=ou.1 h;grind
theorem Gg(a:KA)(h:Int){m:Int} :∀ {l:List Int},m∉l->(l.foldl (KA.gQ h) a).u m=a.u m
 | [],_=>rfl
 | x::r,hm=>by
  rw[List.foldl_cons,Gg (a.gQ h x) h fun q=>hm (.tail _ q),yY _ _ (by rintro rfl;exact hm (.head _))]
theorem KA.Wk.gQ{a:KA}{T:Int}(w:a.Wk T)(h:Int){m:Int}(hm:0<=m/\m<20):(a.gQ h m).Wk T:=by
 grind [KA.gQ,KA.Wk.cV,ml,KA.Wk.eY]
theorem SS.mem_range{s:Sp.SS}{aQ:Int->Nat}(h:s.Inv aQ)(hp:p∈(s.mem z).1):(0<=p/\p<20)/\0<=s.loc p:=by
 obtain⟨q,_,_,e,p0⟩:=DF hp;have:=h.mem z q p p0 e;omega
def KA.Wk.DG{a:KA}(w:a.Wk T)(z:Int)(hp:p∈(a.s.mem z).1):(0<=p/\p<20)/\(a.u p).st≠0:=by
 grind [SS.mem_range,KA.Wk.sI,KA.Wk.lc]
def KA.Wk.VC{T:Int}(h:Int):∀ {l:List Int} {a:KA},a.Wk T->(∀ m∈l,0<=m/\m<20)->(l.foldl (KA.gQ h) a).Wk T
 | [],_,w,_=>w
 | x::r,_,w,hl=>KA.Wk.VC (l:=r) h (w.gQ h (hl x (.head _))) fun m hm=>hl m (.tail _ hm)
def KA.Wk.fU{a:KA}{T:Int}(w:a.Wk T)(z h:Int):(a.fU z h).Wk T:=KA.Wk.VC h w fun _ hm=>(SS.mem_range w.sI hm).1
def KA.Wk.uG{T:Int} :∀ {l:List Int} {a:KA},a.Wk T->(l.foldl KA.fL a).Wk T
 | [],_,w=>w
 | x::r,_,w=>KA.Wk.uG (l:=r) (w.fL x)
def KA.Wk.round{a:KA}{T:Int}(w:a.Wk T):a.round.Wk T:=KA.Wk.uG w
def KA.Wk.fY{a:KA}{T:Int}(w:a.Wk T):∀ k,(a.fY k).Wk T
 | 0=>w
 | k+1=>(w.fY k).round
theorem KA.Wk.ec{a:KA}{T:Int}(w:a.Wk T)(z h:Int):(a.ec z h).Wk T:=(w.fU z h).fY 4
theorem DH(a:KA)(h:0<=i):a.fY (i+1).toNat=(a.fY i.toNat).round:=by
 rw[show(i+1).toNat=i.toNat+1 by omega];rfl
theorem vz{l:List Int}(h:0<=i/\i<l.length):l.take (i+1).toNat=l.take i.toNat++[jc l i]:=aaM h
theorem VD{l:List Int}(hn:l.Nodup)(h:0<=i/\i<l.length):jc l i∉l.take i.toNat:=by
 intro q;have h1:(l.take i.toNat++l.drop i.toNat).Nodup:=by rwa[List.take_append_drop]
 grind [jc,List.drop_eq_getElem_cons]
theorem FF.mW(s:Tr.FF)(n:Int):(s.kO n).roots=s.roots:=by
 unfold Tr.FF.kO Tr.FF.q8;split
 ·split<;>rfl
 rfl
def wu:∀ (l:List MT) (s:Tr.FF),(DD s l).roots=s.roots
 | [],_=>rfl
 | m::r,s=>(wu r _).trans ((FF.mW _ _).trans (FF.mW _ _))
theorem sU(s:Tr.FF)(l:List MT)(r:WH):(Ca s l r).roots=s.roots:=(FF.mW _ _).trans (wu _ _)
def HO{s:Sp.SS}{y:Int}(h:(s.drop z).2.aa y=true):s.aa y=true:=by
 rcases SS.xj s z with⟨_,e⟩ | ⟨_,_,_,_,e,_⟩;all_goals simp_all[ad]
def sB(k:KP)(h:0<=z/\z<6){v:Value}(e:k.ms z=v):0+447+z.toNat*1<453/\aG k (0+447+z.toNat*1)=v:=by grind [aG]
theorem cK.VE{a:KA}{c:KC}{N:Nat}(h:cK a c N T)(hs:(a.u n).st≠1):cK (a.eY n) c N T:=⟨h.qO,h.qR,h.F,h.rp,h.rc,h.rl,fun z h0 h1 h2=>h.tb z h0 h1 (by rwa[show(a.eY n).s.aa=a.s.aa from wq _ _]at h2),fun m m0 m1 hm=>by
 have h1:=h.tk m m0 m1 hm
 have:m≠n:=by rintro rfl;exact hs h1
 rw[mj _ this];exact h1⟩
theorem py(x:BS)(n:Int)(h:x.dU 0=false):(x.send n).2.dU 0=false:=by
 unfold BS.send;split
 ·rename_i c;have:=(gJ n).1 c;show(if x.zR n=1 then x else _).dU 0=false;split;all_goals grind [ae]
 omega
def Bl{x y:BS}{h:Int}(e:∀ k:Int,0<=k->k<9->(x.dU k&&(!x.bj k&&decide (x.jm k=h)))=(y.dU k&&(!y.bj k&&decide (y.jm k=h)))):x.first h=y.first h:=by
 unfold BS.first
 have e2:dS (fun k=>x.dU k&&(!x.bj k&&decide (x.jm k=h))) 9=dS (fun k=>y.dU k&&(!y.bj k&&decide (y.jm k=h))) 9:=by
  cases hy:dS (fun k=>y.dU k&&(!y.bj k&&decide (y.jm k=h))) 9 with
  | none=>exact ft fun j j0 j1=>(e j j0 og).trans (qV hy j j0 j1)
  | some m=>
   obtain⟨h1,h2,h3⟩:=JI hy;have:=fq (p:=fun k=>x.dU k&&(!x.bj k&&decide (x.jm k=h))) (m:=9) (k:=(m:Int)) og og ((e m og og).trans h2) fun j j0 j1=>(e j j0 og).trans (h3 j j0 j1);rw[this];rfl
 rw[e2]
theorem Gh(x:BS):(x.send 3).2.first 0=x.first 0:=by
 unfold BS.send;rw[if_pos dq];show(if x.zR 3=1 then x else _).first 0=_
 split
 ·rfl
 ·rename_i c;refine Bl fun k k0 k1=> ?_;show(ad x.dU 3 true k&&_)=_;by_cases e:k=3
  ·subst e;have h0:¬x.jm 3=0:=fun q=>c (by unfold BS.zR;rw[if_pos ⟨rfl,q⟩]);simp_all
  grind [ae]
def KA.jJ(a:KA)(n:Int)(x:BS):KA:= {a with u:=ad a.u n {a.u n with bx:=x}}
def KA.aA(a:KA)(n:Int):Int:=if n<0\/20<=n then 1 else if(a.u n).st=1 then 0 else 2
theorem Y9(a:KA)(b:KZ)(c:KC)(n:Int):(kp a b c).aA n=a.aA n:=rfl
theorem aR{a:KA}(h:a.aA n=0):(0<=n/\n<20)/\(a.u n).st=1:=by
 grind [KA.aA]
def KA.OC{a:KA}(h:0<=n/\n<20)(e:(a.u n).st=1):a.aA n=0:=by grind [KA.aA]
theorem Ao(a:KA)(b:KZ)(c:KC)(n:Int)(x:BS):(kp a b c).box n x=kp (a.jJ n x) b c:=HL a b c n {a.u n with bx:=x} _ rfl
theorem yZ(a:KA)(x:BS)(h:m≠n):(a.jJ n x).u m=a.u m:=ae _ _ h
theorem HP(a:KA)(n:Int)(x:BS):(a.jJ n x).u n= {a.u n with bx:=x} :=aj _ _ _
theorem gT(a:KA)(n m:Int)(x:BS):((a.jJ n x).u m).st=(a.u m).st:=by
 grind [HP,yZ]
theorem vA(a:KA)(n:Int)(x:BS):jg (a.jJ n x)=jg a:=vy fun m _ _=>by rw[gT]
theorem KA.Wk.jJ{a:KA}{T:Int}(h:a.Wk T){n:Int}(hn:0<=n/\n<20){x:BS}(hx:x.dU 0=false):(a.jJ n x).Wk T where
 T0:=h.T0
 gI:=h.gI
 gS:=h.gS
 sI:=h.sI
 sys:=h.sys
 sx:=fun m a0 a1 q=>h.sx m a0 a1 (by rwa[gT]at q)
 PI:=h.PI
 OI:=h.OI
 lc:=fun m a0 a1=>by rw[gT];exact h.lc m a0 a1
 st:=fun m=>by rw[gT];exact h.st m
 out:=fun m hm=>by rw[yZ _ _ og];exact h.out m hm
 fd:=fun m i=>nl a.u n m _ (Q:=fun z=>0<=z.fd i/\z.fd i<=24) (fun _=>h.fd n i) fun _=>h.fd m i
 bx:=fun m=>nl a.u n m _ (Q:=fun z=>z.bx.dU 0=false) (fun _=>hx) fun _=>h.bx m
def KA.head(a:KA)(n:Int):Int:=(a.s.find (a.s.bU n).1 1).1
def KA.dI(a:KA)(n h:Int):KA:= {a with u:=fun j=>if 0<=j/\j<20/\(a.u j).st≠0/\(a.u j).aD=n then {a.u j with aD:=h} else a.u j}
theorem dP(a:KA)(n h j:Int):((a.dI n h).u j).st=(a.u j).st/\((a.dI n h).u j).bx=(a.u j).bx/\((a.dI n h).u j).cL=(a.u j).cL/\((a.dI n h).u j).kf=(a.u j).kf/\((a.dI n h).u j).fd=(a.u j).fd:=by
 show((if 0<=j/\j<20/\(a.u j).st≠0/\(a.u j).aD=n then {a.u j with aD:=h} else a.u j):PA).st=_/\((if 0<=j/\j<20/\(a.u j).st≠0/\(a.u j).aD=n then {a.u j with aD:=h} else a.u j):PA).bx=_/\((if 0<=j/\j<20/\(a.u j).st≠0/\(a.u j).aD=n then {a.u j with aD:=h} else a.u j):PA).cL=_/\((if 0<=j/\j<20/\(a.u j).st≠0/\(a.u j).aD=n then {a.u j with aD:=h} else a.u j):PA).kf=_/\((if 0<=j/\j<20/\(a.u j).st≠0/\(a.u j).aD=n then {a.u j with aD:=h} else a.u j):PA).fd=_;grind
theorem Ky(a:KA)(b:KZ)(c:KC)(n h:Int):(kp a b c).kI n h 20=kp (a.dI n h) b c:=by
 refine KP.ext (fun m=> ?_) rfl ⟨⟨rfl,rfl,rfl,rfl⟩,rfl,rfl,rfl⟩;show(if 0<=m/\m<20/\(a.u m).st≠0/\(a.u m).aD=n then {(a.u m).pu _ with aD:=h} else(a.u m).pu _)=PA.pu (if 0<=m/\m<20/\(a.u m).st≠0/\(a.u m).aD=n then {a.u m with aD:=h} else a.u m) _;split<;>rfl
theorem Gi(a:KA)(n h:Int):jg (a.dI n h)=jg a:=by grind [dP,jg]
def KA.Wk.dI{a:KA}{T:Int}(w:a.Wk T)(n h:Int):(a.dI n h).Wk T where
 T0:=w.T0
 gI:=w.gI
 gS:=w.gS
 sI:=w.sI
 sys:=w.sys
 sx:=fun m a0 a1 q=>w.sx m a0 a1 (by rwa[(dP _ _ _ _).1]at q)
 PI:=w.PI
 OI:=w.OI
 lc:=fun m a0 a1=>by rw[(dP _ _ _ _).1];exact w.lc m a0 a1
 st:=fun m=>by rw[(dP _ _ _ _).1];exact w.st m
 out:=fun m hm=>by
  show(if 0<=m/\m<20/\(a.u m).st≠0/\(a.u m).aD=n then {a.u m with aD:=h} else a.u m)=PA.nil
  rw[if_neg og];exact w.out m hm
 fd:=fun m i=>by rw[(dP _ _ _ _).2.2.2.2];exact w.fd m i
 bx:=fun m=>by rw[(dP _ _ _ _).2.1];exact w.bx m
def KA.jU(a:KA)(p:Int):KA:=if a.aA p=0 then a.jJ p ((a.u p).bx.send 3).2 else a
theorem KA.Wk.jU{a:KA}{T:Int}(w:a.Wk T)(p:Int):(a.jU p).Wk T:=by
 grind [KA.jU,KA.Wk.jJ,aR,py,KA.Wk.bx]
def KA.gW(a:KA)(n co:Int):KA:=if a.head n=n then(a.cV n co).ec (a.s.bU n).1 n else a.cV n co
def KA.dc(a:KA)(n co:Int):KA:=((a.gW n co).dI n (a.head n)).jU (((a.gW n co).dI n (a.head n)).u n).aD
theorem KA.Wk.gW{a:KA}{T:Int}(w:a.Wk T){n:Int}(hn:0<=n/\n<20)(hl:(a.u n).st=1)(co:Int):(a.gW n co).Wk T:=by
 unfold KA.gW;split
 ·exact(w.cV hn hl co).ec _ _
 grind [KA.Wk.cV]
theorem KA.Wk.dc{a:KA}{T:Int}(w:a.Wk T){n:Int}(hn:0<=n/\n<20)(hl:(a.u n).st=1)(co:Int):(a.dc n co).Wk T:=((w.gW hn hl co).dI _ _).jU _
def KA.Hx(a:KA)(n:Int):Prop:=∀ p,0<=p->p<20->p≠n->(a.u p).st=1->(a.u p).bx.first 0=0\/a.s.dv (a.s.loc p) 1=p
theorem KA.Hx.cV{a:KA}{n:Int}(h:a.Hx n)(co:Int):(a.cV n co).Hx n:=fun p h0 h1 h2 h3=>by
 rw[ov _ _ h2]at h3 ⊢;exact h p h0 h1 h2 h3
def KA.Hx.ait{a:KA}(h:a.Hx n)(co:Int):(a.cV m co).Hx n:=fun p h0 h1 h2 h3=>by
 by_cases e:p=m
 ·grind [ml]
 ·rw[ov _ _ e]at h3 ⊢;exact h p h0 h1 h2 h3
def y8{s:Sp.SS}{q:Int}(e:p≠n)(h:s.dv z q=p):(s.gw n).2.dv z q=p:=by
 unfold Sp.SS.gw;split
 ·omega
 ·show(if s.dv z q=n then-1 else s.dv z q)=p;omega
theorem KA.Hx.eY{a:KA}{n m:Int}(h:a.Hx n):(a.eY m).Hx n:=fun p h0 h1 h2 h3=>by
 by_cases e:p=m
 ·simp_all[KA.eY,PA.nil,aj]
 ·rw[mj _ e]at h3 ⊢;rcases h p h0 h1 h2 h3 with q | q
  ·omega
  ·right;show(a.s.gw m).2.dv ((a.s.gw m).2.loc p) 1=p;rw[uF _ e];exact y8 e q
theorem Bm(s:Sp.SS)(z:Int):(s.drop z).2.dv=s.dv:=by
 grind [SS.xj]
theorem KA.Hx.fL{a:KA}{n:Int}(h:a.Hx n)(z:Int):(a.fL z).Hx n:=fun p h0 h1 h2 h3=>by
 show _\/(a.s.drop z).2.dv ((a.s.drop z).2.loc p) 1=p;rw[Bm,uE];exact h p h0 h1 h2 h3
def KA.Hx.VC{n:Int}(k:Int):∀ {l:List Int} {a:KA},a.Hx n->(l.foldl (KA.gQ k) a).Hx n
 | [],_,w=>w
 | x::r,a,w=>KA.Hx.VC k (l:=r) (by
   unfold KA.gQ
   split
   ·exact w
   ·refine KA.Hx.eY ?_
    split
    ·exact w.ait 0
    ·exact w)
def KA.Hx.uG{n:Int} :∀ {l:List Int} {a:KA},a.Hx n->(l.foldl KA.fL a).Hx n
 | [],_,w=>w
 | x::r,_,w=>KA.Hx.uG (l:=r) (w.fL x)
def KA.Hx.fY{a:KA}{n:Int}(w:a.Hx n):∀ k,(a.fY k).Hx n
 | 0=>w
 | k+1=>KA.Hx.uG (w.fY k)
theorem KA.Hx.gW{a:KA}{n:Int}(w:a.Hx n)(co:Int):(a.gW n co).Hx n:=by
 unfold KA.gW;split
 ·exact KA.Hx.fY (KA.Hx.VC n (w.cV co)) 4
 grind [KA.Hx.cV]
def KA.Hx.dI{a:KA}{n:Int}(w:a.Hx n)(m h:Int):(a.dI m h).Hx n:=fun p h0 h1 h2 h3=>by
 rw[(dP _ _ _ _).1]at h3;rw[(dP _ _ _ _).2.1];exact w p h0 h1 h2 h3
theorem KA.Hx.jU{a:KA}{n:Int}(w:a.Hx n)(m:Int):(a.jU m).Hx n:=fun p h0 h1 h2 h3=>by
 unfold KA.jU at h3 ⊢;split
 ·rename_i c;rw[if_pos c,gT]at h3;by_cases e:p=m
  ·subst e;rw[HP];show((a.u p).bx.send 3).2.first 0=0\/_
   rw[Gh];exact w p h0 h1 h2 h3
  ·rw[yZ _ _ e];exact w p h0 h1 h2 h3
 grind [KA.Hx]
theorem KA.Wk.Kz{a:KA}(w:a.Wk T)(h0:0<=p/\p<20)(hs:(a.u p).st≠0)(h:a.s.dv (a.s.loc p) 1=p):a.head p=p:=by
 have h1:=(w.lc p h0.1 h0.2).1 hs;have h2:=w.sI.loc p;have h3:=w.sI.at_ p h0.1 h0.2 h1;have e1:a.s.bU p=(a.s.loc p,0):=by unfold Sp.SS.bU;rw[if_neg og,if_neg og]
 unfold KA.head;rw[e1];have e2:a.s.is (a.s.loc p)=0:=by unfold Sp.SS.is;rw[if_neg og,if_pos h3]
 show(a.s.find (a.s.loc p) 1).1=p;unfold Sp.SS.find;grind
def KA.KD(a:KA)(n:Int)(o:Bool):Prop:=(a.u n).bx.first 0≠0/\(o=true\/a.head n≠n)
instance (a:KA) (n:Int) (o:Bool):Decidable (a.KD n o):=by unfold KA.KD;infer_instance
def KA.cH(a:KA)(n:Int)(o:Bool):KA:=if a.KD n o then a.dc n (128+(a.u n).bx.first 0)else a
def KA.wv(a:KA)(n sig:Int)(o:Bool):KA:=if a.aA n=0 then(a.jJ n ((a.u n).bx.send sig).2).cH n o else a
theorem DI(a:KA):∀ k,(a.fY k).u=a.u
 | 0=>rfl
 | k+1=>by
  show((Sp.gB (a.fY k).s.aa 6).foldl KA.fL (a.fY k)).u=a.u;have e:∀ (l:List Int) (x:KA),(l.foldl KA.fL x).u=x.u:=fun l=>by
   induction l with
   | nil=>intro x;rfl
   | cons y r ih=>intro x;rw[List.foldl_cons,ih];rfl
  rw[e];exact DI a k
theorem KE(h:Int):∀ (l:List Int) (a:KA),(l.foldl (KA.gQ h) a).u h=a.u h
 | [],_=>rfl
 | x::r,a=>by
  rw[List.foldl_cons,KE h r];by_cases e:h=x
  ·unfold KA.gQ;rw[if_pos e.symm]
  ·exact yY a h e
theorem KF(a:KA)(z h:Int):(a.ec z h).u h=a.u h:=by
 unfold KA.ec;rw[DI];unfold KA.fU;exact KE h _ a
theorem DJ(a:KA)(n co:Int):((a.gW n co).u n).st≠1:=by
 grind [ml,KA.gW,KF]
def Gj{a:KA}{b:KZ}{c:KC}(w:a.Wk T)(hx:a.Hx n)(hs:(a.u n).st≠1)(q:(kp a b c).aA p=0):(((kp a b c).u p).bx.send 3).2.first 0=0\/(false=false/\(a.s.find (a.s.bU p).1 1).1=p):=by
 obtain⟨h1,h2⟩:=aR (a:=a) (n:=p) q;have fN:p≠n:=by rintro rfl;exact hs h2
 rcases hx p h1.1 h1.2 fN h2 with e | e
 ·left;rw[Gh];exact e
 ·exact .inr ⟨rfl,w.Kz h1 og e⟩
def acQ(a:KA)(b:KZ)(c:KC)(p:Int):(if(kp a b c).aA p=0 then(kp a b c).box p (((kp a b c).u p).bx.send 3).2 else kp a b c)=kp (a.jU p) b c:=by
 unfold KA.jU;rw[Y9];split
 ·exact Ao a b c p _
 rfl
theorem Za(a:KA)(p:Int):jg (a.jU p)=jg a:=by
 grind [KA.jU,vA]
theorem uH(a:KA)(p:Int):(a.jU p).s=a.s/\(a.jU p).g=a.g/\(a.jU p).v=a.v/\(a.jU p).f=a.f/\(a.jU p).P=a.P/\(a.jU p).O=a.O:=by
 unfold KA.jU;split<;>exact⟨rfl,rfl,rfl,rfl,rfl,rfl⟩
theorem cK.ie{a:KA}{c:KC}{N:Nat}(h:cK a c N T)(n m p:Int):cK ((a.dI n m).jU p) c N T:=⟨h.qO,h.qR,h.F,h.rp,h.rc,h.rl,fun z h0 h1 h2=>h.tb z h0 h1 (by rwa[(uH _ _).1]at h2),fun j j0 j1 hj=>by
 have h1:=h.tk j j0 j1 hj
 unfold KA.jU;split
 ·rw[gT,(dP _ _ _ _).1];exact h1
 ·rw[(dP _ _ _ _).1];exact h1⟩
def cK.afS{a:KA}{c:KC}{N:Nat}(h:cK a c N T){t:SC}(ht:t.toSF=c.q.toSF.wb c.d n):∀ m,0<=m->m<20->t.aa (10+m)=true->((a.cV n co).u m).st=1:=fun m m0 m1 hm=>by
 have hm:t.toSF.aa (10+m)=true:=hm;rw[ht]at hm;obtain⟨h1,h2⟩:=Fa.SF.Me m0 m1 hm;rw[ov _ _ h1];exact h.tk m m0 m1 h2
end Go.X.Kn

namespace Go.X.Kn
open Go Go.X Go.X.Sg
variable{x:BS}{aX:Bool}{T T' i n p q v z:Int}{aQ:Int->Nat}{u:Int->PA}{c:KC}
theorem Gk(a:KA)(n h:Int):lu (a.dI n h)=lu a:=rfl
theorem cK.box{a:KA}{N:Nat}(h:cK a c N T)(n:Int)(x:BS):cK (a.jJ n x) c N T:=⟨h.qO,h.qR,h.F,h.rp,h.rc,h.rl,h.tb,fun m m0 m1 hm=>by rw[gT];exact h.tk m m0 m1 hm⟩
theorem y9(a:KA)(n:Int)(x:BS):lu (a.jJ n x)=lu a:=rfl
def KA.Hx.any{a:KA}(h:a.Hx (-1))(n:Int):a.Hx n:=fun p h0 h1 _ h3=>h p h0 h1 og h3
theorem KA.Hx.box{a:KA}(h:a.Hx n)(x:BS):(a.jJ n x).Hx n:=fun p h0 h1 h2 h3=>by
 grind [yZ,KA.Hx,KA.jJ]
theorem KA.Wk.ng{a:KA}(w:a.Wk T)(h:(a.u n).st≠0):0<=n/\n<20:=by
 by_cases e:n<0\/20<=n
 ·rw[w.out n e]at h;exact absurd rfl h
 omega
structure KA.R0 (a:KA):Prop where
 st:(a.u 0).st=1
 loc:a.s.loc 0=0
 dv:a.s.dv 0 1=0
structure KA.Ok (a:KA) (T:Int):Prop where
 wk:a.Wk T
 hx:a.Hx (-1)
 r0:a.R0
 d0:a.aQ 0=1
def Gl:∀ (l:List Int) (x:KA),(l.foldl KA.fL x).aQ=x.aQ
 | [],_=>rfl
 | _::r,x=>Gl r (x.fL _)
def DK(a:KA):∀ k,(a.fY k).aQ=a.aQ
 | 0=>rfl
 | k+1=>(Gl _ _).trans (DK a k)
def OU(h:Int):∀ (l:List Int) (x:KA),(l.foldl (KA.gQ h) x).aQ=x.aQ
 | [],_=>rfl
 | y::r,x=>(OU h r (KA.gQ h x y)).trans (by
  unfold KA.gQ;split
  ·rfl
  ·show(if(x.u y).st=1 then x.cV y 0 else x).aQ=_
   split<;>rfl)
def Rq(a:KA)(n co:Int):(a.dc n co).aQ=a.aQ:=by
 have e1:(a.gW n co).aQ=a.aQ:=by
  unfold KA.gW;split
  ·exact(DK _ 4).trans (OU n _ _)
  rfl
 unfold KA.dc KA.jU;split
 ·exact e1
 ·exact e1
theorem KA.R0.end_{a:KA}(h:a.R0)(hn:n≠0)(co:Int):(a.cV n co).R0:=⟨by rw[ov _ _ fun e=>hn e.symm];exact h.st,h.loc,h.dv⟩
def KA.R0.Ap{a:KA}(h:a.R0)(hn:n≠0):(a.eY n).R0:=
 ⟨by rw[mj _ fun e=>hn e.symm];exact h.st,by show(a.s.gw n).2.loc 0=0;rw[uF _ fun e=>hn e.symm];exact h.loc,y8 (fun e=>hn e.symm) h.dv⟩
def KA.R0.M4{a:KA}(h:a.R0)(z:Int):(a.fL z).R0:=⟨h.st,by show(a.s.drop z).2.loc 0=0;rw[uE];exact h.loc,by show(a.s.drop z).2.dv 0 1=0;rw[Bm];exact h.dv⟩
def KA.R0.VC(k:Int):∀ {l:List Int} {a:KA},a.R0->(0∉l)->(l.foldl (KA.gQ k) a).R0
 | [],_,w,_=>w
 | x::r,a,w,hl=>KA.R0.VC k (l:=r) (by
   have hx:x≠0:=by rintro rfl;exact hl (.head _)
   unfold KA.gQ
   split
   ·exact w
   ·refine KA.R0.Ap ?_ hx
    split
    ·exact w.end_ hx 0
    ·exact w) fun q=>hl (.tail _ q)
def KA.R0.uG:∀ {l:List Int} {a:KA},a.R0->(l.foldl KA.fL a).R0
 | [],_,w=>w
 | x::r,_,w=>KA.R0.uG (l:=r) (w.M4 x)
def KA.R0.fY{a:KA}(w:a.R0):∀ k,(a.fY k).R0
 | 0=>w
 | k+1=>KA.R0.uG (w.fY k)
theorem SS.Inv.jc{s:Sp.SS}(h:s.Inv aQ)(hl:s.loc 0=0):s.aa 0=true:=by
 have:=h.at_ 0 og og og;simp_all
def SS.Inv.in0{s:Sp.SS}(h:s.Inv aQ)(hl:s.loc 0=0)(hd:aQ 0=1)(e:s.dv z q=0):z=0:=by
 have:=(h.mem z q 0 og e).2.2.2.2;rw[hl]at this;unfold Sp.SS.dm at this;rw[hd]at this;simpa [Sp.SS.jo]using this
def KG{a:KA}(w:a.Wk T)(r:a.R0)(hn:(a.u n).st≠0)(h:a.head n=n):a.s.dv (a.s.loc n) 1=n:=by
 have hr:=w.ng hn;have h1:=(w.lc n hr.1 hr.2).1 hn;by_cases e:n=0
 ·subst e;rw[r.loc];exact r.dv
 ·unfold KA.head at h;have e1:a.s.bU n=(a.s.loc n,0):=by unfold Sp.SS.bU;rw[if_neg og,if_neg og]
  rw[e1]at h;have h:(a.s.find (a.s.loc n) 1).1=n:=h;unfold Sp.SS.find at h;grind
def KA.Wk.DL{a:KA}(w:a.Wk T)(r0:a.R0)(hd:a.aQ 0=1)(hn:n≠0)(hl:(a.u n).st=1)(hx:a.Hx n)(co:Int):(a.dc n co).Ok T:=by
 have hr:=w.ng (n:=n) og;have wE:=((hx.gW co).dI n (a.head n)).jU (((a.gW n co).dI n (a.head n)).u n).aD;refine⟨w.dc hr hl co,fun p h0 h1 _ h3=> ?_,?_,(congrFun (Rq _ _ _) 0).trans hd⟩
 ·grind [KA.dc,KA.jU,gT,dP,DJ,KA.Hx]
 ·have r1:(a.gW n co).R0:=by
   unfold KA.gW;split
   ·rename_i hh;unfold KA.ec;refine KA.R0.fY (KA.R0.VC n (r0.end_ hn co) fun q=> ?_) 4;obtain⟨j,_,_,e,_⟩:=DF q;have hz:=SS.Inv.in0 w.sI r0.loc hd e;have hw:=KG w r0 (n:=n) og hh;have h1:=(w.lc n hr.1 hr.2).1 og;have e1:a.s.bU n=(a.s.loc n,0):=by unfold Sp.SS.bU;rw[if_neg og,if_neg og]
    rw[e1]at hz;have hz:a.s.loc n=0:=hz;rw[hz,r0.dv]at hw;omega
   grind [KA.R0.end_]
  unfold KA.dc;have r2:((a.gW n co).dI n (a.head n)).R0:=⟨by rw[(dP _ _ _ _).1];exact r1.st,r1.loc,r1.dv⟩;refine⟨?_,by rw[(uH _ _).1];exact r2.loc,by rw[(uH _ _).1];exact r2.dv⟩;grind [KA.jU,gT,KA.R0.st]
theorem za{a:KA}{o:Bool}(h:¬a.KD n o):a.cH n o=a:=if_neg h
theorem wx{a:KA}{o:Bool}(h:a.KD n o):a.cH n o=a.dc n (128+(a.u n).bx.first 0):=if_pos h
open Go.X.Tr
theorem KA.Hx.same{a a':KA}(h:a.Hx n)(hu:∀ p,(a'.u p).st=(a.u p).st/\(a'.u p).bx=(a.u p).bx)(hs:a'.s=a.s):a'.Hx n:=fun p h0 h1 h2 h3=>by
 grind [KA.Hx]
theorem KA.R0.same{a a':KA}(h:a.R0)(hu:(a'.u 0).st=(a.u 0).st)(hs:a'.s=a.s):a'.R0:=⟨by rw[hu];exact h.st,by rw[hs];exact h.loc,by rw[hs];exact h.dv⟩
theorem afT{a:KA}(w:a.Wk T)(r:a.R0):a.head 0=0:=by grind [KA.Wk.Kz,KA.R0.st,KA.R0.loc,KA.R0.dv]
def KA.Wk.VF{a:KA}(w:a.Wk T)(r:a.R0)(hd:a.aQ 0=1)(hl:(a.u n).st=1)(hx:a.Hx n)(o:Bool)(ho:o=true->n≠0):(a.cH n o).Ok T:=by
 by_cases he:a.KD n o
 ·rw[wx he];refine w.DL r hd (fun e=> ?_) hl hx _;subst e;rcases he.2 with q | q;all_goals grind [afT]
 ·rw[za he];refine⟨w,fun p h0 h1 h2 h3=> ?_,r,hd⟩;by_cases e:p=n
  ·subst e;by_cases f:(a.u p).bx.first 0=0
   ·omega
   ·right;exact KG w r og (Decidable.byContradiction fun q=>he ⟨f,.inr q⟩)
  grind [KA.Hx]
theorem KA.R0.box{a:KA}(h:a.R0)(n:Int)(x:BS):(a.jJ n x).R0:=h.same (gT _ _ _ _) rfl
def KA.Ok.M5{a:KA}(h:a.Ok T)(c:a.aA n=0)(hx:x.dU 0=false)(o:Bool)(ho:o=true->n≠0):((a.jJ n x).cH n o).Ok T:=by
 obtain⟨hr,hl⟩:=aR c;exact(h.wk.jJ hr hx).VF (h.r0.box _ _) h.d0 (by rw[gT];exact hl) ((h.hx.any n).box _) o ho
def KA.Ok.aiu{a:KA}(h:a.Ok T)(c:a.aA n=0)(hx:x.dU 0=false)(hf:x.first 0=(a.u n).bx.first 0):(a.jJ n x).Ok T:=by
 obtain⟨hr,hl⟩:=aR c;refine⟨h.wk.jJ hr hx,fun p h0 h1 h2 h3=> ?_,h.r0.box _ _,h.d0⟩;rw[gT]at h3;by_cases e:p=n
 ·subst e;rw[HP];show x.first 0=0\/_
  rw[hf];exact h.hx p h0 h1 og h3
 ·rw[yZ _ _ e];exact h.hx p h0 h1 og h3
theorem KA.Ok.send{a:KA}(h:a.Ok T)(n sig:Int)(o:Bool)(ho:o=true->n≠0):(a.wv n sig o).Ok T:=by
 unfold KA.wv;split
 ·rename_i c;exact h.M5 c (py _ _ (h.wk.bx n)) o ho
 omega
def sC(x:BS)(n:Int)(on:Bool)(h:x.dU 0=false):(x.dZ n on).2.dU 0=false:=by
 unfold BS.dZ;split;all_goals grind
def Aq(x:BS)(n v:Int)(h:x.dU 0=false):(x.set n v).2.dU 0=false:=by
 unfold BS.set;split
 ·rename_i c;have:=(gJ n).1 c.1;split
  ·omega
  ·show(if _ then _ else _:BS).dU 0=false;split;all_goals grind [ae]
 omega
def M6(x:BS)(h:x.dU 0=false):x.take.2.dU 0=false:=by
 show ad x.dU (x.first 2) false 0=false;grind [aj,ae]
theorem Rr(h:x.first v≠0):x.jm (x.first v)=v:=by
 unfold BS.first at h ⊢
 grind [dS]
def M7(x:BS)(h:x.dU 0=false):x.take.2.first 0=x.first 0:=by
 refine Bl fun k k0 k1=> ?_;show(ad x.dU (x.first 2) false k&&(!x.bj k&&decide (x.jm k=0)))=_;grind [aj,Rr,ae]
def KA.BI(a:KA)(n q:Int):Int×Int:=
 if a.aA n≠0 then(0,a.aA n)else if(a.s.find (a.s.bU n).1 q).2≠0 then(0,(a.s.find (a.s.bU n).1 q).2)else
 if(a.u (a.s.find (a.s.bU n).1 q).1).st=1 then((a.s.find (a.s.bU n).1 q).1,0)else(0,8)
def KA.uI(a:KA)(n c:Int):Int:=if a.aA n≠0 then a.aA n else if c<0\/255<c then 1 else if n=0 then 8 else 0
def KA.mH(a:KA)(n co:Int):KA:=if a.uI n co=0 then a.dc n co else a
def DM{a:KA}{c:Int}(h:a.uI n c=0):a.aA n=0/\n≠0:=by
 grind [KA.uI]
theorem KA.Ok.mH{a:KA}{T:Int}(h:a.Ok T)(n co:Int):(a.mH n co).Ok T:=by
 unfold KA.mH;split
 ·rename_i c;obtain⟨h1,h2⟩:=DM c;exact h.wk.DL h.r0 h.d0 h2 (aR h1).2 (h.hx.any n) co
 omega
def KA.wy(a:KA)(n sig:Int)(on:Bool):Int:=if a.aA n≠0 then a.aA n else((a.u n).bx.dZ sig on).1
def KA.mI(a:KA)(n sig:Int)(on:Bool):KA:=if a.aA n≠0 then a else if((a.u n).bx.dZ sig on).1=0 then(a.jJ n ((a.u n).bx.dZ sig on).2).cH n false else a
theorem KA.Ok.dZ{a:KA}(h:a.Ok T)(n sig:Int)(on:Bool):(a.mI n sig on).Ok T:=by
 unfold KA.mI;split
 ·omega
 ·rename_i c;split
  ·exact h.M5 og (sC _ _ _ (h.wk.bx n)) false sq
  omega
def KA.VG(a:KA)(n sig v:Int):Int:=if a.aA n≠0 then a.aA n else((a.u n).bx.set sig v).1
def KA.DN(a:KA)(n sig v:Int):KA:=if a.aA n≠0 then a else if((a.u n).bx.set sig v).1=0 then(a.jJ n ((a.u n).bx.set sig v).2).cH n false else a
def KA.Ok.jm{a:KA}(h:a.Ok T)(n sig v:Int):(a.DN n sig v).Ok T:=by
 unfold KA.DN;split
 ·omega
 ·rename_i c;split
  ·exact h.M5 og (Aq _ _ _ (h.wk.bx n)) false sq
  omega
theorem KH{on:Bool}(h:(x.dZ n on).1≠0):(x.dZ n on).2=x:=by
 unfold BS.dZ at h ⊢;grind
theorem Zb(h:(x.set n v).1≠0):(x.set n v).2=x:=by
 unfold BS.set at h ⊢;grind
def KA.DP(a:KA)(n:Int):Int:=if a.aA n≠0 then a.aA n else if(a.u n).bx.take.1=0 then 2 else 0
def KA.DQ(a:KA)(n:Int):Int:=if a.aA n≠0 then 0 else(a.u n).bx.take.1
def KA.rh(a:KA)(n:Int):KA:=if a.aA n≠0 then a else a.jJ n (a.u n).bx.take.2
theorem KA.Ok.take{a:KA}(h:a.Ok T)(n:Int):(a.rh n).Ok T:=by
 unfold KA.rh;split
 ·exact h
 ·exact h.aiu og (M6 _ (h.wk.bx n)) (M7 _ (h.wk.bx n))
def KA.ox(a:KA)(n jq sig:Int):Int:=if(a.BI n jq).2≠0 then(a.BI n jq).2 else if sig<1\/8<sig then 1 else if jq=1 then 8 else 0
def KA.kE(a:KA)(n jq sig:Int):KA:=if a.ox n jq sig=0 then a.wv (a.BI n jq).1 sig (decide ((a.s.bU (a.BI n jq).1).1≠(a.s.bU n).1))else a
def VH{a:KA}(h:(a.BI n q).2=0):a.aA n=0/\(a.s.find (a.s.bU n).1 q).2=0/\(a.BI n q).1=(a.s.find (a.s.bU n).1 q).1/\(a.u (a.BI n q).1).st=1:=by
 grind [KA.BI]
def KA.Ok.sD{a:KA}(h:a.Ok T)(n jq sig:Int):(a.kE n jq sig).Ok T:=by
 unfold KA.kE;split
 ·rename_i c;refine h.send _ _ _ fun _ e=> ?_;unfold KA.ox at c;split at c
  ·omega
  ·rename_i c1;split at c
   ·omega
   ·split at c
    ·omega
    ·rename_i c2;obtain⟨s1,s2,s3,_⟩:=VH (show(a.BI n jq).2=0 by omega);obtain⟨_,f2,_⟩:=Be h.wk.sI s2;rw[<-s3,e]at f2;have hz:=SS.Inv.in0 h.wk.sI h.r0.loc h.d0 f2;rw[hz]at f2;exact c2 (h.wk.sI.inj 0 1 jq (by rw[h.r0.dv];omega) (by rw[f2,h.r0.dv]))
 omega
def KA.Wk.io{a:KA}(h:a.Wk T)(hT:T<=T')(Rm:T'<=1000000){O:Tr.OS}{P:Tr.PS}(qw:∀ p,(u p).st=(a.u p).st)(hbx:∀ p,(u p).bx=(a.u p).bx)(IT:∀ p,(p<0\/20<=p)->u p=PA.nil)(Zc:∀ p i,0<=(u p).fd i/\(u p).fd i<=24)(hO:O.Inv T')(hP:P.Inv T'):({a with u:=u,O:=O,P:=P} :KA).Wk T' where
 T0:=⟨by have:=h.T0;omega,Rm⟩
 gI:=h.gI
 gS:=h.gS.mono og
 sI:=h.sI
 sys:=h.sys
 sx:=fun m a0 a1 q=>h.sx m a0 a1 (by rw[<-qw];exact q)
 PI:=hP
 OI:=hO
 lc:=fun m a0 a1=>by rw[show(({a with u:=u,O:=O,P:=P} :KA).u m).st=(a.u m).st from qw m];exact h.lc m a0 a1
 st:=fun m=>by rw[show(({a with u:=u,O:=O,P:=P} :KA).u m).st=(a.u m).st from qw m];exact h.st m
 out:=IT
 fd:=Zc
 bx:=fun m=>by rw[show(({a with u:=u,O:=O,P:=P} :KA).u m).bx=(a.u m).bx from hbx m];exact h.bx m
def KA.Ok.io{a:KA}{T T':Int}(h:a.Ok T)(hT:T<=T')(Rm:T'<=1000000){u:Int->PA}{O:Tr.OS}{P:Tr.PS}(qw:∀ p,(u p).st=(a.u p).st)(hbx:∀ p,(u p).bx=(a.u p).bx)(IT:∀ p,(p<0\/20<=p)->u p=PA.nil)(Zc:∀ p i,0<=(u p).fd i/\(u p).fd i<=24)(hO:O.Inv T')(hP:P.Inv T'):({a with u:=u,O:=O,P:=P} :KA).Ok T':=
 ⟨h.wk.io hT Rm qw hbx IT Zc hO hP,h.hx.same (fun p=>⟨qw p,hbx p⟩) rfl,h.r0.same (qw 0) rfl,h.d0⟩
theorem KA.Ok.up{a:KA}{T T':Int}(h:a.Ok T)(hT:T<=T')(Rm:T'<=1000000):a.Ok T':=⟨h.wk.up hT Rm,h.hx,h.r0,h.d0⟩
theorem KA.Ok.io0{a:KA}(h:a.Ok T)(hT:T<=T')(Rm:T'<=1000000){O:Tr.OS}{P:Tr.PS}(hO:O.Inv T')(hP:P.Inv T'):({a with O:=O,P:=P} :KA).Ok T':=
 h.io hT Rm (fun _=>rfl) (fun _=>rfl) h.wk.out h.wk.fd hO hP
def Bn(u:Int->PA)(n i v:Int):Int->PA:=ad u n {u n with fd:=ad (u n).fd i v}
theorem kr(u:Int->PA)(n i v p:Int):(Bn u n i v p).st=(u p).st/\(Bn u n i v p).bx=(u p).bx:=by
 unfold Bn;grind [aj,ae]
def zb(hn:0<=n/\n<20)(i v:Int)(h:∀ p,(p<0\/20<=p)->u p=PA.nil):∀ p,(p<0\/20<=p)->Bn u n i v p=PA.nil:=fun p hp=>by
 unfold Bn;rw[ae _ _ og];exact h p hp
def DR(hv:0<=v/\v<=24)(h:∀ p j,0<=(u p).fd j/\(u p).fd j<=24):∀ p j,0<=(Bn u n i v p).fd j/\(Bn u n i v p).fd j<=24:=fun p j=>by
 unfold Bn;by_cases e:p=n
 ·subst e;rw[aj];grind [aj,ae]
 grind [ae]
theorem DS(a:KA)(b:KZ)(c:KC)(n i v:Int)(O:Tr.OS)(P:Tr.PS):(kp a b c).put n {(kp a b c).u n with fd:=ad ((kp a b c).u n).fd i v} =kp {a with u:=Bn a.u n i v,O:=O,P:=P} b c:=(HL a b c n {a.u n with fd:=ad (a.u n).fd i v} _ rfl).trans rfl
theorem HQ(a:KA)(n i v:Int)(O:Tr.OS)(P:Tr.PS):jg {a with u:=Bn a.u n i v,O:=O,P:=P} =jg a:=by grind [kr,jg]
def KA.eZ(a:KA)(n i:Int):Int:=if a.aA n≠0 then a.aA n else if i<0\/6<=i then 1 else if(a.u n).fd i=0 then 2 else 0
def KA.dx(a:KA)(n i:Int):Int:=if a.eZ n i=0 then(a.u n).fd i-1 else 0
theorem KA.sy{a:KA}(h:a.eZ n i=0):(0<=n/\n<20)/\(a.u n).st=1/\(0<=i/\i<6)/\(a.u n).fd i≠0/\a.dx n i=(a.u n).fd i-1:=by
 have hv:a.dx n i=(a.u n).fd i-1:=by unfold KA.dx;rw[if_pos h]
 unfold KA.eZ at h;split at h
 ·omega
 ·split at h
  ·omega
  ·split at h
   ·omega
   ·have:=aR (a:=a) (n:=n) og;omega
def KA.km(a:KA)(F:Tr.FF)(n i:Int):Int:=if a.eZ n i≠0 then a.eZ n i else Tr.km F a.P a.O (a.dx n i)
def KA.sE(a:KA)(n i:Int):KA:=if a.eZ n i≠0 then a else {a with u:=Bn a.u n i 0,O:=kR a.O (a.dx n i),P:=kQ a.P a.O (a.dx n i)}
def KA.Ok.close{a:KA}(h:a.Ok T)(n i:Int):(a.sE n i).Ok T:=by
 unfold KA.sE;split
 ·exact h
 ·rename_i c;obtain⟨hn,_,_,_,_⟩:=KA.sy (show a.eZ n i=0 by omega);exact h.io (Int.le_refl _) h.wk.T0.2 (fun p=>(kr _ _ _ _ p).1) (fun p=>(kr _ _ _ _ p).2) (zb hn _ _ h.wk.out) (DR og h.wk.fd) (OS.Inv.uC h.wk.OI _) (PS.uC h.wk.PI _ _)
def KA.mZ(a:KA)(n:Int):Int:=jO (a.u n).fd 0
def vB(f:Int->Int)(x:Int)(h:¬jO f x<0:=by omega):0<=jO f x/\jO f x<6/\x<=jO f x/\f (jO f x)=0:=by
 grind [jO,dS]
def KA.KI(a:KA)(n i:Int):Int:=if a.eZ n i≠0 then a.eZ n i else if a.mZ n<0 then 4 else a.O.is (a.dx n i)
def KA.KJ(a:KA)(n i:Int):Int:=if a.eZ n i≠0\/a.mZ n<0 then 0 else a.mZ n
def KA.BM(a:KA)(n i:Int):KA:=if a.eZ n i≠0\/a.mZ n<0 then a else {a with u:=Bn a.u n (a.mZ n) (a.dx n i+1),O:=qh a.O (a.dx n i),P:=a.P}
def KA.Ok.dup{a:KA}(h:a.Ok T)(hT:T<=900000)(n i:Int):(a.BM n i).Ok (T+1):=by
 unfold KA.BM;split
 ·grind [KA.Ok.up]
 ·rename_i c;obtain⟨hn,_,_,h4,h5⟩:=KA.sy (show a.eZ n i=0 by omega);have:=h.wk.fd n i;exact h.io og og (fun p=>(kr _ _ _ _ p).1) (fun p=>(kr _ _ _ _ p).2) (zb hn _ _ h.wk.out) (DR og h.wk.fd) (h.wk.OI.aaS _) (h.wk.PI.mono og)
def KA.DT(a:KA)(n:Int):Int:=jO (a.u n).fd (a.mZ n+1)
def KA.uJ(a:KA)(n:Int):Int:=if a.aA n≠0 then a.aA n else if a.mZ n<0\/a.DT n<0 then 4 else kS a.P a.O
def KA.zc(a:KA)(n:Int):Int:=if a.uJ n=0 then a.mZ n else 0
def KA.zd(a:KA)(n:Int):Int:=if a.uJ n=0 then a.DT n else 0
def KA.ri(a:KA)(n:Int):KA:=if a.aA n≠0\/a.mZ n<0\/a.DT n<0 then a else
 if kS a.P a.O=0 then {a with u:=Bn (Bn a.u n (a.mZ n) (nV a.P a.O+1)) n (a.DT n) (pq a.P a.O+1),O:=nU a.P a.O,P:=nT a.P a.O} else {a with O:=nU a.P a.O,P:=nT a.P a.O}
def Gm(P:Tr.PS)(O:Tr.OS):(0<=nV P O/\nV P O<24)/\0<=pq P O/\pq P O<24:=by
 unfold nV pq;by_cases h:kS P O=0
 ·rw[if_pos h,if_pos h];unfold kS at h;split at h
  ·omega
  ·rename_i c;have h1:=Tr.OS.nD (s:=O) fun q=>c (.inl q);have h2:=Tr.OS.nD (s:=O.lay O.first 2 0 false) fun q=>c (.inr q);exact⟨⟨h1.1,h1.2.1⟩,h2.1,h2.2.1⟩
 omega
def KA.Ok.Kq{a:KA}{T:Int}(h:a.Ok T)(hT:T<=900000)(VI:1<=T)(n:Int):(a.ri n).Ok (T+1):=by
 have h2:=Gm a.P a.O;have hO:=h.wk.OI.Kq VI a.P;have hP:=MV h.wk.PI og a.O;unfold KA.ri;split
 ·grind [KA.Ok.up]
 ·rename_i c;have hn:=(aR (show a.aA n=0 by omega)).1;split
  ·exact h.io og og (fun p=>((kr _ _ _ _ p).1).trans (kr _ _ _ _ p).1) (fun p=>((kr _ _ _ _ p).2).trans (kr _ _ _ _ p).2) (zb hn _ _ (zb hn _ _ h.wk.out)) (DR og (DR og h.wk.fd)) hO hP
  grind [KA.Ok.io0]
def KA.me(a:KA)(F:Tr.FF)(n i m:Int):Int:=if a.eZ n i≠0 then a.eZ n i else ux F a.P a.O (a.dx n i) m
def KA.kJ(a:KA)(F:Tr.FF)(n i m:Int):ByteArray:=if a.eZ n i≠0 then⟨#[]⟩else uy F a.P a.O (a.dx n i) m
def KA.ze(a:KA)(F:Tr.FF)(n i m:Int):KA:=if a.eZ n i≠0 then a else {a with O:=qj F a.O (a.dx n i) m,P:=qi a.P a.O (a.dx n i) m}
theorem KA.Ok.mU{a:KA}{T:Int}(h:a.Ok T)(hT:T<=900000){F:Tr.FF}(hF:F.Sh)(n i m:Int):(a.ze F n i m).Ok (T+1):=by
 unfold KA.ze;split
 ·grind [KA.Ok.up]
 ·exact h.io0 og og (h.wk.OI.mU hF _ _) (MW h.wk.PI _ _ _)
def KA.uK(a:KA)(F:Tr.FF)(n i:Int)(x:ByteArray):KA:= {a with O:=jw F a.O (a.dx n i) x,P:=mi a.P a.O (a.dx n i) x}
def KA.fc(a:KA)(F:Tr.FF)(n i:Int)(x:ByteArray):Int:=if a.eZ n i≠0 then a.eZ n i else iQ F a.P a.O (a.dx n i) x
def KA.Ar(a:KA)(F:Tr.FF)(n i:Int)(x:ByteArray):Int:=if a.eZ n i≠0 then 0 else jv F a.P a.O (a.dx n i) x
def KA.ql(a:KA)(F:Tr.FF)(n i:Int)(x:ByteArray):KA:=if a.eZ n i≠0 then a else if iQ F a.P a.O (a.dx n i) x=12 then(a.uK F n i x).wv n 2 false else a.uK F n i x
theorem KA.Ok.Gn{a:KA}(h:a.Ok T)(hT:T<=900000)(F:Tr.FF)(n i:Int)(x:ByteArray):(a.uK F n i x).Ok (T+1):=
 h.io0 og og (h.wk.OI.acD F _ _) (Ks h.wk.PI _ _ _)
theorem KA.Ok.cb{a:KA}(h:a.Ok T)(hT:T<=900000)(F:Tr.FF)(n i:Int)(x:ByteArray):(a.ql F n i x).Ok (T+1):=by
 unfold KA.ql;split
 ·grind [KA.Ok.up]
 ·split
  ·exact(h.Gn hT F n i x).send n 2 false sq
  grind [KA.Ok.Gn]
def KA.nF(a:KA)(n i z:Int):Int:=if a.eZ n i≠0 then a.eZ n i else Tr.nF a.O (a.dx n i) z
def KA.wz(a:KA)(n i z:Int):KA:=if a.eZ n i≠0 then a else {a with O:=wo a.O (a.dx n i) z,P:=a.P}
def KA.Ok.Kr{a:KA}{T:Int}(h:a.Ok T)(hT:T<=900000)(n i z:Int):(a.wz n i z).Ok (T+1):=by
 unfold KA.wz;split
 ·grind [KA.Ok.up]
 ·exact h.io0 og og (h.wk.OI.Kr _ _) (h.wk.PI.mono og)
open Go.X.Fa Go.X.Sp Go.X.Vm
theorem DU{v:VB}{f:Nat->Vm.MS}{k z c:Nat}(h:Vm.Sys v f k)(hz:z<k)(hc:c<k)(fN:c≠z)(hn:f c=Vm.MS.nil)(hk:k<=60):Vm.Sys (v.im (f z)) (aJ (aJ f z (f z).bare) c (f z).bare) k:=by
 have hm:=h.mo z hz;have hb:(f z).bare.Ok:=⟨hm.f,hm.lo,hm.un,fun _ _=>rfl,hm.inj⟩;have e0:∀ g:Int,0<=g->cM (fun _:Int=>(0:Int)) g 16=0:=fun g hg=>by
  have iD:∀ j,cM (fun _:Int=>(0:Int)) g j=0:=fun j=>by
   induction j with
   | zero=>rfl
   | succ j ih=>rw[cM,ih,if_neg og];rfl
  simp_all
 refine⟨(h.ja.im hm fun g a b=>⟨uk f g hz,by have:=MF f g k;show mT f g k<=1000;omega⟩).congr fun g a b=> ?_,fun j hj=> ?_⟩
 ·have e1:(aJ f z (f z).bare) c=Vm.MS.nil:=by rw[b7 _ _ fN];exact hn
  rw[show aJ (aJ f z (f z).bare) c (f z).bare=Vm.aJ (Vm.aJ f z (f z).bare) c (f z).bare from rfl];rw[jN _ g hc,jN f g hz,show Vm.aJ f z (f z).bare c=Vm.MS.nil from e1];show _=mT f g k-cM (f z).fr g 16+cM (f z).fr g 16-cM (fun _:Int=>(0:Int)) g 16+cM (f z).fr g 16;simp_all
 ·show(aJ (aJ f z (f z).bare) c (f z).bare j).Ok;by_cases e:j=c
  ·grind [aJ]
  ·rw[b7 _ _ e];by_cases e2:j=z
   ·grind [aJ]
   ·rw[b7 _ _ e2];exact h.mo j hj
def KA.free(a:KA):Int:=match dS (fun k=>decide ((a.u k).st=0)) 20 with
 | some k=>k
 | none=>20
def KA.pV{a:KA}{c:Int}(h0:0<=c/\c<20)(h1:(a.u c).st=0)(h2:∀ j:Int,0<=j->j<c->(a.u j).st≠0):a.free=c:=by
 unfold KA.free;rw[fq (k:=c) (m:=20) h0.1 og (decide_eq_true h1) fun j j0 j1=>decide_eq_false (h2 j j0 j1)];grind
theorem KA.B8{a:KA}(h:∀ j:Int,0<=j->j<20->(a.u j).st≠0):a.free=20:=by
 grind [KA.free,ft]
def KA.free_spec(a:KA):a.free=20\/((0<=a.free/\a.free<20)/\(a.u a.free).st=0):=by
 grind [KA.free,dS]
def LB(f:Int->Int)(O:Tr.OS):Nat->Tr.OS
 | 0=>O
 | k+1=>if f (k:Int)>0 then qh (LB f O k) (f (k:Int)-1)else LB f O k
theorem OV{f:Int->Int}(O:Tr.OS)(hi:0<=i)(h:f i>0):LB f O (i+1).toNat=qh (LB f O i.toNat) (f i-1):=by
 rw[show(i+1).toNat=i.toNat+1 by omega];grind [LB]
theorem KK{f:Int->Int}(O:Tr.OS)(hi:0<=i)(h:¬f i>0):LB f O (i+1).toNat=LB f O i.toNat:=by
 rw[show(i+1).toNat=i.toNat+1 by omega];grind [LB]
def Cc{f:Int->Int}{O:Tr.OS}{T:Int}(h:O.Inv T):∀ k:Nat,(LB f O k).Inv (T+k)
 | 0=>by have:=h;simpa [LB]using this
 | k+1=>by
  have h1:=Cc (f:=f) h k;unfold LB;split
  ·have:=h1.aaS (f (k:Int)-1);grind
  ·exact h1.mono og
def KA.sz(a:KA)(n:Int):Int:=(a.s.bU n).1
def KA.gk(a:KA)(n:Int):Int:=(a.f n.toNat).gk
def KA.gC(a:KA)(n:Int):Gr.TG:=a.g.bE (a.u n).cL 1 (a.gk n)
def KA.gE(a:KA)(n:Int):Int:=a.g.cY (a.u n).cL 1 (a.gk n)
def KA.Zd(a:KA)(n:Int)(aX:Bool):Int:=if aX then(a.s.add a.aQ (a.sz n)).2.1 else 0
def KA.KL(a:KA)(n:Int)(aX:Bool):Int:=if aX then(a.s.add a.aQ (a.sz n)).1 else a.sz n
def KA.sA(a:KA)(n:Int)(aX:Bool):Sp.SS:=if aX then(a.s.add a.aQ (a.sz n)).2.2 else a.s
def KA.dA(a:KA)(n:Int)(aX:Bool):Int->Nat:=if aX then a.s.Uj a.aQ (a.sz n)else a.aQ
def KA.KM(a:KA)(n:Int):PA:=⟨1,n,(a.u n).cL,0,(a.u n).fd,(a.u n).bx.bB⟩
def KA.c9(a:KA)(n:Int)(aX:Bool):KA:=
 {u:=ad a.u a.free (a.KM n),g:=a.gC n,s:=((a.sA n aX).enter (a.dA n aX) (a.KL n aX) a.free).2.2,aQ:=a.dA n aX,v:=a.v.im (a.f n.toNat),f:=aJ (aJ a.f n.toNat (a.f n.toNat).bare) a.free.toNat (a.f n.toNat).bare,P:=a.P,O:=LB (a.u n).fd a.O 6}
def KA.gX(a:KA)(n:Int)(aX:Bool):Int:=if a.aA n≠0 then a.aA n else if a.free=20 then 4 else if a.gE n≠0 then a.gE n else a.Zd n aX
def KA.ej(a:KA)(n:Int)(aX:Bool):KA:=if a.aA n≠0\/a.free=20\/a.gE n≠0 then a else
 if a.Zd n aX≠0 then {a with g:=(a.gC n).dz (a.u n).cL 1 (a.gk n)} else a.c9 n aX
def KA.kK(a:KA)(n:Int)(aX:Bool):Int:=if a.gX n aX=0 then((a.c9 n aX).s.jq a.free (a.sz n)).1 else 0
theorem xo{g:Gr.TG}{m:Int}(h:g.cY n p m≠0):g.bE n p m=g:=if_neg h
def KN(x:BS):x.bB.first 0=0:=by
 rfl
def SS.Inv.is0{s:Sp.SS}(h:s.Inv aQ)(hp:0<=p/\p<20)(hl:0<=s.loc p):s.bU p=(s.loc p,0)/\s.is (s.loc p)=0/\(0<=s.loc p/\s.loc p<6)/\s.aa (s.loc p)=true:=by
 have h1:=h.loc p;have h2:=h.at_ p hp.1 hp.2 hl;refine⟨by unfold Sp.SS.bU;rw[if_neg og,if_neg og],?_,og,h2⟩;unfold Sp.SS.is;rw[if_neg og,if_pos h2]
theorem SS.Inv.PQ{s:Sp.SS}(h:s.Inv aQ)(hn:0<=n/\n<6/\s.aa n=true)(hp:0<=p/\p<20)(hl:¬ 0<=s.loc p)(hw:0<=s.dv z q):(s.fj aQ n p).dv z q=s.dv z q:=by
 obtain⟨e1,e2⟩:=zV p (s.dm aQ n) s.dv (Sp.SS.zU h.D _ n rfl hn.1 hn.2.1 hn.2.2) fun a _=>h.free hp hl a;show kN s.dv p (s.dm aQ n) z q=_;grind
structure KA.Gp (a:KA) (n:Int) (aX:Bool):Prop where
 ng:(0<=a.free/\a.free<20)/\(a.u a.free).st=0
 loc:¬ 0<=(a.sA n aX).loc a.free
 inv:(a.sA n aX).Inv (a.dA n aX)
 zr:0<=a.KL n aX/\a.KL n aX<6/\(a.sA n aX).aa (a.KL n aX)=true
 is:(a.sA n aX).is (a.KL n aX)=0
 lo:(a.sA n aX).loc=a.s.loc
 dv:(a.sA n aX).dv=a.s.dv
 d0:a.dA n aX 0=a.aQ 0
 en:(a.c9 n aX).s=(a.sA n aX).fj (a.dA n aX) (a.KL n aX) a.free
 z:0<=a.sz n/\a.sz n<6/\a.s.aa (a.sz n)=true
 dm:a.sz n∈(a.sA n aX).dm (a.dA n aX) (a.KL n aX)
 hr:∀ y,a.s.aa y=true->(a.sA n aX).aa y=true
def KA.Wk.fkI{a:KA}(w:a.Wk T)(hh:a.s.aa 0=true)(hl:a.aA n=0)(hf:a.free≠20)(hE:a.Zd n aX=0):a.Gp n aX:=by
 obtain⟨hn,hs⟩:=aR hl;have DV:=a.free_spec.resolve_left hf;have h1:=(w.lc n hn.1 hn.2).1 og;obtain⟨i1,i2,i3,i4⟩:=SS.Inv.is0 w.sI hn h1;have ez:a.sz n=a.s.loc n:=by unfold KA.sz;rw[i1]
 have Ix:¬ 0<=a.s.loc a.free:=fun q=>((w.lc _ DV.1.1 DV.1.2).2 q) DV.2;cases aX with
 | false=>
  have e1:a.sA n false=a.s:=rfl;have e2:a.dA n false=a.aQ:=rfl;have e3:a.KL n false=a.s.loc n:=ez;refine⟨DV,Ix,w.sI,by rw[e3];exact⟨i3.1,i3.2,i4⟩,by rw[e3];exact i2,rfl,rfl,rfl,?_,by rw[ez];exact⟨i3.1,i3.2,i4⟩,?_,fun y q=>q⟩
  ·show(a.s.enter a.aQ (a.KL n false) a.free).2.2=_;rw[e3,Sp.SS.xZ i2 og Ix];rfl
  ·rw[ez,e3];show _∈a.s.dm a.aQ (a.s.loc n);unfold Sp.SS.dm;obtain⟨d1,_,_⟩:=w.sI.D.d _ i3.1 i3.2 i4;obtain⟨k,hk⟩:∃ k,a.aQ (a.s.loc n)=k+1:=⟨a.aQ (a.s.loc n)-1,og⟩;rw[hk];exact .head _
 | true=>
  have hE:(a.s.add a.aQ (a.sz n)).2.1=0:=hE;rcases a.s.qQ a.aQ (a.sz n)with⟨q,_,_⟩ | ⟨k,q1,q2,q3,q4,q5⟩
  ·omega
  ·have e1:a.sA n true= {a.s with aa:=ad a.s.aa k true,aD:=ad a.s.aD k (a.sz n)} :=by show(a.s.add a.aQ (a.sz n)).2.2=_;rw[q5]
   have e2:a.dA n true=ad a.aQ k (a.aQ (a.sz n)+1):=by show a.s.Uj a.aQ (a.sz n)=_;unfold Sp.SS.Uj;rw[if_pos hE,q5]
   have e3:a.KL n true=k:=by show(a.s.add a.aQ (a.sz n)).1=k;rw[q5]
   have hkh:(a.sA n true).aa k=true:=by rw[e1];exact aj _ _ _
   have wB:(a.sA n true).is k=0:=by unfold Sp.SS.is;rw[if_neg og,if_pos hkh]
   have afU:¬ 0<=(a.sA n true).loc a.free:=by rw[e1];exact Ix
   have hk0:(0:Int)≠k:=by rintro rfl;rw[hh]at q4;cases q4
   have hkz:a.sz n≠k:=by rintro e;rw[ez]at e;rw[e,q4]at i4;cases i4
   refine⟨DV,afU,w.sI.add _,by rw[e3];exact⟨q3.1,q3.2,hkh⟩,by rw[e3];exact wB,by rw[e1],by rw[e1],by rw[e2,ae _ _ hk0],?_,by rw[ez];exact⟨i3.1,i3.2,i4⟩,?_,fun y q=> ?_⟩
   ·show((a.sA n true).enter (a.dA n true) (a.KL n true) a.free).2.2=_;rw[e3,Sp.SS.xZ wB og afU]
   ·rw[e3,e2,e1];unfold Sp.SS.dm;rw[aj];refine .tail _ ?_;show a.sz n∈Sp.SS.jo _ (a.aQ (a.sz n)) (ad a.s.aD k (a.sz n) k);rw[aj];obtain⟨d1,_,_⟩:=w.sI.D.d _ i3.1 i3.2 i4;obtain⟨j,hj⟩:∃ j,a.aQ (a.sz n)=j+1:=⟨a.aQ (a.sz n)-1,by rw[ez];omega⟩;rw[hj];exact .head _
   simp_all[ad]
theorem KA.Gp.KQ{a:KA}(h:a.Gp n aX):(a.c9 n aX).s.loc=ad a.s.loc a.free (a.KL n aX):=by
 rw[h.en];show ad (a.sA n aX).loc a.free (a.KL n aX)=_;rw[h.lo]
theorem KA.Gp.DW{a:KA}(h:a.Gp n aX):(a.c9 n aX).s.aa=(a.sA n aX).aa:=by rw[h.en];rfl
theorem KA.Gp.fA{a:KA}(h:a.Gp n aX)(hw:0<=a.s.dv z q):(a.c9 n aX).s.dv z q=a.s.dv z q:=by
 rw[h.en,SS.Inv.PQ h.inv h.zr h.ng.1 h.loc (by rw[h.dv];exact hw),h.dv]
theorem KA.Gp.sI{a:KA}(h:a.Gp n aX):(a.c9 n aX).s.Inv (a.dA n aX):=by rw[h.en];exact h.inv.fj h.zr h.ng.1 h.loc
theorem KA.Gp.jq{a:KA}{n:Int}{aX:Bool}(h:a.Gp n aX):((a.c9 n aX).s.jq a.free (a.sz n)).2=0/\(a.c9 n aX).s.dv (a.sz n) ((a.c9 n aX).s.jq a.free (a.sz n)).1=a.free/\1<=((a.c9 n aX).s.jq a.free (a.sz n)).1/\((a.c9 n aX).s.jq a.free (a.sz n)).1<=20:=by
 have hI:=h.sI;have hl:(a.c9 n aX).s.loc a.free=a.KL n aX:=by rw[h.KQ,aj]
 have mw:(a.c9 n aX).s.dm (a.dA n aX) (a.KL n aX)=(a.sA n aX).dm (a.dA n aX) (a.KL n aX):=by
  rw[h.en];exact Sp.SS.o5 (s:=a.sA n aX) (s':=(a.sA n aX).fj (a.dA n aX) (a.KL n aX) a.free) rfl _ _
 obtain⟨q,hq⟩:=hI.has a.free h.ng.1.1 h.ng.1.2 (by rw[hl];exact h.zr.1) (a.sz n) (by rw[hl,mw];exact h.dm);have hzh:(a.c9 n aX).s.aa (a.sz n)=true:=by rw[h.DW];exact h.hr _ h.z.2.2
 have wB:(a.c9 n aX).s.is (a.sz n)=0:=by unfold Sp.SS.is;rw[if_neg (by have:=h.z;omega),if_pos hzh]
 obtain⟨_,q2,q3,_⟩:=hI.mem _ q a.free h.ng.1.1 hq;have e:(a.c9 n aX).s.jq a.free (a.sz n)=(q,0):=Sp.SS.Jv wB (by have:=h.ng;omega) og hq (fun j j0 j1 e=>by
  have:=hI.inj (a.sz n) q j (by rw[hq];exact h.ng.1.1) (e.trans hq.symm)
  omega)
 grind
theorem KA.Ok.c9{a:KA}{T:Int}(h:a.Ok T)(hT:T<=900000){n:Int}{aX:Bool}(hl:a.aA n=0)(hf:a.free≠20)(hE:a.Zd n aX=0):(a.c9 n aX).Ok (T+10):=by
 have w:=h.wk;have hI:=w.fkI (SS.Inv.jc w.sI h.r0.loc) hl hf hE;have Iy:=hI.ng.1;obtain⟨hn,hs⟩:=aR hl;have fN:n≠a.free:=by rintro e;have:=hI.ng.2;rw[<-e,hs]at this;exact absurd this dq
 have hu:∀ m,m≠a.free->(a.c9 n aX).u m=a.u m:=fun m hm=>ae _ _ hm;have Rs:(a.c9 n aX).u a.free=a.KM n:=aj _ _ _;have Qb:a.f a.free.toNat=Vm.MS.nil:=w.sx _ hI.ng.1.1 hI.ng.1.2 (by rw[hI.ng.2];decide);refine⟨⟨⟨by have:=w.T0;omega,og⟩,w.gI.bE _ _ _,(w.gS.bE w.gI.ok _ _ _).mono og,hI.sI,?_,fun m a0 a1 q=> ?_,w.PI.mono og,(Cc w.OI 6).mono og,fun m a0 a1=> ?_,fun m=> ?_,fun m hm=> ?_,fun m i=> ?_,fun m=> ?_⟩,fun p h0 h1 _ h3=> ?_,⟨?_,?_,?_⟩,hI.d0.trans h.d0⟩
 ·grind [DU,KA.Wk.sys,KA.c9]
 ·by_cases e:m=a.free
  ·subst e;rw[Rs]at q;exact absurd rfl q
  ·rw[hu m e]at q;show aJ (aJ a.f n.toNat _) a.free.toNat _ m.toNat=_;grind [b7,KA.Wk.sx]
 ·rw[hI.KQ];by_cases e:m=a.free
  ·subst e;rw[Rs,aj];exact⟨fun _=>hI.zr.1,fun _=>(by decide:(1:Int)≠0)⟩
  grind [ae,KA.Wk.lc]
 ·by_cases e:m=a.free
  ·subst e;rw[Rs];exact .inr (.inl rfl)
  grind [KA.Wk.st]
 ·grind [KA.Wk.out]
 ·by_cases e:m=a.free
  ·subst e;rw[Rs];exact w.fd n i
  ·rw[hu m e];exact w.fd m i
 ·by_cases e:m=a.free
  ·subst e;rw[Rs];rfl
  grind [KA.Wk.bx]
 ·by_cases e:p=a.free
  ·subst e;rw[Rs];exact .inl (KN _)
  ·rw[hu p e]at h3 ⊢;rw[hI.KQ,ae _ _ e];rcases h.hx p h0 h1 og h3 with q | q;all_goals grind [KA.Gp.fA]
 ·grind [KA.Gp.ng,KA.Ok.r0,KA.R0.st]
 ·rw[hI.KQ,ae _ _ (by rintro e;have:=hI.ng.2;rw[<-e,h.r0.st]at this;exact absurd this dq)];exact h.r0.loc
 grind [KA.Gp.fA,KA.Ok.r0,KA.R0.dv]
def KA.Wk.HR{a:KA}(w:a.Wk T)(hT:T<=T')(Rm:T'<=1000000){g:Gr.TG}(hg:g.Inv)(hS:g.bV (1000*T')):({a with g:=g} :KA).Wk T':=⟨⟨by have:=w.T0;omega,Rm⟩,hg,hS,w.sI,w.sys,w.sx,w.PI.mono hT,w.OI.mono hT,w.lc,w.st,w.out,w.fd,w.bx⟩
def KA.Ok.HR{a:KA}{T T':Int}(h:a.Ok T)(hT:T<=T')(Rm:T'<=1000000){g:Gr.TG}(hg:g.Inv)(hS:g.bV (1000*T')):({a with g:=g} :KA).Ok T':=⟨h.wk.HR hT Rm hg hS,h.hx.same (fun _=>⟨rfl,rfl⟩) rfl,h.r0.same rfl rfl,h.d0⟩
theorem KA.Ok.im{a:KA}(h:a.Ok T)(hT:T<=900000)(n:Int)(aX:Bool):(a.ej n aX).Ok (T+10):=by
 unfold KA.ej;split
 ·grind [KA.Ok.up]
 ·rename_i c;split
  ·exact h.HR og og ((h.wk.gI.bE _ _ _).dz _ _ _) (uD (h.wk.gI.bE _ _ _) ((h.wk.gS.bE h.wk.gI.ok _ _ _).mono og) _ _ _)
  grind [KA.Ok.c9]
structure WF where
 kids:Int
 bB:Int
 jq:Int
 kf:Int
def KA.fg(a:KA)(n:Int):Nat->WF
 | 0=>⟨0,-1,0,0⟩
 | k+1=>
  if(a.u (k:Int)).st=0\/(a.u (k:Int)).aD≠n then a.fg n k else
  if(a.s.jq k (a.sz n)).2=0/\(a.u (k:Int)).st=2/\((a.fg n k).bB<0\/(a.s.jq k (a.sz n)).1<(a.fg n k).jq)then⟨(a.fg n k).kids+1,k,(a.s.jq k (a.sz n)).1,(a.u (k:Int)).kf⟩
  else⟨(a.fg n k).kids+1,(a.fg n k).bB,(a.fg n k).jq,(a.fg n k).kf⟩
def KA.sV(a:KA)(n:Int):Int:=if a.aA n≠0 then a.aA n else if(a.fg n 20).kids=0 then 2 else if(a.fg n 20).bB<0 then 8 else 0
def KA.rj(a:KA)(n:Int):KA:=if a.sV n=0 then(a.eY (a.fg n 20).bB).fL (a.sz (a.fg n 20).bB)else a
def KA.DX(a:KA)(n:Int):Int:=if a.sV n=0 then(a.fg n 20).jq else 0
def KA.DY(a:KA)(n:Int):Int:=if a.sV n=0 then(a.fg n 20).kf else 0
def KA.WI(a:KA)(n:Int)(x:WF)(k:Int):Prop:=(0<=x.kids/\x.kids<=k)/\(x.bB<0\/((0<=x.bB/\x.bB<k)/\(a.u x.bB).st=2/\(a.u x.bB).aD=n/\a.s.jq x.bB (a.sz n)=(x.jq,0)/\x.kf=(a.u x.bB).kf))
def KA.HS(a:KA)(n:Int):∀ k:Nat,a.WI n (a.fg n k) k
 | 0=>⟨⟨Int.le_refl _,Int.le_refl _⟩,.inl (by show(-1:Int)<0;omega)⟩
 | k+1=>by
  obtain⟨h1,h2⟩:=a.HS n k;grind [KA.fg,KA.WI]
def As{a:KA}(h:a.sV n=0):a.aA n=0/\(0<=(a.fg n 20).bB/\(a.fg n 20).bB<20)/\(a.u (a.fg n 20).bB).st=2/\(a.u (a.fg n 20).bB).aD=n/\a.s.jq (a.fg n 20).bB (a.sz n)=((a.fg n 20).jq,0)/\(a.fg n 20).kf=(a.u (a.fg n 20).bB).kf:=by
 unfold KA.sV at h;split at h
 ·omega
 ·split at h
  ·omega
  ·split at h
   ·omega
   ·have:=(a.HS n 20).2.resolve_left aq;simp_all
def KA.Ok.Ap{a:KA}{T:Int}(h:a.Ok T){m:Int}(hm:0<=m/\m<20)(hs:(a.u m).st=2):(a.eY m).Ok T:=
 ⟨h.wk.eY hm og,h.hx.eY,h.r0.Ap (by rintro rfl;have:=h.r0.st;omega),h.d0⟩
def KA.Ok.M4{a:KA}{T:Int}(h:a.Ok T)(z:Int):(a.fL z).Ok T:=⟨h.wk.fL z,h.hx.fL z,h.r0.M4 z,h.d0⟩
def KA.Ok.dU{a:KA}(h:a.Ok T)(n:Int):(a.rj n).Ok T:=by
 unfold KA.rj;split
 ·rename_i c;obtain⟨_,h2,h3,_⟩:=As c;exact(h.Ap h2 h3).M4 _
 omega
theorem OX{a:KA}{b:KZ}{c':KC}(w:a.Wk T)(hI:a.Gp n aX){nb:Nat}(hm:c'.mb=aJ c.mb a.free.toNat nb){K:KP}(hu:K.u=(kp a b c).u)(hk:(K.gb=b.gb/\K.sb=b.sb/\K.qb=b.qb/\K.bb=b.bb)/\K.tb=b.tb/\K.pi=b.pi/\K.ob=b.ob)(hms:K.ms=(kp (a.c9 n aX) b c').ms):K.put a.free ((kp a b c).ie n nb)=kp (a.c9 n aX) b c':=by
 refine KP.ext (fun m=> ?_) hms hk;by_cases e:m=a.free
 ·subst e;rw[KP.sR];show _=(ad a.u a.free (a.KM n) a.free).pu (c'.mb a.free.toNat);rw[aj,hm,bW];rfl
 ·rw[KP.Ag _ _ e,hu];show(a.u m).pu (c.mb m.toNat)=(ad a.u a.free (a.KM n) m).pu (c'.mb m.toNat);rw[ae _ _ e,hm];by_cases q:m.toNat=a.free.toNat
  ·have:=hI.ng;rw[w.out m og];rfl
  grind [aJ]
theorem KR{a:KA}(hI:a.Gp n aX):jg (a.c9 n aX)=Fl (jg a) a.free.toNat:=(vy fun _ _ _=>Iff.rfl).trans (OT (p:=a.KM n) hI.ng.1 (by decide:(1:Int)≠0))
def VJ{a:KA}(hI:a.Gp n false):lu (a.c9 n false)=lu a:=by
 unfold lu;rw[hI.DW];rfl
theorem Rt{a:KA}(hI:a.Gp n true)(hE:(a.s.add a.aQ (a.s.bU n).1).2.1=0):lu (a.c9 n true)=Fl (lu a) (a.s.add a.aQ (a.s.bU n).1).1.toNat:=by
 have h2:(a.sA n true).aa=ad a.s.aa (a.s.add a.aQ (a.s.bU n).1).1 true:=by
  show(a.s.add a.aQ (a.s.bU n).1).2.2.aa=_;rcases a.s.qQ a.aQ (a.s.bU n).1 with⟨q,_,_⟩ | ⟨k,_,_,_,_,q5⟩;all_goals simp_all
 have hz:=hI.zr;have hz:0<=(a.s.add a.aQ (a.s.bU n).1).1/\(a.s.add a.aQ (a.s.bU n).1).1<6:=⟨hz.1,hz.2.1⟩;funext j;rw[Bool.eq_iff_iff,jK,Cb,Cb,hI.DW,h2];grind [aj,ae]
theorem ks(F:Tr.FF)(n:Int):(F.dZ n).roots=F.roots:=by unfold Tr.FF.dZ;split<;>rfl
def Bo:∀ (l:List MT) (F:Tr.FF),(yU F l).roots=F.roots
 | [],_=>rfl
 | m::r,F=>(Bo r _).trans ((ks _ _).trans (ks _ _))
theorem sF(F:Tr.FF)(l:List MT)(r:WH):(OP F l r).roots=F.roots:=(Bo l _).trans (ks _ _)
theorem xr{s:Sp.SS}(h:(s.add aQ p).2.1=0):(0<=(s.add aQ p).1/\(s.add aQ p).1<6)/\s.aa (s.add aQ p).1=false/\(s.add aQ p).2.2.aa=ad s.aa (s.add aQ p).1 true:=by
 rcases s.qQ aQ p with⟨q,_,_⟩ | ⟨k,_,_,h3,h4,q5⟩;all_goals simp_all
def acR{a:KA}(h:0<=z/\z<6)(hs:a.s.aa z=false):lu a z.toNat=false:=by
 grind [lu]
def VK{a:KA}(h:0<=n/\n<20)(hs:(a.u n).st=0):jg a n.toNat=false:=by
 grind [jg]
theorem iK(a:KA)(n:Int)(h:0<=i):a.fg n (i+1).toNat=if(a.u i).st=0\/(a.u i).aD≠n then a.fg n i.toNat else if(a.s.jq i (a.sz n)).2=0/\(a.u i).st=2/\((a.fg n i.toNat).bB<0\/(a.s.jq i (a.sz n)).1<(a.fg n i.toNat).jq)then⟨(a.fg n i.toNat).kids+1,i,(a.s.jq i (a.sz n)).1,(a.u i).kf⟩else⟨(a.fg n i.toNat).kids+1,(a.fg n i.toNat).bB,(a.fg n i.toNat).jq,(a.fg n i.toNat).kf⟩:=by
 rw[show(i+1).toNat=i.toNat+1 by omega];grind [KA.fg]
def cK.VL{a:KA}{N:Nat}(h:cK a c N T)(hI:a.Gp n aX){q1 q2:SC}{d1:Int->Nat}{g w:Int}(h1:q1.toSF=c.q.toSF.s8 a.free g w)(h2:q2.toSF=q1.toSF.gq d1 a.free true):∀ m,0<=m->m<20->q2.aa (10+m)=true->((a.c9 n aX).u m).st=1:=fun m m0 m1 hm=>by
 have hm:q2.toSF.aa (10+m)=true:=hm;rw[h2,Fa.SF.qP,h1]at hm;show(ad a.u a.free (a.KM n) m).st=1;by_cases e:m=a.free
 ·rw[e,aj];rfl
 ·rw[ae _ _ e];exact h.tk m m0 m1 ((Fa.SF.FI hm).resolve_left e)
end Go.X.Kn

namespace Go.X.Kn
open Go Go.X Go.X.Tr Go.X.Vm
variable{n:Int}
theorem KA.Wk.mem{a:KA}{T:Int}(w:a.Wk T)(hn:0<=n/\n<20)(hl:(a.u n).st=1){v:VB}{m:Vm.MS}(hs:Vm.Sys v (aJ a.f n.toNat m) 20){g:Gr.TG}(hg:g.Inv)(hG:g.bV (1000*T)):({a with v:=v,f:=aJ a.f n.toNat m,g:=g} :KA).Wk T:=
 ⟨w.T0,hg,hG,w.sI,hs,fun p a0 a1 q=>by
  show aJ a.f n.toNat m p.toNat=_
  have:p≠n:=by rintro rfl;exact q hl
  rw[b7 _ _ og];exact w.sx p a0 a1 q,w.PI,w.OI,w.lc,w.st,w.out,w.fd,w.bx⟩
theorem KA.Ok.mem{a:KA}{T:Int}(h:a.Ok T){n:Int}(c:a.aA n=0){v:VB}{m:Vm.MS}(hs:Vm.Sys v (aJ a.f n.toNat m) 20){g:Gr.TG}(hg:g.Inv)(hG:g.bV (1000*T)):({a with v:=v,f:=aJ a.f n.toNat m,g:=g} :KA).Ok T:=
 ⟨h.wk.mem (aR c).1 (aR c).2 hs hg hG,h.hx.same (fun _=>⟨rfl,rfl⟩) rfl,h.r0.same rfl rfl,h.d0⟩
def KA.qe(a:KA)(n f m:Int):Int:=if a.aA n≠0 then a.aA n else(a.f n.toNat).qe f m
def KA.DZ(a:KA)(n f m:Int)(w:Bool):KA:=if a.aA n≠0 then a else {a with v:=a.v,f:=aJ a.f n.toNat ((a.f n.toNat).map f m w),g:=a.g}
theorem KA.Ok.map{a:KA}{T:Int}(h:a.Ok T)(n f m:Int)(w:Bool):(a.DZ n f m w).Ok T:=by
 unfold KA.DZ;split
 ·exact h
 ·rename_i c;have hn:=(aR (show a.aA n=0 by omega)).1;exact h.mem og (h.wk.sys.same og ((h.wk.sys.mo _ og).map _ _ _) (Vm.MS.Hp _ _ _ _).1) h.wk.gI h.wk.gS
def KA.kV(a:KA)(n f m:Int):Int:=if a.aA n≠0 then a.aA n else(a.f n.toNat).kV f m
def KA.uL(a:KA)(n f m:Int)(w:Bool):KA:=if a.aA n≠0 then a else {a with v:=a.v,f:=aJ a.f n.toNat ((a.f n.toNat).mz f m w),g:=a.g}
theorem KA.Ok.mz{a:KA}{T:Int}(h:a.Ok T)(n f m:Int)(w:Bool):(a.uL n f m w).Ok T:=by
 unfold KA.uL;split
 ·exact h
 ·rename_i c;have hn:=(aR (show a.aA n=0 by omega)).1;exact h.mem og (h.wk.sys.same og ((h.wk.sys.mo _ og).mz _ _ _) (Vm.MS.B0 _ _ _ _).1) h.wk.gI h.wk.gS
def KA.rA(a:KA)(n f m:Int):Int×Int×VB×Vm.MS:=(a.f n.toNat).cS a.v f m
def KA.jx(a:KA)(n f m:Int):Int:=if a.aA n≠0 then a.aA n else if(a.rA n f m).2.1≠0 then(a.rA n f m).2.1 else a.g.fP (a.u n).cL 0 (a.rA n f m).1
def KA.dC(a:KA)(n f m:Int):KA:=if a.aA n≠0 then a else {a with v:=(a.rA n f m).2.2.1,f:=aJ a.f n.toNat (a.rA n f m).2.2.2,g:=if(a.rA n f m).2.1≠0 then a.g else a.g.dz (a.u n).cL 0 (a.rA n f m).1}
theorem KA.Ok.cS{a:KA}{T:Int}(h:a.Ok T)(n f m:Int):(a.dC n f m).Ok T:=by
 unfold KA.dC;split
 ·omega
 ·rename_i c;have hn:=(aR (show a.aA n=0 by omega)).1;refine h.mem og (h.wk.sys.cS og _ _) ?_ ?_
  ·split
   ·exact h.wk.gI
   ·exact h.wk.gI.dz _ _ _
  grind [KA.Ok.wk,KA.Wk.gS,uD,KA.Wk.gI]
def KA.BN(a:KA)(z:Int):Nat->Int×Int
 | 0=>(-1,0)
 | k+1=>if 1<=k/\a.aA (k:Int)=0/\a.g.under (a.u (k:Int)).cL z=true/\(a.BN z k).2<a.gk (k:Int)then((k:Int),a.gk (k:Int))else a.BN z k
theorem oy(a:KA)(z:Int){i:Int}(h:1<=i):a.BN z (i+1).toNat=if a.aA i=0/\a.g.under (a.u i).cL z=true/\(a.BN z i.toNat).2<a.gk i then(i,a.gk i)else a.BN z i.toNat:=by
 rw[show(i+1).toNat=i.toNat+1 by omega];grind [KA.BN]
theorem Gq(a:KA)(z:Int):∀ k:Nat,(a.BN z k).1= -1\/(1<=(a.BN z k).1/\a.aA (a.BN z k).1=0)
 | 0=>.inl rfl
 | k+1=>by
  unfold KA.BN;split
  ·rename_i c;exact .inr ⟨by show(1:Int)<=(k:Int);omega,c.2.1⟩
  ·exact Gq a z k
def KA.iL(a:KA)(z:Int):Int:=(a.BN z 20).1
def sG{a:KA}{z:Int}(h:¬a.iL z<0):1<=a.iL z/\a.aA (a.iL z)=0:=by
 grind [Gq,KA.iL]
def KA.iM(a:KA)(n:Int):Option Int:=a.g.iM (a.u n).cL 0 1
def KA.kt(a:KA)(n:Int):Nat->Int×KA
 | 0=>(6,a)
 | k+1=>if a.aA n≠0 then(6,a)else match a.iM n with
  | none=>(a.g.cY (a.u n).cL 0 1,{a with v:=a.v,f:=a.f,g:=a.g.bE (a.u n).cL 0 1})
  | some z=>if a.iL z<0 then(6,a)else(a.dc (a.iL z) 137).kt n k
def Gs{f g:Int->Bool}(h:∀ j,g j=true->f j=true):∀ k:Nat,BJ g k<=BJ f k
 | 0=>Int.le_refl _
 | k+1=>by
  unfold BJ;have:=Gs h k;have h2:=h (k:Int);cases hg:g (k:Int)with
  | false=>simp;split<;>omega
  | true=>rw[h2 hg];simp;omega
def OY{f g:Int->Bool}(h:∀ j,g j=true->f j=true){n:Int}(hf:f n=true)(hg:g n=false):∀ k:Nat,0<=n->n<k->BJ g k<BJ f k
 | 0,h0,h1=>og
 | k+1,h0,h1=>by
  unfold BJ;by_cases e:(k:Int)=n
  ·have:=Gs h k;grind
  ·have:=OY h hf hg k h0 og;grind
def KA.lvC(a:KA):Int:=BJ (fun j=>decide ((a.u j).st=1)) 20
def KS(h p:Int):∀ (l:List Int) (a:KA),((l.foldl (KA.gQ h) a).u p).st=1->(a.u p).st=1
 | [],_,q=>q
 | x::r,a,q=>by
  have q2:=KS h p r (KA.gQ h a x) q;by_cases e:p=x
  ·subst e;unfold KA.gQ at q2;split at q2
   ·omega
   ·rw[show((if(a.u p).st=1 then a.cV p 0 else a).eY p).u p=PA.nil from aj _ _ _]at q2;exact absurd (show(0:Int)=1 from q2) dq
  grind [yY]
theorem M8{a:KA}{co p:Int}(q:((a.dc n co).u p).st=1):p≠n/\(a.u p).st=1:=by
 have q1:((a.gW n co).u p).st=1:=by
  grind [KA.dc,KA.jU,gT,dP]
 have q2:((a.cV n co).u p).st=1:=by
  unfold KA.gW at q1;split at q1
  ·unfold KA.ec at q1;rw[DI]at q1;exact KS n p _ _ q1
  omega
 grind [ml,ov]
def Ru{a:KA}{co:Int}(hn:0<=n/\n<20)(hl:(a.u n).st=1):(a.dc n co).lvC<a.lvC:=by
 refine OY (n:=n) (fun j q=> ?_) ?_ ?_ 20 hn.1 og;all_goals grind [M8]
def KA.OZ(a:KA):0<=a.lvC/\a.lvC<=20:=YK _ 20
def KA.cx(a:KA)(n:Int):Int×KA:=a.kt n 21
end Go.X.Kn

namespace Go.X.Kn
open Go Go.X Go.X.Vm
variable{T n:Int}
theorem KA.Ok.room{n:Int} :∀ (k:Nat) {a:KA} {T:Int},a.Ok T->T<=900000->((a.kt n k).2).Ok (T+1)/\((a.kt n k).1=0->(a.kt n k).2.aA n=0)
 | 0,a,T,h,hT=>⟨h.up og og,fun e=>absurd (show(6:Int)=0 from e) dq⟩
 | k+1,a,T,h,hT=>by
  unfold KA.kt;by_cases c:a.aA n≠0
  ·rw[if_pos c];exact⟨h.up og og,fun e=>absurd (show(6:Int)=0 from e) dq⟩
  ·rw[if_neg c];cases hz:a.iM n with
   | none=>exact⟨h.HR og og (h.wk.gI.bE _ _ _) ((h.wk.gS.bE h.wk.gI.ok _ _ _).mono og),fun _=>by show a.aA n=0;omega⟩
   | some z=>
    show((if a.iL z<0 then((6:Int),a)else(a.dc (a.iL z) 137).kt n k).2).Ok (T+1)/\_;by_cases d:a.iL z<0
    ·show _/\((if a.iL z<0 then((6:Int),a)else(a.dc (a.iL z) 137).kt n k).1=0->_);rw[if_pos d];exact⟨h.up og og,fun e=>absurd (show(6:Int)=0 from e) dq⟩
    ·have hv:=sG d;have hl:=aR hv.2;have h2:=KA.Ok.room (n:=n) k (h.wk.DL h.r0 h.d0 (show a.iL z≠0 by omega) hl.2 (h.hx.any _) 137) hT;simp only[if_neg d];exact h2
def KA.Ok.bE{a:KA}(h:a.Ok T)(hT:T<=900000)(n:Int):((a.cx n).2).Ok (T+1)/\((a.cx n).1=0->(a.cx n).2.aA n=0):=KA.Ok.room 21 h hT
structure TD where
 e:KA->Int
 A:KA->KA
 y:KA->Int
def KA.Xj(a:KA)(n:Int):KA:= {a with g:=a.g.dz (a.u n).cL 0 1}
def KA.iP(a:KA)(n x:Int)(w:Bool)(D:TD)(y0:Int):Int×KA×Int:=
 if a.aA n≠0 then(a.aA n,a,y0)else if(a.f n.toNat).sm x w=false then(10,a,y0)else
 if(a.f n.toNat).l5 x=true then
  if(a.cx n).1≠0 then((a.cx n).1,(a.cx n).2,y0)else
  (D.e (a.cx n).2,if D.e (a.cx n).2≠0 then(D.A (a.cx n).2).Xj n else D.A (a.cx n).2,D.y (a.cx n).2)
 else(D.e a,D.A a,D.y a)
def KA.zp(a:KA)(n x:Int):Int×Int×VB×Vm.MS:=(a.f n.toNat).load a.v x
def KA.lP(a:KA)(n x:Int):KA:= {a with v:=(a.zp n x).2.2.1,f:=aJ a.f n.toNat (a.zp n x).2.2.2,g:=a.g}
def KA.sfR(a:KA)(n x y:Int):Int×VB×Vm.MS:=(a.f n.toNat).store a.v x y
def KA.sfA(a:KA)(n x y:Int):KA:= {a with v:=(a.sfR n x y).2.1,f:=aJ a.f n.toNat (a.sfR n x y).2.2,g:=a.g}
def Rv(n x:Int):TD:=⟨fun a=>(a.zp n x).2.1,fun a=>a.lP n x,fun a=>(a.zp n x).1⟩
def LC(n x y:Int):TD:=⟨fun a=>(a.sfR n x y).1,fun a=>a.sfA n x y,fun _=>y⟩
def KA.eM(a:KA)(n x:Int):Int×KA×Int:=a.iP n x false (Rv n x) 0
def KA.dW(a:KA)(n x y:Int):Int×KA×Int:=a.iP n x true (LC n x y) y
def KA.Ok.ld{a:KA}(h:a.Ok T)(c:a.aA n=0)(x:Int):(a.lP n x).Ok T:=by
 have hn:=(aR c).1;exact h.mem c (h.wk.sys.load (z:=n.toNat) og x) h.wk.gI h.wk.gS
def KA.Ok.sf{a:KA}(h:a.Ok T)(c:a.aA n=0)(x:Int){y:Int}(hy:0<=y/\y<256):(a.sfA n x y).Ok T:=by
 have hn:=(aR c).1;exact h.mem c (h.wk.sys.store (z:=n.toNat) og x y hy) h.wk.gI h.wk.gS
theorem KA.Ok.un{a:KA}(h:a.Ok T)(n:Int):(a.Xj n).Ok T:=h.HR og h.wk.T0.2 (h.wk.gI.dz _ _ _) (uD h.wk.gI h.wk.gS _ _ _)
def KA.Ok.tch{a:KA}(h:a.Ok T)(hT:T<=900000){D:TD}(hD:∀ {b:KA} {S:Int},b.Ok S->b.aA n=0->(D.A b).Ok S)(x:Int)(w:Bool)(y0:Int):((a.iP n x w D y0).2.1).Ok (T+1):=by
 have h1:=h.up (T':=T+1) og og;have h2:=h.bE hT n;grind [KA.iP,KA.Ok.un]
theorem KA.Ok.load{a:KA}(h:a.Ok T)(hT:T<=900000)(n x:Int):((a.eM n x).2.1).Ok (T+1):=h.tch hT (fun hb c=>hb.ld c x) x false 0
theorem KA.Ok.store{a:KA}(h:a.Ok T)(hT:T<=900000)(n x:Int){y:Int}(hy:0<=y/\y<256):((a.dW n x y).2.1).Ok (T+1):=h.tch hT (fun hb c=>hb.sf c x hy) x true y
end Go.X.Kn

namespace Go.X.Kn
open Go Go.X
variable{T:Int}
def KA.nH(a:KA)(p w:Int):KA:=if w<1\/1000<w then a else {a with g:=a.g.add p}
def KA.Au(a:KA)(n:Int):KA:= {a with g:=a.g.dG n}
def KA.Rw(a:KA)(n p m:Int):KA:= {a with g:=a.g.jC n p m}
def KA.Gt(a:KA)(n z:Int):Int:=a.g.eK (a.u n).cL z 1 (a.gk n)
def KA.mJ(a:KA)(n z:Int):KA:=if a.aA n≠0\/a.Gt n z≠0 then a else {a with u:=ad a.u n {a.u n with cL:=z},g:=a.g.move (a.u n).cL z 1 (a.gk n)}
theorem uM(u:Int->PA)(n z p:Int):(ad u n {u n with cL:=z} p).st=(u p).st/\(ad u n {u n with cL:=z} p).bx=(u p).bx/\(ad u n {u n with cL:=z} p).fd=(u p).fd:=by
 grind [ad]
def KA.Ok.s5{a:KA}(h:a.Ok T)(p w:Int):(a.nH p w).Ok T:=by
 unfold KA.nH;split
 ·exact h
 ·exact h.HR og h.wk.T0.2 (h.wk.gI.add p) (h.wk.gS.add (by have:=h.wk.T0;omega) p)
def KA.Ok.o3{a:KA}(h:a.Ok T)(n:Int):(a.Au n).Ok T:=h.HR og h.wk.T0.2 (h.wk.gI.dG n) (h.wk.gS.dG (by have:=h.wk.T0;omega) n)
def KA.Ok.SD{a:KA}(h:a.Ok T)(n p m:Int):(a.Rw n p m).Ok T:=h.HR og h.wk.T0.2 (h.wk.gI.jC n p m) (h.wk.gS.jC n p m)
theorem VM{g:Gr.TG}{a b p m:Int}(h:g.eK a b p m≠0):g.move a b p m=g:=by
 unfold Gr.TG.move;unfold Gr.TG.eK at h;grind
def KA.Ok.wL{a:KA}(h:a.Ok T)(hT:T<=900000)(n z:Int):(a.mJ n z).Ok (T+1):=by
 unfold KA.mJ;split
 ·grind [KA.Ok.up]
 ·rename_i c;have h1:=h.io (T':=T) (Int.le_refl _) h.wk.T0.2 (u:=ad a.u n {a.u n with cL:=z}) (O:=a.O) (P:=a.P) (fun p=>(uM _ _ _ p).1) (fun p=>(uM _ _ _ p).2.1) (fun p hp=>by
   have hl:a.aA n=0:=by simp_all
   have:=(aR hl).1
   rw[ae _ _ og];exact h.wk.out p hp) (fun p i=>by rw[(uM _ _ _ p).2.2];exact h.wk.fd p i) h.wk.OI h.wk.PI
  exact h1.HR og og (h.wk.gI.move _ _ _ _) ((h.wk.gS.move h.wk.gI.ok _ _ _ _).mono og)
end Go.X.Kn
