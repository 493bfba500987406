import Derived.Test.YthdinakloheinaaGreatDoorkFL
import Derived.Test.YthdinakloheinaaGreatDoorXQ
set_option linter.all false
namespace Go.X.Fa
open Go Go.X
variable{n z:Int}
def b7:Nat->Bool:=fun i=>Nat.blt i 30
def SC.da(e:TypeId)(s:SC):Nat->pQ:=fun i=>⟨.slice (s.P (i:Int)) (s.Q (i:Int)).n (s.C (i:Int)),e,2,(s.Q (i:Int)).n,bV (gZ (s.Q (i:Int))) ((s.Q (i:Int)).n*2)⟩
abbrev iE(z:Int):Nat:=0+0+z.toNat*76+6
theorem SX(s:SC)(h:0<=z/\z<30){i:Nat}(hi:i<65):aM s (iE z+i)=gq (s.Q z) (s.P z) (s.C z) i:=by
 have e:=aM.at_ s z h (6+i) og;rw[show iE z+i=0+0+z.toNat*76+(6+i)from by unfold iE;omega,e];unfold aM.cell;rw[if_neg og,if_neg og,if_neg og,if_neg og,if_neg og,if_neg og,if_pos og,show 6+i-6=i from og];rfl
section
variable {W w:World} {S:Nat->Nat->Prop} {H F:List aK}
def XM.Bz{b o n:Nat}{C C':Nat->Value}(hC:∀ i,i<n->C i=C' i)(h:XM W S (.cells b o n C::H) w):XM W S (.cells b o n C'::H) w:=by
 obtain⟨⟨hh,nS⟩,hk,hm⟩:=h;rw[List.pairwise_cons]at nS;refine⟨⟨fun e he=> ?_,List.pairwise_cons.2 ⟨nS.1,nS.2⟩⟩,hk,fun e he=> ?_⟩
 ·rcases List.mem_cons.1 he with rfl | he
  ·obtain⟨A,t,lo,hi,h1,h2⟩:=hh (.cells b o n C) sq;exact⟨A,t,lo,hi,h1,fun i Pr=>by rw[<-hC i Pr];exact h2 i Pr⟩
  simp_all
 ·rcases List.mem_cons.1 he with rfl | he
  ·exact hm (.cells b o n C) sq
  grind
def mX{b o:Nat}{e:TypeId}{s:SC}(hz:0<=z/\z<30)(hp:cI H [.cells b o 2281 (aM s),.aV b7 (s.da e)] F)(h:XM W S H w):XM W S (.cells b (o+iE z) 65 (gq (s.Q z) (s.P z) (s.C z))::aS (s.P z) (s.C z) e 2 (s.Q z).n (gZ (s.Q z)):: .cells b o (iE z) (aM s):: .cells b (o+iE z+65) (2281-iE z-65) (fun i=>aM s (iE z+65+i)):: .aV (iS b7 z.toNat) (s.da e)::F) w:=by
 have LJ:iE z+65<=2281:=by unfold iE;omega
 have h1:=h.b8 hp.b8;have h2:=XM.part (n:=2281) (off:=iE z) (m:=65) LJ h1;have h3:=XM.Bz (C':=gq (s.Q z) (s.P z) (s.C z)) (fun i hi=>SX s hz hi) h2;have h4:=h3.b8 (H':=.aV b7 (s.da e):: .cells b (o+iE z) 65 (gq (s.Q z) (s.P z) (s.C z)):: .cells b o (iE z) (aM s):: .cells b (o+iE z+65) (2281-iE z-65) (fun i=>aM s (iE z+65+i))::F)
  (mT.b8 (.av (.av (.av .aa))))
 have h5:=oe z.toNat (by show Nat.blt z.toNat 30=true;simp;omega) h4;have e1:(s.da e z.toNat).Ce=aS (s.P z) (s.C z) e 2 (s.Q z).n (gZ (s.Q z)):=by
  grind [SC.da]
 rw[e1]at h5;exact h5.b8 (cI.b8 (E:=[_,_,_,_,_]) (F:=F) (pk [2,0,1,1,0]))
theorem SY(s:SC)(z:Int)(q:QS)(p:Option Addr)(c:Nat)(h:0<=z/\z<30)(i:Nat)(hi:i<iE z\/iE z+65<=i):aM {s with Q:=ae s.Q z q,P:=ae s.P z p,C:=ae s.C z c} i=aM s i:=by
 unfold aM;refine gW (fun c1=> ?_) fun _=>rfl;by_cases cz:((i/76:Nat):Int)=z
 ·have hj:¬(6<=i%76/\i%76<71):=by unfold iE at hi;omega
  rw[cz];unfold aM.cell;simp only[if_neg hj];rfl
 grind [aM.un,ae]
def qw{b o:Nat}{e:TypeId}{s:SC}{q:QS}{p:Option Addr}{c:Nat}(hz:0<=z/\z<30)(hp:cI H [.cells b (o+iE z) 65 (gq q p c),aS p c e 2 q.n (gZ q),.cells b o (iE z) (aM s),.cells b (o+iE z+65) (2281-iE z-65) fun i=>aM s (iE z+65+i),.aV (iS b7 z.toNat) (s.da e)] F)(h:XM W S H w):XM W S (.cells b o 2281 (aM {s with Q:=ae s.Q z q,P:=ae s.P z p,C:=ae s.C z c}):: .aV b7 (SC.da e {s with Q:=ae s.Q z q,P:=ae s.P z p,C:=ae s.C z c})::F) w:=by
 have LJ:iE z+65<=2281:=by unfold iE;omega
 have h1:=(h.b8 hp.b8).b8 (cI.b8 (E:=[aS p c e 2 q.n (gZ q),.aV (iS b7 z.toNat) (s.da e),.cells b (o+iE z) 65 (gq q p c),.cells b o (iE z) (aM s),.cells b (o+iE z+65) (2281-iE z-65) fun i=>aM s (iE z+65+i)]) (F:=F)
  (pk [1,3,0,0,0]))
 have h2:=qk (x:=⟨.slice p q.n c,e,2,q.n,bV (gZ q) (q.n*2)⟩) z.toNat (uB _ _) h1;rw[Fb (show b7 z.toNat=true by show Nat.blt z.toNat 30=true;simp;omega)]at h2;have e1:xe (s.da e) z.toNat ⟨.slice p q.n c,e,2,q.n,bV (gZ q) (q.n*2)⟩=SC.da e {s with Q:=ae s.Q z q,P:=ae s.P z p,C:=ae s.C z c} :=by
  grind [pt,SC.da,lE,ae]
 rw[e1]at h2;have h3:=h2.b8 (cI.b8 (E:=[.cells b (o+iE z) 65 (gq q p c),.cells b o (iE z) (aM s),.cells b (o+iE z+65) (2281-iE z-65) fun i=>aM s (iE z+65+i),.aV b7 (SC.da e {s with Q:=ae s.Q z q,P:=ae s.P z p,C:=ae s.C z c})]) (F:=F)
  (pk [1,1,1,0]))
 refine XM.IM (n:=2281) (off:=iE z) (m:=65) LJ (fun i hi=> ?_) (fun i hi=> ?_) (fun i hi=> ?_) h3 og;all_goals grind [SY,SX,au]
def rz{b o:Nat}{e:TypeId}{s:SC}(hz:0<=z/\z<30)(hp:cI H [.cells b (o+iE z) 65 (gq (s.Q z) (s.P z) (s.C z)),aS (s.P z) (s.C z) e 2 (s.Q z).n (gZ (s.Q z)),.cells b o (iE z) (aM s),.cells b (o+iE z+65) (2281-iE z-65) fun i=>aM s (iE z+65+i),.aV (iS b7 z.toNat) (s.da e)] F)(h:XM W S H w):XM W S (.cells b o 2281 (aM s):: .aV b7 (s.da e)::F) w:=by
 have h1:=qw hz hp h;simp_all[cy]
theorem XM.newRow{e:TypeId}{s:SC}(hz:0<=z/\z<30)(hp:cI H [.aV b7 (s.da e)] F)(h:XM W S H w):XM W S (.aV b7 (SC.da e {s with Q:=ae s.Q z QS.dm,P:=ae s.P z none,C:=ae s.C z 0})::F) w:=by
 have h1:=oe z.toNat (by show Nat.blt z.toNat 30=true;simp;omega) (h.b8 hp.b8);have h2:=XM.pick (E:=.aV (iS b7 z.toNat) (s.da e)::F) (F:=[(s.da e z.toNat).Ce]) (by
  have hq:∀ (x:aK) (L:List aK),cI (x::L) L [x]:=fun x L=>by
   induction L with
   | nil=>exact .nil
   | cons y r ih=>exact .cons (.av .aa) ih
  exact hq _ _) h1
 have h3:=h2.fc e 2;have h4:=qk (x:=⟨.slice none 0 0,e,2,0,[]⟩) z.toNat (uB _ _) h3;rw[Fb (show b7 z.toNat=true by show Nat.blt z.toNat 30=true;simp;omega)]at h4;have e1:xe (s.da e) z.toNat ⟨.slice none 0 0,e,2,0,[]⟩=SC.da e {s with Q:=ae s.Q z QS.dm,P:=ae s.P z none,C:=ae s.C z 0} :=by
  funext i;by_cases hi:i=z.toNat
  ·subst hi;rw[pt];unfold SC.da;simp only[show((z.toNat:Nat):Int)=z from og,au];rfl
  ·rw[lE _ _ hi];have Pr:¬(i:Int)=z:=og;unfold SC.da;simp only[ai _ _ Pr]
 rw[e1]at h4;exact h4
end
theorem XQ.mono{P:Program}{ops:Array Oper}{Q:Exit->Act->World->Prop}{n:Fr}{L:PF}{M M':World->Prop}{B:Ax}{f:Nat}{l:Array Bool}(hm:∀ w,M w->M' w)(h:XQ P n ops Q B f l L M'):XQ P n ops Q B f l L M:=fun hc a w ha hw hJ=>h hc a w ha (hm w hw) hJ
theorem SC.lX.gF{s:SC}(h:s.lX)(hw:∀ i,s.ck i=true->0<i/\i<30){n:Int}(h0:0<=n)(h1:n<30):s.toSF.gF n=decide (0<(s.Q n).n):=by
 rw[Bool.eq_iff_iff,SF.qv,decide_eq_true_eq,(h n h0 h1).len];constructor
 ·rintro⟨i,i0,i1,i2,i3⟩;exact⟨i,i0,og,(SF.ry _ _ _).2 ⟨i2,i3⟩⟩
 ·rintro⟨i,i0,i1,i2⟩;obtain⟨a,b⟩:=(SF.ry _ _ _).1 i2;grind
namespace SF
def vq(s:SF)(n:Int):Int:=if n<0\/10<=n then 1 else if s.aa n=true then 0 else 2
def xz(s:SF)(n:Int):Int:=if n<0\/20<=n then 1 else if s.aa (10+n)=true then 0 else 2
def G6(s:SF)(n:Int):0<=s.vq n:=by unfold vq;split<;>(try split)<;>omega
def abp(s:SF)(n:Int):0<=s.xz n:=by unfold xz;split<;>(try split)<;>omega
theorem mu(k:Nat)(s:SF)(h:n<=0:=by omega):hQ k s n=s:=by
 cases k with
 | zero=>rfl
 | succ k=>show(if n<=0 then s else _)=s;rw[if_pos h]
theorem oN(k:Nat)(s:SF)(h:0<n):hQ (k+1) s n=hQ k (s.uJ n) (s.aA n):=by
 grind [hQ]
def Inv.uJ{s:SF}{d:Int->Nat}(h:s.Inv d){n:Int}(h0:0<n)(h1:n<30)(h2:s.aa n=true):(s.uJ n).Inv d:=by
 refine⟨h.h0,h.up,fun i hi=> ?_,h.quo,h.wt⟩;have e:(s.uJ n).ck i=ae s.ck n (s.ready n) i:=rfl;rw[e]at hi;by_cases c:i=n
 ·subst c;exact⟨h0,h1,h2⟩
 ·rw[ai _ _ c]at hi;exact h.ck i hi
end SF
theorem SC.lX.enter{s:SC}(h:s.lX)(hn:0<=n/\n<30)(hg:0<=s.aA n/\s.aA n<30)(hw:s.ck n=false)(t:SF)(ht:t.ck=ae s.ck n true)(hv:∀ i,¬i=n->t.v i=s.v i)(hp:t.aA=s.aA)(iJ:Int)(ahu:t.v n=iJ)(P:Int->Option Addr)(C:Int->Nat):SC.lX ⟨t,ae s.Q (s.aA n) ((s.Q (s.aA n)).put n iJ).2,P,C⟩:=fun g g0 g1=>by
 subst ahu;show l5 (ae s.Q (s.aA n) _ g) (t.mq g);unfold SF.mq;rw[ht,hp];by_cases c:g=s.aA n
 ·subst c;rw[au];have vS:(s.toSF.mq (s.aA n)).is n=2:=RQ.xy og (by show(s.ck n&&_)=false;rw[hw];rfl);have h1:=((h _ g0 g1).put n (t.v n)).2;rw[RQ.te _ og og]at h1;refine h1.ext (fun i _ _=> ?_) fun i _ _ _=> ?_
  ·show(ae s.ck n true i&&decide (s.aA i=s.aA n))=ae (fun i=>s.ck i&&decide (s.aA i=s.aA n)) n true i;grind [ae]
  ·show t.v i=ae s.v n (t.v n) i;grind [ae]
 ·rw[ai _ _ c];refine(h g g0 g1).ext (fun i _ _=> ?_) fun i _ _ hi=> ?_
  ·show(ae s.ck n true i&&decide (s.aA i=g))=(s.ck i&&decide (s.aA i=g));grind [ae]
  ·have ci:¬i=n:=fun e=>by
    subst e;have:=((SF.ry _ _ _).1 hi).1;simp_all
   exact hv i ci
theorem SC.lX.fB{s:SC}(h:s.lX)(hn:0<=n/\n<30)(hg:0<=s.aA n/\s.aA n<30)(hw:s.ck n=true)(t:SF)(ht:t.ck=ae s.ck n false)(hv:∀ i,¬i=n->t.v i=s.v i)(hp:t.aA=s.aA)(P:Int->Option Addr)(C:Int->Nat):SC.lX ⟨t,ae s.Q (s.aA n) ((s.Q (s.aA n)).cut n).2.2,P,C⟩:=fun g g0 g1=>by
 show l5 (ae s.Q (s.aA n) _ g) (t.mq g);unfold SF.mq;rw[ht,hp];by_cases c:g=s.aA n
 ·subst c;rw[au];have vS:(s.toSF.mq (s.aA n)).is n=0:=RQ.Cv og (by show(s.ck n&&_)=true;rw[hw];simp);have h1:=((h _ g0 g1).cut n).2.2;rw[RQ.LI vS]at h1;refine h1.ext (fun i _ _=> ?_) fun i _ _ hi=> ?_
  ·show(ae s.ck n false i&&decide (s.aA i=s.aA n))=ae (fun i=>s.ck i&&decide (s.aA i=s.aA n)) n false i;grind [ae]
  ·have ci:¬i=n:=fun e=>by
    grind [au]
   exact hv i ci
 ·rw[ai _ _ c];refine(h g g0 g1).ext (fun i _ _=> ?_) fun i _ _ hi=> ?_
  ·show(ae s.ck n false i&&decide (s.aA i=g))=(s.ck i&&decide (s.aA i=g));grind [ae]
  ·have ci:¬i=n:=fun e=>by
    subst e;exact c ((SF.ry _ _ _).1 hi).2.symm
   exact hv i ci
theorem SC.lX.bI{s:SC}(h:s.lX)(hn:0<=n/\n<30)(hg:0<=s.aA n/\s.aA n<30):((s.Q (s.aA n)).iJ n).2=if s.ck n=true then 0 else 2:=by
 rw[((h _ hg.1 hg.2).abn n).2.1];by_cases c:s.ck n=true
 ·rw[if_pos c,Fo (RQ.Cv og (by show(s.ck n&&_)=true;rw[c];simp))]
 ·have vS:(s.toSF.mq (s.aA n)).is n=2:=RQ.xy og (by
   show(s.ck n&&_)=false
   cases q:s.ck n with
   | true=>exact absurd q c
   | false=>rfl)
  rw[if_neg c,SR false og];exact vS
def SC.lX.ahv{s:SC}(h:s.lX)(hn:0<=n/\n<30)(hg:0<=s.aA n/\s.aA n<30)(hw:s.ck n=true):((s.Q (s.aA n)).cut n).1=s.v n/\((s.Q (s.aA n)).cut n).2.1=0:=by
 obtain⟨h1,h2,_⟩:=(h _ hg.1 hg.2).cut n;rw[RQ.LI (RQ.Cv og (by show(s.ck n&&_)=true;rw[hw];simp))]at h1 h2;exact⟨h1,h2⟩
theorem AN{s:SF}(h:s.ready n=s.ck n):s.uJ n=s:=by
 unfold SF.uJ;grind [cy,SF]
theorem SF.zx{s:SF}(hp:s.aA n≠n)(w:Bool):SF.ready {s with ck:=ae s.ck n w} n=s.ready n:=by
 have hk:SF.gF {s with ck:=ae s.ck n w} n=s.gF n:=by
  rw[Bool.eq_iff_iff,SF.qv,SF.qv];grind [ai]
 unfold SF.ready;rw[hk]
def PL(s:SC)(z v:Int)(h:0<=z/\z<30):0+0+z.toNat*76+3<2281/\aM {s with v:=ae s.v z v} (0+0+z.toNat*76+3)= .int .u64 v:=by
 have:=ti {s with v:=ae s.v z v} z h;grind [au]
def NK{W w:World}{S:Nat->Nat->Prop}{H F:List aK}{b o:Nat}{e:TypeId}{s:SC}(ws:Int->Bool)(hp:cI H [.cells b o 2281 (aM s),.aV b7 (s.da e)] F)(h:XM W S H w):
  XM W S (.cells b o 2281 (aM {s with ck:=ws}):: .aV b7 (SC.da e {s with ck:=ws})::F) w:=h.b8 hp.b8
end Go.X.Fa

namespace Go.X.Fa
open Go Go.X
variable{a g m n p t w z:Int}{d:Int->Nat}
namespace SF
def pT(s:SF)(n p w:Int)(h:Bool):SF:=⟨ae s.aa n h,ae s.aA n p,ae s.wt n w,ae s.v n 0,ae s.uI n 0,ae s.cF n false,ae s.eG n 0,ae s.vC n false,ae s.dz n 0,ae s.eH n 0,ae s.dH n 0,s.gN,ae s.ck n false⟩
def lF(s:SF)(n p w:Int):Int:=if n<0\/10<=n\/w<1\/1000<w then 1 else if s.aa n=true then 3 else s.vq p
def lG(s:SF)(n p w:Int):Int:=if n<0\/20<=n\/w<1\/1000<w then 1 else if s.aa (10+n)=true then 3 else s.vq p
def vr(s:SF)(n p w:Int):SF:=if s.lF n p w=0 then s.pT n p w true else s
def sG(s:SF)(n p w:Int):SF:=if s.lG n p w=0 then s.pT (10+n) p w true else s
def SZ(s:SF)(n:Int):Bool:=(List.range 30).any (fun i=>s.aa (i:Int)&&decide (s.aA (i:Int)=n))
def nu(s:SF)(n:Int):Int:=if s.vq n≠0 then s.vq n else if n=0\/s.SZ n=true then 5 else 0
def qx(s:SF)(n:Int):SF:=if s.nu n=0 then s.pT n 0 0 false else s
def fU(d:Int->Nat)(s:SF)(n:Int)(on:Bool):SF:=if s.xz n=0 then look d {s with cF:=ae s.cF (10+n) on} (10+n)else s
def Ez(s:SF)(n:Int):Int:=if s.vq n≠0 then s.vq n else if n=0 then 8 else 0
def freeze(d:Int->Nat)(s:SF)(n:Int)(on:Bool):SF:=if s.Ez n=0 then look d {s with vC:=ae s.vC n on} n else s
def sH(s:SF)(n q p:Int):Int:=if s.vq n≠0 then s.vq n else if n=0 then 8 else if q<0\/p<1\/100<p\/p<q then 1 else 0
def abq(s:SF)(n q p:Int):SF:= {s with dz:=ae s.dz n q,eH:=ae s.eH n p,dH:=ae s.dH n 0}
def xA(d:Int->Nat)(s:SF)(n q p:Int):SF:=if s.sH n q p=0 then look d (s.abq n q p) n else s
def vD(d:Int->Nat)(s:SF)(n:Int):SF:=if s.xz n=0 then(s.fU d n false).pT (10+n) 0 0 false else s
def fg(s:SF)(n g:Int):Int:=if s.xz n≠0 then s.xz n else s.vq g
def mv1(d:Int->Nat)(s:SF)(n g:Int):SF:= {s.fU d n false with aA:=ae (s.fU d n false).aA (10+n) g,v:=ae (s.fU d n false).v (10+n) 0,cF:=ae (s.fU d n false).cF (10+n) (s.cF (10+n))}
def move(d:Int->Nat)(s:SF)(n g:Int):SF:=if s.fg n g=0 then look (ae d (10+n) (d g+1)) (mv1 d s n g) (10+n)else s
theorem Fq(s:SF)(n:Int):s.SZ n=true↔∃ i:Int,0<=i/\i<30/\s.aa i=true/\s.aA i=n:=by
 unfold SZ;simp only[List.any_eq_true,List.mem_range,Bool.and_eq_true,decide_eq_true_eq];constructor
 ·grind
 ·rintro⟨k,h1,h2,h3,h4⟩;refine⟨k.toNat,og,?_⟩;grind
def NL{s:SF}{k:Int}(h0:0<=k)(h1:k<30)(h2:s.aa k=true)(h3:s.aA k=n):s.SZ n=true:=(s.Fq n).2 ⟨k,h0,h1,h2,h3⟩
def Xj{s:SF}(h:∀ j:Int,0<=j->j<30->¬(s.aa j=true/\s.aA j=n)):s.SZ n=false:=by
 grind [Fq]
def Fs{s:SF}(h:s.vq n=0):0<=n/\n<10/\s.aa n=true:=by
 grind [vq]
def S7{s:SF}(h:s.xz n=0):0<=n/\n<20/\s.aa (10+n)=true:=by
 grind [xz]
theorem abr{s:SF}(h0:0<=n)(h1:n<20)(h2:s.aa (10+n)=true):s.xz n=0:=by grind [xz]
def jR:∀ (k:Nat) (s:SF) (n:Int),(hQ k s n).aa=s.aa/\(hQ k s n).aA=s.aA/\(hQ k s n).wt=s.wt/\(hQ k s n).uI=s.uI/\(hQ k s n).cF=s.cF/\(hQ k s n).eG=s.eG/\(hQ k s n).vC=s.vC/\(hQ k s n).dz=s.dz/\(hQ k s n).eH=s.eH/\(hQ k s n).dH=s.dH/\(hQ k s n).gN=s.gN
 | 0,s,n=>⟨rfl,rfl,rfl,rfl,rfl,rfl,rfl,rfl,rfl,rfl,rfl⟩
 | k+1,s,n=>by
  by_cases h:n<=0
  ·rw[mu _ _ h];exact⟨rfl,rfl,rfl,rfl,rfl,rfl,rfl,rfl,rfl,rfl,rfl⟩
  ·rw[oN _ _ og];exact jR k (s.uJ n) (s.aA n)
def Ft{d:Int->Nat} :∀ (k:Nat) (s:SF) (n:Int),s.Inv d->(n=0\/(0<n/\n<30/\s.aa n=true))->(hQ k s n).Inv d
 | 0,s,n,h,_=>h
 | k+1,s,n,h,hn=>by
  rcases hn with rfl | ⟨n0,n1,n2⟩
  ·rw[mu _ _];exact h
  ·rw[oN _ _ n0];obtain⟨p0,p1,p2,_⟩:=h.up n n0 n1 n2;apply Ft k (s.uJ n) (s.aA n) (h.uJ n0 n1 n2);by_cases c:s.aA n=0
   ·exact .inl c
   ·exact .inr ⟨og,og,p2⟩
def mM(s:SF):Prop:=∀ n,0<n->n<30->s.aa n=true->s.ck n=s.ready n
end SF
def lH(u:aM.U):Array Value:=((List.range 76).map (aM.cell u)).toArray
abbrev wj(h:Bool)(p w:Int):aM.U:=⟨h,p,w,0,0,false,0,false,0,0,0,QS.dm,none,0⟩
def kU{c:Prop}[Decidable c]{a b:Value}(h1:c->one a=true)(h2:¬c->one b=true):one (if c then a else b)=true:=by
 grind
def S8(s:QS)(p:Option Addr)(c i:Nat)(hi:i<65):one (gq s p c i)=true:=by grind [one,gq]
theorem S9(u:aM.U)(j:Nat)(hj:j<76):one (aM.cell u j)=true:=
 kU (fun _=>rfl) fun _=>kU (fun _=>rfl) fun _=>kU (fun _=>rfl) fun _=>kU (fun _=>rfl) fun _=>kU (fun _=>rfl) fun _=>kU (fun _=>rfl) fun _=>kU (fun c=>S8 _ _ _ _ og) fun _=>kU (fun _=>rfl) fun _=>kU (fun _=>rfl) fun _=>kU (fun _=>rfl) fun _=>kU (fun _=>rfl) fun _=>kU (fun _=>rfl) fun _=>by exact absurd hj og
def oO(u:aM.U):(lH u).toList.all one=true/\(lH u).size=76:=by
 grind [lH,S9]
def tq(s:SC)(z p w:Int)(h:Bool)(hz:0<=z/\z<30:=by omega):0+0+z.toNat*76+76<=2281/\cB (aM s) (0+0+z.toNat*76) (lH (wj h p w)).toList=aM ⟨s.toSF.pT z p w h,ae s.Q z QS.dm,ae s.P z none,ae s.C z 0⟩:=
 aM.SU s ⟨s.toSF.pT z p w h,ae s.Q z QS.dm,ae s.P z none,ae s.C z 0⟩ z hz _ (by simp[lH]) (fun j hj=>by
  have e:aM.un ⟨s.toSF.pT z p w h,ae s.Q z QS.dm,ae s.P z none,ae s.C z 0⟩ z=wj h p w:=by
   unfold aM.un SF.pT
   simp only[au]
  rw[e]
  simp[lH,hj]) (fun y hy=>by
  unfold aM.un SF.pT
  simp only[ai _ _ hy]) rfl
def SC.lX.new{s:SC}(h:s.lX)(hw:s.ck z=false)(hk:∀ i,s.ck i=true->s.aA i≠z)(p w:Int)(hh:Bool):SC.lX ⟨s.toSF.pT z p w hh,ae s.Q z QS.dm,ae s.P z none,ae s.C z 0⟩:=fun g g0 g1=>by
 show l5 (ae s.Q z QS.dm g) ((s.toSF.pT z p w hh).mq g);by_cases c:g=z
 ·subst c;rw[au];refine l5.dm.ext (fun i _ _=> ?_) fun i _ _ hi=>by cases hi
  show(ae s.ck g false i&&decide (ae s.aA g p i=g))=false;grind [ae]
 ·rw[ai _ _ c];refine(h g g0 g1).ext (fun i _ _=> ?_) fun i _ _ hi=> ?_
  ·show(ae s.ck z false i&&decide (ae s.aA z p i=g))=(s.ck i&&decide (s.aA i=g));grind [ae]
  ·show ae s.v z 0 i=s.v i;have ci:¬i=z:=fun e=>by
    subst e;have:=((SF.ry _ _ _).1 hi).1;simp_all
   grind [ae]
def SF.dm:SF:=⟨fun _=>false,fun _=>0,fun _=>0,fun _=>0,fun _=>0,fun _=>false,fun _=>0,fun _=>false,fun _=>0,fun _=>0,fun _=>0,0,fun _=>false⟩
def SC.dm:SC:=⟨SF.dm,fun _=>QS.dm,fun _=>none,fun _=>0⟩
def Ta:Array Value:=((List.range 2281).map (aM SC.dm)).toArray
def PM:Ta.size=2281:=by simp[Ta]
def Tc:∀ i,i<2281->cellsOf Ta i=aM SC.dm i:=fun i hi=>by simp[cellsOf,Ta,hi]
def SF.cP:SF:=SF.dm.pT 0 (-1) 1 true
theorem SC.lX.dm:SC.dm.lX:=fun g _ _=>l5.dm.ext (fun i _ _=>rfl) fun i _ _ hi=>by cases hi
namespace SF
def Fu{d:Int->Nat} :∀ (k:Nat) (s:SF) (n:Int),s.Inv d->(n=0\/(0<n/\n<30/\s.aa n=true))->∀ i,(n=0\/d n<d i)->(hQ k s n).ck i=s.ck i/\(hQ k s n).v i=s.v i
 | 0,s,n,_,_,i,_=>⟨rfl,rfl⟩
 | k+1,s,n,h,hn,i,hi=>by
  rcases hn with rfl | ⟨n0,n1,n2⟩
  ·rw[mu _ _];exact⟨rfl,rfl⟩
  ·rw[oN _ _ n0];obtain⟨p0,p1,p2,p3⟩:=h.up n n0 n1 n2;have hd:d n<d i:=by
    rcases hi with q | q
    ·omega
    ·exact q
   have vy:¬i=n:=fun e=>by subst e;omega
   have ih:=Fu k (s.uJ n) (s.aA n) (h.uJ n0 n1 n2) (by
    by_cases c:s.aA n=0
    ·exact .inl c
    ·exact .inr ⟨og,og,p2⟩) i (.inr og)
   have e1:(s.uJ n).ck i=s.ck i:=ai _ _ vy;have e2:(s.uJ n).v i=s.v i:=ai _ _ vy;rw[ih.1,ih.2,e1,e2];exact⟨rfl,rfl⟩
theorem G7{s:SF}(h:s.Inv d)(n0:0<n)(n1:n<30)(n2:s.aa n=true):(look d s n).ck n=s.ready n:=by
 unfold look;rw[oN _ _ n0];obtain⟨p0,p1,p2,p3⟩:=h.up n n0 n1 n2;have e:=(Fu (d n) (s.uJ n) (s.aA n) (h.uJ n0 n1 n2) (by
  by_cases c:s.aA n=0
  ·omega
  ·exact .inr ⟨og,og,p2⟩) n (.inr p3)).1
 rw[e];exact au _ _ _
def tr{s:SF}(h:s.Inv d)(hn:n=0\/(0<n/\n<30/\s.aa n=true)):(look d s n).Inv d:=Ft _ _ _ h hn
def mv(d:Int->Nat)(s:SF)(n:Int):(look d s n).aa=s.aa:=(jR _ _ _).1
def I9(d:Int->Nat)(s:SF)(n:Int):(look d s n).aA=s.aA:=(jR _ _ _).2.1
def IsB(s:SF)(g b:Int):Prop:=s.ck b=true/\s.aA b=g/\∀ i,s.ck i=true->s.aA i=g->¬AH (s.v i) i (s.v b) b
def IsB.ahx{s:SF}{b b':Int}(h:s.IsB g b)(h':s.IsB g b'):b=b':=by
 grind [AH,IsB]
theorem wm(s:SF)(g:Int):∀ (k:Nat),k<=29->(nM s g k<0->∀ i,29-(k:Int)<i->i<=29->¬(s.ck i=true/\s.aA i=g))/\
  (¬nM s g k<0->29-(k:Int)<nM s g k/\nM s g k<=29/\s.ck (nM s g k)=true/\s.aA (nM s g k)=g/\∀ i,29-(k:Int)<i->i<=29->s.ck i=true->s.aA i=g->¬AH (s.v i) i (s.v (nM s g k)) (nM s g k))
 | 0,_=>⟨fun _ i h1 h2=>og,fun h=>absurd (by show(-1:Int)<0;omega) h⟩
 | k+1,hk=>by
  obtain⟨h1,h2⟩:=wm s g k og;have e:nM s g (k+1)=if s.ck (29-(k:Int))=true/\s.aA (29-(k:Int))=g/\(nM s g k<0\/s.v (29-(k:Int))<=s.v (nM s g k))then 29-(k:Int)else nM s g k:=rfl
  grind [AH,SF]
def NM{s:SF}(hw:∀ i,s.ck i=true->0<i/\i<30)(h:s.fH g<0):∀ i,s.ck i=true->s.aA i≠g:=fun i hi e=>by
 grind [wm,fH]
def xB{s:SF}(hw:∀ i,s.ck i=true->0<i/\i<30)(h:¬s.fH g<0):s.IsB g (s.fH g)/\0<s.fH g/\s.fH g<30:=by
 obtain⟨h1,h2,h3,h4,h5⟩:=(wm s g 29 og).2 h;grind [fH,IsB]
def BA(d:Int->Nat):∀ (k:Nat) (n:Int),0<=n->n<k->d n<=G5 d k
 | 0,n,h0,h1=>og
 | k+1,n,h0,h1=>by
  show d n<=max (G5 d k) (d (k:Int));by_cases c:n=(k:Int)
  ·subst c;omega
  ·have:=BA d k n h0 og;omega
theorem Xk(s:SF)(k:Nat)(h:10<=a):Lg s k a=a:=by
 cases k with
 | zero=>rfl
 | succ k=>show(if 10<=a then a else _)=a;rw[if_pos h]
theorem LK(s:SF)(k:Nat)(h:¬ 10<=a)(hb:¬s.fH a<0):Lg s (k+1) a=Lg s k (s.fH a):=by
 grind [Lg]
def abu(s:SF)(k:Nat)(h:¬ 10<=a)(hb:s.fH a<0):Lg s (k+1) a= -1:=by
 grind [Lg]
theorem Fv(k:Nat)(s:SF)(h:n<=0):vo k s n=s:=by
 cases k with
 | zero=>rfl
 | succ k=>show(if n<=0 then s else _)=s;rw[if_pos h]
theorem NN(k:Nat)(s:SF)(h:0<n):vo (k+1) s n=vo k (s.zo n) (s.aA n):=by
 grind [vo]
def upW(s:SF):Nat->Int->Prop
 | 0,n=>n<=0
 | k+1,n=>n<=0\/(s.ck n=true/\upW s k (s.aA n))
def Inv.zo{s:SF}{d:Int->Nat}(h:s.Inv d){n:Int}(h0:0<n)(h1:n<30)(h2:s.aa n=true):(s.zo n).Inv d:=by
 refine⟨h.h0,h.up,fun i hi=> ?_,h.quo,h.wt⟩;have e:(s.zo n).ck i=ae s.ck n ((s.nt n).ready n) i:=rfl;rw[e]at hi;by_cases c:i=n
 ·subst c;exact⟨h0,h1,h2⟩
 ·rw[ai _ _ c]at hi;exact h.ck i hi
def NO{s:SF}{d:Int->Nat}(h:s.Inv d){n:Int} :∀ (k:Nat) (m:Int),(m=0\/(0<m/\m<30/\s.aa m=true))->d m<d n->upW s k m->upW (s.zo n) k m
 | 0,m,_,_,hu=>hu
 | k+1,m,hm,hd,hu=>by
  rcases hu with hu | ⟨Ws,Lh⟩
  ·exact .inl hu
  ·rcases hm with rfl | ⟨m0,m1,m2⟩
   ·exact .inl (Int.le_refl _)
   ·refine .inr ⟨?_,?_⟩
    ·show ae s.ck n _ m=true;rw[ai _ _ fun e=>by subst e;omega];exact Ws
    ·obtain⟨p0,p1,p2,p3⟩:=h.up m m0 m1 m2;exact NO h k (s.aA m) (by
      by_cases c:s.aA m=0
      ·exact .inl c
      ·exact .inr ⟨og,og,p2⟩) og Lh
def uK{f:Int->Int}{v i lo hi:Int}(h1:lo<=f i/\f i<=hi)(h2:lo<=v/\v<=hi):lo<=ae f n v i/\ae f n v i<=hi:=by
 grind [ae]
theorem bM.mono{s:SF}{B B':Int}(h:s.bM B)(hb:B<=B'):s.bM B':=fun n n0 n1=>by have:=h n n0 n1;omega
def bM.zo{s:SF}{d:Int->Nat}(hI:s.Inv d){B:Int}(h:s.bM B){n:Int}(h0:0<n)(h1:n<30)(h2:s.aa n=true):(s.zo n).bM (B+1048576):=fun i i0 i1=>by
 obtain⟨p0,p1,p2,_⟩:=hI.up n h0 h1 h2;have hw:=hI.wt n og h1 h2;have hn:=h n og h1;have hg:=h (s.aA n) p0 og;have hi:=h i i0 i1;have hq:0<=1048576/s.wt n/\1048576/s.wt n<=1048576:=⟨Int.ediv_nonneg og og,Int.ediv_le_self _ og⟩;have a1:0<=ae s.v n (s.v n+1048576/s.wt n) i/\ae s.v n (s.v n+1048576/s.wt n) i<=B+1048576:=uK og og;have a2:0<=ae s.eG (s.aA n) (max (s.eG (s.aA n)) (s.v n)) i/\ae s.eG (s.aA n) (max (s.eG (s.aA n)) (s.v n)) i<=B+1048576:=uK og og;have a3:0<=ae s.uI n (s.uI n+1) i/\ae s.uI n (s.uI n+1) i<=B+1048576:=uK og og;have a4:0<=(if 0<s.dz n then ae s.dH n (s.dH n+1)else s.dH) i/\(if 0<s.dz n then ae s.dH n (s.dH n+1)else s.dH) i<=B+1048576:=by
  by_cases c:0<s.dz n
  ·rw[if_pos c];exact uK og og
  grind
 exact⟨a1.1,a1.2,a2.1,a2.2,a3.1,a3.2,a4.1,a4.2⟩
def bM.uJ{s:SF}{d:Int->Nat}(hI:s.Inv d){B:Int}(h:s.bM B){n:Int}(h0:0<n)(h1:n<30)(h2:s.aa n=true):(s.uJ n).bM B:=fun i i0 i1=>by
 obtain⟨p0,p1,p2,_⟩:=hI.up n h0 h1 h2;have hn:=h n og h1;have hg:=h (s.aA n) p0 og;have hi:=h i i0 i1;have iJ:0<=(s.uJ n).v i/\(s.uJ n).v i<=B:=by
  show 0<=ae s.v n (if s.ready n=true/\s.ck n=false then max (s.v n) (s.eG (s.aA n))else s.v n) i/\ae s.v n (if s.ready n=true/\s.ck n=false then max (s.v n) (s.eG (s.aA n))else s.v n) i<=B;apply uK og;omega
 exact⟨iJ.1,iJ.2,hi.2.2⟩
theorem bM.hQ{d:Int->Nat}{B:Int} :∀ (k:Nat) (s:SF) (n:Int),s.Inv d->s.bM B->(n=0\/(0<n/\n<30/\s.aa n=true))->(SF.hQ k s n).bM B
 | 0,s,n,_,h,_=>h
 | k+1,s,n,hI,h,hn=>by
  rcases hn with rfl | ⟨n0,n1,n2⟩
  ·rw[mu _ _];exact h
  ·rw[oN _ _ n0];obtain⟨p0,p1,p2,_⟩:=hI.up n n0 n1 n2;apply bM.hQ k (s.uJ n) (s.aA n) (hI.uJ n0 n1 n2) (h.uJ hI n0 n1 n2);by_cases c:s.aA n=0
   ·exact .inl c
   ·exact .inr ⟨og,og,p2⟩
end SF
def SC.lX.ahy{s:SC}(h:s.lX)(hw:s.ck z=false)(t:SF)(ht:t.ck=s.ck)(hp:∀ i,¬i=z->t.aA i=s.aA i)(hv:∀ i,¬i=z->t.v i=s.v i):SC.lX {s with toSF:=t} :=fun g g0 g1=>by
 refine(h g g0 g1).ext (fun i _ _=> ?_) fun i _ _ hi=> ?_
 ·show(t.ck i&&decide (t.aA i=g))=(s.ck i&&decide (s.aA i=g));grind
 ·have ci:¬i=z:=fun e=>by
   subst e;have:=((SF.ry _ _ _).1 hi).1;simp_all
  exact hv i ci
theorem SC.lX.first{s:SC}(h:s.lX)(hw:∀ i,s.ck i=true->0<i/\i<30){g:Int}(g0:0<=g)(g1:g<30):((s.Q g).first.2.2=true↔¬s.toSF.fH g<0)/\(¬s.toSF.fH g<0->(s.Q g).first.1=s.toSF.fH g):=by
 have hq:=h g g0 g1;by_cases hn:(s.Q g).n=0
 ·have e:(s.Q g).first=(0,0,false):=by unfold QS.first;rw[if_pos hn]
  have hb:s.toSF.fH g<0:=by
   apply Classical.byContradiction;intro c;obtain⟨⟨b1,b2,_⟩,b3,b4⟩:=SF.xB hw c;have:=hq.len.2 ⟨_,og,og,(SF.ry _ _ _).2 ⟨b1,b2⟩⟩;omega
  simp_all
 ·have e:(s.Q g).first=((s.Q g).I 0,(s.Q g).K 0,true):=by unfold QS.first;rw[if_neg hn]
  obtain⟨⟨a0,a1⟩,a2,a3⟩:=hq.head og;obtain⟨c1,c2⟩:=(SF.ry _ _ _).1 a2;have hb:¬s.toSF.fH g<0:=fun q=>SF.NM hw q _ c1 c2;have hB:s.toSF.IsB g ((s.Q g).I 0):=⟨c1,c2,fun i i1 i2=>by
   have:=hw i i1
   exact a3 i og og ((SF.ry _ _ _).2 ⟨i1,i2⟩)⟩
  rw[e];exact⟨⟨fun _=>hb,fun _=>rfl⟩,fun _=>hB.ahx (SF.xB hw hb).1⟩
def SF.Inv.Z5{s:SF}(h:s.Inv d)(hn:10<=n/\n<30)(hg:0<=g/\g<10/\s.aa g=true)(hw:s.ck n=false)(v:Int->Int)(aw:Int->Bool):SF.Inv {s with aA:=ae s.aA n g,v:=v,cF:=aw} (ae d n (d g+1)):=by
 refine⟨h.h0,fun i i0 i1 i2=> ?_,h.ck,h.quo,h.wt⟩;show 0<=ae s.aA n g i/\ae s.aA n g i<10/\s.aa (ae s.aA n g i)=true/\ae d n (d g+1) (ae s.aA n g i)<ae d n (d g+1) i;by_cases c:i=n
 ·grind [ae]
 grind [Inv,ae]
namespace SF
theorem Xl{s x:SF}(h1:1<=n)(he:x=mn d s (n-1).toNat)(h:x.aa n=true/\0<x.dz n/\x.gN%x.eH n=0):mn d s (n+1-1).toNat=look d {x with dH:=ae x.dH n 0} n:=by
 rw[show(n+1-1).toNat=(n-1).toNat+1 from og];grind [tg,mn]
theorem G8{s x:SF}(h1:1<=n)(he:x=mn d s (n-1).toNat)(h:¬(x.aa n=true/\0<x.dz n/\x.gN%x.eH n=0)):mn d s (n+1-1).toNat=x:=by
 rw[show(n+1-1).toNat=(n-1).toNat+1 from og];grind [tg,mn]
def bM.dH{s:SF}{B:Int}(hB:0<=B)(h:s.bM B)(n:Int):SF.bM {s with dH:=ae s.dH n 0} B:=fun i i0 i1=>by
 have hi:=h i i0 i1;have:=uK (f:=s.dH) (n:=n) (v:=0) (i:=i) (lo:=0) (hi:=B) og og;simp_all
def PN{s:SF}(hI:s.Inv d)(hs:s.mM)(h0:0<a)(h1:a<10)(hw:s.ck a=true):¬s.fH a<0:=fun hb=>by
 obtain⟨_,a1,a2⟩:=hI.ck a hw;have h2:=hs a h0 a1 a2;rw[hw]at h2;unfold ready at h2;rw[if_neg og]at h2;have hk:s.gF a=true:=by
  simp_all
 obtain⟨i,i0,i1,i2,i3⟩:=(s.qv a).1 hk;exact NM (fun j hj=>⟨(hI.ck j hj).1,(hI.ck j hj).2.1⟩) hb i i2 i3
end SF
def LL{W w:World}{S:Nat->Nat->Prop}{H:List aK}(e:TypeId)(h:XM W S H w):XM W S (.aV b7 (SC.dm.da e)::H) w:=by
 have hr:w.ownsRow 0 e 2 (.slice none 0 0) 0 []:=(h.fc e 2).eT.1 (.row (.slice none 0 0) e 2 0 []) sq;refine⟨⟨fun x hx=> ?_,List.pairwise_cons.2 ⟨fun x hx _ b o h1 h2=> ?_,h.eT.2⟩⟩,h.eK,fun x hx hw b o hb=> ?_⟩
 ·rcases List.mem_cons.1 hx with rfl | hx
  ·exact⟨fun i _=>hr,fun i j b _ _ _ h1 _=>by cases h1⟩
  ·exact h.eT.1 x hx
 ·obtain⟨i,_,hb⟩:=h1;cases hb
 ·rcases List.mem_cons.1 hx with rfl | hx
  ·obtain⟨i,_,hb⟩:=hb;cases hb
  ·exact h.Em x hx hw b o hb
def SF.Tk(s:SF):Prop:=∀ n,10<=n->n<30->s.eG n=0/\s.vC n=false/\s.dz n=0/\s.eH n=0/\s.dH n=0
namespace SF
def Ja{s:SF}(hI:s.Inv d)(i1:0<=n)(i2:n<20)(i3:s.aa (10+n)=true):(s.fU d n false).Inv d/\(s.fU d n false).ck (10+n)=false/\(s.fU d n false).aa=s.aa/\(s.fU d n false).aA=s.aA/\(s.fU d n false).wt=s.wt/\(s.fU d n false).uI=s.uI/\(s.fU d n false).eG=s.eG/\(s.fU d n false).vC=s.vC/\(s.fU d n false).dz=s.dz/\(s.fU d n false).eH=s.eH/\(s.fU d n false).dH=s.dH/\(s.fU d n false).gN=s.gN/\(s.fU d n false).cF=ae s.cF (10+n) false:=by
 have e:s.fU d n false=look d {s with cF:=ae s.cF (10+n) false} (10+n):=by unfold fU;rw[if_pos (abr i1 i2 i3)]
 have hA:SF.Inv {s with cF:=ae s.cF (10+n) false} d:=⟨hI.h0,hI.up,hI.ck,hI.quo,hI.wt⟩;obtain⟨a1,a2,a3,a4,a5,a6,a7,a8,a9,a10,a11⟩:=jR (d (10+n)+1) {s with cF:=ae s.cF (10+n) false} (10+n);rw[e];refine⟨tr hA (.inr ⟨og,og,i3⟩),?_,a1,a2,a3,a4,a6,a7,a8,a9,a10,a11,a5⟩;grind [G7,ready,ae]
theorem Xm{s:SF}(h:s.xz n=0)(d:Int->Nat)(on:Bool):s.fU d n on=look d {s with cF:=ae s.cF (10+n) on} (10+n):=by grind [fU]
end SF
namespace SF
theorem LN{s t:SF}(h:∀ i,0<=i->i<30->((t.ck i=true/\t.aA i=m)↔(s.ck i=true/\s.aA i=m))):t.gF m=s.gF m:=by
 grind [qv]
theorem Td{s:SF}(h:∀ i,s.ck i=true->s.aA i≠m):s.gF m=false:=by
 grind [qv]
theorem Jb{s t:SF}(ha:t.cF m=s.cF m)(hf:t.vC m=s.vC m)(hq:t.dz m=s.dz m)(hu:t.dH m=s.dH m)(hk:t.gF m=s.gF m):t.ready m=s.ready m:=by
 grind [ready]
def qy(s:SF)(n:Int):Prop:=∀ m,0<m->m<30->s.aa m=true->m≠n->s.ck m=s.ready m
def qy.go{s t:SF}(h:s.qy n)(hh:t.aa=s.aa)(hp:t.aA=s.aA)(ho:∀ m,m≠n->t.cF m=s.cF m/\t.vC m=s.vC m/\t.dz m=s.dz m/\t.dH m=s.dH m/\t.ck m=s.ck m)(hr:t.ck n=t.ready n):t.qy (s.aA n):=fun m m0 m1 m2 m3=>by
 grind [LN,qy,ready]
theorem qy.set{s:SF}(h:s.qy n)(hn:n<=0):s.mM:=fun m m0 m1 m2=>h m m0 m1 m2 og
theorem mM.x{s:SF}(h:s.mM)(n:Int):s.qy n:=fun m m0 m1 m2 _=>h m m0 m1 m2
theorem qy.same{s t:SF}(h:s.qy n)(hh:t.aa=s.aa)(hk:∀ m,m≠n->t.gF m=s.gF m)(ho:∀ m,m≠n->t.cF m=s.cF m/\t.vC m=s.vC m/\t.dz m=s.dz m/\t.dH m=s.dH m/\t.ck m=s.ck m):t.qy n:=fun m m0 m1 m2 m3=>by
 grind [Jb,qy]
theorem Inv.ne{s:SF}(hI:s.Inv d)(n0:0<n)(n1:n<30)(n2:s.aa n=true):s.aA n≠n:=fun e=>by
 grind [Inv]
def Inv.next{s:SF}(hI:s.Inv d)(n0:0<n)(n1:n<30)(n2:s.aa n=true):s.aA n=0\/(0<s.aA n/\s.aA n<30/\s.aa (s.aA n)=true):=by
 grind [Inv]
def qy.uJ{s:SF}{d:Int->Nat}(hI:s.Inv d){n:Int}(n0:0<n)(n1:n<30)(n2:s.aa n=true)(h:s.qy n):(s.uJ n).qy (s.aA n):=by
 refine h.go rfl rfl (fun m c=>⟨rfl,rfl,rfl,rfl,ai _ _ c⟩) ?_;show ae s.ck n (s.ready n) n=SF.ready {s with ck:=ae s.ck n (s.ready n)} n;rw[au,zx (hI.ne n0 n1 n2)]
theorem Jc(s:SF)(n m:Int)(h:m≠n):(s.zo n).dH m=s.dH m:=by
 show(if 0<s.dz n then ae s.dH n (s.dH n+1)else s.dH) m=s.dH m;grind [ai]
def qy.zo{s:SF}{d:Int->Nat}(hI:s.Inv d){n:Int}(n0:0<n)(n1:n<30)(n2:s.aa n=true)(h:s.qy n):(s.zo n).qy (s.aA n):=by
 refine h.go rfl rfl (fun m c=>⟨rfl,rfl,rfl,Jc _ _ _ c,ai _ _ c⟩) ?_;show ae s.ck n ((s.nt n).ready n) n=SF.ready {s.nt n with ck:=ae (s.nt n).ck n ((s.nt n).ready n)} n;rw[au,zx (s:=s.nt n) (hI.ne n0 n1 n2)]
def Fw{d:Int->Nat} :∀ (k:Nat) (s:SF) (n:Int),s.Inv d->(n=0\/(0<n/\n<30/\s.aa n=true))->s.qy n->d n+1<=k->(hQ k s n).mM
 | 0,s,n,_,_,_,hk=>og
 | k+1,s,n,hI,hn,h,hk=>by
  rcases hn with rfl | ⟨n0,n1,n2⟩
  ·rw[mu _ _];exact h.set og
  ·rw[oN _ _ n0];obtain⟨p0,p1,p2,p3⟩:=hI.up n n0 n1 n2;exact Fw k (s.uJ n) (s.aA n) (hI.uJ n0 n1 n2) (hI.next n0 n1 n2) (h.uJ hI n0 n1 n2) og
def Jd{d:Int->Nat} :∀ (k:Nat) (s:SF) (n B:Int),s.Inv d->(n=0\/(0<n/\n<30/\s.aa n=true))->s.qy n->s.Tk->s.bM B->d n+1<=k->
  (vo k s n).mM/\(vo k s n).Inv d/\(vo k s n).Tk/\(vo k s n).bM (B+1048576*k)/\(vo k s n).gN=s.gN
 | 0,s,n,B,_,_,_,_,_,hk=>og
 | k+1,s,n,B,hI,hn,h,hT,hS,hk=>by
  rcases hn with rfl | ⟨n0,n1,n2⟩
  ·rw[Fv _ _ og];exact⟨h.set og,hI,hT,hS.mono og,rfl⟩
  ·rw[NN _ _ n0];obtain⟨p0,p1,p2,p3⟩:=hI.up n n0 n1 n2;have hT2:(s.zo n).Tk:=fun m m0 m1=>by
    obtain⟨t1,t2,t3,t4,t5⟩:=hT m m0 m1;refine⟨?_,t2,t3,t4,?_⟩
    ·show ae s.eG (s.aA n) _ m=0;grind [ai]
    ·by_cases c:m=n
     ·subst c;show(if 0<s.dz m then _ else s.dH) m=0;simp_all
     grind [Jc]
   obtain⟨a1,a2,a3,a4,a5⟩:=Jd k (s.zo n) (s.aA n) (B+1048576) (hI.zo n0 n1 n2) (hI.next n0 n1 n2) (h.zo hI n0 n1 n2) hT2 (hS.zo hI n0 n1 n2) og;exact⟨a1,a2,a3,a4.mono (by push_cast;omega),a5⟩
structure Ok (s:SF) (d:Int->Nat) (m:Nat) (t:Int):Prop where
 dS:s.Inv d
 aO:∀ n,0<=n->n<30->d n<=m
 set:s.mM
 tk:s.Tk
 ss:s.bM (2000000000*t)
 gN:0<=s.gN/\s.gN<=t
theorem Ok.mono{s:SF}{d:Int->Nat}{m m':Nat}{t t':Int}(h:s.Ok d m t)(hm:m<=m')(ht:t<=t'):s.Ok d m' t':=
 ⟨h.dS,fun n a b=>Nat.le_trans (h.aO n a b) hm,h.set,h.tk,h.ss.mono og,by have:=h.gN;omega⟩
def Ok.LO{s:SF}{m:Nat}(h:s.Ok d m t):∀ n,0<=n->n<10->s.aa n=true->(∀ i,s.ck i=true->s.aA i≠n)->s.ck n=false:=fun n n0 n1 n2 n3=>by
 by_cases c:n=0
 ·subst c;cases q:s.ck 0 with
  | false=>rfl
  | true=>have:=(h.dS.ck 0 q).1;omega
 ·rw[h.set n og og n2];grind [ready,Td]
def xC{s:SF}{m:Nat}(hI:s.Inv d)(hd:∀ n,0<=n->n<30->d n<=m)(hn:0<n/\n<30/\s.aa n=true)(hX:s.qy n)(hT:s.Tk)(hS:s.bM (2000000000*t))(hw:0<=s.gN/\s.gN<=t):(look d s n).Ok d m t:=by
 obtain⟨a1,a2,a3,a4,a5,a6,a7,a8,a9,a10,a11⟩:=jR (d n+1) s n;refine⟨tr hI (.inr hn),hd,Fw _ _ _ hI (.inr hn) hX (Nat.le_refl _),fun i i0 i1=> ?_,bM.hQ _ _ _ hI hS (.inr hn),?_⟩;all_goals grind [look,SF.Tk]
theorem Ok.fU{s:SF}{d:Int->Nat}{m:Nat}{t:Int}(h:s.Ok d m t)(n:Int)(on:Bool):(s.fU d n on).Ok d m t:=by
 by_cases c:s.xz n=0
 ·obtain⟨i1,i2,i3⟩:=S7 c;rw[Xm c];exact xC (s:= {s with cF:=ae s.cF (10+n) on}) ⟨h.dS.h0,h.dS.up,h.dS.ck,h.dS.quo,h.dS.wt⟩ h.aO ⟨og,og,i3⟩ ((h.set.x (10+n)).same rfl (fun _ _=>rfl) fun i q=>⟨ai _ _ q,rfl,rfl,rfl,rfl⟩) h.tk h.ss h.gN
 grind [fU]
def Ok.freeze{s:SF}{d:Int->Nat}{m:Nat}{t:Int}(h:s.Ok d m t)(n:Int)(on:Bool):(s.freeze d n on).Ok d m t:=by
 unfold SF.freeze;by_cases c:s.Ez n=0
 ·rw[if_pos c];obtain⟨g0,g1⟩:s.vq n=0/\n≠0:=by
   have:=s.G6 n;unfold Ez at c;split at c
   ·omega
   ·split at c<;>omega
  obtain⟨i1,i2,i3⟩:=Fs g0;refine xC (s:= {s with vC:=ae s.vC n on}) ⟨h.dS.h0,h.dS.up,h.dS.ck,h.dS.quo,h.dS.wt⟩ h.aO ⟨og,og,i3⟩ ((h.set.x n).same rfl (fun _ _=>rfl) fun i q=>⟨rfl,ai _ _ q,rfl,rfl,rfl⟩) (fun i i0 i1=> ?_) h.ss h.gN;obtain⟨t1,t2,t3⟩:=h.tk i i0 i1;exact⟨t1,by show ae s.vC n on i=false;rw[ai _ _ og];exact t2,t3⟩
 ·rw[if_neg c];exact h
def Ok.xA{s:SF}{d:Int->Nat}{m:Nat}{t:Int}(h:s.Ok d m t)(ht:0<=t)(n q p:Int):(s.xA d n q p).Ok d m t:=by
 unfold SF.xA;by_cases c:s.sH n q p=0
 ·rw[if_pos c];obtain⟨g0,g1,g2,g3⟩:s.vq n=0/\n≠0/\0<=q/\1<=p:=by
   have:=s.G6 n;unfold sH at c;split at c
   ·omega
   ·split at c
    ·omega
    ·split at c<;>omega
  obtain⟨i1,i2,i3⟩:=Fs g0;refine xC (s:=s.abq n q p) ⟨h.dS.h0,h.dS.up,h.dS.ck,fun i a b=> ?_,h.dS.wt⟩ h.aO ⟨og,og,i3⟩ ((h.set.x n).same rfl (fun _ _=>rfl) fun i q=>⟨rfl,rfl,ai _ _ q,ai _ _ q,rfl⟩) (fun i i0 i1=> ?_) (fun i a b=> ?_) h.gN
  ·show 0<=ae s.dz n q i/\(0<ae s.dz n q i->1<=ae s.eH n p i);have:=h.dS.quo i a b;unfold ae;split<;>omega
  ·obtain⟨t1,t2,t3,t4,t5⟩:=h.tk i i0 i1;refine⟨t1,t2,?_,?_,?_⟩
   ·show ae s.dz n q i=0;rw[ai _ _ og];exact t3
   ·show ae s.eH n p i=0;rw[ai _ _ og];exact t4
   ·show ae s.dH n 0 i=0;rw[ai _ _ og];exact t5
  ·exact bM.dH og h.ss n i a b
 ·rw[if_neg c];exact h
def Inv.abw{s:SF}(hI:s.Inv d)(hn:s.aa z=false):s.ck z=false:=by
 grind [Inv]
def Cw{s:SF}{B:Int}(hB:0<=B)(h:s.bM B)(z p w:Int)(b:Bool):(s.pT z p w b).bM B:=fun i a c=>by
 have hi:=h i a c;show 0<=ae s.v z 0 i/\ae s.v z 0 i<=B/\0<=ae s.eG z 0 i/\ae s.eG z 0 i<=B/\0<=ae s.uI z 0 i/\ae s.uI z 0 i<=B/\0<=ae s.dH z 0 i/\ae s.dH z 0 i<=B;unfold ae;split<;>omega
def NP{s:SF}(h:s.Tk)(z p w:Int)(b:Bool):(s.pT z p w b).Tk:=fun i a c=>by
 obtain⟨t1,t2,t3,t4,t5⟩:=h i a c;show ae s.eG z 0 i=0/\ae s.vC z false i=false/\ae s.dz z 0 i=0/\ae s.eH z 0 i=0/\ae s.dH z 0 i=0;grind [au,ai]
def Je{s:SF}(h:s.mM)(hw:s.ck z=false)(hk:∀ i,s.ck i=true->s.aA i≠z)(p w:Int)(b:Bool):(s.pT z p w b).mM:=fun m m0 m1 m2=>by
 show ae s.ck z false m=_;by_cases e:m=z
 ·simp_all[ready,ae,Td,pT]
 ·have m3:ae s.aa z b m=true:=m2;rw[ai _ _ e]at m3 ⊢;rw[h m m0 m1 m3];refine(Jb (s:=s) (t:=s.pT z p w b) (ai _ _ e) (ai _ _ e) (ai _ _ e) (ai _ _ e) (LN fun i _ _=> ?_)).symm;show(ae s.ck z false i=true/\ae s.aA z p i=m)↔_;grind [au,ai]
theorem Ok.add{s:SF}{m:Nat}(h:s.Ok d m t)(ht:0<=t)(hz:0<z/\z<30)(hn:s.aa z=false)(hp:0<=p/\p<10/\s.aa p=true)(hw:1<=w):(s.pT z p w true).Ok (ae d z (d p+1)) (m+1) t:=by
 have hwz:=h.dS.abw hn;have hpz:¬p=z:=fun e=>by rw[e,hn]at hp;exact absurd hp.2.2 sq
 have gK:∀ i,0<i->i<30->s.aa i=true->¬s.aA i=z:=fun i a b c e=>by
  have:=(h.dS.up i a b c).2.2.1;simp_all
 refine⟨⟨?_,fun i a b c=> ?_,fun i hi=> ?_,fun i a b=> ?_,fun i a b c=> ?_⟩,fun i a b=> ?_,Je h.set hwz (fun i hi=> ?_) p w true,NP h.tk z p w true,Cw og h.ss z p w true,h.gN⟩
 ·show ae s.aa z true 0=true;rw[ai _ _ og];exact h.dS.h0
 ·have c2:ae s.aa z true i=true:=c;show 0<=ae s.aA z p i/\ae s.aA z p i<10/\ae s.aa z true (ae s.aA z p i)=true/\ae d z (d p+1) (ae s.aA z p i)<ae d z (d p+1) i;by_cases e:i=z
  ·grind [ae]
  ·rw[ai _ _ e]at c2;have hpi:=gK i a b c2;rw[ai _ _ e,ai _ _ e,ai _ _ hpi,ai _ _ hpi];exact h.dS.up i a b c2
 ·have Pr:ae s.ck z false i=true:=hi;show 0<i/\i<30/\ae s.aa z true i=true;by_cases e:i=z
  ·grind [ae]
  ·rw[ai _ _ e]at Pr ⊢;exact h.dS.ck i Pr
 ·show 0<=ae s.dz z 0 i/\(0<ae s.dz z 0 i->1<=ae s.eH z 0 i);have:=h.dS.quo i a b;grind [ae]
 ·have c2:ae s.aa z true i=true:=c;show 1<=ae s.wt z w i;by_cases e:i=z
  ·grind [ae]
  ·rw[ai _ _ e]at c2 ⊢;exact h.dS.wt i a b c2
 ·have h1:=h.aO i a b;grind [Ok.aO,ae]
 ·obtain⟨a,b,c⟩:=h.dS.ck i hi;simp_all
theorem Ok.drop{s:SF}{m:Nat}(h:s.Ok d m t)(ht:0<=t)(hz:0<z/\z<30)(hk:∀ i,0<i->i<30->¬(s.aa i=true/\s.aA i=z))(hw:s.ck z=false):(s.pT z 0 0 false).Ok d m t:=by
 refine⟨⟨?_,fun i a b c=> ?_,fun i hi=> ?_,fun i a b=> ?_,fun i a b c=> ?_⟩,h.aO,Je h.set hw (fun i hi=> ?_) 0 0 false,NP h.tk z 0 0 false,Cw og h.ss z 0 0 false,h.gN⟩
 ·show ae s.aa z false 0=true;rw[ai _ _ og];exact h.dS.h0
 ·have c2:ae s.aa z false i=true:=c;show 0<=ae s.aA z 0 i/\ae s.aA z 0 i<10/\ae s.aa z false (ae s.aA z 0 i)=true/\d (ae s.aA z 0 i)<d i;by_cases e:i=z
  ·grind [au]
  ·rw[ai _ _ e]at c2;have hpi:¬s.aA i=z:=fun q=>hk i og b ⟨c2,q⟩;rw[ai _ _ e,ai _ _ hpi];exact h.dS.up i a b c2
 ·have Pr:ae s.ck z false i=true:=hi;show 0<i/\i<30/\ae s.aa z false i=true;by_cases e:i=z
  ·grind [au]
  ·rw[ai _ _ e]at Pr ⊢;exact h.dS.ck i Pr
 ·show 0<=ae s.dz z 0 i/\(0<ae s.dz z 0 i->1<=ae s.eH z 0 i);have:=h.dS.quo i a b;grind [ae]
 ·have c2:ae s.aa z false i=true:=c;show 1<=ae s.wt z 0 i;by_cases e:i=z
  ·grind [au]
  ·rw[ai _ _ e]at c2 ⊢;exact h.dS.wt i a b c2
 ·obtain⟨a,b,c⟩:=h.dS.ck i hi;simp_all
def Ok.vr{s:SF}{d:Int->Nat}{m:Nat}{t:Int}(h:s.Ok d m t)(ht:0<=t)(n p w:Int):∃ d',(s.vr n p w).Ok d' (m+1) t:=by
 unfold SF.vr;by_cases c:s.lF n p w=0
 ·rw[if_pos c];unfold lF at c;split at c
  ·omega
  ·split at c
   ·omega
   ·have hh:s.aa n=false:=by simpa using (by assumption:¬s.aa n=true)
    have SM:n≠0:=fun e=>by rw[e,h.dS.h0]at hh;cases hh
    exact⟨_,h.add ht ⟨og,og⟩ hh (Fs c) og⟩
 ·rw[if_neg c];exact⟨d,h.mono og og⟩
def Ok.sG{s:SF}{d:Int->Nat}{m:Nat}{t:Int}(h:s.Ok d m t)(ht:0<=t)(n p w:Int):∃ d',(s.sG n p w).Ok d' (m+1) t:=by
 unfold SF.sG;by_cases c:s.lG n p w=0
 ·rw[if_pos c];unfold lG at c;split at c
  ·omega
  ·split at c
   ·omega
   ·have hh:s.aa (10+n)=false:=by simpa using (by assumption:¬s.aa (10+n)=true)
    exact⟨_,h.add ht ⟨og,og⟩ hh (Fs c) og⟩
 ·rw[if_neg c];exact⟨d,h.mono og og⟩
def Ok.qx{s:SF}{d:Int->Nat}{m:Nat}{t:Int}(h:s.Ok d m t)(ht:0<=t)(n:Int):(s.qx n).Ok d m t:=by
 unfold SF.qx;by_cases c:s.nu n=0
 ·rw[if_pos c];have hg:=s.G6 n;unfold nu at c;split at c
  ·omega
  ·split at c
   ·omega
   ·rename_i c1 c2;obtain⟨i1,i2,i3⟩:=Fs (show s.vq n=0 by omega);have hk:∀ i,0<i->i<30->¬(s.aa i=true/\s.aA i=n):=fun i a b q=>c2 (.inr (NL og b q.1 q.2));have SM:n≠0:=fun e=>c2 (.inl e);refine h.drop ht ⟨og,og⟩ hk (h.LO n i1 i2 i3 fun i hi=> ?_);obtain⟨a,b,c⟩:=h.dS.ck i hi;exact fun q=>hk i og b ⟨c,q⟩
 ·rw[if_neg c];exact h
def Ok.vD{s:SF}{d:Int->Nat}{m:Nat}{t:Int}(h:s.Ok d m t)(ht:0<=t)(n:Int):(s.vD d n).Ok d m t:=by
 unfold SF.vD;by_cases c:s.xz n=0
 ·rw[if_pos c];obtain⟨i1,i2,i3⟩:=S7 c;obtain⟨w1,w2,w3,w4,_⟩:=Ja h.dS i1 i2 i3;refine(h.fU n false).drop ht ⟨og,og⟩ (fun i a b q=> ?_) w2;have:=(w1.up i a b q.1).2.1;omega
 ·rw[if_neg c];exact h
theorem Ok.move{s:SF}{d:Int->Nat}{m:Nat}{t:Int}(h:s.Ok d m t)(ht:0<=t)(n g:Int):∃ d',(s.move d n g).Ok d' (m+1) t:=by
 unfold SF.move;by_cases c:s.fg n g=0
 ·rw[if_pos c];have hn:=s.abp n;have hg:=s.G6 g;unfold fg at c;split at c
  ·omega
  ·obtain⟨i1,i2,i3⟩:=S7 (show s.xz n=0 by omega);obtain⟨k1,k2,k3⟩:=Fs c;obtain⟨w1,w2,w3,w4,w5⟩:=Ja h.dS i1 i2 i3;have hw:=h.fU n false;refine⟨_,xC (s:=mv1 d s n g) (w1.Z5 (n:=10+n) (g:=g) ⟨og,og⟩ ⟨k1,k2,by rw[w3];exact k3⟩ w2 _ _) (fun i a b=> ?_) ⟨og,og,?_⟩ ((hw.set.x (10+n)).same rfl (fun i q=>LN fun j _ _=> ?_) fun i q=>⟨?_,rfl,rfl,rfl,rfl⟩) hw.tk (fun i a b=> ?_) hw.gN⟩
   ·have h1:=h.aO i a b;have h2:=h.aO g k1 og;unfold ae;split<;>omega
   ·show(s.fU d n false).aa (10+n)=true;rw[w3];exact i3
   ·show((s.fU d n false).ck j=true/\ae (s.fU d n false).aA (10+n) g j=i)↔_;by_cases e:j=10+n
    ·subst e;rw[w2];simp
    ·rw[ai _ _ e]
   ·exact ai _ _ q
   ·have:=hw.ss i a b;show 0<=ae (s.fU d n false).v (10+n) 0 i/\ae (s.fU d n false).v (10+n) 0 i<=2000000000*t/\_;refine⟨?_,?_,this.2.2⟩<;>(unfold ae;split<;>omega)
 ·rw[if_neg c];exact⟨d,h.mono og og⟩
theorem Ok.mn{s:SF}{d:Int->Nat}{m:Nat}{t:Int}(h:s.Ok d m t)(ht:0<=t):∀ k:Nat,k<=9->(SF.mn d s k).Ok d m t/\(SF.mn d s k).gN=s.gN
 | 0,_=>⟨h,rfl⟩
 | k+1,hk=>by
  obtain⟨h1,h2⟩:=h.mn ht k og;show(tg d (SF.mn d s k) ((k:Int)+1)).Ok d m t/\(tg d (SF.mn d s k) ((k:Int)+1)).gN=s.gN;unfold tg;split
  ·rename_i c;refine⟨xC (s:= {SF.mn d s k with dH:=ae (SF.mn d s k).dH ((k:Int)+1) 0}) ⟨h1.dS.h0,h1.dS.up,h1.dS.ck,h1.dS.quo,h1.dS.wt⟩ h1.aO ⟨og,og,c.1⟩ ((h1.set.x _).same rfl (fun _ _=>rfl) fun i q=>⟨rfl,rfl,rfl,ai _ _ q,rfl⟩) (fun i i0 i1=> ?_) (bM.dH og h1.ss _) h1.gN,(jR _ _ _).2.2.2.2.2.2.2.2.2.2.trans h2⟩;obtain⟨t1,t2,t3,t4,t5⟩:=h1.tk i i0 i1;grind [ae]
  simp_all
def Ok.oK{s:SF}{d:Int->Nat}{m:Nat}{t:Int}(h:s.Ok d m t)(ht:0<=t):(s.oK d).Ok d m (t+1):=by
 obtain⟨h1,h2⟩:=h.mn ht 9 (Nat.le_refl _);have hn:=h.gN;exact⟨⟨h1.dS.h0,h1.dS.up,h1.dS.ck,h1.dS.quo,h1.dS.wt⟩,h1.aO,h1.set,h1.tk,bM.mono (s:=SF.mn d s 9) h1.ss og,by show 0<=s.gN+1/\s.gN+1<=t+1;omega⟩
def Te{s:SF}{d:Int->Nat}(hI:s.Inv d):∀ (k:Nat) (a:Int),(0<=a/\a<30/\s.aa a=true)->G5 d 30<k+d a->0<=Lg s k a->10<=Lg s k a/\Lg s k a<30/\s.aa (Lg s k a)=true
 | 0,a,ha,hk,_=>by have:=BA d 30 a ha.1 og;omega
 | k+1,a,ha,hk,h0=>by
  by_cases c:10<=a
  ·grind [Lg]
  ·by_cases hb:s.fH a<0
   ·grind [Lg]
   ·rw[LK _ _ c hb]at h0 ⊢;obtain⟨⟨b1,b2,b3⟩,b4,b5⟩:=xB (fun i hi=>⟨(hI.ck i hi).1,(hI.ck i hi).2.1⟩) hb;have hbI:=hI.ck _ b1;have hd:=(hI.up _ b4 b5 hbI.2.2).2.2.2;rw[b2]at hd;exact Te hI k _ ⟨og,b5,hbI.2.2⟩ og h0
def Tf{s:SF}(hI:(s.oK d).Inv d)(h:¬bR d s<0):10<=bR d s/\bR d s<30/\(s.oK d).aa (bR d s)=true:=by
 unfold bR at h ⊢;exact Te hI _ 0 ⟨og,og,hI.h0⟩ og og
def Ok.l6{s:SF}{d:Int->Nat}{m:Nat}{t:Int}(h:s.Ok d m t)(ht:0<=t)(hm:m<=900):(s.l6 d).2.Ok d m (t+1):=by
 have h0:=h.oK ht;unfold SF.l6;split
 ·exact h0
 ·rename_i c;obtain⟨w1,w2,w3⟩:=Tf h0.dS c;obtain⟨h1,h2⟩:=h.mn ht 9 (Nat.le_refl _);have hs:(s.oK d).bM (2000000000*t):=bM.mono (s:=SF.mn d s 9) h1.ss og;obtain⟨a1,a2,a3,a4,a5⟩:=Jd (d (bR d s)+1) (s.oK d) (bR d s) (2000000000*t) h0.dS (.inr ⟨og,w2,w3⟩) (h0.set.x _) h0.tk hs (Nat.le_refl _);have hd:=h0.aO (bR d s) og w2;exact⟨a2,h0.aO,a1,a3,a4.mono (by push_cast;omega),by rw[a5];exact h0.gN⟩
def NQ:SF.cP.Ok (fun _=>0) 0 0:=by
 have hh:∀ n:Int,SF.cP.aa n=true->n=0:=fun n h=>by
  have h2:ae (fun _:Int=>false) 0 true n=true:=h;grind [ai]
 have hw:∀ n:Int,SF.cP.ck n=false:=fun n=>by
  show ae (fun _:Int=>false) 0 false n=false;grind [ae]
 have hz:∀ n:Int,ae (fun _:Int=>(0:Int)) 0 0 n=0:=fun n=>by unfold ae;split<;>rfl
 refine⟨⟨au (fun _:Int=>false) 0 true,fun n a b c=>(by have:=hh n c;omega),fun n h=>(by rw[hw n]at h;cases h),fun n a b=> ?_,fun n a b c=> ?_⟩,fun n a b=>Nat.le_refl _,fun n a b c=>(by have:=hh n c;omega),fun n a b=> ?_,fun n a b=> ?_,by show 0<=(0:Int)/\(0:Int)<=0;omega⟩
 ·show 0<=ae (fun _:Int=>(0:Int)) 0 0 n/\(0<ae (fun _:Int=>(0:Int)) 0 0 n->_);simp_all
 ·have:=hh n c;subst this;show 1<=ae (fun _:Int=>(0:Int)) 0 1 0;grind [au]
 ·refine⟨hz n,?_,hz n,hz n,hz n⟩;show ae (fun _:Int=>false) 0 false n=false;grind [ae]
 ·show 0<=ae (fun _:Int=>(0:Int)) 0 0 n/\ae (fun _:Int=>(0:Int)) 0 0 n<=_/\0<=ae (fun _:Int=>(0:Int)) 0 0 n/\ae (fun _:Int=>(0:Int)) 0 0 n<=_/\0<=ae (fun _:Int=>(0:Int)) 0 0 n/\ae (fun _:Int=>(0:Int)) 0 0 n<=_/\0<=ae (fun _:Int=>(0:Int)) 0 0 n/\ae (fun _:Int=>(0:Int)) 0 0 n<=_;simp_all
end SF
namespace SF
def Jf(d:Int->Nat)(s:SF)(n:Int):(tg d s n).aa=s.aa:=by
 unfold tg;split
 ·exact mv _ _ _
 ·rfl
theorem uL(d:Int->Nat)(s:SF):∀ k,(mn d s k).aa=s.aa
 | 0=>rfl
 | k+1=>(Jf _ _ _).trans (uL d s k)
def Fx:∀ (k:Nat) (s:SF) (n:Int),(vo k s n).aa=s.aa
 | 0,_,_=>rfl
 | k+1,s,n=>by
  unfold vo;split
  ·rfl
  ·exact Fx k (s.zo n) (s.aA n)
theorem zy(d:Int->Nat)(s:SF):(s.l6 d).2.aa=s.aa:=by
 unfold l6;split
 ·exact uL d s 9
 ·exact(Fx _ _ _).trans (uL d s 9)
theorem qz(d:Int->Nat)(s:SF)(n:Int)(on:Bool):(s.fU d n on).aa=s.aa:=by
 unfold fU;split
 ·exact mv _ _ _
 ·rfl
theorem Jg(d:Int->Nat)(s:SF)(n:Int)(on:Bool):(s.freeze d n on).aa=s.aa:=by
 unfold freeze;split
 ·exact mv _ _ _
 ·rfl
theorem PO(d:Int->Nat)(s:SF)(n q p:Int):(s.xA d n q p).aa=s.aa:=by
 unfold xA;split
 ·exact mv _ _ _
 ·rfl
theorem PQ(d:Int->Nat)(s:SF)(n g:Int):(s.move d n g).aa=s.aa:=by
 unfold move;split
 ·exact(mv _ _ _).trans (qz d s n false)
 ·rfl
def Fy{s:SF}(h:(s.sG n p w).aa (10+m)=true):m=n\/s.aa (10+m)=true:=by
 unfold sG at h;split at h
 ·by_cases e:m=n
  ·exact .inl e
  ·right;have h:ae s.aa (10+n) true (10+m)=true:=h;rwa[ai _ _ og]at h
 ·exact .inr h
def LP{s:SF}(m0:0<=m)(m1:m<20)(h:(s.vD d n).aa (10+m)=true):m≠n/\s.aa (10+m)=true:=by
 unfold vD at h;split at h
 ·have h:ae (s.fU d n false).aa (10+n) false (10+m)=true:=h;by_cases e:m=n
  ·subst e;rw[au]at h;cases h
  ·rw[ai _ _ og,qz]at h;exact⟨e,h⟩
 ·rename_i c;refine⟨?_,h⟩;rintro rfl;exact c (by unfold xz;rw[if_neg og,if_pos h])
def PR{s:SF}(m0:0<=m)(h:(s.vr n p w).aa (10+m)=true):s.aa (10+m)=true:=by
 unfold vr at h;split at h
 ·rename_i c;have h:ae s.aa n true (10+m)=true:=h;unfold lF at c;rwa[ai _ _ (by intro e;rw[if_pos og]at c;omega)]at h
 ·exact h
def LQ{s:SF}(h:(s.qx n).aa (10+m)=true):s.aa (10+m)=true:=by
 unfold qx at h;split at h
 ·have h:ae s.aa n false (10+m)=true:=h;by_cases e:10+m=n
  ·rw[e,au]at h;cases h
  ·rwa[ai _ _ e]at h
 ·exact h
def Tg{s:SF}{m:Nat}(h:s.Ok d m t)(ht:0<=t):(s.l6 d).1<0\/(0<=(s.l6 d).1/\(s.l6 d).1<20/\(s.l6 d).2.aa (10+(s.l6 d).1)=true):=by
 rw[zy];unfold l6;split
 ·left;show(-1:Int)<0;omega
 ·rename_i c;right;obtain⟨w1,w2,w3⟩:=Tf (h.oK ht).dS c;show 0<=bR d s-10/\bR d s-10<20/\s.aa (10+(bR d s-10))=true;rw[show 10+(bR d s-10)=bR d s by omega];exact⟨og,og,by rw[<-uL d s 9];exact w3⟩
end SF
end Go.X.Fa
