import Derived.Test.YthdinakloheinaaGreatDoorkFL
import Derived.Test.YthdinakloheinaaGreatDoorXQ
set_option linter.all false
namespace Go.X.Fa
open Go Go.X
variable{n z:Int}
def cP:Nat->Bool:=fun i=>Nat.blt i 30
def SC.dZ(e:TypeId)(s:SC):Nat->pQ:=fun i=>⟨.slice (s.P (i:Int)) (s.Q (i:Int)).n (s.C (i:Int)),e,2,(s.Q (i:Int)).n,bZ (gV (s.Q (i:Int))) ((s.Q (i:Int)).n*2)⟩
abbrev iB(z:Int):Nat:=0+0+z.toNat*76+6
theorem Sy(s:SC)(h:0<=z/\z<30){i:Nat}(hi:i<65):aP s (iB z+i)=fY (s.Q z) (s.P z) (s.C z) i:=by
 have e:=aP.at_ s z h (6+i) og;rw[show iB z+i=0+0+z.toNat*76+(6+i)from by unfold iB;omega,e];unfold aP.cell;rw[if_neg og,if_neg og,if_neg og,if_neg og,if_neg og,if_neg og,if_pos og,show 6+i-6=i from og];rfl
section
variable {W w:World} {S:Nat->Nat->Prop} {H F:List aB}
def XM.Bk{b o n:Nat}{C C':Nat->Value}(hC:∀ i,i<n->C i=C' i)(h:XM W S (.cells b o n C::H) w):XM W S (.cells b o n C'::H) w:=by
 obtain⟨⟨hh,mi⟩,hk,hm⟩:=h;rw[List.pairwise_cons]at mi;refine⟨⟨fun e he=> ?_,List.pairwise_cons.2 ⟨mi.1,mi.2⟩⟩,hk,fun e he=> ?_⟩
 ·rcases List.mem_cons.1 he with rfl | he
  ·obtain⟨A,t,lo,hi,h1,h2⟩:=hh (.cells b o n C) sq;exact⟨A,t,lo,hi,h1,fun i OX=>by rw[<-hC i OX];exact h2 i OX⟩
  simp_all
 ·rcases List.mem_cons.1 he with rfl | he
  ·exact hm (.cells b o n C) sq
  grind
def nf{b o:Nat}{e:TypeId}{s:SC}(hz:0<=z/\z<30)(hp:cO H [.cells b o 2281 (aP s),.bk cP (s.dZ e)] F)(h:XM W S H w):XM W S (.cells b (o+iB z) 65 (fY (s.Q z) (s.P z) (s.C z))::aM (s.P z) (s.C z) e 2 (s.Q z).n (gV (s.Q z)):: .cells b o (iB z) (aP s):: .cells b (o+iB z+65) (2281-iB z-65) (fun i=>aP s (iB z+65+i)):: .bk (jc cP z.toNat) (s.dZ e)::F) w:=by
 have Li:iB z+65<=2281:=by unfold iB;omega
 have h1:=h.b8 hp.b8;have h2:=XM.part (n:=2281) (off:=iB z) (m:=65) Li h1;have h3:=XM.Bk (C':=fY (s.Q z) (s.P z) (s.C z)) (fun i hi=>Sy s hz hi) h2;have h4:=h3.b8 (H':=.bk cP (s.dZ e):: .cells b (o+iB z) 65 (fY (s.Q z) (s.P z) (s.C z)):: .cells b o (iB z) (aP s):: .cells b (o+iB z+65) (2281-iB z-65) (fun i=>aP s (iB z+65+i))::F)
  (nc.b8 (.ao (.ao (.ao .aa))))
 have h5:=om z.toNat (by show Nat.blt z.toNat 30=true;simp;omega) h4;have e1:(s.dZ e z.toNat).BU=aM (s.P z) (s.C z) e 2 (s.Q z).n (gV (s.Q z)):=by
  grind [SC.dZ]
 rw[e1]at h5;exact h5.b8 (cO.b8 (E:=[_,_,_,_,_]) (F:=F) (pk [2,0,1,1,0]))
theorem Sz(s:SC)(z:Int)(q:QS)(p:Option Addr)(c:Nat)(h:0<=z/\z<30)(i:Nat)(hi:i<iB z\/iB z+65<=i):aP {s with Q:=ad s.Q z q,P:=ad s.P z p,C:=ad s.C z c} i=aP s i:=by
 unfold aP;refine gP (fun c1=> ?_) fun _=>rfl;by_cases cz:((i/76:Nat):Int)=z
 ·have hj:¬(6<=i%76/\i%76<71):=by unfold iB at hi;omega
  rw[cz];unfold aP.cell;simp only[if_neg hj];rfl
 grind [aP.un,ad]
def qD{b o:Nat}{e:TypeId}{s:SC}{q:QS}{p:Option Addr}{c:Nat}(hz:0<=z/\z<30)(hp:cO H [.cells b (o+iB z) 65 (fY q p c),aM p c e 2 q.n (gV q),.cells b o (iB z) (aP s),.cells b (o+iB z+65) (2281-iB z-65) fun i=>aP s (iB z+65+i),.bk (jc cP z.toNat) (s.dZ e)] F)(h:XM W S H w):XM W S (.cells b o 2281 (aP {s with Q:=ad s.Q z q,P:=ad s.P z p,C:=ad s.C z c}):: .bk cP (SC.dZ e {s with Q:=ad s.Q z q,P:=ad s.P z p,C:=ad s.C z c})::F) w:=by
 have Li:iB z+65<=2281:=by unfold iB;omega
 have h1:=(h.b8 hp.b8).b8 (cO.b8 (E:=[aM p c e 2 q.n (gV q),.bk (jc cP z.toNat) (s.dZ e),.cells b (o+iB z) 65 (fY q p c),.cells b o (iB z) (aP s),.cells b (o+iB z+65) (2281-iB z-65) fun i=>aP s (iB z+65+i)]) (F:=F)
  (pk [1,3,0,0,0]))
 have h2:=qo (x:=⟨.slice p q.n c,e,2,q.n,bZ (gV q) (q.n*2)⟩) z.toNat (uq _ _) h1;rw[EU (show cP z.toNat=true by show Nat.blt z.toNat 30=true;simp;omega)]at h2;have e1:AY (s.dZ e) z.toNat ⟨.slice p q.n c,e,2,q.n,bZ (gV q) (q.n*2)⟩=SC.dZ e {s with Q:=ad s.Q z q,P:=ad s.P z p,C:=ad s.C z c} :=by
  grind [mT,SC.dZ,lL,ad]
 rw[e1]at h2;have h3:=h2.b8 (cO.b8 (E:=[.cells b (o+iB z) 65 (fY q p c),.cells b o (iB z) (aP s),.cells b (o+iB z+65) (2281-iB z-65) fun i=>aP s (iB z+65+i),.bk cP (SC.dZ e {s with Q:=ad s.Q z q,P:=ad s.P z p,C:=ad s.C z c})]) (F:=F)
  (pk [1,1,1,0]))
 refine XM.Ii (n:=2281) (off:=iB z) (m:=65) Li (fun i hi=> ?_) (fun i hi=> ?_) (fun i hi=> ?_) h3 og;all_goals grind [Sz,Sy,aj]
def rz{b o:Nat}{e:TypeId}{s:SC}(hz:0<=z/\z<30)(hp:cO H [.cells b (o+iB z) 65 (fY (s.Q z) (s.P z) (s.C z)),aM (s.P z) (s.C z) e 2 (s.Q z).n (gV (s.Q z)),.cells b o (iB z) (aP s),.cells b (o+iB z+65) (2281-iB z-65) fun i=>aP s (iB z+65+i),.bk (jc cP z.toNat) (s.dZ e)] F)(h:XM W S H w):XM W S (.cells b o 2281 (aP s):: .bk cP (s.dZ e)::F) w:=by
 have h1:=qD hz hp h;simp_all[cB]
theorem XM.newRow{e:TypeId}{s:SC}(hz:0<=z/\z<30)(hp:cO H [.bk cP (s.dZ e)] F)(h:XM W S H w):XM W S (.bk cP (SC.dZ e {s with Q:=ad s.Q z QS.dc,P:=ad s.P z none,C:=ad s.C z 0})::F) w:=by
 have h1:=om z.toNat (by show Nat.blt z.toNat 30=true;simp;omega) (h.b8 hp.b8);have h2:=XM.pick (E:=.bk (jc cP z.toNat) (s.dZ e)::F) (F:=[(s.dZ e z.toNat).BU]) (by
  have hq:∀ (x:aB) (L:List aB),cO (x::L) L [x]:=fun x L=>by
   induction L with
   | nil=>exact .nil
   | cons y r ih=>exact .cons (.ao .aa) ih
  exact hq _ _) h1
 have h3:=h2.ft e 2;have h4:=qo (x:=⟨.slice none 0 0,e,2,0,[]⟩) z.toNat (uq _ _) h3;rw[EU (show cP z.toNat=true by show Nat.blt z.toNat 30=true;simp;omega)]at h4;have e1:AY (s.dZ e) z.toNat ⟨.slice none 0 0,e,2,0,[]⟩=SC.dZ e {s with Q:=ad s.Q z QS.dc,P:=ad s.P z none,C:=ad s.C z 0} :=by
  funext i;by_cases hi:i=z.toNat
  ·subst hi;rw[mT];unfold SC.dZ;simp only[show((z.toNat:Nat):Int)=z from og,aj];rfl
  ·rw[lL _ _ hi];have OX:¬(i:Int)=z:=og;unfold SC.dZ;simp only[ae _ _ OX]
 rw[e1]at h4;exact h4
end
theorem XQ.mono{P:Program}{ops:Array Oper}{Q:Exit->Act->World->Prop}{n:Fr}{L:PF}{M M':World->Prop}{B:Ae}{f:Nat}{l:Array Bool}(hm:∀ w,M w->M' w)(h:XQ P n ops Q B f l L M'):XQ P n ops Q B f l L M:=fun hc a w ha hw hJ=>h hc a w ha (hm w hw) hJ
theorem SC.pA.gx{s:SC}(h:s.pA)(hw:∀ i,s.cy i=true->0<i/\i<30){n:Int}(h0:0<=n)(h1:n<30):s.toSF.gx n=decide (0<(s.Q n).n):=by
 rw[Bool.eq_iff_iff,SF.qC,decide_eq_true_eq,(h n h0 h1).len];constructor
 ·rintro⟨i,i0,i1,i2,i3⟩;exact⟨i,i0,og,(SF.tf _ _ _).2 ⟨i2,i3⟩⟩
 ·rintro⟨i,i0,i1,i2⟩;obtain⟨a,b⟩:=(SF.tf _ _ _).1 i2;grind
namespace SF
def D2(s:SF)(n:Int):Int:=if n<0\/10<=n then 1 else if s.aa n=true then 0 else 2
def yH(s:SF)(n:Int):Int:=if n<0\/20<=n then 1 else if s.aa (10+n)=true then 0 else 2
def SA(s:SF)(n:Int):0<=s.D2 n:=by unfold D2;split<;>(try split)<;>omega
def aa1(s:SF)(n:Int):0<=s.yH n:=by unfold yH;split<;>(try split)<;>omega
theorem mD(k:Nat)(s:SF)(h:n<=0:=by omega):gW k s n=s:=by
 cases k with
 | zero=>rfl
 | succ k=>show(if n<=0 then s else _)=s;rw[if_pos h]
theorem oM(k:Nat)(s:SF)(h:0<n):gW (k+1) s n=gW k (s.uA n) (s.ax n):=by
 grind [gW]
def Inv.uA{s:SF}{d:Int->Nat}(h:s.Inv d){n:Int}(h0:0<n)(h1:n<30)(h2:s.aa n=true):(s.uA n).Inv d:=by
 refine⟨h.h0,h.up,fun i hi=> ?_,h.quo,h.wt⟩;have e:(s.uA n).cy i=ad s.cy n (s.ready n) i:=rfl;rw[e]at hi;by_cases c:i=n
 ·subst c;exact⟨h0,h1,h2⟩
 ·rw[ae _ _ c]at hi;exact h.cy i hi
end SF
theorem SC.pA.enter{s:SC}(h:s.pA)(hn:0<=n/\n<30)(hg:0<=s.ax n/\s.ax n<30)(hw:s.cy n=false)(t:SF)(ht:t.cy=ad s.cy n true)(hv:∀ i,¬i=n->t.v i=s.v i)(hp:t.ax=s.ax)(im:Int)(ahg:t.v n=im)(P:Int->Option Addr)(C:Int->Nat):SC.pA ⟨t,ad s.Q (s.ax n) ((s.Q (s.ax n)).put n im).2,P,C⟩:=fun g g0 g1=>by
 subst ahg;show mm (ad s.Q (s.ax n) _ g) (t.mq g);unfold SF.mq;rw[ht,hp];by_cases c:g=s.ax n
 ·subst c;rw[aj];have vH:(s.toSF.mq (s.ax n)).is n=2:=RQ.wY og (by show(s.cy n&&_)=false;rw[hw];rfl);have h1:=((h _ g0 g1).put n (t.v n)).2;rw[RQ.s9 _ og og]at h1;refine h1.ext (fun i _ _=> ?_) fun i _ _ _=> ?_
  ·show(ad s.cy n true i&&decide (s.ax i=s.ax n))=ad (fun i=>s.cy i&&decide (s.ax i=s.ax n)) n true i;grind [ad]
  ·show t.v i=ad s.v n (t.v n) i;grind [ad]
 ·rw[ae _ _ c];refine(h g g0 g1).ext (fun i _ _=> ?_) fun i _ _ hi=> ?_
  ·show(ad s.cy n true i&&decide (s.ax i=g))=(s.cy i&&decide (s.ax i=g));grind [ad]
  ·have ci:¬i=n:=fun e=>by
    subst e;have:=((SF.tf _ _ _).1 hi).1;simp_all
   exact hv i ci
theorem SC.pA.fi{s:SC}(h:s.pA)(hn:0<=n/\n<30)(hg:0<=s.ax n/\s.ax n<30)(hw:s.cy n=true)(t:SF)(ht:t.cy=ad s.cy n false)(hv:∀ i,¬i=n->t.v i=s.v i)(hp:t.ax=s.ax)(P:Int->Option Addr)(C:Int->Nat):SC.pA ⟨t,ad s.Q (s.ax n) ((s.Q (s.ax n)).cut n).2.2,P,C⟩:=fun g g0 g1=>by
 show mm (ad s.Q (s.ax n) _ g) (t.mq g);unfold SF.mq;rw[ht,hp];by_cases c:g=s.ax n
 ·subst c;rw[aj];have vH:(s.toSF.mq (s.ax n)).is n=0:=RQ.Cb og (by show(s.cy n&&_)=true;rw[hw];simp);have h1:=((h _ g0 g1).cut n).2.2;rw[RQ.Lh vH]at h1;refine h1.ext (fun i _ _=> ?_) fun i _ _ hi=> ?_
  ·show(ad s.cy n false i&&decide (s.ax i=s.ax n))=ad (fun i=>s.cy i&&decide (s.ax i=s.ax n)) n false i;grind [ad]
  ·have ci:¬i=n:=fun e=>by
    grind [aj]
   exact hv i ci
 ·rw[ae _ _ c];refine(h g g0 g1).ext (fun i _ _=> ?_) fun i _ _ hi=> ?_
  ·show(ad s.cy n false i&&decide (s.ax i=g))=(s.cy i&&decide (s.ax i=g));grind [ad]
  ·have ci:¬i=n:=fun e=>by
    subst e;exact c ((SF.tf _ _ _).1 hi).2.symm
   exact hv i ci
theorem SC.pA.bM{s:SC}(h:s.pA)(hn:0<=n/\n<30)(hg:0<=s.ax n/\s.ax n<30):((s.Q (s.ax n)).im n).2=if s.cy n=true then 0 else 2:=by
 rw[((h _ hg.1 hg.2).aaZ n).2.1];by_cases c:s.cy n=true
 ·rw[if_pos c,E3 (RQ.Cb og (by show(s.cy n&&_)=true;rw[c];simp))]
 ·have vH:(s.toSF.mq (s.ax n)).is n=2:=RQ.wY og (by
   show(s.cy n&&_)=false
   cases q:s.cy n with
   | true=>exact absurd q c
   | false=>rfl)
  rw[if_neg c,Sw false og];exact vH
def SC.pA.ahh{s:SC}(h:s.pA)(hn:0<=n/\n<30)(hg:0<=s.ax n/\s.ax n<30)(hw:s.cy n=true):((s.Q (s.ax n)).cut n).1=s.v n/\((s.Q (s.ax n)).cut n).2.1=0:=by
 obtain⟨h1,h2,_⟩:=(h _ hg.1 hg.2).cut n;rw[RQ.Lh (RQ.Cb og (by show(s.cy n&&_)=true;rw[hw];simp))]at h1 h2;exact⟨h1,h2⟩
theorem Av{s:SF}(h:s.ready n=s.cy n):s.uA n=s:=by
 unfold SF.uA;grind [cB,SF]
theorem SF.zd{s:SF}(hp:s.ax n≠n)(w:Bool):SF.ready {s with cy:=ad s.cy n w} n=s.ready n:=by
 have hk:SF.gx {s with cy:=ad s.cy n w} n=s.gx n:=by
  rw[Bool.eq_iff_iff,SF.qC,SF.qC];grind [ae]
 unfold SF.ready;rw[hk]
def Pb(s:SC)(z v:Int)(h:0<=z/\z<30):0+0+z.toNat*76+3<2281/\aP {s with v:=ad s.v z v} (0+0+z.toNat*76+3)= .int .u64 v:=by
 have:=tg {s with v:=ad s.v z v} z h;grind [aj]
def Nf{W w:World}{S:Nat->Nat->Prop}{H F:List aB}{b o:Nat}{e:TypeId}{s:SC}(ws:Int->Bool)(hp:cO H [.cells b o 2281 (aP s),.bk cP (s.dZ e)] F)(h:XM W S H w):
  XM W S (.cells b o 2281 (aP {s with cy:=ws}):: .bk cP (SC.dZ e {s with cy:=ws})::F) w:=h.b8 hp.b8
end Go.X.Fa

namespace Go.X.Fa
open Go Go.X
variable{a g m n t z:Int}{d:Int->Nat}
namespace SF
def pV(s:SF)(n p w:Int)(h:Bool):SF:=⟨ad s.aa n h,ad s.ax n p,ad s.wt n w,ad s.v n 0,ad s.uz n 0,ad s.dS n false,ad s.eC n 0,ad s.HR n false,ad s.fD n 0,ad s.jT n 0,ad s.dY n 0,s.ij,ad s.cy n false⟩
def SB(s:SF)(n p w:Int):Int:=if n<0\/10<=n\/w<1\/1000<w then 1 else if s.aa n=true then 3 else s.D2 p
def lP(s:SF)(n p w:Int):Int:=if n<0\/20<=n\/w<1\/1000<w then 1 else if s.aa (10+n)=true then 3 else s.D2 p
def SD(s:SF)(n p w:Int):SF:=if s.SB n p w=0 then s.pV n p w true else s
def sM(s:SF)(n p w:Int):SF:=if s.lP n p w=0 then s.pV (10+n) p w true else s
def W1(s:SF)(n:Int):Bool:=(List.range 30).any (fun i=>s.aa (i:Int)&&decide (s.ax (i:Int)=n))
def Lj(s:SF)(n:Int):Int:=if s.D2 n≠0 then s.D2 n else if n=0\/s.W1 n=true then 5 else 0
def ID(s:SF)(n:Int):SF:=if s.Lj n=0 then s.pV n 0 0 false else s
def fZ(d:Int->Nat)(s:SF)(n:Int)(on:Bool):SF:=if s.yH n=0 then look d {s with dS:=ad s.dS (10+n) on} (10+n)else s
def vt(d:Int->Nat)(s:SF)(n:Int):SF:=if s.yH n=0 then(s.fZ d n false).pV (10+n) 0 0 false else s
def iM(s:SF)(n g:Int):Int:=if s.yH n≠0 then s.yH n else s.D2 g
def mv1(d:Int->Nat)(s:SF)(n g:Int):SF:= {s.fZ d n false with ax:=ad (s.fZ d n false).ax (10+n) g,v:=ad (s.fZ d n false).v (10+n) 0,dS:=ad (s.fZ d n false).dS (10+n) (s.dS (10+n))}
def move(d:Int->Nat)(s:SF)(n g:Int):SF:=if s.iM n g=0 then look (ad d (10+n) (d g+1)) (mv1 d s n g) (10+n)else s
def Pc(s:SF)(n:Int):s.W1 n=true↔∃ i:Int,0<=i/\i<30/\s.aa i=true/\s.ax i=n:=by
 unfold W1;simp only[List.any_eq_true,List.mem_range,Bool.and_eq_true,decide_eq_true_eq];constructor
 ·grind
 ·rintro⟨k,h1,h2,h3,h4⟩;refine⟨k.toNat,og,?_⟩;grind
def W2{s:SF}{k:Int}(h0:0<=k)(h1:k<30)(h2:s.aa k=true)(h3:s.ax k=n):s.W1 n=true:=(s.Pc n).2 ⟨k,h0,h1,h2,h3⟩
def Ng{s:SF}(h:s.D2 n=0):0<=n/\n<10/\s.aa n=true:=by
 grind [D2]
def SE{s:SF}(h:s.yH n=0):0<=n/\n<20/\s.aa (10+n)=true:=by
 grind [yH]
theorem aa2{s:SF}(h0:0<=n)(h1:n<20)(h2:s.aa (10+n)=true):s.yH n=0:=by grind [yH]
def jU:∀ (k:Nat) (s:SF) (n:Int),(gW k s n).aa=s.aa/\(gW k s n).ax=s.ax/\(gW k s n).wt=s.wt/\(gW k s n).uz=s.uz/\(gW k s n).dS=s.dS/\(gW k s n).eC=s.eC/\(gW k s n).HR=s.HR/\(gW k s n).fD=s.fD/\(gW k s n).jT=s.jT/\(gW k s n).dY=s.dY/\(gW k s n).ij=s.ij
 | 0,s,n=>⟨rfl,rfl,rfl,rfl,rfl,rfl,rfl,rfl,rfl,rfl,rfl⟩
 | k+1,s,n=>by
  by_cases h:n<=0
  ·rw[mD _ _ h];exact⟨rfl,rfl,rfl,rfl,rfl,rfl,rfl,rfl,rfl,rfl,rfl⟩
  ·rw[oM _ _ og];exact jU k (s.uA n) (s.ax n)
def E5{d:Int->Nat} :∀ (k:Nat) (s:SF) (n:Int),s.Inv d->(n=0\/(0<n/\n<30/\s.aa n=true))->(gW k s n).Inv d
 | 0,s,n,h,_=>h
 | k+1,s,n,h,hn=>by
  rcases hn with rfl | ⟨n0,n1,n2⟩
  ·rw[mD _ _];exact h
  ·rw[oM _ _ n0];obtain⟨p0,p1,p2,_⟩:=h.up n n0 n1 n2;apply E5 k (s.uA n) (s.ax n) (h.uA n0 n1 n2);by_cases c:s.ax n=0
   ·exact .inl c
   ·exact .inr ⟨og,og,p2⟩
def mU(s:SF):Prop:=∀ n,0<n->n<30->s.aa n=true->s.cy n=s.ready n
end SF
def nR(u:aP.U):Array Value:=((List.range 76).map (aP.cell u)).toArray
abbrev Cc(h:Bool)(p w:Int):aP.U:=⟨h,p,w,0,0,false,0,false,0,0,0,QS.dc,none,0⟩
def kT{c:Prop}[Decidable c]{a b:Value}(h1:c->one a=true)(h2:¬c->one b=true):one (if c then a else b)=true:=by
 grind
def SG(s:QS)(p:Option Addr)(c i:Nat)(hi:i<65):one (fY s p c i)=true:=by grind [one,fY]
theorem SH(u:aP.U)(j:Nat)(hj:j<76):one (aP.cell u j)=true:=
 kT (fun _=>rfl) fun _=>kT (fun _=>rfl) fun _=>kT (fun _=>rfl) fun _=>kT (fun _=>rfl) fun _=>kT (fun _=>rfl) fun _=>kT (fun _=>rfl) fun _=>kT (fun c=>SG _ _ _ _ og) fun _=>kT (fun _=>rfl) fun _=>kT (fun _=>rfl) fun _=>kT (fun _=>rfl) fun _=>kT (fun _=>rfl) fun _=>kT (fun _=>rfl) fun _=>by exact absurd hj og
def vT(u:aP.U):(nR u).toList.all one=true/\(nR u).size=76:=by
 grind [nR,SH]
def Cd(s:SC)(z p w:Int)(h:Bool)(hz:0<=z/\z<30:=by omega):0+0+z.toNat*76+76<=2281/\cC (aP s) (0+0+z.toNat*76) (nR (Cc h p w)).toList=aP ⟨s.toSF.pV z p w h,ad s.Q z QS.dc,ad s.P z none,ad s.C z 0⟩:=
 aP.Sx s ⟨s.toSF.pV z p w h,ad s.Q z QS.dc,ad s.P z none,ad s.C z 0⟩ z hz _ (by simp[nR]) (fun j hj=>by
  have e:aP.un ⟨s.toSF.pV z p w h,ad s.Q z QS.dc,ad s.P z none,ad s.C z 0⟩ z=Cc h p w:=by
   unfold aP.un SF.pV
   simp only[aj]
  rw[e]
  simp[nR,hj]) (fun y hy=>by
  unfold aP.un SF.pV
  simp only[ae _ _ hy]) rfl
def SC.pA.new{s:SC}(h:s.pA)(hw:s.cy z=false)(hk:∀ i,s.cy i=true->s.ax i≠z)(p w:Int)(hh:Bool):SC.pA ⟨s.toSF.pV z p w hh,ad s.Q z QS.dc,ad s.P z none,ad s.C z 0⟩:=fun g g0 g1=>by
 show mm (ad s.Q z QS.dc g) ((s.toSF.pV z p w hh).mq g);by_cases c:g=z
 ·subst c;rw[aj];refine mm.dc.ext (fun i _ _=> ?_) fun i _ _ hi=>by cases hi
  show(ad s.cy g false i&&decide (ad s.ax g p i=g))=false;grind [ad]
 ·rw[ae _ _ c];refine(h g g0 g1).ext (fun i _ _=> ?_) fun i _ _ hi=> ?_
  ·show(ad s.cy z false i&&decide (ad s.ax z p i=g))=(s.cy i&&decide (s.ax i=g));grind [ad]
  ·show ad s.v z 0 i=s.v i;have ci:¬i=z:=fun e=>by
    subst e;have:=((SF.tf _ _ _).1 hi).1;simp_all
   grind [ad]
def SF.dc:SF:=⟨fun _=>false,fun _=>0,fun _=>0,fun _=>0,fun _=>0,fun _=>false,fun _=>0,fun _=>false,fun _=>0,fun _=>0,fun _=>0,0,fun _=>false⟩
def SC.dc:SC:=⟨SF.dc,fun _=>QS.dc,fun _=>none,fun _=>0⟩
def SI:Array Value:=((List.range 2281).map (aP SC.dc)).toArray
def Pd:SI.size=2281:=by simp[SI]
def SJ:∀ i,i<2281->cellsOf SI i=aP SC.dc i:=fun i hi=>by simp[cellsOf,SI,hi]
def SF.cK:SF:=SF.dc.pV 0 (-1) 1 true
theorem SC.pA.dc:SC.dc.pA:=fun g _ _=>mm.dc.ext (fun i _ _=>rfl) fun i _ _ hi=>by cases hi
namespace SF
def E6{d:Int->Nat} :∀ (k:Nat) (s:SF) (n:Int),s.Inv d->(n=0\/(0<n/\n<30/\s.aa n=true))->∀ i,(n=0\/d n<d i)->(gW k s n).cy i=s.cy i/\(gW k s n).v i=s.v i
 | 0,s,n,_,_,i,_=>⟨rfl,rfl⟩
 | k+1,s,n,h,hn,i,hi=>by
  rcases hn with rfl | ⟨n0,n1,n2⟩
  ·rw[mD _ _];exact⟨rfl,rfl⟩
  ·rw[oM _ _ n0];obtain⟨p0,p1,p2,p3⟩:=h.up n n0 n1 n2;have hd:d n<d i:=by
    rcases hi with q | q
    ·omega
    ·exact q
   have vm:¬i=n:=fun e=>by subst e;omega
   have ih:=E6 k (s.uA n) (s.ax n) (h.uA n0 n1 n2) (by
    by_cases c:s.ax n=0
    ·exact .inl c
    ·exact .inr ⟨og,og,p2⟩) i (.inr og)
   have e1:(s.uA n).cy i=s.cy i:=ae _ _ vm;have e2:(s.uA n).v i=s.v i:=ae _ _ vm;rw[ih.1,ih.2,e1,e2];exact⟨rfl,rfl⟩
theorem Nh{s:SF}(h:s.Inv d)(n0:0<n)(n1:n<30)(n2:s.aa n=true):(look d s n).cy n=s.ready n:=by
 unfold look;rw[oM _ _ n0];obtain⟨p0,p1,p2,p3⟩:=h.up n n0 n1 n2;have e:=(E6 (d n) (s.uA n) (s.ax n) (h.uA n0 n1 n2) (by
  by_cases c:s.ax n=0
  ·omega
  ·exact .inr ⟨og,og,p2⟩) n (.inr p3)).1
 rw[e];exact aj _ _ _
def wZ{s:SF}(h:s.Inv d)(hn:n=0\/(0<n/\n<30/\s.aa n=true)):(look d s n).Inv d:=E5 _ _ _ h hn
def ze(d:Int->Nat)(s:SF)(n:Int):(look d s n).aa=s.aa:=(jU _ _ _).1
def SK(d:Int->Nat)(s:SF)(n:Int):(look d s n).ax=s.ax:=(jU _ _ _).2.1
def IsB(s:SF)(g b:Int):Prop:=s.cy b=true/\s.ax b=g/\∀ i,s.cy i=true->s.ax i=g->¬An (s.v i) i (s.v b) b
def IsB.ahi{s:SF}{b b':Int}(h:s.IsB g b)(h':s.IsB g b'):b=b':=by
 grind [An,IsB]
theorem vU(s:SF)(g:Int):∀ (k:Nat),k<=29->(nM s g k<0->∀ i,29-(k:Int)<i->i<=29->¬(s.cy i=true/\s.ax i=g))/\
  (¬nM s g k<0->29-(k:Int)<nM s g k/\nM s g k<=29/\s.cy (nM s g k)=true/\s.ax (nM s g k)=g/\∀ i,29-(k:Int)<i->i<=29->s.cy i=true->s.ax i=g->¬An (s.v i) i (s.v (nM s g k)) (nM s g k))
 | 0,_=>⟨fun _ i h1 h2=>og,fun h=>absurd (by show(-1:Int)<0;omega) h⟩
 | k+1,hk=>by
  obtain⟨h1,h2⟩:=vU s g k og;have e:nM s g (k+1)=if s.cy (29-(k:Int))=true/\s.ax (29-(k:Int))=g/\(nM s g k<0\/s.v (29-(k:Int))<=s.v (nM s g k))then 29-(k:Int)else nM s g k:=rfl
  grind [An,SF]
def Ni{s:SF}(hw:∀ i,s.cy i=true->0<i/\i<30)(h:s.fJ g<0):∀ i,s.cy i=true->s.ax i≠g:=fun i hi e=>by
 grind [vU,fJ]
def w6{s:SF}(hw:∀ i,s.cy i=true->0<i/\i<30)(h:¬s.fJ g<0):s.IsB g (s.fJ g)/\0<s.fJ g/\s.fJ g<30:=by
 obtain⟨h1,h2,h3,h4,h5⟩:=(vU s g 29 og).2 h;grind [fJ,IsB]
def Bl(d:Int->Nat):∀ (k:Nat) (n:Int),0<=n->n<k->d n<=Gt d k
 | 0,n,h0,h1=>og
 | k+1,n,h0,h1=>by
  show d n<=max (Gt d k) (d (k:Int));by_cases c:n=(k:Int)
  ·subst c;omega
  ·have:=Bl d k n h0 og;omega
theorem W3(s:SF)(k:Nat)(h:10<=a):KL s k a=a:=by
 cases k with
 | zero=>rfl
 | succ k=>show(if 10<=a then a else _)=a;rw[if_pos h]
theorem Lk(s:SF)(k:Nat)(h:¬ 10<=a)(hb:¬s.fJ a<0):KL s (k+1) a=KL s k (s.fJ a):=by
 grind [KL]
def aa4(s:SF)(k:Nat)(h:¬ 10<=a)(hb:s.fJ a<0):KL s (k+1) a= -1:=by
 grind [KL]
theorem E7(k:Nat)(s:SF)(h:n<=0):vf k s n=s:=by
 cases k with
 | zero=>rfl
 | succ k=>show(if n<=0 then s else _)=s;rw[if_pos h]
theorem Nj(k:Nat)(s:SF)(h:0<n):vf (k+1) s n=vf k (s.y9 n) (s.ax n):=by
 grind [vf]
def upW(s:SF):Nat->Int->Prop
 | 0,n=>n<=0
 | k+1,n=>n<=0\/(s.cy n=true/\upW s k (s.ax n))
def Inv.y9{s:SF}{d:Int->Nat}(h:s.Inv d){n:Int}(h0:0<n)(h1:n<30)(h2:s.aa n=true):(s.y9 n).Inv d:=by
 refine⟨h.h0,h.up,fun i hi=> ?_,h.quo,h.wt⟩;have e:(s.y9 n).cy i=ad s.cy n ((s.nB n).ready n) i:=rfl;rw[e]at hi;by_cases c:i=n
 ·subst c;exact⟨h0,h1,h2⟩
 ·rw[ae _ _ c]at hi;exact h.cy i hi
def Nk{s:SF}{d:Int->Nat}(h:s.Inv d){n:Int} :∀ (k:Nat) (m:Int),(m=0\/(0<m/\m<30/\s.aa m=true))->d m<d n->upW s k m->upW (s.y9 n) k m
 | 0,m,_,_,hu=>hu
 | k+1,m,hm,hd,hu=>by
  rcases hu with hu | ⟨V5,KM⟩
  ·exact .inl hu
  ·rcases hm with rfl | ⟨m0,m1,m2⟩
   ·exact .inl (Int.le_refl _)
   ·refine .inr ⟨?_,?_⟩
    ·show ad s.cy n _ m=true;rw[ae _ _ fun e=>by subst e;omega];exact V5
    ·obtain⟨p0,p1,p2,p3⟩:=h.up m m0 m1 m2;exact Nk h k (s.ax m) (by
      by_cases c:s.ax m=0
      ·exact .inl c
      ·exact .inr ⟨og,og,p2⟩) og KM
def uB{f:Int->Int}{v i lo hi:Int}(h1:lo<=f i/\f i<=hi)(h2:lo<=v/\v<=hi):lo<=ad f n v i/\ad f n v i<=hi:=by
 grind [ad]
theorem bR.mono{s:SF}{B B':Int}(h:s.bR B)(hb:B<=B'):s.bR B':=fun n n0 n1=>by have:=h n n0 n1;omega
def bR.y9{s:SF}{d:Int->Nat}(hI:s.Inv d){B:Int}(h:s.bR B){n:Int}(h0:0<n)(h1:n<30)(h2:s.aa n=true):(s.y9 n).bR (B+1048576):=fun i i0 i1=>by
 obtain⟨p0,p1,p2,_⟩:=hI.up n h0 h1 h2;have hw:=hI.wt n og h1 h2;have hn:=h n og h1;have hg:=h (s.ax n) p0 og;have hi:=h i i0 i1;have hq:0<=1048576/s.wt n/\1048576/s.wt n<=1048576:=⟨Int.ediv_nonneg og og,Int.ediv_le_self _ og⟩;have a1:0<=ad s.v n (s.v n+1048576/s.wt n) i/\ad s.v n (s.v n+1048576/s.wt n) i<=B+1048576:=uB og og;have a2:0<=ad s.eC (s.ax n) (max (s.eC (s.ax n)) (s.v n)) i/\ad s.eC (s.ax n) (max (s.eC (s.ax n)) (s.v n)) i<=B+1048576:=uB og og;have a3:0<=ad s.uz n (s.uz n+1) i/\ad s.uz n (s.uz n+1) i<=B+1048576:=uB og og;have a4:0<=(if 0<s.fD n then ad s.dY n (s.dY n+1)else s.dY) i/\(if 0<s.fD n then ad s.dY n (s.dY n+1)else s.dY) i<=B+1048576:=by
  by_cases c:0<s.fD n
  ·rw[if_pos c];exact uB og og
  grind
 exact⟨a1.1,a1.2,a2.1,a2.2,a3.1,a3.2,a4.1,a4.2⟩
def bR.uA{s:SF}{d:Int->Nat}(hI:s.Inv d){B:Int}(h:s.bR B){n:Int}(h0:0<n)(h1:n<30)(h2:s.aa n=true):(s.uA n).bR B:=fun i i0 i1=>by
 obtain⟨p0,p1,p2,_⟩:=hI.up n h0 h1 h2;have hn:=h n og h1;have hg:=h (s.ax n) p0 og;have hi:=h i i0 i1;have im:0<=(s.uA n).v i/\(s.uA n).v i<=B:=by
  show 0<=ad s.v n (if s.ready n=true/\s.cy n=false then max (s.v n) (s.eC (s.ax n))else s.v n) i/\ad s.v n (if s.ready n=true/\s.cy n=false then max (s.v n) (s.eC (s.ax n))else s.v n) i<=B;apply uB og;omega
 exact⟨im.1,im.2,hi.2.2⟩
theorem bR.gW{d:Int->Nat}{B:Int} :∀ (k:Nat) (s:SF) (n:Int),s.Inv d->s.bR B->(n=0\/(0<n/\n<30/\s.aa n=true))->(SF.gW k s n).bR B
 | 0,s,n,_,h,_=>h
 | k+1,s,n,hI,h,hn=>by
  rcases hn with rfl | ⟨n0,n1,n2⟩
  ·rw[mD _ _];exact h
  ·rw[oM _ _ n0];obtain⟨p0,p1,p2,_⟩:=hI.up n n0 n1 n2;apply bR.gW k (s.uA n) (s.ax n) (hI.uA n0 n1 n2) (h.uA hI n0 n1 n2);by_cases c:s.ax n=0
   ·exact .inl c
   ·exact .inr ⟨og,og,p2⟩
end SF
theorem SC.pA.first{s:SC}(h:s.pA)(hw:∀ i,s.cy i=true->0<i/\i<30){g:Int}(g0:0<=g)(g1:g<30):((s.Q g).first.2.2=true↔¬s.toSF.fJ g<0)/\(¬s.toSF.fJ g<0->(s.Q g).first.1=s.toSF.fJ g):=by
 have hq:=h g g0 g1;by_cases hn:(s.Q g).n=0
 ·have e:(s.Q g).first=(0,0,false):=by unfold QS.first;rw[if_pos hn]
  have hb:s.toSF.fJ g<0:=by
   apply Classical.byContradiction;intro c;obtain⟨⟨b1,b2,_⟩,b3,b4⟩:=SF.w6 hw c;have:=hq.len.2 ⟨_,og,og,(SF.tf _ _ _).2 ⟨b1,b2⟩⟩;omega
  simp_all
 ·have e:(s.Q g).first=((s.Q g).I 0,(s.Q g).K 0,true):=by unfold QS.first;rw[if_neg hn]
  obtain⟨⟨a0,a1⟩,a2,a3⟩:=hq.head og;obtain⟨c1,c2⟩:=(SF.tf _ _ _).1 a2;have hb:¬s.toSF.fJ g<0:=fun q=>SF.Ni hw q _ c1 c2;have hB:s.toSF.IsB g ((s.Q g).I 0):=⟨c1,c2,fun i i1 i2=>by
   have:=hw i i1
   exact a3 i og og ((SF.tf _ _ _).2 ⟨i1,i2⟩)⟩
  rw[e];exact⟨⟨fun _=>hb,fun _=>rfl⟩,fun _=>hB.ahi (SF.w6 hw hb).1⟩
def SF.Inv.aeq{s:SF}(h:s.Inv d)(hn:10<=n/\n<30)(hg:0<=g/\g<10/\s.aa g=true)(hw:s.cy n=false)(v:Int->Int)(aw:Int->Bool):SF.Inv {s with ax:=ad s.ax n g,v:=v,dS:=aw} (ad d n (d g+1)):=by
 refine⟨h.h0,fun i i0 i1 i2=> ?_,h.cy,h.quo,h.wt⟩;show 0<=ad s.ax n g i/\ad s.ax n g i<10/\s.aa (ad s.ax n g i)=true/\ad d n (d g+1) (ad s.ax n g i)<ad d n (d g+1) i;by_cases c:i=n
 ·grind [ad]
 grind [Inv,ad]
namespace SF
theorem W4{s x:SF}(h1:1<=n)(he:x=mB d s (n-1).toNat)(h:x.aa n=true/\0<x.fD n/\x.ij%x.jT n=0):mB d s (n+1-1).toNat=look d {x with dY:=ad x.dY n 0} n:=by
 rw[show(n+1-1).toNat=(n-1).toNat+1 from og];grind [te,mB]
theorem Gu{s x:SF}(h1:1<=n)(he:x=mB d s (n-1).toNat)(h:¬(x.aa n=true/\0<x.fD n/\x.ij%x.jT n=0)):mB d s (n+1-1).toNat=x:=by
 rw[show(n+1-1).toNat=(n-1).toNat+1 from og];grind [te,mB]
def bR.dY{s:SF}{B:Int}(hB:0<=B)(h:s.bR B)(n:Int):SF.bR {s with dY:=ad s.dY n 0} B:=fun i i0 i1=>by
 have hi:=h i i0 i1;have:=uB (f:=s.dY) (n:=n) (v:=0) (i:=i) (lo:=0) (hi:=B) og og;simp_all
def Pe{s:SF}(hI:s.Inv d)(hs:s.mU)(h0:0<a)(h1:a<10)(hw:s.cy a=true):¬s.fJ a<0:=fun hb=>by
 obtain⟨_,a1,a2⟩:=hI.cy a hw;have h2:=hs a h0 a1 a2;rw[hw]at h2;unfold ready at h2;rw[if_neg og]at h2;have hk:s.gx a=true:=by
  simp_all
 obtain⟨i,i0,i1,i2,i3⟩:=(s.qC a).1 hk;exact Ni (fun j hj=>⟨(hI.cy j hj).1,(hI.cy j hj).2.1⟩) hb i i2 i3
end SF
def Ll{W w:World}{S:Nat->Nat->Prop}{H:List aB}(e:TypeId)(h:XM W S H w):XM W S (.bk cP (SC.dc.dZ e)::H) w:=by
 have hr:w.ownsRow 0 e 2 (.slice none 0 0) 0 []:=(h.ft e 2).eY.1 (.row (.slice none 0 0) e 2 0 []) sq;refine⟨⟨fun x hx=> ?_,List.pairwise_cons.2 ⟨fun x hx _ b o h1 h2=> ?_,h.eY.2⟩⟩,h.eG,fun x hx hw b o hb=> ?_⟩
 ·rcases List.mem_cons.1 hx with rfl | hx
  ·exact⟨fun i _=>hr,fun i j b _ _ _ h1 _=>by cases h1⟩
  ·exact h.eY.1 x hx
 ·obtain⟨i,_,hb⟩:=h1;cases hb
 ·rcases List.mem_cons.1 hx with rfl | hx
  ·obtain⟨i,_,hb⟩:=hb;cases hb
  ·exact h.D8 x hx hw b o hb
def SF.Tk(s:SF):Prop:=∀ n,10<=n->n<30->s.eC n=0/\s.HR n=false/\s.fD n=0/\s.jT n=0/\s.dY n=0
namespace SF
def IE{s:SF}(hI:s.Inv d)(i1:0<=n)(i2:n<20)(i3:s.aa (10+n)=true):(s.fZ d n false).Inv d/\(s.fZ d n false).cy (10+n)=false/\(s.fZ d n false).aa=s.aa/\(s.fZ d n false).ax=s.ax/\(s.fZ d n false).wt=s.wt/\(s.fZ d n false).uz=s.uz/\(s.fZ d n false).eC=s.eC/\(s.fZ d n false).HR=s.HR/\(s.fZ d n false).fD=s.fD/\(s.fZ d n false).jT=s.jT/\(s.fZ d n false).dY=s.dY/\(s.fZ d n false).ij=s.ij/\(s.fZ d n false).dS=ad s.dS (10+n) false:=by
 have e:s.fZ d n false=look d {s with dS:=ad s.dS (10+n) false} (10+n):=by unfold fZ;rw[if_pos (aa2 i1 i2 i3)]
 have hA:SF.Inv {s with dS:=ad s.dS (10+n) false} d:=⟨hI.h0,hI.up,hI.cy,hI.quo,hI.wt⟩;obtain⟨a1,a2,a3,a4,a5,a6,a7,a8,a9,a10,a11⟩:=jU (d (10+n)+1) {s with dS:=ad s.dS (10+n) false} (10+n);rw[e];refine⟨wZ hA (.inr ⟨og,og,i3⟩),?_,a1,a2,a3,a4,a6,a7,a8,a9,a10,a11,a5⟩;grind [Nh,ready,ad]
theorem W5{s:SF}(h:s.yH n=0)(d:Int->Nat)(on:Bool):s.fZ d n on=look d {s with dS:=ad s.dS (10+n) on} (10+n):=by grind [fZ]
end SF
namespace SF
theorem Lm{s t:SF}(h:∀ i,0<=i->i<30->((t.cy i=true/\t.ax i=m)↔(s.cy i=true/\s.ax i=m))):t.gx m=s.gx m:=by
 grind [qC]
theorem SL{s:SF}(h:∀ i,s.cy i=true->s.ax i≠m):s.gx m=false:=by
 grind [qC]
theorem IG{s t:SF}(ha:t.dS m=s.dS m)(hf:t.HR m=s.HR m)(hq:t.fD m=s.fD m)(hu:t.dY m=s.dY m)(hk:t.gx m=s.gx m):t.ready m=s.ready m:=by
 grind [ready]
def qE(s:SF)(n:Int):Prop:=∀ m,0<m->m<30->s.aa m=true->m≠n->s.cy m=s.ready m
def qE.go{s t:SF}(h:s.qE n)(hh:t.aa=s.aa)(hp:t.ax=s.ax)(ho:∀ m,m≠n->t.dS m=s.dS m/\t.HR m=s.HR m/\t.fD m=s.fD m/\t.dY m=s.dY m/\t.cy m=s.cy m)(hr:t.cy n=t.ready n):t.qE (s.ax n):=fun m m0 m1 m2 m3=>by
 grind [Lm,qE,ready]
theorem qE.set{s:SF}(h:s.qE n)(hn:n<=0):s.mU:=fun m m0 m1 m2=>h m m0 m1 m2 og
theorem mU.x{s:SF}(h:s.mU)(n:Int):s.qE n:=fun m m0 m1 m2 _=>h m m0 m1 m2
theorem qE.same{s t:SF}(h:s.qE n)(hh:t.aa=s.aa)(hk:∀ m,m≠n->t.gx m=s.gx m)(ho:∀ m,m≠n->t.dS m=s.dS m/\t.HR m=s.HR m/\t.fD m=s.fD m/\t.dY m=s.dY m/\t.cy m=s.cy m):t.qE n:=fun m m0 m1 m2 m3=>by
 grind [IG,qE]
theorem Inv.ne{s:SF}(hI:s.Inv d)(n0:0<n)(n1:n<30)(n2:s.aa n=true):s.ax n≠n:=fun e=>by
 grind [Inv]
def Inv.next{s:SF}(hI:s.Inv d)(n0:0<n)(n1:n<30)(n2:s.aa n=true):s.ax n=0\/(0<s.ax n/\s.ax n<30/\s.aa (s.ax n)=true):=by
 grind [Inv]
def qE.uA{s:SF}{d:Int->Nat}(hI:s.Inv d){n:Int}(n0:0<n)(n1:n<30)(n2:s.aa n=true)(h:s.qE n):(s.uA n).qE (s.ax n):=by
 refine h.go rfl rfl (fun m c=>⟨rfl,rfl,rfl,rfl,ae _ _ c⟩) ?_;show ad s.cy n (s.ready n) n=SF.ready {s with cy:=ad s.cy n (s.ready n)} n;rw[aj,zd (hI.ne n0 n1 n2)]
theorem IH(s:SF)(n m:Int)(h:m≠n):(s.y9 n).dY m=s.dY m:=by
 show(if 0<s.fD n then ad s.dY n (s.dY n+1)else s.dY) m=s.dY m;grind [ae]
def qE.y9{s:SF}{d:Int->Nat}(hI:s.Inv d){n:Int}(n0:0<n)(n1:n<30)(n2:s.aa n=true)(h:s.qE n):(s.y9 n).qE (s.ax n):=by
 refine h.go rfl rfl (fun m c=>⟨rfl,rfl,rfl,IH _ _ _ c,ae _ _ c⟩) ?_;show ad s.cy n ((s.nB n).ready n) n=SF.ready {s.nB n with cy:=ad (s.nB n).cy n ((s.nB n).ready n)} n;rw[aj,zd (s:=s.nB n) (hI.ne n0 n1 n2)]
def E8{d:Int->Nat} :∀ (k:Nat) (s:SF) (n:Int),s.Inv d->(n=0\/(0<n/\n<30/\s.aa n=true))->s.qE n->d n+1<=k->(gW k s n).mU
 | 0,s,n,_,_,_,hk=>og
 | k+1,s,n,hI,hn,h,hk=>by
  rcases hn with rfl | ⟨n0,n1,n2⟩
  ·rw[mD _ _];exact h.set og
  ·rw[oM _ _ n0];obtain⟨p0,p1,p2,p3⟩:=hI.up n n0 n1 n2;exact E8 k (s.uA n) (s.ax n) (hI.uA n0 n1 n2) (hI.next n0 n1 n2) (h.uA hI n0 n1 n2) og
def II{d:Int->Nat} :∀ (k:Nat) (s:SF) (n B:Int),s.Inv d->(n=0\/(0<n/\n<30/\s.aa n=true))->s.qE n->s.Tk->s.bR B->d n+1<=k->
  (vf k s n).mU/\(vf k s n).Inv d/\(vf k s n).Tk/\(vf k s n).bR (B+1048576*k)/\(vf k s n).ij=s.ij
 | 0,s,n,B,_,_,_,_,_,hk=>og
 | k+1,s,n,B,hI,hn,h,hT,hS,hk=>by
  rcases hn with rfl | ⟨n0,n1,n2⟩
  ·rw[E7 _ _ og];exact⟨h.set og,hI,hT,hS.mono og,rfl⟩
  ·rw[Nj _ _ n0];obtain⟨p0,p1,p2,p3⟩:=hI.up n n0 n1 n2;have hT2:(s.y9 n).Tk:=fun m m0 m1=>by
    obtain⟨t1,t2,t3,t4,t5⟩:=hT m m0 m1;refine⟨?_,t2,t3,t4,?_⟩
    ·show ad s.eC (s.ax n) _ m=0;grind [ae]
    ·by_cases c:m=n
     ·subst c;show(if 0<s.fD m then _ else s.dY) m=0;simp_all
     grind [IH]
   obtain⟨a1,a2,a3,a4,a5⟩:=II k (s.y9 n) (s.ax n) (B+1048576) (hI.y9 n0 n1 n2) (hI.next n0 n1 n2) (h.y9 hI n0 n1 n2) hT2 (hS.y9 hI n0 n1 n2) og;exact⟨a1,a2,a3,a4.mono (by push_cast;omega),a5⟩
structure Ok (s:SF) (d:Int->Nat) (m:Nat) (t:Int):Prop where
 ec:s.Inv d
 aL:∀ n,0<=n->n<30->d n<=m
 set:s.mU
 tk:s.Tk
 w7:s.bR (2000000000*t)
 ij:0<=s.ij/\s.ij<=t
theorem Ok.mono{s:SF}{d:Int->Nat}{m m':Nat}{t t':Int}(h:s.Ok d m t)(hm:m<=m')(ht:t<=t'):s.Ok d m' t':=
 ⟨h.ec,fun n a b=>Nat.le_trans (h.aL n a b) hm,h.set,h.tk,h.w7.mono og,by have:=h.ij;omega⟩
def Ok.W6{s:SF}{m:Nat}(h:s.Ok d m t):∀ n,0<=n->n<10->s.aa n=true->(∀ i,s.cy i=true->s.ax i≠n)->s.cy n=false:=fun n n0 n1 n2 n3=>by
 by_cases c:n=0
 ·subst c;cases q:s.cy 0 with
  | false=>rfl
  | true=>have:=(h.ec.cy 0 q).1;omega
 ·rw[h.set n og og n2];grind [ready,SL]
def Gv{s:SF}{m:Nat}(hI:s.Inv d)(hd:∀ n,0<=n->n<30->d n<=m)(hn:0<n/\n<30/\s.aa n=true)(hX:s.qE n)(hT:s.Tk)(hS:s.bR (2000000000*t))(hw:0<=s.ij/\s.ij<=t):(look d s n).Ok d m t:=by
 obtain⟨a1,a2,a3,a4,a5,a6,a7,a8,a9,a10,a11⟩:=jU (d n+1) s n;refine⟨wZ hI (.inr hn),hd,E8 _ _ _ hI (.inr hn) hX (Nat.le_refl _),fun i i0 i1=> ?_,bR.gW _ _ _ hI hS (.inr hn),?_⟩;all_goals grind [look,SF.Tk]
theorem Ok.fZ{s:SF}{d:Int->Nat}{m:Nat}{t:Int}(h:s.Ok d m t)(n:Int)(on:Bool):(s.fZ d n on).Ok d m t:=by
 by_cases c:s.yH n=0
 ·obtain⟨i1,i2,i3⟩:=SE c;rw[W5 c];exact Gv (s:= {s with dS:=ad s.dS (10+n) on}) ⟨h.ec.h0,h.ec.up,h.ec.cy,h.ec.quo,h.ec.wt⟩ h.aL ⟨og,og,i3⟩ ((h.set.x (10+n)).same rfl (fun _ _=>rfl) fun i q=>⟨ae _ _ q,rfl,rfl,rfl,rfl⟩) h.tk h.w7 h.ij
 grind [fZ]
def Inv.aa6{s:SF}(hI:s.Inv d)(hn:s.aa z=false):s.cy z=false:=by
 grind [Inv]
def Ce{s:SF}{B:Int}(hB:0<=B)(h:s.bR B)(z p w:Int)(b:Bool):(s.pV z p w b).bR B:=fun i a c=>by
 have hi:=h i a c;show 0<=ad s.v z 0 i/\ad s.v z 0 i<=B/\0<=ad s.eC z 0 i/\ad s.eC z 0 i<=B/\0<=ad s.uz z 0 i/\ad s.uz z 0 i<=B/\0<=ad s.dY z 0 i/\ad s.dY z 0 i<=B;unfold ad;split<;>omega
def Nl{s:SF}(h:s.Tk)(z p w:Int)(b:Bool):(s.pV z p w b).Tk:=fun i a c=>by
 obtain⟨t1,t2,t3,t4,t5⟩:=h i a c;show ad s.eC z 0 i=0/\ad s.HR z false i=false/\ad s.fD z 0 i=0/\ad s.jT z 0 i=0/\ad s.dY z 0 i=0;grind [aj,ae]
def IJ{s:SF}(h:s.mU)(hw:s.cy z=false)(hk:∀ i,s.cy i=true->s.ax i≠z)(p w:Int)(b:Bool):(s.pV z p w b).mU:=fun m m0 m1 m2=>by
 show ad s.cy z false m=_;by_cases e:m=z
 ·simp_all[ready,ad,SL,pV]
 ·have m3:ad s.aa z b m=true:=m2;rw[ae _ _ e]at m3 ⊢;rw[h m m0 m1 m3];refine(IG (s:=s) (t:=s.pV z p w b) (ae _ _ e) (ae _ _ e) (ae _ _ e) (ae _ _ e) (Lm fun i _ _=> ?_)).symm;show(ad s.cy z false i=true/\ad s.ax z p i=m)↔_;grind [aj,ae]
theorem Ok.add{s:SF}{m:Nat}(h:s.Ok d m t)(ht:0<=t){p w:Int}(hz:0<z/\z<30)(hn:s.aa z=false)(hp:0<=p/\p<10/\s.aa p=true)(hw:1<=w):(s.pV z p w true).Ok (ad d z (d p+1)) (m+1) t:=by
 have hwz:=h.ec.aa6 hn;have hpz:¬p=z:=fun e=>by rw[e,hn]at hp;exact absurd hp.2.2 sq
 have fM:∀ i,0<i->i<30->s.aa i=true->¬s.ax i=z:=fun i a b c e=>by
  have:=(h.ec.up i a b c).2.2.1;simp_all
 refine⟨⟨?_,fun i a b c=> ?_,fun i hi=> ?_,fun i a b=> ?_,fun i a b c=> ?_⟩,fun i a b=> ?_,IJ h.set hwz (fun i hi=> ?_) p w true,Nl h.tk z p w true,Ce og h.w7 z p w true,h.ij⟩
 ·show ad s.aa z true 0=true;rw[ae _ _ og];exact h.ec.h0
 ·have c2:ad s.aa z true i=true:=c;show 0<=ad s.ax z p i/\ad s.ax z p i<10/\ad s.aa z true (ad s.ax z p i)=true/\ad d z (d p+1) (ad s.ax z p i)<ad d z (d p+1) i;by_cases e:i=z
  ·grind [ad]
  ·rw[ae _ _ e]at c2;have hpi:=fM i a b c2;rw[ae _ _ e,ae _ _ e,ae _ _ hpi,ae _ _ hpi];exact h.ec.up i a b c2
 ·have OX:ad s.cy z false i=true:=hi;show 0<i/\i<30/\ad s.aa z true i=true;by_cases e:i=z
  ·grind [ad]
  ·rw[ae _ _ e]at OX ⊢;exact h.ec.cy i OX
 ·show 0<=ad s.fD z 0 i/\(0<ad s.fD z 0 i->1<=ad s.jT z 0 i);have:=h.ec.quo i a b;grind [ad]
 ·have c2:ad s.aa z true i=true:=c;show 1<=ad s.wt z w i;by_cases e:i=z
  ·grind [ad]
  ·rw[ae _ _ e]at c2 ⊢;exact h.ec.wt i a b c2
 ·have h1:=h.aL i a b;grind [Ok.aL,ad]
 ·obtain⟨a,b,c⟩:=h.ec.cy i hi;simp_all
theorem Ok.drop{s:SF}{m:Nat}(h:s.Ok d m t)(ht:0<=t)(hz:0<z/\z<30)(hk:∀ i,0<i->i<30->¬(s.aa i=true/\s.ax i=z))(hw:s.cy z=false):(s.pV z 0 0 false).Ok d m t:=by
 refine⟨⟨?_,fun i a b c=> ?_,fun i hi=> ?_,fun i a b=> ?_,fun i a b c=> ?_⟩,h.aL,IJ h.set hw (fun i hi=> ?_) 0 0 false,Nl h.tk z 0 0 false,Ce og h.w7 z 0 0 false,h.ij⟩
 ·show ad s.aa z false 0=true;rw[ae _ _ og];exact h.ec.h0
 ·have c2:ad s.aa z false i=true:=c;show 0<=ad s.ax z 0 i/\ad s.ax z 0 i<10/\ad s.aa z false (ad s.ax z 0 i)=true/\d (ad s.ax z 0 i)<d i;by_cases e:i=z
  ·grind [aj]
  ·rw[ae _ _ e]at c2;have hpi:¬s.ax i=z:=fun q=>hk i og b ⟨c2,q⟩;rw[ae _ _ e,ae _ _ hpi];exact h.ec.up i a b c2
 ·have OX:ad s.cy z false i=true:=hi;show 0<i/\i<30/\ad s.aa z false i=true;by_cases e:i=z
  ·grind [aj]
  ·rw[ae _ _ e]at OX ⊢;exact h.ec.cy i OX
 ·show 0<=ad s.fD z 0 i/\(0<ad s.fD z 0 i->1<=ad s.jT z 0 i);have:=h.ec.quo i a b;grind [ad]
 ·have c2:ad s.aa z false i=true:=c;show 1<=ad s.wt z 0 i;by_cases e:i=z
  ·grind [aj]
  ·rw[ae _ _ e]at c2 ⊢;exact h.ec.wt i a b c2
 ·obtain⟨a,b,c⟩:=h.ec.cy i hi;simp_all
def Ok.SD{s:SF}{d:Int->Nat}{m:Nat}{t:Int}(h:s.Ok d m t)(ht:0<=t)(n p w:Int):∃ d',(s.SD n p w).Ok d' (m+1) t:=by
 unfold SF.SD;by_cases c:s.SB n p w=0
 ·rw[if_pos c];unfold SB at c;split at c
  ·omega
  ·split at c
   ·omega
   ·have hh:s.aa n=false:=by simpa using (by assumption:¬s.aa n=true)
    have WX:n≠0:=fun e=>by rw[e,h.ec.h0]at hh;cases hh
    exact⟨_,h.add ht ⟨og,og⟩ hh (Ng c) og⟩
 ·rw[if_neg c];exact⟨d,h.mono og og⟩
def Ok.sM{s:SF}{d:Int->Nat}{m:Nat}{t:Int}(h:s.Ok d m t)(ht:0<=t)(n p w:Int):∃ d',(s.sM n p w).Ok d' (m+1) t:=by
 unfold SF.sM;by_cases c:s.lP n p w=0
 ·rw[if_pos c];unfold lP at c;split at c
  ·omega
  ·split at c
   ·omega
   ·have hh:s.aa (10+n)=false:=by simpa using (by assumption:¬s.aa (10+n)=true)
    exact⟨_,h.add ht ⟨og,og⟩ hh (Ng c) og⟩
 ·rw[if_neg c];exact⟨d,h.mono og og⟩
def Ok.ID{s:SF}{d:Int->Nat}{m:Nat}{t:Int}(h:s.Ok d m t)(ht:0<=t)(n:Int):(s.ID n).Ok d m t:=by
 unfold SF.ID;by_cases c:s.Lj n=0
 ·rw[if_pos c];have hg:=s.SA n;unfold Lj at c;split at c
  ·omega
  ·split at c
   ·omega
   ·rename_i c1 c2;obtain⟨i1,i2,i3⟩:=Ng (show s.D2 n=0 by omega);have hk:∀ i,0<i->i<30->¬(s.aa i=true/\s.ax i=n):=fun i a b q=>c2 (.inr (W2 og b q.1 q.2));have WX:n≠0:=fun e=>c2 (.inl e);refine h.drop ht ⟨og,og⟩ hk (h.W6 n i1 i2 i3 fun i hi=> ?_);obtain⟨a,b,c⟩:=h.ec.cy i hi;exact fun q=>hk i og b ⟨c,q⟩
 ·rw[if_neg c];exact h
def Ok.vt{s:SF}{d:Int->Nat}{m:Nat}{t:Int}(h:s.Ok d m t)(ht:0<=t)(n:Int):(s.vt d n).Ok d m t:=by
 unfold SF.vt;by_cases c:s.yH n=0
 ·rw[if_pos c];obtain⟨i1,i2,i3⟩:=SE c;obtain⟨w1,w2,w3,w4,_⟩:=IE h.ec i1 i2 i3;refine(h.fZ n false).drop ht ⟨og,og⟩ (fun i a b q=> ?_) w2;have:=(w1.up i a b q.1).2.1;omega
 ·rw[if_neg c];exact h
def Ok.move{s:SF}{d:Int->Nat}{m:Nat}{t:Int}(h:s.Ok d m t)(ht:0<=t)(n g:Int):∃ d',(s.move d n g).Ok d' (m+1) t:=by
 unfold SF.move;by_cases c:s.iM n g=0
 ·rw[if_pos c];have hn:=s.aa1 n;have hg:=s.SA g;unfold iM at c;split at c
  ·omega
  ·obtain⟨i1,i2,i3⟩:=SE (show s.yH n=0 by omega);obtain⟨k1,k2,k3⟩:=Ng c;obtain⟨w1,w2,w3,w4,w5⟩:=IE h.ec i1 i2 i3;have hw:=h.fZ n false;refine⟨_,Gv (s:=mv1 d s n g) (w1.aeq (n:=10+n) (g:=g) ⟨og,og⟩ ⟨k1,k2,by rw[w3];exact k3⟩ w2 _ _) (fun i a b=> ?_) ⟨og,og,?_⟩ ((hw.set.x (10+n)).same rfl (fun i q=>Lm fun j _ _=> ?_) fun i q=>⟨?_,rfl,rfl,rfl,rfl⟩) hw.tk (fun i a b=> ?_) hw.ij⟩
   ·have h1:=h.aL i a b;have h2:=h.aL g k1 og;unfold ad;split<;>omega
   ·show(s.fZ d n false).aa (10+n)=true;rw[w3];exact i3
   ·show((s.fZ d n false).cy j=true/\ad (s.fZ d n false).ax (10+n) g j=i)↔_;by_cases e:j=10+n
    ·subst e;rw[w2];simp
    ·rw[ae _ _ e]
   ·exact ae _ _ q
   ·have:=hw.w7 i a b;show 0<=ad (s.fZ d n false).v (10+n) 0 i/\ad (s.fZ d n false).v (10+n) 0 i<=2000000000*t/\_;refine⟨?_,?_,this.2.2⟩<;>(unfold ad;split<;>omega)
 ·rw[if_neg c];exact⟨d,h.mono og og⟩
theorem Ok.mB{s:SF}{d:Int->Nat}{m:Nat}{t:Int}(h:s.Ok d m t)(ht:0<=t):∀ k:Nat,k<=9->(SF.mB d s k).Ok d m t/\(SF.mB d s k).ij=s.ij
 | 0,_=>⟨h,rfl⟩
 | k+1,hk=>by
  obtain⟨h1,h2⟩:=h.mB ht k og;show(te d (SF.mB d s k) ((k:Int)+1)).Ok d m t/\(te d (SF.mB d s k) ((k:Int)+1)).ij=s.ij;unfold te;split
  ·rename_i c;refine⟨Gv (s:= {SF.mB d s k with dY:=ad (SF.mB d s k).dY ((k:Int)+1) 0}) ⟨h1.ec.h0,h1.ec.up,h1.ec.cy,h1.ec.quo,h1.ec.wt⟩ h1.aL ⟨og,og,c.1⟩ ((h1.set.x _).same rfl (fun _ _=>rfl) fun i q=>⟨rfl,rfl,rfl,ae _ _ q,rfl⟩) (fun i i0 i1=> ?_) (bR.dY og h1.w7 _) h1.ij,(jU _ _ _).2.2.2.2.2.2.2.2.2.2.trans h2⟩;obtain⟨t1,t2,t3,t4,t5⟩:=h1.tk i i0 i1;grind [ad]
  simp_all
def Ok.qB{s:SF}{d:Int->Nat}{m:Nat}{t:Int}(h:s.Ok d m t)(ht:0<=t):(s.qB d).Ok d m (t+1):=by
 obtain⟨h1,h2⟩:=h.mB ht 9 (Nat.le_refl _);have hn:=h.ij;exact⟨⟨h1.ec.h0,h1.ec.up,h1.ec.cy,h1.ec.quo,h1.ec.wt⟩,h1.aL,h1.set,h1.tk,bR.mono (s:=SF.mB d s 9) h1.w7 og,by show 0<=s.ij+1/\s.ij+1<=t+1;omega⟩
def SM{s:SF}{d:Int->Nat}(hI:s.Inv d):∀ (k:Nat) (a:Int),(0<=a/\a<30/\s.aa a=true)->Gt d 30<k+d a->0<=KL s k a->10<=KL s k a/\KL s k a<30/\s.aa (KL s k a)=true
 | 0,a,ha,hk,_=>by have:=Bl d 30 a ha.1 og;omega
 | k+1,a,ha,hk,h0=>by
  by_cases c:10<=a
  ·grind [KL]
  ·by_cases hb:s.fJ a<0
   ·grind [KL]
   ·rw[Lk _ _ c hb]at h0 ⊢;obtain⟨⟨b1,b2,b3⟩,b4,b5⟩:=w6 (fun i hi=>⟨(hI.cy i hi).1,(hI.cy i hi).2.1⟩) hb;have hbI:=hI.cy _ b1;have hd:=(hI.up _ b4 b5 hbI.2.2).2.2.2;rw[b2]at hd;exact SM hI k _ ⟨og,b5,hbI.2.2⟩ og h0
def aa7{s:SF}(hI:(s.qB d).Inv d)(h:¬bG d s<0):10<=bG d s/\bG d s<30/\(s.qB d).aa (bG d s)=true:=by
 unfold bG at h ⊢;exact SM hI _ 0 ⟨og,og,hI.h0⟩ og og
def Ok.pU{s:SF}{d:Int->Nat}{m:Nat}{t:Int}(h:s.Ok d m t)(ht:0<=t)(hm:m<=900):(s.pU d).2.Ok d m (t+1):=by
 have h0:=h.qB ht;unfold SF.pU;split
 ·exact h0
 ·rename_i c;obtain⟨w1,w2,w3⟩:=aa7 h0.ec c;obtain⟨h1,h2⟩:=h.mB ht 9 (Nat.le_refl _);have hs:(s.qB d).bR (2000000000*t):=bR.mono (s:=SF.mB d s 9) h1.w7 og;obtain⟨a1,a2,a3,a4,a5⟩:=II (d (bG d s)+1) (s.qB d) (bG d s) (2000000000*t) h0.ec (.inr ⟨og,w2,w3⟩) (h0.set.x _) h0.tk hs (Nat.le_refl _);have hd:=h0.aL (bG d s) og w2;exact⟨a2,h0.aL,a1,a3,a4.mono (by push_cast;omega),by rw[a5];exact h0.ij⟩
def Nn:SF.cK.Ok (fun _=>0) 0 0:=by
 have hh:∀ n:Int,SF.cK.aa n=true->n=0:=fun n h=>by
  have h2:ad (fun _:Int=>false) 0 true n=true:=h;grind [ae]
 have hw:∀ n:Int,SF.cK.cy n=false:=fun n=>by
  show ad (fun _:Int=>false) 0 false n=false;grind [ad]
 have hz:∀ n:Int,ad (fun _:Int=>(0:Int)) 0 0 n=0:=fun n=>by unfold ad;split<;>rfl
 refine⟨⟨aj (fun _:Int=>false) 0 true,fun n a b c=>(by have:=hh n c;omega),fun n h=>(by rw[hw n]at h;cases h),fun n a b=> ?_,fun n a b c=> ?_⟩,fun n a b=>Nat.le_refl _,fun n a b c=>(by have:=hh n c;omega),fun n a b=> ?_,fun n a b=> ?_,by show 0<=(0:Int)/\(0:Int)<=0;omega⟩
 ·show 0<=ad (fun _:Int=>(0:Int)) 0 0 n/\(0<ad (fun _:Int=>(0:Int)) 0 0 n->_);simp_all
 ·have:=hh n c;subst this;show 1<=ad (fun _:Int=>(0:Int)) 0 1 0;grind [aj]
 ·refine⟨hz n,?_,hz n,hz n,hz n⟩;show ad (fun _:Int=>false) 0 false n=false;grind [ad]
 ·show 0<=ad (fun _:Int=>(0:Int)) 0 0 n/\ad (fun _:Int=>(0:Int)) 0 0 n<=_/\0<=ad (fun _:Int=>(0:Int)) 0 0 n/\ad (fun _:Int=>(0:Int)) 0 0 n<=_/\0<=ad (fun _:Int=>(0:Int)) 0 0 n/\ad (fun _:Int=>(0:Int)) 0 0 n<=_/\0<=ad (fun _:Int=>(0:Int)) 0 0 n/\ad (fun _:Int=>(0:Int)) 0 0 n<=_;simp_all
end SF
namespace SF
def IK(d:Int->Nat)(s:SF)(n:Int):(te d s n).aa=s.aa:=by
 unfold te;split
 ·exact ze _ _ _
 ·rfl
def zf(d:Int->Nat)(s:SF):∀ k,(mB d s k).aa=s.aa
 | 0=>rfl
 | k+1=>(IK _ _ _).trans (zf d s k)
def E9:∀ (k:Nat) (s:SF) (n:Int),(vf k s n).aa=s.aa
 | 0,_,_=>rfl
 | k+1,s,n=>by
  unfold vf;split
  ·rfl
  ·exact E9 k (s.y9 n) (s.ax n)
theorem Pf(d:Int->Nat)(s:SF):(s.pU d).2.aa=s.aa:=by
 unfold pU;split
 ·exact zf d s 9
 ·exact(E9 _ _ _).trans (zf d s 9)
theorem uC(d:Int->Nat)(s:SF)(n:Int)(on:Bool):(s.fZ d n on).aa=s.aa:=by
 unfold fZ;split
 ·exact ze _ _ _
 ·rfl
def Fb{s:SF}{p w:Int}(h:(s.sM n p w).aa (10+m)=true):m=n\/s.aa (10+m)=true:=by
 unfold sM at h;split at h
 ·by_cases e:m=n
  ·exact .inl e
  ·right;have h:ad s.aa (10+n) true (10+m)=true:=h;rwa[ae _ _ og]at h
 ·exact .inr h
def Ln{s:SF}(m0:0<=m)(m1:m<20)(h:(s.vt d n).aa (10+m)=true):m≠n/\s.aa (10+m)=true:=by
 unfold vt at h;split at h
 ·have h:ad (s.fZ d n false).aa (10+n) false (10+m)=true:=h;by_cases e:m=n
  ·subst e;rw[aj]at h;cases h
  ·rw[ae _ _ og,uC]at h;exact⟨e,h⟩
 ·rename_i c;refine⟨?_,h⟩;rintro rfl;exact c (by unfold yH;rw[if_neg og,if_pos h])
end SF
end Go.X.Fa
