import Derived.Test.YthdinakloheinaaGreatDoorCards
import Derived.Test.YthdinakloheinaaGreatDoorTie
import Derived.Deep.DeepHandedRow
import Derived.Lib.LaidTab
import Derived.Test.YthdinakloheinaaGreatDoorXFam
set_option linter.all false
namespace Go.Proofs.YthdinakloheinaaGreatDoor
open Go Go.Proofs
def jg0(P:Program)(f:FuncId)(fn:Func)(s:ChangeSpec)(c:OpenClaim):Bool:=c.wf (OpenSpec.ofChange s)
def jg1(P:Program)(f:FuncId)(fn:Func)(s:ChangeSpec)(c:OpenClaim):Bool:=laidOutB P
def jg2(P:Program)(f:FuncId)(fn:Func)(s:ChangeSpec)(c:OpenClaim):Bool:=mapsRowed P
def jg3(P:Program)(f:FuncId)(fn:Func)(s:ChangeSpec)(c:OpenClaim):Bool:=fn.params.all (P.readableRec ·)&&namedTie P c.named s.vars
def jg4(P:Program)(f:FuncId)(fn:Func)(s:ChangeSpec)(c:OpenClaim):Bool:=(c.stops==[])&&(P.stops==[])&&(c.knobs==[])&&(P.stopKnobs==[])
def jg5(P:Program)(f:FuncId)(fn:Func)(s:ChangeSpec)(c:OpenClaim):Bool:=(c.inPlace==P.inPlace f)
def jg6(P:Program)(f:FuncId)(fn:Func)(s:ChangeSpec)(c:OpenClaim):Bool:=(c.unfollowed==P.unfollowed f)
def jg7(P:Program)(f:FuncId)(fn:Func)(s:ChangeSpec)(c:OpenClaim):Bool:=(c.recurses==P.recurses f)
def jg8(P:Program)(f:FuncId)(fn:Func)(s:ChangeSpec)(c:OpenClaim):Bool:=(c.named==P.varsNamed f)
def jg9(P:Program)(f:FuncId)(fn:Func)(s:ChangeSpec)(c:OpenClaim):Bool:=(c.maps==(fn.params.toList++s.plain.varTypes P).any (P.mapsRec ·))&&(c.ifaces==(fn.params.toList++s.plain.varTypes P).any (P.ifacesRec ·))&&(c.mapsOut==P.mapsAmong fn.resultTypes.toList)&&(c.loops==(fn.params.toList++s.plain.varTypes P).any (P.loopsFrom ·))&&(c.wideKeys==(fn.params.toList++s.plain.varTypes P++fn.resultTypes.toList).any (P.wideKeysFrom ·))
def aaI(P:Program)(f:FuncId)(fn:Func)(s:ChangeSpec)(c:OpenClaim):Bool:=s.vars.all (P.varReadable ·)
def aaJ(P:Program)(f:FuncId)(fn:Func)(s:ChangeSpec)(c:OpenClaim):Bool:=fn.resultTypes.all (fun t=>P.readableRec t&&decide (t<P.types.size))&&(c.ifacesOut==fn.resultTypes.toList.any (P.ifacesRec ·))&&(c.loopsOut==fn.resultTypes.toList.any (P.loopsFrom ·))
def aaK(P:Program)(f:FuncId)(fn:Func)(s:ChangeSpec)(c:OpenClaim):Bool:=(c.plainKeys==P.plainKeys)
def aaL(P:Program)(f:FuncId)(fn:Func)(s:ChangeSpec)(c:OpenClaim):Bool:=c.shortTexts.isNone&&P.stopsHeard
def aaM(P:Program)(f:FuncId)(fn:Func)(s:ChangeSpec)(c:OpenClaim):Bool:=P.mayEnter
def aaN(P:Program)(f:FuncId)(fn:Func)(s:ChangeSpec)(c:OpenClaim):Bool:=(c.lifted==P.liftsFinal)
def aaO(P:Program)(f:FuncId)(fn:Func)(s:ChangeSpec)(c:OpenClaim):Bool:=(P.make==some c.make)
def aaP(P:Program)(f:FuncId)(fn:Func)(s:ChangeSpec)(c:OpenClaim):Bool:=(c.kinds==(if c.domain.isEmpty then []else fn.params.toList.map fun t=>match P.underlying t with | some (.int k)=>some k | _=>none))&&(c.pinned==c.pinnedBy)
def aaQ(P:Program)(f:FuncId)(fn:Func)(s:ChangeSpec)(c:OpenClaim):Bool:=(c.veiled==(fn.params.toList++s.plain.varTypes P++fn.resultTypes.toList).any (P.veiledRec ·))&&c.veiledFits P fn.params.toList (fn.params.toList++s.plain.varTypes P++fn.resultTypes.toList)
def Sr{P:Program}{f:FuncId}{fn:Func}{s:ChangeSpec}{c:OpenClaim}(k0:jg0 P f fn s c=true)(k1:jg1 P f fn s c=true)(k2:jg2 P f fn s c=true)(k3:jg3 P f fn s c=true)(k4:jg4 P f fn s c=true)(k5:jg5 P f fn s c=true)(k6:jg6 P f fn s c=true)(k7:jg7 P f fn s c=true)(k8:jg8 P f fn s c=true)(k9:jg9 P f fn s c=true)(k10:aaI P f fn s c=true)(k11:aaJ P f fn s c=true)(k12:aaK P f fn s c=true)(k13:aaL P f fn s c=true)(k14:aaM P f fn s c=true)(k15:aaN P f fn s c=true)(k16:aaO P f fn s c=true)(k17:aaP P f fn s c=true)(k18:aaQ P f fn s c=true):joinedFacts P f fn s c=true:=by
 simp only[jg0,jg1,jg2,jg3,jg4,jg5,jg6,jg7,jg8,jg9,aaI,aaJ,aaK,aaL,aaM,aaN,aaO,aaP,aaQ,Bool.and_eq_true]at k0 k1 k2 k3 k4 k5 k6 k7 k8 k9 k10 k11 k12 k13 k14 k15 k16 k17 k18;simp only[joinedFacts,Bool.and_eq_true];exact⟨⟨⟨⟨⟨⟨⟨⟨⟨⟨⟨⟨⟨⟨⟨⟨⟨⟨⟨⟨⟨⟨⟨⟨⟨⟨⟨⟨⟨⟨⟨k0,k1⟩,k2⟩,k3.1⟩,k3.2⟩,k4.1.1.1⟩,k4.1.1.2⟩,k4.1.2⟩,k4.2⟩,k5⟩,k6⟩,k7⟩,k8⟩,k9.1.1.1.1⟩,k9.1.1.1.2⟩,k9.1.1.2⟩,k9.1.2⟩,k9.2⟩,k10⟩,k11.1.1⟩,k11.1.2⟩,k11.2⟩,k12⟩,k13.1⟩,k13.2⟩,k14⟩,k15⟩,k16⟩,k17.1⟩,k17.2⟩,k18.1⟩,k18.2⟩
abbrev E0:ChangeSpec:=(OpenSpec.ofChange Rows.topHeadSpec).bare
def jf0:jg0 Tryz.prog 7 Tryz.f7 E0 Rows.topHeadRow=true:=by kernel_rfl
def jf1:jg1 Tryz.prog 7 Tryz.f7 E0 Rows.topHeadRow=true:=by kernel_rfl
def jf2:jg2 Tryz.prog 7 Tryz.f7 E0 Rows.topHeadRow=true:=by kernel_rfl
def jf3:jg3 Tryz.prog 7 Tryz.f7 E0 Rows.topHeadRow=true:=by kernel_rfl
def jf4:jg4 Tryz.prog 7 Tryz.f7 E0 Rows.topHeadRow=true:=by kernel_rfl
def jf5:jg5 Tryz.prog 7 Tryz.f7 E0 Rows.topHeadRow=true:=by kernel_rfl
def jf6:jg6 Tryz.prog 7 Tryz.f7 E0 Rows.topHeadRow=true:=by kernel_rfl
def jf7:jg7 Tryz.prog 7 Tryz.f7 E0 Rows.topHeadRow=true:=by kernel_rfl
def jf8:jg8 Tryz.prog 7 Tryz.f7 E0 Rows.topHeadRow=true:=by kernel_rfl
def jf9:jg9 Tryz.prog 7 Tryz.f7 E0 Rows.topHeadRow=true:=by kernel_rfl
def ag7:aaI Tryz.prog 7 Tryz.f7 E0 Rows.topHeadRow=true:=by kernel_rfl
def ag8:aaJ Tryz.prog 7 Tryz.f7 E0 Rows.topHeadRow=true:=by kernel_rfl
def ag9:aaK Tryz.prog 7 Tryz.f7 E0 Rows.topHeadRow=true:=by kernel_rfl
def aha:aaL Tryz.prog 7 Tryz.f7 E0 Rows.topHeadRow=true:=by kernel_rfl
def ahb:aaM Tryz.prog 7 Tryz.f7 E0 Rows.topHeadRow=true:=by kernel_rfl
def ahc:aaN Tryz.prog 7 Tryz.f7 E0 Rows.topHeadRow=true:=by kernel_rfl
def ahd:aaO Tryz.prog 7 Tryz.f7 E0 Rows.topHeadRow=true:=by kernel_rfl
def ahe:aaP Tryz.prog 7 Tryz.f7 E0 Rows.topHeadRow=true:=by kernel_rfl
def ahf:aaQ Tryz.prog 7 Tryz.f7 E0 Rows.topHeadRow=true:=by kernel_rfl
def aaR:joinedFacts Tryz.prog 7 Tryz.f7 E0 Rows.topHeadRow=true:=
 Sr jf0 jf1 jf2 jf3 jf4 jf5 jf6 jf7 jf8 jf9 ag7 ag8 ag9 aha ahb ahc ahd ahe ahf
end Go.Proofs.YthdinakloheinaaGreatDoor

namespace Go.X.Fa
open Go Go.X
variable{i id j k m:Int}
def An(k i k' i':Int):Prop:=k<k'\/(k=k'/\i<i')
instance (k i k' i':Int):Decidable (An k i k' i'):=by unfold An;infer_instance
structure QS where
 n:Nat
 K:Int->Int
 I:Int->Int
 at_:Int->Int
def QS.set(s:QS)(i k id:Int):QS:= {s with K:=ad s.K i k,I:=ad s.I i id,at_:=ad s.at_ id (i+1)}
def QS.D1:Nat->QS->Int->Int->Int->QS
 | 0,s,i,k,id=>s.set i k id
 | f+1,s,i,k,id=>if 0<i/\An k id (s.K ((i-1)/2)) (s.I ((i-1)/2))then QS.D1 f (s.set i (s.K ((i-1)/2)) (s.I ((i-1)/2))) ((i-1)/2) k id else s.set i k id
def QS.up(s:QS)(i:Int):QS:=QS.D1 i.toNat s i (s.K i) (s.I i)
def QS.aW(s:QS)(i:Int):Int:=if 2*i+1+1<s.n/\An (s.K (2*i+1+1)) (s.I (2*i+1+1)) (s.K (2*i+1)) (s.I (2*i+1))then 2*i+1+1 else 2*i+1
def QS.kz:Nat->QS->Int->Int->Int->QS
 | 0,s,i,k,id=>s.set i k id
 | f+1,s,i,k,id=>if s.aW i<s.n/\An (s.K (s.aW i)) (s.I (s.aW i)) k id then QS.kz f (s.set i (s.K (s.aW i)) (s.I (s.aW i))) (s.aW i) k id else s.set i k id
def QS.down(s:QS)(i:Int):QS:=QS.kz (s.n-i.toNat) s i (s.K i) (s.I i)
def QS.kh(s:QS)(k id:Int):QS:= {s with n:=s.n+1,K:=ad s.K s.n k,I:=ad s.I s.n id}
def QS.put(s:QS)(id k:Int):Int×QS:=if id<0\/63<id then(1,s)else if 0<s.at_ id then(3,s)else(0,(s.kh k id).up s.n)
def QS.fe(s:QS)(id:Int):QS:= {s with n:=s.n-1,at_:=ad s.at_ id 0}
def QS.aaS(s:QS)(i k id:Int):QS:=((s.set i k id).down i).up (((s.set i k id).down i).at_ id-1)
def QS.vo(s:QS)(id:Int):QS:=if s.at_ id-1<(s.n:Int)-1 then(s.fe id).aaS (s.at_ id-1) (s.K ((s.n:Int)-1)) (s.I ((s.n:Int)-1))else s.fe id
def QS.cut(s:QS)(id:Int):Int×Int×QS:=if id<0\/63<id then(0,1,s)else if s.at_ id=0 then(0,2,s)else(s.K (s.at_ id-1),0,s.vo id)
def QS.im(s:QS)(id:Int):Int×Int:=if id<0\/63<id then(0,1)else if s.at_ id=0 then(0,2)else(s.K (s.at_ id-1),0)
def QS.dc:QS:=⟨0,fun _=>0,fun _=>0,fun _=>0⟩
structure QS.Ok (s:QS):Prop where
 n64:s.n<=64
 jA:∀ j:Int,0<=j->j<s.n->0<=s.I j/\s.I j<64
 Iy:∀ j:Int,0<=j->j<s.n->s.at_ (s.I j)=j+1
 Lf:∀ id,0<=id->id<64->s.at_ id=0\/(1<=s.at_ id/\s.at_ id<=s.n/\s.I (s.at_ id-1)=id)
def QS.L(s:QS)(a b:Int):Prop:=An (s.K a) (s.I a) (s.K b) (s.I b)
instance (s:QS) (a b:Int):Decidable (s.L a b):=by unfold QS.L;infer_instance
def QS.ve(s:QS):Prop:=∀ j:Int,0<j->j<s.n->¬s.L j ((j-1)/2)
theorem qv{s:QS}{a b:Int}(h:s.L a b):¬s.L b a:=by unfold QS.L An at*;omega
theorem ru{s:QS}{a b c:Int}(h:¬s.L a b)(h2:¬s.L b c):¬s.L a c:=by grind [QS.L,An]
def QS.Zz(s:QS)(a:Int):¬s.L a a:=by unfold QS.L An;omega
def sw(i j m:Int):Int:=if m=i then j else if m=j then i else m
theorem Gq(i j:Int):sw i j i=j:=by simp[sw]
theorem O6(i j:Int):sw i j j=i:=by
 unfold sw;split
 ·rename_i h;exact h
 ·simp
theorem Ef(h1:¬m=i)(h2:¬m=j):sw i j m=m:=by simp[sw,h1,h2]
def QS.swap(s:QS)(i j:Int):QS:=(s.set i (s.K j) (s.I j)).set j (s.K i) (s.I i)
theorem E1(s:QS)(i j m:Int):(s.swap i j).K m=s.K (sw i j m):=by
 show ad (ad s.K i (s.K j)) j (s.K i) m=_;grind [ad,sw]
theorem qw(s:QS)(i j m:Int):(s.swap i j).I m=s.I (sw i j m):=by
 show ad (ad s.I i (s.I j)) j (s.I i) m=_;grind [ad,sw]
theorem uw(s:QS)(i j a b:Int):(s.swap i j).L a b↔s.L (sw i j a) (sw i j b):=by
 grind [QS.L,E1,qw]
theorem B5(s:QS)(i j id:Int):(s.swap i j).at_ id=if id=s.I i then j+1 else if id=s.I j then i+1 else s.at_ id:=rfl
def QS.Lg(s:QS)(id:Int):Int:=s.K (s.at_ id-1)
structure QS.vR (s t:QS):Prop where
 n:t.n=s.n
 at_:∀ id,0<=id->id<64->(t.at_ id=0↔s.at_ id=0)
 k:∀ id,0<=id->id<64->¬s.at_ id=0->t.Lg id=s.Lg id
theorem QS.vR.refl(s:QS):s.vR s:=⟨rfl,fun _ _ _=>Iff.rfl,fun _ _ _ _=>rfl⟩
def QS.vR.trans{s t u:QS}(h:s.vR t)(h2:t.vR u):s.vR u:=
 ⟨h2.n.trans h.n,fun id a b=>(h2.at_ id a b).trans (h.at_ id a b),fun id a b c=>(h2.k id a b fun q=>c ((h.at_ id a b).1 q)).trans (h.k id a b c)⟩
theorem QS.Ok.inj{s:QS}(h:s.Ok)(hi:0<=i/\i<s.n)(hj:0<=j/\j<s.n)(he:s.I i=s.I j):i=j:=by
 grind [QS.Ok.Iy]
def aaU{n:Nat}(hi:0<=i/\i<n)(hj:0<=j/\j<n)(hm:0<=m/\m<n):0<=sw i j m/\sw i j m<n:=by
 grind [sw]
def QS.Ok.swap{s:QS}(h:s.Ok){i j:Int}(hi:0<=i/\i<s.n)(hj:0<=j/\j<s.n)(fM:¬i=j):(s.swap i j).Ok/\s.vR (s.swap i j):=by
 have hII:¬s.I i=s.I j:=fun e=>fM (h.inj hi hj e);have hn:(s.swap i j).n=s.n:=rfl;refine⟨⟨h.n64,fun m m0 m1=> ?_,fun m m0 m1=> ?_,fun id d0 d1=> ?_⟩,⟨rfl,fun id d0 d1=> ?_,fun id d0 d1 hp=> ?_⟩⟩
 ·rw[qw];have:=aaU hi hj ⟨m0,m1⟩;exact h.jA _ this.1 this.2
 ·grind [qw,B5,Gq,O6,Ef,QS.Ok.Iy]
 all_goals grind [B5,qw,O6,Gq,QS.Ok.Lf,Ef,QS.Ok.Iy,QS.Lg,E1]
def QS.Rc:Nat->QS->Int->QS
 | 0,s,_=>s
 | f+1,s,i=>if 0<i/\s.L i ((i-1)/2)then QS.Rc f (s.swap i ((i-1)/2)) ((i-1)/2)else s
theorem gT{s:QS}(h:¬m=i):(s.set i k id).K m=s.K m/\(s.set i k id).I m=s.I m:=⟨ae _ _ h,ae _ _ h⟩
theorem QS.s5(s:QS)(i k id:Int):(s.set i k id).K i=k/\(s.set i k id).I i=id:=⟨aj _ _ _,aj _ _ _⟩
theorem B6{s:QS}{p:Int}(hp:¬p=i):(s.set i (s.K p) (s.I p)).set p k id=(s.set i k id).swap i p:=by
 unfold QS.swap;rw[(gT hp).1,(gT hp).2,(s.s5 i k id).1,(s.s5 i k id).2];unfold QS.set;simp only[QS.mk.injEq,true_and];grind [ad]
theorem vS:∀ (f:Nat) (s:QS) (i k id:Int),QS.D1 f s i k id=QS.Rc f (s.set i k id) i
 | 0,_,_,_,_=>rfl
 | f+1,s,i,k,id=>by
  have e:(0<i/\An k id (s.K ((i-1)/2)) (s.I ((i-1)/2)))↔(0<i/\(s.set i k id).L i ((i-1)/2)):=by
   grind [QS.L,QS.s5,gT]
  rw[QS.D1,QS.Rc];by_cases c:0<i/\An k id (s.K ((i-1)/2)) (s.I ((i-1)/2))
  ·rw[if_pos c,if_pos (e.1 c),vS f,B6 og]
  grind
theorem Ao{s:QS}(h:s.at_ (s.I i)=i+1):s.set i (s.K i) (s.I i)=s:=by
 simp_all[QS.set,cB]
def QS.ZA(s:QS)(i:Int):Prop:=(∀ j:Int,0<j->j<s.n->¬j=i->¬s.L j ((j-1)/2))/\(0<i->∀ j:Int,0<j->j<s.n->(j-1)/2=i->¬s.L j ((i-1)/2))
theorem QS.Ok.Rc:∀ (f:Nat) {s:QS} {i:Int},s.Ok->s.ZA i->0<=i->i<s.n->i<=f->(QS.Rc f s i).Ok/\s.vR (QS.Rc f s i)/\(QS.Rc f s i).ve:=by
 have stop:∀ {s:QS} {i:Int},s.ZA i->¬(0<i/\s.L i ((i-1)/2))->s.ve:=fun {s i} he hn j j0 j1=>by
  grind [QS.ZA]
 intro f;induction f with
 | zero=>exact fun h he h0 h1 hf=>⟨h,QS.vR.refl _,stop he og⟩
 | succ f ih=>
  intro s i h he h0 h1 hf;rw[QS.Rc];by_cases c:0<i/\s.L i ((i-1)/2)
  ·rw[if_pos c];have O7:0<=(i-1)/2/\(i-1)/2<s.n:=og;have fM:¬i=(i-1)/2:=og;obtain⟨o1,o2⟩:=h.swap ⟨h0,h1⟩ O7 fM;have Rq:(s.swap i ((i-1)/2)).ZA ((i-1)/2):=by
    refine⟨fun j j0 j1 jn=> ?_,fun p0 j j0 j1 jp=> ?_⟩
    ·rw[uw];by_cases c1:j=i
     ·grind [Gq,O6,qv]
     ·rw[Ef c1 jn];by_cases c2:(j-1)/2=i
      ·rw[c2,Gq];exact he.2 c.1 j j0 j1 c2
      ·by_cases c3:(j-1)/2=(i-1)/2
       ·rw[c3,O6];have:=he.1 j j0 j1 c1;grind [ru,qv]
       ·rw[Ef c2 c3];exact he.1 j j0 j1 c1
    ·rw[uw];have hpp:=he.1 ((i-1)/2) p0 O7.2 fun e=>fM e.symm;have q1:¬((i-1)/2-1)/2=i:=og;have q2:¬((i-1)/2-1)/2=(i-1)/2:=og;rw[Ef q1 q2];by_cases c1:j=i
     ·grind [Gq]
     ·have jn:¬j=(i-1)/2:=og;rw[Ef c1 jn];have:=he.1 j j0 j1 c1;grind [ru]
   obtain⟨i1,i2,i3⟩:=ih o1 Rq O7.1 O7.2 og;exact⟨i1,o2.trans i2,i3⟩
  ·rw[if_neg c];exact⟨h,QS.vR.refl _,stop he c⟩
theorem QS.Ok.aaV{s:QS}(h:s.Ok)(h0:0<=i)(h1:i<s.n):s.up i=QS.Rc i.toNat s i:=by
 grind [QS.up,vS,Ao,QS.Ok.Iy]
def QS.sx:Nat->QS->Int->QS
 | 0,s,_=>s
 | f+1,s,i=>if s.aW i<s.n/\s.L (s.aW i) i then QS.sx f (s.swap i (s.aW i)) (s.aW i)else s
theorem QS.gU(s:QS)(i:Int):(s.aW i=2*i+2/\2*i+2<s.n/\s.L (2*i+2) (2*i+1))\/(s.aW i=2*i+1/\(2*i+2<s.n->¬s.L (2*i+2) (2*i+1))):=by
 grind [QS.aW,QS.L]
theorem wV{s:QS}(h:0<=i):(s.set i k id).aW i=s.aW i:=by
 have h1:¬ 2*i+1+1=i:=og;have h2:¬ 2*i+1=i:=og;unfold QS.aW;rw[(gT h1).1,(gT h1).2,(gT h2).1,(gT h2).2];rfl
theorem s8:∀ (f:Nat) (s:QS) (i k id:Int),0<=i->QS.kz f s i k id=QS.sx f (s.set i k id) i
 | 0,_,_,_,_,_=>rfl
 | f+1,s,i,k,id,h=>by
  have hc:0<=s.aW i/\¬s.aW i=i:=by
   grind [QS.gU]
  have e:(s.aW i<s.n/\An (s.K (s.aW i)) (s.I (s.aW i)) k id)↔((s.set i k id).aW i<(s.set i k id).n/\(s.set i k id).L ((s.set i k id).aW i) i):=by
   rw[wV h];unfold QS.L;rw[(s.s5 i k id).1,(s.s5 i k id).2,(gT hc.2).1,(gT hc.2).2];rfl
  rw[QS.kz,QS.sx];by_cases c:s.aW i<s.n/\An (s.K (s.aW i)) (s.I (s.aW i)) k id
  ·simp_all[s8,B6,wV]
  grind
def QS.Mid(s:QS)(i:Int)(b:Prop):Prop:=(∀ j:Int,0<j->j<s.n->¬(j-1)/2=i->(¬j=i\/b)->¬s.L j ((j-1)/2))/\(0<i->∀ j:Int,0<j->j<s.n->(j-1)/2=i->¬s.L j ((i-1)/2))
theorem QS.Ok.sx:∀ (f:Nat) {s:QS} {i:Int} {b:Prop},s.Ok->s.Mid i b->0<=i->i<s.n->(s.n:Int)<=i+f->(QS.sx f s i).Ok/\s.vR (QS.sx f s i)/\∃ q:Int,(0<=q/\q<s.n)/\(QS.sx f s i).I q=s.I i/\(QS.sx f s i).ZA q:=by
 have stop:∀ {s:QS} {i:Int} {b:Prop},s.Mid i b->0<=i->¬(s.aW i<s.n/\s.L (s.aW i) i)->s.ZA i:=fun {s i b} hm h0 hn=>by
  refine⟨fun j j0 j1 jn=> ?_,hm.2⟩;by_cases c:(j-1)/2=i
  ·rw[c];intro hl;rcases s.gU i with⟨q1,q2,q3⟩ | ⟨q1,q2⟩
   ·rw[q1]at hn;have h2:¬s.L (2*i+2) i:=fun e=>hn ⟨q2,e⟩;grind [ru,qv]
   grind [ru]
  grind [QS.Mid]
 intro f;induction f with
 | zero=>exact fun h hm h0 h1 hf=>og
 | succ f ih=>
  intro s i b h hm h0 h1 hf;rw[QS.sx];by_cases c:s.aW i<s.n/\s.L (s.aW i) i
  ·rw[if_pos c];have hcc:=s.gU i;have hcn:i<s.aW i/\(s.aW i-1)/2=i:=by
    omega
   have fM:¬i=s.aW i:=og;obtain⟨o1,o2⟩:=h.swap ⟨h0,h1⟩ ⟨og,c.1⟩ fM;have hm':(s.swap i (s.aW i)).Mid (s.aW i) True:=by
    refine⟨fun j j0 j1 jp _=> ?_,fun p0 j j0 j1 jp=> ?_⟩
    ·rw[uw];by_cases c1:j=s.aW i
     ·grind [O6,Gq,qv]
     ·by_cases c2:j=i
      ·grind [Gq,Ef,QS.Mid]
      ·rw[Ef c2 c1];by_cases c3:(j-1)/2=i
       ·rw[c3,Gq];rcases hcc with⟨q1,q2,q3⟩ | ⟨q1,q2⟩
        ·grind [qv]
        ·rw[q1]at c1 ⊢;have hj:j=2*i+2:=og;rw[hj];exact q2 (by rw[<-hj];exact j1)
       ·rw[Ef c3 jp];exact hm.1 j j0 j1 c3 (.inl c2)
    ·rw[uw,hcn.2,Gq];have c2:¬j=i:=og;have c1:¬j=s.aW i:=og;rw[Ef c2 c1];have:=hm.1 j j0 j1 og (.inl c2);simp_all
   obtain⟨i1,i2,q,q1,q2,q3⟩:=ih o1 hm' og c.1 (by show(s.n:Int)<=_;omega);refine⟨i1,o2.trans i2,q,q1,?_,q3⟩;rw[q2,qw,O6]
  ·grind [QS.vR.refl]
theorem QS.Ok.Iz{s:QS}(h:s.Ok)(h0:0<=i)(h1:i<s.n):s.down i=QS.sx (s.n-i.toNat) s i:=by
 grind [QS.down,s8,Ao,QS.Ok.Iy]
def B7:∀ (n m:Nat) (f:Nat->Nat),n<m->(∀ i,i<m->f i<n)->∃ i j,i<j/\j<m/\f i=f j
 | 0,m,f,h,hf=>absurd (hf 0 h) og
 | n+1,m,f,h,hf=>by
  by_cases he:∃ i,i<m-1/\f i=f (m-1)
  ·obtain⟨i,h1,h2⟩:=he;exact⟨i,m-1,h1,og,h2⟩
  ·have fM:∀ i,i<m-1->¬f i=f (m-1):=fun i hi e=>he ⟨i,hi,e⟩;have hv:=hf (m-1) og;obtain⟨i,j,h1,h2,h3⟩:=B7 n (m-1) (fun i=>if f i=n then f (m-1)else f i) og (fun i hi=>by
    have a1:=hf i og
    have a2:=fM i hi
    show(if f i=n then f (m-1)else f i)<n
    split<;>omega)
   refine⟨i,j,h1,og,?_⟩;have a1:=fM i og;have a2:=fM j og;split at h3<;>split at h3<;>omega
theorem QS.Ok.room{s:QS}(h:s.Ok)(hd:0<=id/\id<64)(hz:s.at_ id=0):s.n<64:=by
 apply Classical.byContradiction;intro hc;have hn:s.n=64:=by have:=h.n64;omega
 obtain⟨i,j,h1,h2,h3⟩:=B7 64 65 (fun i=>if i<64 then(s.I i).toNat else id.toNat) og (fun i hi=>by
  show(if i<64 then(s.I i).toNat else id.toNat)<64
  by_cases c:i<64
  ·rw[if_pos c];have:=h.jA i og og;omega
  ·rw[if_neg c];omega)
 have r1:=h.jA i og og;rw[if_pos og]at h3;by_cases c:j<64
 ·rw[if_pos c]at h3;have r2:=h.jA j og og;have:=h.inj (i:=i) (j:=j) ⟨og,og⟩ ⟨og,og⟩ og;omega
 ·rw[if_neg c]at h3;have:=h.Iy i og og;rw[show s.I i=id from og,hz]at this;omega
theorem QS.Ok.dc:QS.dc.Ok:=⟨dq,fun j j0 j1=>by simp[QS.dc]at j1;omega,fun j j0 j1=>by simp[QS.dc]at j1;omega,fun _ _ _=>.inl rfl⟩
def Gs:QS.dc.ve:=fun j j0 j1=>by simp[QS.dc]at j1;omega
def QS.Ok.aaX{s:QS}(h:s.Ok)(hh:s.ve)(hd:0<=id/\id<64)(hz:s.at_ id=0)(k:Int):((s.kh k id).up s.n).Ok/\((s.kh k id).up s.n).ve/\((s.kh k id).up s.n).n=s.n+1/\(∀ x,0<=x->x<64->(((s.kh k id).up s.n).at_ x=0↔(¬x=id/\s.at_ x=0))/\(¬x=id->¬s.at_ x=0->((s.kh k id).up s.n).Lg x=s.Lg x))/\((s.kh k id).up s.n).Lg id=k:=by
 have lJ:=h.room hd hz;have e1:(s.kh k id).up s.n=QS.Rc s.n ((s.kh k id).set s.n k id) s.n:=by
  simp_all[QS.up,vS,QS.kh,aj]
 have tn:((s.kh k id).set s.n k id).n=s.n+1:=rfl;have ta:∀ x,((s.kh k id).set s.n k id).at_ x=if x=id then(s.n:Int)+1 else s.at_ x:=fun _=>rfl
 have tI:∀ m,((s.kh k id).set s.n k id).I m=if m=s.n then id else s.I m:=fun m=>by
  show ad (ad s.I s.n id) s.n id m=_;grind [ad]
 have tK:∀ m,((s.kh k id).set s.n k id).K m=if m=s.n then k else s.K m:=fun m=>by
  show ad (ad s.K s.n k) s.n k m=_;grind [ad]
 have wK:∀ j:Int,0<=j->j<s.n->¬s.I j=id:=fun j j0 j1 e=>by
  grind [QS.Ok.Iy]
 have Ee:((s.kh k id).set s.n k id).Ok:=by
  refine⟨by rw[tn];omega,fun j j0 j1=> ?_,fun j j0 j1=> ?_,fun x x0 x1=> ?_⟩
  ·rw[tI];split
   ·omega
   ·exact h.jA j j0 (by rw[tn]at j1;omega)
  ·grind [QS.Ok.Iy]
  grind [QS.Ok.Lf]
 have hex:((s.kh k id).set s.n k id).ZA s.n:=by
  refine⟨fun j j0 j1 jn=> ?_,fun _ j j0 j1 jp=>by rw[tn]at j1;omega⟩;grind [QS.L,QS.ve]
 obtain⟨r1,r2,r3⟩:=Ee.Rc s.n (i:=s.n) hex og (by rw[tn];omega) og;rw[<-e1]at r1 r2 r3;have hid:=r2.k id hd.1 hd.2 (by rw[ta,if_pos rfl];omega);refine⟨r1,r3,r2.n.trans tn,fun x x0 x1=>⟨?_,fun xn xp=> ?_⟩,?_⟩
 ·rw[r2.at_ x x0 x1,ta];omega
 ·rw[r2.k x x0 x1 (by rw[ta,if_neg xn];exact xp)];grind [QS.Lg,QS.Ok.Lf]
 grind [QS.Lg]
def QS.Ok.aaY{s:QS}(h:s.Ok)(hh:s.ve)(hd:0<=id/\id<64)(hz:¬s.at_ id=0):(s.vo id).Ok/\(s.vo id).ve/\(s.vo id).n=s.n-1/\(∀ x,0<=x->x<64->((s.vo id).at_ x=0↔(x=id\/s.at_ x=0))/\(¬x=id->¬s.at_ x=0->(s.vo id).Lg x=s.Lg x)):=by
 obtain⟨a1,a2,a3⟩:=(h.Lf id hd.1 hd.2).resolve_left hz;unfold QS.vo;by_cases c:s.at_ id-1<(s.n:Int)-1
 ·rw[if_pos c];generalize hi:s.at_ id-1=i at*;generalize hx:s.I ((s.n:Int)-1)=xi at*;generalize hk:s.K ((s.n:Int)-1)=xk at*;have hxr:=h.jA ((s.n:Int)-1) og og;have Rr:=h.Iy ((s.n:Int)-1) og og;rw[hx]at hxr Rr;have hxd:¬xi=id:=fun e=>by rw[e]at Rr;omega
  have tn:((s.fe id).set i xk xi).n=s.n-1:=rfl;have ta:∀ x,((s.fe id).set i xk xi).at_ x=if x=xi then i+1 else if x=id then 0 else s.at_ x:=fun _=>rfl
  have tI:∀ m,((s.fe id).set i xk xi).I m=if m=i then xi else s.I m:=fun _=>rfl
  have tK:∀ m,((s.fe id).set i xk xi).K m=if m=i then xk else s.K m:=fun _=>rfl
  have Ee:((s.fe id).set i xk xi).Ok:=by
   refine⟨by rw[tn];have:=h.n64;omega,fun j j0 j1=> ?_,fun j j0 j1=> ?_,fun x x0 x1=> ?_⟩
   ·rw[tn]at j1;rw[tI];split
    ·omega
    ·exact h.jA j j0 og
   ·grind [QS.Ok.Iy]
   grind [QS.Ok.Lf]
  have aeo:((s.fe id).set i xk xi).Mid i False:=by
   refine⟨fun j j0 j1 jp jb=> ?_,fun i0 j j0 j1 jp=> ?_⟩
   ·grind [QS.L,QS.ve]
   ·rw[tn]at j1;have cj:¬j=i:=og;have cp:¬(i-1)/2=i:=og;unfold QS.L;rw[tK,tK,tI,tI,if_neg cj,if_neg cj,if_neg cp,if_neg cp];have g1:=hh j j0 og;rw[jp]at g1;exact ru g1 (hh i i0 og)
  obtain⟨d1,d2,q,q1,q2,q3⟩:=Ee.sx (((s.fe id).set i xk xi).n-i.toNat) aeo og (by rw[tn];omega) (by rw[tn];omega);rw[<-Ee.Iz og (by rw[tn];omega)]at d1 d2 q2 q3;have hq:(((s.fe id).set i xk xi).down i).at_ xi-1=q:=by
   grind [QS.Ok.Iy,QS.vR.n]
  have hf:(s.fe id).aaS i xk xi=(((s.fe id).set i xk xi).down i).up q:=by unfold QS.aaS;rw[hq]
  obtain⟨u1,u2,u3⟩:=d1.Rc q.toNat q3 q1.1 (by rw[d2.n];exact q1.2) og;rw[<-d1.aaV q1.1 (by rw[d2.n];exact q1.2),<-hf]at u1 u2 u3;have hs:=d2.trans u2;refine⟨u1,u3,hs.n.trans tn,fun x x0 x1=>⟨?_,fun xn xp=> ?_⟩⟩
  ·rw[hs.at_ x x0 x1,ta];grind
  ·have hp:¬((s.fe id).set i xk xi).at_ x=0:=by
    grind
   rw[hs.k x x0 x1 hp];grind [QS.Lg,QS.Ok.Lf]
 ·rw[if_neg c];have hl:s.at_ id=s.n:=og;have tn:(s.fe id).n=s.n-1:=rfl;have ta:∀ x,(s.fe id).at_ x=if x=id then 0 else s.at_ x:=fun _=>rfl
  refine⟨⟨by rw[tn];have:=h.n64;omega,fun j j0 j1=>h.jA j j0 (by rw[tn]at j1;omega),fun j j0 j1=> ?_,fun x x0 x1=> ?_⟩,fun j j0 j1=>hh j j0 (by rw[tn]at j1;omega),tn,fun x x0 x1=>⟨?_,fun xn xp=> ?_⟩⟩
  ·rw[tn]at j1;show(s.fe id).at_ (s.I j)=j+1;grind [QS.Ok.Iy]
  ·rw[ta];by_cases c2:x=id
   ·omega
   ·rw[if_neg c2];rcases h.Lf x x0 x1 with g | ⟨g1,g2,g3⟩
    ·omega
    ·have:¬s.at_ x=s.n:=fun e=>by
      simp_all
     exact .inr ⟨g1,by rw[tn];omega,g3⟩
  ·grind
  ·unfold QS.Lg;rw[ta,if_neg xn];rfl
def QS.ve.ZB{s:QS}(h:s.ve):∀ (m:Nat) (j:Int),j.toNat<=m->0<=j->j<s.n->¬s.L j 0
 | 0,j,hm,h0,h1=>by
  have:j=0:=og;rw[this];exact s.Zz 0
 | m+1,j,hm,h0,h1=>by
  by_cases c:j=0
  ·rw[c];exact s.Zz 0
  ·exact ru (h j og h1) (QS.ve.ZB h m ((j-1)/2) og og og)
def Ap:∀ (f f':Nat) (s:QS) (i k id:Int),i<=f->i<=f'->QS.D1 f s i k id=QS.D1 f' s i k id
 | 0,0,_,_,_,_,_,_=>rfl
 | 0,f'+1,s,i,k,id,h,_=>by rw[QS.D1,QS.D1,if_neg og]
 | f+1,0,s,i,k,id,_,h=>by rw[QS.D1,QS.D1,if_neg og]
 | f+1,f'+1,s,i,k,id,h,h'=>by
  rw[QS.D1,QS.D1];split
  ·exact Ap f f' _ _ _ _ og og
  ·rfl
def IA{s:QS}(h:0<i)(h2:An k id (s.K ((i-1)/2)) (s.I ((i-1)/2))):QS.D1 i.toNat s i k id=QS.D1 ((i-1)/2).toNat (s.set i (s.K ((i-1)/2)) (s.I ((i-1)/2))) ((i-1)/2) k id:=by
 obtain⟨f,hf⟩:∃ f,i.toNat=f+1:=⟨i.toNat-1,og⟩;rw[hf,QS.D1,if_pos ⟨h,h2⟩];exact Ap _ _ _ _ _ _ og og
def Aq{s:QS}(h:¬(0<i/\An k id (s.K ((i-1)/2)) (s.I ((i-1)/2)))):QS.D1 i.toNat s i k id=s.set i k id:=by
 cases hf:i.toNat with
 | zero=>rfl
 | succ f=>rw[QS.D1,if_neg h]
def vq:∀ (f f':Nat) (s:QS) (i k id:Int),0<=i->(s.n:Int)<=i+f->(s.n:Int)<=i+f'->QS.kz f s i k id=QS.kz f' s i k id
 | 0,0,_,_,_,_,_,_,_=>rfl
 | 0,f'+1,s,i,k,id,h0,h,_=>by
  rw[QS.kz,QS.kz,if_neg];rintro⟨q,_⟩;rcases s.gU i with⟨e,_⟩ | ⟨e,_⟩<;>omega
 | f+1,0,s,i,k,id,h0,_,h=>by
  rw[QS.kz,QS.kz,if_neg];rintro⟨q,_⟩;rcases s.gU i with⟨e,_⟩ | ⟨e,_⟩<;>omega
 | f+1,f'+1,s,i,k,id,h0,h,h'=>by
  have hc:i<s.aW i:=by rcases s.gU i with⟨e,_⟩ | ⟨e,_⟩<;>omega
  rw[QS.kz,QS.kz];split
  ·exact vq f f' _ _ _ _ og (by show(s.n:Int)<=_;omega) (by show(s.n:Int)<=_;omega)
  ·rfl
def Eg{s:QS}(h0:0<=i)(h1:i<s.n)(h:s.aW i<s.n)(h2:An (s.K (s.aW i)) (s.I (s.aW i)) k id):QS.kz (s.n-i.toNat) s i k id=QS.kz (s.n-(s.aW i).toNat) (s.set i (s.K (s.aW i)) (s.I (s.aW i))) (s.aW i) k id:=by
 have hc:i<s.aW i:=by rcases s.gU i with⟨e,_⟩ | ⟨e,_⟩<;>omega
 obtain⟨f,hf⟩:∃ f,s.n-i.toNat=f+1:=⟨s.n-i.toNat-1,og⟩;rw[hf,QS.kz,if_pos ⟨h,h2⟩];exact vq _ _ _ _ _ _ og (by show(s.n:Int)<=_;omega) (by show(s.n:Int)<=_;omega)
def vr{s:QS}{f:Nat}(h:¬(s.aW i<s.n/\An (s.K (s.aW i)) (s.I (s.aW i)) k id)):QS.kz f s i k id=s.set i k id:=by
 cases f with
 | zero=>rfl
 | succ f=>rw[QS.kz,if_neg h]
def QS.Ok.mid{s:QS}(h:s.Ok)(hh:s.ve){xk xi:Int}(hd:0<=id/\id<64)(hz:¬s.at_ id=0)(hi:s.at_ id-1=i)(hx:s.I ((s.n:Int)-1)=xi)(c:i<(s.n:Int)-1):((s.fe id).set i xk xi).Ok/\(((s.fe id).set i xk xi).down i).Ok/\((s.fe id).set i xk xi).vR (((s.fe id).set i xk xi).down i)/\∃ q:Int,(0<=q/\q<((s.fe id).set i xk xi).n)/\(((s.fe id).set i xk xi).down i).ZA q/\(((s.fe id).set i xk xi).down i).at_ xi-1=q:=by
 obtain⟨a1,a2,a3⟩:=(h.Lf id hd.1 hd.2).resolve_left hz;rw[hi]at a3;have hxr:=h.jA ((s.n:Int)-1) og og;have Rr:=h.Iy ((s.n:Int)-1) og og;rw[hx]at hxr Rr;have hxd:¬xi=id:=fun e=>by rw[e]at Rr;omega
 have tn:((s.fe id).set i xk xi).n=s.n-1:=rfl;have ta:∀ x,((s.fe id).set i xk xi).at_ x=if x=xi then i+1 else if x=id then 0 else s.at_ x:=fun _=>rfl
 have tI:∀ m,((s.fe id).set i xk xi).I m=if m=i then xi else s.I m:=fun _=>rfl
 have tK:∀ m,((s.fe id).set i xk xi).K m=if m=i then xk else s.K m:=fun _=>rfl
 have Ee:((s.fe id).set i xk xi).Ok:=by
  refine⟨by rw[tn];have:=h.n64;omega,fun j j0 j1=> ?_,fun j j0 j1=> ?_,fun x x0 x1=> ?_⟩
  ·rw[tn]at j1;rw[tI];split
   ·omega
   ·exact h.jA j j0 og
  ·grind [QS.Ok.Iy]
  grind [QS.Ok.Lf]
 have aeo:((s.fe id).set i xk xi).Mid i False:=by
  refine⟨fun j j0 j1 jp jb=> ?_,fun i0 j j0 j1 jp=> ?_⟩
  ·grind [QS.L,QS.ve]
  ·rw[tn]at j1;have cj:¬j=i:=og;have cp:¬(i-1)/2=i:=og;unfold QS.L;rw[tK,tK,tI,tI,if_neg cj,if_neg cj,if_neg cp,if_neg cp];have g1:=hh j j0 og;rw[jp]at g1;exact ru g1 (hh i i0 og)
 grind [QS.Ok.sx,QS.Ok.Iz,QS.Ok.Iy,QS.vR.n]
def QS.first(s:QS):Int×Int×Bool:=if s.n=0 then(0,0,false)else(s.I 0,s.K 0,true)
theorem IB{s:QS}(h:¬(id<0\/63<id))(h2:¬s.at_ id=0):s.im id=(s.K (s.at_ id-1),0):=by grind [QS.im]
def fY(s:QS)(p:Option Addr)(cap:Nat)(i:Nat):Value:=if i=0 then .slice p s.n cap else if i<65 then iI (s.at_ ((i-1:Nat):Int))else undef
def gV(s:QS)(i:Nat):Value:=if i%2=0 then .int .u64 (s.K ((i/2:Nat):Int))else iI (s.I ((i/2:Nat):Int))
def qx(k i:Int)(j:Nat):Value:=if j=0 then .int .u64 k else if j=1 then iI i else undef
def ir(s:QS)(p:Option Addr)(cap:Nat):0+0<65/\fY s p cap (0+0)= .slice p s.n cap:=⟨og,rfl⟩
def wW(s:QS)(p:Option Addr)(cap:Nat)(z:Int)(h:0<=z/\z<64:=by omega):0+1+z.toNat*1<65/\fY s p cap (0+1+z.toNat*1)=iI (s.at_ z):=by
 grind [fY]
def E2(s:QS)(p p':Option Addr)(cap cJ n':Nat):0+0<65/\dL (fY s p cap) (0+0) (.slice p' n' cJ)=fY {s with n:=n'} p' cJ:=by
 grind [dL,fY]
theorem B8(s:QS)(p:Option Addr)(cap:Nat)(z v:Int)(h:0<=z/\z<64):0+1+z.toNat*1<65/\dL (fY s p cap) (0+1+z.toNat*1) (iI v)=fY {s with at_:=ad s.at_ z v} p cap:=by
 grind [dL,fY,ad]
def B9(s:QS)(n:Nat)(z:Int)(h:0<=z/\z<n:=by omega):0+z.toNat*2+0<n*2/\gV s (0+z.toNat*2+0)= .int .u64 (s.K z):=by
 grind [gV]
def W0(s:QS)(n:Nat)(z:Int)(h:0<=z/\z<n):0+z.toNat*2+1<n*2/\gV s (0+z.toNat*2+1)=iI (s.I z):=by
 grind [gV]
def km(s:QS)(n:Nat)(z:Int)(h:0<=z/\z<n:=by omega):0+z.toNat*2+2<=n*2/\cZ (gV s) (0+z.toNat*2) 2= .agg #[.int .u64 (s.K z),iI (s.I z)]:=by
 grind [cZ,List.range,List.range.loop,gV]
def Ss(s:QS)(n:Nat)(z k i:Int)(h:0<=z/\z<n):0+z.toNat*2+2<=n*2/\cC (gV s) (0+z.toNat*2) [.int .u64 k,iI i]=gV {s with K:=ad s.K z k,I:=ad s.I z i} :=by
 refine⟨og,?_⟩;funext j;simp only[cC,dL];grind [gV,ad]
def O8(s:QS)(k id:Int):∀ i,i<(s.n+1)*2->gV (s.kh k id) i=if i<s.n*2 then gV s i else cellsOf #[.int .u64 k,iI id] (i-s.n*2):=by
 intro i hi;unfold gV QS.kh ad;by_cases h:i<s.n*2
 ·grind
 ·have h3:((i/2:Nat):Int)=s.n:=og;have h4:i-s.n*2=0\/i-s.n*2=1:=og;rcases h4 with h4 | h4
  ·have h5:i%2=0:=og;simp only[if_neg h,if_pos h3,if_pos h5,h4];rfl
  ·have h5:¬i%2=0:=og;simp only[if_neg h,if_pos h3,if_neg h5,h4];rfl
def Su(s:QS)(p p':Option Addr)(cap cJ:Nat)(k id:Int):0+0<65/\dL (fY s p cap) (0+0) (.slice p' (s.n+1) cJ)=fY (s.kh k id) p' cJ:=E2 s p p' cap cJ (s.n+1)
def Sv(s:QS)(p:Option Addr)(cap:Nat)(id:Int)(h:0<=id/\id<64):0+1+id.toNat*1<65/\dL (fY {s with n:=s.n-1} p cap) (0+1+id.toNat*1) (iI 0)=fY (s.fe id) p cap:=by grind [B8,QS.fe]
def ux(k i:Int):0+0<2/\qx k i (0+0)= .int .u64 k:=⟨og,rfl⟩
def wX(k i:Int):0+1<2/\qx k i (0+1)=iI i:=⟨og,rfl⟩
def jS(k i:Int):0+2<=2/\cZ (qx k i) 0 2= .agg #[.int .u64 k,iI i]:=⟨og,rfl⟩
def yY(k i:Int):∀ j,j<2->cellsOf #[.int .u64 k,iI i] j=qx k i j:=fun j hj=>match j,hj with
 | 0,_=>rfl
 | 1,_=>rfl
 | j+2,h=>absurd h og
def yZ(k i:Int):0+2<=2/\cC (cellsOf #[.int .u64 0,iI 0]) 0 [.int .u64 k,iI i]=qx k i:=by
 refine⟨og,?_⟩;funext j;match j with
 | 0=>rfl
 | 1=>rfl
 | j+2=>
  have e1:cC (cellsOf #[.int .u64 0,iI 0]) 0 [.int .u64 k,iI i] (j+2)=undef:=by simp[cC,dL,cellsOf]
  have e2:qx k i (j+2)=undef:=by simp[qx]
  rw[e1,e2]
def QS.V4(s:QS):Prop:=∀ j:Int,0<=j->j<s.n->0<=s.I j/\s.I j<64
theorem QS.V4.set{s:QS}(h:s.V4){i k id:Int}(hd:0<=id/\id<64):(s.set i k id).V4:=fun j j0 j1=>by
 show 0<=ad s.I i id j/\ad s.I i id j<64;unfold ad;split
 ·omega
 ·exact h j j0 j1
theorem Ca:∀ (f:Nat) (s:QS) (i k id:Int),(QS.kz f s i k id).n=s.n
 | 0,_,_,_,_=>rfl
 | f+1,s,i,k,id=>by
  rw[QS.kz];split
  ·rw[Ca f];rfl
  ·rfl
def O9(s:QS)(i:Int):(s.down i).n=s.n:=Ca _ _ _ _ _
theorem QS.qy{s:QS}(h:id<0\/63<id):s.put id k=(1,s):=by grind [QS.put]
theorem QS.uy{s:QS}(h:¬(id<0\/63<id))(h2:0<s.at_ id):s.put id k=(3,s):=by grind [QS.put]
theorem QS.s9{s:QS}(h:¬(id<0\/63<id))(h2:¬ 0<s.at_ id):s.put id k=(0,(s.kh k id).up s.n):=by grind [QS.put]
theorem ry{s:QS}(h:id<0\/63<id):s.cut id=(0,1,s):=by grind [QS.cut]
theorem Ar{s:QS}(h:¬(id<0\/63<id))(h2:s.at_ id=0):s.cut id=(0,2,s):=by grind [QS.cut]
theorem td{s:QS}(h:¬(id<0\/63<id):=by omega)(h2:¬s.at_ id=0:=by omega):s.cut id=(s.K (s.at_ id-1),0,s.vo id):=by grind [QS.cut]
structure RQ where
 y8:Int->Bool
 im:Int->Int
def RQ.is(r:RQ)(id:Int):Int:=if id<0\/63<id then 1 else if r.y8 id then 0 else 2
def RQ.put(r:RQ)(id k:Int):Int×RQ:=if r.is id=1 then(1,r)else if r.is id=0 then(3,r)else(0,⟨ad r.y8 id true,ad r.im id k⟩)
def RQ.KK(r:RQ)(id:Int)(cut:Bool):Int×Int×RQ:=if r.is id≠0 then(0,r.is id,r)else(r.im id,0,if cut then {r with y8:=ad r.y8 id false} else r)
theorem RQ.qz{r:RQ}(h:id<0\/63<id):r.is id=1:=by unfold RQ.is;rw[if_pos h]
theorem RQ.wY{r:RQ}(h:¬(id<0\/63<id))(ht:r.y8 id=false):r.is id=2:=by grind [RQ.is]
theorem RQ.Cb{r:RQ}(h:¬(id<0\/63<id))(ht:r.y8 id=true):r.is id=0:=by grind [RQ.is]
theorem RQ.qy{r:RQ}(k:Int)(h:r.is id=1):r.put id k=(1,r):=by grind [RQ.put]
theorem RQ.uy{r:RQ}(k:Int)(h1:¬r.is id=1)(h:r.is id=0):r.put id k=(3,r):=by grind [RQ.put]
theorem RQ.s9{r:RQ}(k:Int)(h1:¬r.is id=1)(h:¬r.is id=0):r.put id k=(0,⟨ad r.y8 id true,ad r.im id k⟩):=by grind [RQ.put]
theorem Sw{r:RQ}(c:Bool)(h:¬r.is id=0):r.KK id c=(0,r.is id,r):=by grind [RQ.KK]
theorem RQ.Lh{r:RQ}(h:r.is id=0):r.KK id true=(r.im id,0,{r with y8:=ad r.y8 id false}):=by grind [RQ.KK]
theorem E3{r:RQ}(h:r.is id=0):r.KK id false=(r.im id,0,r):=by grind [RQ.KK]
structure mm (s:QS) (r:RQ):Prop where
 ok:s.Ok
 heap:s.ve
 y8:∀ id,0<=id->id<64->(r.y8 id=true↔¬s.at_ id=0)
 im:∀ id,0<=id->id<64->¬s.at_ id=0->r.im id=s.Lg id
def RQ.dc:RQ:=⟨fun _=>false,fun _=>0⟩
theorem mm.dc:mm QS.dc RQ.dc:=⟨QS.Ok.dc,Gs,fun id _ _=>by
  show(false=true)↔¬(0:Int)=0
  simp,fun id _ _ h=>absurd rfl h⟩
theorem mm.is{s:QS}{r:RQ}(h:mm s r){id:Int}(hd:0<=id/\id<64):r.is id=if s.at_ id=0 then 2 else 0:=by
 grind [mm.y8,RQ.wY,RQ.Cb]
theorem mm.put{s:QS}{r:RQ}(h:mm s r)(id k:Int):(s.put id k).1=(r.put id k).1/\mm (s.put id k).2 (r.put id k).2:=by
 by_cases c1:id<0\/63<id
 ·grind [QS.qy,RQ.qy,RQ.qz]
 ·have hd:0<=id/\id<64:=og;have vH:=h.is hd;by_cases hz:s.at_ id=0
  ·rw[if_pos hz]at vH;rw[QS.s9 c1 og,RQ.s9 k og og];obtain⟨r1,r2,r3,r4,r5⟩:=h.ok.aaX h.heap hd hz k;refine⟨rfl,r1,r2,fun m m0 m1=> ?_,fun m m0 m1 mp=> ?_⟩
   ·grind [mm.y8,aj,ae]
   ·show ad r.im id k m=_;by_cases q:m=id
    ·grind [aj]
    ·have hz2:¬s.at_ m=0:=fun e=>mp ((r4 m m0 m1).1.2 ⟨q,e⟩);rw[ae _ _ q,(r4 m m0 m1).2 q hz2];exact h.im m m0 m1 hz2
  ·rw[if_neg hz]at vH;have hp:0<s.at_ id:=by rcases h.ok.Lf id hd.1 hd.2 with q | q<;>omega
   grind [QS.uy,RQ.uy]
theorem mm.cut{s:QS}{r:RQ}(h:mm s r)(id:Int):(s.cut id).1=(r.KK id true).1/\(s.cut id).2.1=(r.KK id true).2.1/\mm (s.cut id).2.2 (r.KK id true).2.2:=by
 by_cases c1:id<0\/63<id
 ·grind [RQ.qz,ry,RQ.KK]
 ·have hd:0<=id/\id<64:=og;have vH:=h.is hd;by_cases hz:s.at_ id=0
  ·grind [Ar,RQ.KK]
  ·rw[if_neg hz]at vH;rw[td c1 hz,RQ.Lh vH];obtain⟨r1,r2,r3,r4⟩:=h.ok.aaY h.heap hd hz;refine⟨(h.im id hd.1 hd.2 hz).symm,rfl,r1,r2,fun m m0 m1=> ?_,fun m m0 m1 mp=> ?_⟩
   ·grind [mm.y8,aj,ae]
   ·show r.im m=_;have q:¬m=id:=fun e=>mp ((r4 m m0 m1).1.2 (.inl e));have hz2:¬s.at_ m=0:=fun e=>mp ((r4 m m0 m1).1.2 (.inr e));rw[(r4 m m0 m1).2 q hz2];exact h.im m m0 m1 hz2
theorem mm.aaZ{s:QS}{r:RQ}(h:mm s r)(id:Int):(s.im id).1=(r.KK id false).1/\(s.im id).2=(r.KK id false).2.1/\(r.KK id false).2.2=r:=by
 by_cases c1:id<0\/63<id
 ·grind [RQ.qz,QS.im,RQ.KK]
 ·have hd:0<=id/\id<64:=og;have vH:=h.is hd;by_cases hz:s.at_ id=0
  ·grind [QS.im,RQ.KK]
  ·rw[if_neg hz]at vH;rw[IB c1 hz,E3 vH];exact⟨(h.im id hd.1 hd.2 hz).symm,rfl,rfl⟩
structure SF where
 aa:Int->Bool
 ax:Int->Int
 wt:Int->Int
 v:Int->Int
 uz:Int->Int
 dS:Int->Bool
 eC:Int->Int
 HR:Int->Bool
 fD:Int->Int
 jT:Int->Int
 dY:Int->Int
 ij:Int
 cy:Int->Bool
structure SC extends SF where
 Q:Int->QS
 P:Int->Option Addr
 C:Int->Nat
namespace SF
def gx(s:SF)(n:Int):Bool:=(List.range 30).any (fun i=>s.cy (i:Int)&&decide (s.ax (i:Int)=n))
def ready(s:SF)(n:Int):Bool:=if 10<=n then s.dS n else s.gx n&& !s.HR n&&(decide (s.fD n=0)||decide (s.dY n<s.fD n))
def uA(s:SF)(n:Int):SF:= {s with v:=ad s.v n (if s.ready n=true/\s.cy n=false then max (s.v n) (s.eC (s.ax n))else s.v n),cy:=ad s.cy n (s.ready n)}
def gW:Nat->SF->Int->SF
 | 0,s,_=>s
 | k+1,s,n=>if n<=0 then s else gW k (s.uA n) (s.ax n)
def look(d:Int->Nat)(s:SF)(n:Int):SF:=gW (d n+1) s n
def nB(s:SF)(n:Int):SF:= {s with eC:=ad s.eC (s.ax n) (max (s.eC (s.ax n)) (s.v n)),v:=ad s.v n (s.v n+1048576/s.wt n),uz:=ad s.uz n (s.uz n+1),dY:=if 0<s.fD n then ad s.dY n (s.dY n+1)else s.dY}
def y9(s:SF)(n:Int):SF:= {s.nB n with cy:=ad s.cy n ((s.nB n).ready n)}
def vf:Nat->SF->Int->SF
 | 0,s,_=>s
 | k+1,s,n=>if n<=0 then s else vf k (s.y9 n) (s.ax n)
def te(d:Int->Nat)(s:SF)(n:Int):SF:=if s.aa n=true/\0<s.fD n/\s.ij%s.jT n=0 then look d {s with dY:=ad s.dY n 0} n else s
def mB(d:Int->Nat)(s:SF):Nat->SF
 | 0=>s
 | k+1=>te d (mB d s k) ((k:Int)+1)
def nM(s:SF)(g:Int):Nat->Int
 | 0=> -1
 | k+1=>if s.cy (29-(k:Int))=true/\s.ax (29-(k:Int))=g/\(nM s g k<0\/s.v (29-(k:Int))<=s.v (nM s g k))then 29-(k:Int)else nM s g k
def fJ(s:SF)(g:Int):Int:=nM s g 29
def KL(s:SF):Nat->Int->Int
 | 0,at_=>at_
 | k+1,at_=>if 10<=at_ then at_ else if s.fJ at_<0 then-1 else KL s k (s.fJ at_)
def Gt(d:Int->Nat):Nat->Nat
 | 0=>0
 | k+1=>max (Gt d k) (d (k:Int))
def qB(d:Int->Nat)(s:SF):SF:= {mB d s 9 with ij:=s.ij+1}
def bG(d:Int->Nat)(s:SF):Int:=KL (qB d s) (Gt d 30+1) 0
def pU(d:Int->Nat)(s:SF):Int×SF:=if bG d s<0 then(-1,qB d s)else(bG d s-10,vf (d (bG d s)+1) (qB d s) (bG d s))
def mq(s:SF)(g:Int):RQ:=⟨fun i=>s.cy i&&decide (s.ax i=g),s.v⟩
structure Inv (s:SF) (d:Int->Nat):Prop where
 h0:s.aa 0=true
 up:∀ n,0<n->n<30->s.aa n=true->0<=s.ax n/\s.ax n<10/\s.aa (s.ax n)=true/\d (s.ax n)<d n
 cy:∀ n,s.cy n=true->0<n/\n<30/\s.aa n=true
 quo:∀ n,0<=n->n<30->0<=s.fD n/\(0<s.fD n->1<=s.jT n)
 wt:∀ n,0<=n->n<30->s.aa n=true->1<=s.wt n
def bR(s:SF)(B:Int):Prop:=∀ n,0<=n->n<30->0<=s.v n/\s.v n<=B/\0<=s.eC n/\s.eC n<=B/\0<=s.uz n/\s.uz n<=B/\0<=s.dY n/\s.dY n<=B
end SF
def SC.pA(s:SC):Prop:=∀ g,0<=g->g<30->mm (s.Q g) (s.toSF.mq g)
namespace SF
theorem qC(s:SF)(n:Int):s.gx n=true↔∃ i:Int,0<=i/\i<30/\s.cy i=true/\s.ax i=n:=by
 unfold gx;simp only[List.any_eq_true,List.mem_range,Bool.and_eq_true,decide_eq_true_eq];constructor
 ·grind
 ·rintro⟨k,h1,h2,h3,h4⟩;refine⟨k.toNat,og,?_⟩;grind
def tf(s:SF)(g i:Int):(s.mq g).y8 i=true↔s.cy i=true/\s.ax i=g:=by
 grind [mq]
end SF
theorem mm.len{q:QS}{r:RQ}(h:mm q r):0<q.n↔∃ i,0<=i/\i<64/\r.y8 i=true:=by
 constructor
 ·intro hn;have hd:=h.ok.jA 0 og og;have ha:=h.ok.Iy 0 og og;exact⟨q.I 0,hd.1,hd.2,(h.y8 _ hd.1 hd.2).2 og⟩
 ·rintro⟨i,i0,i1,hi⟩;have:=(h.y8 i i0 i1).1 hi;rcases h.ok.Lf i i0 i1 with e | ⟨e1,e2,_⟩;all_goals omega
theorem mm.head{q:QS}{r:RQ}(h:mm q r)(hn:0<q.n):(0<=q.I 0/\q.I 0<64)/\r.y8 (q.I 0)=true/\∀ i,0<=i->i<64->r.y8 i=true->¬An (r.im i) i (r.im (q.I 0)) (q.I 0):=by
 have hd:=h.ok.jA 0 og og;have ha:=h.ok.Iy 0 og og;have hp:¬q.at_ (q.I 0)=0:=og;have hk:q.Lg (q.I 0)=q.K 0:=by unfold QS.Lg;rw[ha];rfl
 refine⟨hd,(h.y8 _ hd.1 hd.2).2 hp,fun i i0 i1 hi hl=> ?_⟩;have E4:=(h.y8 i i0 i1).1 hi;rw[h.im _ hd.1 hd.2 hp,hk,h.im i i0 i1 E4]at hl;obtain⟨b1,b2,b3⟩:=(h.ok.Lf i i0 i1).resolve_left E4;have hl2:=h.heap.ZB (q.at_ i-1).toNat (q.at_ i-1) og og og;unfold QS.L at hl2;rw[b3]at hl2;exact hl2 hl
def mm.ext{q:QS}{r r':RQ}(h:mm q r)(hi:∀ i,0<=i->i<64->r'.y8 i=r.y8 i)(hk:∀ i,0<=i->i<64->r.y8 i=true->r'.im i=r.im i):mm q r':=
 ⟨h.ok,h.heap,fun i i0 i1=>by rw[hi i i0 i1];exact h.y8 i i0 i1,fun i i0 i1 hp=>by rw[hk i i0 i1 ((h.y8 i i0 i1).2 hp)];exact h.im i i0 i1 hp⟩
theorem iL(C:Nat->Value):∀ (vs:List Value) (i j:Nat),j<i->cC C i vs j=C j
 | [],_,_,_=>rfl
 | v::r,i,j,h=>by
  unfold cC;rw[iL (dL C i v) r (i+1) j og];simp[dL];omega
theorem fN:∀ (vs:List Value) (C:Nat->Value) (i j:Nat) (v:Value),vs[j]? =some v->cC C i vs (i+j)=v
 | [],_,_,_,_,h=>by simp at h
 | u::r,C,i,0,v,h=>by
  have h2:u=v:=by simpa using h
  unfold cC;rw[iL _ _ _ _ og,<-h2];simp[dL]
 | u::r,C,i,j+1,v,h=>by
  unfold cC;have:=fN r (dL C i u) (i+1) j v (by simpa using h);rw[show i+1+j=i+(j+1)from og]at this;exact this
theorem jw:∀ (vs:List Value) (C:Nat->Value) (i j:Nat),i+vs.length<=j->cC C i vs j=C j
 | [],_,_,_,_=>rfl
 | v::r,C,i,j,h=>by
  simp only[List.length_cons]at h;unfold cC;rw[jw r (dL C i v) (i+1) j og];simp[dL];omega
structure aP.U where
 aa:Bool
 ax:Int
 wt:Int
 v:Int
 uz:Int
 dS:Bool
 eC:Int
 HR:Bool
 fD:Int
 jT:Int
 dY:Int
 q:QS
 p:Option Addr
 c:Nat
def aP.un(s:SC)(z:Int):aP.U:=⟨s.aa z,s.ax z,s.wt z,s.v z,s.uz z,s.dS z,s.eC z,s.HR z,s.fD z,s.jT z,s.dY z,s.Q z,s.P z,s.C z⟩
def aP.cell(u:aP.U)(j:Nat):Value:=
 if j=0 then .bool u.aa else
 if j=1 then iI u.ax else
 if j=2 then iI u.wt else
 if j=3 then .int .u64 u.v else
 if j=4 then iI u.uz else
 if j=5 then .bool u.dS else
 if 6<=j/\j<71 then fY u.q u.p u.c (j-6)else
 if j=71 then .int .u64 u.eC else
 if j=72 then .bool u.HR else
 if j=73 then iI u.fD else
 if j=74 then iI u.jT else
 if j=75 then iI u.dY else
 undef
def aP(s:SC)(i:Nat):Value:=
 if i<2280 then aP.cell (aP.un s ((i/76:Nat):Int)) (i%76)else
 if i=2280 then iI s.ij else
 undef
theorem aP.at_(s:SC)(z:Int)(h:0<=z/\z<30)(j:Nat)(hj:j<76):aP s (0+0+z.toNat*76+j)=aP.cell (aP.un s z) j:=by
 unfold aP;grind
theorem aP.set(s s':SC)(z:Int)(h:0<=z/\z<30)(k:Nat)(hk:k<76)(v:Value)(hv:∀ j,aP.cell (aP.un s' z) j=if j=k then v else aP.cell (aP.un s z) j)(ho:∀ y,¬y=z->aP.un s' y=aP.un s y)(hn:s'.ij=s.ij):0+0+z.toNat*76+k<2281/\dL (aP s) (0+0+z.toNat*76+k) v=aP s':=by
 grind [dL,aP]
def aP.Sx(s s':SC)(z:Int)(h:0<=z/\z<30)(vs:List Value)(hl:vs.length=76)(hv:∀ j,j<76->vs[j]? =some (aP.cell (aP.un s' z) j))(ho:∀ y,¬y=z->aP.un s' y=aP.un s y)(hn:s'.ij=s.ij):0+0+z.toNat*76+76<=2281/\cC (aP s) (0+0+z.toNat*76) vs=aP s':=by
 refine⟨og,?_⟩;funext i;by_cases a1:i<0+0+z.toNat*76
 ·rw[iL _ _ _ _ a1];unfold aP;grind
 ·by_cases a2:i<0+0+z.toNat*76+76
  ·obtain⟨j,rfl⟩:∃ j,i=0+0+z.toNat*76+j:=⟨i-(0+0+z.toNat*76),og⟩;rw[aP.at_ s' z h j og];exact fN vs _ _ _ _ (hv j og)
  ·rw[jw _ _ _ _ og];unfold aP;grind
def lO(s:SC)(z:Int)(h:0<=z/\z<30:=by omega):0+0+z.toNat*76+0<2281/\aP s (0+0+z.toNat*76+0)= .bool (s.aa z):=⟨og,aP.at_ s z h 0 og⟩
def fu(s:SC)(z:Int)(h:0<=z/\z<30:=by omega):0+0+z.toNat*76+1<2281/\aP s (0+0+z.toNat*76+1)=iI (s.ax z):=⟨og,aP.at_ s z h 1 og⟩
def za(s:SC)(z:Int)(h:0<=z/\z<30):0+0+z.toNat*76+2<2281/\aP s (0+0+z.toNat*76+2)=iI (s.wt z):=⟨og,aP.at_ s z h 2 og⟩
def tg(s:SC)(z:Int)(h:0<=z/\z<30:=by omega):0+0+z.toNat*76+3<2281/\aP s (0+0+z.toNat*76+3)= .int .u64 (s.v z):=⟨og,aP.at_ s z h 3 og⟩
def As(s:SC)(z:Int)(h:0<=z/\z<30)(v:Int):0+0+z.toNat*76+3<2281/\dL (aP s) (0+0+z.toNat*76+3) (.int .u64 v)=aP {s with v:=ad s.v z v} :=aP.set s {s with v:=ad s.v z v} z h 3 og _ (fun j=>by
 have e:aP.un {s with v:=ad s.v z v} z= {aP.un s z with v:=v} :=by unfold aP.un;simp only[aj]
 rw[e]
 by_cases hj:j=3
 ·subst hj;rfl
 ·unfold aP.cell;simp only[if_neg hj]) (fun y hy=>by unfold aP.un;simp only[ae _ _ hy]) rfl
def Eh(s:SC)(z:Int)(h:0<=z/\z<30):0+0+z.toNat*76+4<2281/\aP s (0+0+z.toNat*76+4)=iI (s.uz z):=⟨og,aP.at_ s z h 4 og⟩
def Ei(s:SC)(z:Int)(h:0<=z/\z<30)(v:Int):0+0+z.toNat*76+4<2281/\dL (aP s) (0+0+z.toNat*76+4) (iI v)=aP {s with uz:=ad s.uz z v} :=aP.set s {s with uz:=ad s.uz z v} z h 4 og _ (fun j=>by
 have e:aP.un {s with uz:=ad s.uz z v} z= {aP.un s z with uz:=v} :=by unfold aP.un;simp only[aj]
 rw[e]
 by_cases hj:j=4
 ·subst hj;rfl
 ·unfold aP.cell;simp only[if_neg hj]) (fun y hy=>by unfold aP.un;simp only[ae _ _ hy]) rfl
def A2(s:SC)(z:Int)(h:0<=z/\z<30):0+0+z.toNat*76+5<2281/\aP s (0+0+z.toNat*76+5)= .bool (s.dS z):=⟨og,aP.at_ s z h 5 og⟩
def sy(s:SC)(z:Int)(h:0<=z/\z<30)(v:Bool):0+0+z.toNat*76+5<2281/\dL (aP s) (0+0+z.toNat*76+5) (.bool v)=aP {s with dS:=ad s.dS z v} :=aP.set s {s with dS:=ad s.dS z v} z h 5 og _ (fun j=>by
 have e:aP.un {s with dS:=ad s.dS z v} z= {aP.un s z with dS:=v} :=by unfold aP.un;simp only[aj]
 rw[e]
 by_cases hj:j=5
 ·subst hj;rfl
 ·unfold aP.cell;simp only[if_neg hj]) (fun y hy=>by unfold aP.un;simp only[ae _ _ hy]) rfl
def sB(s:SC)(z:Int)(h:0<=z/\z<30:=by omega):0+0+z.toNat*76+71<2281/\aP s (0+0+z.toNat*76+71)= .int .u64 (s.eC z):=⟨og,aP.at_ s z h 71 og⟩
def A3(s:SC)(z:Int)(h:0<=z/\z<30)(v:Int):0+0+z.toNat*76+71<2281/\dL (aP s) (0+0+z.toNat*76+71) (.int .u64 v)=aP {s with eC:=ad s.eC z v} :=aP.set s {s with eC:=ad s.eC z v} z h 71 og _ (fun j=>by
 have e:aP.un {s with eC:=ad s.eC z v} z= {aP.un s z with eC:=v} :=by unfold aP.un;simp only[aj]
 rw[e]
 by_cases hj:j=71
 ·subst hj;rfl
 ·unfold aP.cell;simp only[if_neg hj]) (fun y hy=>by unfold aP.un;simp only[ae _ _ hy]) rfl
def zb(s:SC)(z:Int)(h:0<=z/\z<30):0+0+z.toNat*76+72<2281/\aP s (0+0+z.toNat*76+72)= .bool (s.HR z):=⟨og,aP.at_ s z h 72 og⟩
def kS(s:SC)(z:Int)(h:0<=z/\z<30:=by omega):0+0+z.toNat*76+73<2281/\aP s (0+0+z.toNat*76+73)=iI (s.fD z):=⟨og,aP.at_ s z h 73 og⟩
def zc(s:SC)(z:Int)(h:0<=z/\z<30):0+0+z.toNat*76+74<2281/\aP s (0+0+z.toNat*76+74)=iI (s.jT z):=⟨og,aP.at_ s z h 74 og⟩
def ti(s:SC)(z:Int)(h:0<=z/\z<30:=by omega):0+0+z.toNat*76+75<2281/\aP s (0+0+z.toNat*76+75)=iI (s.dY z):=⟨og,aP.at_ s z h 75 og⟩
def tj(s:SC)(z:Int)(h:0<=z/\z<30)(v:Int):0+0+z.toNat*76+75<2281/\dL (aP s) (0+0+z.toNat*76+75) (iI v)=aP {s with dY:=ad s.dY z v} :=aP.set s {s with dY:=ad s.dY z v} z h 75 og _ (fun j=>by
 have e:aP.un {s with dY:=ad s.dY z v} z= {aP.un s z with dY:=v} :=by unfold aP.un;simp only[aj]
 rw[e]
 by_cases hj:j=75
 ·subst hj;rfl
 ·unfold aP.cell;simp only[if_neg hj]) (fun y hy=>by unfold aP.un;simp only[ae _ _ hy]) rfl
def Au(s:SC):0+2280<2281/\aP s (0+2280)=iI s.ij:=by grind [aP]
def IC(s:SC)(v:Int):0+2280<2281/\dL (aP s) (0+2280) (iI v)=aP {s with ij:=v} :=by
 refine⟨og,?_⟩;funext i;unfold dL aP;by_cases hi:i=0+2280
 ·simp_all
 ·rw[if_neg hi];by_cases c1:i<2280
  ·rw[if_pos c1,if_pos c1];rfl
  grind
end Go.X.Fa
