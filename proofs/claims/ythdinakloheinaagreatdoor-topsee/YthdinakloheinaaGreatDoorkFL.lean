import Derived.Test.YthdinakloheinaaGreatDoorCards
import Derived.Test.YthdinakloheinaaGreatDoorTie
import Derived.Deep.DeepHandedRow
import Derived.Lib.LaidTab
import Derived.Test.YthdinakloheinaaGreatDoorXFam
set_option linter.all false
namespace Go.Proofs.YthdinakloheinaaGreatDoor
open Go Go.Proofs
def jg0(P:Program)(f:FuncId)(fn:Func)(s:ChangeSpec)(c:OpenClaim):Bool:=c.wf (OpenSpec.ofChange s)
def jg1(P:Program)(f:FuncId)(fn:Func)(s:ChangeSpec)(c:OpenClaim):Bool:=laidOutB P
def jg2(P:Program)(f:FuncId)(fn:Func)(s:ChangeSpec)(c:OpenClaim):Bool:=mapsRowed P
def jg3(P:Program)(f:FuncId)(fn:Func)(s:ChangeSpec)(c:OpenClaim):Bool:=fn.params.all (P.readableRec ·)&&namedTie P c.named s.vars
def jg4(P:Program)(f:FuncId)(fn:Func)(s:ChangeSpec)(c:OpenClaim):Bool:=(c.stops==[])&&(P.stops==[])&&(c.knobs==[])&&(P.stopKnobs==[])
def jg5(P:Program)(f:FuncId)(fn:Func)(s:ChangeSpec)(c:OpenClaim):Bool:=(c.inPlace==P.inPlace f)
def jg6(P:Program)(f:FuncId)(fn:Func)(s:ChangeSpec)(c:OpenClaim):Bool:=(c.unfollowed==P.unfollowed f)
def jg7(P:Program)(f:FuncId)(fn:Func)(s:ChangeSpec)(c:OpenClaim):Bool:=(c.recurses==P.recurses f)
def jg8(P:Program)(f:FuncId)(fn:Func)(s:ChangeSpec)(c:OpenClaim):Bool:=(c.named==P.varsNamed f)
def jg9(P:Program)(f:FuncId)(fn:Func)(s:ChangeSpec)(c:OpenClaim):Bool:=(c.maps==(fn.params.toList++s.plain.varTypes P).any (P.mapsRec ·))&&(c.ifaces==(fn.params.toList++s.plain.varTypes P).any (P.ifacesRec ·))&&(c.mapsOut==P.mapsAmong fn.resultTypes.toList)&&(c.loops==(fn.params.toList++s.plain.varTypes P).any (P.loopsFrom ·))&&(c.wideKeys==(fn.params.toList++s.plain.varTypes P++fn.resultTypes.toList).any (P.wideKeysFrom ·))
def aa6(P:Program)(f:FuncId)(fn:Func)(s:ChangeSpec)(c:OpenClaim):Bool:=s.vars.all (P.varReadable ·)
def aa7(P:Program)(f:FuncId)(fn:Func)(s:ChangeSpec)(c:OpenClaim):Bool:=fn.resultTypes.all (fun t=>P.readableRec t&&decide (t<P.types.size))&&(c.ifacesOut==fn.resultTypes.toList.any (P.ifacesRec ·))&&(c.loopsOut==fn.resultTypes.toList.any (P.loopsFrom ·))
def aa8(P:Program)(f:FuncId)(fn:Func)(s:ChangeSpec)(c:OpenClaim):Bool:=(c.plainKeys==P.plainKeys)
def aa9(P:Program)(f:FuncId)(fn:Func)(s:ChangeSpec)(c:OpenClaim):Bool:=c.shortTexts.isNone&&P.stopsHeard
def aba(P:Program)(f:FuncId)(fn:Func)(s:ChangeSpec)(c:OpenClaim):Bool:=P.mayEnter
def abb(P:Program)(f:FuncId)(fn:Func)(s:ChangeSpec)(c:OpenClaim):Bool:=(c.lifted==P.liftsFinal)
def abc(P:Program)(f:FuncId)(fn:Func)(s:ChangeSpec)(c:OpenClaim):Bool:=(P.make==some c.make)
def abd(P:Program)(f:FuncId)(fn:Func)(s:ChangeSpec)(c:OpenClaim):Bool:=(c.kinds==(if c.domain.isEmpty then []else fn.params.toList.map fun t=>match P.underlying t with | some (.int k)=>some k | _=>none))&&(c.pinned==c.pinnedBy)
def abe(P:Program)(f:FuncId)(fn:Func)(s:ChangeSpec)(c:OpenClaim):Bool:=(c.veiled==(fn.params.toList++s.plain.varTypes P++fn.resultTypes.toList).any (P.veiledRec ·))&&c.veiledFits P fn.params.toList (fn.params.toList++s.plain.varTypes P++fn.resultTypes.toList)
def SN{P:Program}{f:FuncId}{fn:Func}{s:ChangeSpec}{c:OpenClaim}(k0:jg0 P f fn s c=true)(k1:jg1 P f fn s c=true)(k2:jg2 P f fn s c=true)(k3:jg3 P f fn s c=true)(k4:jg4 P f fn s c=true)(k5:jg5 P f fn s c=true)(k6:jg6 P f fn s c=true)(k7:jg7 P f fn s c=true)(k8:jg8 P f fn s c=true)(k9:jg9 P f fn s c=true)(k10:aa6 P f fn s c=true)(k11:aa7 P f fn s c=true)(k12:aa8 P f fn s c=true)(k13:aa9 P f fn s c=true)(k14:aba P f fn s c=true)(k15:abb P f fn s c=true)(k16:abc P f fn s c=true)(k17:abd P f fn s c=true)(k18:abe P f fn s c=true):joinedFacts P f fn s c=true:=by
 simp only[jg0,jg1,jg2,jg3,jg4,jg5,jg6,jg7,jg8,jg9,aa6,aa7,aa8,aa9,aba,abb,abc,abd,abe,Bool.and_eq_true]at k0 k1 k2 k3 k4 k5 k6 k7 k8 k9 k10 k11 k12 k13 k14 k15 k16 k17 k18;simp only[joinedFacts,Bool.and_eq_true];exact⟨⟨⟨⟨⟨⟨⟨⟨⟨⟨⟨⟨⟨⟨⟨⟨⟨⟨⟨⟨⟨⟨⟨⟨⟨⟨⟨⟨⟨⟨⟨k0,k1⟩,k2⟩,k3.1⟩,k3.2⟩,k4.1.1.1⟩,k4.1.1.2⟩,k4.1.2⟩,k4.2⟩,k5⟩,k6⟩,k7⟩,k8⟩,k9.1.1.1.1⟩,k9.1.1.1.2⟩,k9.1.1.2⟩,k9.1.2⟩,k9.2⟩,k10⟩,k11.1.1⟩,k11.1.2⟩,k11.2⟩,k12⟩,k13.1⟩,k13.2⟩,k14⟩,k15⟩,k16⟩,k17.1⟩,k17.2⟩,k18.1⟩,k18.2⟩
abbrev Fj:ChangeSpec:=(OpenSpec.ofChange Rows.topSeeSpec).bare
def jf0:jg0 Tryz.prog 8 Tryz.f8 Fj Rows.topSeeRow=true:=by kernel_rfl
def jf1:jg1 Tryz.prog 8 Tryz.f8 Fj Rows.topSeeRow=true:=by kernel_rfl
def jf2:jg2 Tryz.prog 8 Tryz.f8 Fj Rows.topSeeRow=true:=by kernel_rfl
def jf3:jg3 Tryz.prog 8 Tryz.f8 Fj Rows.topSeeRow=true:=by kernel_rfl
def jf4:jg4 Tryz.prog 8 Tryz.f8 Fj Rows.topSeeRow=true:=by kernel_rfl
def jf5:jg5 Tryz.prog 8 Tryz.f8 Fj Rows.topSeeRow=true:=by kernel_rfl
def jf6:jg6 Tryz.prog 8 Tryz.f8 Fj Rows.topSeeRow=true:=by kernel_rfl
def jf7:jg7 Tryz.prog 8 Tryz.f8 Fj Rows.topSeeRow=true:=by kernel_rfl
def jf8:jg8 Tryz.prog 8 Tryz.f8 Fj Rows.topSeeRow=true:=by kernel_rfl
def jf9:jg9 Tryz.prog 8 Tryz.f8 Fj Rows.topSeeRow=true:=by kernel_rfl
def ahk:aa6 Tryz.prog 8 Tryz.f8 Fj Rows.topSeeRow=true:=by kernel_rfl
def ahl:aa7 Tryz.prog 8 Tryz.f8 Fj Rows.topSeeRow=true:=by kernel_rfl
def ahm:aa8 Tryz.prog 8 Tryz.f8 Fj Rows.topSeeRow=true:=by kernel_rfl
def ahn:aa9 Tryz.prog 8 Tryz.f8 Fj Rows.topSeeRow=true:=by kernel_rfl
def aho:aba Tryz.prog 8 Tryz.f8 Fj Rows.topSeeRow=true:=by kernel_rfl
def ahp:abb Tryz.prog 8 Tryz.f8 Fj Rows.topSeeRow=true:=by kernel_rfl
def ahq:abc Tryz.prog 8 Tryz.f8 Fj Rows.topSeeRow=true:=by kernel_rfl
def ahr:abd Tryz.prog 8 Tryz.f8 Fj Rows.topSeeRow=true:=by kernel_rfl
def ahs:abe Tryz.prog 8 Tryz.f8 Fj Rows.topSeeRow=true:=by kernel_rfl
def abf:joinedFacts Tryz.prog 8 Tryz.f8 Fj Rows.topSeeRow=true:=
 SN jf0 jf1 jf2 jf3 jf4 jf5 jf6 jf7 jf8 jf9 ahk ahl ahm ahn aho ahp ahq ahr ahs
end Go.Proofs.YthdinakloheinaaGreatDoor

namespace Go.X.Fa
open Go Go.X
variable{i id j k m:Int}
def AH(k i k' i':Int):Prop:=k<k'\/(k=k'/\i<i')
instance (k i k' i':Int):Decidable (AH k i k' i'):=by unfold AH;infer_instance
structure QS where
 n:Nat
 K:Int->Int
 I:Int->Int
 at_:Int->Int
def QS.set(s:QS)(i k id:Int):QS:= {s with K:=ae s.K i k,I:=ae s.I i id,at_:=ae s.at_ id (i+1)}
def QS.Eh:Nat->QS->Int->Int->Int->QS
 | 0,s,i,k,id=>s.set i k id
 | f+1,s,i,k,id=>if 0<i/\AH k id (s.K ((i-1)/2)) (s.I ((i-1)/2))then QS.Eh f (s.set i (s.K ((i-1)/2)) (s.I ((i-1)/2))) ((i-1)/2) k id else s.set i k id
def QS.up(s:QS)(i:Int):QS:=QS.Eh i.toNat s i (s.K i) (s.I i)
def QS.bA(s:QS)(i:Int):Int:=if 2*i+1+1<s.n/\AH (s.K (2*i+1+1)) (s.I (2*i+1+1)) (s.K (2*i+1)) (s.I (2*i+1))then 2*i+1+1 else 2*i+1
def QS.ku:Nat->QS->Int->Int->Int->QS
 | 0,s,i,k,id=>s.set i k id
 | f+1,s,i,k,id=>if s.bA i<s.n/\AH (s.K (s.bA i)) (s.I (s.bA i)) k id then QS.ku f (s.set i (s.K (s.bA i)) (s.I (s.bA i))) (s.bA i) k id else s.set i k id
def QS.down(s:QS)(i:Int):QS:=QS.ku (s.n-i.toNat) s i (s.K i) (s.I i)
def QS.ka(s:QS)(k id:Int):QS:= {s with n:=s.n+1,K:=ae s.K s.n k,I:=ae s.I s.n id}
def QS.put(s:QS)(id k:Int):Int×QS:=if id<0\/63<id then(1,s)else if 0<s.at_ id then(3,s)else(0,(s.ka k id).up s.n)
def QS.fe(s:QS)(id:Int):QS:= {s with n:=s.n-1,at_:=ae s.at_ id 0}
def QS.abg(s:QS)(i k id:Int):QS:=((s.set i k id).down i).up (((s.set i k id).down i).at_ id-1)
def QS.vz(s:QS)(id:Int):QS:=if s.at_ id-1<(s.n:Int)-1 then(s.fe id).abg (s.at_ id-1) (s.K ((s.n:Int)-1)) (s.I ((s.n:Int)-1))else s.fe id
def QS.cut(s:QS)(id:Int):Int×Int×QS:=if id<0\/63<id then(0,1,s)else if s.at_ id=0 then(0,2,s)else(s.K (s.at_ id-1),0,s.vz id)
def QS.iJ(s:QS)(id:Int):Int×Int:=if id<0\/63<id then(0,1)else if s.at_ id=0 then(0,2)else(s.K (s.at_ id-1),0)
def QS.dm:QS:=⟨0,fun _=>0,fun _=>0,fun _=>0⟩
structure QS.Ok (s:QS):Prop where
 n64:s.n<=64
 kv:∀ j:Int,0<=j->j<s.n->0<=s.I j/\s.I j<64
 I4:∀ j:Int,0<=j->j<s.n->s.at_ (s.I j)=j+1
 LG:∀ id,0<=id->id<64->s.at_ id=0\/(1<=s.at_ id/\s.at_ id<=s.n/\s.I (s.at_ id-1)=id)
def QS.L(s:QS)(a b:Int):Prop:=AH (s.K a) (s.I a) (s.K b) (s.I b)
instance (s:QS) (a b:Int):Decidable (s.L a b):=by unfold QS.L;infer_instance
def QS.vn(s:QS):Prop:=∀ j:Int,0<j->j<s.n->¬s.L j ((j-1)/2)
theorem qp{s:QS}{a b:Int}(h:s.L a b):¬s.L b a:=by unfold QS.L AH at*;omega
theorem rs{s:QS}{a b c:Int}(h:¬s.L a b)(h2:¬s.L b c):¬s.L a c:=by grind [QS.L,AH]
def QS.Z2(s:QS)(a:Int):¬s.L a a:=by unfold QS.L AH;omega
def sw(i j m:Int):Int:=if m=i then j else if m=j then i else m
theorem G3(i j:Int):sw i j i=j:=by simp[sw]
theorem PG(i j:Int):sw i j j=i:=by
 unfold sw;split
 ·rename_i h;exact h
 ·simp
theorem Ev(h1:¬m=i)(h2:¬m=j):sw i j m=m:=by simp[sw,h1,h2]
def QS.swap(s:QS)(i j:Int):QS:=(s.set i (s.K j) (s.I j)).set j (s.K i) (s.I i)
theorem Fk(s:QS)(i j m:Int):(s.swap i j).K m=s.K (sw i j m):=by
 show ae (ae s.K i (s.K j)) j (s.K i) m=_;grind [ae,sw]
theorem qq(s:QS)(i j m:Int):(s.swap i j).I m=s.I (sw i j m):=by
 show ae (ae s.I i (s.I j)) j (s.I i) m=_;grind [ae,sw]
theorem uF(s:QS)(i j a b:Int):(s.swap i j).L a b↔s.L (sw i j a) (sw i j b):=by
 grind [QS.L,Fk,qq]
theorem Cp(s:QS)(i j id:Int):(s.swap i j).at_ id=if id=s.I i then j+1 else if id=s.I j then i+1 else s.at_ id:=rfl
def QS.LH(s:QS)(id:Int):Int:=s.K (s.at_ id-1)
structure QS.wh (s t:QS):Prop where
 n:t.n=s.n
 at_:∀ id,0<=id->id<64->(t.at_ id=0↔s.at_ id=0)
 k:∀ id,0<=id->id<64->¬s.at_ id=0->t.LH id=s.LH id
theorem QS.wh.refl(s:QS):s.wh s:=⟨rfl,fun _ _ _=>Iff.rfl,fun _ _ _ _=>rfl⟩
def QS.wh.trans{s t u:QS}(h:s.wh t)(h2:t.wh u):s.wh u:=
 ⟨h2.n.trans h.n,fun id a b=>(h2.at_ id a b).trans (h.at_ id a b),fun id a b c=>(h2.k id a b fun q=>c ((h.at_ id a b).1 q)).trans (h.k id a b c)⟩
theorem QS.Ok.inj{s:QS}(h:s.Ok)(hi:0<=i/\i<s.n)(hj:0<=j/\j<s.n)(he:s.I i=s.I j):i=j:=by
 grind [QS.Ok.I4]
def abi{n:Nat}(hi:0<=i/\i<n)(hj:0<=j/\j<n)(hm:0<=m/\m<n):0<=sw i j m/\sw i j m<n:=by
 grind [sw]
def QS.Ok.swap{s:QS}(h:s.Ok){i j:Int}(hi:0<=i/\i<s.n)(hj:0<=j/\j<s.n)(gK:¬i=j):(s.swap i j).Ok/\s.wh (s.swap i j):=by
 have hII:¬s.I i=s.I j:=fun e=>gK (h.inj hi hj e);have hn:(s.swap i j).n=s.n:=rfl;refine⟨⟨h.n64,fun m m0 m1=> ?_,fun m m0 m1=> ?_,fun id d0 d1=> ?_⟩,⟨rfl,fun id d0 d1=> ?_,fun id d0 d1 hp=> ?_⟩⟩
 ·rw[qq];have:=abi hi hj ⟨m0,m1⟩;exact h.kv _ this.1 this.2
 ·grind [qq,Cp,G3,PG,Ev,QS.Ok.I4]
 all_goals grind [Cp,qq,PG,G3,QS.Ok.LG,Ev,QS.Ok.I4,QS.LH,Fk]
def QS.RJ:Nat->QS->Int->QS
 | 0,s,_=>s
 | f+1,s,i=>if 0<i/\s.L i ((i-1)/2)then QS.RJ f (s.swap i ((i-1)/2)) ((i-1)/2)else s
theorem gX{s:QS}(h:¬m=i):(s.set i k id).K m=s.K m/\(s.set i k id).I m=s.I m:=⟨ai _ _ h,ai _ _ h⟩
theorem QS.s9(s:QS)(i k id:Int):(s.set i k id).K i=k/\(s.set i k id).I i=id:=⟨au _ _ _,au _ _ _⟩
theorem Cq{s:QS}{p:Int}(hp:¬p=i):(s.set i (s.K p) (s.I p)).set p k id=(s.set i k id).swap i p:=by
 unfold QS.swap;rw[(gX hp).1,(gX hp).2,(s.s9 i k id).1,(s.s9 i k id).2];unfold QS.set;simp only[QS.mk.injEq,true_and];grind [ae]
theorem wi:∀ (f:Nat) (s:QS) (i k id:Int),QS.Eh f s i k id=QS.RJ f (s.set i k id) i
 | 0,_,_,_,_=>rfl
 | f+1,s,i,k,id=>by
  have e:(0<i/\AH k id (s.K ((i-1)/2)) (s.I ((i-1)/2)))↔(0<i/\(s.set i k id).L i ((i-1)/2)):=by
   grind [QS.L,QS.s9,gX]
  rw[QS.Eh,QS.RJ];by_cases c:0<i/\AH k id (s.K ((i-1)/2)) (s.I ((i-1)/2))
  ·rw[if_pos c,if_pos (e.1 c),wi f,Cq og]
  grind
theorem AI{s:QS}(h:s.at_ (s.I i)=i+1):s.set i (s.K i) (s.I i)=s:=by
 simp_all[QS.set,cy]
def QS.Z3(s:QS)(i:Int):Prop:=(∀ j:Int,0<j->j<s.n->¬j=i->¬s.L j ((j-1)/2))/\(0<i->∀ j:Int,0<j->j<s.n->(j-1)/2=i->¬s.L j ((i-1)/2))
theorem QS.Ok.RJ:∀ (f:Nat) {s:QS} {i:Int},s.Ok->s.Z3 i->0<=i->i<s.n->i<=f->(QS.RJ f s i).Ok/\s.wh (QS.RJ f s i)/\(QS.RJ f s i).vn:=by
 have stop:∀ {s:QS} {i:Int},s.Z3 i->¬(0<i/\s.L i ((i-1)/2))->s.vn:=fun {s i} he hn j j0 j1=>by
  grind [QS.Z3]
 intro f;induction f with
 | zero=>exact fun h he h0 h1 hf=>⟨h,QS.wh.refl _,stop he og⟩
 | succ f ih=>
  intro s i h he h0 h1 hf;rw[QS.RJ];by_cases c:0<i/\s.L i ((i-1)/2)
  ·rw[if_pos c];have PH:0<=(i-1)/2/\(i-1)/2<s.n:=og;have gK:¬i=(i-1)/2:=og;obtain⟨o1,o2⟩:=h.swap ⟨h0,h1⟩ PH gK;have ZL:(s.swap i ((i-1)/2)).Z3 ((i-1)/2):=by
    refine⟨fun j j0 j1 jn=> ?_,fun p0 j j0 j1 jp=> ?_⟩
    ·rw[uF];by_cases c1:j=i
     ·grind [G3,PG,qp]
     ·rw[Ev c1 jn];by_cases c2:(j-1)/2=i
      ·rw[c2,G3];exact he.2 c.1 j j0 j1 c2
      ·by_cases c3:(j-1)/2=(i-1)/2
       ·rw[c3,PG];have:=he.1 j j0 j1 c1;grind [rs,qp]
       ·rw[Ev c2 c3];exact he.1 j j0 j1 c1
    ·rw[uF];have hpp:=he.1 ((i-1)/2) p0 PH.2 fun e=>gK e.symm;have q1:¬((i-1)/2-1)/2=i:=og;have q2:¬((i-1)/2-1)/2=(i-1)/2:=og;rw[Ev q1 q2];by_cases c1:j=i
     ·grind [G3]
     ·have jn:¬j=(i-1)/2:=og;rw[Ev c1 jn];have:=he.1 j j0 j1 c1;grind [rs]
   obtain⟨i1,i2,i3⟩:=ih o1 ZL PH.1 PH.2 og;exact⟨i1,o2.trans i2,i3⟩
  ·rw[if_neg c];exact⟨h,QS.wh.refl _,stop he c⟩
theorem QS.Ok.abj{s:QS}(h:s.Ok)(h0:0<=i)(h1:i<s.n):s.up i=QS.RJ i.toNat s i:=by
 grind [QS.up,wi,AI,QS.Ok.I4]
def QS.sm:Nat->QS->Int->QS
 | 0,s,_=>s
 | f+1,s,i=>if s.bA i<s.n/\s.L (s.bA i) i then QS.sm f (s.swap i (s.bA i)) (s.bA i)else s
theorem QS.gY(s:QS)(i:Int):(s.bA i=2*i+2/\2*i+2<s.n/\s.L (2*i+2) (2*i+1))\/(s.bA i=2*i+1/\(2*i+2<s.n->¬s.L (2*i+2) (2*i+1))):=by
 grind [QS.bA,QS.L]
theorem xv{s:QS}(h:0<=i):(s.set i k id).bA i=s.bA i:=by
 have h1:¬ 2*i+1+1=i:=og;have h2:¬ 2*i+1=i:=og;unfold QS.bA;rw[(gX h1).1,(gX h1).2,(gX h2).1,(gX h2).2];rfl
theorem td:∀ (f:Nat) (s:QS) (i k id:Int),0<=i->QS.ku f s i k id=QS.sm f (s.set i k id) i
 | 0,_,_,_,_,_=>rfl
 | f+1,s,i,k,id,h=>by
  have hc:0<=s.bA i/\¬s.bA i=i:=by
   grind [QS.gY]
  have e:(s.bA i<s.n/\AH (s.K (s.bA i)) (s.I (s.bA i)) k id)↔((s.set i k id).bA i<(s.set i k id).n/\(s.set i k id).L ((s.set i k id).bA i) i):=by
   rw[xv h];unfold QS.L;rw[(s.s9 i k id).1,(s.s9 i k id).2,(gX hc.2).1,(gX hc.2).2];rfl
  rw[QS.ku,QS.sm];by_cases c:s.bA i<s.n/\AH (s.K (s.bA i)) (s.I (s.bA i)) k id
  ·simp_all[td,Cq,xv]
  grind
def QS.Mid(s:QS)(i:Int)(b:Prop):Prop:=(∀ j:Int,0<j->j<s.n->¬(j-1)/2=i->(¬j=i\/b)->¬s.L j ((j-1)/2))/\(0<i->∀ j:Int,0<j->j<s.n->(j-1)/2=i->¬s.L j ((i-1)/2))
theorem QS.Ok.sm:∀ (f:Nat) {s:QS} {i:Int} {b:Prop},s.Ok->s.Mid i b->0<=i->i<s.n->(s.n:Int)<=i+f->(QS.sm f s i).Ok/\s.wh (QS.sm f s i)/\∃ q:Int,(0<=q/\q<s.n)/\(QS.sm f s i).I q=s.I i/\(QS.sm f s i).Z3 q:=by
 have stop:∀ {s:QS} {i:Int} {b:Prop},s.Mid i b->0<=i->¬(s.bA i<s.n/\s.L (s.bA i) i)->s.Z3 i:=fun {s i b} hm h0 hn=>by
  refine⟨fun j j0 j1 jn=> ?_,hm.2⟩;by_cases c:(j-1)/2=i
  ·rw[c];intro hl;rcases s.gY i with⟨q1,q2,q3⟩ | ⟨q1,q2⟩
   ·rw[q1]at hn;have h2:¬s.L (2*i+2) i:=fun e=>hn ⟨q2,e⟩;grind [rs,qp]
   grind [rs]
  grind [QS.Mid]
 intro f;induction f with
 | zero=>exact fun h hm h0 h1 hf=>og
 | succ f ih=>
  intro s i b h hm h0 h1 hf;rw[QS.sm];by_cases c:s.bA i<s.n/\s.L (s.bA i) i
  ·rw[if_pos c];have hcc:=s.gY i;have hcn:i<s.bA i/\(s.bA i-1)/2=i:=by
    omega
   have gK:¬i=s.bA i:=og;obtain⟨o1,o2⟩:=h.swap ⟨h0,h1⟩ ⟨og,c.1⟩ gK;have hm':(s.swap i (s.bA i)).Mid (s.bA i) True:=by
    refine⟨fun j j0 j1 jp _=> ?_,fun p0 j j0 j1 jp=> ?_⟩
    ·rw[uF];by_cases c1:j=s.bA i
     ·grind [PG,G3,qp]
     ·by_cases c2:j=i
      ·grind [G3,Ev,QS.Mid]
      ·rw[Ev c2 c1];by_cases c3:(j-1)/2=i
       ·rw[c3,G3];rcases hcc with⟨q1,q2,q3⟩ | ⟨q1,q2⟩
        ·grind [qp]
        ·rw[q1]at c1 ⊢;have hj:j=2*i+2:=og;rw[hj];exact q2 (by rw[<-hj];exact j1)
       ·rw[Ev c3 jp];exact hm.1 j j0 j1 c3 (.inl c2)
    ·rw[uF,hcn.2,G3];have c2:¬j=i:=og;have c1:¬j=s.bA i:=og;rw[Ev c2 c1];have:=hm.1 j j0 j1 og (.inl c2);simp_all
   obtain⟨i1,i2,q,q1,q2,q3⟩:=ih o1 hm' og c.1 (by show(s.n:Int)<=_;omega);refine⟨i1,o2.trans i2,q,q1,?_,q3⟩;rw[q2,qq,PG]
  ·grind [QS.wh.refl]
theorem QS.Ok.I5{s:QS}(h:s.Ok)(h0:0<=i)(h1:i<s.n):s.down i=QS.sm (s.n-i.toNat) s i:=by
 grind [QS.down,td,AI,QS.Ok.I4]
def Cr:∀ (n m:Nat) (f:Nat->Nat),n<m->(∀ i,i<m->f i<n)->∃ i j,i<j/\j<m/\f i=f j
 | 0,m,f,h,hf=>absurd (hf 0 h) og
 | n+1,m,f,h,hf=>by
  by_cases he:∃ i,i<m-1/\f i=f (m-1)
  ·obtain⟨i,h1,h2⟩:=he;exact⟨i,m-1,h1,og,h2⟩
  ·have gK:∀ i,i<m-1->¬f i=f (m-1):=fun i hi e=>he ⟨i,hi,e⟩;have hv:=hf (m-1) og;obtain⟨i,j,h1,h2,h3⟩:=Cr n (m-1) (fun i=>if f i=n then f (m-1)else f i) og (fun i hi=>by
    have a1:=hf i og
    have a2:=gK i hi
    show(if f i=n then f (m-1)else f i)<n
    split<;>omega)
   refine⟨i,j,h1,og,?_⟩;have a1:=gK i og;have a2:=gK j og;split at h3<;>split at h3<;>omega
theorem QS.Ok.room{s:QS}(h:s.Ok)(hd:0<=id/\id<64)(hz:s.at_ id=0):s.n<64:=by
 apply Classical.byContradiction;intro hc;have hn:s.n=64:=by have:=h.n64;omega
 obtain⟨i,j,h1,h2,h3⟩:=Cr 64 65 (fun i=>if i<64 then(s.I i).toNat else id.toNat) og (fun i hi=>by
  show(if i<64 then(s.I i).toNat else id.toNat)<64
  by_cases c:i<64
  ·rw[if_pos c];have:=h.kv i og og;omega
  ·rw[if_neg c];omega)
 have r1:=h.kv i og og;rw[if_pos og]at h3;by_cases c:j<64
 ·rw[if_pos c]at h3;have r2:=h.kv j og og;have:=h.inj (i:=i) (j:=j) ⟨og,og⟩ ⟨og,og⟩ og;omega
 ·rw[if_neg c]at h3;have:=h.I4 i og og;rw[show s.I i=id from og,hz]at this;omega
theorem QS.Ok.dm:QS.dm.Ok:=⟨dq,fun j j0 j1=>by simp[QS.dm]at j1;omega,fun j j0 j1=>by simp[QS.dm]at j1;omega,fun _ _ _=>.inl rfl⟩
def G4:QS.dm.vn:=fun j j0 j1=>by simp[QS.dm]at j1;omega
def QS.Ok.abl{s:QS}(h:s.Ok)(hh:s.vn)(hd:0<=id/\id<64)(hz:s.at_ id=0)(k:Int):((s.ka k id).up s.n).Ok/\((s.ka k id).up s.n).vn/\((s.ka k id).up s.n).n=s.n+1/\(∀ x,0<=x->x<64->(((s.ka k id).up s.n).at_ x=0↔(¬x=id/\s.at_ x=0))/\(¬x=id->¬s.at_ x=0->((s.ka k id).up s.n).LH x=s.LH x))/\((s.ka k id).up s.n).LH id=k:=by
 have lD:=h.room hd hz;have e1:(s.ka k id).up s.n=QS.RJ s.n ((s.ka k id).set s.n k id) s.n:=by
  simp_all[QS.up,wi,QS.ka,au]
 have tn:((s.ka k id).set s.n k id).n=s.n+1:=rfl;have ta:∀ x,((s.ka k id).set s.n k id).at_ x=if x=id then(s.n:Int)+1 else s.at_ x:=fun _=>rfl
 have tI:∀ m,((s.ka k id).set s.n k id).I m=if m=s.n then id else s.I m:=fun m=>by
  show ae (ae s.I s.n id) s.n id m=_;grind [ae]
 have tK:∀ m,((s.ka k id).set s.n k id).K m=if m=s.n then k else s.K m:=fun m=>by
  show ae (ae s.K s.n k) s.n k m=_;grind [ae]
 have vt:∀ j:Int,0<=j->j<s.n->¬s.I j=id:=fun j j0 j1 e=>by
  grind [QS.Ok.I4]
 have xt:((s.ka k id).set s.n k id).Ok:=by
  refine⟨by rw[tn];omega,fun j j0 j1=> ?_,fun j j0 j1=> ?_,fun x x0 x1=> ?_⟩
  ·rw[tI];split
   ·omega
   ·exact h.kv j j0 (by rw[tn]at j1;omega)
  ·grind [QS.Ok.I4]
  grind [QS.Ok.LG]
 have hex:((s.ka k id).set s.n k id).Z3 s.n:=by
  refine⟨fun j j0 j1 jn=> ?_,fun _ j j0 j1 jp=>by rw[tn]at j1;omega⟩;grind [QS.L,QS.vn]
 obtain⟨r1,r2,r3⟩:=xt.RJ s.n (i:=s.n) hex og (by rw[tn];omega) og;rw[<-e1]at r1 r2 r3;have hid:=r2.k id hd.1 hd.2 (by rw[ta,if_pos rfl];omega);refine⟨r1,r3,r2.n.trans tn,fun x x0 x1=>⟨?_,fun xn xp=> ?_⟩,?_⟩
 ·rw[r2.at_ x x0 x1,ta];omega
 ·rw[r2.k x x0 x1 (by rw[ta,if_neg xn];exact xp)];grind [QS.LH,QS.Ok.LG]
 grind [QS.LH]
def QS.Ok.abm{s:QS}(h:s.Ok)(hh:s.vn)(hd:0<=id/\id<64)(hz:¬s.at_ id=0):(s.vz id).Ok/\(s.vz id).vn/\(s.vz id).n=s.n-1/\(∀ x,0<=x->x<64->((s.vz id).at_ x=0↔(x=id\/s.at_ x=0))/\(¬x=id->¬s.at_ x=0->(s.vz id).LH x=s.LH x)):=by
 obtain⟨a1,a2,a3⟩:=(h.LG id hd.1 hd.2).resolve_left hz;unfold QS.vz;by_cases c:s.at_ id-1<(s.n:Int)-1
 ·rw[if_pos c];generalize hi:s.at_ id-1=i at*;generalize hx:s.I ((s.n:Int)-1)=xi at*;generalize hk:s.K ((s.n:Int)-1)=xk at*;have hxr:=h.kv ((s.n:Int)-1) og og;have RW:=h.I4 ((s.n:Int)-1) og og;rw[hx]at hxr RW;have hxd:¬xi=id:=fun e=>by rw[e]at RW;omega
  have tn:((s.fe id).set i xk xi).n=s.n-1:=rfl;have ta:∀ x,((s.fe id).set i xk xi).at_ x=if x=xi then i+1 else if x=id then 0 else s.at_ x:=fun _=>rfl
  have tI:∀ m,((s.fe id).set i xk xi).I m=if m=i then xi else s.I m:=fun _=>rfl
  have tK:∀ m,((s.fe id).set i xk xi).K m=if m=i then xk else s.K m:=fun _=>rfl
  have xt:((s.fe id).set i xk xi).Ok:=by
   refine⟨by rw[tn];have:=h.n64;omega,fun j j0 j1=> ?_,fun j j0 j1=> ?_,fun x x0 x1=> ?_⟩
   ·rw[tn]at j1;rw[tI];split
    ·omega
    ·exact h.kv j j0 og
   ·grind [QS.Ok.I4]
   grind [QS.Ok.LG]
  have aeB:((s.fe id).set i xk xi).Mid i False:=by
   refine⟨fun j j0 j1 jp jb=> ?_,fun i0 j j0 j1 jp=> ?_⟩
   ·grind [QS.L,QS.vn]
   ·rw[tn]at j1;have cj:¬j=i:=og;have cp:¬(i-1)/2=i:=og;unfold QS.L;rw[tK,tK,tI,tI,if_neg cj,if_neg cj,if_neg cp,if_neg cp];have g1:=hh j j0 og;rw[jp]at g1;exact rs g1 (hh i i0 og)
  obtain⟨d1,d2,q,q1,q2,q3⟩:=xt.sm (((s.fe id).set i xk xi).n-i.toNat) aeB og (by rw[tn];omega) (by rw[tn];omega);rw[<-xt.I5 og (by rw[tn];omega)]at d1 d2 q2 q3;have hq:(((s.fe id).set i xk xi).down i).at_ xi-1=q:=by
   grind [QS.Ok.I4,QS.wh.n]
  have hf:(s.fe id).abg i xk xi=(((s.fe id).set i xk xi).down i).up q:=by unfold QS.abg;rw[hq]
  obtain⟨u1,u2,u3⟩:=d1.RJ q.toNat q3 q1.1 (by rw[d2.n];exact q1.2) og;rw[<-d1.abj q1.1 (by rw[d2.n];exact q1.2),<-hf]at u1 u2 u3;have hs:=d2.trans u2;refine⟨u1,u3,hs.n.trans tn,fun x x0 x1=>⟨?_,fun xn xp=> ?_⟩⟩
  ·rw[hs.at_ x x0 x1,ta];grind
  ·have hp:¬((s.fe id).set i xk xi).at_ x=0:=by
    grind
   rw[hs.k x x0 x1 hp];grind [QS.LH,QS.Ok.LG]
 ·rw[if_neg c];have hl:s.at_ id=s.n:=og;have tn:(s.fe id).n=s.n-1:=rfl;have ta:∀ x,(s.fe id).at_ x=if x=id then 0 else s.at_ x:=fun _=>rfl
  refine⟨⟨by rw[tn];have:=h.n64;omega,fun j j0 j1=>h.kv j j0 (by rw[tn]at j1;omega),fun j j0 j1=> ?_,fun x x0 x1=> ?_⟩,fun j j0 j1=>hh j j0 (by rw[tn]at j1;omega),tn,fun x x0 x1=>⟨?_,fun xn xp=> ?_⟩⟩
  ·rw[tn]at j1;show(s.fe id).at_ (s.I j)=j+1;grind [QS.Ok.I4]
  ·rw[ta];by_cases c2:x=id
   ·omega
   ·rw[if_neg c2];rcases h.LG x x0 x1 with g | ⟨g1,g2,g3⟩
    ·omega
    ·have:¬s.at_ x=s.n:=fun e=>by
      simp_all
     exact .inr ⟨g1,by rw[tn];omega,g3⟩
  ·grind
  ·unfold QS.LH;rw[ta,if_neg xn];rfl
def QS.vn.Z4{s:QS}(h:s.vn):∀ (m:Nat) (j:Int),j.toNat<=m->0<=j->j<s.n->¬s.L j 0
 | 0,j,hm,h0,h1=>by
  have:j=0:=og;rw[this];exact s.Z2 0
 | m+1,j,hm,h0,h1=>by
  by_cases c:j=0
  ·rw[c];exact s.Z2 0
  ·exact rs (h j og h1) (QS.vn.Z4 h m ((j-1)/2) og og og)
def AJ:∀ (f f':Nat) (s:QS) (i k id:Int),i<=f->i<=f'->QS.Eh f s i k id=QS.Eh f' s i k id
 | 0,0,_,_,_,_,_,_=>rfl
 | 0,f'+1,s,i,k,id,h,_=>by rw[QS.Eh,QS.Eh,if_neg og]
 | f+1,0,s,i,k,id,_,h=>by rw[QS.Eh,QS.Eh,if_neg og]
 | f+1,f'+1,s,i,k,id,h,h'=>by
  rw[QS.Eh,QS.Eh];split
  ·exact AJ f f' _ _ _ _ og og
  ·rfl
def I6{s:QS}(h:0<i)(h2:AH k id (s.K ((i-1)/2)) (s.I ((i-1)/2))):QS.Eh i.toNat s i k id=QS.Eh ((i-1)/2).toNat (s.set i (s.K ((i-1)/2)) (s.I ((i-1)/2))) ((i-1)/2) k id:=by
 obtain⟨f,hf⟩:∃ f,i.toNat=f+1:=⟨i.toNat-1,og⟩;rw[hf,QS.Eh,if_pos ⟨h,h2⟩];exact AJ _ _ _ _ _ _ og og
def AK{s:QS}(h:¬(0<i/\AH k id (s.K ((i-1)/2)) (s.I ((i-1)/2)))):QS.Eh i.toNat s i k id=s.set i k id:=by
 cases hf:i.toNat with
 | zero=>rfl
 | succ f=>rw[QS.Eh,if_neg h]
def vA:∀ (f f':Nat) (s:QS) (i k id:Int),0<=i->(s.n:Int)<=i+f->(s.n:Int)<=i+f'->QS.ku f s i k id=QS.ku f' s i k id
 | 0,0,_,_,_,_,_,_,_=>rfl
 | 0,f'+1,s,i,k,id,h0,h,_=>by
  rw[QS.ku,QS.ku,if_neg];rintro⟨q,_⟩;rcases s.gY i with⟨e,_⟩ | ⟨e,_⟩<;>omega
 | f+1,0,s,i,k,id,h0,_,h=>by
  rw[QS.ku,QS.ku,if_neg];rintro⟨q,_⟩;rcases s.gY i with⟨e,_⟩ | ⟨e,_⟩<;>omega
 | f+1,f'+1,s,i,k,id,h0,h,h'=>by
  have hc:i<s.bA i:=by rcases s.gY i with⟨e,_⟩ | ⟨e,_⟩<;>omega
  rw[QS.ku,QS.ku];split
  ·exact vA f f' _ _ _ _ og (by show(s.n:Int)<=_;omega) (by show(s.n:Int)<=_;omega)
  ·rfl
def Ew{s:QS}(h0:0<=i)(h1:i<s.n)(h:s.bA i<s.n)(h2:AH (s.K (s.bA i)) (s.I (s.bA i)) k id):QS.ku (s.n-i.toNat) s i k id=QS.ku (s.n-(s.bA i).toNat) (s.set i (s.K (s.bA i)) (s.I (s.bA i))) (s.bA i) k id:=by
 have hc:i<s.bA i:=by rcases s.gY i with⟨e,_⟩ | ⟨e,_⟩<;>omega
 obtain⟨f,hf⟩:∃ f,s.n-i.toNat=f+1:=⟨s.n-i.toNat-1,og⟩;rw[hf,QS.ku,if_pos ⟨h,h2⟩];exact vA _ _ _ _ _ _ og (by show(s.n:Int)<=_;omega) (by show(s.n:Int)<=_;omega)
def vB{s:QS}{f:Nat}(h:¬(s.bA i<s.n/\AH (s.K (s.bA i)) (s.I (s.bA i)) k id)):QS.ku f s i k id=s.set i k id:=by
 cases f with
 | zero=>rfl
 | succ f=>rw[QS.ku,if_neg h]
def QS.Ok.mid{s:QS}(h:s.Ok)(hh:s.vn){xk xi:Int}(hd:0<=id/\id<64)(hz:¬s.at_ id=0)(hi:s.at_ id-1=i)(hx:s.I ((s.n:Int)-1)=xi)(c:i<(s.n:Int)-1):((s.fe id).set i xk xi).Ok/\(((s.fe id).set i xk xi).down i).Ok/\((s.fe id).set i xk xi).wh (((s.fe id).set i xk xi).down i)/\∃ q:Int,(0<=q/\q<((s.fe id).set i xk xi).n)/\(((s.fe id).set i xk xi).down i).Z3 q/\(((s.fe id).set i xk xi).down i).at_ xi-1=q:=by
 obtain⟨a1,a2,a3⟩:=(h.LG id hd.1 hd.2).resolve_left hz;rw[hi]at a3;have hxr:=h.kv ((s.n:Int)-1) og og;have RW:=h.I4 ((s.n:Int)-1) og og;rw[hx]at hxr RW;have hxd:¬xi=id:=fun e=>by rw[e]at RW;omega
 have tn:((s.fe id).set i xk xi).n=s.n-1:=rfl;have ta:∀ x,((s.fe id).set i xk xi).at_ x=if x=xi then i+1 else if x=id then 0 else s.at_ x:=fun _=>rfl
 have tI:∀ m,((s.fe id).set i xk xi).I m=if m=i then xi else s.I m:=fun _=>rfl
 have tK:∀ m,((s.fe id).set i xk xi).K m=if m=i then xk else s.K m:=fun _=>rfl
 have xt:((s.fe id).set i xk xi).Ok:=by
  refine⟨by rw[tn];have:=h.n64;omega,fun j j0 j1=> ?_,fun j j0 j1=> ?_,fun x x0 x1=> ?_⟩
  ·rw[tn]at j1;rw[tI];split
   ·omega
   ·exact h.kv j j0 og
  ·grind [QS.Ok.I4]
  grind [QS.Ok.LG]
 have aeB:((s.fe id).set i xk xi).Mid i False:=by
  refine⟨fun j j0 j1 jp jb=> ?_,fun i0 j j0 j1 jp=> ?_⟩
  ·grind [QS.L,QS.vn]
  ·rw[tn]at j1;have cj:¬j=i:=og;have cp:¬(i-1)/2=i:=og;unfold QS.L;rw[tK,tK,tI,tI,if_neg cj,if_neg cj,if_neg cp,if_neg cp];have g1:=hh j j0 og;rw[jp]at g1;exact rs g1 (hh i i0 og)
 grind [QS.Ok.sm,QS.Ok.I5,QS.Ok.I4,QS.wh.n]
def QS.first(s:QS):Int×Int×Bool:=if s.n=0 then(0,0,false)else(s.I 0,s.K 0,true)
theorem I7{s:QS}(h:¬(id<0\/63<id))(h2:¬s.at_ id=0):s.iJ id=(s.K (s.at_ id-1),0):=by grind [QS.iJ]
def gq(s:QS)(p:Option Addr)(cap:Nat)(i:Nat):Value:=if i=0 then .slice p s.n cap else if i<65 then iI (s.at_ ((i-1:Nat):Int))else undef
def gZ(s:QS)(i:Nat):Value:=if i%2=0 then .int .u64 (s.K ((i/2:Nat):Int))else iI (s.I ((i/2:Nat):Int))
def qs(k i:Int)(j:Nat):Value:=if j=0 then .int .u64 k else if j=1 then iI i else undef
def iv(s:QS)(p:Option Addr)(cap:Nat):0+0<65/\gq s p cap (0+0)= .slice p s.n cap:=⟨og,rfl⟩
def xw(s:QS)(p:Option Addr)(cap:Nat)(z:Int)(h:0<=z/\z<64:=by omega):0+1+z.toNat*1<65/\gq s p cap (0+1+z.toNat*1)=iI (s.at_ z):=by
 grind [gq]
def Fl(s:QS)(p p':Option Addr)(cap cL n':Nat):0+0<65/\dE (gq s p cap) (0+0) (.slice p' n' cL)=gq {s with n:=n'} p' cL:=by
 grind [dE,gq]
theorem Cs(s:QS)(p:Option Addr)(cap:Nat)(z v:Int)(h:0<=z/\z<64):0+1+z.toNat*1<65/\dE (gq s p cap) (0+1+z.toNat*1) (iI v)=gq {s with at_:=ae s.at_ z v} p cap:=by
 grind [dE,gq,ae]
def Ct(s:QS)(n:Nat)(z:Int)(h:0<=z/\z<n:=by omega):0+z.toNat*2+0<n*2/\gZ s (0+z.toNat*2+0)= .int .u64 (s.K z):=by
 grind [gZ]
def Xi(s:QS)(n:Nat)(z:Int)(h:0<=z/\z<n):0+z.toNat*2+1<n*2/\gZ s (0+z.toNat*2+1)=iI (s.I z):=by
 grind [gZ]
def kf(s:QS)(n:Nat)(z:Int)(h:0<=z/\z<n:=by omega):0+z.toNat*2+2<=n*2/\dc (gZ s) (0+z.toNat*2) 2= .agg #[.int .u64 (s.K z),iI (s.I z)]:=by
 grind [dc,List.range,List.range.loop,gZ]
def SO(s:QS)(n:Nat)(z k i:Int)(h:0<=z/\z<n):0+z.toNat*2+2<=n*2/\cB (gZ s) (0+z.toNat*2) [.int .u64 k,iI i]=gZ {s with K:=ae s.K z k,I:=ae s.I z i} :=by
 refine⟨og,?_⟩;funext j;simp only[cB,dE];grind [gZ,ae]
def PJ(s:QS)(k id:Int):∀ i,i<(s.n+1)*2->gZ (s.ka k id) i=if i<s.n*2 then gZ s i else cellsOf #[.int .u64 k,iI id] (i-s.n*2):=by
 intro i hi;unfold gZ QS.ka ae;by_cases h:i<s.n*2
 ·grind
 ·have h3:((i/2:Nat):Int)=s.n:=og;have h4:i-s.n*2=0\/i-s.n*2=1:=og;rcases h4 with h4 | h4
  ·have h5:i%2=0:=og;simp only[if_neg h,if_pos h3,if_pos h5,h4];rfl
  ·have h5:¬i%2=0:=og;simp only[if_neg h,if_pos h3,if_neg h5,h4];rfl
def SP(s:QS)(p p':Option Addr)(cap cL:Nat)(k id:Int):0+0<65/\dE (gq s p cap) (0+0) (.slice p' (s.n+1) cL)=gq (s.ka k id) p' cL:=Fl s p p' cap cL (s.n+1)
def SQ(s:QS)(p:Option Addr)(cap:Nat)(id:Int)(h:0<=id/\id<64):0+1+id.toNat*1<65/\dE (gq {s with n:=s.n-1} p cap) (0+1+id.toNat*1) (iI 0)=gq (s.fe id) p cap:=by grind [Cs,QS.fe]
def uG(k i:Int):0+0<2/\qs k i (0+0)= .int .u64 k:=⟨og,rfl⟩
def xx(k i:Int):0+1<2/\qs k i (0+1)=iI i:=⟨og,rfl⟩
def jQ(k i:Int):0+2<=2/\dc (qs k i) 0 2= .agg #[.int .u64 k,iI i]:=⟨og,rfl⟩
def zl(k i:Int):∀ j,j<2->cellsOf #[.int .u64 k,iI i] j=qs k i j:=fun j hj=>match j,hj with
 | 0,_=>rfl
 | 1,_=>rfl
 | j+2,h=>absurd h og
def zm(k i:Int):0+2<=2/\cB (cellsOf #[.int .u64 0,iI 0]) 0 [.int .u64 k,iI i]=qs k i:=by
 refine⟨og,?_⟩;funext j;match j with
 | 0=>rfl
 | 1=>rfl
 | j+2=>
  have e1:cB (cellsOf #[.int .u64 0,iI 0]) 0 [.int .u64 k,iI i] (j+2)=undef:=by simp[cB,dE,cellsOf]
  have e2:qs k i (j+2)=undef:=by simp[qs]
  rw[e1,e2]
def QS.Wr(s:QS):Prop:=∀ j:Int,0<=j->j<s.n->0<=s.I j/\s.I j<64
theorem QS.Wr.set{s:QS}(h:s.Wr){i k id:Int}(hd:0<=id/\id<64):(s.set i k id).Wr:=fun j j0 j1=>by
 show 0<=ae s.I i id j/\ae s.I i id j<64;unfold ae;split
 ·omega
 ·exact h j j0 j1
theorem Cu:∀ (f:Nat) (s:QS) (i k id:Int),(QS.ku f s i k id).n=s.n
 | 0,_,_,_,_=>rfl
 | f+1,s,i,k,id=>by
  rw[QS.ku];split
  ·rw[Cu f];rfl
  ·rfl
def PK(s:QS)(i:Int):(s.down i).n=s.n:=Cu _ _ _ _ _
theorem QS.qt{s:QS}(h:id<0\/63<id):s.put id k=(1,s):=by grind [QS.put]
theorem QS.uH{s:QS}(h:¬(id<0\/63<id))(h2:0<s.at_ id):s.put id k=(3,s):=by grind [QS.put]
theorem QS.te{s:QS}(h:¬(id<0\/63<id))(h2:¬ 0<s.at_ id):s.put id k=(0,(s.ka k id).up s.n):=by grind [QS.put]
theorem ru{s:QS}(h:id<0\/63<id):s.cut id=(0,1,s):=by grind [QS.cut]
theorem AL{s:QS}(h:¬(id<0\/63<id))(h2:s.at_ id=0):s.cut id=(0,2,s):=by grind [QS.cut]
theorem tf{s:QS}(h:¬(id<0\/63<id):=by omega)(h2:¬s.at_ id=0:=by omega):s.cut id=(s.K (s.at_ id-1),0,s.vz id):=by grind [QS.cut]
structure RQ where
 zn:Int->Bool
 iJ:Int->Int
def RQ.is(r:RQ)(id:Int):Int:=if id<0\/63<id then 1 else if r.zn id then 0 else 2
def RQ.put(r:RQ)(id k:Int):Int×RQ:=if r.is id=1 then(1,r)else if r.is id=0 then(3,r)else(0,⟨ae r.zn id true,ae r.iJ id k⟩)
def RQ.Lf(r:RQ)(id:Int)(cut:Bool):Int×Int×RQ:=if r.is id≠0 then(0,r.is id,r)else(r.iJ id,0,if cut then {r with zn:=ae r.zn id false} else r)
theorem RQ.qu{r:RQ}(h:id<0\/63<id):r.is id=1:=by unfold RQ.is;rw[if_pos h]
theorem RQ.xy{r:RQ}(h:¬(id<0\/63<id))(ht:r.zn id=false):r.is id=2:=by grind [RQ.is]
theorem RQ.Cv{r:RQ}(h:¬(id<0\/63<id))(ht:r.zn id=true):r.is id=0:=by grind [RQ.is]
theorem RQ.qt{r:RQ}(k:Int)(h:r.is id=1):r.put id k=(1,r):=by grind [RQ.put]
theorem RQ.uH{r:RQ}(k:Int)(h1:¬r.is id=1)(h:r.is id=0):r.put id k=(3,r):=by grind [RQ.put]
theorem RQ.te{r:RQ}(k:Int)(h1:¬r.is id=1)(h:¬r.is id=0):r.put id k=(0,⟨ae r.zn id true,ae r.iJ id k⟩):=by grind [RQ.put]
theorem SR{r:RQ}(c:Bool)(h:¬r.is id=0):r.Lf id c=(0,r.is id,r):=by grind [RQ.Lf]
theorem RQ.LI{r:RQ}(h:r.is id=0):r.Lf id true=(r.iJ id,0,{r with zn:=ae r.zn id false}):=by grind [RQ.Lf]
theorem Fo{r:RQ}(h:r.is id=0):r.Lf id false=(r.iJ id,0,r):=by grind [RQ.Lf]
structure l5 (s:QS) (r:RQ):Prop where
 ok:s.Ok
 heap:s.vn
 zn:∀ id,0<=id->id<64->(r.zn id=true↔¬s.at_ id=0)
 iJ:∀ id,0<=id->id<64->¬s.at_ id=0->r.iJ id=s.LH id
def RQ.dm:RQ:=⟨fun _=>false,fun _=>0⟩
theorem l5.dm:l5 QS.dm RQ.dm:=⟨QS.Ok.dm,G4,fun id _ _=>by
  show(false=true)↔¬(0:Int)=0
  simp,fun id _ _ h=>absurd rfl h⟩
theorem l5.is{s:QS}{r:RQ}(h:l5 s r){id:Int}(hd:0<=id/\id<64):r.is id=if s.at_ id=0 then 2 else 0:=by
 grind [l5.zn,RQ.xy,RQ.Cv]
theorem l5.put{s:QS}{r:RQ}(h:l5 s r)(id k:Int):(s.put id k).1=(r.put id k).1/\l5 (s.put id k).2 (r.put id k).2:=by
 by_cases c1:id<0\/63<id
 ·grind [QS.qt,RQ.qt,RQ.qu]
 ·have hd:0<=id/\id<64:=og;have vS:=h.is hd;by_cases hz:s.at_ id=0
  ·rw[if_pos hz]at vS;rw[QS.te c1 og,RQ.te k og og];obtain⟨r1,r2,r3,r4,r5⟩:=h.ok.abl h.heap hd hz k;refine⟨rfl,r1,r2,fun m m0 m1=> ?_,fun m m0 m1 mp=> ?_⟩
   ·grind [l5.zn,au,ai]
   ·show ae r.iJ id k m=_;by_cases q:m=id
    ·grind [au]
    ·have hz2:¬s.at_ m=0:=fun e=>mp ((r4 m m0 m1).1.2 ⟨q,e⟩);rw[ai _ _ q,(r4 m m0 m1).2 q hz2];exact h.iJ m m0 m1 hz2
  ·rw[if_neg hz]at vS;have hp:0<s.at_ id:=by rcases h.ok.LG id hd.1 hd.2 with q | q<;>omega
   grind [QS.uH,RQ.uH]
theorem l5.cut{s:QS}{r:RQ}(h:l5 s r)(id:Int):(s.cut id).1=(r.Lf id true).1/\(s.cut id).2.1=(r.Lf id true).2.1/\l5 (s.cut id).2.2 (r.Lf id true).2.2:=by
 by_cases c1:id<0\/63<id
 ·grind [RQ.qu,ru,RQ.Lf]
 ·have hd:0<=id/\id<64:=og;have vS:=h.is hd;by_cases hz:s.at_ id=0
  ·grind [AL,RQ.Lf]
  ·rw[if_neg hz]at vS;rw[tf c1 hz,RQ.LI vS];obtain⟨r1,r2,r3,r4⟩:=h.ok.abm h.heap hd hz;refine⟨(h.iJ id hd.1 hd.2 hz).symm,rfl,r1,r2,fun m m0 m1=> ?_,fun m m0 m1 mp=> ?_⟩
   ·grind [l5.zn,au,ai]
   ·show r.iJ m=_;have q:¬m=id:=fun e=>mp ((r4 m m0 m1).1.2 (.inl e));have hz2:¬s.at_ m=0:=fun e=>mp ((r4 m m0 m1).1.2 (.inr e));rw[(r4 m m0 m1).2 q hz2];exact h.iJ m m0 m1 hz2
theorem l5.abn{s:QS}{r:RQ}(h:l5 s r)(id:Int):(s.iJ id).1=(r.Lf id false).1/\(s.iJ id).2=(r.Lf id false).2.1/\(r.Lf id false).2.2=r:=by
 by_cases c1:id<0\/63<id
 ·grind [RQ.qu,QS.iJ,RQ.Lf]
 ·have hd:0<=id/\id<64:=og;have vS:=h.is hd;by_cases hz:s.at_ id=0
  ·grind [QS.iJ,RQ.Lf]
  ·rw[if_neg hz]at vS;rw[I7 c1 hz,Fo vS];exact⟨(h.iJ id hd.1 hd.2 hz).symm,rfl,rfl⟩
structure SF where
 aa:Int->Bool
 aA:Int->Int
 wt:Int->Int
 v:Int->Int
 uI:Int->Int
 cF:Int->Bool
 eG:Int->Int
 vC:Int->Bool
 dz:Int->Int
 eH:Int->Int
 dH:Int->Int
 gN:Int
 ck:Int->Bool
structure SC extends SF where
 Q:Int->QS
 P:Int->Option Addr
 C:Int->Nat
namespace SF
def gF(s:SF)(n:Int):Bool:=(List.range 30).any (fun i=>s.ck (i:Int)&&decide (s.aA (i:Int)=n))
def ready(s:SF)(n:Int):Bool:=if 10<=n then s.cF n else s.gF n&& !s.vC n&&(decide (s.dz n=0)||decide (s.dH n<s.dz n))
def uJ(s:SF)(n:Int):SF:= {s with v:=ae s.v n (if s.ready n=true/\s.ck n=false then max (s.v n) (s.eG (s.aA n))else s.v n),ck:=ae s.ck n (s.ready n)}
def hQ:Nat->SF->Int->SF
 | 0,s,_=>s
 | k+1,s,n=>if n<=0 then s else hQ k (s.uJ n) (s.aA n)
def look(d:Int->Nat)(s:SF)(n:Int):SF:=hQ (d n+1) s n
def nt(s:SF)(n:Int):SF:= {s with eG:=ae s.eG (s.aA n) (max (s.eG (s.aA n)) (s.v n)),v:=ae s.v n (s.v n+1048576/s.wt n),uI:=ae s.uI n (s.uI n+1),dH:=if 0<s.dz n then ae s.dH n (s.dH n+1)else s.dH}
def zo(s:SF)(n:Int):SF:= {s.nt n with ck:=ae s.ck n ((s.nt n).ready n)}
def vo:Nat->SF->Int->SF
 | 0,s,_=>s
 | k+1,s,n=>if n<=0 then s else vo k (s.zo n) (s.aA n)
def tg(d:Int->Nat)(s:SF)(n:Int):SF:=if s.aa n=true/\0<s.dz n/\s.gN%s.eH n=0 then look d {s with dH:=ae s.dH n 0} n else s
def mn(d:Int->Nat)(s:SF):Nat->SF
 | 0=>s
 | k+1=>tg d (mn d s k) ((k:Int)+1)
def nM(s:SF)(g:Int):Nat->Int
 | 0=> -1
 | k+1=>if s.ck (29-(k:Int))=true/\s.aA (29-(k:Int))=g/\(nM s g k<0\/s.v (29-(k:Int))<=s.v (nM s g k))then 29-(k:Int)else nM s g k
def fH(s:SF)(g:Int):Int:=nM s g 29
def Lg(s:SF):Nat->Int->Int
 | 0,at_=>at_
 | k+1,at_=>if 10<=at_ then at_ else if s.fH at_<0 then-1 else Lg s k (s.fH at_)
def G5(d:Int->Nat):Nat->Nat
 | 0=>0
 | k+1=>max (G5 d k) (d (k:Int))
def oK(d:Int->Nat)(s:SF):SF:= {mn d s 9 with gN:=s.gN+1}
def bR(d:Int->Nat)(s:SF):Int:=Lg (oK d s) (G5 d 30+1) 0
def l6(d:Int->Nat)(s:SF):Int×SF:=if bR d s<0 then(-1,oK d s)else(bR d s-10,vo (d (bR d s)+1) (oK d s) (bR d s))
def mq(s:SF)(g:Int):RQ:=⟨fun i=>s.ck i&&decide (s.aA i=g),s.v⟩
structure Inv (s:SF) (d:Int->Nat):Prop where
 h0:s.aa 0=true
 up:∀ n,0<n->n<30->s.aa n=true->0<=s.aA n/\s.aA n<10/\s.aa (s.aA n)=true/\d (s.aA n)<d n
 ck:∀ n,s.ck n=true->0<n/\n<30/\s.aa n=true
 quo:∀ n,0<=n->n<30->0<=s.dz n/\(0<s.dz n->1<=s.eH n)
 wt:∀ n,0<=n->n<30->s.aa n=true->1<=s.wt n
def bM(s:SF)(B:Int):Prop:=∀ n,0<=n->n<30->0<=s.v n/\s.v n<=B/\0<=s.eG n/\s.eG n<=B/\0<=s.uI n/\s.uI n<=B/\0<=s.dH n/\s.dH n<=B
end SF
def SC.lX(s:SC):Prop:=∀ g,0<=g->g<30->l5 (s.Q g) (s.toSF.mq g)
namespace SF
theorem qv(s:SF)(n:Int):s.gF n=true↔∃ i:Int,0<=i/\i<30/\s.ck i=true/\s.aA i=n:=by
 unfold gF;simp only[List.any_eq_true,List.mem_range,Bool.and_eq_true,decide_eq_true_eq];constructor
 ·grind
 ·rintro⟨k,h1,h2,h3,h4⟩;refine⟨k.toNat,og,?_⟩;grind
def ry(s:SF)(g i:Int):(s.mq g).zn i=true↔s.ck i=true/\s.aA i=g:=by
 grind [mq]
end SF
theorem l5.len{q:QS}{r:RQ}(h:l5 q r):0<q.n↔∃ i,0<=i/\i<64/\r.zn i=true:=by
 constructor
 ·intro hn;have hd:=h.ok.kv 0 og og;have ha:=h.ok.I4 0 og og;exact⟨q.I 0,hd.1,hd.2,(h.zn _ hd.1 hd.2).2 og⟩
 ·rintro⟨i,i0,i1,hi⟩;have:=(h.zn i i0 i1).1 hi;rcases h.ok.LG i i0 i1 with e | ⟨e1,e2,_⟩;all_goals omega
theorem l5.head{q:QS}{r:RQ}(h:l5 q r)(hn:0<q.n):(0<=q.I 0/\q.I 0<64)/\r.zn (q.I 0)=true/\∀ i,0<=i->i<64->r.zn i=true->¬AH (r.iJ i) i (r.iJ (q.I 0)) (q.I 0):=by
 have hd:=h.ok.kv 0 og og;have ha:=h.ok.I4 0 og og;have hp:¬q.at_ (q.I 0)=0:=og;have hk:q.LH (q.I 0)=q.K 0:=by unfold QS.LH;rw[ha];rfl
 refine⟨hd,(h.zn _ hd.1 hd.2).2 hp,fun i i0 i1 hi hl=> ?_⟩;have Fp:=(h.zn i i0 i1).1 hi;rw[h.iJ _ hd.1 hd.2 hp,hk,h.iJ i i0 i1 Fp]at hl;obtain⟨b1,b2,b3⟩:=(h.ok.LG i i0 i1).resolve_left Fp;have hl2:=h.heap.Z4 (q.at_ i-1).toNat (q.at_ i-1) og og og;unfold QS.L at hl2;rw[b3]at hl2;exact hl2 hl
theorem l5.ext{q:QS}{r r':RQ}(h:l5 q r)(hi:∀ i,0<=i->i<64->r'.zn i=r.zn i)(hk:∀ i,0<=i->i<64->r.zn i=true->r'.iJ i=r.iJ i):l5 q r':=
 ⟨h.ok,h.heap,fun i i0 i1=>by rw[hi i i0 i1];exact h.zn i i0 i1,fun i i0 i1 hp=>by rw[hk i i0 i1 ((h.zn i i0 i1).2 hp)];exact h.iJ i i0 i1 hp⟩
theorem iL(C:Nat->Value):∀ (vs:List Value) (i j:Nat),j<i->cB C i vs j=C j
 | [],_,_,_=>rfl
 | v::r,i,j,h=>by
  unfold cB;rw[iL (dE C i v) r (i+1) j og];simp[dE];omega
theorem fQ:∀ (vs:List Value) (C:Nat->Value) (i j:Nat) (v:Value),vs[j]? =some v->cB C i vs (i+j)=v
 | [],_,_,_,_,h=>by simp at h
 | u::r,C,i,0,v,h=>by
  have h2:u=v:=by simpa using h
  unfold cB;rw[iL _ _ _ _ og,<-h2];simp[dE]
 | u::r,C,i,j+1,v,h=>by
  unfold cB;have:=fQ r (dE C i u) (i+1) j v (by simpa using h);rw[show i+1+j=i+(j+1)from og]at this;exact this
theorem jm:∀ (vs:List Value) (C:Nat->Value) (i j:Nat),i+vs.length<=j->cB C i vs j=C j
 | [],_,_,_,_=>rfl
 | v::r,C,i,j,h=>by
  simp only[List.length_cons]at h;unfold cB;rw[jm r (dE C i v) (i+1) j og];simp[dE];omega
structure aM.U where
 aa:Bool
 aA:Int
 wt:Int
 v:Int
 uI:Int
 cF:Bool
 eG:Int
 vC:Bool
 dz:Int
 eH:Int
 dH:Int
 q:QS
 p:Option Addr
 c:Nat
def aM.un(s:SC)(z:Int):aM.U:=⟨s.aa z,s.aA z,s.wt z,s.v z,s.uI z,s.cF z,s.eG z,s.vC z,s.dz z,s.eH z,s.dH z,s.Q z,s.P z,s.C z⟩
def aM.cell(u:aM.U)(j:Nat):Value:=
 if j=0 then .bool u.aa else
 if j=1 then iI u.aA else
 if j=2 then iI u.wt else
 if j=3 then .int .u64 u.v else
 if j=4 then iI u.uI else
 if j=5 then .bool u.cF else
 if 6<=j/\j<71 then gq u.q u.p u.c (j-6)else
 if j=71 then .int .u64 u.eG else
 if j=72 then .bool u.vC else
 if j=73 then iI u.dz else
 if j=74 then iI u.eH else
 if j=75 then iI u.dH else
 undef
def aM(s:SC)(i:Nat):Value:=
 if i<2280 then aM.cell (aM.un s ((i/76:Nat):Int)) (i%76)else
 if i=2280 then iI s.gN else
 undef
theorem aM.at_(s:SC)(z:Int)(h:0<=z/\z<30)(j:Nat)(hj:j<76):aM s (0+0+z.toNat*76+j)=aM.cell (aM.un s z) j:=by
 unfold aM;grind
theorem aM.set(s s':SC)(z:Int)(h:0<=z/\z<30)(k:Nat)(hk:k<76)(v:Value)(hv:∀ j,aM.cell (aM.un s' z) j=if j=k then v else aM.cell (aM.un s z) j)(ho:∀ y,¬y=z->aM.un s' y=aM.un s y)(hn:s'.gN=s.gN):0+0+z.toNat*76+k<2281/\dE (aM s) (0+0+z.toNat*76+k) v=aM s':=by
 grind [dE,aM]
def aM.SU(s s':SC)(z:Int)(h:0<=z/\z<30)(vs:List Value)(hl:vs.length=76)(hv:∀ j,j<76->vs[j]? =some (aM.cell (aM.un s' z) j))(ho:∀ y,¬y=z->aM.un s' y=aM.un s y)(hn:s'.gN=s.gN):0+0+z.toNat*76+76<=2281/\cB (aM s) (0+0+z.toNat*76) vs=aM s':=by
 refine⟨og,?_⟩;funext i;by_cases a1:i<0+0+z.toNat*76
 ·rw[iL _ _ _ _ a1];unfold aM;grind
 ·by_cases a2:i<0+0+z.toNat*76+76
  ·obtain⟨j,rfl⟩:∃ j,i=0+0+z.toNat*76+j:=⟨i-(0+0+z.toNat*76),og⟩;rw[aM.at_ s' z h j og];exact fQ vs _ _ _ _ (hv j og)
  ·rw[jm _ _ _ _ og];unfold aM;grind
def iM(s:SC)(z:Int)(h:0<=z/\z<30:=by omega):0+0+z.toNat*76+0<2281/\aM s (0+0+z.toNat*76+0)= .bool (s.aa z):=⟨og,aM.at_ s z h 0 og⟩
def eM(s:SC)(z:Int)(h:0<=z/\z<30:=by omega):0+0+z.toNat*76+1<2281/\aM s (0+0+z.toNat*76+1)=iI (s.aA z):=⟨og,aM.at_ s z h 1 og⟩
def zp(s:SC)(z:Int)(h:0<=z/\z<30)(v:Int):0+0+z.toNat*76+1<2281/\dE (aM s) (0+0+z.toNat*76+1) (iI v)=aM {s with aA:=ae s.aA z v} :=aM.set s {s with aA:=ae s.aA z v} z h 1 og _ (fun j=>by
 have e:aM.un {s with aA:=ae s.aA z v} z= {aM.un s z with aA:=v} :=by unfold aM.un;simp only[au]
 rw[e]
 by_cases hj:j=1
 ·subst hj;rfl
 ·unfold aM.cell;simp only[if_neg hj]) (fun y hy=>by unfold aM.un;simp only[ai _ _ hy]) rfl
def zq(s:SC)(z:Int)(h:0<=z/\z<30):0+0+z.toNat*76+2<2281/\aM s (0+0+z.toNat*76+2)=iI (s.wt z):=⟨og,aM.at_ s z h 2 og⟩
def ti(s:SC)(z:Int)(h:0<=z/\z<30:=by omega):0+0+z.toNat*76+3<2281/\aM s (0+0+z.toNat*76+3)= .int .u64 (s.v z):=⟨og,aM.at_ s z h 3 og⟩
def tj(s:SC)(z:Int)(h:0<=z/\z<30)(v:Int):0+0+z.toNat*76+3<2281/\dE (aM s) (0+0+z.toNat*76+3) (.int .u64 v)=aM {s with v:=ae s.v z v} :=aM.set s {s with v:=ae s.v z v} z h 3 og _ (fun j=>by
 have e:aM.un {s with v:=ae s.v z v} z= {aM.un s z with v:=v} :=by unfold aM.un;simp only[au]
 rw[e]
 by_cases hj:j=3
 ·subst hj;rfl
 ·unfold aM.cell;simp only[if_neg hj]) (fun y hy=>by unfold aM.un;simp only[ai _ _ hy]) rfl
def Ex(s:SC)(z:Int)(h:0<=z/\z<30):0+0+z.toNat*76+4<2281/\aM s (0+0+z.toNat*76+4)=iI (s.uI z):=⟨og,aM.at_ s z h 4 og⟩
def Ey(s:SC)(z:Int)(h:0<=z/\z<30)(v:Int):0+0+z.toNat*76+4<2281/\dE (aM s) (0+0+z.toNat*76+4) (iI v)=aM {s with uI:=ae s.uI z v} :=aM.set s {s with uI:=ae s.uI z v} z h 4 og _ (fun j=>by
 have e:aM.un {s with uI:=ae s.uI z v} z= {aM.un s z with uI:=v} :=by unfold aM.un;simp only[au]
 rw[e]
 by_cases hj:j=4
 ·subst hj;rfl
 ·unfold aM.cell;simp only[if_neg hj]) (fun y hy=>by unfold aM.un;simp only[ai _ _ hy]) rfl
def so(s:SC)(z:Int)(h:0<=z/\z<30:=by omega):0+0+z.toNat*76+5<2281/\aM s (0+0+z.toNat*76+5)= .bool (s.cF z):=⟨og,aM.at_ s z h 5 og⟩
def kS(s:SC)(z:Int)(h:0<=z/\z<30)(v:Bool):0+0+z.toNat*76+5<2281/\dE (aM s) (0+0+z.toNat*76+5) (.bool v)=aM {s with cF:=ae s.cF z v} :=aM.set s {s with cF:=ae s.cF z v} z h 5 og _ (fun j=>by
 have e:aM.un {s with cF:=ae s.cF z v} z= {aM.un s z with cF:=v} :=by unfold aM.un;simp only[au]
 rw[e]
 by_cases hj:j=5
 ·subst hj;rfl
 ·unfold aM.cell;simp only[if_neg hj]) (fun y hy=>by unfold aM.un;simp only[ai _ _ hy]) rfl
def sr(s:SC)(z:Int)(h:0<=z/\z<30:=by omega):0+0+z.toNat*76+71<2281/\aM s (0+0+z.toNat*76+71)= .int .u64 (s.eG z):=⟨og,aM.at_ s z h 71 og⟩
def Bi(s:SC)(z:Int)(h:0<=z/\z<30)(v:Int):0+0+z.toNat*76+71<2281/\dE (aM s) (0+0+z.toNat*76+71) (.int .u64 v)=aM {s with eG:=ae s.eG z v} :=aM.set s {s with eG:=ae s.eG z v} z h 71 og _ (fun j=>by
 have e:aM.un {s with eG:=ae s.eG z v} z= {aM.un s z with eG:=v} :=by unfold aM.un;simp only[au]
 rw[e]
 by_cases hj:j=71
 ·subst hj;rfl
 ·unfold aM.cell;simp only[if_neg hj]) (fun y hy=>by unfold aM.un;simp only[ai _ _ hy]) rfl
def zt(s:SC)(z:Int)(h:0<=z/\z<30):0+0+z.toNat*76+72<2281/\aM s (0+0+z.toNat*76+72)= .bool (s.vC z):=⟨og,aM.at_ s z h 72 og⟩
def zu(s:SC)(z:Int)(h:0<=z/\z<30)(v:Bool):0+0+z.toNat*76+72<2281/\dE (aM s) (0+0+z.toNat*76+72) (.bool v)=aM {s with vC:=ae s.vC z v} :=aM.set s {s with vC:=ae s.vC z v} z h 72 og _ (fun j=>by
 have e:aM.un {s with vC:=ae s.vC z v} z= {aM.un s z with vC:=v} :=by unfold aM.un;simp only[au]
 rw[e]
 by_cases hj:j=72
 ·subst hj;rfl
 ·unfold aM.cell;simp only[if_neg hj]) (fun y hy=>by unfold aM.un;simp only[ai _ _ hy]) rfl
def kT(s:SC)(z:Int)(h:0<=z/\z<30:=by omega):0+0+z.toNat*76+73<2281/\aM s (0+0+z.toNat*76+73)=iI (s.dz z):=⟨og,aM.at_ s z h 73 og⟩
def Bj(s:SC)(z:Int)(h:0<=z/\z<30)(v:Int):0+0+z.toNat*76+73<2281/\dE (aM s) (0+0+z.toNat*76+73) (iI v)=aM {s with dz:=ae s.dz z v} :=aM.set s {s with dz:=ae s.dz z v} z h 73 og _ (fun j=>by
 have e:aM.un {s with dz:=ae s.dz z v} z= {aM.un s z with dz:=v} :=by unfold aM.un;simp only[au]
 rw[e]
 by_cases hj:j=73
 ·subst hj;rfl
 ·unfold aM.cell;simp only[if_neg hj]) (fun y hy=>by unfold aM.un;simp only[ai _ _ hy]) rfl
def zv(s:SC)(z:Int)(h:0<=z/\z<30):0+0+z.toNat*76+74<2281/\aM s (0+0+z.toNat*76+74)=iI (s.eH z):=⟨og,aM.at_ s z h 74 og⟩
def zw(s:SC)(z:Int)(h:0<=z/\z<30)(v:Int):0+0+z.toNat*76+74<2281/\dE (aM s) (0+0+z.toNat*76+74) (iI v)=aM {s with eH:=ae s.eH z v} :=aM.set s {s with eH:=ae s.eH z v} z h 74 og _ (fun j=>by
 have e:aM.un {s with eH:=ae s.eH z v} z= {aM.un s z with eH:=v} :=by unfold aM.un;simp only[au]
 rw[e]
 by_cases hj:j=74
 ·subst hj;rfl
 ·unfold aM.cell;simp only[if_neg hj]) (fun y hy=>by unfold aM.un;simp only[ai _ _ hy]) rfl
def tm(s:SC)(z:Int)(h:0<=z/\z<30:=by omega):0+0+z.toNat*76+75<2281/\aM s (0+0+z.toNat*76+75)=iI (s.dH z):=⟨og,aM.at_ s z h 75 og⟩
def oM(s:SC)(z:Int)(h:0<=z/\z<30)(v:Int):0+0+z.toNat*76+75<2281/\dE (aM s) (0+0+z.toNat*76+75) (iI v)=aM {s with dH:=ae s.dH z v} :=aM.set s {s with dH:=ae s.dH z v} z h 75 og _ (fun j=>by
 have e:aM.un {s with dH:=ae s.dH z v} z= {aM.un s z with dH:=v} :=by unfold aM.un;simp only[au]
 rw[e]
 by_cases hj:j=75
 ·subst hj;rfl
 ·unfold aM.cell;simp only[if_neg hj]) (fun y hy=>by unfold aM.un;simp only[ai _ _ hy]) rfl
def AM(s:SC):0+2280<2281/\aM s (0+2280)=iI s.gN:=by grind [aM]
def I8(s:SC)(v:Int):0+2280<2281/\dE (aM s) (0+2280) (iI v)=aM {s with gN:=v} :=by
 refine⟨og,?_⟩;funext i;unfold dE aM;by_cases hi:i=0+2280
 ·simp_all
 ·rw[if_neg hi];by_cases c1:i<2280
  ·rw[if_pos c1,if_pos c1];rfl
  grind
end Go.X.Fa
