import Derived.Test.YthdinakloheinaaGreatDoorkJG10
set_option linter.all false
namespace Go.X.Kn
open Go Go.Proofs Go.X Go.X.Fa Go.X.Gr Go.X.Tr Go.X.Vm
set_option maxRecDepth 20000
set_option maxHeartbeats 4000000
attribute [local irreducible] KA.aU KA.cD
set_option maxHeartbeats 16000000 in
def Y1(a:KA)(b:KZ)(c:KC)(N:Nat)(T:Int)(ho:a.Ok T)(hc:cR a c N T)(hT:T<=800000)(n:Int)(x:ByteArray)(hx:x.size<=100000)(o m:Bool):Spec Tryz.prog 163 [aA b.kb 0 0,iI n,.string x,.bool o,.bool m] (df a b c []) (fun v H1=>∃ (a1:KA) (r e:Int) (c1:KC),v= .tuple #[iI r,az 102 e]/\a.Ou n a1/\cR a1 c1 N (T+15)/\H1=(df a1 b c1 [])):=by
 refine Spec.go 106 [0,1,2,3,4,10,11,12,13,14,15,16,17,18,19,20,28,41,58,69,83,96] [(9,1)] Tryz.func163 fun W=> ?_;refine ca (eW b.kb (kp a b c) n) .h1 ?_;rintro _ _ ⟨⟨hl,rfl⟩ | ⟨hl,rfl⟩,rfl⟩
 ·obtain⟨kx,iy⟩:=bI hl;have hl:a.aH n=0:=hl;have iy:(a.u n).st=1:=iy;have hz:=ho.tz hl;have iG:=hc.tb _ hz.1.1 hz.1.2 hz.2;have yJ:=hc.sh og;have h1:a.mQ n=jJ (a.u n).fd 0:=rfl;refine gO ?_;refine cq (BE a b c n kx 0) .h1 ?_;refine sp 34 rfl ?_ ?_<;>intro h1
  ·refine eH (pz 17) ?_;try dsimp only[aK,aJ,aG,aR]
   exact⟨a,0,4,c,rfl,.inl rfl,hc.up (Nat.le_refl _) og,rfl⟩
  ·have hs0:¬a.mQ n<0:=h1;have B0:=u7 (a.u n).fd 0;refine ld .aa (gq _) ?_;refine cq (acA _ _ _ _ a.O T og ho.wk.OI 1) (pk [14]) ?_;refine yW ?_ ?_<;>intro h2
   ·try simp only[sb]at h2
    refine bC rfl rfl rfl (ai (pk [1,1,1,1,1,1,1,1,1,1,1,1,1,1,0,0,0]) rfl ?_);try dsimp only[aK,aJ,aG,aR]
    exact⟨a,0,4,c,rfl,.inl rfl,hc.up (Nat.le_refl _) og,rfl⟩
   ·try simp only[sb]at h2
    refine XR.mono (fun _ bK=>ia (z:=(a.s.bM n).1.toNat) (ej hz.1 hz.2) (pk [15,15]) bK) ?_;refine cq (jr a b c n hz) (pk [5,6]) ?_;refine cq (Dz _ _ _ _ _ _ _ _ _ iG.rv iG.mc iG.len c.F yJ x hx) (pk [2,2,12,12,12]) ?_;refine XO.bJ (z:=.agg (WH.cQ WH.nil)) (m:=2) (C:=aY WH.nil) (aY.box _) ?_;intro bw;refine gO ?_;refine fW .aa (aY.st _ _) rfl ⟨rfl,rfl⟩ (XR.mono (fun _ bK=>ib (z:=(a.s.bM n).1.toNat) (ej hz.1 hz.2) (pk [1,1,6,6]) bK) ?_);refine ld (.t2 .aa) (aY.D5 _) ?_;refine Zt (σ:=Int×Int×FC×(Int->Nat)) (fun y=>cR a {c with F:=y.2.2.1,dF:=y.2.2.2} N (T+1)) (fun y=>[(0,aA b.kb 0 0),(3,.bool o),(12,aA b.kb 0 (0+0+n.toNat*22)),(13,az 102 y.2.1),(14,iI (a.mQ n)),(16,iI y.1)]) (fun y=>XM W (ck (df a b c [])) [.cells b.kb 0 453 (aD (kp a b {c with F:=y.2.2.1,dF:=y.2.2.2})),.cells b.gb 0 60 (cb a.g),.cells b.sb 0 158 (Sp.aO a.s),.cells b.qb 0 2281 (aP {c with F:=y.2.2.1,dF:=y.2.2.2}.q),.bk cP (SC.dZ 254 {c with F:=y.2.2.1,dF:=y.2.2.2}.q),.cells b.bb 0 577 (dM b.vp a.v.iD a.v.rf),.cells b.vp 0 71 (Vm.bO a.v.bb.fv),.eb (ka a) {c with F:=y.2.2.1,dF:=y.2.2.2}.mb 34 (cN b.bb a.f {c with F:=y.2.2.1,dF:=y.2.2.2}.pp {c with F:=y.2.2.1,dF:=y.2.2.2}.cc),.bk (ka a) (rN 171 a.f {c with F:=y.2.2.1,dF:=y.2.2.2}.pp {c with F:=y.2.2.1,dF:=y.2.2.2}.cc),.cells b.tb 0 321 (aC {c with F:=y.2.2.1,dF:=y.2.2.2}.F),.bk av (FC.bu 9 {c with F:=y.2.2.1,dF:=y.2.2.2}.F),.bk av (FC.bA 3 {c with F:=y.2.2.1,dF:=y.2.2.2}.F),dE {c with F:=y.2.2.1,dF:=y.2.2.2}.rp {c with F:=y.2.2.1,dF:=y.2.2.2}.rc 3 {c with F:=y.2.2.1,dF:=y.2.2.2}.rl,.cells b.pi 0 24 (Tr.bO a.P),.cells b.ob 0 122 (bj b.tb b.pi a.O),.eb (mh a) (fun z=>({c with F:=y.2.2.1,dF:=y.2.2.2}.t z).b) 4 (cT b.tb {c with F:=y.2.2.1,dF:=y.2.2.2}.t),.bk (mh a) (rT 168 {c with F:=y.2.2.1,dF:=y.2.2.2}.t)]) ?_ ?_
    ·refine XO.v (Nc rfl rfl dq Tryz.underlying33 On rfl Tryz.underlying102 rfl) rfl (gO ?_);refine sp 56 rfl ?_ ?_<;>intro h3
     ·refine yW ?_ ?_<;>intro h4
      ·try simp only[sb]at h4
       refine XR.mono (fun _ bK=>ia (z:=(a.s.bM n).1.toNat) (ej hz.1 hz.2) (pz 2) bK) ?_;refine cq (jr a b c n hz) (pk [8,8]) ?_;refine cq (zZ _ _ _ _ _ _ _ _ _ iG.rv iG.mc iG.len c.F yJ x hx) (pk [2,2,5,5,5]) ?_;refine XO.bJ (z:=.agg (WH.cQ WH.nil)) (m:=2) (C:=aY WH.nil) (aY.box _) ?_;intro bw2;refine gO ?_;refine fW .aa (aY.st _ _) rfl ⟨rfl,rfl⟩ (XR.mono (fun _ bK=>ib (z:=(a.s.bM n).1.toNat) (ej hz.1 hz.2) (pk [1,1,6,6]) bK) ?_);refine cd rfl ?_ ?_<;>intro h5
       ·refine bC rfl rfl rfl (ai (pk [6,9,6,8,8,8,8,8,8,3,3,3,5,5,4,0,0]) rfl ?_);try dsimp only[aK,aJ,aG,aR]
        exact⟨a,0,_,c,rfl,.inl rfl,hc.up (Nat.le_refl _) og,rfl⟩
       ·refine rq [0,1,2,3,4,5,6,7,8,9,10,11,12] mixed (ld (.t6 .aa) (aD.CB _) (ld (.t2 .aa) (aY.D5 _) ?_));refine ca (UQ _ _ c.F yJ _ _ 1 (by have:=yA c.F.toFF (c.t (a.s.bM n).1.toNat).l (c.t (a.s.bM n).1.toNat).r x;omega)) (pk [3,3,3]) ?_;rintro _ _ ⟨rfl,t,ht,hp,hr,rfl⟩;obtain⟨d1,Ee⟩:=hc.F.make (tQ c.F.toFF (c.t (a.s.bM n).1.toNat).l (c.t (a.s.bM n).1.toNat).r x).node (qS c.F.toFF (c.t (a.s.bM n).1.toNat).l (c.t (a.s.bM n).1.toNat).r x) 1;refine gO ?_;refine pT ((_,_,t,d1)) ?_ S6 (xq (pk [6,9,6,8,8,8,8,8,8,0,0,0,5,5,4,0,0]));grind [cR.MH,wu]
      ·try simp only[sb]at h4
       refine pT ((_,_,c.F,c.dF)) ?_ S6 (xq (pk [6,8,6,7,7,7,7,7,7,3,3,3,4,4,3,0,0]));exact hc.up (Nat.le_refl _) og
     ·refine pT ((_,_,c.F,c.dF)) ?_ S6 (xq (pk [6,8,6,7,7,7,7,7,7,3,3,3,4,4,3,0,0]));exact hc.up (Nat.le_refl _) og
    intro y hy;refine gC ?_;refine cd rfl ?_ ?_<;>intro h6
    ·refine eH (pz 17) ?_;try dsimp only[aK,aJ,aG,aR]
     grind [cR.up,KA.Ou]
    ·refine ld .aa (gq _) ?_;refine ca (acw _ _ _ _ a.O y.2.2.1 (hy.sh og) y.1 o) (pk [14,9,9,9]) ?_;rintro _ _ ⟨rfl,t,ht,hp,hr,rfl⟩;refine gO ?_;refine cd rfl ?_ ?_<;>intro h7
     ·have hoe:nG y.2.2.1.toFF a.O y.1≠0:=h7;refine bC rfl rfl rfl (ai (pk [4,4,4,4,4,4,4,4,4,1,1,1,1,1,0,0,0]) rfl ?_);try dsimp only[aK,aJ,aG,aR]
      have hO:p7 y.2.2.1.toFF a.O y.1 o=a.O:=by unfold p7;rw[if_neg hoe]
      rw[hO];exact⟨a,0,_,{c with F:=t,dF:=y.2.2.2},rfl,.inl rfl,hy.MH (c:= {c with F:=y.2.2.1,dF:=y.2.2.2}) (by rw[ht];exact zI hy.F _ _) og hp hr (by rw[ht];exact rY _ _ _),rfl⟩
     ·have hoe:¬nG y.2.2.1.toFF a.O y.1≠0:=h7;have hof:¬a.O.first<0:=by
       intro q;unfold nG at hoe;omega
      have hor:=Tr.OS.nk hof;have hov:tN y.2.2.1.toFF a.O y.1=a.O.first:=by unfold tN;rw[if_pos og]
      refine sd (sd (st (.t4 .aa) (lx _ kx ⟨B0.1,B0.2.1⟩ _) rfl (bC rfl rfl rfl (ai (pk [4,4,4,4,4,4,4,4,4,1,1,1,1,1,0,0,0]) rfl ?_)))) (by first | omega | (rw[hov];omega));try dsimp only[aK,aJ,aG,aR]
      have hO:p7 y.2.2.1.toFF a.O y.1 o=a.O.lay a.O.first 1 y.1 o:=by unfold p7;rw[if_pos og]
      rw[hO,hov];refine⟨a.Vz n y.1 o,_,0,{c with F:=t,dF:=y.2.2.2},rfl,.inr ⟨y.1,o,hl,⟨B0.1,B0.2.1⟩,⟨hor.1,hor.2.1⟩,rfl⟩,hy.MH (c:= {c with F:=y.2.2.1,dF:=y.2.2.2}) (by rw[ht];exact zI hy.F _ _) og hp hr (by rw[ht];exact rY _ _ _) rfl fun m q=>by show(Bc _ _ _ _ _).st=1;rw[(jq _ _ _ _ _).1];exact q,?_⟩;unfold KA.Vz;try unfold df
      rw[Hw,<-DI a b {c with F:=t,dF:=y.2.2.2} n (a.mQ n) (a.O.first+1) (a.O.lay a.O.first 1 y.1 o) a.P];rfl
 ·have hl:a.aH n≠0:=hl;have jv:(kp a b c).aH n=a.aH n:=rfl;rw[jv];refine gO ?_;refine eH (pz 17) ?_;try dsimp only[aK,aJ,aG,aR]
  exact⟨a,0,a.aH n,c,(by rw[aV _ hl]),.inl rfl,hc.up (Nat.le_refl _) og,rfl⟩
end Go.X.Kn

namespace Go.X.Kn
open Go Go.Proofs Go.X Go.X.Tr
set_option maxRecDepth 20000
set_option maxHeartbeats 4000000
def zY:ny Tryz.prog 211=true:=kq
def nr:fb Tryz.prog 211=some 4:=kq
attribute [local irreducible] KA.aU KA.cD
set_option maxHeartbeats 8000000 in
def VC(a:KA)(b:KZ)(c:KC)(N:Nat)(T:Int)(ho:a.Ok T)(hc:cR a c N T)(hT:T<=800000)(n:Int)(x:ByteArray)(hx:x.size<=100000):Spec Tryz.prog 172 [aA b.kb 0 0,iI n,.string x] (df a b c []) (fun v H1=>∃ (p:Option Addr) (k:Nat) (ns:List ByteArray) (e:Int),(ns.length<=8/\∀ y∈ns,y.size<=8)/\v= .tuple #[.slice p ns.length k,az 102 e]/\H1=jR p k 9 ns::(df a b c [])):=by
 refine Spec.go 40 [0,1,2,6,7,9,10,18,29] [] Tryz.func172 fun W=> ?_;refine ca (eW b.kb (kp a b c) n) .h1 ?_;rintro _ _ ⟨⟨hl,rfl⟩ | ⟨hl,rfl⟩,rfl⟩
 ·obtain⟨kx,iy⟩:=bI hl;have hl:a.aH n=0:=hl;have iy:(a.u n).st=1:=iy;have hz:=ho.tz hl;have iG:=hc.tb _ hz.1.1 hz.1.2 hz.2;have yJ:=hc.sh og;refine gO ?_;refine XR.mono (fun _ bK=>ia (z:=(a.s.bM n).1.toNat) (ej hz.1 hz.2) (pk [15,15]) bK) ?_;refine cq (jr a b c n hz) (pk [4,5]) ?_;refine cq (Dz _ _ _ _ _ _ _ _ _ iG.rv iG.mc iG.len c.F yJ x hx) (pk [2,2,11,11,11]) ?_;refine XO.bJ (z:=.agg (WH.cQ WH.nil)) (m:=2) (C:=aY WH.nil) (aY.box _) ?_;intro bw;refine gO ?_;refine fW .aa (aY.st _ _) rfl ⟨rfl,rfl⟩ (XR.mono (fun _ bK=>ib (z:=(a.s.bM n).1.toNat) (ej hz.1 hz.2) (pk [1,1,6,6]) bK) ?_);refine cd rfl ?_ ?_<;>intro h1
  ·refine XR.ft 9 1 (bC rfl rfl rfl (ai (pk [0,6,7,6,6,6,6,6,6,6,3,3,3,3,3,3,0,0]) rfl ?_));exact⟨none,0,[],_,⟨dq,fun y q=>by cases q⟩,rfl,rfl⟩
  ·refine rq [0,1,2,3,4,5,6,7,8,9,10] mixed (ld (.t6 .aa) (aD.CB _) (ld (.t2 .aa) (aY.D5 _) ?_));refine ca (aco _ _ c.F yJ _) (pk [3,3,3]) ?_;rintro _ _ (⟨hle,rfl,rfl⟩ | ⟨hle,p,k,rfl,rfl⟩)
   ·refine gO ?_;refine XR.ft 9 1 (bC rfl rfl rfl (ai (pk [0,6,7,6,6,6,6,6,6,6,0,0,0,3,3,3,0,0]) rfl ?_));exact⟨none,0,[],_,⟨dq,fun y q=>by cases q⟩,rfl,rfl⟩
   ·refine gO ?_;refine bC rfl rfl rfl (ai (pk [0,6,7,6,6,6,6,6,6,6,0,0,0,3,3,3,0,0]) rfl ?_);exact⟨p,k,_,0,YX hc.F hle,rfl,rfl⟩
 ·have hl:a.aH n≠0:=hl;have jv:(kp a b c).aH n=a.aH n:=rfl;rw[jv];refine gO ?_;refine XR.ft 9 1 (bC rfl rfl rfl (ai (pz 18) rfl ?_));exact⟨none,0,[],a.aH n,⟨dq,fun y q=>by cases q⟩,by rw[aV _ hl];rfl,rfl⟩
set_option maxHeartbeats 8000000 in
def Y2(a:KA)(b:KZ)(c:KC)(N:Nat)(T:Int)(ho:a.Ok T)(hc:cR a c N T)(hT:T<=800000)(n:Int)(x:ByteArray)(hx:x.size<=100000):Spec Tryz.prog 173 [aA b.kb 0 0,iI n,.string x] (df a b c []) (fun v H1=>(∃ (k:NV) (e:Int),NVs k/\v= .tuple #[.agg k.cQ,az 102 e])/\H1=(df a b c [])):=by
 refine Spec.go 42 [0,1,2,6,7,9,10,18,30] [] Tryz.func173 fun W=> ?_;refine XO.bJ (z:=.agg NV.zero.cQ) (m:=4) (C:=nQ NV.zero) (oA _) ?_;intro bg;refine gO ?_;refine ca (eW b.kb (kp a b c) n) (pk [1]) ?_;rintro _ _ ⟨⟨hl,rfl⟩ | ⟨hl,rfl⟩,rfl⟩
 ·obtain⟨kx,iy⟩:=bI hl;have hl:a.aH n=0:=hl;have iy:(a.u n).st=1:=iy;have hz:=ho.tz hl;have iG:=hc.tb _ hz.1.1 hz.1.2 hz.2;have yJ:=hc.sh og;refine gO ?_;refine XR.mono (fun _ bK=>ia (z:=(a.s.bM n).1.toNat) (ej hz.1 hz.2) (pk [16,16]) bK) ?_;refine cq (jr a b c n hz) (pk [4,6]) ?_;refine cq (Dz _ _ _ _ _ _ _ _ _ iG.rv iG.mc iG.len c.F yJ x hx) (pk [2,2,12,12,12]) ?_;refine XO.bJ (z:=.agg (WH.cQ WH.nil)) (m:=2) (C:=aY WH.nil) (aY.box _) ?_;intro bw;refine gO ?_;refine fW .aa (aY.st _ _) rfl ⟨rfl,rfl⟩ (XR.mono (fun _ bK=>ib (z:=(a.s.bM n).1.toNat) (ej hz.1 hz.2) (pk [1,1,6,6]) bK) ?_);refine cd rfl ?_ ?_<;>intro h1
  ·refine XO.v (V.build (vs:= #[]) rfl (v:=.agg NV.zero.cQ) fun _=>kq) rfl (gO ?_);refine fW (.t8 .aa) (l6 _ _) rfl ⟨rfl,rfl⟩ (dQ rfl (.agg rfl (.t8 .aa) (qQ _) zY nr) (.tmp rfl) (ai (pk [6,8,6,7,7,7,7,7,7,3,3,3,4,4,4,0,0]) rfl ?_));try dsimp only[aK,aJ,aG,aR]
   grind [afr]
  ·refine rq [0,1,2,3,4,5,6,7,8,9,10] mixed (ld (.t6 .aa) (aD.CB _) (ld (.t2 .aa) (aY.D5 _) ?_));refine cq (Tr.Mh _ _ c.F yJ _) (pk [3]) ?_;refine fW (.t8 .aa) (l6 _ _) rfl ⟨rfl,rfl⟩ (dQ rfl (.agg rfl (.t8 .aa) (qQ _) zY nr) (.tmp rfl) (ai (pk [6,8,6,7,7,7,7,7,7,0,3,3,4,4,4,0,0]) rfl ?_));try dsimp only[aK,aJ,aG,aR]
   exact⟨⟨_,_,afq hc.F og _,rfl⟩,rfl⟩
 ·have hl:a.aH n≠0:=hl;have jv:(kp a b c).aH n=a.aH n:=rfl;rw[jv];refine gO ?_;refine XO.v (V.build (vs:= #[]) rfl (v:=.agg NV.zero.cQ) fun _=>kq) rfl (gO ?_);refine fW (.ao .aa) (l6 _ _) rfl ⟨rfl,rfl⟩ (dQ rfl (.agg rfl (.ao .aa) (qQ _) zY nr) (.tmp rfl) (ai (pk [0,1,1,1,1,1,1,1,1,1,1,1,1,1,1,1,1]) rfl ?_));try dsimp only[aK,aJ,aG,aR]
  exact⟨⟨_,a.aH n,afr,by rw[aV _ hl]⟩,rfl⟩
end Go.X.Kn

namespace Go.X.Kn
open Go Go.X
def KA.lsF(a:KA)(n q:Int):Bool:=decide (1<=q/\(a.s.find (a.s.bM n).1 q).2=0)
def KA.lsL(a:KA)(n:Int):List Int:=if a.aH n≠0 then []else Vm.eM (a.lsF n) 21
open Go.Proofs Go.X.Sp
set_option maxRecDepth 20000
set_option maxHeartbeats 4000000
def tZ(z:Int):∀ w,(Instr.buildSlice 55 1 #[(0,iI z)]).run Tryz.prog w= .ok (.slice (some ⟨w.heap.size,0,none⟩) 1 1) (w.alloc (.cells #[iI z] 3)):=fun w=>kq
def qe:rh Tryz.prog 3 1=true:=kq
attribute [local irreducible] KA.aU KA.cD
def F4(a:KA)(b:KZ)(c:KC):Spec Tryz.prog 31 [aA b.kb 0 0] [.cells b.kb 0 453 (aD (kp a b c)),.cells b.sb 0 158 (Sp.aO a.s)] (fun v H1=>∃ (p:Option Addr) (k:Nat),v= .slice p (Sp.eM a.s.aa 6).length k/\H1=[dE p k 3 (Sp.eM a.s.aa 6),.cells b.kb 0 453 (aD (kp a b c)),.cells b.sb 0 158 (Sp.aO a.s)]):=by
 refine Spec.go 8 [0,2] [] Tryz.func31 fun W=> ?_;refine ld .aa (aD.rR _) ?_;refine ca (ZS _ _ a.s) (pk [1]) ?_;rintro _ _ ⟨p,k,rfl,rfl⟩;refine gO ?_;refine bh rfl rfl (ai (pk [0,1,0]) rfl ?_);simp_all[aK,aJ,kp]
end Go.X.Kn

namespace Go.X.Kn
open Go Go.X Go.X.Vm
structure lG where
 n:Int
 m:Int
 e:Int
 s:ByteArray
def lG.cQ(x:lG):Array Value:= #[iI x.n,iI x.m,iI x.e,.string x.s]
def lG.nil:lG:=⟨0,0,0,⟨#[]⟩⟩
def cE(x:lG)(i:Nat):Value:=if i=0 then iI x.n else if i=1 then iI x.m else if i=2 then iI x.e else if i=3 then .string x.s else undef
theorem cE.box(x:lG):∀ i,i<4->cellsOf x.cQ i=cE x i:=fun i h=>match i,h with
 | 0,_=>rfl
 | 1,_=>rfl
 | 2,_=>rfl
 | 3,_=>rfl
def cE.ext{C:Nat->Value}{x:lG}(h0:C 0=iI x.n)(h1:C 1=iI x.m)(h2:C 2=iI x.e)(h3:C 3= .string x.s)(h:∀ k,C (k+4)=undef):C=cE x:=funext fun i=>match i with
 | 0=>h0
 | 1=>h1
 | 2=>h2
 | 3=>h3
 | k+4=>(h k).trans (by simp[cE])
def cE.agg(x:lG):0+4<=4/\cZ (cE x) 0 4= .agg x.cQ:=⟨og,rfl⟩
theorem cE.st(y x:lG):0+4<=4/\cC (cE y) 0 x.cQ.toList=cE x:=⟨og,cE.ext rfl rfl rfl rfl fun k=>by simp[cC,dL,lG.cQ,cE]⟩
def cE.rR(x:lG):0+3<4/\cE x (0+3)= .string x.s:=⟨og,rfl⟩
def ig(x:lG)(v:Int):0+0<4/\dL (cE x) (0+0) (iI v)=cE {x with n:=v} :=by grind [dL,cE]
def AS(x:lG)(v:Int):0+1<4/\dL (cE x) (0+1) (iI v)=cE {x with m:=v} :=by grind [dL,cE]
def AU(x:lG)(v:Int):0+2<4/\dL (cE x) (0+2) (iI v)=cE {x with e:=v} :=by grind [dL,cE]
def AV(x:lG)(v:ByteArray):0+3<4/\dL (cE x) (0+3) (.string v)=cE {x with s:=v} :=by grind [dL,cE]
abbrev HD(x:iV):Array Value:= #[.string x.aN,iI x.a,iI x.b,iI x.c,.int .u64 x.im,.bool x.on,.string x.s,.string x.t]
def G4(x:iV):∀ i,i<8->cellsOf (HD x) i=eJ x i:=fun i h=>match i,h with
 | 0,_=>rfl
 | 1,_=>rfl
 | 2,_=>rfl
 | 3,_=>rfl
 | 4,_=>rfl
 | 5,_=>rfl
 | 6,_=>rfl
 | 7,_=>rfl
def HE(x:iV):0+8<=8/\cZ (eJ x) 0 8= .agg (HD x):=⟨og,rfl⟩
def iT:ByteArray:=⟨#[102,111,114,107]⟩
def gu:ByteArray:=⟨#[101,120,105,116]⟩
def mR:ByteArray:=⟨#[117,110,109,97,112]⟩
def iU:ByteArray:=⟨#[108,111,97,100]⟩
def fw:ByteArray:=⟨#[115,116,111,114,101]⟩
def yB:ByteArray:=⟨#[116,105,99,107]⟩
def HF:ByteArray:=⟨#[108,105,109,105,116]⟩
def yC:ByteArray:=⟨#[106,111,105,110]⟩
def HG:ByteArray:=⟨#[97,100,100]⟩
def Oth(k:ByteArray):Prop:=k∉[iT,gu,mR,iU,fw,yB,HF,yC,HG]
def ue{x:iV}{k:ByteArray}(h:x.aN=k)(hd:k∉[iT,gu,mR,iU,fw,yB,HF,yC,HG]:=by simp[iT,gu,mR,iU,fw,yB,HF,yC,HG]):Oth x.aN:=by grind [Oth]
inductive KA.qg (a:KA) (F:Tr.FF) (x:iV):KA->Prop
 | same:KA.qg a F x a
 | db:KA.qg a F x (a.fH x.a)
 | qf:KA.qg a F x (a.jo x.a x.b x.c)
 | dy:KA.qg a F x (a.lB x.a x.b x.on)
 | jN:KA.qg a F x (a.z8 x.a x.b x.c)
 | take:KA.qg a F x (a.q7 x.a)
 | map:KA.qg a F x (a.HC x.a x.b x.c x.on)
 | nh:KA.qg a F x (a.yy x.a x.b x.c x.on)
 | drop:KA.qg a F x (a.MG x.a)
 | Ov {a1:KA} (h:a.Ou x.a a1):KA.qg a F x a1
 | close:KA.qg a F x (a.sc x.a x.b)
 | dup:KA.qg a F x (a.Be x.a x.b)
 | JR:KA.qg a F x (a.q8 x.a)
 | mJ:KA.qg a F x (a.yr F x.a x.b x.c)
 | b7:KA.qg a F x (a.nK F x.a x.b x.s)
 | JS:KA.qg a F x (a.vG x.a x.b x.c)
inductive KA.sQ (a:KA) (c c1:KC) (x:iV):KA->Int->Int->Prop
 | iA (h:x.aN=iT):KA.sQ a c c1 x (a.fy x.a x.on) (a.kQ x.a x.on) (a.kB x.a x.on)
 | exit (h:x.aN=gu):KA.sQ a c c1 x (a.iS x.a x.b) 0 (a.pP x.a x.b)
 | fE (h:x.aN=mR):KA.sQ a c c1 x (a.o9 x.a x.b x.c) 0 (a.ud x.a x.b x.c)
 | load (h:x.aN=iU):KA.sQ a c c1 x (a.iz x.a x.b).2.1 (a.iz x.a x.b).2.2 (a.iz x.a x.b).1
 | store (h:x.aN=fw):KA.sQ a c c1 x (a.gL x.a x.b (IntKind.u8.wrap x.c)).2.1 0 (a.gL x.a x.b (IntKind.u8.wrap x.c)).1
 | pU (h:x.aN=yB) (r:Int) (hr:r<0\/(0<=r/\r<20/\c1.q.aa (10+r)=true)):KA.sQ a c c1 x a r 0
 | lim (h:x.aN=HF):KA.sQ a c c1 x (a.afo x.a x.b x.c) 0 (a.g.S9 x.a x.b x.c)
 | Ii (h:x.aN=yC) (e:Int) (he:e=0->a.aH x.a=0/\a.Z6 x.a x.b=0):KA.sQ a c c1 x (a.Vv x.a x.b) 0 e
 | add (h:x.aN=HG) (n e:Int):KA.sQ a c c1 x (a.Vu x.a x.b) n e
 | ue (h:Oth x.aN) {a1:KA} (h1:a.qg c.F.toFF x a1) (n e:Int):KA.sQ a c c1 x a1 n e
theorem KA.qg.ok{a a1:KA}{F:Tr.FF}{x:iV}{T:Int}(h:a.Ok T)(hT:T<=800000)(Ve:1<=T)(hF:F.Sh)(s:a.qg F x a1):a1.Ok (T+20):=by
 have u:∀ {b:KA},b.Ok T->b.Ok (T+20):=fun q=>q.up og og;have u1:∀ {b:KA},b.Ok (T+1)->b.Ok (T+20):=fun q=>q.up og og;cases s with
 | same=>exact u h
 | db=>exact u (h.db _)
 | qf=>exact u (h.qf _ _ _)
 | dy=>exact u (h.dy _ _ _)
 | jN=>exact u (h.jN _ _ _)
 | take=>exact u (h.take _)
 | map=>exact u (h.map _ _ _ _)
 | nh=>exact u (h.nh _ _ _ _)
 | drop=>exact u (h.ID _)
 | Ov q=>exact u1 (h.opens og Ve q)
 | close=>exact u (h.close _ _)
 | dup=>exact u1 (h.dup og _ _)
 | JR=>exact u1 (h.JR og Ve _)
 | mJ=>exact u1 (h.mJ og hF _ _ _)
 | b7=>exact u1 (h.b7 og _ _ _ _)
 | JS=>exact u1 (h.JS og _ _ _)
theorem KA.sQ.ok{a a1:KA}{c c1:KC}{x:iV}{T n e:Int}(h:a.Ok T)(hT:T<=800000)(Ve:1<=T)(hF:c.F.toFF.Sh)(s:a.sQ c c1 x a1 n e):a1.Ok (T+20):=by
 have u:∀ {b:KA},b.Ok T->b.Ok (T+20):=fun q=>q.up og og;have u1:∀ {b:KA},b.Ok (T+1)->b.Ok (T+20):=fun q=>q.up og og;cases s with
 | iA _=>exact(h.iA og _ _).up og og
 | exit _=>exact u (h.iS _ _)
 | fE _=>exact u (h.fE _ _ _)
 | load _=>exact u1 (h.load og _ _)
 | store _=>exact u1 (h.store og _ _ (NG _))
 | pU _ _ _=>exact u h
 | lim _=>exact u (h.lim _ _ _)
 | Ii _ _ _=>exact u1 (h.Ii og _ _)
 | add _ _ _=>exact u (h.SD _ _)
 | ue _ q _ _=>exact q.ok h hT Ve hF
def KA.Ok.aft{a:KA}{T:Int}(h:a.Ok T)(hT:T<=900000)(n x:Int):0<=(a.iz n x).2.2/\(a.iz n x).2.2<256:=by
 have im:∀ {b:KA} {S:Int},b.Ok S->0<=((Z4 n x).y b)/\((Z4 n x).y b)<256:=fun {b S} hb=>by
  show 0<=((b.f n.toNat).load b.v x).1/\((b.f n.toNat).load b.v x).1<256;by_cases e:((b.f n.toNat).cx b.v x false).2.1=0
  ·rw[Vm.MS.GP e];exact(VB.Ok.cx (m:=b.f n.toNat) hb.wk.sys.jL.ok x false).iD _ _
  ·rw[Vm.MS.CJ e];exact⟨Int.le_refl 0,(by decide:(0:Int)<256)⟩
 unfold KA.iz KA.ky;repeat' split
 all_goals first
  | exact⟨Int.le_refl 0,(by decide:(0:Int)<256)⟩
  | exact im (h.cr hT n).1
  | exact im h
def VD{l:List ByteArray}{z:Int}(h:0<=z/\z<l.length):ki l z∈l:=by
 grind [ki]
end Go.X.Kn

namespace Go.X.Kn
open Go Go.X Go.X.Sg Go.X.Sp
section
variable {s:Sp.SS} {aL:Int->Nat}
theorem oO(hD:s.Deep aL){x:Int}(h:(0<=x/\x<6)/\s.aa x=true):(s.ax x= -1/\aL x=1/\s.cF aL x=[x])\/(((0<=s.ax x/\s.ax x<6)/\s.aa (s.ax x)=true)/\aL x=aL (s.ax x)+1/\s.cF aL x=x::s.cF aL (s.ax x)):=by
 obtain⟨_,_,h3⟩:=hD.d x h.1.1 h.1.2 h.2;rcases h3 with⟨h4,h5⟩ | ⟨h4,h5,h6,h7⟩
 ·left;refine⟨h4,h5,?_⟩;unfold Sp.SS.cF;rw[h5];rfl
 ·right;refine⟨⟨⟨h4,h5⟩,h6⟩,h7,?_⟩;unfold Sp.SS.cF;rw[h7];rfl
def DL(hD:s.Deep aL){x:Int}(h:(0<=x/\x<6)/\s.aa x=true):x∈s.cF aL x:=by
 rcases oO hD h with⟨_,_,e⟩ | ⟨_,_,e⟩<;>rw[e]<;>exact .head _
def yD(hD:s.Deep aL):∀ (k:Nat) {x:Int},aL x=k->((0<=x/\x<6)/\s.aa x=true)->∀ y∈s.cF aL x,(((0<=y/\y<6)/\s.aa y=true)/\(y≠x->aL y<aL x))/\∀ z∈s.cF aL y,z∈s.cF aL x
 | 0,x,hk,h,_,_=>by have:=(hD.d x h.1.1 h.1.2 h.2).1;omega
 | k+1,x,hk,h,y,hy=>by
  rcases oO hD h with⟨_,_,e⟩ | ⟨h1,h2,e⟩
  ·simp_all
  ·rw[e]at hy;rcases List.mem_cons.1 hy with rfl | hy
   ·simp_all
   ·obtain⟨⟨h3,h4⟩,h5⟩:=yD hD k (x:=s.ax x) og h1 y hy;grind
def Ab(hD:s.Deep aL){x y z:Int}(h:(0<=x/\x<6)/\s.aa x=true)(hy:y∈s.cF aL x)(hz:z∈s.cF aL y):z∈s.cF aL x:=(yD hD _ rfl h y hy).2 z hz
def yE(hD:s.Deep aL){x y:Int}(h:(0<=x/\x<6)/\s.aa x=true)(hy:y∈s.cF aL x)(hx:x∈s.cF aL y):y=x:=by
 refine Decidable.byContradiction fun q=> ?_;obtain⟨⟨h1,h2⟩,_⟩:=yD hD _ rfl h y hy;obtain⟨⟨_,h4⟩,_⟩:=yD hD _ rfl h1 x hx;omega
def fh(s:Sp.SS)(z p:Int):Prop:=∃ q,s.bG z q=p
def eD(h:s.Inv aL){z p:Int}(hp:0<=p:=by omega):fh s z p↔p<20/\0<=s.loc p/\z∈s.cF aL (s.loc p):=
 ⟨fun ⟨q,e⟩=>by have:=h.mem z q p hp e;exact⟨this.1,this.2.2.2.1,this.2.2.2.2⟩,fun ⟨a,b,c⟩=>h.has p hp a b z c⟩
def uf(h:s.Inv aL){p:Int}(hp:0<=p/\p<20)(hl:0<=s.loc p):(0<=s.loc p/\s.loc p<6)/\s.aa (s.loc p)=true:=⟨⟨hl,(h.loc p).2⟩,h.at_ p hp.1 hp.2 hl⟩
def QW(h:s.Inv aL){p:Int}(hp:0<=p/\p<20)(hl:0<=s.loc p):fh s (s.loc p) p:=(eD h hp.1).2 ⟨hp.2,hl,DL h.D (uf h hp hl)⟩
def sm(h:s.Inv aL){z p q:Int}(hp:0<=p)(hq:0<=q)(h1:fh s z q)(h2:fh s (s.loc q) p):fh s z p:=by
 obtain⟨_,_,a3⟩:=(eD h hq).1 h1;obtain⟨b1,b2,b3⟩:=(eD h hp).1 h2;exact(eD h hp).2 ⟨b1,b2,Ab h.D (uf h ⟨hp,b1⟩ b2) b3 a3⟩
end
structure KA.Pw (a:KA):Prop where
 ax:∀ p,p≠0->(a.u p).st≠0->(a.u (a.u p).ax).st=1/\fh a.s (a.s.loc (a.u p).ax) p/\(a.s.bG (a.s.loc p) 1=p->a.s.loc (a.u p).ax≠a.s.loc p)
 hd:∀ z,0<=z->z<6->a.s.aa z=true->0<=a.s.bG z 1/\(a.u (a.s.bG z 1)).st≠0/\a.s.loc (a.s.bG z 1)=z/\((a.u (a.s.bG z 1)).st=2->∀ p,0<=p->fh a.s z p->p=a.s.bG z 1)
 zero:(a.u 0).ax= -1
theorem KA.Pw.same{a a':KA}(h:a.Pw)(hu:∀ p,(a'.u p).st=(a.u p).st/\(a'.u p).ax=(a.u p).ax)(hs:a'.s=a.s):a'.Pw:=by
 refine⟨fun p p0 q=> ?_,fun z z0 z1 hz=> ?_,by rw[(hu 0).2];exact h.zero⟩
 ·grind [KA.Pw.ax]
 ·rw[hs]at hz ⊢;rw[(hu _).1];exact h.hd z z0 z1 hz
theorem DM(a:KA)(n m:Int)(x:BS):((a.ic n x).u m).ax=(a.u m).ax:=by
 grind [yb,r9]
theorem KA.Pw.box{a:KA}(h:a.Pw)(n:Int)(x:BS):(a.ic n x).Pw:=by grind [KA.Pw.same,fp,DM,KA.ic]
theorem KA.Pw.gx{a:KA}(h:a.Pw)(p:Int):(a.iW p).Pw:=by
 grind [KA.iW,KA.Pw.box]
def BF(n:Int):∀ (l:List Int) (a:KA),l.Nodup->(∀ m∈l,(0<=m/\m<20)/\0<=a.s.loc m)->
  ((l.foldl (KA.dN n) a).s.aa=a.s.aa/\(l.foldl (KA.dN n) a).s.ax=a.s.ax)/\(∀ z q,(l.foldl (KA.dN n) a).s.bG z q=if a.s.bG z q∈l/\a.s.bG z q≠n then-1 else a.s.bG z q)/\(∀ p,p∉l\/p=n->(l.foldl (KA.dN n) a).s.loc p=a.s.loc p/\(l.foldl (KA.dN n) a).u p=a.u p)/\(∀ p,p∈l->p≠n->(l.foldl (KA.dN n) a).u p=PA.nil)
 | [],a,_,_=>⟨⟨rfl,rfl⟩,fun z q=>by rw[if_neg fun h=>by cases h.1];rfl,fun p _=>⟨rfl,rfl⟩,fun p h=>by cases h⟩
 | x::r,a,hn,hl=>by
  obtain⟨hx,hr⟩:=List.nodup_cons.1 hn;have sP:=hl x (.head _);by_cases e:x=n
  ·have e1:a.dN n x=a:=if_pos e;obtain⟨i1,i2,i3,i4⟩:=BF n r a hr fun m hm=>hl m (.tail _ hm);grind
  ·have e1:(a.dN n x).s=a.s.left x:=by
    unfold KA.dN;rw[if_neg e];have k:(a.s.fi x).2=a.s.left x:=by
     unfold Sp.SS.fi Sp.SS.bM;grind
    by_cases c:(a.u x).st=1
    ·rw[if_pos c];exact k
    ·rw[if_neg c];exact k
   have e2:∀ p,p≠x->(a.dN n x).u p=a.u p:=fun p hp=>xZ a n hp;have e3:(a.dN n x).u x=PA.nil:=by unfold KA.dN;rw[if_neg e];exact aj _ _ _
   have Ep:∀ m,m≠x->(a.dN n x).s.loc m=a.s.loc m:=fun m hm=>by rw[e1];exact ae _ _ hm
   have fM:∀ m∈r,m≠x:=fun m hm q=>hx (q▸hm);obtain⟨i1,i2,i3,i4⟩:=BF n r (a.dN n x) hr fun m hm=>by rw[Ep m (fM m hm)];exact hl m (.tail _ hm)
   have hw:∀ z q,(a.dN n x).s.bG z q=if a.s.bG z q=x then-1 else a.s.bG z q:=fun z q=>by rw[e1];rfl
   rw[List.foldl_cons];refine⟨⟨i1.1.trans (by rw[e1];rfl),i1.2.trans (by rw[e1];rfl)⟩,fun z q=> ?_,fun p hp=> ?_,fun p hp O7=> ?_⟩;all_goals grind
def Kt{s:Sp.SS}{aL:Int->Nat}(h:s.Inv aL){z p:Int}(hz:(0<=z/\z<6)/\s.aa z=true)(hp:0<=p):p∈(s.mem z).1↔fh s z p:=by
 constructor
 ·grind [wA,fh]
 ·rintro⟨q,e⟩;have hm:=h.mem z q p hp e;unfold Sp.SS.mem;have:s.is z=0:=by unfold Sp.SS.is;rw[if_neg og,if_pos hz.2]
  rw[if_neg og];exact kv.2 ⟨q,og,og,og,e⟩
structure lH (a b:KA):Prop where
 u:b.u=a.u
 bG:b.s.bG=a.s.bG
 loc:b.s.loc=a.s.loc
 aL:b.aL=a.aL
 aa:∀ y,b.s.aa y=true->a.s.aa y=true/\b.s.ax y=a.s.ax y
 eG:∀ y q,a.s.aa y=true->0<=q->q<21->0<=a.s.bG y q->b.s.aa y=true
theorem lH.refl(a:KA):lH a a:=⟨rfl,rfl,rfl,rfl,fun _ h=>⟨h,rfl⟩,fun _ _ h _ _ _=>h⟩
def lH.trans{a b c:KA}(h:lH a b)(k:lH b c):lH a c:=
 ⟨k.u.trans h.u,k.bG.trans h.bG,k.loc.trans h.loc,k.aL.trans h.aL,fun y q=>⟨(h.aa y (k.aa y q).1).1,(k.aa y q).2.trans (h.aa y (k.aa y q).1).2⟩,fun y q a0 a1 a2 a3=>k.eG y q (h.eG y q a0 a1 a2 a3) a1 a2 (by rw[h.bG];exact a3)⟩
theorem lH.one(a:KA)(z:Int):lH a (a.dt z):=by
 rcases SS.r6 a.s z with⟨_,e⟩ | ⟨_,hz,hz0,hh,e,hm,_⟩
 ·have:a.dt z=a:=by unfold KA.dt;rw[e]
  rw[this];exact lH.refl a
 ·refine⟨rfl,tY _ _,pN _ _,rfl,fun y hy=> ?_,fun y q a0 a1 a2 a3=> ?_⟩
  ·have hy:(a.s.drop z).2.aa y=true:=hy;refine⟨ya hy,?_⟩;show(a.s.drop z).2.ax y=_;rw[e]at hy ⊢;have hy:ad a.s.aa z false y=true:=hy;have:y≠z:=by rintro rfl;rw[aj]at hy;cases hy
   exact ae _ _ this
  ·show(a.s.drop z).2.aa y=true;rw[e];show ad a.s.aa z false y=true;have:y≠z:=by rintro rfl;rcases hm q with c | c<;>omega
   rw[ae _ _ this];exact a0
def lH.G5:∀ (l:List Int) (a:KA),lH a (l.foldl KA.dt a)
 | [],a=>lH.refl a
 | x::r,a=>(lH.one a x).trans (lH.G5 r (a.dt x))
def lH.de(a:KA):∀ k,lH a (a.de k)
 | 0=>lH.refl a
 | k+1=>(lH.de a k).trans (lH.G5 _ _)
def F5{a:KA}{y:Int}(hy:0<y/\y<6)(hm:∀ q,a.s.bG y q<0)(hk:∀ c,0<=c->c<6->a.s.aa c=true->a.s.ax c≠y):(a.dt y).s.aa y=false:=by
 by_cases h:a.s.aa y=true
 ·show(a.s.drop y).2.aa y=false;unfold Sp.SS.drop;have h1:a.s.is y=0:=by unfold Sp.SS.is;rw[if_neg og,if_pos h]
  have h2:¬(a.s.cU y).length>0:=by
   cases e:a.s.cU y with
   | nil=>simp
   | cons x r=>
    have hx:x∈dH (a.s.bG y) 21:=by rw[show dH (a.s.bG y) 21=a.s.cU y from rfl,e];exact .head _
    obtain⟨j,_,_,j2,_⟩:=kv.1 hx;have:=hm j;omega
  have h3:a.s.kids y=none:=by
   unfold Sp.SS.kids;grind [dC]
  rw[if_neg og,if_neg fun q=>q.elim og h2,h3];grind [aj]
 ·have h:a.s.aa y=false:=by simpa using h
  cases e:(a.dt y).s.aa y with
  | false=>rfl
  | true=>have:=((lH.one a y).aa y e).1;rw[h]at this;cases this
end Go.X.Kn

namespace Go.X.Kn
open Go Go.X
variable{T n p y:Int}
structure QX (a:KA) (z y:Int):Prop where
 aa:(0<=y/\y<6)/\a.s.aa y=true
 cF:z∈a.s.cF a.aL y
 ne:y≠z
def QX.pos{a:KA}(hD:a.s.Deep a.aL)(U8:a.aL 0=1){z:Int}(h:QX a z y):0<y:=by
 have h1:=h.aa;refine Decidable.byContradiction fun q=> ?_;have e:y=0:=og;rcases oO hD h1 with⟨_,_,e2⟩ | ⟨h2,h3,_⟩
 ·have:=h.cF;rw[e2]at this;grind [QX.ne]
 ·have:=(hD.d _ h2.1.1 h2.1.2 h2.2).1;simp_all
def F6{a:KA}{z:Int}(hD:a.s.Deep a.aL)(U8:a.aL 0=1)(hB:∀ y,QX a z y->∀ q,a.s.bG y q<0)(m:Nat):∀ (L:List Int) (b:KA),lH a b->(∀ y,QX a z y->b.s.aa y=true->a.aL y<=m)->∀ y,QX a z y->y∈L->a.aL y=m->(L.foldl KA.dt b).s.aa y=false
 | [],_,_,_,_,_,hm,_=>by cases hm
 | x::r,b,hs,hd,y,hy,hm,hdy=>by
  rw[List.foldl_cons];by_cases e:y=x
  ·subst e;have g:(b.dt y).s.aa y=false:=F5 ⟨hy.pos hD U8,hy.aa.1.2⟩ (fun q=>by rw[hs.bG];exact hB y hy q) (fun c c0 c1 ch cp=>by
    obtain⟨k1,k2⟩:=hs.aa c ch
    rcases oO hD ⟨⟨c0,c1⟩,k1⟩with⟨k3,_,_⟩ | ⟨_,k4,k5⟩
    ·have:=hy.aa;omega
    ·rw[<-k2,cp]at k4 k5
     have hz:=(yD hD _ rfl hy.aa z hy.cF).1
     have hcz:c≠z:=by
      grind
     have:=hd c ⟨⟨⟨c0,c1⟩,k1⟩,by rw[k5];exact .tail _ hy.cF,hcz⟩ ch
     omega)
   cases q:(r.foldl KA.dt (b.dt y)).s.aa y with
   | false=>rfl
   | true=>have:=((lH.G5 r _).aa y q).1;rw[g]at this;cases this
  ·exact F6 hD U8 hB m r (b.dt x) (hs.trans (lH.one b x)) (fun w hw hh=>hd w hw ((lH.one b x).aa w hh).1) y hy ((List.mem_cons.1 hm).resolve_left e) hdy
def Ow{f:Int->Bool} :∀ {k:Nat} {y:Int},0<=y->y<k->f y=true->y∈Sp.eM f k
 | 0,y,h0,h1,_=>og
 | k+1,y,h0,h1,hf=>by
  unfold Sp.eM;by_cases e:y=k
  ·subst e;rw[if_pos hf];simp
  ·have:=Ow (f:=f) h0 (k:=k) og hf;split;all_goals exact List.mem_append_left _ this
def ug{a:KA}{z:Int}(hD:a.s.Deep a.aL)(U8:a.aL 0=1)(hB:∀ y,QX a z y->∀ q,a.s.bG y q<0):∀ (k:Nat),∀ y,QX a z y->(a.de k).s.aa y=true->a.aL y<=4-k
 | 0,y,hy,_=>(hD.d y hy.aa.1.1 hy.aa.1.2 hy.aa.2).2.1
 | k+1,y,hy,hh=>by
  have hh:((Sp.eM (a.de k).s.aa 6).foldl KA.dt (a.de k)).s.aa y=true:=hh;have h1:=((lH.G5 _ _).aa y hh).1;have h2:=ug hD U8 hB k y hy h1;have h3:=(hD.d y hy.aa.1.1 hy.aa.1.2 hy.aa.2).1;refine Decidable.byContradiction fun q=> ?_;have:=F6 hD U8 hB (4-k) _ (a.de k) (lH.de a k) (fun w hw hb=>ug hD U8 hB k w hw hb) y hy (Ow hy.aa.1.1 (by have:=hy.aa.1.2;omega) h1) og;simp_all
def MJ{a:KA}{z:Int}(hD:a.s.Deep a.aL)(U8:a.aL 0=1)(hB:∀ y,QX a z y->∀ q,a.s.bG y q<0)(hy:QX a z y):(a.de 4).s.aa y=false:=by
 cases q:(a.de 4).s.aa y with
 | false=>rfl
 | true=>
  have:=ug hD U8 hB 4 y hy q;have:=(hD.d y hy.aa.1.1 hy.aa.1.2 hy.aa.2).1;omega
theorem so(b:KA)(n h p:Int):((b.cw n h).u p).ax=if 0<=p/\p<20/\(b.u p).st≠0/\(b.u p).ax=n then h else(b.u p).ax:=by
 show((if 0<=p/\p<20/\(b.u p).st≠0/\(b.u p).ax=n then {b.u p with ax:=h} else b.u p):PA).ax=_;grind
theorem uh(a:KA)(n co p:Int):((a.cm n co).u p).ax=(a.u p).ax:=by
 by_cases e:p=n
 ·subst e;show(ad a.u p _ p).ax=_;rw[aj]
 grind [l8]
theorem ui{a:KA}(hl:(a.u n).st=1)(co p:Int):(((a.cm n co).u p).st≠0↔(a.u p).st≠0)/\(((a.cm n co).u p).st=1↔(a.u p).st=1/\p≠n)/\(((a.cm n co).u p).st=2↔(a.u p).st=2\/p=n):=by
 grind [nY,l8]
structure KA.oC (a:KA) (T:Int):Prop where
 wk:a.Wk T
 r0:a.R0
 d0:a.aL 0=1
theorem KA.Ok.o0{a:KA}(h:a.Ok T):a.oC T:=⟨h.wk,h.r0,h.d0⟩
theorem KA.oC.o8{a:KA}(ok:a.oC T)(hs:(a.u p).st≠0):(0<=p/\p<20)/\0<=a.s.loc p/\a.s.bM p=(a.s.loc p,0)/\a.s.is (a.s.loc p)=0/\(0<=a.s.loc p/\a.s.loc p<6)/\a.s.aa (a.s.loc p)=true:=by
 have hr:=ok.wk.jA hs;have h1:=(ok.wk.lc p hr.1 hr.2).1 hs;obtain⟨i1,i2,i3,i4⟩:=SS.Inv.is0 ok.wk.sI hr h1;simp_all
theorem KA.Pw.Ku{a:KA}(h:a.Pw)(ok:a.oC T)(hs:(a.u n).st≠0:=by omega):a.head n=a.s.bG (a.s.loc n) 1:=by
 obtain⟨hr,h1,i1,i2,i3,i4⟩:=ok.o8 hs;have h2:=(h.hd _ i3.1 i3.2 i4).1;unfold KA.head;rw[i1];show(a.s.find (a.s.loc n) 1).1=_;unfold Sp.SS.find;grind
theorem KA.Pw.afu{a:KA}(h:a.Pw)(ok:a.oC T)(hl:(a.u n).st=1)(co:Int)(c:a.head n≠n):((a.cm n co).cw n (a.head n)).Pw:=by
 obtain⟨hr,h1,i1,i2,i3,i4⟩:=ok.o8 (p:=n) og;have hh:=h.Ku ok (n:=n);obtain⟨d1,d2,d3,d4⟩:=h.hd _ i3.1 i3.2 i4;rw[<-hh]at d1 d2 d3 d4;have d5:(a.u (a.head n)).st=1:=by
  rcases ok.wk.st (a.head n)with q | q | q
  ·omega
  ·omega
  ·exact absurd (d4 q n hr.1 (QW ok.wk.sI hr h1)) fun e=>c e.symm
 have Y3:∀ p,(((a.cm n co).cw n (a.head n)).u p).st=((a.cm n co).u p).st:=fun p=>(cW _ _ _ _).1;refine⟨fun p p0 q=> ?_,fun z z0 z1 hz=> ?_,?_⟩
 ·rw[Y3]at q;have q1:=(ui hl co p).1.1 q;obtain⟨k1,k2,k3⟩:=h.ax p p0 q1;have VE:=ok.wk.jA q1;rw[so,uh];show _/\fh a.s (a.s.loc _) p/\(a.s.bG (a.s.loc p) 1=p->a.s.loc _≠a.s.loc p);grind [ui]
 ·have hz:a.s.aa z=true:=hz;obtain⟨k1,k2,k3,k4⟩:=h.hd z z0 z1 hz;show 0<=a.s.bG z 1/\(((a.cm n co).cw n (a.head n)).u (a.s.bG z 1)).st≠0/\a.s.loc (a.s.bG z 1)=z/\((((a.cm n co).cw n (a.head n)).u (a.s.bG z 1)).st=2->∀ p,0<=p->fh a.s z p->p=a.s.bG z 1);grind [ui]
 grind [so,uh,KA.Pw.zero]
theorem KA.Pw.acW{a:KA}(h:a.Pw)(ok:a.oC T)(WX:n≠0)(hl:(a.u n).st=1)(co:Int)(c:a.head n=n):(((a.cm n co).dG (a.s.bM n).1 n).cw n n).Pw:=by
 obtain⟨hr,h1,i1,i2,i3,i4⟩:=ok.o8 (p:=n) og;have I:=ok.wk.sI;have hzz:(0<=a.s.loc n/\a.s.loc n<6)/\a.s.aa (a.s.loc n)=true:=⟨i3,i4⟩;have hw:a.s.bG (a.s.loc n) 1=n:=(h.Ku ok (n:=n)).symm.trans c;rw[i1];show((((a.cm n co).cU (a.s.loc n) n).de 4).cw n n).Pw;have hwk:=(ok.wk.cm hr hl co).cU (a.s.loc n) n;obtain⟨g1,g2,g3,g4⟩:=BF n (a.s.mem (a.s.loc n)).1 (a.cm n co) (rZ I _) fun m hm=>SS.mem_range I hm;have em:(a.cm n co).cU (a.s.loc n) n=(a.s.mem (a.s.loc n)).1.foldl (KA.dN n) (a.cm n co):=rfl;rw[<-em]at g1 g2 g3 g4;have g2:∀ z q,((a.cm n co).cU (a.s.loc n) n).s.bG z q=if a.s.bG z q∈(a.s.mem (a.s.loc n)).1/\a.s.bG z q≠n then-1 else a.s.bG z q:=g2
 have g1:((a.cm n co).cU (a.s.loc n) n).s.aa=a.s.aa/\((a.cm n co).cU (a.s.loc n) n).s.ax=a.s.ax:=g1;have hL:∀ p,0<=p->(p∈(a.s.mem (a.s.loc n)).1↔fh a.s (a.s.loc n) p):=fun p hp=>Kt I hzz hp;have afv:((a.cm n co).cU (a.s.loc n) n).aL=a.aL:=Hv n _ _;generalize (a.cm n co).cU (a.s.loc n) n=m at*;have S:=lH.de m 4;have lE:∀ y,m.s.cF m.aL y=a.s.cF a.aL y:=fun y=>by
  rw[afv];exact Sp.SS.la (s:=a.s) (s':=m.s) g1.2 _ _
 have stay:∀ y q p,0<=p->(m.s.bG y q=p↔a.s.bG y q=p/\(p=n\/¬fh a.s (a.s.loc n) p)):=fun y q p hp=>by
  rw[g2];by_cases d:a.s.bG y q∈(a.s.mem (a.s.loc n)).1/\a.s.bG y q≠n
  ·rw[if_pos d];constructor
   ·intro q;omega
   ·rintro⟨e1,e2⟩;rw[e1]at d;rcases e2 with e2 | e2
    ·exact absurd e2 d.2
    ·exact absurd ((hL p hp).1 d.1) e2
  ·rw[if_neg d];constructor
   ·intro e1;refine⟨e1,?_⟩;rw[e1]at d;by_cases e2:p=n
    ·exact .inl e2
    ·exact .inr fun e3=>d ⟨(hL p hp).2 e3,e2⟩
   ·exact fun e=>e.1
 have u1:∀ p,0<=p->(p=n\/¬fh a.s (a.s.loc n) p)->m.s.loc p=a.s.loc p/\m.u p=(a.cm n co).u p:=fun p hp e=>g3 p (e.elim .inr fun e=>.inl fun q=>e ((hL p hp).1 q));have u2:∀ p,0<=p->(m.u p).st≠0->p=n\/¬fh a.s (a.s.loc n) p:=fun p hp e=>by
  by_cases e2:p=n
  ·exact .inl e2
  ·refine .inr fun e3=> ?_;rw[g4 p ((hL p hp).2 e3) e2]at e;exact e rfl
 have hB:∀ y,QX m (a.s.loc n) y->∀ q,m.s.bG y q<0:=fun y hy q=>by
  refine Decidable.byContradiction fun k=> ?_;obtain⟨k1,k2⟩:=(stay y q _ og).1 rfl;have k3:0<=m.s.bG y q:=og;have hyh:(0<=y/\y<6)/\a.s.aa y=true:=⟨hy.aa.1,by have:=hy.aa.2;rwa[g1.1]at this⟩;have hyw:=hy.cF;rw[lE]at hyw;have k4:fh a.s y (m.s.bG y q):=⟨q,k1⟩;obtain⟨k5,k6,k7⟩:=(eD I k3).1 k4;have k8:fh a.s (a.s.loc n) (m.s.bG y q):=(eD I k3).2 ⟨k5,k6,Ab I.D (uf I ⟨k3,k5⟩ k6) k7 hyw⟩;have k9:=k2.resolve_right fun q=>q k8;rw[k9]at k7;exact hy.ne (yE I.D hzz k7 hyw)
 have afw:∀ y,QX m (a.s.loc n) y->(m.de 4).s.aa y=false:=fun y hy=>MJ hwk.sI.D (by rw[afv];exact ok.d0) hB hy;generalize m.de 4=z4 at*;have n0:(0:Int)=n\/¬fh a.s (a.s.loc n) 0:=.inr (fun q=>by
  obtain⟨j,e⟩:=q
  have h2:=SS.Inv.in0 I ok.r0.loc ok.d0 e
  rw[h2,ok.r0.bG]at hw;exact WX hw.symm)
 have Y3:∀ p,((z4.cw n n).u p).st=(m.u p).st:=fun p=>by rw[(cW _ _ _ _).1,S.u]
 have par':∀ p,((z4.cw n n).u p).ax=(m.u p).ax:=fun p=>by
  rw[so,S.u];split
  ·rename_i e;exact e.2.2.2.symm
  ·rfl
 refine⟨fun p p0 q=> ?_,fun y y0 y1 hy=> ?_,?_⟩
 ·rw[Y3]at q;have VE:=hwk.jA q;have e:=u2 p VE.1 q;obtain⟨v1,v2⟩:=u1 p VE.1 e;have q1:(a.u p).st≠0:=(ui hl co p).1.1 (by rw[<-v2];exact q);obtain⟨k1,k2,k3⟩:=h.ax p p0 q1;rw[par',v2,uh,Y3];show _/\fh z4.s (z4.s.loc _) p/\(z4.s.bG (z4.s.loc p) 1=p->z4.s.loc _≠z4.s.loc p);rw[S.loc,S.bG,v1];have kr:=ok.wk.jA (n:=(a.u p).ax) og;have kn:(a.u p).ax≠n/\¬fh a.s (a.s.loc n) (a.u p).ax:=by
   by_cases e2:p=n
   ·subst e2;have k4:=k3 hw;refine⟨fun x=>k4 (by rw[x]),fun x=>k4 ?_⟩;obtain⟨x1,x2,x3⟩:=(eD I kr.1).1 x;obtain⟨_,_,y3⟩:=(eD I hr.1).1 k2;exact yE I.D hzz y3 x3
   ·have e3:=e.resolve_left e2;refine⟨fun x=>e3 (by rw[x]at k2;exact k2),fun x=>e3 (sm I VE.1 kr.1 x k2)⟩
  obtain⟨w1,w2⟩:=u1 _ kr.1 (.inr kn.2);rw[w1,w2];obtain⟨j,hj⟩:=k2;exact⟨(ui hl co _).2.1.2 ⟨k1,kn.1⟩,⟨j,by rw[S.bG];exact(stay _ j p VE.1).2 ⟨hj,e⟩⟩,fun x=>k3 ((stay _ 1 p VE.1).1 x).1⟩
 ·have hy:z4.s.aa y=true:=hy;have hym:=(S.aa y hy).1;have Z7:a.s.aa y=true:=by rwa[g1.1]at hym
  obtain⟨k1,k2,k3,k4⟩:=h.hd y y0 y1 Z7;have hnb:¬QX m (a.s.loc n) y:=fun q=>by rw[afw y q]at hy;cases hy
  have hrk:=ok.wk.jA k2;have e:a.s.bG y 1=n\/¬fh a.s (a.s.loc n) (a.s.bG y 1):=by
   by_cases e2:a.s.bG y 1=n
   ·exact .inl e2
   ·refine .inr fun e3=>hnb ⟨⟨⟨y0,y1⟩,hym⟩,?_,?_⟩
    ·rw[lE];have:=((eD I k1).1 e3).2.2;rwa[k3]at this
    ·rintro rfl;exact e2 hw
  have ew:m.s.bG y 1=a.s.bG y 1:=(stay y 1 _ k1).2 ⟨rfl,e⟩;obtain⟨v1,v2⟩:=u1 _ k1 e;show 0<=z4.s.bG y 1/\((z4.cw n n).u (z4.s.bG y 1)).st≠0/\z4.s.loc (z4.s.bG y 1)=y/\(((z4.cw n n).u (z4.s.bG y 1)).st=2->∀ p,0<=p->fh z4.s y p->p=z4.s.bG y 1);rw[Y3,S.bG,S.loc,ew,v1,v2];refine⟨k1,(ui hl co _).1.2 k2,k3,fun q p hp x=> ?_⟩;obtain⟨j,hj⟩:=x;rw[S.bG]at hj;obtain⟨j1,j2⟩:=(stay y j p hp).1 hj;rcases(ui hl co _).2.2.1 q with q | q
  ·exact k4 q p hp ⟨j,j1⟩
  ·rw[q]at k3;rw[q];exact j2.resolve_right fun x=>x (by rw[k3];exact⟨j,j1⟩)
 ·rw[par',(u1 0 (Int.le_refl 0) n0).2,uh];exact h.zero
theorem KA.Pw.aU{a:KA}{T:Int}(h:a.Pw)(ok:a.oC T){n:Int}(WX:n≠0)(hl:(a.u n).st=1)(co:Int):(a.aU n co).Pw:=by
 grind [KA.aU,KA.dW,KA.Pw.gx,KA.Pw.acW,KA.Pw.afu]
open Go.X.Sp
def DN(w w':Int->Int->Int)(a b p:Int):(a≠b->tr w b p a=w a)/\(w a=w' a->tr w a p a=tr w' a p a):=by
 constructor
 ·intro h;unfold tr;cases dv (fun q=>decide (w b (q+1)<0)) 20 with
  | some k=>show cv w b _ p a=w a;funext q;unfold cv;rw[if_neg fun c=>h c.1]
  | none=>rfl
 ·intro h;unfold tr;rw[h];cases dv (fun q=>decide (w' a (q+1)<0)) 20 with
  | some k=>show cv w a _ p a=cv w' a _ p a;funext q;unfold cv;rw[h]
  | none=>exact h
theorem DP(p:Int):∀ (l:List Int) (w:Int->Int->Int) (a:Int),a∉l->iv w p l a=w a
 | [],_,_,_=>rfl
 | x::r,w,a,h=>by
  unfold iv;rw[DP p r _ a fun q=>h (.tail _ q)];exact(DN w w a x p).1 (by rintro rfl;exact h (.head _))
theorem F7(p:Int):∀ (l:List Int) (w:Int->Int->Int) (a:Int),l.Nodup->a∈l->iv w p l a=tr w a p a
 | [],_,_,_,h=>by cases h
 | x::r,w,a,hn,h=>by
  obtain⟨hx,hr⟩:=List.nodup_cons.1 hn;unfold iv;by_cases e:a=x
  ·subst e;exact DP p r _ a hx
  ·rw[F7 p r _ a hr ((List.mem_cons.1 h).resolve_left e)];exact(DN _ _ a a p).2 ((DN w w a x p).1 e)
theorem MK{w:Int->Int->Int}{a:Int}(h:w a 1<0):tr w a p a 1=p:=by
 unfold tr;rw[eo (k:=0) (m:=20) og og (by simpa using h) fun j j0 j1=>og];grind [cv]
theorem KA.Bf.acX{a:KA}{aS:Bool}(h:a.Bf n aS)(y:Int):(y∉(a.sA n aS).cF (a.dA n aS) (a.sH n aS)->∀ q,(a.cH n aS).s.bG y q=a.s.bG y q)/\(y∈(a.sA n aS).cF (a.dA n aS) (a.sH n aS)->(∃ k,a.s.bG y k<0/\∀ q,(a.cH n aS).s.bG y q=if q=k then a.free else a.s.bG y q)/\(a.s.bG y 1<0->(a.cH n aS).s.bG y 1=a.free)):=by
 have hn:((a.sA n aS).cF (a.dA n aS) (a.sH n aS)).Nodup:=Sp.SS.uF h.ec.D _ (a.sH n aS) rfl h.zr.1 h.zr.2.1 h.zr.2.2;obtain⟨e1,e2⟩:=uG a.free ((a.sA n aS).cF (a.dA n aS) (a.sH n aS)) (a.sA n aS).bG hn fun x _=>h.ec.free h.jA.1 h.loc x;rw[h.en,<-h.bG];refine⟨fun hy q=>e1 y hy q,fun hy=>⟨?_,fun q=> ?_⟩⟩
 ·obtain⟨k,_,_,k3,k4⟩:=e2 y hy;exact⟨k,k3,k4⟩
 ·show iv _ _ _ y 1=_;simp_all[F7,MK]
def KA.Bf.XT{a:KA}{aS:Bool}(h:a.Bf n aS){q:Int}(hp:p≠a.free)(e:(a.cH n aS).s.bG y q=p):a.s.bG y q=p:=by
 obtain⟨w1,w2⟩:=h.acX y;by_cases hy:y∈(a.sA n aS).cF (a.dA n aS) (a.sH n aS);all_goals grind
theorem KA.Pw.cH{a:KA}{T:Int}(h:a.Pw)(ok:a.oC T){n:Int}{aS:Bool}(hl:a.aH n=0)(hf:a.free≠20)(hE:a.inE n aS=0):(a.cH n aS).Pw:=by
 have h00:=SS.Inv.il ok.wk.sI ok.r0.loc;have I:=ok.wk.fkI (n:=n) (aS:=aS) h00 hl hf hE;obtain⟨hn,hs⟩:=bX hl;obtain⟨hr,h1,i1,i2,i3,i4⟩:=ok.o8 (p:=n) og;have BA:=I.jA.2;have KF:a.sz n=a.s.loc n:=by unfold KA.sz;rw[i1]
 have hu:∀ m,m≠a.free->(a.cH n aS).u m=a.u m:=fun m hm=>ae _ _ hm;have Vg:(a.cH n aS).u a.free=a.Kj n:=aj _ _ _;have hnc:n≠a.free:=by rintro e;rw[<-e]at BA;omega
 have hlc:∀ m,m≠a.free->(a.cH n aS).s.loc m=a.s.loc m:=fun m hm=>by rw[I.o8,ae _ _ hm]
 have S7:∀ y q,a.s.bG y q≠a.free:=fun y q e=>by
  have:=(ok.wk.sI.mem y q _ I.jA.1.1 e).2.2.2.1;exact((ok.wk.lc _ I.jA.1.1 I.jA.1.2).2 this) BA
 have Gn:aS=true->a.s.aa (a.sH n aS)=false/\(a.cH n aS).s.aa=ad a.s.aa (a.sH n aS) true/\((0<=a.sH n aS/\a.sH n aS<6)/\(a.sA n aS).aa (a.sH n aS)=true)/\(a.sA n aS).ax (a.sH n aS)=a.sz n:=fun ho=>by
  subst ho;have hE:(a.s.add a.aL (a.sz n)).2.1=0:=hE;have h2:=si hE;refine⟨h2.2.1,by rw[I.yt];exact h2.2.2,⟨h2.1,by show(a.s.add a.aL (a.sz n)).2.2.aa _=true;rw[h2.2.2];exact aj _ _ _⟩,?_⟩;rcases a.s.mF a.aL (a.sz n)with⟨q,_,_⟩ | ⟨k,_,_,_,_,q5⟩
  ·omega
  ·show(a.s.add a.aL (a.sz n)).2.2.ax (a.s.add a.aL (a.sz n)).1=_;simp_all[aj]
 have dy:aS=false->a.sH n aS=a.s.loc n/\(a.cH n aS).s.aa=a.s.aa/\(a.sA n aS).cF (a.dA n aS)=a.s.cF a.aL:=fun ho=>by
  subst ho;exact⟨KF,by rw[I.yt];rfl,rfl⟩
 refine⟨fun p p0 q=> ?_,fun y y0 y1 hy=> ?_,?_⟩
 ·by_cases e:p=a.free
  ·subst e;rw[Vg];show((a.cH n aS).u n).st=1/\fh _ ((a.cH n aS).s.loc n) _/\(_->(a.cH n aS).s.loc n≠_);rw[hu n hnc,hlc n hnc];refine⟨hs,⟨_,by rw[<-KF];exact I.gh.2.1⟩,fun w=> ?_⟩;grind [KA.Pw.hd,KA.Bf.eG]
  ·rw[hu p e]at q ⊢;obtain⟨k1,⟨j,k2⟩,k3⟩:=h.ax p p0 q;have kqz:(a.u p).ax≠a.free:=by intro x;rw[x]at k1;omega
   have VE:=ok.wk.jA q;rw[hu _ kqz,hlc _ kqz,hlc p e];exact⟨k1,⟨j,by rw[I.eG (by rw[k2];exact VE.1)];exact k2⟩,fun w=>k3 (I.XT e w)⟩
 ·by_cases Z7:a.s.aa y=true
  ·obtain⟨k1,k2,k3,k4⟩:=h.hd y y0 y1 Z7;have kc:a.s.bG y 1≠a.free:=S7 y 1;rw[I.eG k1,hu _ kc,hlc _ kc];refine⟨k1,k2,k3,fun q p hp ⟨j,hj⟩=> ?_⟩;by_cases e:p=a.free
   ·exfalso;obtain⟨w1,w2⟩:=I.acX y;have hw:y∈(a.sA n aS).cF (a.dA n aS) (a.sH n aS):=Decidable.byContradiction fun c=>S7 y j (by rw[<-w1 c j,hj,e]);have sn:fh a.s y n:=by
     cases ho:aS with
     | false=>
      have:=dy ho;rw[this.1,this.2.2]at hw;exact(eD ok.wk.sI hn.1).2 ⟨hn.2,h1,hw⟩
     | true=>
      have g:=Gn ho;rcases oO I.ec.D g.2.2.1 with⟨z1,_,_⟩ | ⟨_,_,z3⟩
      ·omega
      ·rw[z3,g.2.2.2,KF]at hw;have hyz:y≠a.sH n aS:=by intro x;rw[<-x,Z7]at g;cases g.1
       have hw:=(List.mem_cons.1 hw).resolve_left hyz;have s1:fh (a.sA n aS) y n:=(eD I.ec hn.1).2 ⟨hn.2,by rw[I.lo];exact h1,by rw[I.lo];exact hw⟩;obtain⟨j,e⟩:=s1;exact⟨j,by rw[<-I.bG];exact e⟩
    grind
   ·exact k4 q p hp ⟨j,I.XT e hj⟩
  ·cases ho:aS with
   | false=>rw[(dy ho).2.1]at hy;exact absurd hy Z7
   | true=>
    obtain⟨g1,g2,g3,g4⟩:=Gn ho;rw[g2]at hy;have e:y=a.sH n aS:=by
     grind [ae]
    rw[<-ho];have hw:y∈(a.sA n aS).cF (a.dA n aS) (a.sH n aS):=by rw[e];exact DL I.ec.D g3
    have w0:a.s.bG y 1<0:=by rw[ok.wk.sI.A y (by rw[e];exact g1)];decide
    rw[((I.acX y).2 hw).2 w0,Vg,I.o8,aj];exact⟨I.jA.1.1,(by decide:(1:Int)≠0),e.symm,fun q=>absurd q (by decide:¬(1:Int)=2)⟩
 grind [KA.oC.r0,KA.R0.st,KA.Pw.zero]
def KA.Pw.db{a:KA}(h:a.Pw)(ok:a.oC T)(n:Int):(a.fH n).Pw:=by
 unfold KA.fH;split
 ·rename_i c;obtain⟨_,hr,hs,hp,_⟩:=q9 c;generalize (a.cL n 20).aW=x at*;obtain⟨_,h1,i1,i2,i3,i4⟩:=ok.o8 (p:=x) og;have I:=ok.wk.sI;have ez:a.sz x=a.s.loc x:=by unfold KA.sz;rw[i1]
  rw[ez];have es:(a.eI x).s=a.s.left x:=by
   show(a.s.fi x).2=_;unfold Sp.SS.fi;rw[i1,if_neg (show ¬(a.s.loc x,(0:Int)).2≠0 from fun q=>q rfl)]
  have Dn:∀ y q p,0<=p->((a.eI x).s.bG y q=p↔a.s.bG y q=p/\p≠x):=fun y q p hp=>by
   rw[es];show(if a.s.bG y q=x then(-1:Int)else a.s.bG y q)=p↔_;split
   ·constructor
    ·intro k;omega
    ·rintro⟨k1,k2⟩;omega
   ·constructor
    ·intro k;exact⟨k,og⟩
    ·exact fun k=>k.1
  have Ep:∀ p,p≠x->(a.eI x).s.loc p=a.s.loc p:=fun p hp=>by rw[es];exact ae _ _ hp
  have S:=lH.one (a.eI x) (a.s.loc x);have hu:∀ p,p≠x->((a.eI x).dt (a.s.loc x)).u p=a.u p:=fun p hp=>by rw[S.u];exact qV _ hp
  have hux:((a.eI x).dt (a.s.loc x)).u x=PA.nil:=by rw[S.u];exact aj _ _ _
  have sP:x≠0:=by rintro rfl;have:=ok.r0.st;omega
  refine⟨fun p p0 q=> ?_,fun y y0 y1 hy=> ?_,by rw[hu 0 fun e=>sP e.symm];exact h.zero⟩
  ·have e:p≠x:=by rintro rfl;rw[hux]at q;exact q rfl
   rw[hu p e]at q ⊢;obtain⟨k1,⟨j,k2⟩,k3⟩:=h.ax p p0 q;have kqz:(a.u p).ax≠x:=by intro w;rw[w]at k1;omega
   have VE:=ok.wk.jA q;rw[hu _ kqz,S.loc,S.bG,Ep _ kqz,Ep p e];exact⟨k1,⟨j,by rw[S.bG];exact(Dn _ _ p VE.1).2 ⟨k2,e⟩⟩,fun w=>k3 ((Dn _ _ p VE.1).1 w).1⟩
  ·have Z7:a.s.aa y=true:=by have:=(S.aa y hy).1;rw[es]at this;exact this
   obtain⟨k1,k2,k3,k4⟩:=h.hd y y0 y1 Z7;by_cases e:a.s.bG y 1=x
   ·exfalso;rw[e]at k3 k4;have k5:=k4 hs;have y0':0<y:=by
     refine Decidable.byContradiction fun c=> ?_;have:y=0:=og;rw[this,ok.r0.bG]at e;exact sP e.symm
    have g:((a.eI x).dt y).s.aa y=false:=F5 ⟨y0',y1⟩ (fun q=>by
     refine Decidable.byContradiction fun c=> ?_
     obtain⟨m1,m2⟩:=(Dn y q _ (show 0<=(a.eI x).s.bG y q by omega)).1 rfl
     exact m2 (k5 _ og ⟨q,m1⟩)) (fun d d0 d1 dh dp=>by
     have dh:a.s.aa d=true:=by rw[es]at dh;exact dh
     have dp:a.s.ax d=y:=by rw[es]at dp;exact dp
     obtain⟨m1,m2,m3,_⟩:=h.hd d d0 d1 dh
     have hD:=I.D
     rcases oO hD ⟨⟨d0,d1⟩,dh⟩with⟨z1,_,_⟩ | ⟨z1,z2,z3⟩
     ·omega
     ·have mr:=ok.wk.jA m2
      have:fh a.s y (a.s.bG d 1):=(eD I m1).2 ⟨mr.2,by rw[m3];exact d0,by rw[m3,z3,dp];exact .tail _ (DL hD ⟨⟨y0,y1⟩,Z7⟩)⟩
      have e2:=k5 _ m1 this
      rw[e2,k3]at m3
      rw[<-m3]at dp z2
      rw[dp]at z2;omega)
    rw[k3]at hy;rw[g]at hy;cases hy
   ·have ew:(a.eI x).s.bG y 1=a.s.bG y 1:=(Dn y 1 _ k1).2 ⟨rfl,e⟩;rw[S.bG,S.loc,ew,hu _ e,Ep _ e];refine⟨k1,k2,k3,fun q p hp ⟨j,hj⟩=> ?_⟩;rw[S.bG]at hj;exact k4 q p hp ⟨j,((Dn y j p hp).1 hj).1⟩
 ·exact h
theorem KA.Pw.iA{a:KA}(h:a.Pw)(ok:a.oC T)(n:Int)(aS:Bool):(a.fy n aS).Pw:=by
 unfold KA.fy;split
 ·omega
 ·split
  ·exact h.same (fun _=>⟨rfl,rfl⟩) rfl
  grind [KA.Pw.cH]
end Go.X.Kn
