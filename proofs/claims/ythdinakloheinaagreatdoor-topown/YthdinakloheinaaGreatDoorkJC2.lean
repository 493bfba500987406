import Derived.Test.YthdinakloheinaaGreatDoorkNKW3
set_option linter.all false
namespace Go.X.Tr
open Go Go.Proofs Go.X
set_option maxRecDepth 20000
set_option maxHeartbeats 4000000
def La:eI Tryz.prog 166 0=some 0:=kq
def Wy:eI Tryz.prog 166 1=some 1:=kq
def Ep:eI Tryz.prog 166 2=some 3:=kq
def Er:rF Tryz.prog 168 4=true:=kq
def Wz:jR Tryz.prog 164=true:=kq
def abb:jR Tryz.prog 95=true:=kq
def agt(bf:Nat)(s:FC)(d:Int->Nat)(B:Int)(hO:s.toFF.Ok d B)(hB:B<=900000)(t:Int):Spec Tryz.prog 102 [az bf 0 0,iI t] [.cells bf 0 321 (aC s),.aW au (FC.bd 9 s),.aW au (FC.bh 3 s),dh (FC.rP s) (FC.rC s) 3 (FC.toFF s).roots] (fun v H1=>(s.mF t≠0/\v= .tuple #[.pointer none,ay 102 (s.mF t)]/\H1=[.cells bf 0 321 (aC s),.aW au (FC.bd 9 s),.aW au (FC.bh 3 s),dh (FC.rP s) (FC.rC s) 3 (FC.toFF s).roots])\/(s.mF t=0/\∃ (bt:Nat) (u:FC),v= .tuple #[az bt 0 0,.nilIface]/\u.toFF=s.toFF.dZ (s.fW t)/\u.rP=s.rP/\u.rC=s.rC/\H1=[.cells bt 0 4 (aL bf ⟨t,s.fW t⟩ (.slice none 0 0)),aM none 0 168 4 0 C0,.cells bf 0 321 (aC u),.aW au (FC.bd 9 u),.aW au (FC.bh 3 u),dh (FC.rP s) (FC.rC s) 3 (FC.toFF s).roots])):=by
 have hI:=hO.sh og;refine Spec.go 26 [0,1,4,5,6,7,15] [] Tryz.func102 fun W=> ?_;refine cq (Wo _ _ _ hI _) (pk [0,2]) ?_;refine cd ?_ ?_<;>intro h1
 ·refine bA rfl rfl rfl (ah (pk [0,1,1,0]) rfl ?_);grind [aU,aS,bN]
 ·refine ca (uT _ _ _ hI _) (pk [0,1,1]) ?_;rintro _ _ ⟨rfl,u,hu,pu,cu,rfl⟩;apply gO;refine XO.v (V.build (vs:= #[(0,iI t),(1,iI (s.fW t))]) rfl (v:=.agg (WH.cR ⟨t,s.fW t⟩)) fun _=>kq) rfl (gO ?_);refine XO.v (V.build (vs:= #[(0,az bf 0 0),(1,.agg (WH.cR ⟨t,s.fW t⟩))]) rfl (v:=.agg (acE bf ⟨t,s.fW t⟩ (.slice none 0 0))) fun _=>kq) rfl (gO ?_);refine XO.box (m:=4) (C:=aL bf ⟨t,s.fW t⟩ (.slice none 0 0)) rfl rfl (aL.box _ _ _) rfl ?_;intro bt;apply gO;refine XR.fF 168 4 (bA rfl rfl rfl (ah (pk [1,0,0,0,0,0]) rfl ?_));exact .inr ⟨Decidable.byContradiction aq,bt,u,rfl,hu,pu,cu,rfl⟩
def adN(bt bf:Nat)(r:WH)(l:List MT)(p:Option Addr)(cap k c:Nat)(C:Nat->Value)(hv:RV.ok ⟨p,cap,k,l.length,c,C⟩)(hC:MC C l)(NF:l.length<=6)(s:FC)(d:Int->Nat)(B:Int)(hO:s.toFF.Ok d B)(hB:B<=900000):Spec Tryz.prog 55 [az bt 0 0] [.cells bt 0 4 (aL bf r (.slice p l.length c)),aM p cap 168 4 k C,.cells bf 0 321 (aC s),.aW au (FC.bd 9 s),.aW au (FC.bh 3 s)] (fun v H1=>∃ (PC:Nat) (p2:Option Addr) (pF k2 c2:Nat) (C2:Nat->Value) (u:FC),v=az PC 0 0/\RV.ok ⟨p2,pF,k2,l.length,c2,C2⟩/\MC C2 l/\u.toFF=OP s.toFF l r/\u.toFF.Ok d (B+13)/\u.rP=s.rP/\u.rC=s.rC/\H1=[.cells PC 0 4 (aL bf r (.slice p2 l.length c2)),aM p2 pF 168 4 k2 C2,.cells bt 0 4 (aL bf r (.slice p l.length c)),aM p cap 168 4 k C,.cells bf 0 321 (aC u),.aW au (FC.bd 9 u),.aW au (FC.bh 3 u)]):=by
 have jd:=oT hv;have jd:l.length<=k:=jd;have hI:=hO.sh og;refine Spec.go 58 [0,2,3,5,34,35,36,37] [] Tryz.func55 fun W=> ?_;apply XC.il mixed (f:=16) (l:= #[qF,qF,qF,qF,qF,qF,qF,qF,qF,qF,qF,qF,qF,qF,qF,qF]) rfl rfl XM.kL;apply XQ.pv (i:=0) rfl kq rfl (V.move rfl) rfl rfl;apply XQ.pv (i:=1) rfl kq rfl (bC rfl) rfl rfl;apply XQ.pv (i:=2) rfl kq rfl (V.fieldAddr rfl La) rfl rfl;apply XQ.load (i:=3) (.cells _ _ _ _) [14] rfl kq rfl .aa (V.load rfl eh (aL.B3 _ _) abb) rfl kq rfl;apply XQ.pv (i:=4) rfl kq rfl (V.move rfl) rfl rfl;apply XQ.pv (i:=5) rfl kq rfl (bC rfl) rfl rfl;apply XQ.pv (i:=6) rfl kq rfl (V.fieldAddr rfl Wy) rfl rfl;apply XQ.load (i:=7) (.cells _ _ _ _) [14] rfl kq rfl .aa (eG rfl eh (aL.Ev _ _) fZ di) rfl kq rfl;apply XQ.pv (i:=8) rfl kq rfl (V.move rfl) rfl rfl;apply XQ.pv (i:=9) rfl kq rfl (bC rfl) rfl rfl;apply XQ.pv (i:=10) rfl kq rfl (V.fieldAddr rfl Ep) rfl rfl;apply XQ.load (i:=11) (.cells _ _ _ _) [12,14] rfl kq rfl .aa (V.load rfl eh (kY _ _) Wz) rfl kq rfl;refine XQ.g (i:=12) rfl kq rfl (RG.afb (e:=168) (v:=⟨p,cap,k,l.length,c,C⟩) hv rfl Tryz.underlying164 Er (.ao .aa) (by show l.length<=_;omega)) rfl (fun _ _ dX=>⟨fun hs=>(hs 12 (by first | (simp;done) | (simp;rfl)) rfl).elim,fun _=>fb (.ao .aa) _ dX,fun _=>fb (.ao .aa) _ dX,trivial⟩) ?_;intro u hu;obtain⟨Xg,Lx,hu3⟩:=hu;obtain⟨p2,pF,k2,WA,c2,C2⟩:=u;have Lx:WA=l.length:=Lx;subst Lx;have hC2:MC C2 l:=hC.copy hu3;have aiM:l.length<=k2:=oT Xg;refine XQ.pv (i:=13) rfl kq rfl (V.build (vs:= #[(0,az bf 0 0),(1,.agg (WH.cR r)),(2,.slice p2 l.length c2)]) rfl (v:=.agg (acE bf r (.slice p2 l.length c2))) fun _=>kq) rfl rfl ?_;refine XQ.g (i:=14) rfl kq rfl (RG.box (m:=4) (C:=aL bf r (.slice p2 l.length c2)) rfl rfl (aL.box _ _ _)) rfl (fun _ _ dX=>⟨fun hs=>(hs 12 (by first | (simp;done) | (simp;rfl)) rfl).elim,fun hs=>(hs 14 (by first | (simp;done) | (simp;rfl)) rfl).elim,fun hs=>(hs 14 (by first | (simp;done) | (simp;rfl)) rfl).elim,trivial⟩) ?_;intro PC _;apply XQ.pv (i:=15) rfl kq rfl (V.assign rfl) rfl rfl;apply XQ.done kq;apply gE;refine rq [0,1,2,3,4,5,6,7,8,9] mixed ?_;apply ld .aa (aL.B3 _ _);apply ld .aa (Gf _ _);refine ca (uT _ _ s hI _) (pk [4,4,4]) ?_;rintro _ _ ⟨rfl,u0,hu0,pu0,cu0,rfl⟩;have hO0:u0.toFF.Ok d (B+1):=by rw[hu0];exact hO.dZ r.node
 apply gO;apply ld (.t3 .aa) (kY _ _);refine lp (σ:=FC×Int) (fun x=>(l.length-x.2).toNat) (fun x=>yU x.1.toFF (l.drop x.2.toNat)=OP s.toFF l r/\x.1.toFF.Ok d (B+1+2*x.2)/\x.1.rP=s.rP/\x.1.rC=s.rC/\0<=x.2/\x.2<=l.length) (fun x=>[(36,iI x.2),(3,az PC 0 0),(34,.slice p2 l.length c2),(35,iI l.length)]) (fun x=>XM W (cm [.cells bt 0 4 (aL bf r (.slice p l.length c)),aM p cap 168 4 k C,.cells bf 0 321 (aC s),.aW au (FC.bd 9 s),.aW au (FC.bh 3 s)]) [.cells PC 0 4 (aL bf r (.slice p2 l.length c2)),aM p2 pF 168 4 k2 C2,.cells bt 0 4 (aL bf r (.slice p l.length c)),aM p cap 168 4 k C,.cells bf 0 321 (aC x.1),.aW au (FC.bd 9 x.1),.aW au (FC.bh 3 x.1)]) ((u0,0)) ?_ S4 (xq (pk [3,3,3,3,0,0,0])) ?_
 ·grind [OP]
 intro x hx;obtain⟨hh,Xm,Ot,ZH,rB,Iu⟩:=hx;apply gC;refine cd ?_ ?_<;>intro h1
 ·apply bR (.ao .aa) og;intro g hg;subst hg;refine sd ?_;apply qC (.ao .aa) (hC2.ld aiM _ og);apply XO.bQ (z:=.agg (MT.cR MT.nil)) (m:=4) (C:=fE MT.nil) (fE.box _);intro bm;apply gO;apply gn .aa (fE.st _ _) rfl ⟨rfl,rfl⟩;refine rq [0,1,2,3,4,5,6,7] mixed ?_;apply ld (.ao .aa) (aL.B3 _ _);apply ld .aa (xe _);refine ca (uT _ _ x.1 (Xm.sh og) _) (pk [5,5,5]) ?_;rintro _ _ ⟨rfl,u1,agu,pu1,cu1,rfl⟩;apply gO;refine rq [0,1,2,3,4,5,6,7] mixed ?_;have PD:u1.toFF.Ok d (B+1+2*x.2+1):=by rw[agu];exact Xm.dZ (qk l x.2).at_.node
  apply ld (.t4 .aa) (aL.B3 _ _);apply ld (.t3 .aa) (xf _);refine ca (uT _ _ u1 (PD.sh og) _) (pz 3) ?_;rintro _ _ ⟨rfl,u2,agv,pu2,cu2,rfl⟩;apply gO;refine sd ?_;refine ag ((u2,x.2+1)) ?_ ?_ S4 (xq (pk [4,4,4,4,0,0,0]))
  ·omega
  ·exact⟨by rw[<-hh,MY (i:=x.2) ⟨og,og⟩];show yU u2.toFF _=_;rw[agv,agu],by have h9:=PD.dZ (qk l x.2).to.node;rw[show B+1+2*(x.2+1)=B+1+2*x.2+1+1 from og];show u2.toFF.Ok d _;rw[agv];exact h9,by show u2.rP=_;rw[pu2,pu1,Ot],by show u2.rC=_;rw[cu2,cu1,ZH],by simp;omega,by simp;omega⟩
 ·refine bI (pz 7) ?_;have e:x.2=l.length:=og;rw[e]at hh;exact⟨PC,p2,pF,k2,c2,C2,x.1,rfl,Xg,hC2,by rw[<-hh,Rk],⟨Xm.inv,fun n a b=>Int.le_trans (Xm.bj n a b) og,by have:=Xm.nn;omega⟩,Ot,ZH,rfl⟩
def PE(bt bf:Nat)(r:WH)(l:List MT)(p:Option Addr)(cap k c:Nat)(C:Nat->Value)(hv:RV.ok ⟨p,cap,k,l.length,c,C⟩)(hC:MC C l)(NF:l.length<=6)(s:FC)(d:Int->Nat)(B:Int)(hO:s.toFF.Ok d B)(hB:B<=900000):Spec Tryz.prog 133 [az bt 0 0] [.cells bt 0 4 (aL bf r (.slice p l.length c)),aM p cap 168 4 k C,.cells bf 0 321 (aC s),.aW au (FC.bd 9 s),.aW au (FC.bh 3 s)] (fun v H1=>v= .tuple #[]/\∃ u:FC,u.toFF=Ca s.toFF l r/\u.toFF.Ok d (B+13)/\u.rP=s.rP/\u.rC=s.rC/\H1=[.cells bt 0 4 (aL bf r (.slice none 0 0)),aM none 0 168 4 0 C0,.cells bf 0 321 (aC u),.aW au (FC.bd 9 u),.aW au (FC.bh 3 u)]):=by
 have jd:=oT hv;have jd:l.length<=k:=jd;refine Spec.go 43 [0,3,7,8,9,10] [] Tryz.func133 fun W=> ?_;apply ld .aa (kY _ _);refine lp (σ:=FC×Int) (fun x=>(l.length-x.2).toNat) (fun x=>DD x.1.toFF (l.drop x.2.toNat)=DD s.toFF l/\x.1.toFF.Ok d (B+2*x.2)/\x.1.rP=s.rP/\x.1.rC=s.rC/\0<=x.2/\x.2<=l.length) (fun x=>[(9,iI x.2),(0,az bt 0 0),(7,.slice p l.length c),(8,iI l.length)]) (fun x=>XM W (cm [.cells bt 0 4 (aL bf r (.slice p l.length c)),aM p cap 168 4 k C,.cells bf 0 321 (aC s),.aW au (FC.bd 9 s),.aW au (FC.bh 3 s)]) [.cells bt 0 4 (aL bf r (.slice p l.length c)),aM p cap 168 4 k C,.cells bf 0 321 (aC x.1),.aW au (FC.bd 9 x.1),.aW au (FC.bh 3 x.1)]) ((s,0)) ?_ S4 (xq (pz 5)) ?_
 ·simp_all
 intro x hx;obtain⟨hh,Xm,Ot,ZH,rB,Iu⟩:=hx;apply gC;refine cd ?_ ?_<;>intro h1
 ·apply bR (.ao .aa) og;intro g hg;subst hg;refine sd (qC (.ao .aa) (hC.ld jd _ og) (XO.bQ (z:=.agg (MT.cR MT.nil)) (m:=4) (C:=fE MT.nil) (fE.box _) ?_));intro bm;apply gO;refine gn .aa (fE.st _ _) rfl ⟨rfl,rfl⟩ (rq [0,1,2,3,4,5,6,7] mixed (ld (.ao .aa) (aL.B3 _ _) (ld .aa (xe _) ?_)));refine ca (GJ _ _ x.1 (Xm.sh og) _) (pk [3,3,3]) ?_;rintro _ _ ⟨rfl,u1,Xg,pu1,cu1,rfl⟩;apply gO;refine rq [0,1,2,3,4,5,6,7] mixed ?_;have PD:u1.toFF.Ok d (B+2*x.2+1):=by rw[Xg];exact Xm.kO (qk l x.2).at_.node
  refine ld (.t4 .aa) (aL.B3 _ _) (ld (.t3 .aa) (xf _) ?_);refine ca (GJ _ _ u1 (PD.sh og) _) (pz 3) ?_;rintro _ _ ⟨rfl,u2,Lx,pu2,cu2,rfl⟩;apply gO;refine sd (ag ((u2,x.2+1)) ?_ ?_ S4 (xq (pk [4,4,0,0,0])))
  ·omega
  ·exact⟨by rw[<-hh,Rj (i:=x.2) ⟨og,og⟩];show DD u2.toFF _=_;rw[Lx,Xg],by have h9:=PD.kO (qk l x.2).to.node;rw[show B+2*(x.2+1)=B+2*x.2+1+1 from og];show u2.toFF.Ok d _;rw[Lx];exact h9,by show u2.rP=_;rw[pu2,pu1,Ot],by show u2.rC=_;rw[cu2,cu1,ZH],by simp;omega,by simp;omega⟩
 ·refine rq [0,1,2,3,4,5,6,7,8,9] mixed (ld .aa (aL.B3 _ _) (ld .aa (Gf _ _) ?_));refine ca (GJ _ _ x.1 (Xm.sh og) _) (pk [2,2,2]) ?_;rintro _ _ ⟨rfl,u3,hu3,pu3,cu3,rfl⟩;apply gO;refine XR.fF 168 4 (st (.t4 .aa) (DC _ _ _) rfl (cU rfl (ah (pk [4,0,0,0,0]) rfl ?_)));have e:x.2=l.length:=og;rw[e,Vo]at hh;have h9:=Xm.kO r.node;exact⟨rfl,u3,by rw[hu3,hh];rfl,by rw[hu3];exact⟨h9.inv,fun n a b=>Int.le_trans (h9.bj n a b) og,by have:=h9.nn;omega⟩,by rw[pu3,Ot],by rw[cu3,ZH],rfl⟩
def ZI(bt bf:Nat)(r:WH)(l:List MT)(p:Option Addr)(cap k c:Nat)(C:Nat->Value)(hv:RV.ok ⟨p,cap,k,l.length,c,C⟩)(hC:MC C l)(NF:l.length<=6)(s:FC)(d:Int->Nat)(B:Int)(hO:s.toFF.Ok d B)(hB:B<=800000)(to:Int):Spec Tryz.prog 106 [az bt 0 0,iI to] [.cells bt 0 4 (aL bf r (.slice p l.length c)),aM p cap 168 4 k C,.cells bf 0 321 (aC s),.aW au (FC.bd 9 s),.aW au (FC.bh 3 s),dh (FC.rP s) (FC.rC s) 3 (FC.toFF s).roots] (fun v H1=>(s.mF to≠0/\v=ay 102 (s.mF to)/\H1=[.cells bt 0 4 (aL bf r (.slice p l.length c)),aM p cap 168 4 k C,.cells bf 0 321 (aC s),.aW au (FC.bd 9 s),.aW au (FC.bh 3 s),dh (FC.rP s) (FC.rC s) 3 (FC.toFF s).roots])\/(s.mF to=0/\v= .nilIface/\∃ u:FC,u.toFF=Ca (s.toFF.dZ (s.fW to)) l r/\u.toFF.Ok d (B+14)/\u.rP=s.rP/\u.rC=s.rC/\H1=[.cells bt 0 4 (aL bf ⟨to,s.fW to⟩ (.slice none 0 0)),aM none 0 168 4 0 C0,.cells bf 0 321 (aC u),.aW au (FC.bd 9 u),.aW au (FC.bh 3 u),dh (FC.rP s) (FC.rC s) 3 (FC.toFF s).roots])):=by
 have hI:=hO.sh og;refine Spec.go 33 [0,1,4,5,6,17] [] Tryz.func106 fun W=> ?_;apply ld .aa (aL.B3 _ _);refine cq (Wo _ _ _ hI _) (pk [2,4]) ?_;refine cd ?_ ?_<;>intro h1
 ·refine aO rfl rfl (ah (pk [2,2,0,1,1,0]) rfl ?_);grind [aU,aS]
 ·apply ld (.t2 .aa) (aL.B3 _ _);refine ca (uT _ _ _ hI _) (pk [0,3,3]) ?_;rintro _ _ ⟨rfl,u0,hu0,pu0,cu0,rfl⟩;have hO0:u0.toFF.Ok d (B+1):=by rw[hu0];exact hO.dZ (s.fW to)
  apply gO;refine ca (PE _ _ _ _ _ _ _ _ _ hv hC NF u0 d (B+1) hO0 og) (pk [4,4,0,0,0]) ?_;rintro _ _ ⟨rfl,u,hu,hOu,pu,cu,rfl⟩;apply gO;refine XO.v (V.build (vs:= #[(0,iI to),(1,iI (s.fW to))]) rfl (v:=.agg (WH.cR ⟨to,s.fW to⟩)) fun _=>kq) rfl (gO ?_);refine gn .aa (Vg _ _ _) rfl ⟨rfl,rfl⟩ (aO rfl rfl (ah (pz 6) rfl ?_));grind [aU,aS,bN]
def WB:cX Tryz.prog 217=true:=kq
def WC:eI Tryz.prog 163 1=some 1:=kq
def la:jR Tryz.prog 3=true:=kq
def WD:fm Tryz.prog 164=some 1:=kq
def Lb:fm Tryz.prog 168=some 4:=kq
set_option maxHeartbeats 8000000 in def adP(bt bf:Nat)(r:WH)(l:List MT)(p:Option Addr)(cap k c:Nat)(C:Nat->Value)(hv:RV.ok ⟨p,cap,k,l.length,c,C⟩)(hC:MC C l)(NF:l.length<=6)(s:FC)(d:Int->Nat)(B:Int)(hO:s.toFF.Ok d B)(hB:B<=900000)(a z:WH):Spec Tryz.prog 214 [az bt 0 0,.agg (WH.cR a),.agg (WH.cR z)] [.cells bt 0 4 (aL bf r (.slice p l.length c)),aM p cap 168 4 k C,.cells bf 0 321 (aC s),.aW au (FC.bd 9 s),.aW au (FC.bh 3 s)] (fun v H1=>v=ay 102 (uA s.toFF l a z)/\∃ (p':Option Addr) (cQ k' c':Nat) (C':Nat->Value) (u:FC),RV.ok ⟨p',cQ,k',(pt s.toFF l a z).length,c',C'⟩/\MC C' (pt s.toFF l a z)/\u.toFF=re s.toFF l a z/\u.rP=s.rP/\u.rC=s.rC/\H1=[.cells bt 0 4 (aL bf r (.slice p' (pt s.toFF l a z).length c')),aM p' cQ 168 4 k' C',.cells bf 0 321 (aC u),.aW au (FC.bd 9 u),.aW au (FC.bh 3 u)]):=by
 have jd:=oT hv;have jd:l.length<=k:=jd;have hI:=hO.sh og;refine Spec.go 109 [0,4,5,6,8,9,10,11,14,17,18,19,20,34,54,59,64,65,66,67,73,81] [(4,0)] Tryz.func214 fun W=> ?_;refine XO.box (m:=2) (C:=aY (a)) rfl rfl (aY.box _) rfl ?_;intro ba;apply gO;refine XO.box (m:=2) (C:=aY (z)) rfl rfl (aY.box _) rfl ?_;intro bz;apply gO;apply lP (.ao .aa) (aY.agg _);apply lP .aa (aY.agg _);apply nt (e:=163) (vs:= #[(0,.agg (WH.cR a)),(1,.agg (WH.cR z))]) (A:= #[iI a.dD,iI a.node,iI z.dD,iI z.node]) (sz:=2) rfl (fun _=>kq) rfl og rfl;intro bw;apply gO;refine lp (σ:=Int) (fun i=>(2-i).toNat) (fun i=>(0<=i/\i<=2)/\(1<=i->xh s.toFF a=0)/\(2<=i->xh s.toFF z=0)) (fun i=>[(19,iI i),(0,az bt 0 0),(4,az ba 0 0),(5,az bz 0 0),(17,.slice (some ⟨bw,0,none⟩) 2 2),(18,iI 2)]) (fun i=>XM W (cm [.cells bt 0 4 (aL bf r (.slice p l.length c)),aM p cap 168 4 k C,.cells bf 0 321 (aC s),.aW au (FC.bd 9 s),.aW au (FC.bh 3 s)]) [.cells ba 0 2 (aY a),.cells bz 0 2 (aY z),aM (some ⟨bw,0,none⟩) 2 163 2 2 (wC [a,z]),.cells bt 0 4 (aL bf r (.slice p l.length c)),aM p cap 168 4 k C,.cells bf 0 321 (aC s),.aW au (FC.bd 9 s),.aW au (FC.bh 3 s)]) (0) ?_ S6 (fun _ hw=>by rw[ais]at hw;exact XM.pick (pk [2,1,0,0,0,0,0,0]) hw) ?_
 ·omega
 intro i hi;obtain⟨⟨hi0,Sz⟩,hda,hdz⟩:=hi;apply gC;refine cd ?_ ?_<;>intro h2
 ·refine sd ?_;apply qC (.t2 .aa) (Vh [a,z] _ ⟨og,by show i<2;omega⟩);apply XO.bQ (z:=.agg (WH.cR WH.nil)) (m:=2) (C:=aY WH.nil) (aY.box _);intro bx;apply gO;apply gn .aa (aY.st _ _) rfl ⟨rfl,rfl⟩;apply ctG (σ:=Nat) (fun _=>True) (fun y=>[(0,az bt 0 0),(4,az ba 0 0),(5,az bz 0 0),(8,az bx 0 0),(9,az y 0 0),(10,ay 102 (s.cF (LA [a,z] i).node 0)),(17,.slice (some ⟨bw,0,none⟩) 2 2),(18,iI 2),(19,iI i)]) fun y=>XM W (cm [.cells bt 0 4 (aL bf r (.slice p l.length c)),aM p cap 168 4 k C,.cells bf 0 321 (aC s),.aW au (FC.bd 9 s),.aW au (FC.bh 3 s)]) [.cells ba 0 2 (aY a),.cells bz 0 2 (aY z),aM (some ⟨bw,0,none⟩) 2 163 2 2 (wC [a,z]),.cells bt 0 4 (aL bf r (.slice p l.length c)),aM p cap 168 4 k C,.cells bf 0 321 (aC s),.aW au (FC.bd 9 s),.aW au (FC.bh 3 s),.cells bx 0 2 (aY (LA [a,z] i)),.cells y 0 4 (nZ (s.Xi (LA [a,z] i).node))]
  ·apply XC.il mixed (f:=13) (l:= #[qF,qF,qF,qF,qF,qF,qF,qF,qF,qF,qF,qF,qF]) rfl rfl XM.kL;apply XQ.pv (i:=0) rfl kq rfl (V.move rfl) rfl rfl;apply XQ.pv (i:=1) rfl kq rfl (bC rfl) rfl rfl;apply XQ.pv (i:=2) rfl kq rfl (V.fieldAddr rfl La) rfl rfl;apply XQ.load (i:=3) (.cells _ _ _ _) [6,11] rfl kq rfl (.t4 .aa) (V.load rfl eh (aL.B3 _ _) abb) rfl kq rfl;apply XQ.pv (i:=4) rfl kq rfl (V.fieldAddr rfl WC) rfl rfl;apply XQ.load (i:=5) (.cells _ _ _ _) [6,11] rfl kq rfl .aa (V.load rfl eh (aY.Ev _) la) rfl kq rfl;apply XQ.im (i:=6) (j:=10) kq
   ·apply XS.call (i:=6) rfl rfl rfl (No _ _ _ hI _) (pk [6]) WB rfl (by rintro _ _ ⟨rfl,rfl⟩;all_goals(intro _ dX;refine⟨?_,?_,trivial⟩<;>exact fun hs=>(hs 6 (by first | (simp;done) | (simp;rfl)) rfl).elim));rintro _ _ ⟨rfl,rfl⟩;apply XQ.pv (i:=7) rfl kq rfl (V.move rfl) rfl rfl;apply XQ.pv (i:=8) rfl kq rfl (V.extract rfl rfl) rfl rfl;apply XQ.pv (i:=9) rfl kq rfl (V.extract rfl rfl) rfl rfl;refine XQ.bQ (i:=10) (z:=.agg NV.zero.cR) (m:=4) (C:=nZ NV.zero) rfl kq rfl kq rfl (oH _) rfl (fun _ _ dX=>⟨fun hs=>(hs 6 (by first | (simp;done) | (simp;rfl)) rfl).elim,fun hs=>(hs 6 (by first | (simp;done) | (simp;rfl)) rfl).elim,trivial⟩) ?_;intro bv;refine XQ.gg (i:=11) rfl kq rfl rfl rfl .aa (mh _ _) ⟨rfl,rfl⟩ nI (fun _ dX=>⟨fun hs=>(hs 6 (by first | (simp;done) | (simp;rfl)) rfl).elim,fun hs=>(hs 6 (by first | (simp;done) | (simp;rfl)) rfl).elim,trivial⟩) ?_;apply XQ.pv (i:=12) rfl kq rfl (V.assign rfl) rfl rfl;apply XQ.done kq;apply gE;refine nJ (bv) ?_ (.cons rfl (.cons rfl (.cons rfl S6))) (xq (pk [3,3,3,3,3,1,2,2,1,0]));simp_all
   ·refine XS.bQ (i:=10) (z:=.agg NV.zero.cR) (m:=4) (C:=nZ NV.zero) rfl rfl kq rfl (oH _) rfl (fun _ _ dX=>⟨fun _=>fb (.ao .aa) _ dX,fun _=>fb (.t5 .aa) _ dX,trivial⟩) ?_;intro bv;apply XQ.call (i:=6) rfl kq rfl rfl (No _ _ _ hI _) (pk [7]) WB rfl (by rintro _ _ ⟨rfl,rfl⟩;all_goals(intro _ dX;refine⟨?_,?_,trivial⟩<;>exact fun hs=>(hs 6 (by first | (simp;done) | (simp;rfl)) rfl).elim));rintro _ _ ⟨rfl,rfl⟩;apply XQ.pv (i:=7) rfl kq rfl (V.move rfl) rfl rfl;apply XQ.pv (i:=8) rfl kq rfl (V.extract rfl rfl) rfl rfl;apply XQ.pv (i:=9) rfl kq rfl (V.extract rfl rfl) rfl rfl;refine XQ.gg (i:=11) rfl kq rfl rfl rfl (.ao .aa) (mh _ _) ⟨rfl,rfl⟩ nI (fun _ dX=>⟨fun hs=>(hs 6 (by first | (simp;done) | (simp;rfl)) rfl).elim,fun hs=>(hs 6 (by first | (simp;done) | (simp;rfl)) rfl).elim,trivial⟩) ?_;apply XQ.pv (i:=12) rfl kq rfl (V.assign rfl) rfl rfl;apply XQ.done kq;apply gE;refine nJ (bv) ?_ (.cons rfl (.cons rfl (.cons rfl S6))) (xq (pk [3,3,3,3,3,0,2,2,1,0]));simp_all
  intro y _;apply gC;refine cd ?_ ?_<;>intro h3
  ·refine aO rfl rfl (ah (pk [3,3,3,3,3]) rfl ?_);grind [aU,aS,xh,An,pt,re]
  ·have j0:s.cF (LA [a,z] i).node 0=0:=Decidable.byContradiction aq;obtain⟨j1,j2,j3⟩:=FF.yG j0;obtain⟨Rh,_,_⟩:=FF.U8 j0;refine rq [0,1,2,3,4,5,6,7,8,9,10,11] mixed ?_;apply ld (.t3 .aa) (aL.B3 _ _);apply ld (.t8 .aa) (aY.Ev _);refine cq (adx _ _ _ _) (pk [5]) ?_;apply ld (.t9 .aa) (xd _);refine sp 49 rfl ?_ ?_<;>intro h4
   ·refine aO rfl rfl (ah (pk [4,4,0,3,3]) rfl ?_);try dsimp only[aU,aS,bG,bN]
    have hd0:xh s.toFF (LA [a,z] i)=11:=by unfold xh;rw[if_neg og,if_pos (by first | (left;rw[<-Rh];assumption) | (right;intro q;rw[if_pos j0]at*;exact absurd q aq))]
    grind [An,pt,re,ay]
   ·apply ld (.t8 .aa) (aY.B3 _);refine cd ?_ ?_<;>intro h5
    ·refine aO rfl rfl (ah (pk [4,4,0,3,3]) rfl ?_);try dsimp only[aU,aS,bG,bN]
     have hd0:xh s.toFF (LA [a,z] i)=11:=by unfold xh;rw[if_neg og,if_pos (by first | (left;rw[<-Rh];assumption) | (right;intro q;rw[if_pos j0]at*;exact absurd q aq))]
     grind [An,pt,re,ay]
    ·refine sd ?_;refine ag (i+1) ?_ ?_ S6 (xq (pk [1,1,1,1,1,0,0,0]));all_goals grind [xh,LA]
 ·apply lP .aa (aY.agg _);apply lP (.ao .aa) (aY.agg _);refine XO.v (OQ rfl rfl ZE) rfl (gO ?_);refine cd ?_ ?_<;>intro h6
  ·have haz:a=z:=h6;refine aO rfl rfl (ah (pk [3,3,3,3,3]) rfl ?_);try dsimp only[aU,aS,bG,bN]
   grind [uA,pt,re,ay]
  ·have haz:¬a=z:=h6;apply ld (.t3 .aa) (kY _ _);refine lp (σ:=Int) (fun i=>(l.length-i).toNat) (fun i=>(0<=i/\i<=l.length)/\∀ j:Int,0<=j->j<i->(qk l j).at_≠a) (fun i=>[(66,iI i),(0,az bt 0 0),(4,az ba 0 0),(5,az bz 0 0),(64,.slice p l.length c),(65,iI l.length)]) (fun i=>XM W (cm [.cells bt 0 4 (aL bf r (.slice p l.length c)),aM p cap 168 4 k C,.cells bf 0 321 (aC s),.aW au (FC.bd 9 s),.aW au (FC.bh 3 s)]) [.cells ba 0 2 (aY a),.cells bz 0 2 (aY z),.cells bt 0 4 (aL bf r (.slice p l.length c)),aM p cap 168 4 k C,.cells bf 0 321 (aC s),.aW au (FC.bd 9 s),.aW au (FC.bh 3 s)]) (0) ?_ S6 (xq (pk [0,0,1,1,1,1,1])) ?_
   ·grind
   intro i hi;obtain⟨⟨hi0,Sz⟩,sW⟩:=hi;apply gC;refine cd ?_ ?_<;>intro h7
   ·apply bR (.t3 .aa) og;intro g hg;subst hg;refine sd ?_;apply qC (.t3 .aa) (hC.ld jd _ og);apply XO.bQ (z:=.agg (MT.cR MT.nil)) (m:=4) (C:=fE MT.nil) (fE.box _);intro bm;apply gO;apply gn .aa (fE.st _ _) rfl ⟨rfl,rfl⟩;apply lP .aa (fE.lP _);apply lP (.ao .aa) (aY.agg _);refine XO.v (OQ rfl rfl ZE) rfl (gO ?_);refine cd ?_ ?_<;>intro h8
    ·refine aO rfl rfl (ah (pk [3,3,3,3,3]) rfl ?_);try dsimp only[aU,aS,bG,bN]
     grind [uA,MZ,pt,re,ay]
    ·refine sd ?_;refine ag (i+1) ?_ ?_ S6 (xq (pk (rr 7 1 [])));all_goals grind
   ·apply ld (.t2 .aa) (kY _ _);refine cd ?_ ?_<;>intro h9
    ·refine aO rfl rfl (ah (pk [2,2,2,2,2]) rfl ?_);try dsimp only[aU,aS,bG,bN]
     grind [uA,Bk,pt,re,ay]
    ·apply XC.il mixed (f:=13) (l:= #[qF,qF,qF,qF,qF,qF,qF,qF,qF,qF,qF,qF,qF]) rfl rfl XM.kL;apply XQ.pv (i:=0) rfl kq rfl (V.move rfl) rfl rfl;apply XQ.pv (i:=1) rfl kq rfl (V.move rfl) rfl rfl;apply XQ.pv (i:=2) rfl kq rfl (bC rfl) rfl rfl;apply XQ.pv (i:=3) rfl kq rfl (V.fieldAddr rfl Ep) rfl rfl;apply XQ.load (i:=4) (.cells _ _ _ _) [9,12] rfl kq rfl (.t2 .aa) (V.load rfl eh (kY _ _) Wz) rfl kq rfl;apply XQ.load (i:=5) (.cells _ _ _ _) [8,9,12] rfl kq rfl .aa (eG rfl eh (aY.agg _) fZ di) rfl kq rfl;apply XQ.load (i:=6) (.cells _ _ _ _) [8,9,12] rfl kq rfl (.ao .aa) (eG rfl eh (aY.agg _) fZ di) rfl kq rfl;apply XQ.pv (i:=7) rfl kq rfl (V.build (vs:= #[(0,.agg (WH.cR a)),(1,.agg (WH.cR z))]) rfl (v:=.agg (MT.cR ⟨a,z⟩)) fun _=>kq) rfl rfl;refine XQ.g (i:=8) rfl kq rfl (RG.build (e:=168) (vs:= #[(0,.agg (MT.cR ⟨a,z⟩))]) (m:=4) (A:=MT.cR ⟨a,z⟩) rfl (fun _=>kq) rfl) rfl (fun _ _ dX=>⟨fun hs=>(hs 8 (by first | (simp;done) | (simp;rfl)) rfl).elim,fun hs=>(hs 8 (by first | (simp;done) | (simp;rfl)) rfl).elim,fun _=>fb (.t3 .aa) _ dX,trivial⟩) ?_;intro bn _;refine XQ.g (i:=9) rfl kq rfl (RG.append (e:=168) (v:=⟨p,cap,k,l.length,c,C⟩) (N:=4) (m:=1) (sz:=4) hv rfl rfl Tryz.underlying164 Er (.t4 .aa) .aa rfl rfl og (by show l.length+1<=_;omega)) rfl (fun _ _ dX=>⟨fun hs=>(hs 8 (by first | (simp;done) | (simp;rfl)) rfl).elim,fun hs=>(hs 8 (by first | (simp;done) | (simp;rfl)) rfl).elim,fun hs=>(hs 9 (by first | (simp;done) | (simp;rfl)) rfl).elim,trivial⟩) ?_;intro u hu;obtain⟨Xg,Lx,hu3,hu4⟩:=hu;obtain⟨p2,pF,k2,WA,c2,C2⟩:=u;have Lx:WA=l.length+1:=Lx;subst Lx;apply XQ.pv (i:=10) rfl kq rfl (bC rfl) rfl rfl;apply XQ.pv (i:=11) rfl kq rfl (V.fieldAddr rfl Ep) rfl rfl;refine XQ.store (i:=12) rfl kq rfl rfl rfl (.t4 .aa) (DC _ _ _) rfl WD (fun _ dX=>⟨fun hs=>(hs 8 (by first | (simp;done) | (simp;rfl)) rfl).elim,fun hs=>(hs 8 (by first | (simp;done) | (simp;rfl)) rfl).elim,fun hs=>(hs 9 (by first | (simp;done) | (simp;rfl)) rfl).elim,trivial⟩) ?_;apply XQ.done kq;apply gE;refine rq [0,1,2,3,4,5,6] mixed ?_;apply ld (.t4 .aa) (aL.B3 _ _);apply ld (.t2 .aa) (aY.Ev _);refine ca (uT _ _ _ hI _) (pk [5,5,5]) ?_;rintro _ _ ⟨rfl,v1,Xn,pv1,cv1,rfl⟩;apply gO;refine rq [0,1,2,3,4,5,6] mixed ?_;have PD:v1.toFF.Ok d (B+1):=by rw[Xn];exact hO.dZ a.node
     apply ld (.t7 .aa) (aL.B3 _ _);apply ld (.t6 .aa) (aY.Ev _);refine ca (uT _ _ v1 (PD.sh og) _) (pz 3) ?_;rintro _ _ ⟨rfl,v2,Xd,pv2,cv2,rfl⟩;apply gO;refine aO rfl rfl (ah (pk [7,3,0,0,0]) rfl ?_);have e:uA s.toFF l a z=0:=by unfold uA;rw[if_neg og,if_neg og,if_neg haz,if_neg (by rw[Bk fun j a b=>sW j a og];simp),if_neg og]
     have eL:(pt s.toFF l a z)=l++[⟨a,z⟩]:=by unfold pt;rw[if_pos e]
     have eF:re s.toFF l a z=(s.toFF.dZ a.node).dZ z.node:=by unfold re;rw[if_pos e]
     exact⟨by rw[e]<;>rfl,p2,pF,k2,c2,C2,v2,by rw[eL,List.length_append];exact Xg,by rw[eL];exact hC.app ⟨a,z⟩ hu3 fun i hi=>(hu4 i hi).trans (acG _ i og),by rw[eF,Xd,Xn],by rw[pv2,pv1],by rw[cv2,cv1],by rw[eL,List.length_append];rfl⟩
set_option maxHeartbeats 8000000 in def WE(bt bf:Nat)(r:WH)(l:List MT)(p:Option Addr)(cap k c:Nat)(C:Nat->Value)(hv:RV.ok ⟨p,cap,k,l.length,c,C⟩)(hC:MC C l)(NF:l.length<=6)(s:FC)(d:Int->Nat)(B:Int)(hO:s.toFF.Ok d B)(hB:B<=900000)(z:WH):Spec Tryz.prog 215 [az bt 0 0,.agg (WH.cR z)] [.cells bt 0 4 (aL bf r (.slice p l.length c)),aM p cap 168 4 k C,.cells bf 0 321 (aC s),.aW au (FC.bd 9 s),.aW au (FC.bh 3 s)] (fun v H1=>v=ay 102 (yT l z)/\∃ (p':Option Addr) (cQ k' c':Nat) (C':Nat->Value) (u:FC),RV.ok ⟨p',cQ,k',(nk l z).length,c',C'⟩/\MC C' (nk l z)/\u.toFF=pW s.toFF l z/\u.rP=s.rP/\u.rC=s.rC/\H1=[.cells bt 0 4 (aL bf r (.slice p' (nk l z).length c')),aM p' cQ 168 4 k' C',.cells bf 0 321 (aC u),.aW au (FC.bd 9 u),.aW au (FC.bh 3 u)]):=by
 have jd:=oT hv;have jd:l.length<=k:=jd;have hI:=hO.sh og;refine Spec.go 57 [0,3,4,5,6,10,11,12,13,20] [] Tryz.func215 fun W=> ?_;refine XO.box (m:=2) (C:=aY (z)) rfl rfl (aY.box _) rfl ?_;intro bz;apply gO;apply ld (.ao .aa) (kY _ _);refine lp (σ:=Int) (fun i=>(l.length-i).toNat) (fun i=>(0<=i/\i<=l.length)/\∀ j:Int,0<=j->j<i->(qk l j).at_≠z) (fun i=>[(12,iI i),(0,az bt 0 0),(3,az bz 0 0),(10,.slice p l.length c),(11,iI l.length)]) (fun i=>XM W (cm [.cells bt 0 4 (aL bf r (.slice p l.length c)),aM p cap 168 4 k C,.cells bf 0 321 (aC s),.aW au (FC.bd 9 s),.aW au (FC.bh 3 s)]) [.cells bz 0 2 (aY z),.cells bt 0 4 (aL bf r (.slice p l.length c)),aM p cap 168 4 k C,.cells bf 0 321 (aC s),.aW au (FC.bd 9 s),.aW au (FC.bh 3 s)]) (0) ?_ S5 (xq (pz 6)) ?_
 ·grind
 intro i hi;obtain⟨⟨hi0,Sz⟩,sW⟩:=hi;apply gC;refine cd ?_ ?_<;>intro h1
 ·apply bR (.t2 .aa) og;intro g hg;subst hg;refine sd ?_;apply qC (.t2 .aa) (hC.ld jd _ og);apply XO.bQ (z:=.agg (MT.cR MT.nil)) (m:=4) (C:=fE MT.nil) (fE.box _);intro bm;apply gO;apply gn .aa (fE.st _ _) rfl ⟨rfl,rfl⟩;apply lP .aa (fE.lP _);apply lP (.ao .aa) (aY.agg _);refine XO.v (OQ rfl rfl ZE) rfl (gO ?_);refine cd ?_ ?_<;>intro h2
  ·refine rq [0,1,2,3,4,5,6,7,8,9,10,11,12,13,14,15,16,17,18] mixed ?_;apply qB (.t3 .aa);intro hkc;have hlc:l.length<=c:=by
    grind [RV.ok]
   apply ld (.t2 .aa) (kY _ _);refine XO.v (TJ (m:=i.toNat) rfl rfl rfl Tryz.underlying164 Lb og og) rfl (gO ?_);apply ld (.t2 .aa) (kY _ _);refine sd ?_;refine XO.v (I9 (m:=i.toNat+1) rfl rfl Tryz.underlying164 Lb og og hlc) rfl (gO ?_);apply XO.g (RG.cut (e:=168) (i:=i.toNat) (q:=c-(i.toNat+1)) hv og rfl rfl Tryz.underlying164 Er (.t3 .aa) og) rfl;intro u hu;obtain⟨Xg,Lx,hu3,hu4⟩:=hu;obtain⟨p2,pF,k2,WA,c2,C2⟩:=u;have Lx:WA=l.length-1:=Lx;subst Lx;apply gO;apply st (.t3 .aa) (DC _ _ _) rfl;refine rq [0,1,2,3,4,5,6,7] mixed ?_;apply ld (.t3 .aa) (aL.B3 _ _);apply ld (.ao .aa) (xe _);refine ca (GJ _ _ _ hI _) (pk [4,4,4]) ?_;rintro _ _ ⟨rfl,v1,Xn,pv1,cv1,rfl⟩;apply gO;refine rq [0,1,2,3,4,5,6,7] mixed ?_;have PD:v1.toFF.Ok d (B+1):=by rw[Xn];exact hO.kO (qk l i).at_.node
   apply ld (.t6 .aa) (aL.B3 _ _);apply ld (.t4 .aa) (xf _);refine ca (GJ _ _ v1 (PD.sh og) _) (pz 3) ?_;rintro _ _ ⟨rfl,v2,Xd,pv2,cv2,rfl⟩;apply gO;refine aO rfl rfl (ah (pk [6,3,0,0,0]) rfl ?_);try dsimp only[aU,aS,bG,bN]
   have ei:=M0 (l:=l) ⟨hi0,og⟩ sW aq;have e:yT l z=0:=by unfold yT;rw[if_pos og]
   have eL:(nk l z)=l.eraseIdx i.toNat:=by unfold nk;rw[ei]
   have eF:pW s.toFF l z=(s.toFF.kO (qk l i).at_.node).kO (qk l i).to.node:=by unfold pW;rw[if_pos og,ei,show((i.toNat:Nat):Int)=i from og]
   have hle:(l.eraseIdx i.toNat).length=l.length-1:=List.length_eraseIdx_of_lt og;grind [MC.OE,ay]
  ·refine sd ?_;refine ag (i+1) ?_ ?_ S5 (xq (pk (rr 6 1 [])));all_goals grind
 ·refine aO rfl rfl (ah (pk [1,1,1,1,1]) rfl ?_);try dsimp only[aU,aS,bG,bN]
  have ei:=M1 (l:=l) (w:=z) fun j a b=>sW j a og;have e:yT l z=2:=by unfold yT;rw[if_neg og]
  grind [nk,List.eraseIdx_of_length_le,pW,ay]
end Go.X.Tr

namespace Go.X.Kn
open Go Go.Proofs Go.X Go.X.Fa Go.X.Gr Go.X.Tr Go.X.Vm
set_option maxRecDepth 20000
set_option maxHeartbeats 4000000
abbrev cW(a:KA)(b:KZ)(c:KC)(r:List aF):List aF:=
 (.cells b.kb 0 453 (aG (kp a b c)))::(.cells b.gb 0 60 (bH a.g))::(.cells b.sb 0 158 (Sp.aL a.s))::(.cells b.qb 0 2281 (aH c.q))::(.aW ck (SC.dg 254 c.q))::(.cells b.bb 0 577 (dM b.vp a.v.fR a.v.rf))::(.cells b.vp 0 71 (Vm.bO a.v.bb.fp))::(.dR (jg a) c.mb 34 (cN b.bb a.f c.pp c.cc))::(.aW (jg a) (rN 171 a.f c.pp c.cc))::(.cells b.tb 0 321 (aC c.F))::(.aW au (FC.bd 9 c.F))::(.aW au (FC.bh 3 c.F))::(dh c.rp c.rc 3 c.rl)::(.cells b.pi 0 24 (Tr.bO a.P))::(.cells b.ob 0 122 (bu b.tb b.pi a.O))::(.dR (lu a) (fun z=>(c.t z).b) 4 (cT b.tb c.t))::(.aW (lu a) (rT 168 c.t))::r
def adQ(kb:Nat)(k:KP)(n:Int)(hn:0<=n/\n<20)(x:Int)(hx:0<=x):Spec Tryz.prog 67 [az kb 0 (0+0+n.toNat*22),iI x] [.cells kb 0 453 (aG k)] (fun v H1=>v=iI (jO (k.u n).fd x)/\H1=[.cells kb 0 453 (aG k)]):=by
 refine Spec.go 19 [0,1,4,5,8,17] [] Tryz.func67 fun W=> ?_;refine lp (σ:=Int) (fun i=>(6-i).toNat) (fun i=>0<=i/\x<=i/\∀ j:Int,0<=j->x<=j->j<i->(k.u n).fd j≠0) (fun i=>[(5,iI i),(0,az kb 0 (0+0+n.toNat*22))]) (fun i=>XM W (cm [.cells kb 0 453 (aG k)]) [.cells kb 0 453 (aG k)]) (x) ?_ S2 (xq .h1) ?_
 ·grind
 intro i hi;obtain⟨hi0,hxi,sW⟩:=hi;refine gC ?_;refine cd ?_ ?_<;>intro h1
 ·refine sd (ld .aa (uf _) ?_);refine cd ?_ ?_<;>intro h2
  ·refine bI .h1 ?_;grind [aU,aS,Rp]
  ·refine sd (ag (i+1) ?_ ?_ S2 (xq .h1));all_goals grind
 ·refine bI .h1 ?_;grind [aU,aS,bN,M2]
def adR(kb:Nat)(k:KP)(n i:Int)(hf:∀ n i,0<=(k.u n).fd i/\(k.u n).fd i<=24):Spec Tryz.prog 69 [az kb 0 0,iI n,iI i] [.cells kb 0 453 (aG k)] (fun v H1=>v= .tuple #[iI (k.dx n i),ay 102 (k.eZ n i)]/\H1=[.cells kb 0 453 (aG k)]):=by
 have hf1:=hf n i;refine Spec.go 41 [0,1,2,6,7,8,9,17,24,32] [] Tryz.func69 fun W=> ?_;refine ca (eW kb _ _) .h1 ?_;rintro _ _ ⟨⟨hl,rfl⟩ | ⟨hl,rfl⟩,rfl⟩
 ·obtain⟨jV,ic⟩:=bJ hl;refine gO ?_;refine sp 21 rfl ?_ ?_<;>intro h1
  ·refine eH .h1 ?_;grind [aU,aS,bN,KP.eZ,KP.dx,ay]
  ·refine cd ?_ ?_<;>intro h2
   ·refine eH .h1 ?_;grind [aU,aS,bN,KP.eZ,KP.dx,ay]
   ·refine sd ?_;refine ld .aa (uf _) ?_;refine cd ?_ ?_<;>intro h3
    ·refine eH .h1 ?_;grind [aU,aS,bN,KP.eZ,KP.dx,ay]
    ·refine sd ?_;refine ld .aa (uf _) ?_;refine sd ?_;refine eH .h1 ?_;grind [aU,aS,bN,KP.eZ,KP.sy,ay]
 ·refine gO ?_;refine eH .h1 ?_;grind [aU,aS,bN,KP.eZ,KP.dx,ay]
set_option maxHeartbeats 16000000 in
def NH(a:KA)(b:KZ)(c:KC)(N:Nat)(T:Int)(hw:a.Wk T)(hc:cK a c N T)(hT:T<=900000)(n co:Int)(hl:(a.u n).st=1):Spec Tryz.prog 129 [az b.kb 0 0,iI n,iI co] (cW a b c []) (fun v H1=>∃ c1:KC,cK (a.cV n co) c1 N T/\H1=(cW (a.cV n co) b c1 [])):=by
 have hn:0<=n/\n<20:=by
  by_cases e:n<0\/20<=n
  ·rw[hw.out n e]at hl;exact absurd hl dq
  omega
 have lO:=pw a b c (n:=n);have hz:=hw.sys.mo n.toNat og;refine Spec.go 70 [0,1,2,6,7,9,10,37,38,39,43] [] Tryz.func129 fun W=> ?_;refine sd (XR.mono (fun _ bL=>kA (z:=n.toNat) (fD hn) (pk [7,7]) bL) ?_);refine ld (.t4 .aa) (dt _ og lO) ?_;refine ca (K6 b.bb b.vp (c.mb n.toNat) a.v hw.sys.ja.ok _ _ (a.f n.toNat) hz (hw.sys.In og) 0 16) (pk [9,9,0,0]) ?_;rintro _ _ ⟨rfl,pu,cu,rfl⟩;refine gO ?_;refine rq [0,1,2,3,4,5,6,7,8,9] mixed (ld (.t6 .aa) (eS _) (ld (.t6 .aa) (dB _) ?_));refine cq (nc _ _ a.g hw.gI.ok _ _ _ (1000*T) (by have:=hw.T0;omega) hw.gS) (pk [7]) ?_;refine lP (.t7 .aa) (sr _) ?_;refine lp (σ:=Int×FC) (fun x=>(6-x.1).toNat) (fun x=>(0<=x.1/\x.1<=6)/\x.2.toFF.Ok c.dF T/\x.2.rP=c.rp/\x.2.rC=c.rc/\x.2.roots=c.rl) (fun x=>[(38,iI x.1),(0,az b.kb 0 0),(1,iI n),(2,iI co),(6,az b.kb 0 (0+0+n.toNat*22)),(37,.agg (SB (a.u n).fd))]) (fun x=>XM W (cm (cW a b c [])) [.cells b.kb 0 453 (aG ((kp a b c).put n {(kp a b c).u n with fd:=E3 (a.u n).fd x.1})),.cells b.gb 0 60 (bH (a.g.dz (a.u n).cL 0 (a.um n).1)),.cells b.sb 0 158 (Sp.aL a.s),.cells b.qb 0 2281 (aH c.q),.aW ck (SC.dg 254 c.q),.cells b.bb 0 577 (dM b.vp (a.um n).2.2.1.fR (a.um n).2.2.1.rf),.cells b.vp 0 71 (Vm.bO (a.um n).2.2.1.bb.fp),.cells (c.mb n.toNat) 0 34 (b6 b.bb pu (ai (a.um n).2.2.2.ax).length cu (a.um n).2.2.2.fr (a.um n).2.2.2.aX),aM pu cu 171 3 (ai (a.um n).2.2.2.ax).length (fh (ai (a.um n).2.2.2.ax)),.dR (ji (jg a) n.toNat) c.mb 34 (cN b.bb a.f c.pp c.cc),.aW (ji (jg a) n.toNat) (rN 171 a.f c.pp c.cc),.cells b.tb 0 321 (aC x.2),.aW au (FC.bd 9 x.2),.aW au (FC.bh 3 x.2),dh c.rp c.rc 3 c.rl,.cells b.pi 0 24 (Tr.bO (DE (a.u n).fd a.O a.P x.1.toNat).2),.cells b.ob 0 122 (bu b.tb b.pi (DE (a.u n).fd a.O a.P x.1.toNat).1),.dR (lu a) (fun z=>(c.t z).b) 4 (cT b.tb c.t),.aW (lu a) (rT 168 c.t)]) ((0,c.F)) ?_ S6 (fun _ lG=>by rw[acN];exact XM.pick (pk (7::0::6::6::6::rr 14 0 [])) lG) ?_
 ·grind [cK.F,cK.rp,cK.rc,cK.rl]
 intro x hx;obtain⟨hi,hF,hFp,hFc,hFr⟩:=hx;have Zc:=hw.fd n x.1;refine gC ?_;refine cd ?_ ?_<;>intro h1
 ·refine XO.v (lF rfl rfl Tryz.underlying83 nW la) rfl (gO ?_);refine cd ?_ ?_<;>intro h2
  ·have h6:=h2;refine ld .aa (gM _) (sd ?_);refine ca (Py _ _ _ _ _ T og (yX hw.OI hw.PI x.1.toNat).1 x.2 (hF.sh og) T og _ (yX hw.OI hw.PI x.1.toNat).2 ((a.u n).fd x.1-1)) (pk [16,11,11,11,12]) ?_;rintro _ _ ⟨rfl,F1,NI,SH,GF,rfl⟩;refine gO ?_;refine sd (st (.t5 .aa) (lJ _ og og _) rfl (sd (ag ((x.1+1,F1)) ?_ ?_ S6 fun _ lG=>by show XM _ _ [_,_,_,_,_,_,_,_,_,_,_,_,_,_,_,.cells b.pi 0 24 (Tr.bO (DE (a.u n).fd a.O a.P (x.1+1).toNat).2),.cells b.ob 0 122 (bu b.tb b.pi (DE (a.u n).fd a.O a.P (x.1+1).toNat).1),_,_] _;rw[Y5 _ _ hi.1 h6,<-acO a b c hi.1 h6];exact XM.pick (pk (rr 11 5 [1,1,1,2,1,0,0,0])) lG)))
   ·omega
   ·exact⟨(by show 0<=x.1+1/\x.1+1<=6;omega),(by show F1.toFF.Ok c.dF T;rw[NI];exact FF.Ok.uC hF _ _),SH.trans hFp,GF.trans hFc,(by show F1.toFF.roots=_;rw[NI,yP];exact hFr)⟩
  ·have h6:=h2;refine sd (ag ((x.1+1,x.2)) ?_ ?_ S6 fun _ lG=>by show XM _ _ [.cells b.kb 0 453 (aG ((kp a b c).put n {(kp a b c).u n with fd:=E3 (a.u n).fd (x.1+1)})),_,_,_,_,_,_,_,_,_,_,_,_,_,_,.cells b.pi 0 24 (Tr.bO (DE (a.u n).fd a.O a.P (x.1+1).toNat).2),.cells b.ob 0 122 (bu b.tb b.pi (DE (a.u n).fd a.O a.P (x.1+1).toNat).1),_,_] _;rw[Vv _ _ hi.1 h6,<-Vu _ h6];exact XM.pick (pz 19) lG);all_goals grind
 ·refine ld .aa (eT _) ?_;refine ca (Ns _ _ c.q c.d hc.qO.inv hc.qR n) (pk [3,3]) ?_;rintro _ _ ⟨rfl,t,ht,hr,rfl⟩;refine gO ?_;refine st (.t2 .aa) (JV _ og _) rfl (st (.t2 .aa) (EX _ og _) rfl (XR.mono (fun _ bL=>l8 (a.um n).2.2.2 (fD hn) (pk [7,7,7,7]) bL) ?_));refine cU rfl (ah (pk (4::4::4::2::2::2::2::rr 10 0 [])) rfl ?_);have hx6:x.1=6:=og;refine⟨{c with q:=t,F:=x.2,pp:=aJ c.pp n.toNat pu,cc:=aJ c.cc n.toNat cu},⟨(by show t.toSF.Ok _ _ _;rw[ht];exact hc.qO.wb og _),hr,hF,hFp,hFc,hFr,hc.tb,hc.afS ht⟩,?_⟩;rw[hx6];try unfold cW
  rw[acP a b c hl hn,Y6 a hl];all_goals rfl
open Go.X.Sp
def Ig(a:KA)(b:KZ)(c:KC)(N:Nat)(T:Int)(hw:a.Wk T)(hc:cK a c N T)(hT:T<=900000)(n:Int)(hn:0<=n/\n<20)(hs:(a.u n).st≠0):Spec Tryz.prog 64 [az b.kb 0 0,iI n] (cW a b c []) (fun v H1=>H1=(cW (a.eY n) b c [])):=by
 refine Spec.go 28 [0,1] [] Tryz.func64 fun W=> ?_;refine rq [0,1,2,3,4,5,6,7,8,9,10,11] mixed (ld .aa (eS _) (sd (ld .aa (dB _) ?_)));refine cq (nc _ _ a.g hw.gI.ok _ _ _ (1000*T) (by have:=hw.T0;omega) hw.gS) (pk [1]) ?_;apply ld (.ao .aa) (aG.ug _);refine cq (Zj _ _ a.s a.aQ hw.sI.D n (fun a1 b1 c1=>⟨(hw.sI.loc n).2,hw.sI.at_ n a1 b1 c1⟩) fun a1 m q e=>by have h9:=hw.sI.mem m q n a1 e;exact⟨h9.2.2.2.2,og,h9.2.2.1⟩) (pk [2]) ?_;refine XO.v (V.build (vs:= #[]) rfl (v:=.agg PU.nil.cR) fun _=>kq) rfl (gO ?_);refine sd (gn (.t2 .aa) (aG.Dc _ og PU.nil) rfl ⟨rfl,rfl⟩ (XR.mono (fun _ bL=>kA (z:=n.toNat) (fD hn hs) (pk [7,7]) bL) ?_));refine cU rfl (ah (pk (6::5::4::4::4::4::4::rr 10 2 [])) rfl ?_);try unfold cW
 rw[Y7,Vy a hn,Vw];rfl
def ZJ(a:KA)(b:KZ)(c:KC)(N:Nat)(T:Int)(hw:a.Wk T)(hc:cK a c N T)(hT:T<=900000)(z:Int)(hd:(a.s.drop z).1=0)(hz:0<=z/\z<6)(hh:a.s.aa z=true)(hs:(a.s.drop z).2= {a.s with aa:=ad a.s.aa z false,aD:=ad a.s.aD z 0}):Spec Tryz.prog 65 [az b.kb 0 0,iI z] (cW a b c []) (fun v H1=>∃ c1:KC,cK (a.fL z) c1 N T/\H1=(cW (a.fL z) b c1 [])):=by
 have iC:=hc.tb z hz.1 hz.2 hh;refine Spec.go 23 [0,1,10] [] Tryz.func65 fun W=> ?_;apply ld .aa (aG.ug _);refine cq (VW _ _ a.s z) (pk [2]) ?_;refine XT rfl (hd) (XR.mono (fun _ bL=>gR (z:=z.toNat) (dV hz hh) (pk [15,15]) bL) ?_);refine sd (ld (.t5 .aa) (sB _ hz (VA a b c hh)) ?_);refine ca (PE _ _ _ _ _ _ _ _ _ iC.rv iC.mc iC.len c.F c.dF T hc.F hT) (pk [0,0,11,11,11]) ?_;rintro _ _ ⟨rfl,F1,NI,PD,SH,GF,rfl⟩;apply gO;refine sd (st (.t8 .aa) (uh _ hz _) rfl (cU rfl (ah (pk [8,8,7,7,7,7,7,7,7,2,2,2,4,4,4,2,2]) rfl ?_)));try dsimp only[aU,aS,bG,bN]
 refine⟨{c with F:=F1},⟨hc.qO,hc.qR,(by show F1.toFF.Ok _ _;rw[NI];exact FF.Ok.Y3 hc.F _ _),SH.trans hc.rp,GF.trans hc.rc,(by show F1.toFF.roots=_;rw[NI,sU];exact hc.rl),fun y h0 h1 h2=>hc.tb y h0 h1 (HO h2),hc.tk⟩,?_⟩;try unfold cW
 rw[Y8 a b c hs,Vz hz hs];rfl
def ZK(a:KA)(b:KZ)(c:KC)(N:Nat)(T:Int)(hw:a.Wk T)(hc:cK a c N T)(hT:T<=900000)(z:Int)(hd:(a.s.drop z).1≠0)(hs:(a.s.drop z).2=a.s):Spec Tryz.prog 65 [az b.kb 0 0,iI z] (cW a b c []) (fun v H1=>∃ c1:KC,cK (a.fL z) c1 N T/\H1=(cW (a.fL z) b c1 [])):=by
 refine Spec.go 23 [0,1,10] [] Tryz.func65 fun W=> ?_;apply ld .aa (aG.ug _);refine cq (VW _ _ a.s z) (pk [2]) ?_;refine LU rfl (hd) (cU rfl (ah (pk (1::1::rr 15 0 [])) rfl ?_));have e:a.fL z=a:=by unfold KA.fL;rw[hs]
 rw[e,hs];exact⟨c,hc,rfl⟩
def PG(a:KA)(b:KZ)(c:KC)(N:Nat)(T:Int)(hw:a.Wk T)(hc:cK a c N T)(hT:T<=900000)(z:Int):Spec Tryz.prog 65 [az b.kb 0 0,iI z] (cW a b c []) (fun v H1=>∃ c1:KC,cK (a.fL z) c1 N T/\H1=(cW (a.fL z) b c1 [])):=by
 rcases SS.xj a.s z with⟨hd,hs⟩ | ⟨hd,hz,hz0,hh,hs,_,_⟩
 ·exact ZK a b c N T hw hc hT z hd hs
 ·exact ZJ a b c N T hw hc hT z hd hz hh hs
set_option maxHeartbeats 16000000 in
def WG(a:KA)(b:KZ)(c:KC)(N:Nat)(T:Int)(hw:a.Wk T)(hc:cK a c N T)(hT:T<=900000)(z h:Int):Spec Tryz.prog 130 [az b.kb 0 0,iI z,iI h] (cW a b c []) (fun v H1=>∃ c1:KC,cK (a.ec z h) c1 N T/\H1=(cW (a.ec z h) b c1 [])):=by
 refine Spec.go 62 [0,2,6,9,11,21,22,23,24,29,37,45,46,51,52,53,54] [] Tryz.func130 fun W=> ?_;refine ld .aa (aG.ug _) ?_;refine ca (RL _ _ a.s z) (pk [2]) ?_;rintro _ _ ⟨p0,agw,rfl,rfl⟩;have hlen:(a.s.mem z).1.length<=21:=Sp.SS.Yl _ _;refine gO ?_;refine lp (σ:=Int×KA×KC) (fun x=>((a.s.mem z).1.length-x.1).toNat) (fun x=>(0<=x.1/\x.1<=(a.s.mem z).1.length)/\x.2.1=(((a.s.mem z).1.take x.1.toNat).foldl (KA.gQ h) a)/\x.2.1.Wk T/\cK x.2.1 x.2.2 N T) (fun x=>[(23,iI x.1),(0,az b.kb 0 0),(2,iI h),(21,.slice p0 (a.s.mem z).1.length agw),(22,iI (a.s.mem z).1.length)]) (fun x=>XM W (cm (cW a b c [])) [dh p0 agw 3 (a.s.mem z).1,.cells b.kb 0 453 (aG (kp x.2.1 b x.2.2)),.cells b.gb 0 60 (bH x.2.1.g),.cells b.sb 0 158 (Sp.aL x.2.1.s),.cells b.qb 0 2281 (aH x.2.2.q),.aW ck (SC.dg 254 x.2.2.q),.cells b.bb 0 577 (dM b.vp x.2.1.v.fR x.2.1.v.rf),.cells b.vp 0 71 (Vm.bO x.2.1.v.bb.fp),.dR (jg x.2.1) x.2.2.mb 34 (cN b.bb x.2.1.f x.2.2.pp x.2.2.cc),.aW (jg x.2.1) (rN 171 x.2.1.f x.2.2.pp x.2.2.cc),.cells b.tb 0 321 (aC x.2.2.F),.aW au (FC.bd 9 x.2.2.F),.aW au (FC.bh 3 x.2.2.F),dh x.2.2.rp x.2.2.rc 3 x.2.2.rl,.cells b.pi 0 24 (Tr.bO x.2.1.P),.cells b.ob 0 122 (bu b.tb b.pi x.2.1.O),.dR (lu x.2.1) (fun z=>(x.2.2.t z).b) 4 (cT b.tb x.2.2.t),.aW (lu x.2.1) (rT 168 x.2.2.t)]) ((0,a,c)) ?_ S5 (xq (pk (0::1::1::rr 15 0 []))) ?_
 ·simp_all
 intro x hx;obtain⟨hi,hga,hgw,hcx⟩:=hx;refine gC ?_;refine cd ?_ ?_<;>intro h1
 ·refine bR .aa og ?_;intro g1 h2;subst h2;refine sd (zp .aa (ints_at) ?_);have hm9:=hw.DG z (Vm.r6 (l:=(a.s.mem z).1) (i:=x.1) og);have hm:=hm9.1;have hms:(x.2.1.u (jc (a.s.mem z).1 x.1)).st≠0:=by rw[hga,Gg a h (VD (yW hw.sI z) og)];exact hm9.2
  refine cd ?_ ?_<;>intro h3
  ·have qw:KA.gQ h x.2.1 (jc (a.s.mem z).1 x.1)=x.2.1:=if_pos h3;refine sd (ag ((x.1+1,x.2.1,x.2.2)) ?_ ?_ S5 (xq (pz 18)));all_goals grind [vz]
  ·have hnh:=h3;refine sd (ld (.ao .aa) (gy _) ?_);refine cd ?_ ?_<;>intro h4
   ·have qw:KA.gQ h x.2.1 (jc (a.s.mem z).1 x.1)=(x.2.1.cV (jc (a.s.mem z).1 x.1) 0).eY (jc (a.s.mem z).1 x.1):=by unfold KA.gQ;rw[if_neg hnh,if_pos (show(x.2.1.u (jc (a.s.mem z).1 x.1)).st=1 from h4)]
    refine ca (NH x.2.1 b x.2.2 N T hgw hcx hT (jc (a.s.mem z).1 x.1) 0 aq) (pk (rr 17 1 [])) ?_;rintro _ _ ⟨c1,gj,rfl⟩;refine gO ?_;refine ca (Ig (x.2.1.cV (jc (a.s.mem z).1 x.1) 0) b c1 N T (hgw.cV hm aq 0) gj hT (jc (a.s.mem z).1 x.1) hm (by rw[ml];decide)) (pz 17) ?_;rintro _ _ rfl;refine gO ?_;refine sd (ag ((x.1+1,(x.2.1.cV (jc (a.s.mem z).1 x.1) 0).eY (jc (a.s.mem z).1 x.1),c1)) ?_ ?_ S5 (xq (pk (17::rr 17 0 []))))
    ·omega
    ·exact⟨(by show 0<=x.1+1/\x.1+1<=_;omega),(by rw[vz og,M3,<-hga,qw]),(hgw.cV hm aq 0).eY hm (by rw[ml];decide),gj.VE (by rw[ml];decide)⟩
   ·have hn1:(x.2.1.u (jc (a.s.mem z).1 x.1)).st≠1:=h4;have qw:KA.gQ h x.2.1 (jc (a.s.mem z).1 x.1)=x.2.1.eY (jc (a.s.mem z).1 x.1):=by unfold KA.gQ;rw[if_neg hnh,if_neg hn1]
    refine ca (Ig x.2.1 b x.2.2 N T hgw hcx hT (jc (a.s.mem z).1 x.1) hm aq) (pk (rr 17 1 [])) ?_;rintro _ _ rfl;refine gO ?_;refine sd (ag ((x.1+1,x.2.1.eY (jc (a.s.mem z).1 x.1),x.2.2)) ?_ ?_ S5 (xq (pk (17::rr 17 0 []))));all_goals grind [vz,KA.Wk.eY,cK.VE]
 ·refine lp (σ:=Int×KA×KC) (fun x=>(4-x.1).toNat) (fun x=>(0<=x.1/\x.1<=4)/\x.2.1=((a.fU z h).fY x.1.toNat)/\x.2.1.Wk T/\cK x.2.1 x.2.2 N T) (fun x=>[(45,iI x.1),(0,az b.kb 0 0)]) (fun x=>XM W (cm (cW a b c [])) (cW x.2.1 b x.2.2 [])) ((0,x.2.1,x.2.2)) ?_ S2 (xq (pk (rr 17 1 []))) ?_
  ·exact⟨sq,(by rw[hga,List.take_of_length_le og];rfl),hgw,hcx⟩
  intro x hx;obtain⟨hi,hga,hgw,hcx⟩:=hx;refine gC ?_;refine cd ?_ ?_<;>intro h5
  ·refine ld .aa (aG.ug _) ?_;refine ca (af3 _ _ x.2.1.s) (pk [2]) ?_;rintro _ _ ⟨p1,agx,rfl,rfl⟩;have ako:=Sp.j9 x.2.1.s.aa 6;refine gO ?_;refine lp (σ:=Int×KA×KC) (fun y=>((Sp.gB x.2.1.s.aa 6).length-y.1).toNat) (fun y=>(0<=y.1/\y.1<=(Sp.gB x.2.1.s.aa 6).length)/\y.2.1=(((Sp.gB x.2.1.s.aa 6).take y.1.toNat).foldl KA.fL x.2.1)/\y.2.1.Wk T/\cK y.2.1 y.2.2 N T) (fun y=>[(53,iI y.1),(0,az b.kb 0 0),(45,iI x.1),(51,.slice p1 (Sp.gB x.2.1.s.aa 6).length agx),(52,iI (Sp.gB x.2.1.s.aa 6).length)]) (fun y=>XM W (cm (cW a b c [])) [dh p1 agx 3 (Sp.gB x.2.1.s.aa 6),.cells b.kb 0 453 (aG (kp y.2.1 b y.2.2)),.cells b.gb 0 60 (bH y.2.1.g),.cells b.sb 0 158 (Sp.aL y.2.1.s),.cells b.qb 0 2281 (aH y.2.2.q),.aW ck (SC.dg 254 y.2.2.q),.cells b.bb 0 577 (dM b.vp y.2.1.v.fR y.2.1.v.rf),.cells b.vp 0 71 (Vm.bO y.2.1.v.bb.fp),.dR (jg y.2.1) y.2.2.mb 34 (cN b.bb y.2.1.f y.2.2.pp y.2.2.cc),.aW (jg y.2.1) (rN 171 y.2.1.f y.2.2.pp y.2.2.cc),.cells b.tb 0 321 (aC y.2.2.F),.aW au (FC.bd 9 y.2.2.F),.aW au (FC.bh 3 y.2.2.F),dh y.2.2.rp y.2.2.rc 3 y.2.2.rl,.cells b.pi 0 24 (Tr.bO y.2.1.P),.cells b.ob 0 122 (bu b.tb b.pi y.2.1.O),.dR (lu y.2.1) (fun z=>(y.2.2.t z).b) 4 (cT b.tb y.2.2.t),.aW (lu y.2.1) (rT 168 y.2.2.t)]) ((0,x.2.1,x.2.2)) ?_ S5 (xq (pk (0::1::1::rr 15 0 []))) ?_
   ·simp_all
   intro y hy;obtain⟨hj,aiS,hgy,hcy⟩:=hy;refine gC ?_;refine cd ?_ ?_<;>intro h6
   ·refine bR .aa og ?_;intro g2 h7;subst h7;refine sd (zp .aa (ints_at) ?_);refine ca (PG y.2.1 b y.2.2 N T hgy hcy hT _) (pk (rr 17 1 [])) ?_;rintro _ _ ⟨c1,gj,rfl⟩;refine gO ?_;refine sd (ag ((y.1+1,y.2.1.fL (jc (Sp.gB x.2.1.s.aa 6) y.1),c1)) ?_ ?_ S5 (xq (pk (17::rr 17 0 []))));all_goals grind [vz,KA.Wk.fL]
   ·refine sd (ag ((x.1+1,y.2.1,y.2.2)) ?_ ?_ S2 (xq (pk (rr 17 1 []))))
    ·omega
    ·exact⟨(by show 0<=x.1+1/\x.1+1<=4;omega),(by show y.2.1=_;rw[DH _ hi.1,<-hga,aiS,List.take_of_length_le og];rfl),hgy,hcy⟩
  ·refine cU rfl (ah (pz 17) rfl ?_);grind [KA.ec]
end Go.X.Kn

namespace Go.X.Kn
open Go Go.Proofs Go.X Go.X.Sg
set_option maxRecDepth 20000
set_option maxHeartbeats 4000000
def RY(kb:Nat)(k:KP)(s:Sp.SS)(n:Int)(hn:0<=n/\n<20)(hz:(k.u n).bx.dU 0=false)(o:Bool)(he:(k.u n).bx.first 0=0):Spec Tryz.prog 74 [az kb 0 0,iI n,.bool o] [.cells kb 0 453 (aG k),.cells k.sb 0 158 (Sp.aL s),.ro 0 0 32 dw] (fun v H1=>H1=[.cells kb 0 453 (aG k),.cells k.sb 0 158 (Sp.aL s)]):=by
 refine Spec.go 36 [0,1,2,6,7,30] [] Tryz.func74 fun W=> ?_;refine XR.mono (fun _ bL=>kg (n:=n) og .h1 bL) ?_;refine sd ?_;refine Iv 1 (D7 kb (0+jT n) _ hz) (pk [0,3]) rfl ?_;refine XR.mono (fun _ bL=>nA (n:=n) og (pk [0,1,1]) bL) ?_;refine spF 19 rfl og (cU rfl (ah (pk [0,1]) rfl ?_));rfl
def RZ(kb:Nat)(k:KP)(s:Sp.SS)(n:Int)(hn:0<=n/\n<20)(hz:(k.u n).bx.dU 0=false)(he:¬(k.u n).bx.first 0=0)(hh:(s.find (s.bU n).1 1).1=n):Spec Tryz.prog 74 [az kb 0 0,iI n,.bool false] [.cells kb 0 453 (aG k),.cells k.sb 0 158 (Sp.aL s),.ro 0 0 32 dw] (fun v H1=>H1=[.cells kb 0 453 (aG k),.cells k.sb 0 158 (Sp.aL s)]):=by
 refine Spec.go 36 [0,1,2,6,7,30] [] Tryz.func74 fun W=> ?_;refine XR.mono (fun _ bL=>kg (n:=n) og .h1 bL) ?_;refine sd ?_;refine Iv 1 (D7 kb (0+jT n) _ hz) (pk [0,3]) rfl ?_;refine XR.mono (fun _ bL=>nA (n:=n) og (pk [0,1,1]) bL) ?_;refine spT 19 rfl og ?_;refine cq (jQ kb k s n) (pk [0,1]) ?_;refine cq (AI kb k s _) (pz 2) ?_;refine LU rfl og (cU rfl (ah (pz 2) rfl ?_));rfl
def R1(kb:Nat)(k:KP)(s:Sp.SS)(n:Int)(hn:0<=n/\n<20)(hz:(k.u n).bx.dU 0=false)(o:Bool)(hq:(k.u n).bx.first 0=0\/(o=false/\(s.find (s.bU n).1 1).1=n)):Spec Tryz.prog 74 [az kb 0 0,iI n,.bool o] [.cells kb 0 453 (aG k),.cells k.sb 0 158 (Sp.aL s),.ro 0 0 32 dw] (fun v H1=>H1=[.cells kb 0 453 (aG k),.cells k.sb 0 158 (Sp.aL s)]):=by
 by_cases he:(k.u n).bx.first 0=0
 ·exact RY kb k s n hn hz o he
 ·obtain⟨ho,hh⟩:=hq.resolve_left he;subst ho;exact RZ kb k s n hn hz he hh
def PH(kb:Nat)(k:KP)(s:Sp.SS)(n sig:Int)(o:Bool)(hz:k.aA n=0->(k.u n).bx.dU 0=false)(hq:k.aA n=0->(((k.u n).bx.send sig).2.first 0=0\/(o=false/\(s.find (s.bU n).1 1).1=n))):Spec Tryz.prog 71 [az kb 0 0,iI n,iI sig,.bool o] [.cells kb 0 453 (aG k),.cells k.sb 0 158 (Sp.aL s),.ro 0 0 32 dw] (fun v H1=>H1=[.cells kb 0 453 (aG (if k.aA n=0 then k.box n ((k.u n).bx.send sig).2 else k)),.cells k.sb 0 158 (Sp.aL s)]):=by
 refine Spec.go 27 [0,1,2,3,8,9,17] [] Tryz.func71 fun W=> ?_;refine ca (eW kb _ _) .h1 ?_;rintro _ _ ⟨⟨hl,rfl⟩ | ⟨hl,rfl⟩,rfl⟩
 ·obtain⟨jV,ic⟩:=bJ hl;refine gO ?_;refine XR.mono (fun _ bL=>kg (n:=n) og .h1 bL) ?_;refine cq (V0 kb (0+jT n) _ sig) .h1 ?_;refine XR.mono (fun _ bL=>mS (n:=n) og (pz 3) bL) ?_;refine xG 2 (R1 kb (k.box n ((k.u n).bx.send sig).2) s n jV (by unfold KP.box;rw[KP.sR];exact py _ _ (hz hl)) o (by unfold KP.box;rw[KP.sR];exact hq hl)) (pz 3) rfl ?_;rintro _ _ rfl;refine gO ?_;refine cU rfl (ah (pz 2) rfl ?_);rw[if_pos hl];rfl
 ·refine gO ?_;refine rt0 (pz 2) ?_;simp_all
open Go.X.Fa Go.X.Gr Go.X.Tr Go.X.Vm
attribute [local irreducible] KA.ec
theorem PJ(a:KA)(b:KZ)(c:KC)(p:Int):((cW (a.jU p) b c []):List aF)=[.cells b.kb 0 453 (aG (if(kp a b c).aA p=0 then(kp a b c).box p (((kp a b c).u p).bx.send 3).2 else kp a b c)),.cells b.gb 0 60 (bH a.g),.cells b.sb 0 158 (Sp.aL a.s),.cells b.qb 0 2281 (aH c.q),.aW ck (SC.dg 254 c.q),.cells b.bb 0 577 (dM b.vp a.v.fR a.v.rf),.cells b.vp 0 71 (Vm.bO a.v.bb.fp),.dR (jg a) c.mb 34 (cN b.bb a.f c.pp c.cc),.aW (jg a) (rN 171 a.f c.pp c.cc),.cells b.tb 0 321 (aC c.F),.aW au (FC.bd 9 c.F),.aW au (FC.bh 3 c.F),dh c.rp c.rc 3 c.rl,.cells b.pi 0 24 (Tr.bO a.P),.cells b.ob 0 122 (bu b.tb b.pi a.O),.dR (lu a) (fun z=>(c.t z).b) 4 (cT b.tb c.t),.aW (lu a) (rT 168 c.t)]:=by
 have e:kp (a.jU p) b c=(if(kp a b c).aA p=0 then(kp a b c).box p (((kp a b c).u p).bx.send 3).2 else kp a b c):=(acQ a b c p).symm;try unfold cW
 rw[e,Za];by_cases h:a.aA p=0
 ·have h2:a.jU p=a.jJ p ((a.u p).bx.send 3).2:=if_pos h;rw[h2];rfl
 grind [KA.jU]
set_option maxHeartbeats 16000000 in
def ZL(a:KA)(b:KZ)(c:KC)(N:Nat)(T:Int)(hw:a.Wk T)(hc:cK a c N T)(hT:T<=900000)(n co:Int)(hl:(a.u n).st=1)(hx:a.Hx n)(hh:a.head n≠n):Spec Tryz.prog 63 [az b.kb 0 0,iI n,iI co] (cW a b c [.ro 0 0 32 dw]) (fun v H1=>∃ c2:KC,cK (a.dc n co) c2 N T/\H1=(cW (a.dc n co) b c2 [])):=by
 have hn:0<=n/\n<20:=by
  by_cases e:n<0\/20<=n
  ·rw[hw.out n e]at hl;exact absurd hl dq
  omega
 have II:=hw.cV hn hl co;have ZM:a.gW n co=(a.cV n co):=by unfold KA.gW;rw[if_neg hh]
 have bL:((a.cV n co).dI n (a.head n)).Wk T:=by rw[<-ZM];exact(hw.gW hn hl co).dI _ _
 have Xl:((a.cV n co).dI n (a.head n)).Hx n:=by rw[<-ZM];exact(hx.gW co).dI _ _
 have adS:(((a.cV n co).dI n (a.head n)).u n).st≠1:=by rw[<-ZM,(dP _ _ _ _).1];exact DJ a n co
 refine Spec.go 65 [0,1,2,6,7,8,21,26,27,47] [] Tryz.func63 fun W=> ?_;refine cq (jQ b.kb (kp a b c) a.s n) (pk [0,1]) ?_;refine cq (AI b.kb (kp a b c) a.s _) (pz 2) ?_;refine ca (NH a b c N T hw hc hT n co hl) (pk (0::1::rr 15 0 [])) ?_;rintro _ _ ⟨c2,Bv,rfl⟩;refine gO ?_;refine LU rfl (hh) ?_;refine lp (σ:=Int) (fun i=>(20-i).toNat) (fun i=>0<=i/\i<=20) (fun i=>[(26,iI i),(0,az b.kb 0 0),(1,iI n),(7,iI (a.head n))]) (fun i=>XM W (cm (cW a b c [.ro 0 0 32 dw])) [.cells b.kb 0 453 (aG ((kp (a.cV n co) b c2).kI n (a.head n) i)),.cells b.gb 0 60 (bH (a.cV n co).g),.cells b.sb 0 158 (Sp.aL (a.cV n co).s),.cells b.qb 0 2281 (aH c2.q),.aW ck (SC.dg 254 c2.q),.cells b.bb 0 577 (dM b.vp (a.cV n co).v.fR (a.cV n co).v.rf),.cells b.vp 0 71 (Vm.bO (a.cV n co).v.bb.fp),.dR (jg (a.cV n co)) c2.mb 34 (cN b.bb (a.cV n co).f c2.pp c2.cc),.aW (jg (a.cV n co)) (rN 171 (a.cV n co).f c2.pp c2.cc),.cells b.tb 0 321 (aC c2.F),.aW au (FC.bd 9 c2.F),.aW au (FC.bh 3 c2.F),dh c2.rp c2.rc 3 c2.rl,.cells b.pi 0 24 (Tr.bO (a.cV n co).P),.cells b.ob 0 122 (bu b.tb b.pi (a.cV n co).O),.dR (lu (a.cV n co)) (fun z=>(c2.t z).b) 4 (cT b.tb c2.t),.aW (lu (a.cV n co)) (rT 168 c2.t),.ro 0 0 32 dw]) (0) ?_ S4 (fun _ lG=>by rw[wj];exact XM.pick (pz 18) lG) ?_
 ·omega
 intro i hi;refine gC ?_;refine cd ?_ ?_<;>intro h1
 ·refine sd (ld .aa (gy _) ?_);refine sp 37 rfl ?_ ?_<;>intro h2
  ·rw[jf _ _ _ (Int.le_refl _)]at h2;have h81:=h2;refine sd (ld .aa (l7 _) ?_);refine cd ?_ ?_<;>intro h3
   ·rw[jf _ _ _ (Int.le_refl _)]at h3;have h82:=h3;refine sd (st .aa (yw _ og _) rfl (sd (ag (i+1) ?_ ?_ S4 fun _ lG=>by rw[<-KP.FZ _ _ _ hi.1 h81 h82];exact XM.pick (pz 18) lG)));all_goals omega
   ·rw[jf _ _ _ (Int.le_refl _)]at h3;have h82:=h3;refine sd (ag (i+1) ?_ ?_ S4 fun _ lG=>by rw[nj _ _ _ fun c=>h82 c.2];exact XM.pick (pz 18) lG);all_goals omega
  ·rw[jf _ _ _ (Int.le_refl _)]at h2;have h81:=h2;refine sd (ag (i+1) ?_ ?_ S4 fun _ lG=>by rw[nj _ _ _ fun c=>h81 c.1];exact XM.pick (pz 18) lG);all_goals omega
 ·have adV:i=20:=og;subst adV;try unfold cW
  rw[Ky];refine sd (ld .aa (l7 _) ?_);refine xG 2 (PH b.kb (kp ((a.cV n co).dI n (a.head n)) b c2) (a.cV n co).s ((((a.cV n co).dI n (a.head n)).u n).aD) 3 false (fun q=>bL.bx _) fun q=>Gj bL Xl adS q) (pk [0,1,15]) rfl ?_;rintro _ _ rfl;refine gO ?_;refine cU rfl (ah (pk (0::2::0::rr 14 1 [])) rfl ?_);have hA:a.dc n co=((a.cV n co).dI n (a.head n)).jU (((a.cV n co).dI n (a.head n)).u n).aD:=by unfold KA.dc;rw[ZM]
  rw[hA];refine⟨c2,Bv.ie _ _ _,?_⟩;change _=cW (KA.jU _ _) _ _ [];rw[PJ,Gi,Gk];rfl
set_option maxHeartbeats 16000000 in
def ZN(a:KA)(b:KZ)(c:KC)(N:Nat)(T:Int)(hw:a.Wk T)(hc:cK a c N T)(hT:T<=900000)(n co:Int)(hl:(a.u n).st=1)(hx:a.Hx n)(hh:a.head n=n):Spec Tryz.prog 63 [az b.kb 0 0,iI n,iI co] (cW a b c [.ro 0 0 32 dw]) (fun v H1=>∃ c2:KC,cK (a.dc n co) c2 N T/\H1=(cW (a.dc n co) b c2 [])):=by
 have hn:0<=n/\n<20:=by
  by_cases e:n<0\/20<=n
  ·rw[hw.out n e]at hl;exact absurd hl dq
  omega
 have II:=hw.cV hn hl co;have ZM:a.gW n co=((a.cV n co).ec (a.s.bU n).1 n):=by unfold KA.gW;rw[if_pos hh]
 have bL:(((a.cV n co).ec (a.s.bU n).1 n).dI n (a.head n)).Wk T:=by rw[<-ZM];exact(hw.gW hn hl co).dI _ _
 have Xl:(((a.cV n co).ec (a.s.bU n).1 n).dI n (a.head n)).Hx n:=by rw[<-ZM];exact(hx.gW co).dI _ _
 have adS:((((a.cV n co).ec (a.s.bU n).1 n).dI n (a.head n)).u n).st≠1:=by rw[<-ZM,(dP _ _ _ _).1];exact DJ a n co
 refine Spec.go 65 [0,1,2,6,7,8,21,26,27,47] [] Tryz.func63 fun W=> ?_;refine cq (jQ b.kb (kp a b c) a.s n) (pk [0,1]) ?_;refine cq (AI b.kb (kp a b c) a.s _) (pz 2) ?_;refine ca (NH a b c N T hw hc hT n co hl) (pk (0::1::rr 15 0 [])) ?_;rintro _ _ ⟨c1,gj,rfl⟩;refine gO ?_;refine XT rfl (hh) ?_;refine ca (WG (a.cV n co) b c1 N T II gj hT _ n) (pz 17) ?_;rintro _ _ ⟨c2,Bv,rfl⟩;refine gO ?_;refine lp (σ:=Int) (fun i=>(20-i).toNat) (fun i=>0<=i/\i<=20) (fun i=>[(26,iI i),(0,az b.kb 0 0),(1,iI n),(7,iI (a.head n))]) (fun i=>XM W (cm (cW a b c [.ro 0 0 32 dw])) [.cells b.kb 0 453 (aG ((kp ((a.cV n co).ec (a.s.bU n).1 n) b c2).kI n (a.head n) i)),.cells b.gb 0 60 (bH ((a.cV n co).ec (a.s.bU n).1 n).g),.cells b.sb 0 158 (Sp.aL ((a.cV n co).ec (a.s.bU n).1 n).s),.cells b.qb 0 2281 (aH c2.q),.aW ck (SC.dg 254 c2.q),.cells b.bb 0 577 (dM b.vp ((a.cV n co).ec (a.s.bU n).1 n).v.fR ((a.cV n co).ec (a.s.bU n).1 n).v.rf),.cells b.vp 0 71 (Vm.bO ((a.cV n co).ec (a.s.bU n).1 n).v.bb.fp),.dR (jg ((a.cV n co).ec (a.s.bU n).1 n)) c2.mb 34 (cN b.bb ((a.cV n co).ec (a.s.bU n).1 n).f c2.pp c2.cc),.aW (jg ((a.cV n co).ec (a.s.bU n).1 n)) (rN 171 ((a.cV n co).ec (a.s.bU n).1 n).f c2.pp c2.cc),.cells b.tb 0 321 (aC c2.F),.aW au (FC.bd 9 c2.F),.aW au (FC.bh 3 c2.F),dh c2.rp c2.rc 3 c2.rl,.cells b.pi 0 24 (Tr.bO ((a.cV n co).ec (a.s.bU n).1 n).P),.cells b.ob 0 122 (bu b.tb b.pi ((a.cV n co).ec (a.s.bU n).1 n).O),.dR (lu ((a.cV n co).ec (a.s.bU n).1 n)) (fun z=>(c2.t z).b) 4 (cT b.tb c2.t),.aW (lu ((a.cV n co).ec (a.s.bU n).1 n)) (rT 168 c2.t),.ro 0 0 32 dw]) (0) ?_ S4 (fun _ lG=>by rw[wj];exact XM.pick (pz 18) lG) ?_
 ·omega
 intro i hi;refine gC ?_;refine cd ?_ ?_<;>intro h1
 ·refine sd (ld .aa (gy _) ?_);refine sp 37 rfl ?_ ?_<;>intro h2
  ·rw[jf _ _ _ (Int.le_refl _)]at h2;have h81:=h2;refine sd (ld .aa (l7 _) ?_);refine cd ?_ ?_<;>intro h3
   ·rw[jf _ _ _ (Int.le_refl _)]at h3;have h82:=h3;refine sd (st .aa (yw _ og _) rfl (sd (ag (i+1) ?_ ?_ S4 fun _ lG=>by rw[<-KP.FZ _ _ _ hi.1 h81 h82];exact XM.pick (pz 18) lG)));all_goals omega
   ·rw[jf _ _ _ (Int.le_refl _)]at h3;have h82:=h3;refine sd (ag (i+1) ?_ ?_ S4 fun _ lG=>by rw[nj _ _ _ fun c=>h82 c.2];exact XM.pick (pz 18) lG);all_goals omega
  ·rw[jf _ _ _ (Int.le_refl _)]at h2;have h81:=h2;refine sd (ag (i+1) ?_ ?_ S4 fun _ lG=>by rw[nj _ _ _ fun c=>h81 c.1];exact XM.pick (pz 18) lG);all_goals omega
 ·have adV:i=20:=og;subst adV;try unfold cW
  rw[Ky];refine sd (ld .aa (l7 _) ?_);refine xG 2 (PH b.kb (kp (((a.cV n co).ec (a.s.bU n).1 n).dI n (a.head n)) b c2) ((a.cV n co).ec (a.s.bU n).1 n).s (((((a.cV n co).ec (a.s.bU n).1 n).dI n (a.head n)).u n).aD) 3 false (fun q=>bL.bx _) fun q=>Gj bL Xl adS q) (pk [0,1,15]) rfl ?_;rintro _ _ rfl;refine gO ?_;refine cU rfl (ah (pk (0::2::0::rr 14 1 [])) rfl ?_);have hA:a.dc n co=(((a.cV n co).ec (a.s.bU n).1 n).dI n (a.head n)).jU ((((a.cV n co).ec (a.s.bU n).1 n).dI n (a.head n)).u n).aD:=by unfold KA.dc;rw[ZM]
  rw[hA];refine⟨c2,Bv.ie _ _ _,?_⟩;change _=cW (KA.jU _ _) _ _ [];rw[PJ,Gi,Gk];rfl
end Go.X.Kn

namespace Go.X.Kn
open Go Go.Proofs Go.X Go.X.Sg
set_option maxRecDepth 20000
set_option maxHeartbeats 4000000
attribute [local irreducible] KA.dc KA.cH
def Cg(a:KA)(b:KZ)(c:KC)(N:Nat)(T:Int)(hw:a.Wk T)(hc:cK a c N T)(hT:T<=900000)(n co:Int)(hl:(a.u n).st=1)(hx:a.Hx n):Spec Tryz.prog 63 [az b.kb 0 0,iI n,iI co] (cW a b c [.ro 0 0 32 dw]) (fun v H1=>∃ c1:KC,cK (a.dc n co) c1 N T/\H1=(cW (a.dc n co) b c1 [])):=by
 by_cases hh:a.head n=n
 ·exact ZN a b c N T hw hc hT n co hl hx hh
 ·exact ZL a b c N T hw hc hT n co hl hx hh
def R2(a:KA)(b:KZ)(c:KC)(N:Nat)(T:Int)(hw:a.Wk T)(hc:cK a c N T)(hT:T<=900000)(n:Int)(hn:0<=n/\n<20)(o:Bool)(hl:(a.u n).st=1)(hx:a.Hx n)(he:¬((a.u n).bx.first 0)=0)(ho:o=true\/a.head n≠n):Spec Tryz.prog 74 [az b.kb 0 0,iI n,.bool o] (cW a b c [.ro 0 0 32 dw]) (fun v H1=>∃ c1:KC,cK (a.dc n (128+((a.u n).bx.first 0))) c1 N T/\H1=(cW (a.dc n (128+((a.u n).bx.first 0))) b c1 [])):=by
 refine Spec.go 36 [0,1,2,6,7,30] [] Tryz.func74 fun W=> ?_;refine XR.mono (fun _ bL=>kg (k:=kp a b c) (n:=n) og .h1 bL) ?_;refine sd ?_;refine Iv 1 (D7 b.kb (0+jT n) _ (hw.bx n)) (pk [0,18]) rfl ?_;refine XR.mono (fun _ bL=>nA (k:=kp a b c) (n:=n) og (pk [0,1,1]) bL) ?_;refine spT 19 rfl (he) ?_;refine P9 21 rfl ?_ ?_<;>intro h2
 ·try simp only[sb]at h2
  have hfr:=BS.tU (a.u n).bx 0 (hw.bx n);refine sd ?_;refine xG 17 (Cg a b c N T hw hc hT n _ hl hx) (pk (0::rr 16 1 [0])) rfl ?_;rintro _ _ ⟨c1,gj,rfl⟩;apply gO;refine cU rfl (ah (pz 17) rfl ?_);grind
 ·try simp only[sb]at h2
  refine cq (jQ b.kb (kp a b c) a.s n) (pk [0,2]) ?_;refine cq (AI b.kb (kp a b c) a.s _) (pz 2) ?_;apply XT rfl (by first | rfl | exact fun q=>(ho.resolve_left (by simp_all)) q);have hfr:=BS.tU (a.u n).bx 0 (hw.bx n);refine sd ?_;refine xG 17 (Cg a b c N T hw hc hT n _ hl hx) (pk (0::2::0::rr 14 1 [0])) rfl ?_;rintro _ _ ⟨c1,gj,rfl⟩;apply gO;refine cU rfl (ah (pz 17) rfl ?_);grind
def R3(a:KA)(b:KZ)(c:KC)(N:Nat)(T:Int)(hw:a.Wk T)(hc:cK a c N T)(hT:T<=900000)(n:Int)(hn:0<=n/\n<20)(o:Bool)(he:((a.u n).bx.first 0)=0):Spec Tryz.prog 74 [az b.kb 0 0,iI n,.bool o] (cW a b c [.ro 0 0 32 dw]) (fun v H1=>∃ c1:KC,cK a c1 N T/\H1=(cW a b c1 [])):=by
 refine Spec.go 36 [0,1,2,6,7,30] [] Tryz.func74 fun W=> ?_;refine XR.mono (fun _ bL=>kg (k:=kp a b c) (n:=n) og .h1 bL) ?_;refine sd ?_;refine Iv 1 (D7 b.kb (0+jT n) _ (hw.bx n)) (pk [0,18]) rfl ?_;refine XR.mono (fun _ bL=>nA (k:=kp a b c) (n:=n) og (pk [0,1,1]) bL) ?_;refine spF 19 rfl og (cU rfl (ah (pk (0::rr 16 1 [])) rfl ?_));grind
theorem R4(a:KA)(b:KZ)(c:KC)(N:Nat)(T:Int)(hw:a.Wk T)(hc:cK a c N T)(hT:T<=900000)(n:Int)(hn:0<=n/\n<20)(he:¬((a.u n).bx.first 0)=0)(hh:a.head n=n):Spec Tryz.prog 74 [az b.kb 0 0,iI n,.bool false] (cW a b c [.ro 0 0 32 dw]) (fun v H1=>∃ c1:KC,cK a c1 N T/\H1=(cW a b c1 [])):=by
 refine Spec.go 36 [0,1,2,6,7,30] [] Tryz.func74 fun W=> ?_;refine XR.mono (fun _ bL=>kg (k:=kp a b c) (n:=n) og .h1 bL) ?_;refine sd ?_;refine Iv 1 (D7 b.kb (0+jT n) _ (hw.bx n)) (pk [0,18]) rfl ?_;refine XR.mono (fun _ bL=>nA (k:=kp a b c) (n:=n) og (pk [0,1,1]) bL) ?_;refine spT 19 rfl (he) ?_;refine cq (jQ b.kb (kp a b c) a.s n) (pk [0,2]) ?_;refine cq (AI b.kb (kp a b c) a.s _) (pz 2) ?_;refine LU rfl (fun q=>q hh) (cU rfl (ah (pk (0::2::0::rr 14 1 [])) rfl ?_));exact⟨c,hc,rfl⟩
def R5(a:KA)(b:KZ)(c:KC)(N:Nat)(T:Int)(hw:a.Wk T)(hc:cK a c N T)(hT:T<=900000)(n:Int)(hn:0<=n/\n<20)(o:Bool)(he:¬a.KD n o):Spec Tryz.prog 74 [az b.kb 0 0,iI n,.bool o] (cW a b c [.ro 0 0 32 dw]) (fun v H1=>∃ c1:KC,cK a c1 N T/\H1=(cW a b c1 [])):=by
 by_cases h0:((a.u n).bx.first 0)=0
 ·exact R3 a b c N T hw hc hT n hn o h0
 ·have h1:¬(o=true\/a.head n≠n):=fun q=>he ⟨h0,q⟩;grind [R4]
def zm(a:KA)(b:KZ)(c:KC)(N:Nat)(T:Int)(hw:a.Wk T)(hc:cK a c N T)(hT:T<=900000)(n:Int)(hn:0<=n/\n<20)(o:Bool)(hl:(a.u n).st=1)(hx:a.Hx n):Spec Tryz.prog 74 [az b.kb 0 0,iI n,.bool o] (cW a b c [.ro 0 0 32 dw]) (fun v H1=>∃ c1:KC,cK (a.cH n o) c1 N T/\H1=(cW (a.cH n o) b c1 [])):=by
 by_cases he:a.KD n o
 ·rw[wx he];exact R2 a b c N T hw hc hT n hn o hl hx he.1 he.2
 ·rw[za he];exact R5 a b c N T hw hc hT n hn o he
def WJ(a:KA)(b:KZ)(c:KC)(N:Nat)(T:Int)(hw:a.Wk T)(hc:cK a c N T)(hT:T<=900000)(n sig:Int)(o:Bool)(hx:a.Hx n):Spec Tryz.prog 71 [az b.kb 0 0,iI n,iI sig,.bool o] (cW a b c [.ro 0 0 32 dw]) (fun v H1=>∃ c1:KC,cK (a.wv n sig o) c1 N T/\H1=(cW (a.wv n sig o) b c1 [])):=by
 refine Spec.go 27 [0,1,2,3,8,9,17] [] Tryz.func71 fun W=> ?_;refine ca (eW b.kb (kp a b c) n) .h1 ?_;rintro _ _ ⟨⟨hl,rfl⟩ | ⟨hl,rfl⟩,rfl⟩
 ·obtain⟨jV,ic⟩:=bJ hl;apply gO;apply XR.mono fun _ bL=>kg (k:=kp a b c) (n:=n) og .h1 bL;refine cq (V0 b.kb (0+jT n) _ sig) .h1 ?_;apply XR.mono fun _ bL=>mS (k:=kp a b c) (n:=n) og (pz 3) bL;try unfold cW
  rw[Ao];try unfold cW
  rw[<-vA a n ((a.u n).bx.send sig).2,<-y9 a n ((a.u n).bx.send sig).2];refine xG 17 (zm (a.jJ n ((a.u n).bx.send sig).2) b c N T (hw.jJ jV (py _ _ (hw.bx n))) (hc.box _ _) hT n jV o (by rw[gT];exact ic) (hx.box _)) (pz 18) rfl ?_;rintro _ _ ⟨c1,gj,rfl⟩;apply gO;refine cU rfl (ah (pz 17) rfl ?_);have e:a.wv n sig o=(a.jJ n ((a.u n).bx.send sig).2).cH n o:=if_pos hl;grind
 ·apply gO;refine rt0 (pz 17) ?_;have e:a.wv n sig o=a:=if_neg fun q=>hl q;grind
def ZO(a:KA)(b:KZ)(c:KC)(N:Nat)(T:Int)(ho:a.Ok T)(hc:cK a c N T)(hT:T<=800000)(n co:Int):Spec Tryz.prog 16 [az b.kb 0 0,iI n,iI co] (cW a b c [.ro 0 0 32 dw]) (fun v H1=>v=ay 102 (a.uI n co)/\∃ c1:KC,cK (a.mH n co) c1 N T/\H1=(cW (a.mH n co) b c1 [])):=by
 refine Spec.go 32 [0,1,2,6,8,16,23,26] [] Tryz.func16 fun W=> ?_;refine ca (eW b.kb (kp a b c) n) .h1 ?_;rintro _ _ ⟨⟨hl,rfl⟩ | ⟨hl,rfl⟩,rfl⟩
 ·obtain⟨jV,ic⟩:=bJ hl;have hl:a.aA n=0:=hl;have ic:(a.u n).st=1:=ic;apply gO;refine sp 20 rfl ?_ ?_<;>intro h1
  ·refine bI (pz 17) ?_;try dsimp only[aU,aS,bG,bN]
   grind [KA.uI,KA.mH,ay]
  ·refine cd ?_ ?_<;>intro h2
   ·refine bI (pz 17) ?_;try dsimp only[aU,aS,bG,bN]
    grind [KA.uI,KA.mH,ay]
   ·refine cd ?_ ?_<;>intro h3
    ·refine bI (pz 17) ?_;try dsimp only[aU,aS,bG,bN]
     grind [KA.uI,KA.mH,ay]
    ·refine xG 17 (Cg a b c N T ho.wk hc og n co ic (ho.hx.any n)) (pz 18) rfl ?_;rintro _ _ ⟨c1,gj,rfl⟩;apply gO;refine bI (pz 17) ?_;try dsimp only[aU,aS,bG,bN]
     grind [KA.uI,KA.mH,ay]
 ·have hl:a.aA n≠0:=hl;have jd:(kp a b c).aA n=a.aA n:=rfl;rw[jd];apply gO;refine bI (pz 17) ?_;grind [aU,aS,KA.uI,KA.mH,ay]
def adW(a:KA)(b:KZ)(c:KC)(N:Nat)(T:Int)(ho:a.Ok T)(hc:cK a c N T)(hT:T<=800000)(n sg y:Int):Spec Tryz.prog 23 [az b.kb 0 0,iI n,iI sg,iI y] (cW a b c [.ro 0 0 32 dw]) (fun v H1=>v=ay 102 (a.VG n sg y)/\∃ c1:KC,cK (a.DN n sg y) c1 N T/\H1=(cW (a.DN n sg y) b c1 [])):=by
 refine Spec.go 31 [0,1,2,3,8,9,10,18,26] [] Tryz.func23 fun W=> ?_;refine ca (eW b.kb (kp a b c) n) .h1 ?_;rintro _ _ ⟨⟨hl,rfl⟩ | ⟨hl,rfl⟩,rfl⟩
 ·obtain⟨jV,ic⟩:=bJ hl;have hl:a.aA n=0:=hl;have ic:(a.u n).st=1:=ic;apply gO;apply XR.mono fun _ bL=>kg (k:=kp a b c) (n:=n) og .h1 bL;refine ca (af8 b.kb (0+jT n) (a.u n).bx sg y) .h1 ?_;rintro _ _ ⟨rfl,rfl⟩;by_cases rB:((a.u n).bx.set sg y).1=0
  ·rw[rB,qo];apply gO;apply XR.mono fun _ bL=>mS (k:=kp a b c) (n:=n) og (pz 3) bL;try unfold cW
   rw[Ao];try unfold cW
   rw[<-vA a n ((a.u n).bx.set sg y).2,<-y9 a n ((a.u n).bx.set sg y).2];refine xG 17 (zm (a.jJ n ((a.u n).bx.set sg y).2) b c N T (ho.wk.jJ jV (Aq _ _ _ (ho.wk.bx n))) (hc.box _ _) og n jV false (by rw[gT];exact ic) ((ho.hx.any n).box _)) (pz 18) rfl ?_;rintro _ _ ⟨c1,gj,rfl⟩;apply gO;refine bI (pz 17) ?_;try dsimp only[aU,aS,bG,bN]
   grind [KA.VG,KA.DN,ay]
  ·rw[aK _ rB];apply gO;rw[Zb rB];refine XR.mono (fun _ bL=>nA (k:=kp a b c) (n:=n) og (pz 3) bL) ?_;refine bI (pz 17) ?_;grind [aU,aS,KA.VG,KA.DN,aK]
 ·have hl:a.aA n≠0:=hl;have jd:(kp a b c).aA n=a.aA n:=rfl;rw[jd];apply gO;refine bI (pz 17) ?_;grind [aU,aS,KA.VG,KA.DN,ay]
def Ih(a:KA)(b:KZ)(c:KC)(N:Nat)(T:Int)(ho:a.Ok T)(hc:cK a c N T)(hT:T<=800000)(n sg:Int):Spec Tryz.prog 24 [az b.kb 0 0,iI n,iI sg,.bool true] (cW a b c [.ro 0 0 32 dw]) (fun v H1=>v=ay 102 (a.wy n sg true)/\∃ c1:KC,cK (a.mI n sg true) c1 N T/\H1=(cW (a.mI n sg true) b c1 [])):=by
 refine Spec.go 31 [0,1,2,3,8,9,10,18,26] [] Tryz.func24 fun W=> ?_;refine ca (eW b.kb (kp a b c) n) .h1 ?_;rintro _ _ ⟨⟨hl,rfl⟩ | ⟨hl,rfl⟩,rfl⟩
 ·obtain⟨jV,ic⟩:=bJ hl;have hl:a.aA n=0:=hl;have ic:(a.u n).st=1:=ic;apply gO;apply XR.mono fun _ bL=>kg (k:=kp a b c) (n:=n) og .h1 bL;refine ca (K1 b.kb (0+jT n) (a.u n).bx sg) .h1 ?_;rintro _ _ ⟨rfl,rfl⟩;by_cases rB:((a.u n).bx.dZ sg true).1=0
  ·rw[rB,qo];apply gO;apply XR.mono fun _ bL=>mS (k:=kp a b c) (n:=n) og (pz 3) bL;try unfold cW
   rw[Ao];try unfold cW
   rw[<-vA a n ((a.u n).bx.dZ sg true).2,<-y9 a n ((a.u n).bx.dZ sg true).2];refine xG 17 (zm (a.jJ n ((a.u n).bx.dZ sg true).2) b c N T (ho.wk.jJ jV (sC _ _ _ (ho.wk.bx n))) (hc.box _ _) og n jV false (by rw[gT];exact ic) ((ho.hx.any n).box _)) (pz 18) rfl ?_;rintro _ _ ⟨c1,gj,rfl⟩;apply gO;refine bI (pz 17) ?_;try dsimp only[aU,aS,bG,bN]
   grind [KA.wy,KA.mI,ay]
  ·rw[aK _ rB];apply gO;rw[KH rB];refine XR.mono (fun _ bL=>nA (k:=kp a b c) (n:=n) og (pz 3) bL) ?_;refine bI (pz 17) ?_;grind [aU,aS,KA.wy,KA.mI,aK]
 ·have hl:a.aA n≠0:=hl;have jd:(kp a b c).aA n=a.aA n:=rfl;rw[jd];apply gO;refine bI (pz 17) ?_;grind [aU,aS,KA.wy,KA.mI,ay]
def Fb(a:KA)(b:KZ)(c:KC)(N:Nat)(T:Int)(ho:a.Ok T)(hc:cK a c N T)(hT:T<=800000)(n sg:Int):Spec Tryz.prog 24 [az b.kb 0 0,iI n,iI sg,.bool false] (cW a b c [.ro 0 0 32 dw]) (fun v H1=>v=ay 102 (a.wy n sg false)/\∃ c1:KC,cK (a.mI n sg false) c1 N T/\H1=(cW (a.mI n sg false) b c1 [])):=by
 refine Spec.go 31 [0,1,2,3,8,9,10,18,26] [] Tryz.func24 fun W=> ?_;refine ca (eW b.kb (kp a b c) n) .h1 ?_;rintro _ _ ⟨⟨hl,rfl⟩ | ⟨hl,rfl⟩,rfl⟩
 ·obtain⟨jV,ic⟩:=bJ hl;have hl:a.aA n=0:=hl;have ic:(a.u n).st=1:=ic;apply gO;apply XR.mono fun _ bL=>kg (k:=kp a b c) (n:=n) og .h1 bL;refine ca (H3 b.kb (0+jT n) (a.u n).bx sg) .h1 ?_;rintro _ _ ⟨rfl,rfl⟩;by_cases rB:((a.u n).bx.dZ sg false).1=0
  ·rw[rB,qo];apply gO;apply XR.mono fun _ bL=>mS (k:=kp a b c) (n:=n) og (pz 3) bL;try unfold cW
   rw[Ao];try unfold cW
   rw[<-vA a n ((a.u n).bx.dZ sg false).2,<-y9 a n ((a.u n).bx.dZ sg false).2];refine xG 17 (zm (a.jJ n ((a.u n).bx.dZ sg false).2) b c N T (ho.wk.jJ jV (sC _ _ _ (ho.wk.bx n))) (hc.box _ _) og n jV false (by rw[gT];exact ic) ((ho.hx.any n).box _)) (pz 18) rfl ?_;rintro _ _ ⟨c1,gj,rfl⟩;apply gO;refine bI (pz 17) ?_;try dsimp only[aU,aS,bG,bN]
   grind [KA.wy,KA.mI,ay]
  ·rw[aK _ rB];apply gO;rw[KH rB];refine XR.mono (fun _ bL=>nA (k:=kp a b c) (n:=n) og (pz 3) bL) ?_;refine bI (pz 17) ?_;grind [aU,aS,KA.wy,KA.mI,aK]
 ·have hl:a.aA n≠0:=hl;have jd:(kp a b c).aA n=a.aA n:=rfl;rw[jd];apply gO;refine bI (pz 17) ?_;grind [aU,aS,KA.wy,KA.mI,ay]
def ZP(a:KA)(b:KZ)(c:KC)(N:Nat)(T:Int)(ho:a.Ok T)(hc:cK a c N T)(hT:T<=800000)(n sg:Int)(on:Bool):Spec Tryz.prog 24 [az b.kb 0 0,iI n,iI sg,.bool on] (cW a b c [.ro 0 0 32 dw]) (fun v H1=>v=ay 102 (a.wy n sg on)/\∃ c1:KC,cK (a.mI n sg on) c1 N T/\H1=(cW (a.mI n sg on) b c1 [])):=by
 cases on
 ·exact Fb a b c N T ho hc hT n sg
 ·exact Ih a b c N T ho hc hT n sg
def WK(a:KA)(b:KZ)(c:KC)(aQ:Int->Nat)(hI:a.s.Inv aQ)(n q:Int):Spec Tryz.prog 18 [az b.kb 0 0,iI n,iI q] [.cells b.kb 0 453 (aG (kp a b c)),.cells b.sb 0 158 (Sp.aL a.s)] (fun v H1=>v= .tuple #[iI (a.BI n q).1,ay 102 (a.BI n q).2]/\H1=[.cells b.kb 0 453 (aG (kp a b c)),.cells b.sb 0 158 (Sp.aL a.s)]):=af7 b.kb (kp a b c) a.s aQ hI n q
def zn(a:KA)(b:KZ)(c:KC)(hf:∀ n i,0<=(a.u n).fd i/\(a.u n).fd i<=24)(n i:Int):Spec Tryz.prog 69 [az b.kb 0 0,iI n,iI i] [.cells b.kb 0 453 (aG (kp a b c))] (fun v H1=>v= .tuple #[iI (a.dx n i),ay 102 (a.eZ n i)]/\H1=[.cells b.kb 0 453 (aG (kp a b c))]):=adR b.kb (kp a b c) n i hf
def Ci(a:KA)(b:KZ)(c:KC)(n:Int)(hn:0<=n/\n<20)(x:Int)(hx:0<=x:=by omega):Spec Tryz.prog 67 [az b.kb 0 (0+0+n.toNat*22),iI x] [.cells b.kb 0 453 (aG (kp a b c))] (fun v H1=>v=iI (jO (a.u n).fd x)/\H1=[.cells b.kb 0 453 (aG (kp a b c))]):=adQ b.kb (kp a b c) n hn x hx
def ZQ(a:KA)(b:KZ)(c:KC)(N:Nat)(T:Int)(ho:a.Ok T)(hc:cK a c N T)(hT:T<=800000)(n:Int):Spec Tryz.prog 26 [az b.kb 0 0,iI n] (cW a b c [.ro 0 0 32 dw]) (fun v H1=>v= .tuple #[iI (a.DQ n),ay 102 (a.DP n)]/\∃ c1:KC,cK (a.rh n) c1 N T/\H1=(cW (a.rh n) b c1 [])):=by
 refine Spec.go 30 [0,1,4,5,6,7,8,9,17,27] [] Tryz.func26 fun W=> ?_;refine ca (eW b.kb (kp a b c) n) .h1 ?_;rintro _ _ ⟨⟨hl,rfl⟩ | ⟨hl,rfl⟩,rfl⟩
 ·obtain⟨jV,ic⟩:=bJ hl;have hl:a.aA n=0:=hl;have ic:(a.u n).st=1:=ic;apply gO;apply XR.mono fun _ bL=>kg (k:=kp a b c) (n:=n) og .h1 bL;refine Iv 1 (ac6 b.kb (0+jT n) (a.u n).bx (ho.wk.bx n)) (pk [0,18]) rfl ?_;apply XR.mono fun _ bL=>mS (k:=kp a b c) (n:=n) og (pk [0,1,1]) bL;try unfold cW
  rw[Ao];try unfold cW
  rw[<-vA a n ((a.u n).bx.take).2,<-y9 a n ((a.u n).bx.take).2];refine cd ?_ ?_<;>intro h1
  ·refine bA rfl rfl rfl (ah (pk (0::rr 16 1 [])) rfl ?_);have ht:((a.u n).bx.take).1=0:=by first | assumption | omega | simp_all
   have e1:a.DP n=2:=by unfold KA.DP;rw[if_neg og,if_pos ht]
   have e2:a.DQ n=0:=by unfold KA.DQ;rw[if_neg og,ht]
   have e3:a.rh n=a.jJ n ((a.u n).bx.take).2:=by unfold KA.rh;rw[if_neg og]
   rw[e1,e2,e3];exact⟨rfl,c,hc.box _ _,rfl⟩
  ·refine bA rfl rfl rfl (ah (pk (0::rr 16 1 [])) rfl ?_);have ht:¬((a.u n).bx.take).1=0:=by first | assumption | omega | simp_all
   have e1:a.DP n=0:=by unfold KA.DP;rw[if_neg og,if_neg ht]
   have e2:a.DQ n=((a.u n).bx.take).1:=by unfold KA.DQ;rw[if_neg og]
   have e3:a.rh n=a.jJ n ((a.u n).bx.take).2:=by unfold KA.rh;rw[if_neg og]
   rw[e1,e2,e3];exact⟨rfl,c,hc.box _ _,rfl⟩
 ·have hl:a.aA n≠0:=hl;have jd:(kp a b c).aA n=a.aA n:=rfl;rw[jd];apply gO;refine eH (pz 17) ?_;grind [aU,aS,bN,KA.DP,KA.DQ,KA.rh,ay]
def R6(a:KA)(b:KZ)(c:KC)(N:Nat)(T:Int)(ho:a.Ok T)(hc:cK a c N T)(hT:T<=800000)(n q sg:Int):Spec Tryz.prog 78 [az b.kb 0 0,iI n,iI q,iI sg] (cW a b c [.ro 0 0 32 dw]) (fun v H1=>v=ay 102 (a.ox n q sg)/\∃ c1:KC,cK (a.kE n q sg) c1 N T/\H1=(cW (a.kE n q sg) b c1 [])):=by
 refine Spec.go 42 [0,1,2,3,8,9,10,19,26,29] [] Tryz.func78 fun W=> ?_;refine cq (WK a b c a.aQ ho.wk.sI n q) (pk [0,1]) ?_;refine cd ?_ ?_<;>intro h1
 ·refine aO rfl rfl (ah (pk (0::1::rr 15 0 [])) rfl ?_);grind [aU,aS,KA.ox,KA.kE]
 ·refine sp 23 rfl ?_ ?_<;>intro h2
  ·refine aO rfl rfl (ah (pk (0::1::rr 15 0 [])) rfl ?_);try dsimp only[aU,aS,bG,bN]
   grind [KA.ox,KA.kE,ay]
  ·refine cd ?_ ?_<;>intro h3
   ·refine aO rfl rfl (ah (pk (0::1::rr 15 0 [])) rfl ?_);try dsimp only[aU,aS,bG,bN]
    grind [KA.ox,KA.kE,ay]
   ·refine cd ?_ ?_<;>intro h4
    ·refine aO rfl rfl (ah (pk (0::1::rr 15 0 [])) rfl ?_);try dsimp only[aU,aS,bG,bN]
     grind [KA.ox,KA.kE,ay]
    ·refine cq (jQ b.kb (kp a b c) a.s _) (pz 2) ?_;refine cq (jQ b.kb (kp a b c) a.s n) (pz 2) ?_;refine xG 17 (WJ a b c N T ho.wk hc og (a.BI n q).1 sg _ (ho.hx.any _)) (pk (0::1::rr 16 0 [])) rfl ?_;rintro _ _ ⟨c1,gj,rfl⟩;apply gO;refine bI (pz 17) ?_;try dsimp only[aU,aS,bG,bN]
     grind [KA.ox,KA.kE,ay]
end Go.X.Kn
