import Derived.Test.YthdinakloheinaaGreatDoorkNKW3
set_option linter.all false
namespace Go.X.Tr
open Go Go.Proofs Go.X
set_option maxRecDepth 20000
set_option maxHeartbeats 4000000
def Li:eK Tryz.prog 166 0=some 0:=kq
def Ws:eK Tryz.prog 166 1=some 1:=kq
def EG:eK Tryz.prog 166 2=some 3:=kq
def EH:rL Tryz.prog 168 4=true:=kq
def Wt:jU Tryz.prog 164=true:=kq
def aa6:jU Tryz.prog 95=true:=kq
def aga(bf:Nat)(s:FC)(d:Int->Nat)(B:Int)(hO:s.toFF.Ok d B)(hB:B<=900000)(t:Int):Spec Tryz.prog 102 [ay bf 0 0,iI t] [.cells bf 0 321 (aC s),.aQ au (FC.aX 9 s),.aQ au (FC.aY 3 s),dy (FC.rP s) (FC.rC s) 3 (FC.toFF s).roots] (fun v H1=>(s.mG t≠0/\v= .tuple #[.pointer none,ax 102 (s.mG t)]/\H1=[.cells bf 0 321 (aC s),.aQ au (FC.aX 9 s),.aQ au (FC.aY 3 s),dy (FC.rP s) (FC.rC s) 3 (FC.toFF s).roots])\/(s.mG t=0/\∃ (bt:Nat) (u:FC),v= .tuple #[ay bt 0 0,.nilIface]/\u.toFF=s.toFF.ea (s.fV t)/\u.rP=s.rP/\u.rC=s.rC/\H1=[.cells bt 0 4 (aK bf ⟨t,s.fV t⟩ (.slice none 0 0)),aL none 0 168 4 0 C0,.cells bf 0 321 (aC u),.aQ au (FC.aX 9 u),.aQ au (FC.aY 3 u),dy (FC.rP s) (FC.rC s) 3 (FC.toFF s).roots])):=by
 have hI:=hO.sh og;refine Spec.go 26 [0,1,4,5,6,7,15] [] Tryz.func102 fun W=> ?_;refine cq (Wh _ _ _ hI _) (pk [0,2]) ?_;refine cd ?_ ?_<;>intro h1
 ·refine aW rfl rfl rfl (ah (pk [0,1,1,0]) rfl ?_);grind [aS,aR,bN]
 ·refine ca (uU _ _ _ hI _) (pk [0,1,1]) ?_;rintro _ _ ⟨rfl,u,hu,pu,cu,rfl⟩;apply gO;refine XO.v (V.build (vs:= #[(0,iI t),(1,iI (s.fV t))]) rfl (v:=.agg (WH.cF ⟨t,s.fV t⟩)) fun _=>kq) rfl (gO ?_);refine XO.v (V.build (vs:= #[(0,ay bf 0 0),(1,.agg (WH.cF ⟨t,s.fV t⟩))]) rfl (v:=.agg (acv bf ⟨t,s.fV t⟩ (.slice none 0 0))) fun _=>kq) rfl (gO ?_);refine XO.box (m:=4) (C:=aK bf ⟨t,s.fV t⟩ (.slice none 0 0)) rfl rfl (aK.box _ _ _) rfl ?_;intro bt;apply gO;refine XR.fH 168 4 (aW rfl rfl rfl (ah (pk [1,0,0,0,0,0]) rfl ?_));exact .inr ⟨Decidable.byContradiction aq,bt,u,rfl,hu,pu,cu,rfl⟩
def adA(bt bf:Nat)(r:WH)(l:List MT)(p:Option Addr)(cap k c:Nat)(C:Nat->Value)(hv:RV.ok ⟨p,cap,k,l.length,c,C⟩)(hC:MC C l)(ND:l.length<=6)(s:FC)(d:Int->Nat)(B:Int)(hO:s.toFF.Ok d B)(hB:B<=900000):Spec Tryz.prog 55 [ay bt 0 0] [.cells bt 0 4 (aK bf r (.slice p l.length c)),aL p cap 168 4 k C,.cells bf 0 321 (aC s),.aQ au (FC.aX 9 s),.aQ au (FC.aY 3 s)] (fun v H1=>∃ (Pv:Nat) (p2:Option Addr) (wD k2 c2:Nat) (C2:Nat->Value) (u:FC),v=ay Pv 0 0/\RV.ok ⟨p2,wD,k2,l.length,c2,C2⟩/\MC C2 l/\u.toFF=OM s.toFF l r/\u.toFF.Ok d (B+13)/\u.rP=s.rP/\u.rC=s.rC/\H1=[.cells Pv 0 4 (aK bf r (.slice p2 l.length c2)),aL p2 wD 168 4 k2 C2,.cells bt 0 4 (aK bf r (.slice p l.length c)),aL p cap 168 4 k C,.cells bf 0 321 (aC u),.aQ au (FC.aX 9 u),.aQ au (FC.aY 3 u)]):=by
 have iJ:=o5 hv;have iJ:l.length<=k:=iJ;have hI:=hO.sh og;refine Spec.go 58 [0,2,3,5,34,35,36,37] [] Tryz.func55 fun W=> ?_;apply XC.im mixed (f:=16) (l:= #[qF,qF,qF,qF,qF,qF,qF,qF,qF,qF,qF,qF,qF,qF,qF,qF]) rfl rfl XM.kN;apply XQ.pv (i:=0) rfl kq rfl (V.move rfl) rfl rfl;apply XQ.pv (i:=1) rfl kq rfl (bB rfl) rfl rfl;apply XQ.pv (i:=2) rfl kq rfl (V.fieldAddr rfl Li) rfl rfl;apply XQ.load (i:=3) (.cells _ _ _ _) [14] rfl kq rfl .aa (V.load rfl eh (aK.B6 _ _) aa6) rfl kq rfl;apply XQ.pv (i:=4) rfl kq rfl (V.move rfl) rfl rfl;apply XQ.pv (i:=5) rfl kq rfl (bB rfl) rfl rfl;apply XQ.pv (i:=6) rfl kq rfl (V.fieldAddr rfl Ws) rfl rfl;apply XQ.load (i:=7) (.cells _ _ _ _) [14] rfl kq rfl .aa (eJ rfl eh (aK.EM _ _) gg dx) rfl kq rfl;apply XQ.pv (i:=8) rfl kq rfl (V.move rfl) rfl rfl;apply XQ.pv (i:=9) rfl kq rfl (bB rfl) rfl rfl;apply XQ.pv (i:=10) rfl kq rfl (V.fieldAddr rfl EG) rfl rfl;apply XQ.load (i:=11) (.cells _ _ _ _) [12,14] rfl kq rfl .aa (V.load rfl eh (lj _ _) Wt) rfl kq rfl;refine XQ.g (i:=12) rfl kq rfl (RG.aeX (e:=168) (v:=⟨p,cap,k,l.length,c,C⟩) hv rfl Tryz.underlying164 EH (.ao .aa) (by show l.length<=_;omega)) rfl (fun _ _ dZ=>⟨fun hs=>(hs 12 b8 rfl).elim,fun _=>fb (.ao .aa) _ dZ,fun _=>fb (.ao .aa) _ dZ,trivial⟩) ?_;intro u hu;obtain⟨W7,LA,hu3⟩:=hu;obtain⟨p2,wD,k2,Wu,c2,C2⟩:=u;have LA:Wu=l.length:=LA;subst LA;have hC2:MC C2 l:=hC.copy hu3;have aiB:l.length<=k2:=o5 W7;refine XQ.pv (i:=13) rfl kq rfl (V.build (vs:= #[(0,ay bf 0 0),(1,.agg (WH.cF r)),(2,.slice p2 l.length c2)]) rfl (v:=.agg (acv bf r (.slice p2 l.length c2))) fun _=>kq) rfl rfl ?_;refine XQ.g (i:=14) rfl kq rfl (RG.box (m:=4) (C:=aK bf r (.slice p2 l.length c2)) rfl rfl (aK.box _ _ _)) rfl (fun _ _ dZ=>⟨fun hs=>(hs 12 b8 rfl).elim,fun hs=>(hs 14 b8 rfl).elim,fun hs=>(hs 14 b8 rfl).elim,trivial⟩) ?_;intro Pv _;apply XQ.pv (i:=15) rfl kq rfl (V.assign rfl) rfl rfl;apply XQ.done kq;apply gE;refine rq [0,1,2,3,4,5,6,7,8,9] mixed ?_;apply ld .aa (aK.B6 _ _);apply ld .aa (Gp _ _);refine ca (uU _ _ s hI _) (pk [4,4,4]) ?_;rintro _ _ ⟨rfl,u0,hu0,pu0,cu0,rfl⟩;have hO0:u0.toFF.Ok d (B+1):=by rw[hu0];exact hO.ea r.node
 apply gO;apply ld (.t3 .aa) (lj _ _);refine lp (σ:=FC×Int) (fun x=>(l.length-x.2).toNat) (fun x=>yV x.1.toFF (l.drop x.2.toNat)=OM s.toFF l r/\x.1.toFF.Ok d (B+1+2*x.2)/\x.1.rP=s.rP/\x.1.rC=s.rC/\0<=x.2/\x.2<=l.length) (fun x=>[(36,iI x.2),(3,ay Pv 0 0),(34,.slice p2 l.length c2),(35,iI l.length)]) (fun x=>XM W (bX [.cells bt 0 4 (aK bf r (.slice p l.length c)),aL p cap 168 4 k C,.cells bf 0 321 (aC s),.aQ au (FC.aX 9 s),.aQ au (FC.aY 3 s)]) [.cells Pv 0 4 (aK bf r (.slice p2 l.length c2)),aL p2 wD 168 4 k2 C2,.cells bt 0 4 (aK bf r (.slice p l.length c)),aL p cap 168 4 k C,.cells bf 0 321 (aC x.1),.aQ au (FC.aX 9 x.1),.aQ au (FC.aY 3 x.1)]) ((u0,0)) ?_ S4 (xq (pk [3,3,3,3,0,0,0])) ?_
 ·grind [OM]
 intro x hx;obtain⟨hh,Xf,Om,Zx,rI,ID⟩:=hx;apply gC;refine cd ?_ ?_<;>intro h1
 ·apply bP (.ao .aa) og;intro g hg;subst hg;refine sd ?_;apply qJ (.ao .aa) (hC2.ld aiB _ og);apply XO.bG (z:=.agg (MT.cF MT.nil)) (m:=4) (C:=fG MT.nil) (fG.box _);intro bm;apply gO;apply fW .aa (fG.st _ _) rfl ⟨rfl,rfl⟩;refine rq [0,1,2,3,4,5,6,7] mixed ?_;apply ld (.ao .aa) (aK.B6 _ _);apply ld .aa (xf _);refine ca (uU _ _ x.1 (Xf.sh og) _) (pk [5,5,5]) ?_;rintro _ _ ⟨rfl,u1,agb,pu1,cu1,rfl⟩;apply gO;refine rq [0,1,2,3,4,5,6,7] mixed ?_;have Pw:u1.toFF.Ok d (B+1+2*x.2+1):=by rw[agb];exact Xf.ea (qw l x.2).at_.node
  apply ld (.t4 .aa) (aK.B6 _ _);apply ld (.t3 .aa) (xg _);refine ca (uU _ _ u1 (Pw.sh og) _) (pz 3) ?_;rintro _ _ ⟨rfl,u2,agc,pu2,cu2,rfl⟩;apply gO;refine sd ?_;refine ag ((u2,x.2+1)) ?_ ?_ S4 (xq (pk [4,4,4,4,0,0,0]))
  ·omega
  ·exact⟨by rw[<-hh,MY (i:=x.2) ⟨og,og⟩];show yV u2.toFF _=_;rw[agc,agb],by have h9:=Pw.ea (qw l x.2).to.node;rw[show B+1+2*(x.2+1)=B+1+2*x.2+1+1 from og];show u2.toFF.Ok d _;rw[agc];exact h9,by show u2.rP=_;rw[pu2,pu1,Om],by show u2.rC=_;rw[cu2,cu1,Zx],eW,eW⟩
 ·refine bL (pz 7) ?_;have e:x.2=l.length:=og;rw[e]at hh;exact⟨Pv,p2,wD,k2,c2,C2,x.1,rfl,W7,hC2,by rw[<-hh,Rj],⟨Xf.eG,fun n a b=>Int.le_trans (Xf.bj n a b) og,by have:=Xf.nn;omega⟩,Om,Zx,rfl⟩
def Px(bt bf:Nat)(r:WH)(l:List MT)(p:Option Addr)(cap k c:Nat)(C:Nat->Value)(hv:RV.ok ⟨p,cap,k,l.length,c,C⟩)(hC:MC C l)(ND:l.length<=6)(s:FC)(d:Int->Nat)(B:Int)(hO:s.toFF.Ok d B)(hB:B<=900000):Spec Tryz.prog 133 [ay bt 0 0] [.cells bt 0 4 (aK bf r (.slice p l.length c)),aL p cap 168 4 k C,.cells bf 0 321 (aC s),.aQ au (FC.aX 9 s),.aQ au (FC.aY 3 s)] (fun v H1=>v= .tuple #[]/\∃ u:FC,u.toFF=Cd s.toFF l r/\u.toFF.Ok d (B+13)/\u.rP=s.rP/\u.rC=s.rC/\H1=[.cells bt 0 4 (aK bf r (.slice none 0 0)),aL none 0 168 4 0 C0,.cells bf 0 321 (aC u),.aQ au (FC.aX 9 u),.aQ au (FC.aY 3 u)]):=by
 have iJ:=o5 hv;have iJ:l.length<=k:=iJ;refine Spec.go 43 [0,3,7,8,9,10] [] Tryz.func133 fun W=> ?_;apply ld .aa (lj _ _);refine lp (σ:=FC×Int) (fun x=>(l.length-x.2).toNat) (fun x=>DN x.1.toFF (l.drop x.2.toNat)=DN s.toFF l/\x.1.toFF.Ok d (B+2*x.2)/\x.1.rP=s.rP/\x.1.rC=s.rC/\0<=x.2/\x.2<=l.length) (fun x=>[(9,iI x.2),(0,ay bt 0 0),(7,.slice p l.length c),(8,iI l.length)]) (fun x=>XM W (bX [.cells bt 0 4 (aK bf r (.slice p l.length c)),aL p cap 168 4 k C,.cells bf 0 321 (aC s),.aQ au (FC.aX 9 s),.aQ au (FC.aY 3 s)]) [.cells bt 0 4 (aK bf r (.slice p l.length c)),aL p cap 168 4 k C,.cells bf 0 321 (aC x.1),.aQ au (FC.aX 9 x.1),.aQ au (FC.aY 3 x.1)]) ((s,0)) ?_ S4 (xq (pz 5)) ?_
 ·simp_all
 intro x hx;obtain⟨hh,Xf,Om,Zx,rI,ID⟩:=hx;apply gC;refine cd ?_ ?_<;>intro h1
 ·apply bP (.ao .aa) og;intro g hg;subst hg;refine sd (qJ (.ao .aa) (hC.ld iJ _ og) (XO.bG (z:=.agg (MT.cF MT.nil)) (m:=4) (C:=fG MT.nil) (fG.box _) ?_));intro bm;apply gO;refine fW .aa (fG.st _ _) rfl ⟨rfl,rfl⟩ (rq [0,1,2,3,4,5,6,7] mixed (ld (.ao .aa) (aK.B6 _ _) (ld .aa (xf _) ?_)));refine ca (GY _ _ x.1 (Xf.sh og) _) (pk [3,3,3]) ?_;rintro _ _ ⟨rfl,u1,W7,pu1,cu1,rfl⟩;apply gO;refine rq [0,1,2,3,4,5,6,7] mixed ?_;have Pw:u1.toFF.Ok d (B+2*x.2+1):=by rw[W7];exact Xf.kQ (qw l x.2).at_.node
  refine ld (.t4 .aa) (aK.B6 _ _) (ld (.t3 .aa) (xg _) ?_);refine ca (GY _ _ u1 (Pw.sh og) _) (pz 3) ?_;rintro _ _ ⟨rfl,u2,LA,pu2,cu2,rfl⟩;apply gO;refine sd (ag ((u2,x.2+1)) ?_ ?_ S4 (xq (pk [4,4,0,0,0])))
  ·omega
  ·exact⟨by rw[<-hh,Ri (i:=x.2) ⟨og,og⟩];show DN u2.toFF _=_;rw[LA,W7],by have h9:=Pw.kQ (qw l x.2).to.node;rw[show B+2*(x.2+1)=B+2*x.2+1+1 from og];show u2.toFF.Ok d _;rw[LA];exact h9,by show u2.rP=_;rw[pu2,pu1,Om],by show u2.rC=_;rw[cu2,cu1,Zx],eW,eW⟩
 ·refine rq [0,1,2,3,4,5,6,7,8,9] mixed (ld .aa (aK.B6 _ _) (ld .aa (Gp _ _) ?_));refine ca (GY _ _ x.1 (Xf.sh og) _) (pk [2,2,2]) ?_;rintro _ _ ⟨rfl,u3,hu3,pu3,cu3,rfl⟩;apply gO;refine XR.fH 168 4 (st (.t4 .aa) (DM _ _ _) rfl (cY rfl (ah (pk [4,0,0,0,0]) rfl ?_)));have e:x.2=l.length:=og;rw[e,Vd]at hh;have h9:=Xf.kQ r.node;exact⟨rfl,u3,by rw[hu3,hh];rfl,by rw[hu3];exact⟨h9.eG,fun n a b=>Int.le_trans (h9.bj n a b) og,by have:=h9.nn;omega⟩,by rw[pu3,Om],by rw[cu3,Zx],rfl⟩
def Zy(bt bf:Nat)(r:WH)(l:List MT)(p:Option Addr)(cap k c:Nat)(C:Nat->Value)(hv:RV.ok ⟨p,cap,k,l.length,c,C⟩)(hC:MC C l)(ND:l.length<=6)(s:FC)(d:Int->Nat)(B:Int)(hO:s.toFF.Ok d B)(hB:B<=800000)(to:Int):Spec Tryz.prog 106 [ay bt 0 0,iI to] [.cells bt 0 4 (aK bf r (.slice p l.length c)),aL p cap 168 4 k C,.cells bf 0 321 (aC s),.aQ au (FC.aX 9 s),.aQ au (FC.aY 3 s),dy (FC.rP s) (FC.rC s) 3 (FC.toFF s).roots] (fun v H1=>(s.mG to≠0/\v=ax 102 (s.mG to)/\H1=[.cells bt 0 4 (aK bf r (.slice p l.length c)),aL p cap 168 4 k C,.cells bf 0 321 (aC s),.aQ au (FC.aX 9 s),.aQ au (FC.aY 3 s),dy (FC.rP s) (FC.rC s) 3 (FC.toFF s).roots])\/(s.mG to=0/\v= .nilIface/\∃ u:FC,u.toFF=Cd (s.toFF.ea (s.fV to)) l r/\u.toFF.Ok d (B+14)/\u.rP=s.rP/\u.rC=s.rC/\H1=[.cells bt 0 4 (aK bf ⟨to,s.fV to⟩ (.slice none 0 0)),aL none 0 168 4 0 C0,.cells bf 0 321 (aC u),.aQ au (FC.aX 9 u),.aQ au (FC.aY 3 u),dy (FC.rP s) (FC.rC s) 3 (FC.toFF s).roots])):=by
 have hI:=hO.sh og;refine Spec.go 33 [0,1,4,5,6,17] [] Tryz.func106 fun W=> ?_;apply ld .aa (aK.B6 _ _);refine cq (Wh _ _ _ hI _) (pk [2,4]) ?_;refine cd ?_ ?_<;>intro h1
 ·refine aM rfl rfl (ah (pk [2,2,0,1,1,0]) rfl ?_);grind [aS,aR]
 ·apply ld (.t2 .aa) (aK.B6 _ _);refine ca (uU _ _ _ hI _) (pk [0,3,3]) ?_;rintro _ _ ⟨rfl,u0,hu0,pu0,cu0,rfl⟩;have hO0:u0.toFF.Ok d (B+1):=by rw[hu0];exact hO.ea (s.fV to)
  apply gO;refine ca (Px _ _ _ _ _ _ _ _ _ hv hC ND u0 d (B+1) hO0 og) (pk [4,4,0,0,0]) ?_;rintro _ _ ⟨rfl,u,hu,hOu,pu,cu,rfl⟩;apply gO;refine XO.v (V.build (vs:= #[(0,iI to),(1,iI (s.fV to))]) rfl (v:=.agg (WH.cF ⟨to,s.fV to⟩)) fun _=>kq) rfl (gO ?_);refine fW .aa (U6 _ _ _) rfl ⟨rfl,rfl⟩ (aM rfl rfl (ah (pz 6) rfl ?_));grind [aS,aR,bN]
def Wv:dc Tryz.prog 217=true:=kq
def Ww:eK Tryz.prog 163 1=some 1:=kq
def lq:jU Tryz.prog 3=true:=kq
def Wx:fp Tryz.prog 164=some 1:=kq
def Lj:fp Tryz.prog 168=some 4:=kq
set_option maxHeartbeats 8000000 in def adC(bt bf:Nat)(r:WH)(l:List MT)(p:Option Addr)(cap k c:Nat)(C:Nat->Value)(hv:RV.ok ⟨p,cap,k,l.length,c,C⟩)(hC:MC C l)(ND:l.length<=6)(s:FC)(d:Int->Nat)(B:Int)(hO:s.toFF.Ok d B)(hB:B<=900000)(a z:WH):Spec Tryz.prog 214 [ay bt 0 0,.agg (WH.cF a),.agg (WH.cF z)] [.cells bt 0 4 (aK bf r (.slice p l.length c)),aL p cap 168 4 k C,.cells bf 0 321 (aC s),.aQ au (FC.aX 9 s),.aQ au (FC.aY 3 s)] (fun v H1=>v=ax 102 (uB s.toFF l a z)/\∃ (p':Option Addr) (cU k' c':Nat) (C':Nat->Value) (u:FC),RV.ok ⟨p',cU,k',(pA s.toFF l a z).length,c',C'⟩/\MC C' (pA s.toFF l a z)/\u.toFF=rs s.toFF l a z/\u.rP=s.rP/\u.rC=s.rC/\H1=[.cells bt 0 4 (aK bf r (.slice p' (pA s.toFF l a z).length c')),aL p' cU 168 4 k' C',.cells bf 0 321 (aC u),.aQ au (FC.aX 9 u),.aQ au (FC.aY 3 u)]):=by
 have iJ:=o5 hv;have iJ:l.length<=k:=iJ;have hI:=hO.sh og;refine Spec.go 109 [0,4,5,6,8,9,10,11,14,17,18,19,20,34,54,59,64,65,66,67,73,81] [(4,0)] Tryz.func214 fun W=> ?_;refine XO.box (m:=2) (C:=aN (a)) rfl rfl (aN.box _) rfl ?_;intro ba;apply gO;refine XO.box (m:=2) (C:=aN (z)) rfl rfl (aN.box _) rfl ?_;intro bz;apply gO;apply lW (.ao .aa) (aN.agg _);apply lW .aa (aN.agg _);apply nt (e:=163) (vs:= #[(0,.agg (WH.cF a)),(1,.agg (WH.cF z))]) (A:= #[iI a.dJ,iI a.node,iI z.dJ,iI z.node]) (sz:=2) rfl (fun _=>kq) rfl og rfl;intro bw;apply gO;refine lp (σ:=Int) (fun i=>(2-i).toNat) (fun i=>(0<=i/\i<=2)/\(1<=i->xj s.toFF a=0)/\(2<=i->xj s.toFF z=0)) (fun i=>[(19,iI i),(0,ay bt 0 0),(4,ay ba 0 0),(5,ay bz 0 0),(17,.slice (some ⟨bw,0,none⟩) 2 2),(18,iI 2)]) (fun i=>XM W (bX [.cells bt 0 4 (aK bf r (.slice p l.length c)),aL p cap 168 4 k C,.cells bf 0 321 (aC s),.aQ au (FC.aX 9 s),.aQ au (FC.aY 3 s)]) [.cells ba 0 2 (aN a),.cells bz 0 2 (aN z),aL (some ⟨bw,0,none⟩) 2 163 2 2 (wC [a,z]),.cells bt 0 4 (aK bf r (.slice p l.length c)),aL p cap 168 4 k C,.cells bf 0 321 (aC s),.aQ au (FC.aX 9 s),.aQ au (FC.aY 3 s)]) (0) ?_ S6 (fun _ hw=>by rw[ah9]at hw;exact XM.pick (pk [2,1,0,0,0,0,0,0]) hw) ?_
 ·omega
 intro i hi;obtain⟨⟨hi0,hi1⟩,hda,hdz⟩:=hi;apply gC;refine cd ?_ ?_<;>intro h2
 ·refine sd ?_;apply qJ (.t2 .aa) (U7 [a,z] _ ⟨og,by show i<2;omega⟩);apply XO.bG (z:=.agg (WH.cF WH.nil)) (m:=2) (C:=aN WH.nil) (aN.box _);intro bx;apply gO;apply fW .aa (aN.st _ _) rfl ⟨rfl,rfl⟩;apply ctG (σ:=Nat) (fun _=>True) (fun y=>[(0,ay bt 0 0),(4,ay ba 0 0),(5,ay bz 0 0),(8,ay bx 0 0),(9,ay y 0 0),(10,ax 102 (s.cC (LB [a,z] i).node 0)),(17,.slice (some ⟨bw,0,none⟩) 2 2),(18,iI 2),(19,iI i)]) fun y=>XM W (bX [.cells bt 0 4 (aK bf r (.slice p l.length c)),aL p cap 168 4 k C,.cells bf 0 321 (aC s),.aQ au (FC.aX 9 s),.aQ au (FC.aY 3 s)]) [.cells ba 0 2 (aN a),.cells bz 0 2 (aN z),aL (some ⟨bw,0,none⟩) 2 163 2 2 (wC [a,z]),.cells bt 0 4 (aK bf r (.slice p l.length c)),aL p cap 168 4 k C,.cells bf 0 321 (aC s),.aQ au (FC.aX 9 s),.aQ au (FC.aY 3 s),.cells bx 0 2 (aN (LB [a,z] i)),.cells y 0 4 (oy (s.Xa (LB [a,z] i).node))]
  ·apply XC.im mixed (f:=13) (l:= #[qF,qF,qF,qF,qF,qF,qF,qF,qF,qF,qF,qF,qF]) rfl rfl XM.kN;apply XQ.pv (i:=0) rfl kq rfl (V.move rfl) rfl rfl;apply XQ.pv (i:=1) rfl kq rfl (bB rfl) rfl rfl;apply XQ.pv (i:=2) rfl kq rfl (V.fieldAddr rfl Li) rfl rfl;apply XQ.load (i:=3) (.cells _ _ _ _) [6,11] rfl kq rfl (.t4 .aa) (V.load rfl eh (aK.B6 _ _) aa6) rfl kq rfl;apply XQ.pv (i:=4) rfl kq rfl (V.fieldAddr rfl Ww) rfl rfl;apply XQ.load (i:=5) (.cells _ _ _ _) [6,11] rfl kq rfl .aa (V.load rfl eh (aN.EM _) lq) rfl kq rfl;apply XQ.jl (i:=6) (j:=10) kq
   ·apply XS.call (i:=6) rfl rfl rfl (No _ _ _ hI _) (pk [6]) Wv rfl (by rintro _ _ ⟨rfl,rfl⟩;all_goals(intro _ dZ;refine⟨?_,?_,trivial⟩<;>exact fun hs=>(hs 6 b8 rfl).elim));rintro _ _ ⟨rfl,rfl⟩;apply XQ.pv (i:=7) rfl kq rfl (V.move rfl) rfl rfl;apply XQ.pv (i:=8) rfl kq rfl (V.extract rfl rfl) rfl rfl;apply XQ.pv (i:=9) rfl kq rfl (V.extract rfl rfl) rfl rfl;refine XQ.bG (i:=10) (z:=.agg NV.zero.cF) (m:=4) (C:=oy NV.zero) rfl kq rfl kq rfl (oQ _) rfl (fun _ _ dZ=>⟨fun hs=>(hs 6 b8 rfl).elim,fun hs=>(hs 6 b8 rfl).elim,trivial⟩) ?_;intro bv;refine XQ.gi (i:=11) rfl kq rfl rfl rfl .aa (mm _ _) ⟨rfl,rfl⟩ nQ (fun _ dZ=>⟨fun hs=>(hs 6 b8 rfl).elim,fun hs=>(hs 6 b8 rfl).elim,trivial⟩) ?_;apply XQ.pv (i:=12) rfl kq rfl (V.assign rfl) rfl rfl;apply XQ.done kq;apply gE;refine nR (bv) ?_ (.cons rfl (.cons rfl (.cons rfl S6))) (xq (pk [3,3,3,3,3,1,2,2,1,0]));simp_all
   ·refine XS.bG (i:=10) (z:=.agg NV.zero.cF) (m:=4) (C:=oy NV.zero) rfl rfl kq rfl (oQ _) rfl (fun _ _ dZ=>⟨fun _=>fb (.ao .aa) _ dZ,fun _=>fb (.t5 .aa) _ dZ,trivial⟩) ?_;intro bv;apply XQ.call (i:=6) rfl kq rfl rfl (No _ _ _ hI _) (pk [7]) Wv rfl (by rintro _ _ ⟨rfl,rfl⟩;all_goals(intro _ dZ;refine⟨?_,?_,trivial⟩<;>exact fun hs=>(hs 6 b8 rfl).elim));rintro _ _ ⟨rfl,rfl⟩;apply XQ.pv (i:=7) rfl kq rfl (V.move rfl) rfl rfl;apply XQ.pv (i:=8) rfl kq rfl (V.extract rfl rfl) rfl rfl;apply XQ.pv (i:=9) rfl kq rfl (V.extract rfl rfl) rfl rfl;refine XQ.gi (i:=11) rfl kq rfl rfl rfl (.ao .aa) (mm _ _) ⟨rfl,rfl⟩ nQ (fun _ dZ=>⟨fun hs=>(hs 6 b8 rfl).elim,fun hs=>(hs 6 b8 rfl).elim,trivial⟩) ?_;apply XQ.pv (i:=12) rfl kq rfl (V.assign rfl) rfl rfl;apply XQ.done kq;apply gE;refine nR (bv) ?_ (.cons rfl (.cons rfl (.cons rfl S6))) (xq (pk [3,3,3,3,3,0,2,2,1,0]));simp_all
  intro y _;apply gC;refine cd ?_ ?_<;>intro h3
  ·refine aM rfl rfl (ah (pk [3,3,3,3,3]) rfl ?_);grind [aS,aR,xj,Ar,pA,rs]
  ·have j0:s.cC (LB [a,z] i).node 0=0:=Decidable.byContradiction aq;obtain⟨j1,j2,j3⟩:=FF.yH j0;obtain⟨Rg,_,_⟩:=FF.UY j0;refine rq [0,1,2,3,4,5,6,7,8,9,10,11] mixed ?_;apply ld (.t3 .aa) (aK.B6 _ _);apply ld (.t8 .aa) (aN.EM _);refine cq (adk _ _ _ _) (pk [5]) ?_;apply ld (.t9 .aa) (xe _);refine sp 49 rfl ?_ ?_<;>intro h4
   ·refine aM rfl rfl (ah (pk [4,4,0,3,3]) rfl ?_);try dsimp only[aS,aR,bI,bN]
    have hd0:xj s.toFF (LB [a,z] i)=11:=by unfold xj;rw[if_neg og,if_pos (by first | (left;rw[<-Rg];assumption) | (right;intro q;rw[if_pos j0]at*;exact absurd q aq))]
    grind [Ar,pA,rs,ax]
   ·apply ld (.t8 .aa) (aN.B6 _);refine cd ?_ ?_<;>intro h5
    ·refine aM rfl rfl (ah (pk [4,4,0,3,3]) rfl ?_);try dsimp only[aS,aR,bI,bN]
     have hd0:xj s.toFF (LB [a,z] i)=11:=by unfold xj;rw[if_neg og,if_pos (by first | (left;rw[<-Rg];assumption) | (right;intro q;rw[if_pos j0]at*;exact absurd q aq))]
     grind [Ar,pA,rs,ax]
    ·refine sd ?_;refine ag (i+1) ?_ ?_ S6 (xq (pk [1,1,1,1,1,0,0,0]));all_goals grind [xj,LB]
 ·apply lW .aa (aN.agg _);apply lW (.ao .aa) (aN.agg _);refine XO.v (ON rfl rfl Zu) rfl (gO ?_);refine cd ?_ ?_<;>intro h6
  ·have haz:a=z:=h6;refine aM rfl rfl (ah (pk [3,3,3,3,3]) rfl ?_);try dsimp only[aS,aR,bI,bN]
   grind [uB,pA,rs,ax]
  ·have haz:¬a=z:=h6;apply ld (.t3 .aa) (lj _ _);refine lp (σ:=Int) (fun i=>(l.length-i).toNat) (fun i=>(0<=i/\i<=l.length)/\∀ j:Int,0<=j->j<i->(qw l j).at_≠a) (fun i=>[(66,iI i),(0,ay bt 0 0),(4,ay ba 0 0),(5,ay bz 0 0),(64,.slice p l.length c),(65,iI l.length)]) (fun i=>XM W (bX [.cells bt 0 4 (aK bf r (.slice p l.length c)),aL p cap 168 4 k C,.cells bf 0 321 (aC s),.aQ au (FC.aX 9 s),.aQ au (FC.aY 3 s)]) [.cells ba 0 2 (aN a),.cells bz 0 2 (aN z),.cells bt 0 4 (aK bf r (.slice p l.length c)),aL p cap 168 4 k C,.cells bf 0 321 (aC s),.aQ au (FC.aX 9 s),.aQ au (FC.aY 3 s)]) (0) ?_ S6 (xq (pk [0,0,1,1,1,1,1])) ?_
   ·grind
   intro i hi;obtain⟨⟨hi0,hi1⟩,vH⟩:=hi;apply gC;refine cd ?_ ?_<;>intro h7
   ·apply bP (.t3 .aa) og;intro g hg;subst hg;refine sd ?_;apply qJ (.t3 .aa) (hC.ld iJ _ og);apply XO.bG (z:=.agg (MT.cF MT.nil)) (m:=4) (C:=fG MT.nil) (fG.box _);intro bm;apply gO;apply fW .aa (fG.st _ _) rfl ⟨rfl,rfl⟩;apply lW .aa (fG.lW _);apply lW (.ao .aa) (aN.agg _);refine XO.v (ON rfl rfl Zu) rfl (gO ?_);refine cd ?_ ?_<;>intro h8
    ·refine aM rfl rfl (ah (pk [3,3,3,3,3]) rfl ?_);try dsimp only[aS,aR,bI,bN]
     grind [uB,MZ,pA,rs,ax]
    ·refine sd ?_;refine ag (i+1) ?_ ?_ S6 (xq (pk (rr 7 1 [])));all_goals grind
   ·apply ld (.t2 .aa) (lj _ _);refine cd ?_ ?_<;>intro h9
    ·refine aM rfl rfl (ah (pk [2,2,2,2,2]) rfl ?_);try dsimp only[aS,aR,bI,bN]
     grind [uB,Bq,pA,rs,ax]
    ·apply XC.im mixed (f:=13) (l:= #[qF,qF,qF,qF,qF,qF,qF,qF,qF,qF,qF,qF,qF]) rfl rfl XM.kN;apply XQ.pv (i:=0) rfl kq rfl (V.move rfl) rfl rfl;apply XQ.pv (i:=1) rfl kq rfl (V.move rfl) rfl rfl;apply XQ.pv (i:=2) rfl kq rfl (bB rfl) rfl rfl;apply XQ.pv (i:=3) rfl kq rfl (V.fieldAddr rfl EG) rfl rfl;apply XQ.load (i:=4) (.cells _ _ _ _) [9,12] rfl kq rfl (.t2 .aa) (V.load rfl eh (lj _ _) Wt) rfl kq rfl;apply XQ.load (i:=5) (.cells _ _ _ _) [8,9,12] rfl kq rfl .aa (eJ rfl eh (aN.agg _) gg dx) rfl kq rfl;apply XQ.load (i:=6) (.cells _ _ _ _) [8,9,12] rfl kq rfl (.ao .aa) (eJ rfl eh (aN.agg _) gg dx) rfl kq rfl;apply XQ.pv (i:=7) rfl kq rfl (V.build (vs:= #[(0,.agg (WH.cF a)),(1,.agg (WH.cF z))]) rfl (v:=.agg (MT.cF ⟨a,z⟩)) fun _=>kq) rfl rfl;refine XQ.g (i:=8) rfl kq rfl (RG.build (e:=168) (vs:= #[(0,.agg (MT.cF ⟨a,z⟩))]) (m:=4) (A:=MT.cF ⟨a,z⟩) rfl (fun _=>kq) rfl) rfl (fun _ _ dZ=>⟨fun hs=>(hs 8 b8 rfl).elim,fun hs=>(hs 8 b8 rfl).elim,fun _=>fb (.t3 .aa) _ dZ,trivial⟩) ?_;intro bn _;refine XQ.g (i:=9) rfl kq rfl (RG.append (e:=168) (v:=⟨p,cap,k,l.length,c,C⟩) (N:=4) (m:=1) (sz:=4) hv rfl rfl Tryz.underlying164 EH (.t4 .aa) .aa rfl rfl og (by show l.length+1<=_;omega)) rfl (fun _ _ dZ=>⟨fun hs=>(hs 8 b8 rfl).elim,fun hs=>(hs 8 b8 rfl).elim,fun hs=>(hs 9 b8 rfl).elim,trivial⟩) ?_;intro u hu;obtain⟨W7,LA,hu3,hu4⟩:=hu;obtain⟨p2,wD,k2,Wu,c2,C2⟩:=u;have LA:Wu=l.length+1:=LA;subst LA;apply XQ.pv (i:=10) rfl kq rfl (bB rfl) rfl rfl;apply XQ.pv (i:=11) rfl kq rfl (V.fieldAddr rfl EG) rfl rfl;refine XQ.store (i:=12) rfl kq rfl rfl rfl (.t4 .aa) (DM _ _ _) rfl Wx (fun _ dZ=>⟨fun hs=>(hs 8 b8 rfl).elim,fun hs=>(hs 8 b8 rfl).elim,fun hs=>(hs 9 b8 rfl).elim,trivial⟩) ?_;apply XQ.done kq;apply gE;refine rq [0,1,2,3,4,5,6] mixed ?_;apply ld (.t4 .aa) (aK.B6 _ _);apply ld (.t2 .aa) (aN.EM _);refine ca (uU _ _ _ hI _) (pk [5,5,5]) ?_;rintro _ _ ⟨rfl,v1,Xg,pv1,cv1,rfl⟩;apply gO;refine rq [0,1,2,3,4,5,6] mixed ?_;have Pw:v1.toFF.Ok d (B+1):=by rw[Xg];exact hO.ea a.node
     apply ld (.t7 .aa) (aK.B6 _ _);apply ld (.t6 .aa) (aN.EM _);refine ca (uU _ _ v1 (Pw.sh og) _) (pz 3) ?_;rintro _ _ ⟨rfl,v2,W3,pv2,cv2,rfl⟩;apply gO;refine aM rfl rfl (ah (pk [7,3,0,0,0]) rfl ?_);have e:uB s.toFF l a z=0:=by unfold uB;rw[if_neg og,if_neg og,if_neg haz,if_neg (by rw[Bq fun j a b=>vH j a og];simp),if_neg og]
     have eL:(pA s.toFF l a z)=l++[⟨a,z⟩]:=by unfold pA;rw[if_pos e]
     have eF:rs s.toFF l a z=(s.toFF.ea a.node).ea z.node:=by unfold rs;rw[if_pos e]
     exact⟨by rw[e]<;>rfl,p2,wD,k2,c2,C2,v2,by rw[eL,List.length_append];exact W7,by rw[eL];exact hC.app ⟨a,z⟩ hu3 fun i hi=>(hu4 i hi).trans (acx _ i og),by rw[eF,W3,Xg],by rw[pv2,pv1],by rw[cv2,cv1],by rw[eL,List.length_append];rfl⟩
set_option maxHeartbeats 8000000 in def Wy(bt bf:Nat)(r:WH)(l:List MT)(p:Option Addr)(cap k c:Nat)(C:Nat->Value)(hv:RV.ok ⟨p,cap,k,l.length,c,C⟩)(hC:MC C l)(ND:l.length<=6)(s:FC)(d:Int->Nat)(B:Int)(hO:s.toFF.Ok d B)(hB:B<=900000)(z:WH):Spec Tryz.prog 215 [ay bt 0 0,.agg (WH.cF z)] [.cells bt 0 4 (aK bf r (.slice p l.length c)),aL p cap 168 4 k C,.cells bf 0 321 (aC s),.aQ au (FC.aX 9 s),.aQ au (FC.aY 3 s)] (fun v H1=>v=ax 102 (yU l z)/\∃ (p':Option Addr) (cU k' c':Nat) (C':Nat->Value) (u:FC),RV.ok ⟨p',cU,k',(nk l z).length,c',C'⟩/\MC C' (nk l z)/\u.toFF=qa s.toFF l z/\u.rP=s.rP/\u.rC=s.rC/\H1=[.cells bt 0 4 (aK bf r (.slice p' (nk l z).length c')),aL p' cU 168 4 k' C',.cells bf 0 321 (aC u),.aQ au (FC.aX 9 u),.aQ au (FC.aY 3 u)]):=by
 have iJ:=o5 hv;have iJ:l.length<=k:=iJ;have hI:=hO.sh og;refine Spec.go 57 [0,3,4,5,6,10,11,12,13,20] [] Tryz.func215 fun W=> ?_;refine XO.box (m:=2) (C:=aN (z)) rfl rfl (aN.box _) rfl ?_;intro bz;apply gO;apply ld (.ao .aa) (lj _ _);refine lp (σ:=Int) (fun i=>(l.length-i).toNat) (fun i=>(0<=i/\i<=l.length)/\∀ j:Int,0<=j->j<i->(qw l j).at_≠z) (fun i=>[(12,iI i),(0,ay bt 0 0),(3,ay bz 0 0),(10,.slice p l.length c),(11,iI l.length)]) (fun i=>XM W (bX [.cells bt 0 4 (aK bf r (.slice p l.length c)),aL p cap 168 4 k C,.cells bf 0 321 (aC s),.aQ au (FC.aX 9 s),.aQ au (FC.aY 3 s)]) [.cells bz 0 2 (aN z),.cells bt 0 4 (aK bf r (.slice p l.length c)),aL p cap 168 4 k C,.cells bf 0 321 (aC s),.aQ au (FC.aX 9 s),.aQ au (FC.aY 3 s)]) (0) ?_ S5 (xq (pz 6)) ?_
 ·grind
 intro i hi;obtain⟨⟨hi0,hi1⟩,vH⟩:=hi;apply gC;refine cd ?_ ?_<;>intro h1
 ·apply bP (.t2 .aa) og;intro g hg;subst hg;refine sd ?_;apply qJ (.t2 .aa) (hC.ld iJ _ og);apply XO.bG (z:=.agg (MT.cF MT.nil)) (m:=4) (C:=fG MT.nil) (fG.box _);intro bm;apply gO;apply fW .aa (fG.st _ _) rfl ⟨rfl,rfl⟩;apply lW .aa (fG.lW _);apply lW (.ao .aa) (aN.agg _);refine XO.v (ON rfl rfl Zu) rfl (gO ?_);refine cd ?_ ?_<;>intro h2
  ·refine rq [0,1,2,3,4,5,6,7,8,9,10,11,12,13,14,15,16,17,18] mixed ?_;apply qI (.t3 .aa);intro hkc;have hlc:l.length<=c:=by
    grind [RV.ok]
   apply ld (.t2 .aa) (lj _ _);refine XO.v (Tz (m:=i.toNat) rfl rfl rfl Tryz.underlying164 Lj og og) rfl (gO ?_);apply ld (.t2 .aa) (lj _ _);refine sd ?_;refine XO.v (Jh (m:=i.toNat+1) rfl rfl Tryz.underlying164 Lj og og hlc) rfl (gO ?_);apply XO.g (RG.cut (e:=168) (i:=i.toNat) (q:=c-(i.toNat+1)) hv og rfl rfl Tryz.underlying164 EH (.t3 .aa) og) rfl;intro u hu;obtain⟨W7,LA,hu3,hu4⟩:=hu;obtain⟨p2,wD,k2,Wu,c2,C2⟩:=u;have LA:Wu=l.length-1:=LA;subst LA;apply gO;apply st (.t3 .aa) (DM _ _ _) rfl;refine rq [0,1,2,3,4,5,6,7] mixed ?_;apply ld (.t3 .aa) (aK.B6 _ _);apply ld (.ao .aa) (xf _);refine ca (GY _ _ _ hI _) (pk [4,4,4]) ?_;rintro _ _ ⟨rfl,v1,Xg,pv1,cv1,rfl⟩;apply gO;refine rq [0,1,2,3,4,5,6,7] mixed ?_;have Pw:v1.toFF.Ok d (B+1):=by rw[Xg];exact hO.kQ (qw l i).at_.node
   apply ld (.t6 .aa) (aK.B6 _ _);apply ld (.t4 .aa) (xg _);refine ca (GY _ _ v1 (Pw.sh og) _) (pz 3) ?_;rintro _ _ ⟨rfl,v2,W3,pv2,cv2,rfl⟩;apply gO;refine aM rfl rfl (ah (pk [6,3,0,0,0]) rfl ?_);try dsimp only[aS,aR,bI,bN]
   have ei:=M0 (l:=l) ⟨hi0,og⟩ vH aq;have e:yU l z=0:=by unfold yU;rw[if_pos og]
   have eL:(nk l z)=l.eraseIdx i.toNat:=by unfold nk;rw[ei]
   have eF:qa s.toFF l z=(s.toFF.kQ (qw l i).at_.node).kQ (qw l i).to.node:=by unfold qa;rw[if_pos og,ei,show((i.toNat:Nat):Int)=i from og]
   have hle:(l.eraseIdx i.toNat).length=l.length-1:=List.length_eraseIdx_of_lt og;grind [MC.OB,ax]
  ·refine sd ?_;refine ag (i+1) ?_ ?_ S5 (xq (pk (rr 6 1 [])));all_goals grind
 ·refine aM rfl rfl (ah (pk [1,1,1,1,1]) rfl ?_);try dsimp only[aS,aR,bI,bN]
  have ei:=M1 (l:=l) (w:=z) fun j a b=>vH j a og;have e:yU l z=2:=by unfold yU;rw[if_neg og]
  grind [nk,List.eraseIdx_of_length_le,qa,ax]
end Go.X.Tr

namespace Go.X.Kn
open Go Go.Proofs Go.X Go.X.Fa Go.X.Gr Go.X.Tr Go.X.Vm
set_option maxRecDepth 20000
set_option maxHeartbeats 4000000
abbrev cV(a:KA)(b:KZ)(c:KC)(r:List aG):List aG:=
 (.cells b.kb 0 453 (aD (kp a b c)))::(.cells b.gb 0 60 (bD a.g))::(.cells b.sb 0 158 (Sp.aK a.s))::(.cells b.qb 0 2281 (aH c.q))::(.aQ bW (SC.dg 254 c.q))::(.cells b.bb 0 577 (dI b.vp a.v.ij a.v.rf))::(.cells b.vp 0 71 (Vm.bK a.v.bb.fe))::(.dG (iR a) c.mb 34 (cN b.bb a.f c.pp c.cc))::(.aQ (iR a) (rN 171 a.f c.pp c.cc))::(.cells b.tb 0 321 (aC c.F))::(.aQ au (FC.aX 9 c.F))::(.aQ au (FC.aY 3 c.F))::(dy c.rp c.rc 3 c.rl)::(.cells b.pi 0 24 (Tr.bK a.P))::(.cells b.ob 0 122 (aZ b.tb b.pi a.O))::(.dG (kz a) (fun z=>(c.t z).b) 4 (cT b.tb c.t))::(.aQ (kz a) (rT 168 c.t))::r
def adD(kb:Nat)(k:KP)(n:Int)(hn:0<=n/\n<20)(x:Int)(hx:0<=x):Spec Tryz.prog 67 [ay kb 0 (0+0+n.toNat*22),iI x] [.cells kb 0 453 (aD k)] (fun v H1=>v=iI (jS (k.u n).fd x)/\H1=[.cells kb 0 453 (aD k)]):=by
 refine Spec.go 19 [0,1,4,5,8,17] [] Tryz.func67 fun W=> ?_;refine lp (σ:=Int) (fun i=>(6-i).toNat) (fun i=>0<=i/\x<=i/\∀ j:Int,0<=j->x<=j->j<i->(k.u n).fd j≠0) (fun i=>[(5,iI i),(0,ay kb 0 (0+0+n.toNat*22))]) (fun i=>XM W (bX [.cells kb 0 453 (aD k)]) [.cells kb 0 453 (aD k)]) (x) ?_ S2 (xq .h1) ?_
 ·grind
 intro i hi;obtain⟨hi0,hxi,vH⟩:=hi;refine gC ?_;refine cd ?_ ?_<;>intro h1
 ·refine sd (ld .aa (uj _) ?_);refine cd ?_ ?_<;>intro h2
  ·refine bL .h1 ?_;grind [aS,aR,Ro]
  ·refine sd (ag (i+1) ?_ ?_ S2 (xq .h1));all_goals grind
 ·refine bL .h1 ?_;grind [aS,aR,bN,M2]
def adE(kb:Nat)(k:KP)(n i:Int)(hf:∀ n i,0<=(k.u n).fd i/\(k.u n).fd i<=24):Spec Tryz.prog 69 [ay kb 0 0,iI n,iI i] [.cells kb 0 453 (aD k)] (fun v H1=>v= .tuple #[iI (k.dD n i),ax 102 (k.eY n i)]/\H1=[.cells kb 0 453 (aD k)]):=by
 have hf1:=hf n i;refine Spec.go 41 [0,1,2,6,7,8,9,17,24,32] [] Tryz.func69 fun W=> ?_;refine ca (ek kb _ _) .h1 ?_;rintro _ _ ⟨⟨hl,rfl⟩ | ⟨hl,rfl⟩,rfl⟩
 ·obtain⟨jx,gn⟩:=bE hl;refine gO ?_;refine sp 21 rfl ?_ ?_<;>intro h1
  ·refine er .h1 ?_;grind [aS,aR,bN,KP.eY,KP.dD,ax]
  ·refine cd ?_ ?_<;>intro h2
   ·refine er .h1 ?_;grind [aS,aR,bN,KP.eY,KP.dD,ax]
   ·refine sd ?_;refine ld .aa (uj _) ?_;refine cd ?_ ?_<;>intro h3
    ·refine er .h1 ?_;grind [aS,aR,bN,KP.eY,KP.dD,ax]
    ·refine sd ?_;refine ld .aa (uj _) ?_;refine sd ?_;refine er .h1 ?_;grind [aS,aR,bN,KP.eY,KP.sF,ax]
 ·refine gO ?_;refine er .h1 ?_;grind [aS,aR,bN,KP.eY,KP.dD,ax]
set_option maxHeartbeats 16000000 in
def NG(a:KA)(b:KZ)(c:KC)(N:Nat)(T:Int)(hw:a.Wk T)(hc:cI a c N T)(hT:T<=900000)(n co:Int)(hl:(a.u n).st=1):Spec Tryz.prog 129 [ay b.kb 0 0,iI n,iI co] (cV a b c []) (fun v H1=>∃ c1:KC,cI (a.c9 n co) c1 N T/\H1=(cV (a.c9 n co) b c1 [])):=by
 have hn:0<=n/\n<20:=by
  by_cases e:n<0\/20<=n
  ·rw[hw.out n e]at hl;exact absurd hl dq
  omega
 have kX:=om a b c (n:=n);have hz:=hw.sys.mo n.toNat og;refine Spec.go 70 [0,1,2,6,7,9,10,37,38,39,43] [] Tryz.func129 fun W=> ?_;refine sd (XR.mono (fun _ bJ=>jR (z:=n.toNat) (fh hn) (pk [7,7]) bJ) ?_);refine ld (.t4 .aa) (dm _ og kX) ?_;refine ca (Le b.bb b.vp (c.mb n.toNat) a.v hw.sys.jJ.ok _ _ (a.f n.toNat) hz (hw.sys.In og) 0 16) (pk [9,9,0,0]) ?_;rintro _ _ ⟨rfl,pu,cu,rfl⟩;refine gO ?_;refine rq [0,1,2,3,4,5,6,7,8,9] mixed (ld (.t6 .aa) (eA _) (ld (.t6 .aa) (dw _) ?_));refine cq (nf _ _ a.g hw.gI.ok _ _ _ (1000*T) (by have:=hw.T0;omega) hw.gS) (pk [7]) ?_;refine lW (.t7 .aa) (sx _) ?_;refine lp (σ:=Int×FC) (fun x=>(6-x.1).toNat) (fun x=>(0<=x.1/\x.1<=6)/\x.2.toFF.Ok c.dF T/\x.2.rP=c.rp/\x.2.rC=c.rc/\x.2.roots=c.rl) (fun x=>[(38,iI x.1),(0,ay b.kb 0 0),(1,iI n),(2,iI co),(6,ay b.kb 0 (0+0+n.toNat*22)),(37,.agg (Sx (a.u n).fd))]) (fun x=>XM W (bX (cV a b c [])) [.cells b.kb 0 453 (aD ((kp a b c).put n {(kp a b c).u n with fd:=Fh (a.u n).fd x.1})),.cells b.gb 0 60 (bD (a.g.cR (a.u n).cB 0 (a.um n).1)),.cells b.sb 0 158 (Sp.aK a.s),.cells b.qb 0 2281 (aH c.q),.aQ bW (SC.dg 254 c.q),.cells b.bb 0 577 (dI b.vp (a.um n).2.2.1.ij (a.um n).2.2.1.rf),.cells b.vp 0 71 (Vm.bK (a.um n).2.2.1.bb.fe),.cells (c.mb n.toNat) 0 34 (b7 b.bb pu (Vm.ai (a.um n).2.2.2.az).length cu (a.um n).2.2.2.fr (a.um n).2.2.2.bH),aL pu cu 171 3 (Vm.ai (a.um n).2.2.2.az).length (fm (Vm.ai (a.um n).2.2.2.az)),.dG (ji (iR a) n.toNat) c.mb 34 (cN b.bb a.f c.pp c.cc),.aQ (ji (iR a) n.toNat) (rN 171 a.f c.pp c.cc),.cells b.tb 0 321 (aC x.2),.aQ au (FC.aX 9 x.2),.aQ au (FC.aY 3 x.2),dy c.rp c.rc 3 c.rl,.cells b.pi 0 24 (Tr.bK (DP (a.u n).fd a.O a.P x.1.toNat).2),.cells b.ob 0 122 (aZ b.tb b.pi (DP (a.u n).fd a.O a.P x.1.toNat).1),.dG (kz a) (fun z=>(c.t z).b) 4 (cT b.tb c.t),.aQ (kz a) (rT 168 c.t)]) ((0,c.F)) ?_ S6 (fun _ mw=>by rw[acE];exact XM.pick (pk (7::0::6::6::6::rr 14 0 [])) mw) ?_
 ·grind [cI.F,cI.rp,cI.rc,cI.rl]
 intro x hx;obtain⟨hi,hF,hFp,hFc,hFr⟩:=hx;have Y4:=hw.fd n x.1;refine gC ?_;refine cd ?_ ?_<;>intro h1
 ·refine XO.v (lJ rfl rfl Tryz.underlying83 ot lq) rfl (gO ?_);refine cd ?_ ?_<;>intro h2
  ·have h6:=h2;refine ld .aa (gN _) (sd ?_);refine ca (Pu _ _ _ _ _ T og (yY hw.OI hw.PI x.1.toNat).1 x.2 (hF.sh og) T og _ (yY hw.OI hw.PI x.1.toNat).2 ((a.u n).fd x.1-1)) (pk [16,11,11,11,12]) ?_;rintro _ _ ⟨rfl,F1,NH,Sy,Eu,rfl⟩;refine gO ?_;refine sd (st (.t5 .aa) (lM _ og og _) rfl (sd (ag ((x.1+1,F1)) ?_ ?_ S6 fun _ mw=>by show XM _ _ [_,_,_,_,_,_,_,_,_,_,_,_,_,_,_,.cells b.pi 0 24 (Tr.bK (DP (a.u n).fd a.O a.P (x.1+1).toNat).2),.cells b.ob 0 122 (aZ b.tb b.pi (DP (a.u n).fd a.O a.P (x.1+1).toNat).1),_,_] _;rw[YX _ _ hi.1 h6,<-acF a b c hi.1 h6];exact XM.pick (pk (rr 11 5 [1,1,1,2,1,0,0,0])) mw)))
   ·omega
   ·exact⟨(by show 0<=x.1+1/\x.1+1<=6;omega),(by show F1.toFF.Ok c.dF T;rw[NH];exact FF.Ok.uD hF _ _),Sy.trans hFp,Eu.trans hFc,(by show F1.toFF.roots=_;rw[NH,yQ];exact hFr)⟩
  ·have h6:=h2;refine sd (ag ((x.1+1,x.2)) ?_ ?_ S6 fun _ mw=>by show XM _ _ [.cells b.kb 0 453 (aD ((kp a b c).put n {(kp a b c).u n with fd:=Fh (a.u n).fd (x.1+1)})),_,_,_,_,_,_,_,_,_,_,_,_,_,_,.cells b.pi 0 24 (Tr.bK (DP (a.u n).fd a.O a.P (x.1+1).toNat).2),.cells b.ob 0 122 (aZ b.tb b.pi (DP (a.u n).fd a.O a.P (x.1+1).toNat).1),_,_] _;rw[Vk _ _ hi.1 h6,<-Vj _ h6];exact XM.pick (pz 19) mw);all_goals grind
 ·refine ld .aa (eB _) ?_;refine ca (Nr _ _ c.q c.d hc.qO.eG hc.qR n) (pk [3,3]) ?_;rintro _ _ ⟨rfl,t,ht,hr,rfl⟩;refine gO ?_;refine st (.t2 .aa) (J3 _ og _) rfl (st (.t2 .aa) (E9 _ og _) rfl (XR.mono (fun _ bJ=>mf (a.um n).2.2.2 (fh hn) (pk [7,7,7,7]) bJ) ?_));refine cY rfl (ah (pk (4::4::4::2::2::2::2::rr 10 0 [])) rfl ?_);have hx6:x.1=6:=og;refine⟨{c with q:=t,F:=x.2,pp:=bu c.pp n.toNat pu,cc:=bu c.cc n.toNat cu},⟨(by show t.toSF.Ok _ _ _;rw[ht];exact hc.qO.vY og _),hr,hF,hFp,hFc,hFr,hc.tb,hc.afz ht⟩,?_⟩;rw[hx6];try unfold cV
  rw[acG a b c hl hn,YY a hl];all_goals rfl
open Go.X.Sp
def Iv(a:KA)(b:KZ)(c:KC)(N:Nat)(T:Int)(hw:a.Wk T)(hc:cI a c N T)(hT:T<=900000)(n:Int)(hn:0<=n/\n<20)(hs:(a.u n).st≠0):Spec Tryz.prog 64 [ay b.kb 0 0,iI n] (cV a b c []) (fun v H1=>H1=(cV (a.fj n) b c [])):=by
 refine Spec.go 28 [0,1] [] Tryz.func64 fun W=> ?_;refine rq [0,1,2,3,4,5,6,7,8,9,10,11] mixed (ld .aa (eA _) (sd (ld .aa (dw _) ?_)));refine cq (nf _ _ a.g hw.gI.ok _ _ _ (1000*T) (by have:=hw.T0;omega) hw.gS) (pk [1]) ?_;apply ld (.ao .aa) (aD.uk _);refine cq (Y9 _ _ a.s a.aV hw.sI.D n (fun a1 b1 c1=>⟨(hw.sI.loc n).2,hw.sI.at_ n a1 b1 c1⟩) fun a1 m q e=>by have h9:=hw.sI.mem m q n a1 e;exact⟨h9.2.2.2.2,og,h9.2.2.1⟩) (pk [2]) ?_;refine XO.v (V.build (vs:= #[]) rfl (v:=.agg PU.nil.cF) fun _=>kq) rfl (gO ?_);refine sd (fW (.t2 .aa) (aD.Dm _ og PU.nil) rfl ⟨rfl,rfl⟩ (XR.mono (fun _ bJ=>jR (z:=n.toNat) (fh hn hs) (pk [7,7]) bJ) ?_));refine cY rfl (ah (pk (6::5::4::4::4::4::4::rr 10 2 [])) rfl ?_);try unfold cV
 rw[YZ,Vn a hn,Vl];rfl
def Zz(a:KA)(b:KZ)(c:KC)(N:Nat)(T:Int)(hw:a.Wk T)(hc:cI a c N T)(hT:T<=900000)(z:Int)(hd:(a.s.drop z).1=0)(hz:0<=z/\z<6)(hh:a.s.aa z=true)(hs:(a.s.drop z).2= {a.s with aa:=ad a.s.aa z false,aA:=ad a.s.aA z 0}):Spec Tryz.prog 65 [ay b.kb 0 0,iI z] (cV a b c []) (fun v H1=>∃ c1:KC,cI (a.fL z) c1 N T/\H1=(cV (a.fL z) b c1 [])):=by
 have iG:=hc.tb z hz.1 hz.2 hh;refine Spec.go 23 [0,1,10] [] Tryz.func65 fun W=> ?_;apply ld .aa (aD.uk _);refine cq (VQ _ _ a.s z) (pk [2]) ?_;refine XF rfl (hd) (XR.mono (fun _ bJ=>gT (z:=z.toNat) (dY hz hh) (pk [15,15]) bJ) ?_);refine sd (ld (.t5 .aa) (sG _ hz (Vp a b c hh)) ?_);refine ca (Px _ _ _ _ _ _ _ _ _ iG.rv iG.mc iG.len c.F c.dF T hc.F hT) (pk [0,0,11,11,11]) ?_;rintro _ _ ⟨rfl,F1,NH,Pw,Sy,Eu,rfl⟩;apply gO;refine sd (st (.t8 .aa) (uo _ hz _) rfl (cY rfl (ah (pk [8,8,7,7,7,7,7,7,7,2,2,2,4,4,4,2,2]) rfl ?_)));try dsimp only[aS,aR,bI,bN]
 refine⟨{c with F:=F1},⟨hc.qO,hc.qR,(by show F1.toFF.Ok _ _;rw[NH];exact FF.Ok.YV hc.F _ _),Sy.trans hc.rp,Eu.trans hc.rc,(by show F1.toFF.roots=_;rw[NH,sY];exact hc.rl),fun y h0 h1 h2=>hc.tb y h0 h1 (H3 h2),hc.tk⟩,?_⟩;try unfold cV
 rw[Y0 a b c hs,Vo hz hs];rfl
def ZA(a:KA)(b:KZ)(c:KC)(N:Nat)(T:Int)(hw:a.Wk T)(hc:cI a c N T)(hT:T<=900000)(z:Int)(hd:(a.s.drop z).1≠0)(hs:(a.s.drop z).2=a.s):Spec Tryz.prog 65 [ay b.kb 0 0,iI z] (cV a b c []) (fun v H1=>∃ c1:KC,cI (a.fL z) c1 N T/\H1=(cV (a.fL z) b c1 [])):=by
 refine Spec.go 23 [0,1,10] [] Tryz.func65 fun W=> ?_;apply ld .aa (aD.uk _);refine cq (VQ _ _ a.s z) (pk [2]) ?_;refine Hb rfl (hd) (cY rfl (ah (pk (1::1::rr 15 0 [])) rfl ?_));have e:a.fL z=a:=by unfold KA.fL;rw[hs]
 rw[e,hs];exact⟨c,hc,rfl⟩
def Py(a:KA)(b:KZ)(c:KC)(N:Nat)(T:Int)(hw:a.Wk T)(hc:cI a c N T)(hT:T<=900000)(z:Int):Spec Tryz.prog 65 [ay b.kb 0 0,iI z] (cV a b c []) (fun v H1=>∃ c1:KC,cI (a.fL z) c1 N T/\H1=(cV (a.fL z) b c1 [])):=by
 rcases SS.xo a.s z with⟨hd,hs⟩ | ⟨hd,hz,hz0,hh,hs,_,_⟩
 ·exact ZA a b c N T hw hc hT z hd hs
 ·exact Zz a b c N T hw hc hT z hd hz hh hs
set_option maxHeartbeats 16000000 in
def Wz(a:KA)(b:KZ)(c:KC)(N:Nat)(T:Int)(hw:a.Wk T)(hc:cI a c N T)(hT:T<=900000)(z h:Int):Spec Tryz.prog 130 [ay b.kb 0 0,iI z,iI h] (cV a b c []) (fun v H1=>∃ c1:KC,cI (a.ed z h) c1 N T/\H1=(cV (a.ed z h) b c1 [])):=by
 refine Spec.go 62 [0,2,6,9,11,21,22,23,24,29,37,45,46,51,52,53,54] [] Tryz.func130 fun W=> ?_;refine ld .aa (aD.uk _) ?_;refine ca (RL _ _ a.s z) (pk [2]) ?_;rintro _ _ ⟨p0,agd,rfl,rfl⟩;have hlen:(a.s.mem z).1.length<=21:=Sp.SS.Yg _ _;refine gO ?_;refine lp (σ:=Int×KA×KC) (fun x=>((a.s.mem z).1.length-x.1).toNat) (fun x=>(0<=x.1/\x.1<=(a.s.mem z).1.length)/\x.2.1=(((a.s.mem z).1.take x.1.toNat).foldl (KA.gR h) a)/\x.2.1.Wk T/\cI x.2.1 x.2.2 N T) (fun x=>[(23,iI x.1),(0,ay b.kb 0 0),(2,iI h),(21,.slice p0 (a.s.mem z).1.length agd),(22,iI (a.s.mem z).1.length)]) (fun x=>XM W (bX (cV a b c [])) [dy p0 agd 3 (a.s.mem z).1,.cells b.kb 0 453 (aD (kp x.2.1 b x.2.2)),.cells b.gb 0 60 (bD x.2.1.g),.cells b.sb 0 158 (Sp.aK x.2.1.s),.cells b.qb 0 2281 (aH x.2.2.q),.aQ bW (SC.dg 254 x.2.2.q),.cells b.bb 0 577 (dI b.vp x.2.1.v.ij x.2.1.v.rf),.cells b.vp 0 71 (Vm.bK x.2.1.v.bb.fe),.dG (iR x.2.1) x.2.2.mb 34 (cN b.bb x.2.1.f x.2.2.pp x.2.2.cc),.aQ (iR x.2.1) (rN 171 x.2.1.f x.2.2.pp x.2.2.cc),.cells b.tb 0 321 (aC x.2.2.F),.aQ au (FC.aX 9 x.2.2.F),.aQ au (FC.aY 3 x.2.2.F),dy x.2.2.rp x.2.2.rc 3 x.2.2.rl,.cells b.pi 0 24 (Tr.bK x.2.1.P),.cells b.ob 0 122 (aZ b.tb b.pi x.2.1.O),.dG (kz x.2.1) (fun z=>(x.2.2.t z).b) 4 (cT b.tb x.2.2.t),.aQ (kz x.2.1) (rT 168 x.2.2.t)]) ((0,a,c)) ?_ S5 (xq (pk (0::1::1::rr 15 0 []))) ?_
 ·simp_all
 intro x hx;obtain⟨hi,hga,hgw,hcx⟩:=hx;refine gC ?_;refine cd ?_ ?_<;>intro h1
 ·refine bP .aa og ?_;intro g1 h2;subst h2;refine sd (zC .aa (ints_at) ?_);have hm9:=hw.DR z (Vm.se (l:=(a.s.mem z).1) (i:=x.1) og);have hm:=hm9.1;have hms:(x.2.1.u (gh (a.s.mem z).1 x.1)).st≠0:=by rw[hga,Gq a h (Vr (yX hw.sI z) og)];exact hm9.2
  refine cd ?_ ?_<;>intro h3
  ·have s8:KA.gR h x.2.1 (gh (a.s.mem z).1 x.1)=x.2.1:=if_pos h3;refine sd (ag ((x.1+1,x.2.1,x.2.2)) ?_ ?_ S5 (xq (pz 18)));all_goals grind [vw]
  ·have hnh:=h3;refine sd (ld (.ao .aa) (gB _) ?_);refine cd ?_ ?_<;>intro h4
   ·have s8:KA.gR h x.2.1 (gh (a.s.mem z).1 x.1)=(x.2.1.c9 (gh (a.s.mem z).1 x.1) 0).fj (gh (a.s.mem z).1 x.1):=by unfold KA.gR;rw[if_neg hnh,if_pos (show(x.2.1.u (gh (a.s.mem z).1 x.1)).st=1 from h4)]
    refine ca (NG x.2.1 b x.2.2 N T hgw hcx hT (gh (a.s.mem z).1 x.1) 0 aq) (pk (rr 17 1 [])) ?_;rintro _ _ ⟨c1,fZ,rfl⟩;refine gO ?_;refine ca (Iv (x.2.1.c9 (gh (a.s.mem z).1 x.1) 0) b c1 N T (hgw.c9 hm aq 0) fZ hT (gh (a.s.mem z).1 x.1) hm (by rw[nm];decide)) (pz 17) ?_;rintro _ _ rfl;refine gO ?_;refine sd (ag ((x.1+1,(x.2.1.c9 (gh (a.s.mem z).1 x.1) 0).fj (gh (a.s.mem z).1 x.1),c1)) ?_ ?_ S5 (xq (pk (17::rr 17 0 []))))
    ·omega
    ·exact⟨(by show 0<=x.1+1/\x.1+1<=_;omega),(by rw[vw og,M3,<-hga,s8]),(hgw.c9 hm aq 0).fj hm (by rw[nm];decide),fZ.Vs (by rw[nm];decide)⟩
   ·have hn1:(x.2.1.u (gh (a.s.mem z).1 x.1)).st≠1:=h4;have s8:KA.gR h x.2.1 (gh (a.s.mem z).1 x.1)=x.2.1.fj (gh (a.s.mem z).1 x.1):=by unfold KA.gR;rw[if_neg hnh,if_neg hn1]
    refine ca (Iv x.2.1 b x.2.2 N T hgw hcx hT (gh (a.s.mem z).1 x.1) hm aq) (pk (rr 17 1 [])) ?_;rintro _ _ rfl;refine gO ?_;refine sd (ag ((x.1+1,x.2.1.fj (gh (a.s.mem z).1 x.1),x.2.2)) ?_ ?_ S5 (xq (pk (17::rr 17 0 []))));all_goals grind [vw,KA.Wk.fj,cI.Vs]
 ·refine lp (σ:=Int×KA×KC) (fun x=>(4-x.1).toNat) (fun x=>(0<=x.1/\x.1<=4)/\x.2.1=((a.fU z h).fY x.1.toNat)/\x.2.1.Wk T/\cI x.2.1 x.2.2 N T) (fun x=>[(45,iI x.1),(0,ay b.kb 0 0)]) (fun x=>XM W (bX (cV a b c [])) (cV x.2.1 b x.2.2 [])) ((0,x.2.1,x.2.2)) ?_ S2 (xq (pk (rr 17 1 []))) ?_
  ·exact⟨sq,(by rw[hga,List.take_of_length_le og];rfl),hgw,hcx⟩
  intro x hx;obtain⟨hi,hga,hgw,hcx⟩:=hx;refine gC ?_;refine cd ?_ ?_<;>intro h5
  ·refine ld .aa (aD.uk _) ?_;refine ca (afK _ _ x.2.1.s) (pk [2]) ?_;rintro _ _ ⟨p1,age,rfl,rfl⟩;have akf:=Sp.kg x.2.1.s.aa 6;refine gO ?_;refine lp (σ:=Int×KA×KC) (fun y=>((Sp.fM x.2.1.s.aa 6).length-y.1).toNat) (fun y=>(0<=y.1/\y.1<=(Sp.fM x.2.1.s.aa 6).length)/\y.2.1=(((Sp.fM x.2.1.s.aa 6).take y.1.toNat).foldl KA.fL x.2.1)/\y.2.1.Wk T/\cI y.2.1 y.2.2 N T) (fun y=>[(53,iI y.1),(0,ay b.kb 0 0),(45,iI x.1),(51,.slice p1 (Sp.fM x.2.1.s.aa 6).length age),(52,iI (Sp.fM x.2.1.s.aa 6).length)]) (fun y=>XM W (bX (cV a b c [])) [dy p1 age 3 (Sp.fM x.2.1.s.aa 6),.cells b.kb 0 453 (aD (kp y.2.1 b y.2.2)),.cells b.gb 0 60 (bD y.2.1.g),.cells b.sb 0 158 (Sp.aK y.2.1.s),.cells b.qb 0 2281 (aH y.2.2.q),.aQ bW (SC.dg 254 y.2.2.q),.cells b.bb 0 577 (dI b.vp y.2.1.v.ij y.2.1.v.rf),.cells b.vp 0 71 (Vm.bK y.2.1.v.bb.fe),.dG (iR y.2.1) y.2.2.mb 34 (cN b.bb y.2.1.f y.2.2.pp y.2.2.cc),.aQ (iR y.2.1) (rN 171 y.2.1.f y.2.2.pp y.2.2.cc),.cells b.tb 0 321 (aC y.2.2.F),.aQ au (FC.aX 9 y.2.2.F),.aQ au (FC.aY 3 y.2.2.F),dy y.2.2.rp y.2.2.rc 3 y.2.2.rl,.cells b.pi 0 24 (Tr.bK y.2.1.P),.cells b.ob 0 122 (aZ b.tb b.pi y.2.1.O),.dG (kz y.2.1) (fun z=>(y.2.2.t z).b) 4 (cT b.tb y.2.2.t),.aQ (kz y.2.1) (rT 168 y.2.2.t)]) ((0,x.2.1,x.2.2)) ?_ S5 (xq (pk (0::1::1::rr 15 0 []))) ?_
   ·simp_all
   intro y hy;obtain⟨hj,aiG,hgy,hcy⟩:=hy;refine gC ?_;refine cd ?_ ?_<;>intro h6
   ·refine bP .aa og ?_;intro g2 h7;subst h7;refine sd (zC .aa (ints_at) ?_);refine ca (Py y.2.1 b y.2.2 N T hgy hcy hT _) (pk (rr 17 1 [])) ?_;rintro _ _ ⟨c1,fZ,rfl⟩;refine gO ?_;refine sd (ag ((y.1+1,y.2.1.fL (gh (Sp.fM x.2.1.s.aa 6) y.1),c1)) ?_ ?_ S5 (xq (pk (17::rr 17 0 []))));all_goals grind [vw,KA.Wk.fL]
   ·refine sd (ag ((x.1+1,y.2.1,y.2.2)) ?_ ?_ S2 (xq (pk (rr 17 1 []))))
    ·omega
    ·exact⟨(by show 0<=x.1+1/\x.1+1<=4;omega),(by show y.2.1=_;rw[DS _ hi.1,<-hga,aiG,List.take_of_length_le og];rfl),hgy,hcy⟩
  ·refine cY rfl (ah (pz 17) rfl ?_);grind [KA.ed]
end Go.X.Kn

namespace Go.X.Kn
open Go Go.Proofs Go.X Go.X.Sg
set_option maxRecDepth 20000
set_option maxHeartbeats 4000000
def RY(kb:Nat)(k:KP)(s:Sp.SS)(n:Int)(hn:0<=n/\n<20)(hz:(k.u n).bx.dX 0=false)(o:Bool)(he:(k.u n).bx.first 0=0):Spec Tryz.prog 74 [ay kb 0 0,iI n,.bool o] [.cells kb 0 453 (aD k),.cells k.sb 0 158 (Sp.aK s),.ro 0 0 32 dp] (fun v H1=>H1=[.cells kb 0 453 (aD k),.cells k.sb 0 158 (Sp.aK s)]):=by
 refine Spec.go 36 [0,1,2,6,7,30] [] Tryz.func74 fun W=> ?_;refine XR.mono (fun _ bJ=>kn (n:=n) og .h1 bJ) ?_;refine sd ?_;refine IE 1 (Em kb (0+jV n) _ hz) (pk [0,3]) rfl ?_;refine XR.mono (fun _ bJ=>nD (n:=n) og (pk [0,1,1]) bJ) ?_;refine spF 19 rfl og (cY rfl (ah (pk [0,1]) rfl ?_));rfl
def RZ(kb:Nat)(k:KP)(s:Sp.SS)(n:Int)(hn:0<=n/\n<20)(hz:(k.u n).bx.dX 0=false)(he:¬(k.u n).bx.first 0=0)(hh:(s.find (s.bS n).1 1).1=n):Spec Tryz.prog 74 [ay kb 0 0,iI n,.bool false] [.cells kb 0 453 (aD k),.cells k.sb 0 158 (Sp.aK s),.ro 0 0 32 dp] (fun v H1=>H1=[.cells kb 0 453 (aD k),.cells k.sb 0 158 (Sp.aK s)]):=by
 refine Spec.go 36 [0,1,2,6,7,30] [] Tryz.func74 fun W=> ?_;refine XR.mono (fun _ bJ=>kn (n:=n) og .h1 bJ) ?_;refine sd ?_;refine IE 1 (Em kb (0+jV n) _ hz) (pk [0,3]) rfl ?_;refine XR.mono (fun _ bJ=>nD (n:=n) og (pk [0,1,1]) bJ) ?_;refine spT 19 rfl og ?_;refine cq (jT kb k s n) (pk [0,1]) ?_;refine cq (AP kb k s _) (pz 2) ?_;refine Hb rfl og (cY rfl (ah (pz 2) rfl ?_));rfl
def R1(kb:Nat)(k:KP)(s:Sp.SS)(n:Int)(hn:0<=n/\n<20)(hz:(k.u n).bx.dX 0=false)(o:Bool)(hq:(k.u n).bx.first 0=0\/(o=false/\(s.find (s.bS n).1 1).1=n)):Spec Tryz.prog 74 [ay kb 0 0,iI n,.bool o] [.cells kb 0 453 (aD k),.cells k.sb 0 158 (Sp.aK s),.ro 0 0 32 dp] (fun v H1=>H1=[.cells kb 0 453 (aD k),.cells k.sb 0 158 (Sp.aK s)]):=by
 by_cases he:(k.u n).bx.first 0=0
 ·exact RY kb k s n hn hz o he
 ·obtain⟨ho,hh⟩:=hq.resolve_left he;subst ho;exact RZ kb k s n hn hz he hh
def PC(kb:Nat)(k:KP)(s:Sp.SS)(n sig:Int)(o:Bool)(hz:k.aB n=0->(k.u n).bx.dX 0=false)(hq:k.aB n=0->(((k.u n).bx.send sig).2.first 0=0\/(o=false/\(s.find (s.bS n).1 1).1=n))):Spec Tryz.prog 71 [ay kb 0 0,iI n,iI sig,.bool o] [.cells kb 0 453 (aD k),.cells k.sb 0 158 (Sp.aK s),.ro 0 0 32 dp] (fun v H1=>H1=[.cells kb 0 453 (aD (if k.aB n=0 then k.box n ((k.u n).bx.send sig).2 else k)),.cells k.sb 0 158 (Sp.aK s)]):=by
 refine Spec.go 27 [0,1,2,3,8,9,17] [] Tryz.func71 fun W=> ?_;refine ca (ek kb _ _) .h1 ?_;rintro _ _ ⟨⟨hl,rfl⟩ | ⟨hl,rfl⟩,rfl⟩
 ·obtain⟨jx,gn⟩:=bE hl;refine gO ?_;refine XR.mono (fun _ bJ=>kn (n:=n) og .h1 bJ) ?_;refine cq (VU kb (0+jV n) _ sig) .h1 ?_;refine XR.mono (fun _ bJ=>mU (n:=n) og (pz 3) bJ) ?_;refine xK 2 (R1 kb (k.box n ((k.u n).bx.send sig).2) s n jx (by unfold KP.box;rw[KP.sW];exact pC _ _ (hz hl)) o (by unfold KP.box;rw[KP.sW];exact hq hl)) (pz 3) rfl ?_;rintro _ _ rfl;refine gO ?_;refine cY rfl (ah (pz 2) rfl ?_);rw[if_pos hl];rfl
 ·refine gO ?_;refine rt0 (pz 2) ?_;simp_all
open Go.X.Fa Go.X.Gr Go.X.Tr Go.X.Vm
attribute [local irreducible] KA.ed
theorem PD(a:KA)(b:KZ)(c:KC)(p:Int):((cV (a.jW p) b c []):List aG)=[.cells b.kb 0 453 (aD (if(kp a b c).aB p=0 then(kp a b c).box p (((kp a b c).u p).bx.send 3).2 else kp a b c)),.cells b.gb 0 60 (bD a.g),.cells b.sb 0 158 (Sp.aK a.s),.cells b.qb 0 2281 (aH c.q),.aQ bW (SC.dg 254 c.q),.cells b.bb 0 577 (dI b.vp a.v.ij a.v.rf),.cells b.vp 0 71 (Vm.bK a.v.bb.fe),.dG (iR a) c.mb 34 (cN b.bb a.f c.pp c.cc),.aQ (iR a) (rN 171 a.f c.pp c.cc),.cells b.tb 0 321 (aC c.F),.aQ au (FC.aX 9 c.F),.aQ au (FC.aY 3 c.F),dy c.rp c.rc 3 c.rl,.cells b.pi 0 24 (Tr.bK a.P),.cells b.ob 0 122 (aZ b.tb b.pi a.O),.dG (kz a) (fun z=>(c.t z).b) 4 (cT b.tb c.t),.aQ (kz a) (rT 168 c.t)]:=by
 have e:kp (a.jW p) b c=(if(kp a b c).aB p=0 then(kp a b c).box p (((kp a b c).u p).bx.send 3).2 else kp a b c):=(acH a b c p).symm;try unfold cV
 rw[e,Y2];by_cases h:a.aB p=0
 ·have h2:a.jW p=a.jM p ((a.u p).bx.send 3).2:=if_pos h;rw[h2];rfl
 grind [KA.jW]
set_option maxHeartbeats 16000000 in
def ZB(a:KA)(b:KZ)(c:KC)(N:Nat)(T:Int)(hw:a.Wk T)(hc:cI a c N T)(hT:T<=900000)(n co:Int)(hl:(a.u n).st=1)(hx:a.Hx n)(hh:a.head n≠n):Spec Tryz.prog 63 [ay b.kb 0 0,iI n,iI co] (cV a b c [.ro 0 0 32 dp]) (fun v H1=>∃ c2:KC,cI (a.dt n co) c2 N T/\H1=(cV (a.dt n co) b c2 [])):=by
 have hn:0<=n/\n<20:=by
  by_cases e:n<0\/20<=n
  ·rw[hw.out n e]at hl;exact absurd hl dq
  omega
 have IU:=hw.c9 hn hl co;have ZC:a.gZ n co=(a.c9 n co):=by unfold KA.gZ;rw[if_neg hh]
 have bJ:((a.c9 n co).dN n (a.head n)).Wk T:=by rw[<-ZC];exact(hw.gZ hn hl co).dN _ _
 have Xd:((a.c9 n co).dN n (a.head n)).Hx n:=by rw[<-ZC];exact(hx.gZ co).dN _ _
 have adF:(((a.c9 n co).dN n (a.head n)).u n).st≠1:=by rw[<-ZC,(dS _ _ _ _).1];exact DU a n co
 refine Spec.go 65 [0,1,2,6,7,8,21,26,27,47] [] Tryz.func63 fun W=> ?_;refine cq (jT b.kb (kp a b c) a.s n) (pk [0,1]) ?_;refine cq (AP b.kb (kp a b c) a.s _) (pz 2) ?_;refine ca (NG a b c N T hw hc hT n co hl) (pk (0::1::rr 15 0 [])) ?_;rintro _ _ ⟨c2,BA,rfl⟩;refine gO ?_;refine Hb rfl (hh) ?_;refine lp (σ:=Int) (fun i=>(20-i).toNat) (fun i=>0<=i/\i<=20) (fun i=>[(26,iI i),(0,ay b.kb 0 0),(1,iI n),(7,iI (a.head n))]) (fun i=>XM W (bX (cV a b c [.ro 0 0 32 dp])) [.cells b.kb 0 453 (aD ((kp (a.c9 n co) b c2).kL n (a.head n) i)),.cells b.gb 0 60 (bD (a.c9 n co).g),.cells b.sb 0 158 (Sp.aK (a.c9 n co).s),.cells b.qb 0 2281 (aH c2.q),.aQ bW (SC.dg 254 c2.q),.cells b.bb 0 577 (dI b.vp (a.c9 n co).v.ij (a.c9 n co).v.rf),.cells b.vp 0 71 (Vm.bK (a.c9 n co).v.bb.fe),.dG (iR (a.c9 n co)) c2.mb 34 (cN b.bb (a.c9 n co).f c2.pp c2.cc),.aQ (iR (a.c9 n co)) (rN 171 (a.c9 n co).f c2.pp c2.cc),.cells b.tb 0 321 (aC c2.F),.aQ au (FC.aX 9 c2.F),.aQ au (FC.aY 3 c2.F),dy c2.rp c2.rc 3 c2.rl,.cells b.pi 0 24 (Tr.bK (a.c9 n co).P),.cells b.ob 0 122 (aZ b.tb b.pi (a.c9 n co).O),.dG (kz (a.c9 n co)) (fun z=>(c2.t z).b) 4 (cT b.tb c2.t),.aQ (kz (a.c9 n co)) (rT 168 c2.t),.ro 0 0 32 dp]) (0) ?_ S4 (fun _ mw=>by rw[wh];exact XM.pick (pz 18) mw) ?_
 ·omega
 intro i hi;refine gC ?_;refine cd ?_ ?_<;>intro h1
 ·refine sd (ld .aa (gB _) ?_);refine sp 37 rfl ?_ ?_<;>intro h2
  ·rw[jg _ _ _ (Int.le_refl _)]at h2;have h81:=h2;refine sd (ld .aa (me _) ?_);refine cd ?_ ?_<;>intro h3
   ·rw[jg _ _ _ (Int.le_refl _)]at h3;have h82:=h3;refine sd (st .aa (yz _ og _) rfl (sd (ag (i+1) ?_ ?_ S4 fun _ mw=>by rw[<-KP.Gb _ _ _ hi.1 h81 h82];exact XM.pick (pz 18) mw)));all_goals omega
   ·rw[jg _ _ _ (Int.le_refl _)]at h3;have h82:=h3;refine sd (ag (i+1) ?_ ?_ S4 fun _ mw=>by rw[nj _ _ _ fun c=>h82 c.2];exact XM.pick (pz 18) mw);all_goals omega
  ·rw[jg _ _ _ (Int.le_refl _)]at h2;have h81:=h2;refine sd (ag (i+1) ?_ ?_ S4 fun _ mw=>by rw[nj _ _ _ fun c=>h81 c.1];exact XM.pick (pz 18) mw);all_goals omega
 ·have adI:i=20:=og;subst adI;try unfold cV
  rw[KI];refine sd (ld .aa (me _) ?_);refine xK 2 (PC b.kb (kp ((a.c9 n co).dN n (a.head n)) b c2) (a.c9 n co).s ((((a.c9 n co).dN n (a.head n)).u n).aA) 3 false (fun q=>bJ.bx _) fun q=>Gu bJ Xd adF q) (pk [0,1,15]) rfl ?_;rintro _ _ rfl;refine gO ?_;refine cY rfl (ah (pk (0::2::0::rr 14 1 [])) rfl ?_);have hA:a.dt n co=((a.c9 n co).dN n (a.head n)).jW (((a.c9 n co).dN n (a.head n)).u n).aA:=by unfold KA.dt;rw[ZC]
  rw[hA];refine⟨c2,BA.gF _ _ _,?_⟩;change _=cV (KA.jW _ _) _ _ [];rw[PD,Gt,Gv];rfl
set_option maxHeartbeats 16000000 in
def ZD(a:KA)(b:KZ)(c:KC)(N:Nat)(T:Int)(hw:a.Wk T)(hc:cI a c N T)(hT:T<=900000)(n co:Int)(hl:(a.u n).st=1)(hx:a.Hx n)(hh:a.head n=n):Spec Tryz.prog 63 [ay b.kb 0 0,iI n,iI co] (cV a b c [.ro 0 0 32 dp]) (fun v H1=>∃ c2:KC,cI (a.dt n co) c2 N T/\H1=(cV (a.dt n co) b c2 [])):=by
 have hn:0<=n/\n<20:=by
  by_cases e:n<0\/20<=n
  ·rw[hw.out n e]at hl;exact absurd hl dq
  omega
 have IU:=hw.c9 hn hl co;have ZC:a.gZ n co=((a.c9 n co).ed (a.s.bS n).1 n):=by unfold KA.gZ;rw[if_pos hh]
 have bJ:(((a.c9 n co).ed (a.s.bS n).1 n).dN n (a.head n)).Wk T:=by rw[<-ZC];exact(hw.gZ hn hl co).dN _ _
 have Xd:(((a.c9 n co).ed (a.s.bS n).1 n).dN n (a.head n)).Hx n:=by rw[<-ZC];exact(hx.gZ co).dN _ _
 have adF:((((a.c9 n co).ed (a.s.bS n).1 n).dN n (a.head n)).u n).st≠1:=by rw[<-ZC,(dS _ _ _ _).1];exact DU a n co
 refine Spec.go 65 [0,1,2,6,7,8,21,26,27,47] [] Tryz.func63 fun W=> ?_;refine cq (jT b.kb (kp a b c) a.s n) (pk [0,1]) ?_;refine cq (AP b.kb (kp a b c) a.s _) (pz 2) ?_;refine ca (NG a b c N T hw hc hT n co hl) (pk (0::1::rr 15 0 [])) ?_;rintro _ _ ⟨c1,fZ,rfl⟩;refine gO ?_;refine XF rfl (hh) ?_;refine ca (Wz (a.c9 n co) b c1 N T IU fZ hT _ n) (pz 17) ?_;rintro _ _ ⟨c2,BA,rfl⟩;refine gO ?_;refine lp (σ:=Int) (fun i=>(20-i).toNat) (fun i=>0<=i/\i<=20) (fun i=>[(26,iI i),(0,ay b.kb 0 0),(1,iI n),(7,iI (a.head n))]) (fun i=>XM W (bX (cV a b c [.ro 0 0 32 dp])) [.cells b.kb 0 453 (aD ((kp ((a.c9 n co).ed (a.s.bS n).1 n) b c2).kL n (a.head n) i)),.cells b.gb 0 60 (bD ((a.c9 n co).ed (a.s.bS n).1 n).g),.cells b.sb 0 158 (Sp.aK ((a.c9 n co).ed (a.s.bS n).1 n).s),.cells b.qb 0 2281 (aH c2.q),.aQ bW (SC.dg 254 c2.q),.cells b.bb 0 577 (dI b.vp ((a.c9 n co).ed (a.s.bS n).1 n).v.ij ((a.c9 n co).ed (a.s.bS n).1 n).v.rf),.cells b.vp 0 71 (Vm.bK ((a.c9 n co).ed (a.s.bS n).1 n).v.bb.fe),.dG (iR ((a.c9 n co).ed (a.s.bS n).1 n)) c2.mb 34 (cN b.bb ((a.c9 n co).ed (a.s.bS n).1 n).f c2.pp c2.cc),.aQ (iR ((a.c9 n co).ed (a.s.bS n).1 n)) (rN 171 ((a.c9 n co).ed (a.s.bS n).1 n).f c2.pp c2.cc),.cells b.tb 0 321 (aC c2.F),.aQ au (FC.aX 9 c2.F),.aQ au (FC.aY 3 c2.F),dy c2.rp c2.rc 3 c2.rl,.cells b.pi 0 24 (Tr.bK ((a.c9 n co).ed (a.s.bS n).1 n).P),.cells b.ob 0 122 (aZ b.tb b.pi ((a.c9 n co).ed (a.s.bS n).1 n).O),.dG (kz ((a.c9 n co).ed (a.s.bS n).1 n)) (fun z=>(c2.t z).b) 4 (cT b.tb c2.t),.aQ (kz ((a.c9 n co).ed (a.s.bS n).1 n)) (rT 168 c2.t),.ro 0 0 32 dp]) (0) ?_ S4 (fun _ mw=>by rw[wh];exact XM.pick (pz 18) mw) ?_
 ·omega
 intro i hi;refine gC ?_;refine cd ?_ ?_<;>intro h1
 ·refine sd (ld .aa (gB _) ?_);refine sp 37 rfl ?_ ?_<;>intro h2
  ·rw[jg _ _ _ (Int.le_refl _)]at h2;have h81:=h2;refine sd (ld .aa (me _) ?_);refine cd ?_ ?_<;>intro h3
   ·rw[jg _ _ _ (Int.le_refl _)]at h3;have h82:=h3;refine sd (st .aa (yz _ og _) rfl (sd (ag (i+1) ?_ ?_ S4 fun _ mw=>by rw[<-KP.Gb _ _ _ hi.1 h81 h82];exact XM.pick (pz 18) mw)));all_goals omega
   ·rw[jg _ _ _ (Int.le_refl _)]at h3;have h82:=h3;refine sd (ag (i+1) ?_ ?_ S4 fun _ mw=>by rw[nj _ _ _ fun c=>h82 c.2];exact XM.pick (pz 18) mw);all_goals omega
  ·rw[jg _ _ _ (Int.le_refl _)]at h2;have h81:=h2;refine sd (ag (i+1) ?_ ?_ S4 fun _ mw=>by rw[nj _ _ _ fun c=>h81 c.1];exact XM.pick (pz 18) mw);all_goals omega
 ·have adI:i=20:=og;subst adI;try unfold cV
  rw[KI];refine sd (ld .aa (me _) ?_);refine xK 2 (PC b.kb (kp (((a.c9 n co).ed (a.s.bS n).1 n).dN n (a.head n)) b c2) ((a.c9 n co).ed (a.s.bS n).1 n).s (((((a.c9 n co).ed (a.s.bS n).1 n).dN n (a.head n)).u n).aA) 3 false (fun q=>bJ.bx _) fun q=>Gu bJ Xd adF q) (pk [0,1,15]) rfl ?_;rintro _ _ rfl;refine gO ?_;refine cY rfl (ah (pk (0::2::0::rr 14 1 [])) rfl ?_);have hA:a.dt n co=(((a.c9 n co).ed (a.s.bS n).1 n).dN n (a.head n)).jW ((((a.c9 n co).ed (a.s.bS n).1 n).dN n (a.head n)).u n).aA:=by unfold KA.dt;rw[ZC]
  rw[hA];refine⟨c2,BA.gF _ _ _,?_⟩;change _=cV (KA.jW _ _) _ _ [];rw[PD,Gt,Gv];rfl
end Go.X.Kn

namespace Go.X.Kn
open Go Go.Proofs Go.X Go.X.Sg
set_option maxRecDepth 20000
set_option maxHeartbeats 4000000
attribute [local irreducible] KA.dt KA.cK
def Ck(a:KA)(b:KZ)(c:KC)(N:Nat)(T:Int)(hw:a.Wk T)(hc:cI a c N T)(hT:T<=900000)(n co:Int)(hl:(a.u n).st=1)(hx:a.Hx n):Spec Tryz.prog 63 [ay b.kb 0 0,iI n,iI co] (cV a b c [.ro 0 0 32 dp]) (fun v H1=>∃ c1:KC,cI (a.dt n co) c1 N T/\H1=(cV (a.dt n co) b c1 [])):=by
 by_cases hh:a.head n=n
 ·exact ZD a b c N T hw hc hT n co hl hx hh
 ·exact ZB a b c N T hw hc hT n co hl hx hh
def R2(a:KA)(b:KZ)(c:KC)(N:Nat)(T:Int)(hw:a.Wk T)(hc:cI a c N T)(hT:T<=900000)(n:Int)(hn:0<=n/\n<20)(o:Bool)(hl:(a.u n).st=1)(hx:a.Hx n)(he:¬((a.u n).bx.first 0)=0)(ho:o=true\/a.head n≠n):Spec Tryz.prog 74 [ay b.kb 0 0,iI n,.bool o] (cV a b c [.ro 0 0 32 dp]) (fun v H1=>∃ c1:KC,cI (a.dt n (128+((a.u n).bx.first 0))) c1 N T/\H1=(cV (a.dt n (128+((a.u n).bx.first 0))) b c1 [])):=by
 refine Spec.go 36 [0,1,2,6,7,30] [] Tryz.func74 fun W=> ?_;refine XR.mono (fun _ bJ=>kn (k:=kp a b c) (n:=n) og .h1 bJ) ?_;refine sd ?_;refine IE 1 (Em b.kb (0+jV n) _ (hw.bx n)) (pk [0,18]) rfl ?_;refine XR.mono (fun _ bJ=>nD (k:=kp a b c) (n:=n) og (pk [0,1,1]) bJ) ?_;refine spT 19 rfl (he) ?_;refine P5 21 rfl ?_ ?_<;>intro h2
 ·try simp only[sb]at h2
  have hfr:=BS.ua (a.u n).bx 0 (hw.bx n);refine sd ?_;refine xK 17 (Ck a b c N T hw hc hT n _ hl hx) (pk (0::rr 16 1 [0])) rfl ?_;rintro _ _ ⟨c1,fZ,rfl⟩;apply gO;refine cY rfl (ah (pz 17) rfl ?_);grind
 ·try simp only[sb]at h2
  refine cq (jT b.kb (kp a b c) a.s n) (pk [0,2]) ?_;refine cq (AP b.kb (kp a b c) a.s _) (pz 2) ?_;apply XF rfl (by first | rfl | exact fun q=>(ho.resolve_left iV) q);have hfr:=BS.ua (a.u n).bx 0 (hw.bx n);refine sd ?_;refine xK 17 (Ck a b c N T hw hc hT n _ hl hx) (pk (0::2::0::rr 14 1 [0])) rfl ?_;rintro _ _ ⟨c1,fZ,rfl⟩;apply gO;refine cY rfl (ah (pz 17) rfl ?_);grind
def R3(a:KA)(b:KZ)(c:KC)(N:Nat)(T:Int)(hw:a.Wk T)(hc:cI a c N T)(hT:T<=900000)(n:Int)(hn:0<=n/\n<20)(o:Bool)(he:((a.u n).bx.first 0)=0):Spec Tryz.prog 74 [ay b.kb 0 0,iI n,.bool o] (cV a b c [.ro 0 0 32 dp]) (fun v H1=>∃ c1:KC,cI a c1 N T/\H1=(cV a b c1 [])):=by
 refine Spec.go 36 [0,1,2,6,7,30] [] Tryz.func74 fun W=> ?_;refine XR.mono (fun _ bJ=>kn (k:=kp a b c) (n:=n) og .h1 bJ) ?_;refine sd ?_;refine IE 1 (Em b.kb (0+jV n) _ (hw.bx n)) (pk [0,18]) rfl ?_;refine XR.mono (fun _ bJ=>nD (k:=kp a b c) (n:=n) og (pk [0,1,1]) bJ) ?_;refine spF 19 rfl og (cY rfl (ah (pk (0::rr 16 1 [])) rfl ?_));grind
theorem R4(a:KA)(b:KZ)(c:KC)(N:Nat)(T:Int)(hw:a.Wk T)(hc:cI a c N T)(hT:T<=900000)(n:Int)(hn:0<=n/\n<20)(he:¬((a.u n).bx.first 0)=0)(hh:a.head n=n):Spec Tryz.prog 74 [ay b.kb 0 0,iI n,.bool false] (cV a b c [.ro 0 0 32 dp]) (fun v H1=>∃ c1:KC,cI a c1 N T/\H1=(cV a b c1 [])):=by
 refine Spec.go 36 [0,1,2,6,7,30] [] Tryz.func74 fun W=> ?_;refine XR.mono (fun _ bJ=>kn (k:=kp a b c) (n:=n) og .h1 bJ) ?_;refine sd ?_;refine IE 1 (Em b.kb (0+jV n) _ (hw.bx n)) (pk [0,18]) rfl ?_;refine XR.mono (fun _ bJ=>nD (k:=kp a b c) (n:=n) og (pk [0,1,1]) bJ) ?_;refine spT 19 rfl (he) ?_;refine cq (jT b.kb (kp a b c) a.s n) (pk [0,2]) ?_;refine cq (AP b.kb (kp a b c) a.s _) (pz 2) ?_;refine Hb rfl (fun q=>q hh) (cY rfl (ah (pk (0::2::0::rr 14 1 [])) rfl ?_));exact⟨c,hc,rfl⟩
def R5(a:KA)(b:KZ)(c:KC)(N:Nat)(T:Int)(hw:a.Wk T)(hc:cI a c N T)(hT:T<=900000)(n:Int)(hn:0<=n/\n<20)(o:Bool)(he:¬a.KK n o):Spec Tryz.prog 74 [ay b.kb 0 0,iI n,.bool o] (cV a b c [.ro 0 0 32 dp]) (fun v H1=>∃ c1:KC,cI a c1 N T/\H1=(cV a b c1 [])):=by
 by_cases h0:((a.u n).bx.first 0)=0
 ·exact R3 a b c N T hw hc hT n hn o h0
 ·have h1:¬(o=true\/a.head n≠n):=fun q=>he ⟨h0,q⟩;grind [R4]
def zl(a:KA)(b:KZ)(c:KC)(N:Nat)(T:Int)(hw:a.Wk T)(hc:cI a c N T)(hT:T<=900000)(n:Int)(hn:0<=n/\n<20)(o:Bool)(hl:(a.u n).st=1)(hx:a.Hx n):Spec Tryz.prog 74 [ay b.kb 0 0,iI n,.bool o] (cV a b c [.ro 0 0 32 dp]) (fun v H1=>∃ c1:KC,cI (a.cK n o) c1 N T/\H1=(cV (a.cK n o) b c1 [])):=by
 by_cases he:a.KK n o
 ·rw[wu he];exact R2 a b c N T hw hc hT n hn o hl hx he.1 he.2
 ·rw[zb he];exact R5 a b c N T hw hc hT n hn o he
def WA(a:KA)(b:KZ)(c:KC)(N:Nat)(T:Int)(hw:a.Wk T)(hc:cI a c N T)(hT:T<=900000)(n sig:Int)(o:Bool)(hx:a.Hx n):Spec Tryz.prog 71 [ay b.kb 0 0,iI n,iI sig,.bool o] (cV a b c [.ro 0 0 32 dp]) (fun v H1=>∃ c1:KC,cI (a.wq n sig o) c1 N T/\H1=(cV (a.wq n sig o) b c1 [])):=by
 refine Spec.go 27 [0,1,2,3,8,9,17] [] Tryz.func71 fun W=> ?_;refine ca (ek b.kb (kp a b c) n) .h1 ?_;rintro _ _ ⟨⟨hl,rfl⟩ | ⟨hl,rfl⟩,rfl⟩
 ·obtain⟨jx,gn⟩:=bE hl;apply gO;apply XR.mono fun _ bJ=>kn (k:=kp a b c) (n:=n) og .h1 bJ;refine cq (VU b.kb (0+jV n) _ sig) .h1 ?_;apply XR.mono fun _ bJ=>mU (k:=kp a b c) (n:=n) og (pz 3) bJ;try unfold cV
  rw[As];try unfold cV
  rw[<-vx a n ((a.u n).bx.send sig).2,<-za a n ((a.u n).bx.send sig).2];refine xK 17 (zl (a.jM n ((a.u n).bx.send sig).2) b c N T (hw.jM jx (pC _ _ (hw.bx n))) (hc.box _ _) hT n jx o (by rw[gU];exact gn) (hx.box _)) (pz 18) rfl ?_;rintro _ _ ⟨c1,fZ,rfl⟩;apply gO;refine cY rfl (ah (pz 17) rfl ?_);have e:a.wq n sig o=(a.jM n ((a.u n).bx.send sig).2).cK n o:=if_pos hl;grind
 ·apply gO;refine rt0 (pz 17) ?_;have e:a.wq n sig o=a:=if_neg fun q=>hl q;grind
def ZE(a:KA)(b:KZ)(c:KC)(N:Nat)(T:Int)(ho:a.Ok T)(hc:cI a c N T)(hT:T<=800000)(n co:Int):Spec Tryz.prog 16 [ay b.kb 0 0,iI n,iI co] (cV a b c [.ro 0 0 32 dp]) (fun v H1=>v=ax 102 (a.uJ n co)/\∃ c1:KC,cI (a.mI n co) c1 N T/\H1=(cV (a.mI n co) b c1 [])):=by
 refine Spec.go 32 [0,1,2,6,8,16,23,26] [] Tryz.func16 fun W=> ?_;refine ca (ek b.kb (kp a b c) n) .h1 ?_;rintro _ _ ⟨⟨hl,rfl⟩ | ⟨hl,rfl⟩,rfl⟩
 ·obtain⟨jx,gn⟩:=bE hl;have hl:a.aB n=0:=hl;have gn:(a.u n).st=1:=gn;apply gO;refine sp 20 rfl ?_ ?_<;>intro h1
  ·refine bL (pz 17) ?_;try dsimp only[aS,aR,bI,bN]
   grind [KA.uJ,KA.mI,ax]
  ·refine cd ?_ ?_<;>intro h2
   ·refine bL (pz 17) ?_;try dsimp only[aS,aR,bI,bN]
    grind [KA.uJ,KA.mI,ax]
   ·refine cd ?_ ?_<;>intro h3
    ·refine bL (pz 17) ?_;try dsimp only[aS,aR,bI,bN]
     grind [KA.uJ,KA.mI,ax]
    ·refine xK 17 (Ck a b c N T ho.wk hc og n co gn (ho.hx.any n)) (pz 18) rfl ?_;rintro _ _ ⟨c1,fZ,rfl⟩;apply gO;refine bL (pz 17) ?_;try dsimp only[aS,aR,bI,bN]
     grind [KA.uJ,KA.mI,ax]
 ·have hl:a.aB n≠0:=hl;have iJ:(kp a b c).aB n=a.aB n:=rfl;rw[iJ];apply gO;refine bL (pz 17) ?_;grind [aS,aR,KA.uJ,KA.mI,ax]
def adJ(a:KA)(b:KZ)(c:KC)(N:Nat)(T:Int)(ho:a.Ok T)(hc:cI a c N T)(hT:T<=800000)(n sg y:Int):Spec Tryz.prog 23 [ay b.kb 0 0,iI n,iI sg,iI y] (cV a b c [.ro 0 0 32 dp]) (fun v H1=>v=ax 102 (a.Vu n sg y)/\∃ c1:KC,cI (a.DY n sg y) c1 N T/\H1=(cV (a.DY n sg y) b c1 [])):=by
 refine Spec.go 31 [0,1,2,3,8,9,10,18,26] [] Tryz.func23 fun W=> ?_;refine ca (ek b.kb (kp a b c) n) .h1 ?_;rintro _ _ ⟨⟨hl,rfl⟩ | ⟨hl,rfl⟩,rfl⟩
 ·obtain⟨jx,gn⟩:=bE hl;have hl:a.aB n=0:=hl;have gn:(a.u n).st=1:=gn;apply gO;apply XR.mono fun _ bJ=>kn (k:=kp a b c) (n:=n) og .h1 bJ;refine ca (afP b.kb (0+jV n) (a.u n).bx sg y) .h1 ?_;rintro _ _ ⟨rfl,rfl⟩;by_cases rI:((a.u n).bx.set sg y).1=0
  ·rw[rI,nc];apply gO;apply XR.mono fun _ bJ=>mU (k:=kp a b c) (n:=n) og (pz 3) bJ;try unfold cV
   rw[As];try unfold cV
   rw[<-vx a n ((a.u n).bx.set sg y).2,<-za a n ((a.u n).bx.set sg y).2];refine xK 17 (zl (a.jM n ((a.u n).bx.set sg y).2) b c N T (ho.wk.jM jx (Av _ _ _ (ho.wk.bx n))) (hc.box _ _) og n jx false (by rw[gU];exact gn) ((ho.hx.any n).box _)) (pz 18) rfl ?_;rintro _ _ ⟨c1,fZ,rfl⟩;apply gO;refine bL (pz 17) ?_;try dsimp only[aS,aR,bI,bN]
   grind [KA.Vu,KA.DY,ax]
  ·rw[aJ _ rI];apply gO;rw[Y3 rI];refine XR.mono (fun _ bJ=>nD (k:=kp a b c) (n:=n) og (pz 3) bJ) ?_;refine bL (pz 17) ?_;grind [aS,aR,KA.Vu,KA.DY,aJ]
 ·have hl:a.aB n≠0:=hl;have iJ:(kp a b c).aB n=a.aB n:=rfl;rw[iJ];apply gO;refine bL (pz 17) ?_;grind [aS,aR,KA.Vu,KA.DY,ax]
def Iw(a:KA)(b:KZ)(c:KC)(N:Nat)(T:Int)(ho:a.Ok T)(hc:cI a c N T)(hT:T<=800000)(n sg:Int):Spec Tryz.prog 24 [ay b.kb 0 0,iI n,iI sg,.bool true] (cV a b c [.ro 0 0 32 dp]) (fun v H1=>v=ax 102 (a.wv n sg true)/\∃ c1:KC,cI (a.mJ n sg true) c1 N T/\H1=(cV (a.mJ n sg true) b c1 [])):=by
 refine Spec.go 31 [0,1,2,3,8,9,10,18,26] [] Tryz.func24 fun W=> ?_;refine ca (ek b.kb (kp a b c) n) .h1 ?_;rintro _ _ ⟨⟨hl,rfl⟩ | ⟨hl,rfl⟩,rfl⟩
 ·obtain⟨jx,gn⟩:=bE hl;have hl:a.aB n=0:=hl;have gn:(a.u n).st=1:=gn;apply gO;apply XR.mono fun _ bJ=>kn (k:=kp a b c) (n:=n) og .h1 bJ;refine ca (K9 b.kb (0+jV n) (a.u n).bx sg) .h1 ?_;rintro _ _ ⟨rfl,rfl⟩;by_cases rI:((a.u n).bx.ea sg true).1=0
  ·rw[rI,nc];apply gO;apply XR.mono fun _ bJ=>mU (k:=kp a b c) (n:=n) og (pz 3) bJ;try unfold cV
   rw[As];try unfold cV
   rw[<-vx a n ((a.u n).bx.ea sg true).2,<-za a n ((a.u n).bx.ea sg true).2];refine xK 17 (zl (a.jM n ((a.u n).bx.ea sg true).2) b c N T (ho.wk.jM jx (sH _ _ _ (ho.wk.bx n))) (hc.box _ _) og n jx false (by rw[gU];exact gn) ((ho.hx.any n).box _)) (pz 18) rfl ?_;rintro _ _ ⟨c1,fZ,rfl⟩;apply gO;refine bL (pz 17) ?_;try dsimp only[aS,aR,bI,bN]
   grind [KA.wv,KA.mJ,ax]
  ·rw[aJ _ rI];apply gO;rw[KQ rI];refine XR.mono (fun _ bJ=>nD (k:=kp a b c) (n:=n) og (pz 3) bJ) ?_;refine bL (pz 17) ?_;grind [aS,aR,KA.wv,KA.mJ,aJ]
 ·have hl:a.aB n≠0:=hl;have iJ:(kp a b c).aB n=a.aB n:=rfl;rw[iJ];apply gO;refine bL (pz 17) ?_;grind [aS,aR,KA.wv,KA.mJ,ax]
def Fp(a:KA)(b:KZ)(c:KC)(N:Nat)(T:Int)(ho:a.Ok T)(hc:cI a c N T)(hT:T<=800000)(n sg:Int):Spec Tryz.prog 24 [ay b.kb 0 0,iI n,iI sg,.bool false] (cV a b c [.ro 0 0 32 dp]) (fun v H1=>v=ax 102 (a.wv n sg false)/\∃ c1:KC,cI (a.mJ n sg false) c1 N T/\H1=(cV (a.mJ n sg false) b c1 [])):=by
 refine Spec.go 31 [0,1,2,3,8,9,10,18,26] [] Tryz.func24 fun W=> ?_;refine ca (ek b.kb (kp a b c) n) .h1 ?_;rintro _ _ ⟨⟨hl,rfl⟩ | ⟨hl,rfl⟩,rfl⟩
 ·obtain⟨jx,gn⟩:=bE hl;have hl:a.aB n=0:=hl;have gn:(a.u n).st=1:=gn;apply gO;apply XR.mono fun _ bJ=>kn (k:=kp a b c) (n:=n) og .h1 bJ;refine ca (Ih b.kb (0+jV n) (a.u n).bx sg) .h1 ?_;rintro _ _ ⟨rfl,rfl⟩;by_cases rI:((a.u n).bx.ea sg false).1=0
  ·rw[rI,nc];apply gO;apply XR.mono fun _ bJ=>mU (k:=kp a b c) (n:=n) og (pz 3) bJ;try unfold cV
   rw[As];try unfold cV
   rw[<-vx a n ((a.u n).bx.ea sg false).2,<-za a n ((a.u n).bx.ea sg false).2];refine xK 17 (zl (a.jM n ((a.u n).bx.ea sg false).2) b c N T (ho.wk.jM jx (sH _ _ _ (ho.wk.bx n))) (hc.box _ _) og n jx false (by rw[gU];exact gn) ((ho.hx.any n).box _)) (pz 18) rfl ?_;rintro _ _ ⟨c1,fZ,rfl⟩;apply gO;refine bL (pz 17) ?_;try dsimp only[aS,aR,bI,bN]
   grind [KA.wv,KA.mJ,ax]
  ·rw[aJ _ rI];apply gO;rw[KQ rI];refine XR.mono (fun _ bJ=>nD (k:=kp a b c) (n:=n) og (pz 3) bJ) ?_;refine bL (pz 17) ?_;grind [aS,aR,KA.wv,KA.mJ,aJ]
 ·have hl:a.aB n≠0:=hl;have iJ:(kp a b c).aB n=a.aB n:=rfl;rw[iJ];apply gO;refine bL (pz 17) ?_;grind [aS,aR,KA.wv,KA.mJ,ax]
def ZF(a:KA)(b:KZ)(c:KC)(N:Nat)(T:Int)(ho:a.Ok T)(hc:cI a c N T)(hT:T<=800000)(n sg:Int)(on:Bool):Spec Tryz.prog 24 [ay b.kb 0 0,iI n,iI sg,.bool on] (cV a b c [.ro 0 0 32 dp]) (fun v H1=>v=ax 102 (a.wv n sg on)/\∃ c1:KC,cI (a.mJ n sg on) c1 N T/\H1=(cV (a.mJ n sg on) b c1 [])):=by
 cases on
 ·exact Fp a b c N T ho hc hT n sg
 ·exact Iw a b c N T ho hc hT n sg
def adK(a:KA)(b:KZ)(c:KC)(aV:Int->Nat)(hI:a.s.Inv aV)(n q:Int):Spec Tryz.prog 18 [ay b.kb 0 0,iI n,iI q] [.cells b.kb 0 453 (aD (kp a b c)),.cells b.sb 0 158 (Sp.aK a.s)] (fun v H1=>v= .tuple #[iI (a.Ga n q).1,ax 102 (a.Ga n q).2]/\H1=[.cells b.kb 0 453 (aD (kp a b c)),.cells b.sb 0 158 (Sp.aK a.s)]):=afO b.kb (kp a b c) a.s aV hI n q
def zm(a:KA)(b:KZ)(c:KC)(hf:∀ n i,0<=(a.u n).fd i/\(a.u n).fd i<=24)(n i:Int):Spec Tryz.prog 69 [ay b.kb 0 0,iI n,iI i] [.cells b.kb 0 453 (aD (kp a b c))] (fun v H1=>v= .tuple #[iI (a.dD n i),ax 102 (a.eY n i)]/\H1=[.cells b.kb 0 453 (aD (kp a b c))]):=adE b.kb (kp a b c) n i hf
def Cl(a:KA)(b:KZ)(c:KC)(n:Int)(hn:0<=n/\n<20)(x:Int)(hx:0<=x:=by omega):Spec Tryz.prog 67 [ay b.kb 0 (0+0+n.toNat*22),iI x] [.cells b.kb 0 453 (aD (kp a b c))] (fun v H1=>v=iI (jS (a.u n).fd x)/\H1=[.cells b.kb 0 453 (aD (kp a b c))]):=adD b.kb (kp a b c) n hn x hx
def ZG(a:KA)(b:KZ)(c:KC)(N:Nat)(T:Int)(ho:a.Ok T)(hc:cI a c N T)(hT:T<=800000)(n:Int):Spec Tryz.prog 26 [ay b.kb 0 0,iI n] (cV a b c [.ro 0 0 32 dp]) (fun v H1=>v= .tuple #[iI (a.D0 n),ax 102 (a.DZ n)]/\∃ c1:KC,cI (a.ru n) c1 N T/\H1=(cV (a.ru n) b c1 [])):=by
 refine Spec.go 30 [0,1,4,5,6,7,8,9,17,27] [] Tryz.func26 fun W=> ?_;refine ca (ek b.kb (kp a b c) n) .h1 ?_;rintro _ _ ⟨⟨hl,rfl⟩ | ⟨hl,rfl⟩,rfl⟩
 ·obtain⟨jx,gn⟩:=bE hl;have hl:a.aB n=0:=hl;have gn:(a.u n).st=1:=gn;apply gO;apply XR.mono fun _ bJ=>kn (k:=kp a b c) (n:=n) og .h1 bJ;refine IE 1 (acU b.kb (0+jV n) (a.u n).bx (ho.wk.bx n)) (pk [0,18]) rfl ?_;apply XR.mono fun _ bJ=>mU (k:=kp a b c) (n:=n) og (pk [0,1,1]) bJ;try unfold cV
  rw[As];try unfold cV
  rw[<-vx a n ((a.u n).bx.take).2,<-za a n ((a.u n).bx.take).2];refine cd ?_ ?_<;>intro h1
  ·refine aW rfl rfl rfl (ah (pk (0::rr 16 1 [])) rfl ?_);have ht:((a.u n).bx.take).1=0:=by first | assumption | omega | simp_all
   have e1:a.DZ n=2:=by unfold KA.DZ;rw[if_neg og,if_pos ht]
   have e2:a.D0 n=0:=by unfold KA.D0;rw[if_neg og,ht]
   have e3:a.ru n=a.jM n ((a.u n).bx.take).2:=by unfold KA.ru;rw[if_neg og]
   rw[e1,e2,e3];exact⟨rfl,c,hc.box _ _,rfl⟩
  ·refine aW rfl rfl rfl (ah (pk (0::rr 16 1 [])) rfl ?_);have ht:¬((a.u n).bx.take).1=0:=by first | assumption | omega | simp_all
   have e1:a.DZ n=0:=by unfold KA.DZ;rw[if_neg og,if_neg ht]
   have e2:a.D0 n=((a.u n).bx.take).1:=by unfold KA.D0;rw[if_neg og]
   have e3:a.ru n=a.jM n ((a.u n).bx.take).2:=by unfold KA.ru;rw[if_neg og]
   rw[e1,e2,e3];exact⟨rfl,c,hc.box _ _,rfl⟩
 ·have hl:a.aB n≠0:=hl;have iJ:(kp a b c).aB n=a.aB n:=rfl;rw[iJ];apply gO;refine er (pz 17) ?_;grind [aS,aR,bN,KA.DZ,KA.D0,KA.ru,ax]
def R6(a:KA)(b:KZ)(c:KC)(N:Nat)(T:Int)(ho:a.Ok T)(hc:cI a c N T)(hT:T<=800000)(n q sg:Int):Spec Tryz.prog 78 [ay b.kb 0 0,iI n,iI q,iI sg] (cV a b c [.ro 0 0 32 dp]) (fun v H1=>v=ax 102 (a.oE n q sg)/\∃ c1:KC,cI (a.kI n q sg) c1 N T/\H1=(cV (a.kI n q sg) b c1 [])):=by
 refine Spec.go 42 [0,1,2,3,8,9,10,19,26,29] [] Tryz.func78 fun W=> ?_;refine cq (adK a b c a.aV ho.wk.sI n q) (pk [0,1]) ?_;refine cd ?_ ?_<;>intro h1
 ·refine aM rfl rfl (ah (pk (0::1::rr 15 0 [])) rfl ?_);grind [aS,aR,KA.oE,KA.kI]
 ·refine sp 23 rfl ?_ ?_<;>intro h2
  ·refine aM rfl rfl (ah (pk (0::1::rr 15 0 [])) rfl ?_);try dsimp only[aS,aR,bI,bN]
   grind [KA.oE,KA.kI,ax]
  ·refine cd ?_ ?_<;>intro h3
   ·refine aM rfl rfl (ah (pk (0::1::rr 15 0 [])) rfl ?_);try dsimp only[aS,aR,bI,bN]
    grind [KA.oE,KA.kI,ax]
   ·refine cd ?_ ?_<;>intro h4
    ·refine aM rfl rfl (ah (pk (0::1::rr 15 0 [])) rfl ?_);try dsimp only[aS,aR,bI,bN]
     grind [KA.oE,KA.kI,ax]
    ·refine cq (jT b.kb (kp a b c) a.s _) (pz 2) ?_;refine cq (jT b.kb (kp a b c) a.s n) (pz 2) ?_;refine xK 17 (WA a b c N T ho.wk hc og (a.Ga n q).1 sg _ (ho.hx.any _)) (pk (0::1::rr 16 0 [])) rfl ?_;rintro _ _ ⟨c1,fZ,rfl⟩;apply gO;refine bL (pz 17) ?_;try dsimp only[aS,aR,bI,bN]
     grind [KA.oE,KA.kI,ax]
end Go.X.Kn
