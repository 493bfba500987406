import Derived.Test.YthdinakloheinaaGreatDoorkNKW3
set_option linter.all false
set_option maxRecDepth 20000
set_option maxHeartbeats 16000000
open Go.Proofs.Tryz
namespace Go.X.Tr
open Go Go.Proofs Go.X
def Nu:ey Tryz.prog 166 0=some 0:=kq
def Ze:ey Tryz.prog 166 1=some 1:=kq
def F7:ey Tryz.prog 166 2=some 3:=kq
def ajw(bf:Nat)(s:FC)(d:Int->Nat)(B:Int)(hO:s.toFF.Ok d B)(hB:B<=900000)(t:Int):Fn 102 [ay bf 0 0,iI t] [bi bf 0 s,g6 s,g7 s,dH (FC.rP s) (FC.rC s) 3 (FC.toFF s).roots] (fun v H1=>(s.nD t≠0/\v= .tuple #[.pointer none,ax 102 (s.nD t)]/\H1=[bi bf 0 s,g6 s,g7 s,dH (FC.rP s) (FC.rC s) 3 (FC.toFF s).roots])\/(s.nD t=0/\∃ (bt:Nat) (u:FC),v= .tuple #[ay bt 0 0,.nilIface]/\u.toFF=s.toFF.dX (s.gm t)/\u.rP=s.rP/\u.rC=s.rC/\H1=[f4 bt bf ⟨t,s.gm t⟩ (.slice none 0 0),aN none 0 168 4 0 C0,bi bf 0 u,g6 u,g7 u,dH (FC.rP s) (FC.rC s) 3 (FC.toFF s).roots])):=by
 have hI:=hO.sh og;refine Spec.g 26 [0,1,4,5,6,7,15] func102 fun W=> ?_;refine cq (Y4 _ _ _ hI _) (pk [0,2]) ?_;apply (cd)<;>intro h1
 ·refine bC rfl rfl rfl (ai (pk [0,1,1,0]) rfl ?_);grind [aR,aQ,bQ]
 ·refine ca (wv _ _ _ hI _) (pk [0,1,1]) ?_;rintro _ _ ⟨rfl,u,hu,pu,cu,rfl⟩;apply gO;refine XO.v (V.build (vs:= #[(0,iI t),(1,iI (s.gm t))]) rfl (v:=.agg (WH.c9 ⟨t,s.gm t⟩)) fun _=>kq) rfl (gO ?_);refine XO.v (V.build (vs:= #[(0,ay bf 0 0),(1,.agg (WH.c9 ⟨t,s.gm t⟩))]) rfl (v:=.agg (afD bf ⟨t,s.gm t⟩ (.slice none 0 0))) fun _=>kq) rfl (gO ?_);refine XO.box (m:=4) (C:=aM bf ⟨t,s.gm t⟩ (.slice none 0 0)) rfl rfl (aM.box _ _ _) rfl ?_;intro bt;apply gO;refine XR.fU 168 4 (bC rfl rfl rfl (ai (pk [1,0,0,0,0,0]) rfl ?_));exact .inr ⟨Decidable.byContradiction aq,bt,u,rfl,hu,pu,cu,rfl⟩
def agO(bt bf:Nat)(r:WH)(l:List MT)(p:Option Addr)(cap k c:Nat)(C:Nat->Value)(hv:RV.ok ⟨p,cap,k,l.length,c,C⟩)(hC:MC C l)(P1:l.length<=6)(s:FC)(d:Int->Nat)(B:Int)(hO:s.toFF.Ok d B)(hB:B<=900000):Fn 55 [ay bt 0 0] [f4 bt bf r (.slice p l.length c),aN p cap 168 4 k C,bi bf 0 s,g6 s,g7 s] (fun v H1=>∃ (R5:Nat) (p2:Option Addr) (qx k2 c2:Nat) (C2:Nat->Value) (u:FC),v=ay R5 0 0/\RV.ok ⟨p2,qx,k2,l.length,c2,C2⟩/\MC C2 l/\u.toFF=Rk s.toFF l r/\u.toFF.Ok d (B+13)/\u.rP=s.rP/\u.rC=s.rC/\H1=[f4 R5 bf r (.slice p2 l.length c2),aN p2 qx 168 4 k2 C2,f4 bt bf r (.slice p l.length c),aN p cap 168 4 k C,bi bf 0 u,g6 u,g7 u]):=by
 have jz:=pZ hv;have jz:l.length<=k:=jz;have hI:=hO.sh og;refine Spec.g 58 [0,2,3,5,34,35,36,37] func55 fun W=> ?_;apply XC.ir mixed (f:=16) (l:= #[qF,qF,qF,qF,qF,qF,qF,qF,qF,qF,qF,qF,qF,qF,qF,qF]) rfl rfl XM.kQ;refine XQ.mv 0 rfl rfl rfl ?_;refine XQ.nc 1 rfl rfl rfl ?_;refine XQ.pw 2 rfl rfl (V.fieldAddr rfl Nu) ?_;refine XQ.ll 3 [14] rfl rfl .aa rfl (aM.Dy _ _) ?_;refine XQ.mv 4 rfl rfl rfl ?_;refine XQ.nc 5 rfl rfl rfl ?_;refine XQ.pw 6 rfl rfl (V.fieldAddr rfl Ze) ?_;refine XQ.lf 7 [14] rfl rfl .aa rfl (aM.Gg _ _) ?_;refine XQ.mv 8 rfl rfl rfl ?_;refine XQ.nc 9 rfl rfl rfl ?_;refine XQ.pw 10 rfl rfl (V.fieldAddr rfl F7) ?_;refine XQ.ll 11 [12,14] rfl rfl .aa rfl (lO _ _) ?_;refine XQ.g (i:=12) rfl kq rfl (RG.aie (e:=168) (v:=⟨p,cap,k,l.length,c,C⟩) hv rfl underlying164 kq (.ao .aa) (by show l.length<=_;omega)) rfl ut ?_;intro u hu;obtain⟨QL,NL,hu3⟩:=hu;obtain⟨p2,qx,k2,Zg,c2,C2⟩:=u;have NL:Zg=l.length:=NL;subst NL;have hC2:MC C2 l:=hC.copy hu3;have al1:l.length<=k2:=pZ QL;refine XQ.pw 13 rfl rfl (V.build (vs:= #[(0,ay bf 0 0),(1,.agg (WH.c9 r)),(2,.slice p2 l.length c2)]) rfl (v:=.agg (afD bf r (.slice p2 l.length c2))) fun _=>kq) ?_;refine XQ.g (i:=14) rfl kq rfl (RG.box (m:=4) (C:=aM bf r (.slice p2 l.length c2)) rfl rfl (aM.box _ _ _)) rfl ut ?_;intro R5 _;refine XQ.pw 15 rfl rfl (V.assign rfl) ?_;apply XQ.done kq;apply gE;refine rq [0,1,2,3,4,5,6,7,8,9] mixed ?_;apply ld .aa (aM.Dy _ _);apply ld .aa (H7 _ _);refine ca (wv _ _ s hI _) (pk [4,4,4]) ?_;rintro _ _ ⟨rfl,u0,hu0,pu0,cu0,rfl⟩;have hO0:u0.toFF.Ok d (B+1):=by rw[hu0];exact hO.dX r.node
 apply gO;apply ld (.t3 .aa) (lO _ _);refine wl (σ:=FC×Int) (fun x=>(l.length-x.2).toNat) (fun x=>AB x.1.toFF (l.drop x.2.toNat)=Rk s.toFF l r/\x.1.toFF.Ok d (B+1+2*x.2)/\x.1.rP=s.rP/\x.1.rC=s.rC/\0<=x.2/\x.2<=l.length) (fun x=>[(36,iI x.2),(3,ay R5 0 0),(34,.slice p2 l.length c2),(35,iI l.length)]) (fun x=>[f4 R5 bf r (.slice p2 l.length c2),aN p2 qx 168 4 k2 C2,f4 bt bf r (.slice p l.length c),aN p cap 168 4 k C,bi bf 0 x.1,g6 x.1,g7 x.1]) ((u0,0)) ?_ (pk [3,3,3,3,0,0,0]) ?_
 ·grind [Rk]
 intro x hx;obtain⟨hh,hOx,QT,hxc,q8,KI⟩:=hx;apply gC;apply (cd)<;>intro h1
 ·apply bV (.ao .aa) og;intro g hg;subst hg;apply (sd);apply rX (.ao .aa) (hC2.ld al1 _ og);apply XO.bP (z:=.agg (MT.c9 MT.nil)) (m:=4) (C:=fT MT.nil) (fT.box _);intro bm;apply gO;apply gu .aa (fT.st _ _) rfl ⟨rfl,rfl⟩;refine rq [0,1,2,3,4,5,6,7] mixed ?_;apply ld (.ao .aa) (aM.Dy _ _);apply ld .aa (yW _);refine ca (wv _ _ x.1 (hOx.sh og) _) (pk [5,5,5]) ?_;rintro _ _ ⟨rfl,u1,ajx,pu1,cu1,rfl⟩;apply gO;refine rq [0,1,2,3,4,5,6,7] mixed ?_;have R6:u1.toFF.Ok d (B+1+2*x.2+1):=by rw[ajx];exact hOx.dX (rD l x.2).at_.node
  apply ld (.t4 .aa) (aM.Dy _ _);apply ld (.t3 .aa) (yX _);refine ca (wv _ _ u1 (R6.sh og) _) (pz 3) ?_;rintro _ _ ⟨rfl,u2,ajy,pu2,cu2,rfl⟩;apply gO;apply (sd);refine wn ((u2,x.2+1)) ?_ ?_ (pk [4,4,4,4,0,0,0])
  ·omega
  ·exact⟨by rw[<-hh,O6 (i:=x.2) ⟨og,og⟩];show AB u2.toFF _=_;rw[ajy,ajx],by have h9:=R6.dX (rD l x.2).to.node;rw[show B+1+2*(x.2+1)=B+1+2*x.2+1+1 from og];show u2.toFF.Ok d _;rw[ajy];exact h9,by show u2.rP=_;rw[pu2,pu1,QT],by show u2.rC=_;rw[cu2,cu1,hxc],eI,eI⟩
 ·refine bL (pz 7) ?_;have e:x.2=l.length:=og;rw[e]at hh;exact⟨R5,p2,qx,k2,c2,C2,x.1,rfl,QL,hC2,by rw[<-hh,Ua],⟨hOx.inv,fun n a b=>Int.le_trans (hOx.bu n a b) og,by have:=hOx.nn;omega⟩,QT,hxc,rfl⟩
def R7(bt bf:Nat)(r:WH)(l:List MT)(p:Option Addr)(cap k c:Nat)(C:Nat->Value)(hv:RV.ok ⟨p,cap,k,l.length,c,C⟩)(hC:MC C l)(P1:l.length<=6)(s:FC)(d:Int->Nat)(B:Int)(hO:s.toFF.Ok d B)(hB:B<=900000):Fn 133 [ay bt 0 0] [f4 bt bf r (.slice p l.length c),aN p cap 168 4 k C,bi bf 0 s,g6 s,g7 s] (fun v H1=>v= .tuple #[]/\∃ u:FC,u.toFF=DF s.toFF l r/\u.toFF.Ok d (B+13)/\u.rP=s.rP/\u.rC=s.rC/\H1=[f4 bt bf r (.slice none 0 0),aN none 0 168 4 0 C0,bi bf 0 u,g6 u,g7 u]):=by
 have jz:=pZ hv;have jz:l.length<=k:=jz;refine Spec.g 43 [0,3,7,8,9,10] func133 fun W=> ?_;apply ld .aa (lO _ _);refine wl (σ:=FC×Int) (fun x=>(l.length-x.2).toNat) (fun x=>E7 x.1.toFF (l.drop x.2.toNat)=E7 s.toFF l/\x.1.toFF.Ok d (B+2*x.2)/\x.1.rP=s.rP/\x.1.rC=s.rC/\0<=x.2/\x.2<=l.length) (fun x=>[(9,iI x.2),(0,ay bt 0 0),(7,.slice p l.length c),(8,iI l.length)]) (fun x=>[f4 bt bf r (.slice p l.length c),aN p cap 168 4 k C,bi bf 0 x.1,g6 x.1,g7 x.1]) ((s,0)) ?_ (pz 5) ?_
 ·simp_all
 intro x hx;obtain⟨hh,hOx,QT,hxc,q8,KI⟩:=hx;apply gC;apply (cd)<;>intro h1
 ·apply bV (.ao .aa) og;intro g hg;subst hg;refine sd (rX (.ao .aa) (hC.ld jz _ og) (XO.bP (z:=.agg (MT.c9 MT.nil)) (m:=4) (C:=fT MT.nil) (fT.box _) ?_));intro bm;apply gO;refine gu .aa (fT.st _ _) rfl ⟨rfl,rfl⟩ (rq [0,1,2,3,4,5,6,7] mixed (ld (.ao .aa) (aM.Dy _ _) (ld .aa (yW _) ?_)));refine ca (IQ _ _ x.1 (hOx.sh og) _) (pk [3,3,3]) ?_;rintro _ _ ⟨rfl,u1,QL,pu1,cu1,rfl⟩;apply gO;refine rq [0,1,2,3,4,5,6,7] mixed ?_;have R6:u1.toFF.Ok d (B+2*x.2+1):=by rw[QL];exact hOx.lI (rD l x.2).at_.node
  refine ld (.t4 .aa) (aM.Dy _ _) (ld (.t3 .aa) (yX _) ?_);refine ca (IQ _ _ u1 (R6.sh og) _) (pz 3) ?_;rintro _ _ ⟨rfl,u2,NL,pu2,cu2,rfl⟩;apply gO;refine sd (wn ((u2,x.2+1)) ?_ ?_ (pk [4,4,0,0,0]))
  ·omega
  ·exact⟨by rw[<-hh,T9 (i:=x.2) ⟨og,og⟩];show E7 u2.toFF _=_;rw[NL,QL],by have h9:=R6.lI (rD l x.2).to.node;rw[show B+2*(x.2+1)=B+2*x.2+1+1 from og];show u2.toFF.Ok d _;rw[NL];exact h9,by show u2.rP=_;rw[pu2,pu1,QT],by show u2.rC=_;rw[cu2,cu1,hxc],eI,eI⟩
 ·refine rq [0,1,2,3,4,5,6,7,8,9] mixed (ld .aa (aM.Dy _ _) (ld .aa (H7 _ _) ?_));refine ca (IQ _ _ x.1 (hOx.sh og) _) (pk [2,2,2]) ?_;rintro _ _ ⟨rfl,u3,hu3,pu3,cu3,rfl⟩;apply gO;refine XR.fU 168 4 (st (.t4 .aa) (E6 _ _ _) rfl (dy rfl (ai (pk [4,0,0,0,0]) rfl ?_)));have e:x.2=l.length:=og;rw[e,XZ]at hh;have h9:=hOx.lI r.node;exact⟨rfl,u3,by rw[hu3,hh];rfl,by rw[hu3];exact⟨h9.inv,fun n a b=>Int.le_trans (h9.bu n a b) og,by have:=h9.nn;omega⟩,by rw[pu3,QT],by rw[cu3,hxc],rfl⟩
def acD(bt bf:Nat)(r:WH)(l:List MT)(p:Option Addr)(cap k c:Nat)(C:Nat->Value)(hv:RV.ok ⟨p,cap,k,l.length,c,C⟩)(hC:MC C l)(P1:l.length<=6)(s:FC)(d:Int->Nat)(B:Int)(hO:s.toFF.Ok d B)(hB:B<=800000)(to:Int):Fn 106 [ay bt 0 0,iI to] [f4 bt bf r (.slice p l.length c),aN p cap 168 4 k C,bi bf 0 s,g6 s,g7 s,dH (FC.rP s) (FC.rC s) 3 (FC.toFF s).roots] (fun v H1=>(s.nD to≠0/\v=ax 102 (s.nD to)/\H1=[f4 bt bf r (.slice p l.length c),aN p cap 168 4 k C,bi bf 0 s,g6 s,g7 s,dH (FC.rP s) (FC.rC s) 3 (FC.toFF s).roots])\/(s.nD to=0/\v= .nilIface/\∃ u:FC,u.toFF=DF (s.toFF.dX (s.gm to)) l r/\u.toFF.Ok d (B+14)/\u.rP=s.rP/\u.rC=s.rC/\H1=[f4 bt bf ⟨to,s.gm to⟩ (.slice none 0 0),aN none 0 168 4 0 C0,bi bf 0 u,g6 u,g7 u,dH (FC.rP s) (FC.rC s) 3 (FC.toFF s).roots])):=by
 have hI:=hO.sh og;refine Spec.g 33 [0,1,4,5,6,17] func106 fun W=> ?_;apply ld .aa (aM.Dy _ _);refine cq (Y4 _ _ _ hI _) (pk [2,4]) ?_;apply (cd)<;>intro h1
 ·refine aO rfl rfl (ai (pk [2,2,0,1,1,0]) rfl ?_);grind [aR,aQ]
 ·apply ld (.t2 .aa) (aM.Dy _ _);refine ca (wv _ _ _ hI _) (pk [0,3,3]) ?_;rintro _ _ ⟨rfl,u0,hu0,pu0,cu0,rfl⟩;have hO0:u0.toFF.Ok d (B+1):=by rw[hu0];exact hO.dX (s.gm to)
  apply gO;refine ca (R7 _ _ _ _ _ _ _ _ _ hv hC P1 u0 d (B+1) hO0 og) (pk [4,4,0,0,0]) ?_;rintro _ _ ⟨rfl,u,hu,hOu,pu,cu,rfl⟩;apply gO;refine XO.v (V.build (vs:= #[(0,iI to),(1,iI (s.gm to))]) rfl (v:=.agg (WH.c9 ⟨to,s.gm to⟩)) fun _=>kq) rfl (gO ?_);refine gu .aa (XP _ _ _) rfl ⟨rfl,rfl⟩ (aO rfl rfl (ai (pz 6) rfl ?_));grind [aR,aQ,bQ]
def Zi:ey Tryz.prog 163 1=some 1:=kq
def Zj:fE Tryz.prog 164=some 1:=kq
def Nv:fE Tryz.prog 168=some 4:=kq
set_option maxHeartbeats 8000000 in def agQ(bt bf:Nat)(r:WH)(l:List MT)(p:Option Addr)(cap k c:Nat)(C:Nat->Value)(hv:RV.ok ⟨p,cap,k,l.length,c,C⟩)(hC:MC C l)(P1:l.length<=6)(s:FC)(d:Int->Nat)(B:Int)(hO:s.toFF.Ok d B)(hB:B<=900000)(a z:WH):Fn 214 [ay bt 0 0,.agg (WH.c9 a),.agg (WH.c9 z)] [f4 bt bf r (.slice p l.length c),aN p cap 168 4 k C,bi bf 0 s,g6 s,g7 s] (fun v H1=>v=ax 102 (vR s.toFF l a z)/\∃ (p':Option Addr) (dv k' c':Nat) (C':Nat->Value) (u:FC),RV.ok ⟨p',dv,k',(qn s.toFF l a z).length,c',C'⟩/\MC C' (qn s.toFF l a z)/\u.toFF=sG s.toFF l a z/\u.rP=s.rP/\u.rC=s.rC/\H1=[f4 bt bf r (.slice p' (qn s.toFF l a z).length c'),aN p' dv 168 4 k' C',bi bf 0 u,g6 u,g7 u]):=by
 have jz:=pZ hv;have jz:l.length<=k:=jz;have hI:=hO.sh og;refine Spec.go 109 [0,4,5,6,8,9,10,11,14,17,18,19,20,34,54,59,64,65,66,67,73,81] [(4,0)] func214 fun W=> ?_;refine XO.box (m:=2) (C:=bd (a)) rfl rfl (bd.box _) rfl ?_;intro ba;apply gO;refine XO.box (m:=2) (C:=bd (z)) rfl rfl (bd.box _) rfl ?_;intro bz;apply gO;apply mP (.ao .aa) (bd.agg _);apply mP .aa (bd.agg _);apply iL (e:=163) (vs:= #[(0,.agg (WH.c9 a)),(1,.agg (WH.c9 z))]) (A:= #[iI a.ed,iI a.node,iI z.ed,iI z.node]) (sz:=2) rfl (fun _=>kq) rfl og rfl;intro bw;apply gO;refine lp (σ:=Int) (fun i=>(2-i).toNat) (fun i=>(0<=i/\i<=2)/\(1<=i->yZ s.toFF a=0)/\(2<=i->yZ s.toFF z=0)) (fun i=>[(19,iI i),(0,ay bt 0 0),(4,ay ba 0 0),(5,ay bz 0 0),(17,.slice (some ⟨bw,0,none⟩) 2 2),(18,iI 2)]) (fun i=>XM W (cx [f4 bt bf r (.slice p l.length c),aN p cap 168 4 k C,bi bf 0 s,g6 s,g7 s]) [f8 ba a,f8 bz z,aN (some ⟨bw,0,none⟩) 2 163 2 2 (wC [a,z]),f4 bt bf r (.slice p l.length c),aN p cap 168 4 k C,bi bf 0 s,g6 s,g7 s]) (0) ?_ S6 (fun _ hw=>by rw[alD]at hw;exact XM.pick (pk [2,1,0,0,0,0,0,0]) hw) ?_
 ·omega
 intro i hi;obtain⟨⟨hi0,hi1⟩,hda,hdz⟩:=hi;apply gC;apply (cd)<;>intro h2
 apply (sd);apply rX (.t2 .aa) (XT [a,z] _ ⟨og,by show i<2;omega⟩);apply XO.bP (z:=.agg (WH.c9 WH.nil)) (m:=2) (C:=bd WH.nil) (bd.box _);intro bx;apply gO;apply gu .aa (bd.st _ _) rfl ⟨rfl,rfl⟩;apply ww (σ:=Nat) (fun _=>True) (fun y=>[(0,ay bt 0 0),(4,ay ba 0 0),(5,ay bz 0 0),(8,ay bx 0 0),(9,ay y 0 0),(10,ax 102 (s.cQ (NO [a,z] i).node 0)),(17,.slice (some ⟨bw,0,none⟩) 2 2),(18,iI 2),(19,iI i)]) fun y=>[f8 ba a,f8 bz z,aN (some ⟨bw,0,none⟩) 2 163 2 2 (wC [a,z]),f4 bt bf r (.slice p l.length c),aN p cap 168 4 k C,bi bf 0 s,g6 s,g7 s,f8 bx (NO [a,z] i),.cells y 0 4 (o8 (s.Z3 (NO [a,z] i).node))]
 ·apply XC.ir mixed (f:=13) (l:= #[qF,qF,qF,qF,qF,qF,qF,qF,qF,qF,qF,qF,qF]) rfl rfl XM.kQ;refine XQ.mv 0 rfl rfl rfl ?_;refine XQ.nc 1 rfl rfl rfl ?_;refine XQ.pw 2 rfl rfl (V.fieldAddr rfl Nu) ?_;refine XQ.ll 3 [6,11] rfl rfl (.t4 .aa) rfl (aM.Dy _ _) ?_;refine XQ.pw 4 rfl rfl (V.fieldAddr rfl Zi) ?_;refine XQ.ll 5 [6,11] rfl rfl .aa rfl (bd.Gg _) ?_;apply XQ.jo (i:=6) (j:=10) kq
  ·apply XS.call (i:=6) rfl rfl rfl (PH _ _ _ hI _) (pk [6]) kq rfl (by rintro _ _ ⟨rfl,rfl⟩<;>exact ut);rintro _ _ ⟨rfl,rfl⟩;refine XQ.mv 7 rfl rfl rfl ?_;refine XQ.pw 8 rfl rfl (V.extract rfl rfl) ?_;refine XQ.pw 9 rfl rfl (V.extract rfl rfl) ?_;refine XQ.bP (i:=10) (z:=.agg NV.zero.c9) (m:=4) (C:=o8 NV.zero) rfl kq rfl kq rfl (pO _) rfl ut ?_;intro bv;refine XQ.gz (i:=11) rfl kq rfl rfl rfl .aa (nh _ _) ⟨rfl,rfl⟩ oI ut ?_;refine XQ.pw 12 rfl rfl (V.assign rfl) ?_;apply XQ.done kq;apply gE;refine wd (bv) ?_ (pk [3,3,3,3,3,1,2,2,1,0]);simp_all
  ·refine XS.bP (i:=10) (z:=.agg NV.zero.c9) (m:=4) (C:=o8 NV.zero) rfl rfl kq rfl (pO _) rfl ut ?_;intro bv;apply XQ.call (i:=6) rfl kq rfl rfl (PH _ _ _ hI _) (pk [7]) kq rfl (by rintro _ _ ⟨rfl,rfl⟩<;>exact ut);rintro _ _ ⟨rfl,rfl⟩;refine XQ.mv 7 rfl rfl rfl ?_;refine XQ.pw 8 rfl rfl (V.extract rfl rfl) ?_;refine XQ.pw 9 rfl rfl (V.extract rfl rfl) ?_;refine XQ.gz (i:=11) rfl kq rfl rfl rfl (.ao .aa) (nh _ _) ⟨rfl,rfl⟩ oI ut ?_;refine XQ.pw 12 rfl rfl (V.assign rfl) ?_;apply XQ.done kq;apply gE;refine wd (bv) ?_ (pk [3,3,3,3,3,0,2,2,1,0]);simp_all
 intro y _;apply gC;apply (cd)<;>intro h3
 ·refine aO rfl rfl (ai (pk [3,3,3,3,3]) rfl ?_);grind [aR,aQ,yZ,BZ,qn,sG]
 have j0:s.cQ (NO [a,z] i).node 0=0:=Decidable.byContradiction aq;obtain⟨j1,j2,j3⟩:=FF.Am j0;obtain⟨T7,_,_⟩:=FF.XD j0;refine rq [0,1,2,3,4,5,6,7,8,9,10,11] mixed ?_;apply ld (.t3 .aa) (aM.Dy _ _);apply ld (.t8 .aa) (bd.Gg _);refine cq (agx _ _ _ _) (pk [5]) ?_;apply ld (.t9 .aa) (yV _);apply UV 49<;>intro h4;rotate_left
 apply ld (.t8 .aa) (bd.Dy _);apply (cd)<;>intro h5;rotate_left
 ·apply (sd);refine wn (i+1) ?_ ?_ (pk [1,1,1,1,1,0,0,0]);all_goals grind [yZ,NO]
 ·apply mP .aa (bd.agg _);apply mP (.ao .aa) (bd.agg _);refine XO.v (Rl rfl rfl acz) rfl (gO ?_);apply (cd)<;>intro h6
  ·have haz:a=z:=h6;refine aO rfl rfl (ai (pk [3,3,3,3,3]) rfl ?_);try dsimp only[aR,aQ,bH,bQ]
   grind [vR,qn,sG,ax]
  ·have haz:¬a=z:=h6;apply ld (.t3 .aa) (lO _ _);refine wl (σ:=Int) (fun i=>(l.length-i).toNat) (fun i=>(0<=i/\i<=l.length)/\∀ j:Int,0<=j->j<i->(rD l j).at_≠a) (fun i=>[(66,iI i),(0,ay bt 0 0),(4,ay ba 0 0),(5,ay bz 0 0),(64,.slice p l.length c),(65,iI l.length)]) (fun i=>[f8 ba a,f8 bz z,f4 bt bf r (.slice p l.length c),aN p cap 168 4 k C,bi bf 0 s,g6 s,g7 s]) (0) ?_ (pk [0,0,1,1,1,1,1]) ?_
   ·grind
   intro i hi;obtain⟨⟨hi0,hi1⟩,rK⟩:=hi;apply gC;apply (cd)<;>intro h7
   ·apply bV (.t3 .aa) og;intro g hg;subst hg;apply (sd);apply rX (.t3 .aa) (hC.ld jz _ og);apply XO.bP (z:=.agg (MT.c9 MT.nil)) (m:=4) (C:=fT MT.nil) (fT.box _);intro bm;apply gO;apply gu .aa (fT.st _ _) rfl ⟨rfl,rfl⟩;apply mP .aa (fT.mP _);apply mP (.ao .aa) (bd.agg _);refine XO.v (Rl rfl rfl acz) rfl (gO ?_);apply (cd)<;>intro h8
    ·refine aO rfl rfl (ai (pk [3,3,3,3,3]) rfl ?_);try dsimp only[aR,aQ,bH,bQ]
     grind [vR,O7,qn,sG,ax]
    ·apply (sd);refine wn (i+1) ?_ ?_ (pk (rr 7 1 []));all_goals grind
   ·apply ld (.t2 .aa) (lO _ _);apply (cd)<;>intro h9
    ·refine aO rfl rfl (ai (pk [2,2,2,2,2]) rfl ?_);try dsimp only[aR,aQ,bH,bQ]
     grind [vR,CU,qn,sG,ax]
    ·apply XC.ir mixed (f:=13) (l:= #[qF,qF,qF,qF,qF,qF,qF,qF,qF,qF,qF,qF,qF]) rfl rfl XM.kQ;refine XQ.mv 0 rfl rfl rfl ?_;refine XQ.mv 1 rfl rfl rfl ?_;refine XQ.nc 2 rfl rfl rfl ?_;refine XQ.pw 3 rfl rfl (V.fieldAddr rfl F7) ?_;refine XQ.ll 4 [9,12] rfl rfl (.t2 .aa) rfl (lO _ _) ?_;refine XQ.lf 5 [8,9,12] rfl rfl .aa rfl (bd.agg _) ?_;refine XQ.lf 6 [8,9,12] rfl rfl (.ao .aa) rfl (bd.agg _) ?_;refine XQ.pw 7 rfl rfl (V.build (vs:= #[(0,.agg (WH.c9 a)),(1,.agg (WH.c9 z))]) rfl (v:=.agg (MT.c9 ⟨a,z⟩)) fun _=>kq) ?_;refine XQ.g (i:=8) rfl kq rfl (RG.build (e:=168) (vs:= #[(0,.agg (MT.c9 ⟨a,z⟩))]) (m:=4) (A:=MT.c9 ⟨a,z⟩) rfl (fun _=>kq) rfl) rfl ut ?_;intro bn _;refine XQ.g (i:=9) rfl kq rfl (RG.append (e:=168) (v:=⟨p,cap,k,l.length,c,C⟩) (N:=4) (m:=1) (sz:=4) hv rfl rfl underlying164 kq (.t4 .aa) .aa rfl rfl og (by show l.length+1<=_;omega)) rfl ut ?_;intro u hu;obtain⟨QL,NL,hu3,hu4⟩:=hu;obtain⟨p2,qx,k2,Zg,c2,C2⟩:=u;have NL:Zg=l.length+1:=NL;subst NL;refine XQ.nc 10 rfl rfl rfl ?_;refine XQ.pw 11 rfl rfl (V.fieldAddr rfl F7) ?_;refine XQ.store (i:=12) rfl kq rfl rfl rfl (.t4 .aa) (E6 _ _ _) rfl Zj ut ?_;apply XQ.done kq;apply gE;refine rq [0,1,2,3,4,5,6] mixed ?_;apply ld (.t4 .aa) (aM.Dy _ _);apply ld (.t2 .aa) (bd.Gg _);refine ca (wv _ _ _ hI _) (pk [5,5,5]) ?_;rintro _ _ ⟨rfl,v1,hv1,pv1,cv1,rfl⟩;apply gO;refine rq [0,1,2,3,4,5,6] mixed ?_;have R6:v1.toFF.Ok d (B+1):=by rw[hv1];exact hO.dX a.node
     apply ld (.t7 .aa) (aM.Dy _ _);apply ld (.t6 .aa) (bd.Gg _);refine ca (wv _ _ v1 (R6.sh og) _) (pz 3) ?_;rintro _ _ ⟨rfl,v2,ZW,pv2,cv2,rfl⟩;apply gO;refine aO rfl rfl (ai (pk [7,3,0,0,0]) rfl ?_);have e:vR s.toFF l a z=0:=by unfold vR;rw[if_neg og,if_neg og,if_neg haz,if_neg (by rw[CU fun j a b=>rK j a og];simp),if_neg og]
     have eL:(qn s.toFF l a z)=l++[⟨a,z⟩]:=by unfold qn;rw[if_pos e]
     have eF:sG s.toFF l a z=(s.toFF.dX a.node).dX z.node:=by unfold sG;rw[if_pos e]
     exact⟨by rw[e]<;>rfl,p2,qx,k2,c2,C2,v2,by rw[eL,List.length_append];exact QL,by rw[eL];exact hC.app ⟨a,z⟩ hu3 fun i hi=>(hu4 i hi).trans (afF _ i og),by rw[eF,ZW,hv1],by rw[pv2,pv1],by rw[cv2,cv1],by rw[eL,List.length_append];rfl⟩
 all_goals
  refine aO rfl rfl (ai (pk [4,4,0,3,3]) rfl ?_);try dsimp only[aR,aQ,bH,bQ]
  have Ut:yZ s.toFF (NO [a,z] i)=11:=by unfold yZ;rw[if_neg og,if_pos (by first | (left;rw[<-T7];assumption) | (right;intro q;rw[if_pos j0]at*;exact absurd q aq))]
  grind [BZ,qn,sG,ax]
set_option maxHeartbeats 8000000 in def Zk(bt bf:Nat)(r:WH)(l:List MT)(p:Option Addr)(cap k c:Nat)(C:Nat->Value)(hv:RV.ok ⟨p,cap,k,l.length,c,C⟩)(hC:MC C l)(P1:l.length<=6)(s:FC)(d:Int->Nat)(B:Int)(hO:s.toFF.Ok d B)(hB:B<=900000)(z:WH):Fn 215 [ay bt 0 0,.agg (WH.c9 z)] [f4 bt bf r (.slice p l.length c),aN p cap 168 4 k C,bi bf 0 s,g6 s,g7 s] (fun v H1=>v=ax 102 (Az l z)/\∃ (p':Option Addr) (dv k' c':Nat) (C':Nat->Value) (u:FC),RV.ok ⟨p',dv,k',(om l z).length,c',C'⟩/\MC C' (om l z)/\u.toFF=qX s.toFF l z/\u.rP=s.rP/\u.rC=s.rC/\H1=[f4 bt bf r (.slice p' (om l z).length c'),aN p' dv 168 4 k' C',bi bf 0 u,g6 u,g7 u]):=by
 have jz:=pZ hv;have jz:l.length<=k:=jz;have hI:=hO.sh og;refine Spec.g 57 [0,3,4,5,6,10,11,12,13,20] func215 fun W=> ?_;refine XO.box (m:=2) (C:=bd (z)) rfl rfl (bd.box _) rfl ?_;intro bz;apply gO;apply ld (.ao .aa) (lO _ _);refine wl (σ:=Int) (fun i=>(l.length-i).toNat) (fun i=>(0<=i/\i<=l.length)/\∀ j:Int,0<=j->j<i->(rD l j).at_≠z) (fun i=>[(12,iI i),(0,ay bt 0 0),(3,ay bz 0 0),(10,.slice p l.length c),(11,iI l.length)]) (fun i=>[f8 bz z,f4 bt bf r (.slice p l.length c),aN p cap 168 4 k C,bi bf 0 s,g6 s,g7 s]) (0) ?_ (pz 6) ?_
 ·grind
 intro i hi;obtain⟨⟨hi0,hi1⟩,rK⟩:=hi;apply gC;apply (cd)<;>intro h1
 ·apply bV (.t2 .aa) og;intro g hg;subst hg;apply (sd);apply rX (.t2 .aa) (hC.ld jz _ og);apply XO.bP (z:=.agg (MT.c9 MT.nil)) (m:=4) (C:=fT MT.nil) (fT.box _);intro bm;apply gO;apply gu .aa (fT.st _ _) rfl ⟨rfl,rfl⟩;apply mP .aa (fT.mP _);apply mP (.ao .aa) (bd.agg _);refine XO.v (Rl rfl rfl acz) rfl (gO ?_);apply (cd)<;>intro h2
  ·refine rq [0,1,2,3,4,5,6,7,8,9,10,11,12,13,14,15,16,17,18] mixed ?_;apply rW (.t3 .aa);intro hkc;have hlc:l.length<=c:=by
    grind [RV.ok]
   apply ld (.t2 .aa) (lO _ _);refine XO.v (V4 (m:=i.toNat) rfl rfl rfl underlying164 Nv og og) rfl (gO ?_);apply ld (.t2 .aa) (lO _ _);apply (sd);refine XO.v (Lm (m:=i.toNat+1) rfl rfl underlying164 Nv og og hlc) rfl (gO ?_);apply XO.g (RG.cut (e:=168) (i:=i.toNat) (q:=c-(i.toNat+1)) hv og rfl rfl underlying164 kq (.t3 .aa) og) rfl;intro u hu;obtain⟨QL,NL,hu3,hu4⟩:=hu;obtain⟨p2,qx,k2,Zg,c2,C2⟩:=u;have NL:Zg=l.length-1:=NL;subst NL;apply gO;apply st (.t3 .aa) (E6 _ _ _) rfl;refine rq [0,1,2,3,4,5,6,7] mixed ?_;apply ld (.t3 .aa) (aM.Dy _ _);apply ld (.ao .aa) (yW _);refine ca (IQ _ _ _ hI _) (pk [4,4,4]) ?_;rintro _ _ ⟨rfl,v1,hv1,pv1,cv1,rfl⟩;apply gO;refine rq [0,1,2,3,4,5,6,7] mixed ?_;have R6:v1.toFF.Ok d (B+1):=by rw[hv1];exact hO.lI (rD l i).at_.node
   apply ld (.t6 .aa) (aM.Dy _ _);apply ld (.t4 .aa) (yX _);refine ca (IQ _ _ v1 (R6.sh og) _) (pz 3) ?_;rintro _ _ ⟨rfl,v2,ZW,pv2,cv2,rfl⟩;apply gO;refine aO rfl rfl (ai (pk [6,3,0,0,0]) rfl ?_);try dsimp only[aR,aQ,bH,bQ]
   have ei:=O8 (l:=l) ⟨hi0,og⟩ rK aq;have e:Az l z=0:=by unfold Az;rw[if_pos og]
   have eL:(om l z)=l.eraseIdx i.toNat:=by unfold om;rw[ei]
   have eF:qX s.toFF l z=(s.toFF.lI (rD l i).at_.node).lI (rD l i).to.node:=by unfold qX;rw[if_pos og,ei,show((i.toNat:Nat):Int)=i from og]
   have hle:(l.eraseIdx i.toNat).length=l.length-1:=List.length_eraseIdx_of_lt og;grind [MC.Q9,ax]
  ·apply (sd);refine wn (i+1) ?_ ?_ (pk (rr 6 1 []));all_goals grind
 ·refine aO rfl rfl (ai (pk [1,1,1,1,1]) rfl ?_);try dsimp only[aR,aQ,bH,bQ]
  have ei:=O9 (l:=l) (w:=z) fun j a b=>rK j a og;have e:Az l z=2:=by unfold Az;rw[if_neg og]
  grind [om,List.eraseIdx_of_length_le,qX,ax]
end Go.X.Tr

namespace Go.X.Kn
open Go Go.Proofs Go.X Go.X.Fa Go.X.Gr Go.X.Tr Go.X.Vm
abbrev du(a:KA)(b:KZ)(c:KC)(r:List aG):List aG:=
 (dO b.kb (kp a b c))::(dl b.gb 0 a.g)::(Sp.bY b.sb 0 a.s)::(d6 b.qb 0 c.q)::(.aV cI (SC.dI 254 c.q))::(d9 b.bb b.vp a.v.ja a.v.rf)::(Vm.d8 b.vp 0 a.v.bb.fu)::(.eJ (ka a) c.mb 34 (cN b.bb a.f c.pp c.cc))::(.aV (ka a) (rN 171 a.f c.pp c.cc))::(bi b.tb 0 c.F)::(g6 c.F)::(g7 c.F)::(dH c.rp c.rc 3 c.rl)::(Tr.el b.pi 0 a.P)::(eQ b.ob 0 b.tb b.pi a.O)::(.eJ (mF a) (fun z=>(c.t z).b) 4 (cT b.tb c.t))::(.aV (mF a) (rT 168 c.t))::r
def agR(kb:Nat)(k:KP)(n:Int)(hn:0<=n/\n<20)(x:Int)(hx:0<=x):Fn 67 [ay kb 0 (0+0+n.toNat*22),iI x] [dO kb k] (ap (iI (jQ (k.u n).fd x)) [dO kb k]):=by
 refine Spec.g 19 [0,1,4,5,8,17] func67 fun W=> ?_;refine wl (σ:=Int) (fun i=>(6-i).toNat) (fun i=>0<=i/\x<=i/\∀ j:Int,0<=j->x<=j->j<i->(k.u n).fd j≠0) (fun i=>[(5,iI i),(0,ay kb 0 (0+0+n.toNat*22))]) (fun i=>[dO kb k]) (x) ?_ .h1 ?_
 ·grind
 intro i hi;obtain⟨hi0,hxi,rK⟩:=hi;apply gC;apply (cd)<;>intro h1
 ·refine sd (ld .aa (vE _) ?_);apply (cd)<;>intro h2
  ·refine bL .h1 ?_;grind [aR,aQ,Uf]
  ·refine sd (wn (i+1) ?_ ?_ .h1);all_goals grind
 ·refine bL .h1 ?_;grind [aR,aQ,bQ,Pb]
def agS(kb:Nat)(k:KP)(n i:Int)(hf:∀ n i,0<=(k.u n).fd i/\(k.u n).fd i<=24):Fn 69 [ay kb 0 0,iI n,iI i] [dO kb k] (ap (.tuple #[iI (k.cW n i),ax 102 (k.eY n i)]) [dO kb k]):=by
 have hf1:=hf n i;refine Spec.g 41 [0,1,2,6,7,8,9,17,24,32] func69 fun W=> ?_;refine ca (fm kb _ _) .h1 ?_;rintro _ _ ⟨⟨hl,rfl⟩ | ⟨hl,rfl⟩,rfl⟩
 obtain⟨kL,iw⟩:=bM hl;apply gO;apply UV 21<;>intro h1;rotate_left
 apply (cd)<;>intro h2;rotate_left
 apply (sd);refine ld .aa (vE _) ?_;apply (cd)<;>intro h3;rotate_left
 ·apply (sd);refine ld .aa (vE _) ?_;apply (sd);refine fg .h1 ?_;grind [aR,aQ,bQ,KP.eY,KP.rE,ax]
 apply gO;rotate_left;all_goals refine fg .h1 ?_;grind [aR,aQ,bQ,KP.eY,KP.cW,ax]
def P3(a:KA)(b:KZ)(c:KC)(N:Nat)(T:Int)(hw:a.Wk T)(hc:cP a c N T)(hT:T<=900000)(n co:Int)(hl:(a.u n).st=1):Fn 129 [ay b.kb 0 0,iI n,iI co] (du a b c []) (fun v H1=>∃ c1:KC,cP (a.cH n co) c1 N T/\H1=(du (a.cH n co) b c1 [])):=by
 have hn:0<=n/\n<20:=by
  by_cases e:n<0\/20<=n
  ·rw[hw.out n e]at hl;exact absurd hl dq
  omega
 have mI:=qo a b c (n:=n);have hz:=hw.sys.mo n.toNat og;refine Spec.g 70 [0,1,2,6,7,9,10,37,38,39,43] func129 fun W=> ?_;refine sd (XR.mono (fun _ bR=>lz (z:=n.toNat) (fS hn) (pk [7,7]) bR) ?_);refine ld (.t4 .aa) (dQ _ og mI) ?_;refine ca (Nq b.bb b.vp (c.mb n.toNat) a.v hw.sys.jM.ok _ _ (a.f n.toNat) hz (hw.sys.In og) 0 16) (pk [9,9,0,0]) ?_;rintro _ _ ⟨rfl,pu,cu,rfl⟩;apply gO;refine rq [0,1,2,3,4,5,6,7,8,9] mixed (ld (.t6 .aa) (fa _) (ld (.t6 .aa) (dL _) ?_));refine cq (n5 _ _ a.g hw.gI.ok _ _ _ (1000*T) (by have:=hw.T0;omega) hw.gS) (pk [7]) ?_;refine mP (.t7 .aa) (tW _) ?_;refine lp (σ:=Int×FC) (fun x=>(6-x.1).toNat) (fun x=>(0<=x.1/\x.1<=6)/\x.2.toFF.Ok c.dF T/\x.2.rP=c.rp/\x.2.rC=c.rc/\x.2.roots=c.rl) (fun x=>[(38,iI x.1),(0,ay b.kb 0 0),(1,iI n),(2,iI co),(6,ay b.kb 0 (0+0+n.toNat*22)),(37,.agg (Vg (a.u n).fd))]) (fun x=>XM W (cx (du a b c [])) [dO b.kb ((kp a b c).put n {(kp a b c).u n with fd:=Dj (a.u n).fd x.1}),dl b.gb 0 (a.g.eb (a.u n).cO 0 (a.um n).1),Sp.bY b.sb 0 a.s,d6 b.qb 0 c.q,.aV cI (SC.dI 254 c.q),d9 b.bb b.vp (a.um n).2.2.1.ja (a.um n).2.2.1.rf,Vm.d8 b.vp 0 (a.um n).2.2.1.bb.fu,d7 (c.mb n.toNat) b.bb pu (Vm.aj (a.um n).2.2.2.az).length cu (a.um n).2.2.2.fr (a.um n).2.2.2.aU,gc pu cu (Vm.aj (a.um n).2.2.2.az),.eJ (jS (ka a) n.toNat) c.mb 34 (cN b.bb a.f c.pp c.cc),.aV (jS (ka a) n.toNat) (rN 171 a.f c.pp c.cc),bi b.tb 0 x.2,g6 x.2,g7 x.2,dH c.rp c.rc 3 c.rl,Tr.el b.pi 0 (zj (a.u n).fd a.O a.P x.1.toNat).2,eQ b.ob 0 b.tb b.pi (zj (a.u n).fd a.O a.P x.1.toNat).1,.eJ (mF a) (fun z=>(c.t z).b) 4 (cT b.tb c.t),.aV (mF a) (rT 168 c.t)]) ((0,c.F)) ?_ S6 (fun _ mK=>by rw[afM];exact XM.pick (pk (7::0::6::6::6::rr 14 0 [])) mK) ?_
 ·grind [cP.F,cP.rp,cP.rc,cP.rl]
 intro x hx;obtain⟨hi,hF,hFp,hFc,hFr⟩:=hx;have hfd:=hw.fd n x.1;apply gC;apply (cd)<;>intro h1
 ·refine XO.v (mu rfl rfl underlying83 o4 kq) rfl (gO ?_);apply (cd)<;>intro h2
  ·have h6:=h2;refine ld .aa (gw _) (sd ?_);refine ca (R3 _ _ _ _ _ T og (ug hw.OI hw.PI x.1.toNat).1 x.2 (hF.sh og) T og _ (ug hw.OI hw.PI x.1.toNat).2 ((a.u n).fd x.1-1)) (pk [16,11,11,11,12]) ?_;rintro _ _ ⟨rfl,F1,P4,RZ,Kf,rfl⟩;apply gO;refine sd (st (.t5 .aa) (mB _ og og _) rfl (sd (ag ((x.1+1,F1)) ?_ ?_ S6 fun _ mK=>by show XM _ _ [_,_,_,_,_,_,_,_,_,_,_,_,_,_,_,Tr.el b.pi 0 (zj (a.u n).fd a.O a.P (x.1+1).toNat).2,eQ b.ob 0 b.tb b.pi (zj (a.u n).fd a.O a.P (x.1+1).toNat).1,_,_] _;rw[abT _ _ hi.1 h6,<-afN a b c hi.1 h6];exact XM.pick (pk (rr 11 5 [1,1,1,2,1,0,0,0])) mK)))
   ·omega
   ·exact⟨(by show 0<=x.1+1/\x.1+1<=6;omega),(by show F1.toFF.Ok c.dF T;rw[P4];exact FF.Ok.vT hF _ _),RZ.trans hFp,Kf.trans hFc,(by show F1.toFF.roots=_;rw[P4,Ax];exact hFr)⟩
  ·have h6:=h2;refine sd (ag ((x.1+1,x.2)) ?_ ?_ S6 fun _ mK=>by show XM _ _ [dO b.kb ((kp a b c).put n {(kp a b c).u n with fd:=Dj (a.u n).fd (x.1+1)}),_,_,_,_,_,_,_,_,_,_,_,_,_,_,Tr.el b.pi 0 (zj (a.u n).fd a.O a.P (x.1+1).toNat).2,eQ b.ob 0 b.tb b.pi (zj (a.u n).fd a.O a.P (x.1+1).toNat).1,_,_] _;rw[X6 _ _ hi.1 h6,<-X5 _ h6];exact XM.pick (pz 19) mK);all_goals grind
 ·refine ld .aa (fv _) ?_;refine ca (PM _ _ c.q c.d hc.qO.inv hc.qR n) (pk [3,3]) ?_;rintro _ _ ⟨rfl,t,ht,hr,rfl⟩;apply gO;refine st (.t2 .aa) (Mi _ og _) rfl (st (.t2 .aa) (GP _ og _) rfl (XR.mono (fun _ bR=>mZ (a.um n).2.2.2 (fS hn) (pk [7,7,7,7]) bR) ?_));refine dy rfl (ai (pk (4::4::4::2::2::2::2::rr 10 0 [])) rfl ?_);have hx6:x.1=6:=og;refine⟨{c with q:=t,F:=x.2,pp:=bD c.pp n.toNat pu,cc:=bD c.cc n.toNat cu},⟨(by show t.toSF.Ok _ _ _;rw[ht];exact hc.qO.xW og _),hr,hF,hFp,hFc,hFr,hc.tb,hc.aiR ht⟩,?_⟩;rw[hx6];try unfold du
  rw[afO a b c hl hn,abU a hl];all_goals rfl
open Go.X.Sp
def Kr(a:KA)(b:KZ)(c:KC)(N:Nat)(T:Int)(hw:a.Wk T)(hc:cP a c N T)(hT:T<=900000)(n:Int)(hn:0<=n/\n<20)(hs:(a.u n).st≠0):Fn 64 [ay b.kb 0 0,iI n] (du a b c []) (fun v H1=>H1=(du (a.dD n) b c [])):=by
 refine Spec.g 28 [0,1] func64 fun W=> ?_;refine rq [0,1,2,3,4,5,6,7,8,9,10,11] mixed (ld .aa (fa _) (sd (ld .aa (dL _) ?_)));refine cq (n5 _ _ a.g hw.gI.ok _ _ _ (1000*T) (by have:=hw.T0;omega) hw.gS) (pk [1]) ?_;apply ld (.ao .aa) (aB.uS _);refine cq (ab8 _ _ a.s a.aK hw.sI.D n (fun a1 b1 c1=>⟨(hw.sI.loc n).2,hw.sI.at_ n a1 b1 c1⟩) fun a1 m q e=>by have h9:=hw.sI.mem m q n a1 e;exact⟨h9.2.2.2.2,og,h9.2.2.1⟩) (pk [2]) ?_;refine XO.v (V.build (vs:= #[]) rfl (v:=.agg PU.nil.c9) fun _=>kq) rfl (gO ?_);refine sd (gu (.t2 .aa) (aB.EH _ og PU.nil) rfl ⟨rfl,rfl⟩ (XR.mono (fun _ bR=>lz (z:=n.toNat) (fS hn hs) (pk [7,7]) bR) ?_));refine dy rfl (ai (pk (6::5::4::4::4::4::4::rr 10 2 [])) rfl ?_);try unfold du
 rw[abV,X8 a hn,X7];rfl
def acE(a:KA)(b:KZ)(c:KC)(N:Nat)(T:Int)(hw:a.Wk T)(hc:cP a c N T)(hT:T<=900000)(z:Int)(hd:(a.s.drop z).1=0)(hz:0<=z/\z<6)(hh:a.s.aa z=true)(hs:(a.s.drop z).2= {a.s with aa:=ad a.s.aa z false,aA:=ad a.s.aA z 0}):Fn 65 [ay b.kb 0 0,iI z] (du a b c []) (fun v H1=>∃ c1:KC,cP (a.ea z) c1 N T/\H1=(du (a.ea z) b c1 [])):=by
 have jc:=hc.tb z hz.1 hz.2 hh;refine Spec.g 23 [0,1,10] func65 fun W=> ?_;apply ld .aa (aB.uS _);refine cq (YD _ _ a.s z) (pk [2]) ?_;refine cdT rfl (hd) (XR.mono (fun _ bR=>iv (z:=z.toNat) (eG hz hh) (pk [15,15]) bR) ?_);refine sd (ld (.t5 .aa) (uh _ hz (Ya a b c hh)) ?_);refine ca (R7 _ _ _ _ _ _ _ _ _ jc.rv jc.mc jc.len c.F c.dF T hc.F hT) (pk [0,0,11,11,11]) ?_;rintro _ _ ⟨rfl,F1,P4,R6,RZ,Kf,rfl⟩;apply gO;refine sd (st (.t8 .aa) (vG _ hz _) rfl (dy rfl (ai (pk [8,8,7,7,7,7,7,7,7,2,2,2,4,4,4,2,2]) rfl ?_)));try dsimp only[aR,aQ,bH,bQ]
 refine⟨{c with F:=F1},⟨hc.qO,hc.qR,(by show F1.toFF.Ok _ _;rw[P4];exact FF.Ok.abR hc.F _ _),RZ.trans hc.rp,Kf.trans hc.rc,(by show F1.toFF.roots=_;rw[P4,uE];exact hc.rl),fun y h0 h1 h2=>hc.tb y h0 h1 (AE h2),hc.tk⟩,?_⟩;try unfold du
 rw[abW a b c hs,X9 hz hs];rfl
def acF(a:KA)(b:KZ)(c:KC)(N:Nat)(T:Int)(hw:a.Wk T)(hc:cP a c N T)(hT:T<=900000)(z:Int)(hd:(a.s.drop z).1≠0)(hs:(a.s.drop z).2=a.s):Fn 65 [ay b.kb 0 0,iI z] (du a b c []) (fun v H1=>∃ c1:KC,cP (a.ea z) c1 N T/\H1=(du (a.ea z) b c1 [])):=by
 refine Spec.g 23 [0,1,10] func65 fun W=> ?_;apply ld .aa (aB.uS _);refine cq (YD _ _ a.s z) (pk [2]) ?_;refine KJ rfl (hd) (dy rfl (ai (pk (1::1::rr 15 0 [])) rfl ?_));have e:a.ea z=a:=by unfold KA.ea;rw[hs]
 rw[e,hs];exact⟨c,hc,rfl⟩
def R8(a:KA)(b:KZ)(c:KC)(N:Nat)(T:Int)(hw:a.Wk T)(hc:cP a c N T)(hT:T<=900000)(z:Int):Fn 65 [ay b.kb 0 0,iI z] (du a b c []) (fun v H1=>∃ c1:KC,cP (a.ea z) c1 N T/\H1=(du (a.ea z) b c1 [])):=by
 rcases SS.uf a.s z with⟨hd,hs⟩ | ⟨hd,hz,hz0,hh,hs,_,_⟩
 ·exact acF a b c N T hw hc hT z hd hs
 ·exact acE a b c N T hw hc hT z hd hz hh hs
def Zl(a:KA)(b:KZ)(c:KC)(N:Nat)(T:Int)(hw:a.Wk T)(hc:cP a c N T)(hT:T<=900000)(z h:Int):Fn 130 [ay b.kb 0 0,iI z,iI h] (du a b c []) (fun v H1=>∃ c1:KC,cP (a.eH z h) c1 N T/\H1=(du (a.eH z h) b c1 [])):=by
 refine Spec.g 62 [0,2,6,9,11,21,22,23,24,29,37,45,46,51,52,53,54] func130 fun W=> ?_;refine ld .aa (aB.uS _) ?_;refine ca (UB _ _ a.s z) (pk [2]) ?_;rintro _ _ ⟨p0,ajz,rfl,rfl⟩;have hlen:(a.s.mem z).1.length<=21:=Sp.SS.aa1 _ _;apply gO;refine wl (σ:=Int×KA×KC) (fun x=>((a.s.mem z).1.length-x.1).toNat) (fun x=>(0<=x.1/\x.1<=(a.s.mem z).1.length)/\x.2.1=(((a.s.mem z).1.take x.1.toNat).foldl (KA.eN h) a)/\x.2.1.Wk T/\cP x.2.1 x.2.2 N T) (fun x=>[(23,iI x.1),(0,ay b.kb 0 0),(2,iI h),(21,.slice p0 (a.s.mem z).1.length ajz),(22,iI (a.s.mem z).1.length)]) (fun x=>[dH p0 ajz 3 (a.s.mem z).1,dO b.kb (kp x.2.1 b x.2.2),dl b.gb 0 x.2.1.g,Sp.bY b.sb 0 x.2.1.s,d6 b.qb 0 x.2.2.q,.aV cI (SC.dI 254 x.2.2.q),d9 b.bb b.vp x.2.1.v.ja x.2.1.v.rf,Vm.d8 b.vp 0 x.2.1.v.bb.fu,.eJ (ka x.2.1) x.2.2.mb 34 (cN b.bb x.2.1.f x.2.2.pp x.2.2.cc),.aV (ka x.2.1) (rN 171 x.2.1.f x.2.2.pp x.2.2.cc),bi b.tb 0 x.2.2.F,g6 x.2.2.F,g7 x.2.2.F,dH x.2.2.rp x.2.2.rc 3 x.2.2.rl,Tr.el b.pi 0 x.2.1.P,eQ b.ob 0 b.tb b.pi x.2.1.O,.eJ (mF x.2.1) (fun z=>(x.2.2.t z).b) 4 (cT b.tb x.2.2.t),.aV (mF x.2.1) (rT 168 x.2.2.t)]) ((0,a,c)) ?_ (pk (0::1::1::rr 15 0 [])) ?_
 ·simp_all
 intro x hx;obtain⟨hi,hga,hgw,hcx⟩:=hx;apply gC;apply (cd)<;>intro h1
 ·refine bV .aa og ?_;intro g1 h2;subst h2;refine sd (Cx .aa (ints_at) ?_);have hm9:=hw.y9 z (Vm.tE (l:=(a.s.mem z).1) (i:=x.1) og);have hm:=hm9.1;have hms:(x.2.1.u (jK (a.s.mem z).1 x.1)).st≠0:=by rw[hga,H8 a h (Yb (pA hw.sI z) og)];exact hm9.2
  apply (cd)<;>intro h3
  ·have pf:KA.eN h x.2.1 (jK (a.s.mem z).1 x.1)=x.2.1:=if_pos h3;refine sd (wn ((x.1+1,x.2.1,x.2.2)) ?_ ?_ (pz 18));all_goals grind [xe]
  ·have hnh:=h3;refine sd (ld (.ao .aa) (gY _) ?_);apply (cd)<;>intro h4
   ·have pf:KA.eN h x.2.1 (jK (a.s.mem z).1 x.1)=(x.2.1.cH (jK (a.s.mem z).1 x.1) 0).dD (jK (a.s.mem z).1 x.1):=by unfold KA.eN;rw[if_neg hnh,if_pos (show(x.2.1.u (jK (a.s.mem z).1 x.1)).st=1 from h4)]
    refine ca (P3 x.2.1 b x.2.2 N T hgw hcx hT (jK (a.s.mem z).1 x.1) 0 aq) (pk (rr 17 1 [])) ?_;rintro _ _ ⟨c1,ia,rfl⟩;apply gO;refine ca (Kr (x.2.1.cH (jK (a.s.mem z).1 x.1) 0) b c1 N T (hgw.cH hm aq 0) ia hT (jK (a.s.mem z).1 x.1) hm (by rw[lX];decide)) (pz 17) ?_;rintro _ _ rfl;apply gO;refine sd (wn ((x.1+1,(x.2.1.cH (jK (a.s.mem z).1 x.1) 0).dD (jK (a.s.mem z).1 x.1),c1)) ?_ ?_ (pk (17::rr 17 0 [])))
    ·omega
    ·exact⟨(by show 0<=x.1+1/\x.1+1<=_;omega),(by rw[xe og,Pc,<-hga,pf]),(hgw.cH hm aq 0).dD hm (by rw[lX];decide),ia.Yc (by rw[lX];decide)⟩
   ·have hn1:(x.2.1.u (jK (a.s.mem z).1 x.1)).st≠1:=h4;have pf:KA.eN h x.2.1 (jK (a.s.mem z).1 x.1)=x.2.1.dD (jK (a.s.mem z).1 x.1):=by unfold KA.eN;rw[if_neg hnh,if_neg hn1]
    refine ca (Kr x.2.1 b x.2.2 N T hgw hcx hT (jK (a.s.mem z).1 x.1) hm aq) (pk (rr 17 1 [])) ?_;rintro _ _ rfl;apply gO;refine sd (wn ((x.1+1,x.2.1.dD (jK (a.s.mem z).1 x.1),x.2.2)) ?_ ?_ (pk (17::rr 17 0 [])));all_goals grind [xe,KA.Wk.dD,cP.Yc]
 ·refine wl (σ:=Int×KA×KC) (fun x=>(4-x.1).toNat) (fun x=>(0<=x.1/\x.1<=4)/\x.2.1=((a.dY z h).dS x.1.toNat)/\x.2.1.Wk T/\cP x.2.1 x.2.2 N T) (fun x=>[(45,iI x.1),(0,ay b.kb 0 0)]) (fun x=>du x.2.1 b x.2.2 []) ((0,x.2.1,x.2.2)) ?_ (pk (rr 17 1 [])) ?_
  ·exact⟨sq,(by rw[hga,List.take_of_length_le og];rfl),hgw,hcx⟩
  intro x hx;obtain⟨hi,hga,hgw,hcx⟩:=hx;apply gC;apply (cd)<;>intro h5
  ·refine ld .aa (aB.uS _) ?_;refine ca (ad5 _ _ x.2.1.s) (pk [2]) ?_;rintro _ _ ⟨p1,ajA,rfl,rfl⟩;have anQ:=Sp.mw x.2.1.s.aa 6;apply gO;refine wl (σ:=Int×KA×KC) (fun y=>((Sp.fF x.2.1.s.aa 6).length-y.1).toNat) (fun y=>(0<=y.1/\y.1<=(Sp.fF x.2.1.s.aa 6).length)/\y.2.1=(((Sp.fF x.2.1.s.aa 6).take y.1.toNat).foldl KA.ea x.2.1)/\y.2.1.Wk T/\cP y.2.1 y.2.2 N T) (fun y=>[(53,iI y.1),(0,ay b.kb 0 0),(45,iI x.1),(51,.slice p1 (Sp.fF x.2.1.s.aa 6).length ajA),(52,iI (Sp.fF x.2.1.s.aa 6).length)]) (fun y=>[dH p1 ajA 3 (Sp.fF x.2.1.s.aa 6),dO b.kb (kp y.2.1 b y.2.2),dl b.gb 0 y.2.1.g,Sp.bY b.sb 0 y.2.1.s,d6 b.qb 0 y.2.2.q,.aV cI (SC.dI 254 y.2.2.q),d9 b.bb b.vp y.2.1.v.ja y.2.1.v.rf,Vm.d8 b.vp 0 y.2.1.v.bb.fu,.eJ (ka y.2.1) y.2.2.mb 34 (cN b.bb y.2.1.f y.2.2.pp y.2.2.cc),.aV (ka y.2.1) (rN 171 y.2.1.f y.2.2.pp y.2.2.cc),bi b.tb 0 y.2.2.F,g6 y.2.2.F,g7 y.2.2.F,dH y.2.2.rp y.2.2.rc 3 y.2.2.rl,Tr.el b.pi 0 y.2.1.P,eQ b.ob 0 b.tb b.pi y.2.1.O,.eJ (mF y.2.1) (fun z=>(y.2.2.t z).b) 4 (cT b.tb y.2.2.t),.aV (mF y.2.1) (rT 168 y.2.2.t)]) ((0,x.2.1,x.2.2)) ?_ (pk (0::1::1::rr 15 0 [])) ?_
   ·simp_all
   intro y hy;obtain⟨hj,al6,hgy,hcy⟩:=hy;apply gC;apply (cd)<;>intro h6
   ·refine bV .aa og ?_;intro g2 h7;subst h7;refine sd (Cx .aa (ints_at) ?_);refine ca (R8 y.2.1 b y.2.2 N T hgy hcy hT _) (pk (rr 17 1 [])) ?_;rintro _ _ ⟨c1,ia,rfl⟩;apply gO;refine sd (wn ((y.1+1,y.2.1.ea (jK (Sp.fF x.2.1.s.aa 6) y.1),c1)) ?_ ?_ (pk (17::rr 17 0 [])));all_goals grind [xe,KA.Wk.ea]
   ·refine sd (wn ((x.1+1,y.2.1,y.2.2)) ?_ ?_ (pk (rr 17 1 [])))
    ·omega
    ·exact⟨(by show 0<=x.1+1/\x.1+1<=4;omega),(by show y.2.1=_;rw[E8 _ hi.1,<-hga,al6,List.take_of_length_le og];rfl),hgy,hcy⟩
  ·refine dy rfl (ai (pz 17) rfl ?_);grind [KA.eH]
end Go.X.Kn

namespace Go.X.Kn
open Go Go.Proofs Go.X Go.X.Sg
def UN(kb:Nat)(k:KP)(s:Sp.SS)(n:Int)(hn:0<=n/\n<20)(hz:(k.u n).bx.dc 0=false)(o:Bool)(he:(k.u n).bx.first 0=0):Fn 74 [ay kb 0 0,iI n,.bool o] [dO kb k,Sp.bY k.sb 0 s,g8] (fun v H1=>H1=[dO kb k,Sp.bY k.sb 0 s]):=by
 refine Spec.g 36 [0,1,2,6,7,30] func74 fun W=> ?_;refine XR.mono (fun _ bR=>kX (n:=n) og .h1 bR) ?_;apply (sd);refine KK 1 (FN kb (0+kK n) _ hz) (pk [0,3]) rfl ?_;refine XR.mono (fun _ bR=>oD (n:=n) og (pk [0,1,1]) bR) ?_;refine spF 19 rfl og (dy rfl (ai (pk [0,1]) rfl ?_));rfl
def UO(kb:Nat)(k:KP)(s:Sp.SS)(n:Int)(hn:0<=n/\n<20)(hz:(k.u n).bx.dc 0=false)(he:¬(k.u n).bx.first 0=0)(hh:(s.find (s.bZ n).1 1).1=n):Fn 74 [ay kb 0 0,iI n,.bool false] [dO kb k,Sp.bY k.sb 0 s,g8] (fun v H1=>H1=[dO kb k,Sp.bY k.sb 0 s]):=by
 refine Spec.g 36 [0,1,2,6,7,30] func74 fun W=> ?_;refine XR.mono (fun _ bR=>kX (n:=n) og .h1 bR) ?_;apply (sd);refine KK 1 (FN kb (0+kK n) _ hz) (pk [0,3]) rfl ?_;refine XR.mono (fun _ bR=>oD (n:=n) og (pk [0,1,1]) bR) ?_;refine SH 19 rfl og ?_;refine cq (kH kb k s n) (pk [0,1]) ?_;refine cq (Cl kb k s _) (pz 2) ?_;refine KJ rfl og (dy rfl (ai (pz 2) rfl ?_));rfl
def UP(kb:Nat)(k:KP)(s:Sp.SS)(n:Int)(hn:0<=n/\n<20)(hz:(k.u n).bx.dc 0=false)(o:Bool)(hq:(k.u n).bx.first 0=0\/(o=false/\(s.find (s.bZ n).1 1).1=n)):Fn 74 [ay kb 0 0,iI n,.bool o] [dO kb k,Sp.bY k.sb 0 s,g8] (fun v H1=>H1=[dO kb k,Sp.bY k.sb 0 s]):=by
 by_cases he:(k.u n).bx.first 0=0
 ·exact UN kb k s n hn hz o he
 ·obtain⟨ho,hh⟩:=hq.resolve_left he;subst ho;exact UO kb k s n hn hz he hh
def R9(kb:Nat)(k:KP)(s:Sp.SS)(n sig:Int)(o:Bool)(hz:k.aF n=0->(k.u n).bx.dc 0=false)(hq:k.aF n=0->(((k.u n).bx.send sig).2.first 0=0\/(o=false/\(s.find (s.bZ n).1 1).1=n))):Fn 71 [ay kb 0 0,iI n,iI sig,.bool o] [dO kb k,Sp.bY k.sb 0 s,g8] (fun v H1=>H1=[dO kb (if k.aF n=0 then k.box n ((k.u n).bx.send sig).2 else k),Sp.bY k.sb 0 s]):=by
 refine Spec.g 27 [0,1,2,3,8,9,17] func71 fun W=> ?_;refine ca (fm kb _ _) .h1 ?_;rintro _ _ ⟨⟨hl,rfl⟩ | ⟨hl,rfl⟩,rfl⟩
 ·obtain⟨kL,iw⟩:=bM hl;apply gO;refine XR.mono (fun _ bR=>kX (n:=n) og .h1 bR) ?_;refine cq (YI kb (0+kK n) _ sig) .h1 ?_;refine XR.mono (fun _ bR=>nQ (n:=n) og (pz 3) bR) ?_;refine yy 2 (UP kb (k.box n ((k.u n).bx.send sig).2) s n kL (by unfold KP.box;rw[KP.uB];exact nW _ _ (hz hl)) o (by unfold KP.box;rw[KP.uB];exact hq hl)) (pz 3) rfl ?_;rintro _ _ rfl;apply gO;refine dy rfl (ai (pz 2) rfl ?_);rw[if_pos hl];rfl
 ·apply gO;refine rt0 (pz 2) ?_;simp_all
open Go.X.Fa Go.X.Gr Go.X.Tr Go.X.Vm
attribute [local irreducible] KA.eH
theorem Sa(a:KA)(b:KZ)(c:KC)(p:Int):((du (a.ko p) b c []):List aG)=[dO b.kb (if(kp a b c).aF p=0 then(kp a b c).box p (((kp a b c).u p).bx.send 3).2 else kp a b c),dl b.gb 0 a.g,Sp.bY b.sb 0 a.s,d6 b.qb 0 c.q,.aV cI (SC.dI 254 c.q),d9 b.bb b.vp a.v.ja a.v.rf,Vm.d8 b.vp 0 a.v.bb.fu,.eJ (ka a) c.mb 34 (cN b.bb a.f c.pp c.cc),.aV (ka a) (rN 171 a.f c.pp c.cc),bi b.tb 0 c.F,g6 c.F,g7 c.F,dH c.rp c.rc 3 c.rl,Tr.el b.pi 0 a.P,eQ b.ob 0 b.tb b.pi a.O,.eJ (mF a) (fun z=>(c.t z).b) 4 (cT b.tb c.t),.aV (mF a) (rT 168 c.t)]:=by
 have e:kp (a.ko p) b c=(if(kp a b c).aF p=0 then(kp a b c).box p (((kp a b c).u p).bx.send 3).2 else kp a b c):=(afP a b c p).symm;try unfold du
 rw[e,abY];by_cases h:a.aF p=0
 ·have h2:a.ko p=a.jr p ((a.u p).bx.send 3).2:=if_pos h;rw[h2];rfl
 grind [KA.ko]
def acG(a:KA)(b:KZ)(c:KC)(N:Nat)(T:Int)(hw:a.Wk T)(hc:cP a c N T)(hT:T<=900000)(n co:Int)(hl:(a.u n).st=1)(hx:a.Hx n)(hh:a.head n≠n):Fn 63 [ay b.kb 0 0,iI n,iI co] (du a b c [g8]) (fun v H1=>∃ c2:KC,cP (a.db n co) c2 N T/\H1=(du (a.db n co) b c2 [])):=by
 have hn:0<=n/\n<20:=by
  by_cases e:n<0\/20<=n
  ·rw[hw.out n e]at hl;exact absurd hl dq
  omega
 have KY:=hw.cH hn hl co;have he1:a.gG n co=(a.cH n co):=by unfold KA.gG;rw[if_neg hh]
 have bR:((a.cH n co).de n (a.head n)).Wk T:=by rw[<-he1];exact(hw.gG hn hl co).de _ _
 have Z8:((a.cH n co).de n (a.head n)).Hx n:=by rw[<-he1];exact(hx.gG co).de _ _
 have agT:(((a.cH n co).de n (a.head n)).u n).st≠1:=by rw[<-he1,(dE _ _ _ _).1];exact Fb a n co
 refine Spec.g 65 [0,1,2,6,7,8,21,26,27,47] func63 fun W=> ?_;refine cq (kH b.kb (kp a b c) a.s n) (pk [0,1]) ?_;refine cq (Cl b.kb (kp a b c) a.s _) (pz 2) ?_;refine ca (P3 a b c N T hw hc hT n co hl) (pk (0::1::rr 15 0 [])) ?_;rintro _ _ ⟨c2,C7,rfl⟩;apply gO;refine KJ rfl (hh) ?_;refine lp (σ:=Int) (fun i=>(20-i).toNat) (fun i=>0<=i/\i<=20) (fun i=>[(26,iI i),(0,ay b.kb 0 0),(1,iI n),(7,iI (a.head n))]) (fun i=>XM W (cx (du a b c [g8])) [dO b.kb ((kp (a.cH n co) b c2).kY n (a.head n) i),dl b.gb 0 (a.cH n co).g,Sp.bY b.sb 0 (a.cH n co).s,d6 b.qb 0 c2.q,.aV cI (SC.dI 254 c2.q),d9 b.bb b.vp (a.cH n co).v.ja (a.cH n co).v.rf,Vm.d8 b.vp 0 (a.cH n co).v.bb.fu,.eJ (ka (a.cH n co)) c2.mb 34 (cN b.bb (a.cH n co).f c2.pp c2.cc),.aV (ka (a.cH n co)) (rN 171 (a.cH n co).f c2.pp c2.cc),bi b.tb 0 c2.F,g6 c2.F,g7 c2.F,dH c2.rp c2.rc 3 c2.rl,Tr.el b.pi 0 (a.cH n co).P,eQ b.ob 0 b.tb b.pi (a.cH n co).O,.eJ (mF (a.cH n co)) (fun z=>(c2.t z).b) 4 (cT b.tb c2.t),.aV (mF (a.cH n co)) (rT 168 c2.t),g8]) (0) ?_ S4 (fun _ mK=>by rw[yc];exact XM.pick (pz 18) mK) ?_
 ·omega
 intro i hi;apply gC;apply (cd)<;>intro h1
 ·refine sd (ld .aa (gY _) ?_);apply UV 37<;>intro h2
  ·rw[jP _ _ _ (Int.le_refl _)]at h2;have h81:=h2;refine sd (ld .aa (mY _) ?_);apply (cd)<;>intro h3
   ·rw[jP _ _ _ (Int.le_refl _)]at h3;have h82:=h3;refine sd (st .aa (Af _ og _) rfl (sd (ag (i+1) ?_ ?_ S4 fun _ mK=>by rw[<-KP.HP _ _ _ hi.1 h81 h82];exact XM.pick (pz 18) mK)));all_goals omega
   ·rw[jP _ _ _ (Int.le_refl _)]at h3;have h82:=h3;refine sd (ag (i+1) ?_ ?_ S4 fun _ mK=>by rw[oe _ _ _ fun c=>h82 c.2];exact XM.pick (pz 18) mK);all_goals omega
  ·rw[jP _ _ _ (Int.le_refl _)]at h2;have h81:=h2;refine sd (ag (i+1) ?_ ?_ S4 fun _ mK=>by rw[oe _ _ _ fun c=>h81 c.1];exact XM.pick (pz 18) mK);all_goals omega
 ·have agW:i=20:=og;subst agW;try unfold du
  rw[MR];refine sd (ld .aa (mY _) ?_);refine yy 2 (R9 b.kb (kp ((a.cH n co).de n (a.head n)) b c2) (a.cH n co).s ((((a.cH n co).de n (a.head n)).u n).aA) 3 false (fun q=>bR.bx _) fun q=>Ib bR Z8 agT q) (pk [0,1,15]) rfl ?_;rintro _ _ rfl;apply gO;refine dy rfl (ai (pk (0::2::0::rr 14 1 [])) rfl ?_);have hA:a.db n co=((a.cH n co).de n (a.head n)).ko (((a.cH n co).de n (a.head n)).u n).aA:=by unfold KA.db;rw[he1]
  rw[hA];refine⟨c2,C7.gK _ _ _,?_⟩;change _=du (KA.ko _ _) _ _ [];rw[Sa,Ia,Ic];rfl
def acI(a:KA)(b:KZ)(c:KC)(N:Nat)(T:Int)(hw:a.Wk T)(hc:cP a c N T)(hT:T<=900000)(n co:Int)(hl:(a.u n).st=1)(hx:a.Hx n)(hh:a.head n=n):Fn 63 [ay b.kb 0 0,iI n,iI co] (du a b c [g8]) (fun v H1=>∃ c2:KC,cP (a.db n co) c2 N T/\H1=(du (a.db n co) b c2 [])):=by
 have hn:0<=n/\n<20:=by
  by_cases e:n<0\/20<=n
  ·rw[hw.out n e]at hl;exact absurd hl dq
  omega
 have KY:=hw.cH hn hl co;have he1:a.gG n co=((a.cH n co).eH (a.s.bZ n).1 n):=by unfold KA.gG;rw[if_pos hh]
 have bR:(((a.cH n co).eH (a.s.bZ n).1 n).de n (a.head n)).Wk T:=by rw[<-he1];exact(hw.gG hn hl co).de _ _
 have Z8:(((a.cH n co).eH (a.s.bZ n).1 n).de n (a.head n)).Hx n:=by rw[<-he1];exact(hx.gG co).de _ _
 have agT:((((a.cH n co).eH (a.s.bZ n).1 n).de n (a.head n)).u n).st≠1:=by rw[<-he1,(dE _ _ _ _).1];exact Fb a n co
 refine Spec.g 65 [0,1,2,6,7,8,21,26,27,47] func63 fun W=> ?_;refine cq (kH b.kb (kp a b c) a.s n) (pk [0,1]) ?_;refine cq (Cl b.kb (kp a b c) a.s _) (pz 2) ?_;refine ca (P3 a b c N T hw hc hT n co hl) (pk (0::1::rr 15 0 [])) ?_;rintro _ _ ⟨c1,ia,rfl⟩;apply gO;refine cdT rfl (hh) ?_;refine ca (Zl (a.cH n co) b c1 N T KY ia hT _ n) (pz 17) ?_;rintro _ _ ⟨c2,C7,rfl⟩;apply gO;refine lp (σ:=Int) (fun i=>(20-i).toNat) (fun i=>0<=i/\i<=20) (fun i=>[(26,iI i),(0,ay b.kb 0 0),(1,iI n),(7,iI (a.head n))]) (fun i=>XM W (cx (du a b c [g8])) [dO b.kb ((kp ((a.cH n co).eH (a.s.bZ n).1 n) b c2).kY n (a.head n) i),dl b.gb 0 ((a.cH n co).eH (a.s.bZ n).1 n).g,Sp.bY b.sb 0 ((a.cH n co).eH (a.s.bZ n).1 n).s,d6 b.qb 0 c2.q,.aV cI (SC.dI 254 c2.q),d9 b.bb b.vp ((a.cH n co).eH (a.s.bZ n).1 n).v.ja ((a.cH n co).eH (a.s.bZ n).1 n).v.rf,Vm.d8 b.vp 0 ((a.cH n co).eH (a.s.bZ n).1 n).v.bb.fu,.eJ (ka ((a.cH n co).eH (a.s.bZ n).1 n)) c2.mb 34 (cN b.bb ((a.cH n co).eH (a.s.bZ n).1 n).f c2.pp c2.cc),.aV (ka ((a.cH n co).eH (a.s.bZ n).1 n)) (rN 171 ((a.cH n co).eH (a.s.bZ n).1 n).f c2.pp c2.cc),bi b.tb 0 c2.F,g6 c2.F,g7 c2.F,dH c2.rp c2.rc 3 c2.rl,Tr.el b.pi 0 ((a.cH n co).eH (a.s.bZ n).1 n).P,eQ b.ob 0 b.tb b.pi ((a.cH n co).eH (a.s.bZ n).1 n).O,.eJ (mF ((a.cH n co).eH (a.s.bZ n).1 n)) (fun z=>(c2.t z).b) 4 (cT b.tb c2.t),.aV (mF ((a.cH n co).eH (a.s.bZ n).1 n)) (rT 168 c2.t),g8]) (0) ?_ S4 (fun _ mK=>by rw[yc];exact XM.pick (pz 18) mK) ?_
 ·omega
 intro i hi;apply gC;apply (cd)<;>intro h1
 ·refine sd (ld .aa (gY _) ?_);apply UV 37<;>intro h2
  ·rw[jP _ _ _ (Int.le_refl _)]at h2;have h81:=h2;refine sd (ld .aa (mY _) ?_);apply (cd)<;>intro h3
   ·rw[jP _ _ _ (Int.le_refl _)]at h3;have h82:=h3;refine sd (st .aa (Af _ og _) rfl (sd (ag (i+1) ?_ ?_ S4 fun _ mK=>by rw[<-KP.HP _ _ _ hi.1 h81 h82];exact XM.pick (pz 18) mK)));all_goals omega
   ·rw[jP _ _ _ (Int.le_refl _)]at h3;have h82:=h3;refine sd (ag (i+1) ?_ ?_ S4 fun _ mK=>by rw[oe _ _ _ fun c=>h82 c.2];exact XM.pick (pz 18) mK);all_goals omega
  ·rw[jP _ _ _ (Int.le_refl _)]at h2;have h81:=h2;refine sd (ag (i+1) ?_ ?_ S4 fun _ mK=>by rw[oe _ _ _ fun c=>h81 c.1];exact XM.pick (pz 18) mK);all_goals omega
 ·have agW:i=20:=og;subst agW;try unfold du
  rw[MR];refine sd (ld .aa (mY _) ?_);refine yy 2 (R9 b.kb (kp (((a.cH n co).eH (a.s.bZ n).1 n).de n (a.head n)) b c2) ((a.cH n co).eH (a.s.bZ n).1 n).s (((((a.cH n co).eH (a.s.bZ n).1 n).de n (a.head n)).u n).aA) 3 false (fun q=>bR.bx _) fun q=>Ib bR Z8 agT q) (pk [0,1,15]) rfl ?_;rintro _ _ rfl;apply gO;refine dy rfl (ai (pk (0::2::0::rr 14 1 [])) rfl ?_);have hA:a.db n co=(((a.cH n co).eH (a.s.bZ n).1 n).de n (a.head n)).ko ((((a.cH n co).eH (a.s.bZ n).1 n).de n (a.head n)).u n).aA:=by unfold KA.db;rw[he1]
  rw[hA];refine⟨c2,C7.gK _ _ _,?_⟩;change _=du (KA.ko _ _) _ _ [];rw[Sa,Ia,Ic];rfl
end Go.X.Kn

namespace Go.X.Kn
open Go Go.Proofs Go.X Go.X.Sg
attribute [local irreducible] KA.db KA.cL
def DM(a:KA)(b:KZ)(c:KC)(N:Nat)(T:Int)(hw:a.Wk T)(hc:cP a c N T)(hT:T<=900000)(n co:Int)(hl:(a.u n).st=1)(hx:a.Hx n):Fn 63 [ay b.kb 0 0,iI n,iI co] (du a b c [g8]) (fun v H1=>∃ c1:KC,cP (a.db n co) c1 N T/\H1=(du (a.db n co) b c1 [])):=by
 by_cases hh:a.head n=n
 ·exact acI a b c N T hw hc hT n co hl hx hh
 ·exact acG a b c N T hw hc hT n co hl hx hh
def UQ(a:KA)(b:KZ)(c:KC)(N:Nat)(T:Int)(hw:a.Wk T)(hc:cP a c N T)(hT:T<=900000)(n:Int)(hn:0<=n/\n<20)(o:Bool)(hl:(a.u n).st=1)(hx:a.Hx n)(he:¬((a.u n).bx.first 0)=0)(ho:o=true\/a.head n≠n):Fn 74 [ay b.kb 0 0,iI n,.bool o] (du a b c [g8]) (fun v H1=>∃ c1:KC,cP (a.db n (128+((a.u n).bx.first 0))) c1 N T/\H1=(du (a.db n (128+((a.u n).bx.first 0))) b c1 [])):=by
 refine Spec.g 36 [0,1,2,6,7,30] func74 fun W=> ?_;refine XR.mono (fun _ bR=>kX (k:=kp a b c) (n:=n) og .h1 bR) ?_;apply (sd);refine KK 1 (FN b.kb (0+kK n) _ (hw.bx n)) (pk [0,18]) rfl ?_;refine XR.mono (fun _ bR=>oD (k:=kp a b c) (n:=n) og (pk [0,1,1]) bR) ?_;refine SH 19 rfl (he) ?_;refine SG 21 rfl ?_ ?_<;>intro h2
 try simp only[sb]at h2
 have hfr:=BS.vt (a.u n).bx 0 (hw.bx n);apply (sd);refine yy 17 (DM a b c N T hw hc hT n _ hl hx) (pk (0::rr 16 1 [0])) rfl ?_;rotate_left
 try simp only[sb]at h2
 refine cq (kH b.kb (kp a b c) a.s n) (pk [0,2]) ?_;refine cq (Cl b.kb (kp a b c) a.s _) (pz 2) ?_;apply cdT rfl (by first | rfl | exact fun q=>(ho.resolve_left jw) q);have hfr:=BS.vt (a.u n).bx 0 (hw.bx n);apply (sd);refine yy 17 (DM a b c N T hw hc hT n _ hl hx) (pk (0::2::0::rr 14 1 [0])) rfl ?_;rotate_left;all_goals rintro _ _ ⟨c1,ia,rfl⟩;apply gO;refine dy rfl (ai (pz 17) rfl ?_);grind
def UR(a:KA)(b:KZ)(c:KC)(N:Nat)(T:Int)(hw:a.Wk T)(hc:cP a c N T)(hT:T<=900000)(n:Int)(hn:0<=n/\n<20)(o:Bool)(he:((a.u n).bx.first 0)=0):Fn 74 [ay b.kb 0 0,iI n,.bool o] (du a b c [g8]) (fun v H1=>∃ c1:KC,cP a c1 N T/\H1=(du a b c1 [])):=by
 refine Spec.g 36 [0,1,2,6,7,30] func74 fun W=> ?_;refine XR.mono (fun _ bR=>kX (k:=kp a b c) (n:=n) og .h1 bR) ?_;apply (sd);refine KK 1 (FN b.kb (0+kK n) _ (hw.bx n)) (pk [0,18]) rfl ?_;refine XR.mono (fun _ bR=>oD (k:=kp a b c) (n:=n) og (pk [0,1,1]) bR) ?_;refine spF 19 rfl og (dy rfl (ai (pk (0::rr 16 1 [])) rfl ?_));grind
theorem US(a:KA)(b:KZ)(c:KC)(N:Nat)(T:Int)(hw:a.Wk T)(hc:cP a c N T)(hT:T<=900000)(n:Int)(hn:0<=n/\n<20)(he:¬((a.u n).bx.first 0)=0)(hh:a.head n=n):Fn 74 [ay b.kb 0 0,iI n,.bool false] (du a b c [g8]) (fun v H1=>∃ c1:KC,cP a c1 N T/\H1=(du a b c1 [])):=by
 refine Spec.g 36 [0,1,2,6,7,30] func74 fun W=> ?_;refine XR.mono (fun _ bR=>kX (k:=kp a b c) (n:=n) og .h1 bR) ?_;apply (sd);refine KK 1 (FN b.kb (0+kK n) _ (hw.bx n)) (pk [0,18]) rfl ?_;refine XR.mono (fun _ bR=>oD (k:=kp a b c) (n:=n) og (pk [0,1,1]) bR) ?_;refine SH 19 rfl (he) ?_;refine cq (kH b.kb (kp a b c) a.s n) (pk [0,2]) ?_;refine cq (Cl b.kb (kp a b c) a.s _) (pz 2) ?_;refine KJ rfl (fun q=>q hh) (dy rfl (ai (pk (0::2::0::rr 14 1 [])) rfl ?_));exact⟨c,hc,rfl⟩
def UT(a:KA)(b:KZ)(c:KC)(N:Nat)(T:Int)(hw:a.Wk T)(hc:cP a c N T)(hT:T<=900000)(n:Int)(hn:0<=n/\n<20)(o:Bool)(he:¬a.JY n o):Fn 74 [ay b.kb 0 0,iI n,.bool o] (du a b c [g8]) (fun v H1=>∃ c1:KC,cP a c1 N T/\H1=(du a b c1 [])):=by
 by_cases h0:((a.u n).bx.first 0)=0
 ·exact UR a b c N T hw hc hT n hn o h0
 ·have h1:¬(o=true\/a.head n≠n):=fun q=>he ⟨h0,q⟩;grind [US]
def AZ(a:KA)(b:KZ)(c:KC)(N:Nat)(T:Int)(hw:a.Wk T)(hc:cP a c N T)(hT:T<=900000)(n:Int)(hn:0<=n/\n<20)(o:Bool)(hl:(a.u n).st=1)(hx:a.Hx n):Fn 74 [ay b.kb 0 0,iI n,.bool o] (du a b c [g8]) (fun v H1=>∃ c1:KC,cP (a.cL n o) c1 N T/\H1=(du (a.cL n o) b c1 [])):=by
 by_cases he:a.JY n o
 ·rw[rF he];exact UQ a b c N T hw hc hT n hn o hl hx he.1 he.2
 ·rw[AH he];exact UT a b c N T hw hc hT n hn o he
def Zm(a:KA)(b:KZ)(c:KC)(N:Nat)(T:Int)(hw:a.Wk T)(hc:cP a c N T)(hT:T<=900000)(n sig:Int)(o:Bool)(hx:a.Hx n):Fn 71 [ay b.kb 0 0,iI n,iI sig,.bool o] (du a b c [g8]) (fun v H1=>∃ c1:KC,cP (a.uF n sig o) c1 N T/\H1=(du (a.uF n sig o) b c1 [])):=by
 refine Spec.g 27 [0,1,2,3,8,9,17] func71 fun W=> ?_;refine ca (fm b.kb (kp a b c) n) .h1 ?_;rintro _ _ ⟨⟨hl,rfl⟩ | ⟨hl,rfl⟩,rfl⟩
 ·obtain⟨kL,iw⟩:=bM hl;apply gO;apply XR.mono fun _ bR=>kX (k:=kp a b c) (n:=n) og .h1 bR;refine cq (YI b.kb (0+kK n) _ sig) .h1 ?_;apply XR.mono fun _ bR=>nQ (k:=kp a b c) (n:=n) og (pz 3) bR;try unfold du
  rw[B0];try unfold du
  rw[<-xg a n ((a.u n).bx.send sig).2,<-AG a n ((a.u n).bx.send sig).2];refine yy 17 (AZ (a.jr n ((a.u n).bx.send sig).2) b c N T (hw.jr kL (nW _ _ (hw.bx n))) (hc.box _ _) hT n kL o (by rw[gp];exact iw) (hx.box _)) (pz 18) rfl ?_;rintro _ _ ⟨c1,ia,rfl⟩;apply gO;refine dy rfl (ai (pz 17) rfl ?_);have e:a.uF n sig o=(a.jr n ((a.u n).bx.send sig).2).cL n o:=if_pos hl;grind
 ·apply gO;refine rt0 (pz 17) ?_;have e:a.uF n sig o=a:=if_neg fun q=>hl q;grind
def Ks(a:KA)(b:KZ)(c:KC)(N:Nat)(T:Int)(ho:a.Ok T)(hc:cP a c N T)(hT:T<=800000)(n co:Int):Fn 16 [ay b.kb 0 0,iI n,iI co] (du a b c [g8]) (fun v H1=>v=ax 102 (a.uG n co)/\∃ c1:KC,cP (a.fA n co) c1 N T/\H1=(du (a.fA n co) b c1 [])):=by
 refine Spec.g 32 [0,1,2,6,8,16,23,26] func16 fun W=> ?_;refine ca (fm b.kb (kp a b c) n) .h1 ?_;rintro _ _ ⟨⟨hl,rfl⟩ | ⟨hl,rfl⟩,rfl⟩
 obtain⟨kL,iw⟩:=bM hl;have hl:a.aF n=0:=hl;have iw:(a.u n).st=1:=iw;apply gO;apply UV 20<;>intro h1;rotate_left
 apply (cd)<;>intro h2;rotate_left
 apply (cd)<;>intro h3;rotate_left
 refine yy 17 (DM a b c N T ho.wk hc og n co iw (ho.hx.any n)) (pz 18) rfl ?_;rintro _ _ ⟨c1,ia,rfl⟩;apply gO;rotate_left
 ·have hl:a.aF n≠0:=hl;have jz:(kp a b c).aF n=a.aF n:=rfl;rw[jz];apply gO;refine bL (pz 17) ?_;grind [aR,aQ,KA.uG,KA.fA,ax]
 all_goals
  refine bL (pz 17) ?_;try dsimp only[aR,aQ,bH,bQ]
  grind [KA.uG,KA.fA,ax]
def agX(a:KA)(b:KZ)(c:KC)(N:Nat)(T:Int)(ho:a.Ok T)(hc:cP a c N T)(hT:T<=800000)(n sg y:Int):Fn 23 [ay b.kb 0 0,iI n,iI sg,iI y] (du a b c [g8]) (fun v H1=>v=ax 102 (a.Ye n sg y)/\∃ c1:KC,cP (a.B2 n sg y) c1 N T/\H1=(du (a.B2 n sg y) b c1 [])):=by
 refine Spec.g 31 [0,1,2,3,8,9,10,18,26] func23 fun W=> ?_;refine ca (fm b.kb (kp a b c) n) .h1 ?_;rintro _ _ ⟨⟨hl,rfl⟩ | ⟨hl,rfl⟩,rfl⟩
 ·obtain⟨kL,iw⟩:=bM hl;have hl:a.aF n=0:=hl;have iw:(a.u n).st=1:=iw;apply gO;apply XR.mono fun _ bR=>kX (k:=kp a b c) (n:=n) og .h1 bR;refine ca (aja b.kb (0+kK n) (a.u n).bx sg y) .h1 ?_;rintro _ _ ⟨rfl,rfl⟩;by_cases q8:((a.u n).bx.set sg y).1=0
  ·rw[q8,mm];apply gO;apply XR.mono fun _ bR=>nQ (k:=kp a b c) (n:=n) og (pz 3) bR;try unfold du
   rw[B0];try unfold du
   rw[<-xg a n ((a.u n).bx.set sg y).2,<-AG a n ((a.u n).bx.set sg y).2];refine yy 17 (AZ (a.jr n ((a.u n).bx.set sg y).2) b c N T (ho.wk.jr kL (xh _ _ _ (ho.wk.bx n))) (hc.box _ _) og n kL false (by rw[gp];exact iw) ((ho.hx.any n).box _)) (pz 18) rfl ?_;rintro _ _ ⟨c1,ia,rfl⟩;apply gO;refine bL (pz 17) ?_;try dsimp only[aR,aQ,bH,bQ]
   grind [KA.Ye,KA.B2,ax]
  ·rw[aL _ q8];apply gO;rw[abZ q8];refine XR.mono (fun _ bR=>oD (k:=kp a b c) (n:=n) og (pz 3) bR) ?_;refine bL (pz 17) ?_;grind [aR,aQ,KA.Ye,KA.B2,aL]
 ·have hl:a.aF n≠0:=hl;have jz:(kp a b c).aF n=a.aF n:=rfl;rw[jz];apply gO;refine bL (pz 17) ?_;grind [aR,aQ,KA.Ye,KA.B2,ax]
def Kt(a:KA)(b:KZ)(c:KC)(N:Nat)(T:Int)(ho:a.Ok T)(hc:cP a c N T)(hT:T<=800000)(n sg:Int):Fn 24 [ay b.kb 0 0,iI n,iI sg,.bool true] (du a b c [g8]) (fun v H1=>v=ax 102 (a.yh n sg true)/\∃ c1:KC,cP (a.mG n sg true) c1 N T/\H1=(du (a.mG n sg true) b c1 [])):=by
 refine Spec.g 31 [0,1,2,3,8,9,10,18,26] func24 fun W=> ?_;refine ca (fm b.kb (kp a b c) n) .h1 ?_;rintro _ _ ⟨⟨hl,rfl⟩ | ⟨hl,rfl⟩,rfl⟩
 ·obtain⟨kL,iw⟩:=bM hl;have hl:a.aF n=0:=hl;have iw:(a.u n).st=1:=iw;apply gO;apply XR.mono fun _ bR=>kX (k:=kp a b c) (n:=n) og .h1 bR;refine ca (Nl b.kb (0+kK n) (a.u n).bx sg) .h1 ?_;rintro _ _ ⟨rfl,rfl⟩;by_cases q8:((a.u n).bx.dX sg true).1=0
  ·rw[q8,mm];apply gO;apply XR.mono fun _ bR=>nQ (k:=kp a b c) (n:=n) og (pz 3) bR;try unfold du
   rw[B0];try unfold du
   rw[<-xg a n ((a.u n).bx.dX sg true).2,<-AG a n ((a.u n).bx.dX sg true).2];refine yy 17 (AZ (a.jr n ((a.u n).bx.dX sg true).2) b c N T (ho.wk.jr kL (qq _ _ _ (ho.wk.bx n))) (hc.box _ _) og n kL false (by rw[gp];exact iw) ((ho.hx.any n).box _)) (pz 18) rfl ?_;rintro _ _ ⟨c1,ia,rfl⟩;apply gO;refine bL (pz 17) ?_;try dsimp only[aR,aQ,bH,bQ]
   grind [KA.yh,KA.mG,ax]
  ·rw[aL _ q8];apply gO;rw[MY q8];refine XR.mono (fun _ bR=>oD (k:=kp a b c) (n:=n) og (pz 3) bR) ?_;refine bL (pz 17) ?_;grind [aR,aQ,KA.yh,KA.mG,aL]
 ·have hl:a.aF n≠0:=hl;have jz:(kp a b c).aF n=a.aF n:=rfl;rw[jz];apply gO;refine bL (pz 17) ?_;grind [aR,aQ,KA.yh,KA.mG,ax]
def G5(a:KA)(b:KZ)(c:KC)(N:Nat)(T:Int)(ho:a.Ok T)(hc:cP a c N T)(hT:T<=800000)(n sg:Int):Fn 24 [ay b.kb 0 0,iI n,iI sg,.bool false] (du a b c [g8]) (fun v H1=>v=ax 102 (a.yh n sg false)/\∃ c1:KC,cP (a.mG n sg false) c1 N T/\H1=(du (a.mG n sg false) b c1 [])):=by
 refine Spec.g 31 [0,1,2,3,8,9,10,18,26] func24 fun W=> ?_;refine ca (fm b.kb (kp a b c) n) .h1 ?_;rintro _ _ ⟨⟨hl,rfl⟩ | ⟨hl,rfl⟩,rfl⟩
 ·obtain⟨kL,iw⟩:=bM hl;have hl:a.aF n=0:=hl;have iw:(a.u n).st=1:=iw;apply gO;apply XR.mono fun _ bR=>kX (k:=kp a b c) (n:=n) og .h1 bR;refine ca (Kd b.kb (0+kK n) (a.u n).bx sg) .h1 ?_;rintro _ _ ⟨rfl,rfl⟩;by_cases q8:((a.u n).bx.dX sg false).1=0
  ·rw[q8,mm];apply gO;apply XR.mono fun _ bR=>nQ (k:=kp a b c) (n:=n) og (pz 3) bR;try unfold du
   rw[B0];try unfold du
   rw[<-xg a n ((a.u n).bx.dX sg false).2,<-AG a n ((a.u n).bx.dX sg false).2];refine yy 17 (AZ (a.jr n ((a.u n).bx.dX sg false).2) b c N T (ho.wk.jr kL (qq _ _ _ (ho.wk.bx n))) (hc.box _ _) og n kL false (by rw[gp];exact iw) ((ho.hx.any n).box _)) (pz 18) rfl ?_;rintro _ _ ⟨c1,ia,rfl⟩;apply gO;refine bL (pz 17) ?_;try dsimp only[aR,aQ,bH,bQ]
   grind [KA.yh,KA.mG,ax]
  ·rw[aL _ q8];apply gO;rw[MY q8];refine XR.mono (fun _ bR=>oD (k:=kp a b c) (n:=n) og (pz 3) bR) ?_;refine bL (pz 17) ?_;grind [aR,aQ,KA.yh,KA.mG,aL]
 ·have hl:a.aF n≠0:=hl;have jz:(kp a b c).aF n=a.aF n:=rfl;rw[jz];apply gO;refine bL (pz 17) ?_;grind [aR,aQ,KA.yh,KA.mG,ax]
def acJ(a:KA)(b:KZ)(c:KC)(N:Nat)(T:Int)(ho:a.Ok T)(hc:cP a c N T)(hT:T<=800000)(n sg:Int)(on:Bool):Fn 24 [ay b.kb 0 0,iI n,iI sg,.bool on] (du a b c [g8]) (fun v H1=>v=ax 102 (a.yh n sg on)/\∃ c1:KC,cP (a.mG n sg on) c1 N T/\H1=(du (a.mG n sg on) b c1 [])):=by
 cases on
 ·exact G5 a b c N T ho hc hT n sg
 ·exact Kt a b c N T ho hc hT n sg
def agY(a:KA)(b:KZ)(c:KC)(aK:Int->Nat)(hI:a.s.Inv aK)(n q:Int):Fn 18 [ay b.kb 0 0,iI n,iI q] [dO b.kb (kp a b c),Sp.bY b.sb 0 a.s] (ap (.tuple #[iI (a.GQ n q).1,ax 102 (a.GQ n q).2]) [dO b.kb (kp a b c),Sp.bY b.sb 0 a.s]):=ai9 b.kb (kp a b c) a.s aK hI n q
def A1(a:KA)(b:KZ)(c:KC)(hf:∀ n i,0<=(a.u n).fd i/\(a.u n).fd i<=24)(n i:Int):Fn 69 [ay b.kb 0 0,iI n,iI i] [dO b.kb (kp a b c)] (ap (.tuple #[iI (a.cW n i),ax 102 (a.eY n i)]) [dO b.kb (kp a b c)]):=agS b.kb (kp a b c) n i hf
def DN(a:KA)(b:KZ)(c:KC)(n:Int)(hn:0<=n/\n<20)(x:Int)(hx:0<=x:=by omega):Fn 67 [ay b.kb 0 (0+0+n.toNat*22),iI x] [dO b.kb (kp a b c)] (ap (iI (jQ (a.u n).fd x)) [dO b.kb (kp a b c)]):=agR b.kb (kp a b c) n hn x hx
def acK(a:KA)(b:KZ)(c:KC)(N:Nat)(T:Int)(ho:a.Ok T)(hc:cP a c N T)(hT:T<=800000)(n:Int):Fn 26 [ay b.kb 0 0,iI n] (du a b c [g8]) (fun v H1=>v= .tuple #[iI (a.Fg n),ax 102 (a.Ff n)]/\∃ c1:KC,cP (a.qs n) c1 N T/\H1=(du (a.qs n) b c1 [])):=by
 refine Spec.g 30 [0,1,4,5,6,7,8,9,17,27] func26 fun W=> ?_;refine ca (fm b.kb (kp a b c) n) .h1 ?_;rintro _ _ ⟨⟨hl,rfl⟩ | ⟨hl,rfl⟩,rfl⟩
 obtain⟨kL,iw⟩:=bM hl;have hl:a.aF n=0:=hl;have iw:(a.u n).st=1:=iw;apply gO;apply XR.mono fun _ bR=>kX (k:=kp a b c) (n:=n) og .h1 bR;refine KK 1 (af5 b.kb (0+kK n) (a.u n).bx (ho.wk.bx n)) (pk [0,18]) rfl ?_;apply XR.mono fun _ bR=>nQ (k:=kp a b c) (n:=n) og (pk [0,1,1]) bR;try unfold du
 rw[B0];try unfold du
 rw[<-xg a n ((a.u n).bx.take).2,<-AG a n ((a.u n).bx.take).2];apply (cd)<;>intro h1
 refine bC rfl rfl rfl (ai (pk (0::rr 16 1 [])) rfl ?_);have ht:((a.u n).bx.take).1=0:=by first | assumption | omega | simp_all
 have e1:a.Ff n=2:=by unfold KA.Ff;rw[if_neg og,if_pos ht]
 have e2:a.Fg n=0:=by unfold KA.Fg;rw[if_neg og,ht]
 rotate_left
 refine bC rfl rfl rfl (ai (pk (0::rr 16 1 [])) rfl ?_);have ht:¬((a.u n).bx.take).1=0:=by first | assumption | omega | simp_all
 have e1:a.Ff n=0:=by unfold KA.Ff;rw[if_neg og,if_neg ht]
 have e2:a.Fg n=((a.u n).bx.take).1:=by unfold KA.Fg;rw[if_neg og]
 rotate_left
 ·have hl:a.aF n≠0:=hl;have jz:(kp a b c).aF n=a.aF n:=rfl;rw[jz];apply gO;refine fg (pz 17) ?_;grind [aR,aQ,bQ,KA.Ff,KA.Fg,KA.qs,ax]
 all_goals
  have e3:a.qs n=a.jr n ((a.u n).bx.take).2:=by unfold KA.qs;rw[if_neg og]
  rw[e1,e2,e3];exact⟨rfl,c,hc.box _ _,rfl⟩
def UU(a:KA)(b:KZ)(c:KC)(N:Nat)(T:Int)(ho:a.Ok T)(hc:cP a c N T)(hT:T<=800000)(n q sg:Int):Fn 78 [ay b.kb 0 0,iI n,iI q,iI sg] (du a b c [g8]) (fun v H1=>v=ax 102 (a.ot n q sg)/\∃ c1:KC,cP (a.j9 n q sg) c1 N T/\H1=(du (a.j9 n q sg) b c1 [])):=by
 refine Spec.g 42 [0,1,2,3,8,9,10,19,26,29] func78 fun W=> ?_;refine cq (agY a b c a.aK ho.wk.sI n q) (pk [0,1]) ?_;apply (cd)<;>intro h1
 ·refine aO rfl rfl (ai (pk (0::1::rr 15 0 [])) rfl ?_);grind [aR,aQ,KA.ot,KA.j9]
 apply UV 23<;>intro h2;rotate_left
 apply (cd)<;>intro h3;rotate_left
 apply (cd)<;>intro h4;rotate_left
 ·refine cq (kH b.kb (kp a b c) a.s _) (pz 2) ?_;refine cq (kH b.kb (kp a b c) a.s n) (pz 2) ?_;refine yy 17 (Zm a b c N T ho.wk hc og (a.GQ n q).1 sg _ (ho.hx.any _)) (pk (0::1::rr 16 0 [])) rfl ?_;rintro _ _ ⟨c1,ia,rfl⟩;apply gO;refine bL (pz 17) ?_;try dsimp only[aR,aQ,bH,bQ]
  grind [KA.ot,KA.j9,ax]
 all_goals
  refine aO rfl rfl (ai (pk (0::1::rr 15 0 [])) rfl ?_);try dsimp only[aR,aQ,bH,bQ]
  grind [KA.ot,KA.j9,ax]
end Go.X.Kn
