import Derived.Test.YthdinakloheinaaGreatDoorkJC2
set_option linter.all false
namespace Go.X.Kn
open Go Go.Proofs Go.X Go.X.Sg Go.X.Tr
set_option maxRecDepth 20000
set_option maxHeartbeats 4000000
attribute [local irreducible] KA.dt KA.cK
def PE:Tryz.prog.info? 102=some Tryz.t102:=kq
theorem cI.same{a a':KA}{c:KC}{N:Nat}{T T':Int}(h:cI a c N T)(hT:T<=T')(e:a'.s=a.s)(hu:∀ n,(a.u n).st=1->(a'.u n).st=1:=by exact fun _ q=>q):cI a' c N T':=⟨h.qO.mono (Nat.le_refl _) og,h.qR,FF.Ok.up h.F hT,h.rp,h.rc,h.rl,fun z h0 h1 h2=>h.tb z h0 h1 (by rwa[e]at h2),fun n n0 n1 hn=>hu n (h.tk n n0 n1 hn)⟩
theorem WB(a:KA)(n i v j w:Int)(O:Tr.OS)(P:Tr.PS):iR {a with u:=Bt (Bt a.u n i v) n j w,O:=O,P:=P} =iR a:=by grind [kv,iR]
def NI{F:Tr.FF}{d:Int->Nat}{B:Int}(h:F.Ok d B)(O:Tr.OS)(n:Int)(x:ByteArray):(iD F O n x).Ok d (B+1):=by
 unfold iD;split
 ·exact h.cm _ _ _
 ·exact h.up1
def WC(a:KA)(b:KZ)(c:KC)(N:Nat)(T:Int)(ho:a.Ok T)(hc:cI a c N T)(hT:T<=800000)(n i:Int):Spec Tryz.prog 25 [ay b.kb 0 0,iI n,iI i] (cV a b c []) (fun v H1=>v=ax 102 (a.ks c.F.toFF n i)/\∃ c1:KC,cI (a.qx n i) c1 N T/\H1=(cV (a.qx n i) b c1 [])):=by
 refine Spec.go 33 [0,1,2,6,7,8,17] [] Tryz.func25 fun W=> ?_;refine cq (zm a b c ho.wk.fd n i) .h1 ?_;refine cd ?_ ?_<;>intro h1
 ·refine bL (pz 17) ?_;grind [aS,aR,KA.ks,KA.qx]
 ·have IC:a.eY n i=0:=og;obtain⟨hn,hs,hi,hf,hv⟩:=KA.sF IC;have Y4:=ho.wk.fd n i;refine sd (sd (st .aa (lM _ hn hi _) rfl (ld .aa (gN _) ?_)));refine ca (Pu _ _ _ _ _ T og ho.wk.OI c.F (hc.F.sh og) T og _ ho.wk.PI (a.dD n i)) (pk [14,9,9,9,10]) ?_;rintro _ _ ⟨rfl,F1,NH,Sy,Eu,rfl⟩;apply gO;refine aM rfl rfl (ah (pk (rr 9 5 [1,1,1,2,1,0,0,0])) rfl ?_);have e1:a.ks c.F.toFF n i=Tr.ks c.F.toFF a.P a.O (a.dD n i):=by unfold KA.ks;rw[if_neg og]
  have e2:a.qx n i= {a with u:=Bt a.u n i 0,O:=kS a.O (a.dD n i),P:=kR a.P a.O (a.dD n i)} :=by unfold KA.qx;rw[if_neg og]
  rw[e1,e2];refine⟨rfl,{c with F:=F1},⟨hc.qO,hc.qR,(by show F1.toFF.Ok _ _;rw[NH];exact FF.Ok.uD hc.F _ _),Sy.trans hc.rp,Eu.trans hc.rc,(by show F1.toFF.roots=_;rw[NH,yQ];exact hc.rl),hc.tb,fun m m0 m1 hm=>by rw[(kv _ _ _ _ _).1];exact hc.tk m m0 m1 hm⟩,?_⟩;try unfold cV
  rw[H5,D2 a b c n i 0 (kS a.O (a.dD n i)) (kR a.P a.O (a.dD n i))];rfl
def adL(a:KA)(b:KZ)(c:KC)(N:Nat)(T:Int)(ho:a.Ok T)(hc:cI a c N T)(hT:T<=800000)(n i:Int):Spec Tryz.prog 164 [ay b.kb 0 0,iI n,iI i] (cV a b c []) (fun v H1=>v= .tuple #[iI (a.KS n i),ax 102 (a.KR n i)]/\∃ c1:KC,cI (a.Aw n i) c1 N (T+1)/\H1=(cV (a.Aw n i) b c1 [])):=by
 refine Spec.go 47 [0,1,2,6,7,8,9,10,19,28] [] Tryz.func164 fun W=> ?_;refine cq (zm a b c ho.wk.fd n i) .h1 ?_;refine cd ?_ ?_<;>intro h1
 ·refine er (pz 17) ?_;have e1:a.KR n i=a.eY n i:=by unfold KA.KR;rw[if_pos og]
  have e2:a.KS n i=0:=by unfold KA.KS;rw[if_pos (.inl og)]
  have e3:a.Aw n i=a:=by unfold KA.Aw;rw[if_pos (.inl og)]
  rw[e1,e2,e3];exact⟨rfl,c,hc.up (Nat.le_refl _) og,rfl⟩
 ·have IC:a.eY n i=0:=og;obtain⟨hn,hs,hi,hf,hv⟩:=KA.sF IC;have Y4:=ho.wk.fd n i;refine sd ?_;refine cq (Cl a b c n hn 0) .h1 ?_;refine cd ?_ ?_<;>intro h2
  ·refine er (pz 17) ?_;have CG:a.na n<0:=by unfold KA.na;omega
   have e1:a.KR n i=4:=by unfold KA.KR;rw[if_neg og,if_pos CG]
   have e2:a.KS n i=0:=by unfold KA.KS;rw[if_pos (.inr CG)]
   have e3:a.Aw n i=a:=by unfold KA.Aw;rw[if_pos (.inr CG)]
   rw[e1,e2,e3];exact⟨rfl,c,hc.up (Nat.le_refl _) og,rfl⟩
  ·have CG:=vy (a.u n).fd 0;refine sd (sd (sd (st .aa (lM _ hn ⟨CG.1,CG.2.1⟩ _) rfl (ld .aa (gN _) ?_))));refine cq (It _ _ _ _ _ T og ho.wk.OI (a.dD n i)) (pk [14]) ?_;refine aW rfl rfl rfl (ah (pk (rr 14 1 [0,0,0])) rfl ?_);have hs2:¬a.na n<0:=by unfold KA.na;omega
   have e1:a.KR n i=a.O.is (a.dD n i):=by unfold KA.KR;rw[if_neg og,if_neg hs2]
   have e2:a.KS n i=a.na n:=by unfold KA.KS;rw[if_neg og]
   have e3:a.Aw n i= {a with u:=Bt a.u n (a.na n) (a.dD n i+1),O:=qt a.O (a.dD n i),P:=a.P} :=by unfold KA.Aw;rw[if_neg og]
   rw[e1,e2,e3];refine⟨rfl,c,hc.same og rfl fun m q=>by rw[(kv _ _ _ _ _).1];exact q,?_⟩;try unfold cV
   rw[H5,<-D2 a b c n (a.na n) (a.dD n i+1) (qt a.O (a.dD n i)) a.P];rfl
set_option maxHeartbeats 8000000 in
def ZH(a:KA)(b:KZ)(c:KC)(N:Nat)(T:Int)(ho:a.Ok T)(hc:cI a c N T)(hT:T<=800000)(n:Int):Spec Tryz.prog 20 [ay b.kb 0 0,iI n] (cV a b c []) (fun v H1=>v= .tuple #[iI (a.zd n),iI (a.ze n),ax 102 (a.uK n)]/\∃ c1:KC,cI (a.qd n) c1 N (T+1)/\H1=(cV (a.qd n) b c1 [])):=by
 have hop:=Gx a.P a.O;have h1:a.na n=jS (a.u n).fd 0:=rfl;have h2:a.D3 n=jS (a.u n).fd (jS (a.u n).fd 0+1):=rfl;refine Spec.go 62 [0,1,4,5,6,7,8,9,10,11,12,20,25,32,44] [] Tryz.func20 fun W=> ?_;refine ca (ek b.kb (kp a b c) n) .h1 ?_;rintro _ _ ⟨⟨hl,rfl⟩ | ⟨hl,rfl⟩,rfl⟩
 ·obtain⟨jx,gn⟩:=bE hl;have hl:a.aB n=0:=hl;have gn:(a.u n).st=1:=gn;apply gO;refine cq (Cl a b c n jx 0) .h1 ?_;refine cd ?_ ?_<;>intro h1
  ·refine rt3 (pz 17) ?_;try dsimp only[aS,aR,bI,bN]
   grind [KA.uK,KA.zd,KA.ze,KA.qd,cI.up,ax]
  ·have CG:=vy (a.u n).fd 0;refine sd ?_;refine cq (Cl a b c n jx (jS (a.u n).fd 0+1)) .h1 ?_;refine cd ?_ ?_<;>intro h2
   ·refine rt3 (pz 17) ?_;try dsimp only[aS,aR,bI,bN]
    grind [KA.uK,KA.zd,KA.ze,KA.qd,cI.up,ax]
   ·have hsm:=vy (a.u n).fd (jS (a.u n).fd 0+1);apply ld .aa (gN _);refine cq (adx _ _ _ _ _ T og _ ho.wk.PI) (pk [14,13]) ?_;refine cd ?_ ?_<;>intro h3
    ·refine xC rfl rfl rfl rfl (ah (pk (rr 13 2 [1,0,0,0])) rfl ?_);have e1:a.uK n=kT a.P a.O:=by unfold KA.uK;rw[if_neg og,if_neg og]
     have h0:¬kT a.P a.O=0:=og;have e2:a.zd n=0:=by unfold KA.zd;rw[if_neg og]
     have e3:a.ze n=0:=by unfold KA.ze;rw[if_neg og]
     have e4:a.qd n= {a with O:=od a.P a.O,P:=oc a.P a.O} :=by unfold KA.qd;rw[if_neg og,if_neg h0]
     rw[e1,e2,e3,e4];exact⟨rfl,c,hc.same og rfl,rfl⟩
    ·refine rq [0,1,2,3,4,5,6,7,8,9,10,12,13,11,14,15] mixed (sd (sd (sd (st (.t2 .aa) (lM _ jx ⟨CG.1,CG.2.1⟩ _) rfl (sd (st (.t2 .aa) (lM _ jx ⟨hsm.1,hsm.2.1⟩ _) rfl (xC rfl rfl rfl rfl (ah (pk (rr 13 2 [1,0,0,0])) rfl ?_))))))));have e1:a.uK n=kT a.P a.O:=by unfold KA.uK;rw[if_neg og,if_neg og]
     have h0:kT a.P a.O=0:=og;have e2:a.zd n=a.na n:=by unfold KA.zd;rw[if_pos og]
     have e3:a.ze n=a.D3 n:=by unfold KA.ze;rw[if_pos og]
     have e4:a.qd n= {a with u:=Bt (Bt a.u n (a.na n) (oe a.P a.O+1)) n (a.D3 n) (py a.P a.O+1),O:=od a.P a.O,P:=oc a.P a.O} :=by unfold KA.qd;rw[if_neg og,if_pos h0]
     rw[e1,e2,e3,e4,h0];refine⟨rfl,c,hc.same og rfl fun m q=>by rw[(kv _ _ _ _ _).1,(kv _ _ _ _ _).1];exact q,?_⟩;try unfold cV
     rw[D2 a b c n (jS (a.u n).fd 0) (oe a.P a.O+1) a.O a.P,D2 {a with u:=Bt a.u n (jS (a.u n).fd 0) (oe a.P a.O+1),O:=a.O,P:=a.P} b c n (jS (a.u n).fd (jS (a.u n).fd 0+1)) (py a.P a.O+1) (od a.P a.O) (oc a.P a.O)];try unfold cV
     rw[WB];rfl
 ·have hl:a.aB n≠0:=hl;have iJ:(kp a b c).aB n=a.aB n:=rfl;rw[iJ];apply gO;refine rt3 (pz 17) ?_;grind [aS,aR,bN,KA.uK,KA.zd,KA.ze,KA.qd,aJ,cI.up]
def ZI(a:KA)(b:KZ)(c:KC)(N:Nat)(T:Int)(ho:a.Ok T)(hc:cI a c N T)(hT:T<=800000)(n i m:Int):Spec Tryz.prog 22 [ay b.kb 0 0,iI n,iI i,iI m] (cV a b c []) (fun v H1=>v= .tuple #[.string (a.kM c.F.toFF n i m),ax 102 (a.mj c.F.toFF n i m)]/\∃ c1:KC,cI (a.wx c.F.toFF n i m) c1 N (T+1)/\H1=(cV (a.wx c.F.toFF n i m) b c1 [])):=by
 refine Spec.go 31 [0,1,2,3,8,9,10,11,20] [] Tryz.func22 fun W=> ?_;refine cq (zm a b c ho.wk.fd n i) .h1 ?_;refine cd ?_ ?_<;>intro h1
 ·refine er (pz 17) ?_;grind [aS,aR,bN,KA.mj,KA.kM,KA.wx,cI.up]
 ·have IC:a.eY n i=0:=og;obtain⟨hn,hs,hi,hf,hv⟩:=KA.sF IC;have Y4:=ho.wk.fd n i;apply ld .aa (gN _);refine cq (adu _ _ _ _ _ T og ho.wk.OI c.F (hc.F.sh og) T og _ ho.wk.PI (a.dD n i) m) (pk [14,9,9,9,10]) ?_;refine aW rfl rfl rfl (ah (pk (rr 9 5 [1,1,1,2,1,0,0,0])) rfl ?_);have e1:a.mj c.F.toFF n i m=uy c.F.toFF a.P a.O (a.dD n i) m:=by unfold KA.mj;rw[if_neg og]
  have e2:a.kM c.F.toFF n i m=uz c.F.toFF a.P a.O (a.dD n i) m:=by unfold KA.kM;rw[if_neg og]
  have e3:a.wx c.F.toFF n i m= {a with O:=qv c.F.toFF a.O (a.dD n i) m,P:=qu a.P a.O (a.dD n i) m} :=by unfold KA.wx;rw[if_neg og]
  rw[e1,e2,e3];exact⟨rfl,c,hc.same og rfl,rfl⟩
set_option maxHeartbeats 8000000 in
def WD(a:KA)(b:KZ)(c:KC)(N:Nat)(T:Int)(ho:a.Ok T)(hc:cI a c N T)(hT:T<=800000)(n i:Int)(x:ByteArray)(hx:x.size<=1000000):Spec Tryz.prog 21 [ay b.kb 0 0,iI n,iI i,.string x] (cV a b c [.ro 0 0 32 dp]) (fun v H1=>v= .tuple #[iI (a.Ax c.F.toFF n i x),ax 102 (a.fg c.F.toFF n i x)]/\∃ c1:KC,cI (a.pD c.F.toFF n i x) c1 N (T+1)/\H1=(cV (a.pD c.F.toFF n i x) b c1 [])):=by
 refine Spec.go 41 [0,1,2,3,8,9,10,11,12,21,35] [] Tryz.func21 fun W=> ?_;refine cq (zm a b c ho.wk.fd n i) .h1 ?_;refine cd ?_ ?_<;>intro h1
 ·refine er (pz 17) ?_;grind [aS,aR,bN,KA.fg,KA.Ax,KA.pD,cI.up]
 ·have IC:a.eY n i=0:=og;obtain⟨hn,hs,hi,hf,hv⟩:=KA.sF IC;have Y4:=ho.wk.fd n i;apply ld .aa (gN _);refine ca (Zt _ _ _ _ _ T og ho.wk.OI c.F (hc.F.sh og) T og _ ho.wk.PI (a.dD n i) x hx) (pk [14,9,9,9,10]) ?_;rintro _ _ ⟨rfl,F1,NH,Sy,Eu,rfl⟩;have hcf:cI (a.uL c.F.toFF n i x) {c with F:=F1} N (T+1):=⟨hc.qO,hc.qR,(by show F1.toFF.Ok _ _;rw[NH];exact NI hc.F _ _ _),Sy.trans hc.rp,Eu.trans hc.rc,(by show F1.toFF.roots=_;rw[NH,Fg];exact hc.rl),hc.tb,hc.tk⟩;apply gO;refine XO.v (N8 rfl rfl dq Tryz.underlying33 PE rfl Tryz.underlying102 rfl) rfl (gO ?_);refine cd ?_ ?_<;>intro h2
  ·refine xK 17 (WA (a.uL c.F.toFF n i x) b {c with F:=F1} N (T+1) (ho.Gy og c.F.toFF n i x).wk hcf og n 2 false ((ho.Gy og c.F.toFF n i x).hx.any n)) (pk (rr 9 5 [1,1,1,2,1,0,0,0,0])) rfl ?_;rintro _ _ ⟨c1,fZ,rfl⟩;apply gO;refine er (pz 17) ?_;try dsimp only[aS,aR,bI,bN]
   grind [KA.fg,KA.Ax,KA.pD]
  ·refine aW rfl rfl rfl (ah (pk (rr 9 5 [1,1,1,2,1,0,0,0])) rfl ?_);have e1:a.fg c.F.toFF n i x=(iT c.F.toFF a.P a.O (a.dD n i) x):=by unfold KA.fg;rw[if_neg og]
   have e2:a.Ax c.F.toFF n i x=jv c.F.toFF a.P a.O (a.dD n i) x:=by unfold KA.Ax;rw[if_neg og]
   have e3:a.pD c.F.toFF n i x=a.uL c.F.toFF n i x:=by unfold KA.pD;rw[if_neg og,if_neg og]
   rw[e1,e2,e3];exact⟨rfl,_,hcf,rfl⟩
def ZJ(a:KA)(b:KZ)(c:KC)(N:Nat)(T:Int)(ho:a.Ok T)(hc:cI a c N T)(hT:T<=800000)(n i z:Int):Spec Tryz.prog 165 [ay b.kb 0 0,iI n,iI i,iI z] (cV a b c []) (fun v H1=>v=ax 102 (a.nJ n i z)/\∃ c1:KC,cI (a.uM n i z) c1 N (T+1)/\H1=(cV (a.uM n i z) b c1 [])):=by
 refine Spec.go 28 [0,1,2,3,8,9,10,19] [] Tryz.func165 fun W=> ?_;refine cq (zm a b c ho.wk.fd n i) .h1 ?_;refine cd ?_ ?_<;>intro h1
 ·refine bL (pz 17) ?_;have e1:a.nJ n i z=a.eY n i:=by unfold KA.nJ;rw[if_pos og]
  have e3:a.uM n i z=a:=by unfold KA.uM;rw[if_pos og]
  rw[e1,e3];exact⟨rfl,c,hc.up (Nat.le_refl _) og,rfl⟩
 ·have IC:a.eY n i=0:=og;obtain⟨hn,hs,hi,hf,hv⟩:=KA.sF IC;have Y4:=ho.wk.fd n i;apply ld .aa (gN _);refine cq (adv _ _ _ _ _ (a.dD n i) z) (pk [14]) ?_;refine aM rfl rfl (ah (pk (rr 14 1 [0,0,0])) rfl ?_);have e1:a.nJ n i z=Tr.nJ a.O (a.dD n i) z:=by unfold KA.nJ;rw[if_neg og]
  have e3:a.uM n i z= {a with O:=wj a.O (a.dD n i) z,P:=a.P} :=by unfold KA.uM;rw[if_neg og]
  rw[e1,e3];exact⟨rfl,c,hc.same og rfl,rfl⟩
open Go.X.Fa Go.X.Gr Go.X.Vm
def adM(a:KA)(b:KZ)(c:KC)(N:Nat)(T:Int)(ho:a.Ok T)(hc:cI a c N T)(hT:T<=800000)(n f m:Int)(w:Bool):Spec Tryz.prog 79 [ay b.kb 0 0,iI n,iI f,iI m,.bool w] (cV a b c []) (fun v H1=>v=ax 102 (a.qp n f m)/\∃ c1:KC,cI (a.D8 n f m w) c1 N T/\H1=(cV (a.D8 n f m w) b c1 [])):=by
 refine Spec.go 30 [0,1,2,3,4,10,11,12,20] [] Tryz.func79 fun W=> ?_;refine ca (ek b.kb (kp a b c) n) .h1 ?_;rintro _ _ ⟨⟨hl,rfl⟩ | ⟨hl,rfl⟩,rfl⟩
 ·obtain⟨jx,gn⟩:=bE hl;have hl:a.aB n=0:=hl;have gn:(a.u n).st=1:=gn;have kX:=om a b c (n:=n);have IJ:=ho.wk.sys.mo n.toNat og;refine gO ?_;refine XR.mono (fun _ bJ=>jR (z:=n.toNat) (fh jx) (pk [7,7]) bJ) ?_;refine ld (.t4 .aa) (dm _ og kX) ?_;refine ca (af4 b.bb _ _ _ (a.f n.toNat) IJ _ _ _) (pz 2) ?_;rintro _ _ ⟨rfl,pu,cu,rfl⟩;refine gO ?_;refine XR.mono (fun _ bJ=>mf ((a.f n.toNat).map f m w) (fh jx) (pz 4) bJ) ?_;refine aM rfl rfl (ah (pk (rr 7 2 (rr 10 0 []))) rfl ?_);have e1:a.qp n f m=(a.f n.toNat).qp f m:=by unfold KA.qp;rw[if_neg og]
  have e2:a.D8 n f m w= {a with v:=a.v,f:=bu a.f n.toNat ((a.f n.toNat).map f m w),g:=a.g} :=by unfold KA.D8;rw[if_neg og]
  rw[e1,e2];exact⟨rfl,{c with pp:=bu c.pp n.toNat pu,cc:=bu c.cc n.toNat cu},⟨hc.qO,hc.qR,hc.F,hc.rp,hc.rc,hc.rl,hc.tb,hc.tk⟩,rfl⟩
 ·have hl:a.aB n≠0:=hl;have iJ:(kp a b c).aB n=a.aB n:=rfl;rw[iJ];refine gO ?_;refine bL (pz 17) ?_;grind [aS,aR,KA.qp,KA.D8,ax]
def NJ(a:KA)(b:KZ)(c:KC)(N:Nat)(T:Int)(ho:a.Ok T)(hc:cI a c N T)(hT:T<=800000)(n f m:Int)(w:Bool):Spec Tryz.prog 80 [ay b.kb 0 0,iI n,iI f,iI m,.bool w] (cV a b c []) (fun v H1=>v=ax 102 (a.lg n f m)/\∃ c1:KC,cI (a.uN n f m w) c1 N T/\H1=(cV (a.uN n f m w) b c1 [])):=by
 refine Spec.go 30 [0,1,2,3,4,10,11,12,20] [] Tryz.func80 fun W=> ?_;refine ca (ek b.kb (kp a b c) n) .h1 ?_;rintro _ _ ⟨⟨hl,rfl⟩ | ⟨hl,rfl⟩,rfl⟩
 ·obtain⟨jx,gn⟩:=bE hl;have hl:a.aB n=0:=hl;have gn:(a.u n).st=1:=gn;have kX:=om a b c (n:=n);have IJ:=ho.wk.sys.mo n.toNat og;refine gO ?_;refine XR.mono (fun _ bJ=>jR (z:=n.toNat) (fh jx) (pk [7,7]) bJ) ?_;refine ld (.t4 .aa) (dm _ og kX) ?_;refine ca (RT b.bb _ _ _ (a.f n.toNat) IJ _ _ _) (pz 2) ?_;rintro _ _ ⟨rfl,pu,cu,rfl⟩;refine gO ?_;refine XR.mono (fun _ bJ=>mf ((a.f n.toNat).mS f m w) (fh jx) (pz 4) bJ) ?_;refine aM rfl rfl (ah (pk (rr 7 2 (rr 10 0 []))) rfl ?_);have e1:a.lg n f m=(a.f n.toNat).lg f m:=by unfold KA.lg;rw[if_neg og]
  have e2:a.uN n f m w= {a with v:=a.v,f:=bu a.f n.toNat ((a.f n.toNat).mS f m w),g:=a.g} :=by unfold KA.uN;rw[if_neg og]
  rw[e1,e2];exact⟨rfl,{c with pp:=bu c.pp n.toNat pu,cc:=bu c.cc n.toNat cu},⟨hc.qO,hc.qR,hc.F,hc.rp,hc.rc,hc.rl,hc.tb,hc.tk⟩,rfl⟩
 ·have hl:a.aB n≠0:=hl;have iJ:(kp a b c).aB n=a.aB n:=rfl;rw[iJ];refine gO ?_;refine bL (pz 17) ?_;grind [aS,aR,KA.lg,KA.uN,ax]
def WE(a:KA)(b:KZ)(c:KC)(N:Nat)(T:Int)(ho:a.Ok T)(hc:cI a c N T)(hT:T<=800000)(n f m:Int):Spec Tryz.prog 42 [ay b.kb 0 0,iI n,iI f,iI m] (cV a b c []) (fun v H1=>v=ax 102 (a.oq n f m)/\∃ c1:KC,cI (a.jN n f m) c1 N T/\H1=(cV (a.jN n f m) b c1 [])):=by
 refine Spec.go 44 [0,1,2,3,8,9,10,11,19,32] [] Tryz.func42 fun W=> ?_;refine ca (ek b.kb (kp a b c) n) .h1 ?_;rintro _ _ ⟨⟨hl,rfl⟩ | ⟨hl,rfl⟩,rfl⟩
 ·obtain⟨jx,gn⟩:=bE hl;have hl:a.aB n=0:=hl;have gn:(a.u n).st=1:=gn;have kX:=om a b c (n:=n);have IJ:=ho.wk.sys.mo n.toNat og;refine gO ?_;refine XR.mono (fun _ bJ=>jR (z:=n.toNat) (fh jx) (pk [7,7]) bJ) ?_;refine ld (.t4 .aa) (dm _ og kX) ?_;refine ca (Le b.bb b.vp (c.mb n.toNat) a.v ho.wk.sys.jJ.ok _ _ (a.f n.toNat) IJ (ho.wk.sys.In og) f m) (pk [9,9,0,0]) ?_;rintro _ _ ⟨rfl,pu,cu,rfl⟩;refine gO ?_;refine XR.mono (fun _ bJ=>mf (a.wy n f m).2.2.2 (fh jx) (pk [2,2,2,2]) bJ) ?_;refine cd ?_ ?_<;>intro h1
  ·have hu:(a.wy n f m).2.1≠0:=h1;refine aM rfl rfl (ah (pk (4::4::4::4::4::2::2::rr 10 0 [])) rfl ?_);have e1:a.oq n f m=(a.wy n f m).2.1:=by unfold KA.oq;rw[if_neg og,if_pos hu]
   have e2:a.jN n f m= {a with v:=(a.wy n f m).2.2.1,f:=bu a.f n.toNat (a.wy n f m).2.2.2,g:=a.g} :=by unfold KA.jN;rw[if_neg og,if_pos hu]
   rw[e1,e2];exact⟨rfl,{c with pp:=bu c.pp n.toNat pu,cc:=bu c.cc n.toNat cu},⟨hc.qO,hc.qR,hc.F,hc.rp,hc.rc,hc.rl,hc.tb,hc.tk⟩,rfl⟩
  ·have hu:¬(a.wy n f m).2.1≠0:=h1;refine rq [0,1,2,3,4,5,6,7,8,9,10] mixed (ld (.t4 .aa) (eA _) (ld (.t4 .aa) (dw _) ?_));refine cq (nf _ _ a.g ho.wk.gI.ok _ _ _ (1000*T) (by have:=ho.wk.T0;omega) ho.wk.gS) (pk [5]) ?_;refine aM rfl rfl (ah (pk (5::0::4::4::4::2::2::rr 10 0 [])) rfl ?_);have e1:a.oq n f m=a.g.gk (a.u n).cB 0 (a.wy n f m).1:=by unfold KA.oq;rw[if_neg og,if_neg hu]
   have e2:a.jN n f m= {a with v:=(a.wy n f m).2.2.1,f:=bu a.f n.toNat (a.wy n f m).2.2.2,g:=a.g.cR (a.u n).cB 0 (a.wy n f m).1} :=by unfold KA.jN;rw[if_neg og,if_neg hu]
   rw[e1,e2];exact⟨rfl,{c with pp:=bu c.pp n.toNat pu,cc:=bu c.cc n.toNat cu},⟨hc.qO,hc.qR,hc.F,hc.rp,hc.rc,hc.rl,hc.tb,hc.tk⟩,rfl⟩
 ·have hl:a.aB n≠0:=hl;have iJ:(kp a b c).aB n=a.aB n:=rfl;rw[iJ];refine gO ?_;refine bL (pz 17) ?_;grind [aS,aR,KA.oq,KA.jN,ax]
def WG(a:KA)(b:KZ)(c:KC)(N:Nat)(T:Int)(ho:a.Ok T)(hc:cI a c N T)(hT:T<=800000)(n:Int)(o:Bool):Spec Tryz.prog 87 [ay b.kb 0 0,iI n,.bool o] (cV a b c []) (fun v H1=>∃ (e:Int) (c1:KC),v=ax 102 e/\cI a c1 N T/\H1=(cV a b c1 [])):=by
 refine Spec.go 26 [0,1,2,6,8,16] [] Tryz.func87 fun W=> ?_;refine ca (ek b.kb (kp a b c) n) .h1 ?_;rintro _ _ ⟨⟨hl,rfl⟩ | ⟨hl,rfl⟩,rfl⟩
 ·obtain⟨jx,gn⟩:=bE hl;have hl:a.aB n=0:=hl;have gn:(a.u n).st=1:=gn;refine gO ?_;refine ld .aa (eB _) ?_;refine ca (Il _ _ c.q c.d hc.qO.eG hc.qR n _) (pk [3,3]) ?_;rintro _ _ ⟨rfl,q2,tu,zp,rfl⟩;refine gO ?_;refine aM rfl rfl (ah (pk (2::2::2::rr 14 0 [])) rfl ?_);exact⟨_,{c with q:=q2},rfl,⟨(by show q2.toSF.Ok _ _ _;rw[tu];exact hc.qO.gq _ _),zp,hc.F,hc.rp,hc.rc,hc.rl,hc.tb,fun m m0 m1 hm=>hc.tk m m0 m1 (by have hm:q2.toSF.aa (10+m)=true:=hm;rw[tu,Fa.SF.qX]at hm;exact hm)⟩,rfl⟩
 ·have hl:a.aB n≠0:=hl;have iJ:(kp a b c).aB n=a.aB n:=rfl;rw[iJ];refine gO ?_;refine bL (pz 17) ?_;exact⟨a.aB n,c,(aJ _ hl).symm,hc,rfl⟩
def R7(a:KA)(b:KZ)(c:KC)(N:Nat)(T:Int)(ho:a.Ok T)(hc:cI a c N T)(hT:T<=800000)(z:Int):Spec Tryz.prog 229 [ay b.kb 0 0,iI z] (cV a b c []) (fun v H1=>v=iI (a.iP z)/\H1=(cV a b c [])):=by
 refine Spec.go 47 [0,1,4,5,6,7,8,9,10,12,35,43] [] Tryz.func229 fun W=> ?_;refine lp (σ:=Int×Int×Int) (fun x=>(20-x.1).toNat) (fun x=>(1<=x.1/\x.1<=20)/\x.2=a.BQ z x.1.toNat) (fun x=>[(7,iI x.1),(5,iI x.2.1),(6,iI x.2.2),(0,ay b.kb 0 0),(1,iI z)]) (fun x=>XM W (bX (cV a b c [])) (cV a b c [])) ((1,-1,0)) ?_ S5 (xq (pz 17)) ?_
 ·exact⟨sq,rfl⟩
 intro x hx;obtain⟨hi,wE⟩:=hx;refine gC ?_;refine cd ?_ ?_<;>intro h1
 ·refine ca (ek b.kb (kp a b c) x.1) .h1 ?_;rintro _ _ ⟨⟨hl,rfl⟩ | ⟨hl,rfl⟩,rfl⟩
  ·obtain⟨jx,gn⟩:=bE hl;have hl:a.aB x.1=0:=hl;have gn:(a.u x.1).st=1:=gn;have kX:=om a b c (n:=x.1);have IJ:=ho.wk.sys.mo x.1.toNat og;refine gO ?_;refine rq [0,1,2,3,4,5,6,7,8,9,10,11,12,13,14] mixed (ld .aa (eA _) (ld .aa (dw _) ?_));refine cq (Zc _ _ a.g ho.wk.gI.ok (a.u x.1).cB z) (pk [1]) ?_;refine wM ?_ ?_<;>intro h2
   ·try simp only[sb]at h2
    have Xi:a.g.under (a.u x.1).cB z=false:=by simpa using h2
    refine sd (ag ((x.1+1,x.2)) ?_ ?_ S5 (xq (pk (1::rr 16 0 []))));all_goals grind [oF]
   ·try simp only[sb]at h2
    have Xi:a.g.under (a.u x.1).cB z=true:=by simpa using h2
    refine XR.mono (fun _ bJ=>jR (z:=x.1.toNat) (fh jx) (pk [7,7]) bJ) ?_;refine ld (.t5 .aa) (dm _ og kX) ?_;refine cq (pJ b.bb _ _ _ (a.f x.1.toNat) IJ) .h1 ?_;refine XR.mono (fun _ bJ=>nF (f:=a.f) (z:=x.1.toNat) (ps:=c.pp) (cs:=c.cc) (mb:=c.mb) (fh jx) (pz 4) bJ) ?_;refine cd ?_ ?_<;>intro h3
    ·have hgt:x.2.2<a.eZ x.1:=h3;refine sd (ag ((x.1+1,x.1,a.eZ x.1)) ?_ ?_ S5 (xq (pk (3::rr 6 2 (rr 10 0 [])))));all_goals grind [oF]
    ·have hgt:¬x.2.2<a.eZ x.1:=h3;refine sd (ag ((x.1+1,x.2)) ?_ ?_ S5 (xq (pk (3::rr 6 2 (rr 10 0 [])))));all_goals grind [oF]
  ·have hl:a.aB x.1≠0:=hl;have iJ:(kp a b c).aB x.1=a.aB x.1:=rfl;rw[iJ];refine gO ?_;refine rq [0,1,2,3,4,5,6,7,8,9,10,11,12,13,14] mixed (sd (ag ((x.1+1,x.2)) ?_ ?_ S5 (xq (pz 17))));all_goals grind [oF]
 ·refine bL (pz 17) ?_;grind [aS,aR,KA.iP]
set_option maxHeartbeats 8000000 in
def R8(a:KA)(b:KZ)(c:KC)(N:Nat)(T:Int)(ho:a.Ok T)(hc:cI a c N T)(hT:T<=800000)(n:Int):Spec Tryz.prog 201 [ay b.kb 0 0,iI n] (cV a b c [.ro 0 0 32 dp]) (fun v H1=>v=ax 102 (a.cv n).1/\∃ c1:KC,cI (a.cv n).2 c1 N (T+1)/\H1=[.cells b.kb 0 453 (aD (kp (a.cv n).2 b c1)),.cells b.gb 0 60 (bD (a.cv n).2.g),.cells b.sb 0 158 (Sp.aK (a.cv n).2.s),.cells b.qb 0 2281 (aH c1.q),.aQ bW (SC.dg 254 c1.q),.cells b.bb 0 577 (dI b.vp (a.cv n).2.v.ij (a.cv n).2.v.rf),.cells b.vp 0 71 (Vm.bK (a.cv n).2.v.bb.fe),.dG (iR (a.cv n).2) c1.mb 34 (cN b.bb (a.cv n).2.f c1.pp c1.cc),.aQ (iR (a.cv n).2) (rN 171 (a.cv n).2.f c1.pp c1.cc),.cells b.tb 0 321 (aC c1.F),.aQ au (FC.aX 9 c1.F),.aQ au (FC.aY 3 c1.F),dy c1.rp c1.rc 3 c1.rl,.cells b.pi 0 24 (Tr.bK (a.cv n).2.P),.cells b.ob 0 122 (aZ b.tb b.pi (a.cv n).2.O),.dG (kz (a.cv n).2) (fun z=>(c1.t z).b) 4 (cT b.tb c1.t),.aQ (kz (a.cv n).2) (rT 168 c1.t)]):=by
 refine Spec.go 51 [0,1,4,5,6,7,8,9,17,32,46] [] Tryz.func201 fun W=> ?_;refine lp (σ:=Nat×KA×KC) (fun x=>x.1) (fun x=>x.2.1.Ok T/\cI x.2.1 x.2.2 N T/\x.2.1.lvC<x.1/\x.2.1.ll n x.1=a.ll n 21) (fun x=>[(0,ay b.kb 0 0),(1,iI n)]) (fun x=>XM W (bX (cV a b c [.ro 0 0 32 dp])) (cV x.2.1 b x.2.2 [.ro 0 0 32 dp])) ((21,a,c)) ?_ S2 (xq (pz 18)) ?_
 ·exact⟨ho,hc,by have:=a.OV;show a.lvC<21;omega,rfl⟩
 intro x hx;obtain⟨R9,Zx,hxn,hxr⟩:=hx;have MF:=x.2.1.OV;obtain⟨k,hk⟩:∃ k,x.1=k+1:=⟨x.1-1,og⟩;apply gC;refine ca (ek b.kb (kp x.2.1 b x.2.2) n) .h1 ?_;rintro _ _ ⟨⟨hl,rfl⟩ | ⟨hl,rfl⟩,rfl⟩
 ·obtain⟨jx,gn⟩:=bE hl;have hl:x.2.1.aB n=0:=hl;apply gO;refine rq [0,1,2,3,4,5,6,7,8,9,10,11,12,13] mixed (ld .aa (eA _) (ld .aa (dw _) ?_));refine cq (Zd _ _ x.2.1.g R9.wk.gI.ok (x.2.1.u n).cB 0 1 (1000*T) (by have:=R9.wk.T0;omega) R9.wk.gS) (pk [1]) ?_;refine wM ?_ ?_<;>intro h1
  ·try simp only[sb]at h1
   have iJ:(x.2.1.iQ n)=none:=by
    simp_all[KA.iQ]
   refine rq [0,1,2,3,4,5,6,7,8,9] mixed (ld (.ao .aa) (eA _) (ld (.ao .aa) (dw _) ?_));refine cq (uS _ _ x.2.1.g R9.wk.gI.ok (x.2.1.u n).cB 0 1 (1000*T) (by have:=R9.wk.T0;omega) R9.wk.gS) .h1 ?_;refine bL (pk (1::rr 16 0 [])) ?_;have e1:a.cv n=(x.2.1.g.cZ (x.2.1.u n).cB 0 1,{x.2.1 with v:=x.2.1.v,f:=x.2.1.f,g:=x.2.1.g.aP (x.2.1.u n).cB 0 1}):=by
    grind [KA.ll,KA.cv]
   rw[e1];exact⟨rfl,x.2.2,Zx.same og rfl,rfl⟩
  ·try simp only[sb]at h1
   have iJ:∃ z,(x.2.1.iQ n)=some z:=by
    grind [Option.isSome_iff_exists,KA.iQ]
   obtain⟨z,hz⟩:=iJ;have hzg:(x.2.1.g.iQ (x.2.1.u n).cB 0 1).getD 0=z:=by rw[show x.2.1.g.iQ (x.2.1.u n).cB 0 1=some z from hz];rfl
   refine cq (R7 x.2.1 b x.2.2 N T R9 Zx og _) (pk (1::rr 16 0 [])) ?_;refine cd ?_ ?_<;>intro h2
   ·have hvn:x.2.1.iP z<0:=by rw[<-hzg];exact h2
    refine bL (pz 17) ?_;try dsimp only[aS,aR,bI,bN]
    grind [KA.cv,KA.ll,cI.up,ax]
   ·have hvn:¬x.2.1.iP z<0:=by rw[<-hzg];exact h2
    have aiI:=sL hvn;have hvo:1<=x.2.1.iP ((x.2.1.g.iQ (x.2.1.u n).cB 0 1).getD 0)/\x.2.1.aB (x.2.1.iP ((x.2.1.g.iQ (x.2.1.u n).cB 0 1).getD 0))=0:=by rw[hzg];exact aiI
    refine xK 17 (Ck x.2.1 b x.2.2 N T R9.wk Zx og _ 137 (bQ hvo.2).2 (R9.hx.any _)) (pz 18) rfl ?_;rintro _ _ ⟨c1,fZ,rfl⟩;apply gO;refine ag ((k,x.2.1.dt (x.2.1.iP ((x.2.1.g.iQ (x.2.1.u n).cB 0 1).getD 0)) 137,c1)) ?_ ?_ S2 (xq (pz 18))
    ·omega
    ·refine⟨R9.wk.DW R9.r0 R9.d0 og (bQ hvo.2).2 (R9.hx.any _) 137,fZ,?_,?_⟩
     ·have:=Rs (a:=x.2.1) (co:=137) (bQ hvo.2).1 (bQ hvo.2).2;grind
     grind [KA.ll]
 ·have hl:x.2.1.aB n≠0:=hl;apply gO;refine bL (pz 17) ?_;try dsimp only[aS,aR,bI,bN]
  grind [KA.cv,KA.ll,cI.up,ax]
theorem NK(v:VB)(m:Vm.MS)(a:Int):(m.load v a).2.2.2.az=m.az:=by
 by_cases e:(m.b6 v a false).2.1=0
 ·rw[Vm.MS.HG e];exact Vm.MS.yB v m a false
 ·rw[Vm.MS.Du e];exact Vm.MS.yB v m a false
theorem Lk(v:VB)(m:Vm.MS)(a b:Int):(m.store v a b).2.2.az=m.az:=by
 by_cases e:(m.b6 v a true).2.1=0
 ·rw[Vm.MS.Dv e];exact Vm.MS.yB v m a true
 ·rw[Vm.MS.Gf e];exact Vm.MS.yB v m a true
def ZK(kb pb mb:Nat)(v:VB)(hv:v.Ok)(p:Option Addr)(c:Nat)(m:Vm.MS)(hm:m.Ok)(a:Int):Spec Tryz.prog 151 [ay mb 0 0,iI a] [.cells kb 0 577 (dI pb v.ij v.rf),.cells pb 0 71 (Vm.bK v.bb.fe),.cells mb 0 34 (b7 kb p (Vm.ai m.az).length c m.fr m.bH),aL p c 171 3 (Vm.ai m.az).length (fm (Vm.ai m.az)),.ro 1 0 64 fQ] (fun x H1=>x= .tuple #[.int .u8 (m.load v a).1,ax 102 (m.load v a).2.1]/\H1=[.cells kb 0 577 (dI pb (m.load v a).2.2.1.ij (m.load v a).2.2.1.rf),.cells pb 0 71 (Vm.bK (m.load v a).2.2.1.bb.fe),.cells mb 0 34 (b7 kb p (Vm.ai (m.load v a).2.2.2.az).length c (m.load v a).2.2.2.fr (m.load v a).2.2.2.bH),aL p c 171 3 (Vm.ai (m.load v a).2.2.2.az).length (fm (Vm.ai (m.load v a).2.2.2.az))]):=(ade kb pb mb v hv p c m hm a).SO fun _ _ h=>by rw[NK];exact h
def WJ(kb pb mb:Nat)(v:VB)(hv:v.Ok)(p:Option Addr)(c:Nat)(m:Vm.MS)(hm:m.Ok)(a b:Int):Spec Tryz.prog 153 [ay mb 0 0,iI a,.int .u8 b] [.cells kb 0 577 (dI pb v.ij v.rf),.cells pb 0 71 (Vm.bK v.bb.fe),.cells mb 0 34 (b7 kb p (Vm.ai m.az).length c m.fr m.bH),aL p c 171 3 (Vm.ai m.az).length (fm (Vm.ai m.az)),.ro 1 0 64 fQ] (fun x H1=>x=ax 102 (m.store v a b).1/\H1=[.cells kb 0 577 (dI pb (m.store v a b).2.1.ij (m.store v a b).2.1.rf),.cells pb 0 71 (Vm.bK (m.store v a b).2.1.bb.fe),.cells mb 0 34 (b7 kb p (Vm.ai (m.store v a b).2.2.az).length c (m.store v a b).2.2.fr (m.store v a b).2.2.bH),aL p c 171 3 (Vm.ai (m.store v a b).2.2.az).length (fm (Vm.ai (m.store v a b).2.2.az))]):=(Zl kb pb mb v hv p c m hm a b).SO fun _ _ h=>by rw[Lk];exact h
def ZL(a:KA)(b:KZ)(c:KC)(N:Nat)(T:Int)(ho:a.Ok T)(hc:cI a c N T)(hT:T<=900000)(n:Int)(hl:a.aB n=0)(ab xb:Nat)(x y:Int):Spec Tryz.prog 150 [ay b.kb 0 (0+0+n.toNat*22),ay ab 0 0,ay xb 0 0] (cV a b c [.cells ab 0 1 (aF (iI x)),.cells xb 0 1 (aF (.int .u8 y)),.ro 1 0 64 fQ]) (fun v H1=>v=ax 102 ((Xc n x).e a)/\∃ c1:KC,cI ((Xc n x).A a) c1 N T/\H1=(cV ((Xc n x).A a) b c1 [.cells ab 0 1 (aF (iI x)),.cells xb 0 1 (aF (.int .u8 ((Xc n x).y a)))])):=by
 obtain⟨hn,gn⟩:=bQ hl;have kX:=om a b c (n:=n);have IJ:=ho.wk.sys.mo n.toNat og;refine Spec.go 16 [0,1,2,4,5] [] Tryz.func150 fun W=> ?_;apply XR.mono fun _ bJ=>jR (z:=n.toNat) (fh hn) (pk [7,7]) bJ;refine rq [0,1,2,3,4,5,6,7,8,9,10] mixed ?_;apply ld (.t4 .aa) (dm _ og kX);apply ld (.ov (.t7 .aa)) (aF.ld _);refine IE 4 (ZK b.bb b.vp (c.mb n.toNat) a.v ho.wk.sys.jJ.ok _ _ (a.f n.toNat) IJ x) (pk [9,9,0,0,17]) rfl ?_;apply st (.ov (.t9 .aa)) (aF.st _ _) rfl;apply XR.mono fun _ bJ=>mf ((a.f n.toNat).load a.v x).2.2.2 (fh hn) (pk [2,2,3,3]) bJ;refine aM rfl rfl (ah (pk [5,5,5,5,5,2,2,0,0,1,1,1,1,1,1,1,1,1,1]) rfl ?_);exact⟨rfl,{c with pp:=bu c.pp n.toNat (c.pp n.toNat),cc:=bu c.cc n.toNat (c.cc n.toNat)},⟨hc.qO,hc.qR,hc.F,hc.rp,hc.rc,hc.rl,hc.tb,hc.tk⟩,rfl⟩
def WK(a:KA)(b:KZ)(c:KC)(N:Nat)(T:Int)(ho:a.Ok T)(hc:cI a c N T)(hT:T<=900000)(n:Int)(hl:a.aB n=0)(ab xb:Nat)(x y:Int):Spec Tryz.prog 152 [ay b.kb 0 (0+0+n.toNat*22),ay ab 0 0,ay xb 0 0] (cV a b c [.cells ab 0 1 (aF (iI x)),.cells xb 0 1 (aF (.int .u8 y)),.ro 1 0 64 fQ]) (fun v H1=>v=ax 102 ((sfD n x y).e a)/\∃ c1:KC,cI ((sfD n x y).A a) c1 N T/\H1=(cV ((sfD n x y).A a) b c1 [.cells ab 0 1 (aF (iI x)),.cells xb 0 1 (aF (.int .u8 ((sfD n x y).y a)))])):=by
 obtain⟨hn,gn⟩:=bQ hl;have kX:=om a b c (n:=n);have IJ:=ho.wk.sys.mo n.toNat og;refine Spec.go 12 [0,1,2,4] [] Tryz.func152 fun W=> ?_;apply XR.mono fun _ bJ=>jR (z:=n.toNat) (fh hn) (pk [7,7]) bJ;refine rq [0,1,2,3,4,5,6,7] mixed ?_;apply ld (.t4 .aa) (dm _ og kX);apply ld (.ov (.t7 .aa)) (aF.ld _);apply ld (.ov (.t8 .aa)) (aF.ld _);refine IE 4 (WJ b.bb b.vp (c.mb n.toNat) a.v ho.wk.sys.jJ.ok _ _ (a.f n.toNat) IJ x y) (pk [9,9,0,0,17]) rfl ?_;apply XR.mono fun _ bJ=>mf ((a.f n.toNat).store a.v x y).2.2 (fh hn) (pk [2,2,3,3]) bJ;refine aM rfl rfl (ah (pk [5,5,5,5,5,2,2,0,0,1,1,1,1,1,1,1,1,1,1]) rfl ?_);exact⟨rfl,{c with pp:=bu c.pp n.toNat (c.pp n.toNat),cc:=bu c.cc n.toNat (c.cc n.toNat)},⟨hc.qO,hc.qR,hc.F,hc.rp,hc.rc,hc.rl,hc.tb,hc.tk⟩,rfl⟩
set_option maxHeartbeats 8000000 in
def Ll(a:KA)(b:KZ)(c:KC)(N:Nat)(T:Int)(ho:a.Ok T)(hc:cI a c N T)(hT:T<=800000)(n x:Int)(w:Bool)(D:TD)(y:Int)(ab xb:Nat)(hA:∀ {b:KA} {S:Int},b.Ok S->b.aB n=0->(D.A b).Ok S)(fd:Nat)(IG:dc Tryz.prog fd=true)(hd:∀ (a1:KA) (c1:KC),a1.Ok (T+1)->cI a1 c1 N (T+1)->a1.aB n=0->Spec Tryz.prog fd [ay b.kb 0 (0+0+n.toNat*22),ay ab 0 0,ay xb 0 0] (cV a1 b c1 [.cells ab 0 1 (aF (iI x)),.cells xb 0 1 (aF (.int .u8 y)),.ro 1 0 64 fQ]) (fun v H1=>v=ax 102 (D.e a1)/\∃ c2:KC,cI (D.A a1) c2 N (T+1)/\H1=(cV (D.A a1) b c2 [.cells ab 0 1 (aF (iI x)),.cells xb 0 1 (aF (.int .u8 (D.y a1)))]))):Spec Tryz.prog 149 [ay b.kb 0 0,iI n,iI x,.bool w,.func (.func fd) #[] #[ay ab 0 0,ay xb 0 0]] (cV a b c [.cells ab 0 1 (aF (iI x)),.cells xb 0 1 (aF (.int .u8 y)),.ro 0 0 32 dp,.ro 1 0 64 fQ]) (fun v H1=>v=ax 102 (a.jd n x w D y).1/\∃ c1:KC,cI (a.jd n x w D y).2.1 c1 N (T+1)/\H1=[.cells b.kb 0 453 (aD (kp (a.jd n x w D y).2.1 b c1)),.cells b.gb 0 60 (bD (a.jd n x w D y).2.1.g),.cells b.sb 0 158 (Sp.aK (a.jd n x w D y).2.1.s),.cells b.qb 0 2281 (aH c1.q),.aQ bW (SC.dg 254 c1.q),.cells b.bb 0 577 (dI b.vp (a.jd n x w D y).2.1.v.ij (a.jd n x w D y).2.1.v.rf),.cells b.vp 0 71 (Vm.bK (a.jd n x w D y).2.1.v.bb.fe),.dG (iR (a.jd n x w D y).2.1) c1.mb 34 (cN b.bb (a.jd n x w D y).2.1.f c1.pp c1.cc),.aQ (iR (a.jd n x w D y).2.1) (rN 171 (a.jd n x w D y).2.1.f c1.pp c1.cc),.cells b.tb 0 321 (aC c1.F),.aQ au (FC.aX 9 c1.F),.aQ au (FC.aY 3 c1.F),dy c1.rp c1.rc 3 c1.rl,.cells b.pi 0 24 (Tr.bK (a.jd n x w D y).2.1.P),.cells b.ob 0 122 (aZ b.tb b.pi (a.jd n x w D y).2.1.O),.dG (kz (a.jd n x w D y).2.1) (fun z=>(c1.t z).b) 4 (cT b.tb c1.t),.aQ (kz (a.jd n x w D y).2.1) (rT 168 c1.t),.cells ab 0 1 (aF (iI x)),.cells xb 0 1 (aF (.int .u8 (a.jd n x w D y).2.2))]):=by
 have hoc:=ho.aP og n;refine Spec.go 63 [0,1,2,3,4,10,11,12,13,21,30,38,43,52] [] Tryz.func149 fun W=> ?_;refine ca (ek b.kb (kp a b c) n) .h1 ?_;rintro _ _ ⟨⟨hl,rfl⟩ | ⟨hl,rfl⟩,rfl⟩
 ·obtain⟨jx,gn⟩:=bE hl;have hl:a.aB n=0:=hl;have gn:(a.u n).st=1:=gn;have kX:=om a b c (n:=n);have IJ:=ho.wk.sys.mo n.toNat og;refine gO ?_;refine XR.mono (fun _ bJ=>jR (z:=n.toNat) (fh jx) (pk [7,7]) bJ) ?_;refine ld (.t4 .aa) (dm _ og kX) ?_;refine cq (aa3 b.bb (c.mb n.toNat) _ _ (a.f n.toNat) IJ x w) (pz 2) ?_;refine XR.mono (fun _ bJ=>nF (f:=a.f) (z:=n.toNat) (ps:=c.pp) (cs:=c.cc) (mb:=c.mb) (fh jx) (pz 4) bJ) ?_;refine wM ?_ ?_<;>intro h1
  ·try simp only[sb]at h1
   have hm:(a.f n.toNat).sV x w=false:=by simpa using h1
   refine aM rfl rfl (ah (pk (rr 7 2 (rr 12 0 []))) rfl ?_);try dsimp only[aS,aR,bI,bN]
   grind [KA.jd,cI.up,ax]
  ·try simp only[sb]at h1
   have hm:(a.f n.toNat).sV x w=true:=by simpa using h1
   refine XR.mono (fun _ bJ=>jR (z:=n.toNat) (fh jx) (pz 2) bJ) ?_;refine ld (.t4 .aa) (dm _ og kX) ?_;refine cq (Zk b.bb (c.mb n.toNat) _ _ (a.f n.toNat) IJ x) (pz 2) ?_;refine XR.mono (fun _ bJ=>nF (f:=a.f) (z:=n.toNat) (ps:=c.pp) (cs:=c.cc) (mb:=c.mb) (fh jx) (pz 4) bJ) ?_;refine wM ?_ ?_<;>intro h2
   ·try simp only[sb]at h2
    have hw:(a.f n.toNat).l9 x=true:=h2;refine xK 17 (R8 a b c N T ho hc og n) (pk (rr 7 2 (rr 10 0 [2]))) rfl ?_;rintro _ _ ⟨rfl,c1,fZ,rfl⟩;refine gO ?_;refine cd ?_ ?_<;>intro h3
    ·have he:(a.cv n).1≠0:=h3;refine aM rfl rfl (ah (pk (rr 17 0 [1,1])) rfl ?_);grind [aS,aR,KA.jd]
    ·have he:(a.cv n).1=0:=by have h9:=h3;omega
     refine XO.TC (cs:=[ay ab 0 0,ay xb 0 0]) rfl rfl (hd (a.cv n).2 c1 (hoc.1) fZ (hoc.2 he)) (pk (rr 17 0 [1,1,1])) IG rfl ?_;rintro _ _ ⟨rfl,c2,BA,rfl⟩;refine gO ?_;refine sp 50 rfl ?_ ?_<;>intro h4
     ·have hf:=h4;refine ahg rfl (hw) (rq [0,1,2,3,4,5,6,7,8] mixed ?_);have hoD:=hA hoc.1 (hoc.2 he);refine ld .aa (eA _) (ld .aa (dw _) ?_);refine cq (nf _ _ (D.A (a.cv n).2).g hoD.wk.gI.ok _ _ _ (1000*(T+1)) (by have:=hoD.wk.T0;omega) hoD.wk.gS) (pk [1]) ?_;refine bL (pk (1::rr 18 0 [])) ?_;try dsimp only[aS,aR,bI,bN]
      have e:(a.jd n x w D y)=(D.e (a.cv n).2,if D.e (a.cv n).2≠0 then(D.A (a.cv n).2).unA n else D.A (a.cv n).2,D.y (a.cv n).2):=by unfold KA.jd;rw[if_neg (show ¬a.aB n≠0 by omega),if_neg (show ¬(a.f n.toNat).sV x w=false by rw[hm];decide),if_pos hw,if_neg (show ¬(a.cv n).1≠0 by omega)]
      rw[e];exact⟨rfl,c2,(by rw[if_pos hf];exact BA.same (Int.le_refl _) rfl),by rw[if_pos hf];rfl⟩
     ·have hf:=h4;refine bL (pz 19) ?_;grind [aS,aR,KA.jd]
   ·try simp only[sb]at h2
    have hw:(a.f n.toNat).l9 x=false:=h2;refine XO.TC (cs:=[ay ab 0 0,ay xb 0 0]) rfl rfl (hd a c (ho.up og og) (hc.up (Nat.le_refl _) og) hl) (pk (rr 7 2 (rr 12 0 [1]))) IG rfl ?_;rintro _ _ ⟨rfl,c2,BA,rfl⟩;refine gO ?_;refine sp 50 rfl ?_ ?_<;>intro h5
    ·have hf:=h5;refine ahh rfl (hw) (aM rfl rfl (ah (pz 19) rfl ?_));grind [aS,aR,KA.jd]
    ·have hf:=h5;refine bL (pz 19) ?_;grind [aS,aR,KA.jd]
 ·have hl:a.aB n≠0:=hl;have iJ:(kp a b c).aB n=a.aB n:=rfl;rw[iJ];refine gO ?_;refine bL (pz 19) ?_;grind [aS,aR,KA.jd,aJ,cI.up]
def pS{P:Program}{n:Fr}{L:PF}{ty:TypeId}{pos:String}{af:Array Edge}{d:Nat}{f:FuncId}{x y:Operand}{u v:Value}{φ:World->Prop}{gd:Option (Nat×Bool)}(hx:ev L x=some u)(hy:ev L y=some v):bd P n L φ (⟨some d,.makeFunc (.func f) #[] #[x,y],ty,pos,af,gd⟩) (.func (.func f) #[] #[u,v]):=fun a w ha hw=>by
 simp[execOp,av ha hx,av ha hy,Instr.makeFunc]
set_option maxHeartbeats 8000000 in
def ZM(a:KA)(b:KZ)(c:KC)(N:Nat)(T:Int)(ho:a.Ok T)(hc:cI a c N T)(hT:T<=800000)(n x:Int):Spec Tryz.prog 81 [ay b.kb 0 0,iI n,iI x] (cV a b c [.ro 0 0 32 dp,.ro 1 0 64 fQ]) (fun v H1=>v= .tuple #[.int .u8 (a.ia n x).2.2,ax 102 (a.ia n x).1]/\∃ c1:KC,cI (a.ia n x).2.1 c1 N (T+1)/\H1=[.cells b.kb 0 453 (aD (kp (a.ia n x).2.1 b c1)),.cells b.gb 0 60 (bD (a.ia n x).2.1.g),.cells b.sb 0 158 (Sp.aK (a.ia n x).2.1.s),.cells b.qb 0 2281 (aH c1.q),.aQ bW (SC.dg 254 c1.q),.cells b.bb 0 577 (dI b.vp (a.ia n x).2.1.v.ij (a.ia n x).2.1.v.rf),.cells b.vp 0 71 (Vm.bK (a.ia n x).2.1.v.bb.fe),.dG (iR (a.ia n x).2.1) c1.mb 34 (cN b.bb (a.ia n x).2.1.f c1.pp c1.cc),.aQ (iR (a.ia n x).2.1) (rN 171 (a.ia n x).2.1.f c1.pp c1.cc),.cells b.tb 0 321 (aC c1.F),.aQ au (FC.aX 9 c1.F),.aQ au (FC.aY 3 c1.F),dy c1.rp c1.rc 3 c1.rl,.cells b.pi 0 24 (Tr.bK (a.ia n x).2.1.P),.cells b.ob 0 122 (aZ b.tb b.pi (a.ia n x).2.1.O),.dG (kz (a.ia n x).2.1) (fun z=>(c1.t z).b) 4 (cT b.tb c1.t),.aQ (kz (a.ia n x).2.1) (rT 168 c1.t)]):=by
 refine Spec.go 17 [0,1,5,6,7,8,9] [] Tryz.func81 fun W=> ?_;refine XO.box (m:=1) (C:=aF (iI x)) rfl rfl (fun _ _=>rfl) rfl ?_;intro ab;refine gO ?_;refine XO.bG (z:=.int .u8 0) (m:=1) (C:=aF (.int .u8 0)) (fun _ _=>rfl) ?_;intro xb;refine gO ?_;refine st .aa (aF.st _ _) rfl (ld (.ao .aa) (aF.ld _) (XO.v (pS rfl rfl) rfl (gO ?_)));refine xK 19 (Ll a b c N T ho hc hT n x false (Xc n x) 0 ab xb (fun h q=>h.ld q x) 150 rfl fun a1 c1 h1 h2 h3=>ZL a1 b c1 N (T+1) h1 h2 og n h3 ab xb x 0) (pk [2,2,2,2,2,2,2,2,2,2,2,2,2,2,2,2,2,1,0,0,0]) rfl ?_;rintro _ _ ⟨rfl,c1,fZ,rfl⟩;refine gO ?_;refine ld (.ov (.t6 .aa)) (aF.ld _) (aW rfl rfl rfl (ah (pz 17) rfl ?_));grind [aS,aR,KA.ia]
set_option maxHeartbeats 8000000 in
def WL(a:KA)(b:KZ)(c:KC)(N:Nat)(T:Int)(ho:a.Ok T)(hc:cI a c N T)(hT:T<=800000)(n x y:Int)(hy:0<=y/\y<256):Spec Tryz.prog 82 [ay b.kb 0 0,iI n,iI x,.int .u8 y] (cV a b c [.ro 0 0 32 dp,.ro 1 0 64 fQ]) (fun v H1=>v=ax 102 (a.gw n x y).1/\∃ c1:KC,cI (a.gw n x y).2.1 c1 N (T+1)/\H1=[.cells b.kb 0 453 (aD (kp (a.gw n x y).2.1 b c1)),.cells b.gb 0 60 (bD (a.gw n x y).2.1.g),.cells b.sb 0 158 (Sp.aK (a.gw n x y).2.1.s),.cells b.qb 0 2281 (aH c1.q),.aQ bW (SC.dg 254 c1.q),.cells b.bb 0 577 (dI b.vp (a.gw n x y).2.1.v.ij (a.gw n x y).2.1.v.rf),.cells b.vp 0 71 (Vm.bK (a.gw n x y).2.1.v.bb.fe),.dG (iR (a.gw n x y).2.1) c1.mb 34 (cN b.bb (a.gw n x y).2.1.f c1.pp c1.cc),.aQ (iR (a.gw n x y).2.1) (rN 171 (a.gw n x y).2.1.f c1.pp c1.cc),.cells b.tb 0 321 (aC c1.F),.aQ au (FC.aX 9 c1.F),.aQ au (FC.aY 3 c1.F),dy c1.rp c1.rc 3 c1.rl,.cells b.pi 0 24 (Tr.bK (a.gw n x y).2.1.P),.cells b.ob 0 122 (aZ b.tb b.pi (a.gw n x y).2.1.O),.dG (kz (a.gw n x y).2.1) (fun z=>(c1.t z).b) 4 (cT b.tb c1.t),.aQ (kz (a.gw n x y).2.1) (rT 168 c1.t)]):=by
 refine Spec.go 14 [0,1,6,7,8] [] Tryz.func82 fun W=> ?_;refine XO.box (m:=1) (C:=aF (iI x)) rfl rfl (fun _ _=>rfl) rfl ?_;intro ab;refine gO ?_;refine XO.box (m:=1) (C:=aF (.int .u8 y)) rfl rfl (fun _ _=>rfl) rfl ?_;intro xb;refine gO ?_;refine ld (.ao .aa) (aF.ld _) (XO.v (pS rfl rfl) rfl (gO ?_));refine xK 19 (Ll a b c N T ho hc hT n x true (sfD n x y) y ab xb (fun h q=>h.sf q x hy) 152 rfl fun a1 c1 h1 h2 h3=>WK a1 b c1 N (T+1) h1 h2 og n h3 ab xb x y) (pk [2,2,2,2,2,2,2,2,2,2,2,2,2,2,2,2,2,1,0,0,0]) rfl ?_;rintro _ _ ⟨rfl,c1,fZ,rfl⟩;refine gO ?_;refine bL (pz 17) ?_;grind [aS,aR,KA.gw]
end Go.X.Kn

namespace Go.X.Kn
open Go Go.Proofs Go.X Go.X.Fa Go.X.Gr Go.X.Vm
set_option maxRecDepth 20000
set_option maxHeartbeats 4000000
def GU:nT Tryz.prog 66=true:=kq
def vE:fp Tryz.prog 66=some 5:=kq
attribute [local irreducible] KA.dt KA.cK
def Lm(a:KA)(b:KZ)(c:KC)(N:Nat)(T:Int)(ho:a.Ok T)(hc:cI a c N T)(hT:T<=800000)(n y:Int):Spec Tryz.prog 83 [ay b.kb 0 0,iI n,iI y] (cV a b c []) (fun v H1=>∃ (m e:Int) (c1:KC),v= .tuple #[iI m,ax 102 e]/\cI (a.nM n y) c1 (N+1) T/\H1=(cV (a.nM n y) b c1 [])):=by
 refine Spec.go 38 [0,1,2,6,7,8,9,15,27] [] Tryz.func83 fun W=> ?_;refine sp 12 rfl ?_ ?_<;>intro h1
 ·refine er (pz 17) ?_;have e:a.nM n y=a:=by unfold KA.nM;rw[if_pos og]
  rw[e];exact⟨0,1,c,rfl,hc.up (Nat.le_succ _) (Int.le_refl _),rfl⟩
 ·refine cd ?_ ?_<;>intro h2
  ·refine er (pz 17) ?_;have e:a.nM n y=a:=by unfold KA.nM;rw[if_pos og]
   rw[e];exact⟨0,1,c,rfl,hc.up (Nat.le_succ _) (Int.le_refl _),rfl⟩
  ·apply ld .aa (eA _);refine cq (afQ _ _ a.g ho.wk.gI.ok n) (pk [1]) ?_;refine cd ?_ ?_<;>intro h3
   ·have hae:a.g.ud n≠0:=h3;refine er (pk (1::rr 16 0 [])) ?_;have e:a.nM n y=a:=by unfold KA.nM;rw[if_neg og,(Gr.TG.si hae).2]
    rw[e,(Gr.TG.si hae).2];exact⟨_,_,c,rfl,hc.up (Nat.le_succ _) (Int.le_refl _),rfl⟩
   ·have hae:=h3;apply ld (.ao .aa) (eB _);refine ca (Nq _ _ c.q c.d hc.qO.eG hc.qR _ _ _) (pk [3,3]) ?_;rintro _ _ ⟨rfl,q2,tu,zp,rfl⟩;obtain⟨d1,tv⟩:=hc.qO.td og (a.g.gL n) n y;apply gO;refine aW rfl rfl rfl (ah (pk (3::2::2::rr 14 0 [])) rfl ?_);have e:a.nM n y= {a with g:=a.g.add n} :=by unfold KA.nM;rw[if_neg og]
    rw[e];exact⟨_,_,{c with q:=q2,d:=d1},rfl,⟨(by show q2.toSF.Ok _ _ _;rw[tu];exact tv.mono (Nat.le_refl _) og),zp,hc.F,hc.rp,hc.rc,hc.rl,hc.tb,fun m m0 m1 hm=>hc.tk m m0 m1 (by have hm:q2.toSF.aa (10+m)=true:=hm;rw[tu]at hm;exact Fa.SF.Qm m0 hm)⟩,rfl⟩
def Ix(a:KA)(b:KZ)(c:KC)(N:Nat)(T:Int)(ho:a.Ok T)(hc:cI a c N T)(hT:T<=800000)(n:Int):Spec Tryz.prog 84 [ay b.kb 0 0,iI n] (cV a b c []) (fun v H1=>∃ (e:Int) (c1:KC),v=ax 102 e/\cI (a.Az n) c1 (N+1) T/\H1=(cV (a.Az n) b c1 [])):=by
 refine Spec.go 21 [0,1,4,5,13] [] Tryz.func84 fun W=> ?_;apply ld .aa (eA _);refine cq (VZ _ _ a.g n) (pk [1]) ?_;refine cd ?_ ?_<;>intro h1
 ·have hae:a.g.dz n≠0:=h1;refine bL (pk (1::rr 16 0 [])) ?_;exact⟨_,c,rfl,(hc.up (Nat.le_succ _) (Int.le_refl _)).same (Int.le_refl _) rfl,rfl⟩
 ·have hae:=h1;apply ld (.ao .aa) (eB _);refine ca (La _ _ c.q c.d hc.qO.eG hc.qR n hc.qO.L9) (pk [3,3]) ?_;rintro _ _ ⟨rfl,q2,tu,zp,rfl⟩;apply gO;refine aM rfl rfl (ah (pk (3::2::2::rr 14 0 [])) rfl ?_);exact⟨_,{c with q:=q2},rfl,⟨(by show q2.toSF.Ok _ _ _;rw[tu];exact(hc.qO.pd og _).mono og og),zp,hc.F,hc.rp,hc.rc,hc.rl,hc.tb,fun m m0 m1 hm=>hc.tk m m0 m1 (by have hm:q2.toSF.aa (10+m)=true:=hm;rw[tu]at hm;exact Fa.SF.Mb hm)⟩,rfl⟩
def WM(a:KA)(b:KZ)(c:KC)(N:Nat)(T:Int)(ho:a.Ok T)(hc:cI a c N T)(hT:T<=800000)(n x y:Int):Spec Tryz.prog 85 [ay b.kb 0 0,iI n,iI x,iI y] (cV a b c []) (fun v H1=>v=ax 102 (a.g.ki n x y)/\∃ c1:KC,cI (a.Rt n x y) c1 N T/\H1=(cV (a.Rt n x y) b c1 [])):=by
 refine Spec.go 17 [0,1,2,3,8] [] Tryz.func85 fun W=> ?_;apply ld .aa (eA _);refine cq (Ze _ _ a.g n x y) (pk [1]) ?_;refine bL (pk (1::rr 16 0 [])) ?_;exact⟨rfl,c,hc.same (Int.le_refl _) rfl,rfl⟩
def Sa(a:KA)(b:KZ)(c:KC)(N:Nat)(T:Int)(ho:a.Ok T)(hc:cI a c N T)(hT:T<=800000)(n:Int)(o:Bool):Spec Tryz.prog 88 [ay b.kb 0 0,iI n,.bool o] (cV a b c []) (fun v H1=>∃ (e:Int) (c1:KC),v=ax 102 e/\cI a c1 (N+1) T/\H1=(cV a b c1 [])):=by
 refine Spec.go 14 [0,1,2,6] [] Tryz.func88 fun W=> ?_;apply ld .aa (eB _);refine ca (V3 _ _ c.q c.d hc.qO.eG hc.qR n o) (pk [3,3]) ?_;rintro _ _ ⟨rfl,q2,tu,zp,rfl⟩;apply gO;refine aM rfl rfl (ah (pk (2::2::2::rr 14 0 [])) rfl ?_);exact⟨_,{c with q:=q2},rfl,⟨(by show q2.toSF.Ok _ _ _;rw[tu];exact(hc.qO.freeze _ _).mono og og),zp,hc.F,hc.rp,hc.rc,hc.rl,hc.tb,(fun m m0 m1 hm=>hc.tk m m0 m1 (by have hm:q2.toSF.aa (10+m)=true:=hm;rw[tu,Fa.SF.Jy]at hm;exact hm))⟩,rfl⟩
def WN(a:KA)(b:KZ)(c:KC)(N:Nat)(T:Int)(ho:a.Ok T)(hc:cI a c N T)(hT:T<=800000)(n x y:Int):Spec Tryz.prog 89 [ay b.kb 0 0,iI n,iI x,iI y] (cV a b c []) (fun v H1=>∃ (e:Int) (c1:KC),v=ax 102 e/\cI a c1 (N+1) T/\H1=(cV a b c1 [])):=by
 refine Spec.go 17 [0,1,2,3,8] [] Tryz.func89 fun W=> ?_;apply ld .aa (eB _);refine ca (Zf _ _ c.q c.d hc.qO.eG hc.qR n x y) (pk [3,3]) ?_;rintro _ _ ⟨rfl,q2,tu,zp,rfl⟩;apply gO;refine aM rfl rfl (ah (pk (2::2::2::rr 14 0 [])) rfl ?_);exact⟨_,{c with q:=q2},rfl,⟨(by show q2.toSF.Ok _ _ _;rw[tu];exact(hc.qO.xV og _ _ _).mono og og),zp,hc.F,hc.rp,hc.rc,hc.rl,hc.tb,(fun m m0 m1 hm=>hc.tk m m0 m1 (by have hm:q2.toSF.aa (10+m)=true:=hm;rw[tu,Fa.SF.Qk]at hm;exact hm))⟩,rfl⟩
def ZN(a:KA)(b:KZ)(c:KC)(N:Nat)(T:Int)(ho:a.Ok T)(hc:cI a c N T)(hT:T<=800000)(hN:N<=800):Spec Tryz.prog 46 [ay b.kb 0 0] (cV a b c []) (fun v H1=>∃ (r:Int) (c1:KC),v=iI r/\(r<0\/(0<=r/\r<20/\c1.q.aa (10+r)=true))/\cI a c1 (N+1) T/\H1=(cV a b c1 [])):=by
 refine Spec.go 8 [0,2] [] Tryz.func46 fun W=> ?_;apply ld .aa (eB _);refine ca (V4 _ _ c.q c.d hc.qO.eG hc.qR (fun n a b=>by have:=hc.qO.aV n a b;omega) (2000000000*N) og hc.qO.sS (by have:=hc.qO.ie;omega) (hc.qO.o7 og).set) (pk [3,3]) ?_;rintro _ _ ⟨rfl,q2,tu,zp,rfl⟩;apply gO;refine aM rfl rfl (ah (pk (2::2::2::rr 14 0 [])) rfl ?_);have hw:=Fa.SF.T2 hc.qO og;exact⟨_,{c with q:=q2},rfl,(by show _\/(_/\_/\q2.toSF.aa _=true);rw[tu];exact hw),⟨(by show q2.toSF.Ok _ _ _;rw[tu];exact(hc.qO.lR og og).mono og og),zp,hc.F,hc.rp,hc.rc,hc.rl,hc.tb,(fun m m0 m1 hm=>hc.tk m m0 m1 (by have hm:q2.toSF.aa (10+m)=true:=hm;rw[tu,Fa.SF.zQ]at hm;exact hm))⟩,rfl⟩
def adN(a:KA)(b:KZ)(c:KC)(N:Nat)(T:Int)(ho:a.Ok T)(hc:cI a c N T)(hT:T<=800000)(n:Int):Spec Tryz.prog 35 [ay b.kb 0 0,iI n] (cV a b c []) (fun v H1=>(∃ r:Int,v= .tuple #[iI r,ax 102 (if a.aB n≠0 then a.aB n else c.q.tA n)])/\H1=(cV a b c [])):=by
 refine Spec.go 25 [0,1,4,5,7,15] [] Tryz.func35 fun W=> ?_;refine ca (ek b.kb (kp a b c) n) .h1 ?_;rintro _ _ ⟨⟨hl,rfl⟩ | ⟨hl,rfl⟩,rfl⟩
 ·obtain⟨jx,gn⟩:=bE hl;have hl:a.aB n=0:=hl;have gn:(a.u n).st=1:=gn;apply gO;apply ld .aa (eB _);refine cq (afW _ _ c.q n) (pk [3]) ?_;refine aW rfl rfl rfl (ah (pk (1::1::1::rr 14 0 [])) rfl ?_);have e:(if a.aB n≠0 then a.aB n else c.q.tA n)=c.q.tA n:=if_neg og;rw[e];exact⟨⟨_,rfl⟩,rfl⟩
 ·have hl:a.aB n≠0:=hl;have iJ:(kp a b c).aB n=a.aB n:=rfl;rw[iJ];apply gO;refine er (pz 17) ?_;grind [aS,aR,bN,ax]
def agf(a:KA)(b:KZ)(c:KC)(n:Int):Spec Tryz.prog 44 [ay b.kb 0 0,iI n] [.cells b.kb 0 453 (aD (kp a b c))] (fun v H1=>v= .tuple #[iI (if a.aB n=0 then(a.u n).cB else 0),ax 102 (a.aB n)]/\H1=[.cells b.kb 0 453 (aD (kp a b c))]):=by
 refine Spec.go 21 [0,1,4,5,6,7,15] [] Tryz.func44 fun W=> ?_;refine ca (ek b.kb (kp a b c) n) .h1 ?_;rintro _ _ ⟨⟨hl,rfl⟩ | ⟨hl,rfl⟩,rfl⟩
 ·obtain⟨jx,gn⟩:=bE hl;have hl:a.aB n=0:=hl;have gn:(a.u n).st=1:=gn;apply gO;refine ld .aa (dw _) (aW rfl rfl rfl (ah .h1 rfl ?_));rw[if_pos hl,hl];exact⟨rfl,rfl⟩
 ·have hl:a.aB n≠0:=hl;have iJ:(kp a b c).aB n=a.aB n:=rfl;rw[iJ];apply gO;refine er .h1 ?_;grind [aS,aR,bN,ax]
def Ln(a:KA)(b:KZ)(c:KC)(N:Nat)(T:Int)(ho:a.Ok T)(hc:cI a c N T)(hT:T<=800000)(n:Int):Spec Tryz.prog 94 [ay b.kb 0 0,iI n] (cV a b c []) (fun v H1=>v= .tuple #[iI (if a.aB n=0 then a.eZ n else 0),ax 102 (a.aB n)]/\H1=(cV a b c [])):=by
 refine Spec.go 22 [0,1,4,5,6,7,15] [] Tryz.func94 fun W=> ?_;refine ca (ek b.kb (kp a b c) n) .h1 ?_;rintro _ _ ⟨⟨hl,rfl⟩ | ⟨hl,rfl⟩,rfl⟩
 ·obtain⟨jx,gn⟩:=bE hl;have hl:a.aB n=0:=hl;have gn:(a.u n).st=1:=gn;have kX:=om a b c (n:=n);have IJ:=ho.wk.sys.mo n.toNat og;apply gO;refine XR.mono (fun _ bJ=>jR (z:=n.toNat) (fh jx) (pk [7,7]) bJ) ?_;refine ld (.t4 .aa) (dm _ og kX) ?_;refine cq (pJ b.bb _ _ _ (a.f n.toNat) IJ) .h1 ?_;refine XR.mono (fun _ bJ=>nF (f:=a.f) (z:=n.toNat) (ps:=c.pp) (cs:=c.cc) (mb:=c.mb) (fh jx) (pz 4) bJ) ?_;refine aW rfl rfl rfl (ah (pk (rr 7 2 (rr 10 0 []))) rfl ?_);grind [aS,aR,bN,KA.eZ,ax]
 ·have hl:a.aB n≠0:=hl;have iJ:(kp a b c).aB n=a.aB n:=rfl;rw[iJ];apply gO;refine er (pz 17) ?_;grind [aS,aR,bN,ax]
def zn(a:KA)(b:KZ)(c:KC)(n:Int):Spec Tryz.prog 34 [ay b.kb 0 0,iI n] [.cells b.kb 0 453 (aD (kp a b c)),.cells b.gb 0 60 (bD a.g)] (fun v H1=>v= .tuple #[.agg (if a.g.cC n=0 then a.g.gv n else GV.zero).cF,ax 102 (a.g.cC n)]/\H1=[.cells b.kb 0 453 (aD (kp a b c)),.cells b.gb 0 60 (bD a.g)]):=by
 refine Spec.go 14 [0,1,4,5] [] Tryz.func34 fun W=> ?_;apply XO.bG (z:=.agg GV.zero.cF) (m:=5) (C:=ny GV.zero) (q8 _);intro bg;apply gO;apply ld (.ao .aa) (eA _);refine cq (aip _ _ a.g n) (pk [2]) ?_;refine fW (.ao .aa) (vk _ _) rfl ⟨rfl,rfl⟩ (dC rfl (.agg rfl (.ao .aa) (Hs _) GU vE) (.tmp rfl) (ah (pk [2,0]) rfl ?_));grind [aS,aR,kp]
def adO:dc Tryz.prog 159=true:=kq
def agh:dc Tryz.prog 50=true:=kq
def WO:eK Tryz.prog 101 1=some 440:=kq
def Eo:jU Tryz.prog 91=true:=kq
theorem ZO(a:KA)(b:KZ)(c:KC)(n z:Int){g:Gr.TG}{q:SC}{d:Int->Nat} :kp {a with u:=ad a.u n {a.u n with cB:=z},g:=g} b {c with q:=q,d:=d} =(kp a b c).put n {(kp a b c).u n with cB:=z} :=(Vf a b c n {a.u n with cB:=z}).symm
theorem WQ(a:KA)(n z:Int){g:Gr.TG} :iR {a with u:=ad a.u n {a.u n with cB:=z},g:=g} =iR a:=by grind [iR,ad]
set_option maxHeartbeats 8000000 in
def ZP(a:KA)(b:KZ)(c:KC)(N:Nat)(T:Int)(ho:a.Ok T)(hc:cI a c N T)(hT:T<=800000)(n z:Int):Spec Tryz.prog 86 [ay b.kb 0 0,iI n,iI z] (cV a b c []) (fun v H1=>∃ (e:Int) (c1:KC),v=ax 102 e/\(e=0->a.aB n=0/\a.GC n z=0)/\cI (a.pE n z) c1 (N+1) (T+1)/\H1=(cV (a.pE n z) b c1 [])):=by
 refine Spec.go 47 [0,1,2,6,7,8,16,34] [] Tryz.func86 fun W=> ?_;refine ca (ek b.kb (kp a b c) n) .h1 ?_;rintro _ _ ⟨⟨hl,rfl⟩ | ⟨hl,rfl⟩,rfl⟩
 ·obtain⟨jx,gn⟩:=bE hl;have hl:a.aB n=0:=hl;have gn:(a.u n).st=1:=gn;have kX:=om a b c (n:=n);have IJ:=ho.wk.sys.mo n.toNat og;apply gO;refine XR.mono (fun _ bJ=>jR (z:=n.toNat) (fh jx) (pk [7,7]) bJ) ?_;refine XC.im mixed (f:=16) (l:= #[qF,qF,qF,qF,qF,qF,qF,qF,qF,qF,qF,qF,qF,qF,qF,qF]) rfl rfl XM.kN (XQ.pv (i:=0) rfl kq rfl (V.move rfl) rfl rfl (XQ.pv (i:=1) rfl kq rfl (bB rfl) rfl rfl (XQ.pv (i:=2) rfl kq rfl (V.fieldAddr rfl WO) rfl rfl (XQ.load (i:=3) (.cells _ _ _ _) [14] rfl kq rfl (.t4 .aa) (V.load rfl eh (eA _) Eo) rfl kq rfl (XQ.pv (i:=4) rfl kq rfl (V.move rfl) rfl rfl (XQ.pv (i:=5) rfl kq rfl (bB rfl) rfl rfl (XQ.pv (i:=6) rfl kq rfl (V.fieldAddr rfl Ip) rfl rfl (XQ.load (i:=7) (.cells _ _ _ _) [14] rfl kq rfl (.t4 .aa) (V.load rfl eh (dw _) lq) rfl kq rfl (XQ.pv (i:=8) rfl kq rfl (V.move rfl) rfl rfl (XQ.pv (i:=9) rfl kq rfl (V.move rfl) rfl rfl (XQ.pv (i:=10) rfl kq rfl (bB rfl) rfl rfl (XQ.pv (i:=11) rfl kq rfl (V.fieldAddr rfl Iq) rfl rfl (XQ.load (i:=12) (.cells _ _ _ _) [13,14] rfl kq rfl (.t4 .aa) (V.load rfl eh (dm _ og kX) We) rfl kq rfl (XQ.call (i:=13) rfl kq rfl rfl (pJ b.bb _ _ _ (a.f n.toNat) IJ) .h1 agh rfl (by rintro _ _ ⟨rfl,rfl⟩;all_goals(intro _ dZ;exact⟨fun hs=>(hs 13 b8 rfl).elim,fun _=>fb (.t4 .aa) _ dZ,fun _=>fb (.t4 .aa) _ dZ,trivial⟩)) ?_))))))))))))));rintro _ _ ⟨rfl,rfl⟩;apply XQ.call (i:=14) rfl kq rfl rfl (acY _ _ a.g ho.wk.gI.ok _ _ _ _ (1000*T) (by have:=ho.wk.T0;omega) ho.wk.gS) (pk [5]) adO rfl (by rintro _ _ ⟨rfl,rfl⟩;all_goals(intro _ dZ;exact⟨fun hs=>(hs 13 b8 rfl).elim,fun hs=>(hs 14 b8 rfl).elim,fun hs=>(hs 14 b8 rfl).elim,trivial⟩));rintro _ _ ⟨rfl,rfl⟩;refine XQ.pv (i:=15) rfl kq rfl (V.assign rfl) rfl rfl (XQ.done kq (gE (XR.mono (fun _ bJ=>nF (f:=a.f) (z:=n.toNat) (ps:=c.pp) (cs:=c.cc) (mb:=c.mb) (fh jx) (pk [1,1,1,1]) bJ) ?_)));refine cd ?_ ?_<;>intro h1
  ·have hje:a.GC n z≠0:=h1;refine aM rfl rfl (ah (pk (3::rr 6 2 (rr 10 0 []))) rfl ?_);try dsimp only[aS,aR,bI,bN]
   have e:a.pE n z=a:=by unfold KA.pE;rw[if_pos (.inr hje)]
   grind [kp,VD,cI.up]
  ·have hje:¬a.GC n z≠0:=h1;refine st (.t3 .aa) (HF _ og _) rfl (ld (.t3 .aa) (eB _) ?_);refine ca (Ns _ _ c.q c.d hc.qO.eG hc.qR n z) (pk [5,5]) ?_;rintro _ _ ⟨rfl,q2,tu,zp,rfl⟩;obtain⟨d1,tv⟩:=hc.qO.move og n z;apply gO;refine aM rfl rfl (ah (pk (5::4::4::0::0::2::2::rr 10 0 [])) rfl ?_);have e:a.pE n z= {a with u:=ad a.u n {a.u n with cB:=z},g:=a.g.move (a.u n).cB z 1 (a.eZ n)} :=by unfold KA.pE;rw[if_neg fun q=>q.elim (fun q=>q hl) hje]
   rw[e];refine⟨_,{c with q:=q2,d:=d1},rfl,(fun _=>⟨hl,og⟩),⟨(by show q2.toSF.Ok _ _ _;rw[tu];exact tv.mono (Nat.le_refl _) og),zp,FF.Ok.up hc.F og,hc.rp,hc.rc,hc.rl,hc.tb,fun m m0 m1 hm=>by rw[(zf _ _ _ _).1];exact hc.tk m m0 m1 (by have hm:q2.toSF.aa (10+m)=true:=hm;rw[tu,Fa.SF.Ql]at hm;exact hm)⟩,?_⟩;try unfold cV
   rw[ZO a b c n z,WQ];rfl
 ·have hl:a.aB n≠0:=hl;have iJ:(kp a b c).aB n=a.aB n:=rfl;rw[iJ];apply gO;refine bL (pz 17) ?_;have e:a.pE n z=a:=by unfold KA.pE;rw[if_pos (.inl hl)]
  rw[e];exact⟨a.aB n,c,(aJ _ hl).symm,(fun q=>absurd q hl),hc.up (Nat.le_succ _) og,rfl⟩
open Go.X.Tr
def iU(a:KA)(b:KZ)(c:KC)(n:Int)(hz:(0<=(a.s.bS n).1/\(a.s.bS n).1<6)/\a.s.aa (a.s.bS n).1=true):Spec Tryz.prog 105 [ay b.kb 0 0,iI n] [.cells b.kb 0 453 (aD (kp a b c)),.cells b.sb 0 158 (Sp.aK a.s)] (fun v H1=>v=ay (c.t (a.s.bS n).1.toNat).b 0 0/\H1=[.cells b.kb 0 453 (aD (kp a b c)),.cells b.sb 0 158 (Sp.aK a.s)]):=by
 refine Spec.go 13 [0,1,4] [] Tryz.func105 fun W=> ?_;refine rq [0,1,2,4,5,3,6,7,8] mixed ?_;refine cq (jT b.kb (kp a b c) a.s n) (pz 2) ?_;refine sd (ld .aa (sG _ hz.1 (Vp a b c hz.2)) (aM rfl rfl (ah (pz 2) rfl ?_)));grind [aS,aR,kp]
set_option maxHeartbeats 8000000 in
def NL(a:KA)(b:KZ)(c:KC)(N:Nat)(T:Int)(ho:a.Ok T)(hc:cI a c N T)(hT:T<=800000)(n:Int)(x:ByteArray)(hx:x.size<=100000):Spec Tryz.prog 166 [ay b.kb 0 0,iI n,.string x] (cV a b c []) (fun v H1=>∃ (e:Int) (c1:KC),v=ax 102 e/\cI a c1 N (T+15)/\H1=(cV a b c1 [])):=by
 refine Spec.go 43 [0,1,2,6,8,9,10,18,30] [] Tryz.func166 fun W=> ?_;refine ca (ek b.kb (kp a b c) n) .h1 ?_;rintro _ _ ⟨⟨hl,rfl⟩ | ⟨hl,rfl⟩,rfl⟩
 ·obtain⟨jx,gn⟩:=bE hl;have hl:a.aB n=0:=hl;have gn:(a.u n).st=1:=gn;have hz:=ho.tz hl;have iG:=hc.tb _ hz.1.1 hz.1.2 hz.2;have zo:=hc.sh og;apply gO;apply XR.mono fun _ bJ=>gT (z:=(a.s.bS n).1.toNat) (dY hz.1 hz.2) (pk [15,15]) bJ;refine cq (iU a b c n hz) (pk [4,5]) ?_;refine cq (AS _ _ _ _ _ _ _ _ _ iG.rv iG.mc iG.len c.F zo x hx) (pk [2,2,11,11,11]) ?_;apply XO.bG (z:=.agg (WH.cF WH.nil)) (m:=2) (C:=Tr.aN WH.nil) (Tr.aN.box _);intro bw;apply gO;refine fW .aa (Tr.aN.st _ _) rfl ⟨rfl,rfl⟩ (XR.mono (fun _ bJ=>gQ (z:=(a.s.bS n).1.toNat) (dY hz.1 hz.2) (pk [1,1,6,6]) bJ) ?_);refine cd ?_ ?_<;>intro h1
  ·refine rq [0,1,2,3,4,5,6,7,8,9,10,11] mixed (ld (.t6 .aa) (aD.BM _) (ld (.t2 .aa) (Tr.aN.EM _) ?_));refine ca (Wi _ _ c.F zo _ _ 2 (by have:=zg c.F.toFF (c.t (a.s.bS n).1.toNat).l (c.t (a.s.bS n).1.toNat).r x;omega)) (pk [3,3,3]) ?_;rintro _ _ ⟨rfl,t,ht,hp,hr,rfl⟩;obtain⟨d1,tv⟩:=hc.F.make (uA c.F.toFF (c.t (a.s.bS n).1.toNat).l (c.t (a.s.bS n).1.toNat).r x).node (rn c.F.toFF (c.t (a.s.bS n).1.toNat).l (c.t (a.s.bS n).1.toNat).r x) 2;apply gO;refine aM rfl rfl (ah (pk [6,7,6,6,6,6,6,6,6,0,0,0,3,3,3,0,0]) rfl ?_);exact⟨_,{c with F:=t,dF:=d1},rfl,hc.Nf (by rw[ht];exact FF.Ok.up tv og) og hp hr (by rw[ht];exact Ea _ _ _ _),rfl⟩
  ·refine aM rfl rfl (ah (pk (6::7::rr 7 6 (rr 6 3 [0,0]))) rfl ?_);try dsimp only[aS,aR,bI,bN]
   grind [cI.up]
 ·have hl:a.aB n≠0:=hl;have iJ:(kp a b c).aB n=a.aB n:=rfl;rw[iJ];apply gO;refine bL (pz 17) ?_;exact⟨a.aB n,c,(aJ _ hl).symm,hc.up (Nat.le_refl _) og,rfl⟩
set_option maxHeartbeats 8000000 in
def Sb(a:KA)(b:KZ)(c:KC)(N:Nat)(T:Int)(ho:a.Ok T)(hc:cI a c N T)(hT:T<=800000)(n:Int)(x:ByteArray)(hx:x.size<=100000):Spec Tryz.prog 167 [ay b.kb 0 0,iI n,.string x] (cV a b c []) (fun v H1=>∃ (e:Int) (c1:KC),v=ax 102 e/\cI a c1 N (T+15)/\H1=(cV a b c1 [])):=by
 refine Spec.go 40 [0,1,2,6,8,9,10,18,30] [] Tryz.func167 fun W=> ?_;refine ca (ek b.kb (kp a b c) n) .h1 ?_;rintro _ _ ⟨⟨hl,rfl⟩ | ⟨hl,rfl⟩,rfl⟩
 ·obtain⟨jx,gn⟩:=bE hl;have hl:a.aB n=0:=hl;have gn:(a.u n).st=1:=gn;have hz:=ho.tz hl;have iG:=hc.tb _ hz.1.1 hz.1.2 hz.2;have zo:=hc.sh og;apply gO;apply XR.mono fun _ bJ=>gT (z:=(a.s.bS n).1.toNat) (dY hz.1 hz.2) (pk [15,15]) bJ;refine cq (iU a b c n hz) (pk [4,5]) ?_;refine cq (AS _ _ _ _ _ _ _ _ _ iG.rv iG.mc iG.len c.F zo x hx) (pk [2,2,11,11,11]) ?_;apply XO.bG (z:=.agg (WH.cF WH.nil)) (m:=2) (C:=Tr.aN WH.nil) (Tr.aN.box _);intro bw;apply gO;refine fW .aa (Tr.aN.st _ _) rfl ⟨rfl,rfl⟩ (XR.mono (fun _ bJ=>gQ (z:=(a.s.bS n).1.toNat) (dY hz.1 hz.2) (pk [1,1,6,6]) bJ) ?_);refine cd ?_ ?_<;>intro h1
  ·refine rq [0,1,2,3,4,5,6,7,8] mixed (ld (.t6 .aa) (aD.BM _) (ld (.t2 .aa) (Tr.aN.EM _) ?_));refine ca (Wj _ _ c.F zo _ _) (pk [3,3,3]) ?_;rintro _ _ ⟨rfl,t,ht,hp,hr,rfl⟩;apply gO;refine aM rfl rfl (ah (pk [6,7,6,6,6,6,6,6,6,0,0,0,3,3,3,0,0]) rfl ?_);exact⟨_,{c with F:=t,dF:=c.dF},rfl,hc.Nf (by rw[ht];exact FF.Ok.up (hc.F.du _ _) og) og hp hr (by rw[ht];exact H8 _ _ _),rfl⟩
  ·refine aM rfl rfl (ah (pk (6::7::rr 7 6 (rr 6 3 [0,0]))) rfl ?_);try dsimp only[aS,aR,bI,bN]
   grind [cI.up]
 ·have hl:a.aB n≠0:=hl;have iJ:(kp a b c).aB n=a.aB n:=rfl;rw[iJ];apply gO;refine bL (pz 17) ?_;exact⟨a.aB n,c,(aJ _ hl).symm,hc.up (Nat.le_refl _) og,rfl⟩
set_option maxHeartbeats 8000000 in
def ZQ(a:KA)(b:KZ)(c:KC)(N:Nat)(T:Int)(ho:a.Ok T)(hc:cI a c N T)(hT:T<=800000)(n:Int)(x y:ByteArray)(hx:x.size<=100000)(hy:y.size<=100000):Spec Tryz.prog 168 [ay b.kb 0 0,iI n,.string x,.string y] (cV a b c []) (fun v H1=>∃ (e:Int) (c1:KC),v=ax 102 e/\cI a c1 N (T+15)/\H1=(cV a b c1 [])):=by
 refine Spec.go 59 [0,1,2,3,8,10,11,12,13,14,22,34,46] [] Tryz.func168 fun W=> ?_;refine ca (ek b.kb (kp a b c) n) .h1 ?_;rintro _ _ ⟨⟨hl,rfl⟩ | ⟨hl,rfl⟩,rfl⟩
 ·obtain⟨jx,gn⟩:=bE hl;have hl:a.aB n=0:=hl;have gn:(a.u n).st=1:=gn;have hz:=ho.tz hl;have iG:=hc.tb _ hz.1.1 hz.1.2 hz.2;have zo:=hc.sh og;apply gO;apply XR.mono fun _ bJ=>gT (z:=(a.s.bS n).1.toNat) (dY hz.1 hz.2) (pk [15,15]) bJ;refine cq (iU a b c n hz) (pk [4,5]) ?_;refine cq (AS _ _ _ _ _ _ _ _ _ iG.rv iG.mc iG.len c.F zo x hx) (pk [2,2,11,11,11]) ?_;apply XO.bG (z:=.agg (WH.cF WH.nil)) (m:=2) (C:=Tr.aN WH.nil) (Tr.aN.box _);intro bw;apply gO;refine fW .aa (Tr.aN.st _ _) rfl ⟨rfl,rfl⟩ (XR.mono (fun _ bJ=>gQ (z:=(a.s.bS n).1.toNat) (dY hz.1 hz.2) (pk [1,1,6,6]) bJ) ?_);refine cd ?_ ?_<;>intro h1
  ·refine aM rfl rfl (ah (pk (6::7::rr 7 6 (rr 6 3 [0,0]))) rfl ?_);try dsimp only[aS,aR,bI,bN]
   grind [cI.up]
  ·apply XR.mono fun _ bJ=>gT (z:=(a.s.bS n).1.toNat) (dY hz.1 hz.2) (pz 2) bJ;refine cq (iU a b c n hz) (pk [8,8]) ?_;refine cq (AS _ _ _ _ _ _ _ _ _ iG.rv iG.mc iG.len c.F zo y hy) (pk [2,2,5,5,5]) ?_;apply XO.bG (z:=.agg (WH.cF WH.nil)) (m:=2) (C:=Tr.aN WH.nil) (Tr.aN.box _);intro bw2;apply gO;refine fW .aa (Tr.aN.st _ _) rfl ⟨rfl,rfl⟩ (XR.mono (fun _ bJ=>gQ (z:=(a.s.bS n).1.toNat) (dY hz.1 hz.2) (pk [1,1,6,6]) bJ) ?_);refine cd ?_ ?_<;>intro h2
   ·refine aM rfl rfl (ah (pk [6,8,6,7,7,7,7,7,7,3,3,3,4,4,4,0,0]) rfl ?_);try dsimp only[aS,aR,bI,bN]
    grind [cI.up]
   ·refine rq [0,1,2,3,4,5,6,7,8,9,10,11] mixed (ld (.t6 .aa) (aD.BM _) (ld (.t8 .aa) (Tr.aN.EM _) (ld (.t2 .aa) (Tr.aN.EM _) ?_)));refine ca (ado _ _ c.F zo c.dF hc.F.eG.chI _ _ _ _ (by have:=zg c.F.toFF (c.t (a.s.bS n).1.toNat).l (c.t (a.s.bS n).1.toNat).r y;omega)) (pk [3,3,3]) ?_;rintro _ _ ⟨rfl,t,ht,hp,hr,rfl⟩;obtain⟨d1,tv⟩:=hc.F.move (uA c.F.toFF (c.t (a.s.bS n).1.toNat).l (c.t (a.s.bS n).1.toNat).r x).node (rn c.F.toFF (c.t (a.s.bS n).1.toNat).l (c.t (a.s.bS n).1.toNat).r x) (uA c.F.toFF (c.t (a.s.bS n).1.toNat).l (c.t (a.s.bS n).1.toNat).r y).node (rn c.F.toFF (c.t (a.s.bS n).1.toNat).l (c.t (a.s.bS n).1.toNat).r y);apply gO;refine aM rfl rfl (ah (pk [6,8,6,7,7,7,7,7,7,0,0,0,4,4,4,0,0]) rfl ?_);exact⟨_,{c with F:=t,dF:=d1},rfl,hc.Nf (by rw[ht];exact FF.Ok.up tv og) og hp hr (by rw[ht];exact Nd _ _ _ _ _ _),rfl⟩
 ·have hl:a.aB n≠0:=hl;have iJ:(kp a b c).aB n=a.aB n:=rfl;rw[iJ];apply gO;refine bL (pz 17) ?_;exact⟨a.aB n,c,(aJ _ hl).symm,hc.up (Nat.le_refl _) og,rfl⟩
set_option maxHeartbeats 8000000 in
def ZR(a:KA)(b:KZ)(c:KC)(N:Nat)(T:Int)(ho:a.Ok T)(hc:cI a c N T)(hT:T<=800000)(n:Int)(x y:ByteArray)(hx:x.size<=100000)(hy:y.size<=100000):Spec Tryz.prog 169 [ay b.kb 0 0,iI n,.string x,.string y] (cV a b c []) (fun v H1=>∃ (e:Int) (c1:KC),v=ax 102 e/\cI a c1 N (T+15)/\H1=(cV a b c1 [])):=by
 refine Spec.go 56 [0,1,2,3,8,10,11,12,13,21,32,44] [] Tryz.func169 fun W=> ?_;refine ca (ek b.kb (kp a b c) n) .h1 ?_;rintro _ _ ⟨⟨hl,rfl⟩ | ⟨hl,rfl⟩,rfl⟩
 ·obtain⟨jx,gn⟩:=bE hl;have hl:a.aB n=0:=hl;have gn:(a.u n).st=1:=gn;have hz:=ho.tz hl;have iG:=hc.tb _ hz.1.1 hz.1.2 hz.2;have zo:=hc.sh og;apply gO;apply XR.mono fun _ bJ=>gT (z:=(a.s.bS n).1.toNat) (dY hz.1 hz.2) (pk [15,15]) bJ;refine cq (iU a b c n hz) (pk [4,5]) ?_;refine cq (EF _ _ _ _ _ _ _ _ _ iG.rv iG.mc iG.len c.F zo x hx) (pk [2,2,11,11,11]) ?_;apply XO.bG (z:=.agg (WH.cF WH.nil)) (m:=2) (C:=Tr.aN WH.nil) (Tr.aN.box _);intro bw;apply gO;refine fW .aa (Tr.aN.st _ _) rfl ⟨rfl,rfl⟩ (XR.mono (fun _ bJ=>gQ (z:=(a.s.bS n).1.toNat) (dY hz.1 hz.2) (pk [1,1,6,6]) bJ) ?_);refine cd ?_ ?_<;>intro h1
  ·refine aM rfl rfl (ah (pk (6::7::rr 7 6 (rr 6 3 [0,0]))) rfl ?_);try dsimp only[aS,aR,bI,bN]
   grind [cI.up]
  ·apply XR.mono fun _ bJ=>gT (z:=(a.s.bS n).1.toNat) (dY hz.1 hz.2) (pz 2) bJ;refine cq (iU a b c n hz) (pk [8,8]) ?_;refine cq (AS _ _ _ _ _ _ _ _ _ iG.rv iG.mc iG.len c.F zo y hy) (pk [2,2,5,5,5]) ?_;apply XO.bG (z:=.agg (WH.cF WH.nil)) (m:=2) (C:=Tr.aN WH.nil) (Tr.aN.box _);intro bw2;apply gO;refine fW .aa (Tr.aN.st _ _) rfl ⟨rfl,rfl⟩ (XR.mono (fun _ bJ=>gQ (z:=(a.s.bS n).1.toNat) (dY hz.1 hz.2) (pk [1,1,6,6]) bJ) ?_);refine cd ?_ ?_<;>intro h2
   ·refine aM rfl rfl (ah (pk [6,8,6,7,7,7,7,7,7,3,3,3,4,4,4,0,0]) rfl ?_);try dsimp only[aS,aR,bI,bN]
    grind [cI.up]
   ·refine rq [0,1,2,3,4,5,6,7,8,9,10] mixed (ld (.t6 .aa) (aD.BM _) (ld (.t8 .aa) (Tr.aN.EM _) (ld (.t2 .aa) (Tr.aN.EM _) ?_)));refine ca (adm _ _ c.F zo _ _ _ (by have:=zg c.F.toFF (c.t (a.s.bS n).1.toNat).l (c.t (a.s.bS n).1.toNat).r y;omega)) (pk [3,3,3]) ?_;rintro _ _ ⟨rfl,t,ht,hp,hr,rfl⟩;apply gO;refine aM rfl rfl (ah (pk [6,8,6,7,7,7,7,7,7,0,0,0,4,4,4,0,0]) rfl ?_);exact⟨_,{c with F:=t,dF:=c.dF},rfl,hc.Nf (by rw[ht];exact FF.Ok.up (hc.F.DB _ _ _) og) og hp hr (by rw[ht];exact Nc _ _ _ _),rfl⟩
 ·have hl:a.aB n≠0:=hl;have iJ:(kp a b c).aB n=a.aB n:=rfl;rw[iJ];apply gO;refine bL (pz 17) ?_;exact⟨a.aB n,c,(aJ _ hl).symm,hc.up (Nat.le_refl _) og,rfl⟩
def gg:nT Tryz.prog 163=true:=kq
def WR:dc Tryz.prog 105=true:=kq
def adP:dc Tryz.prog 214=true:=kq
def adQ:dc Tryz.prog 215=true:=kq
def dx:fp Tryz.prog 163=some 2:=kq
set_option maxHeartbeats 8000000 in
def ZS(a:KA)(b:KZ)(c:KC)(N:Nat)(T:Int)(ho:a.Ok T)(hc:cI a c N T)(hT:T<=800000)(n:Int)(x y:ByteArray)(hx:x.size<=100000)(hy:y.size<=100000):Spec Tryz.prog 170 [ay b.kb 0 0,iI n,.string x,.string y] (cV a b c []) (fun v H1=>∃ (e:Int) (c1:KC),v=ax 102 e/\cI a c1 N (T+15)/\H1=(cV a b c1 [])):=by
 refine Spec.go 50 [0,1,2,3,8,10,11,12,20,31,42] [] Tryz.func170 fun W=> ?_;refine ca (ek b.kb (kp a b c) n) .h1 ?_;rintro _ _ ⟨⟨hl,rfl⟩ | ⟨hl,rfl⟩,rfl⟩
 ·obtain⟨jx,gn⟩:=bE hl;have hl:a.aB n=0:=hl;have gn:(a.u n).st=1:=gn;have hz:=ho.tz hl;have iG:=hc.tb _ hz.1.1 hz.1.2 hz.2;have zo:=hc.sh og;apply gO;apply XR.mono fun _ bJ=>gT (z:=(a.s.bS n).1.toNat) (dY hz.1 hz.2) (pk [15,15]) bJ;refine cq (iU a b c n hz) (pk [4,5]) ?_;refine cq (aa5 _ _ _ _ _ _ _ _ _ iG.rv iG.mc iG.len c.F zo x hx) (pk [2,2,11,11,11]) ?_;apply XO.bG (z:=.agg (WH.cF WH.nil)) (m:=2) (C:=Tr.aN WH.nil) (Tr.aN.box _);intro bw;apply gO;apply fW .aa (Tr.aN.st _ _) rfl ⟨rfl,rfl⟩;apply XR.mono fun _ bJ=>gQ (z:=(a.s.bS n).1.toNat) (dY hz.1 hz.2) (pk [1,1,6,6]) bJ;refine cd ?_ ?_<;>intro h1
  ·refine aM rfl rfl (ah (pk (6::7::rr 7 6 (rr 6 3 [0,0]))) rfl ?_);try dsimp only[aS,aR,bI,bN]
   grind [cI.up]
  ·apply XR.mono fun _ bJ=>gT (z:=(a.s.bS n).1.toNat) (dY hz.1 hz.2) (pz 2) bJ;refine cq (iU a b c n hz) (pk [8,8]) ?_;refine cq (EF _ _ _ _ _ _ _ _ _ iG.rv iG.mc iG.len c.F zo y hy) (pk [2,2,5,5,5]) ?_;apply XO.bG (z:=.agg (WH.cF WH.nil)) (m:=2) (C:=Tr.aN WH.nil) (Tr.aN.box _);intro bw2;apply gO;apply fW .aa (Tr.aN.st _ _) rfl ⟨rfl,rfl⟩;apply XR.mono fun _ bJ=>gQ (z:=(a.s.bS n).1.toNat) (dY hz.1 hz.2) (pk [1,1,6,6]) bJ;refine cd ?_ ?_<;>intro h2
   ·refine aM rfl rfl (ah (pk [6,8,6,7,7,7,7,7,7,3,3,3,4,4,4,0,0]) rfl ?_);try dsimp only[aS,aR,bI,bN]
    grind [cI.up]
   ·apply XR.mono fun _ bJ=>gT (z:=(a.s.bS n).1.toNat) (dY hz.1 hz.2) (pz 2) bJ;apply XC.im mixed (f:=7) (l:= #[qF,qF,qF,qF,qF,qF,qF]) rfl rfl XM.kN;apply XQ.pv (i:=0) rfl kq rfl (V.move rfl) rfl rfl;apply XQ.pv (i:=1) rfl kq rfl (V.move rfl) rfl rfl;apply XQ.load (i:=3) (.cells _ _ _ _) [5] rfl kq rfl (.XJ .aa) (eJ rfl eh (Tr.aN.agg _) gg dx) rfl kq rfl;apply XQ.load (i:=4) (.cells _ _ _ _) [5] rfl kq rfl (.t4 .aa) (eJ rfl eh (Tr.aN.agg _) gg dx) rfl kq rfl;apply XQ.call (i:=2) rfl kq rfl rfl (iU a b c n hz) (pk [8,8]) WR rfl (by rintro _ _ ⟨rfl,rfl⟩;all_goals(intro _ dZ;exact⟨fun _=>fb (.t6 .aa) _ dZ,fun _=>fb (.XJ .aa) _ dZ,trivial⟩));rintro _ _ ⟨rfl,rfl⟩;apply XQ.call (i:=5) rfl kq rfl rfl (adC _ _ _ _ _ _ _ _ _ iG.rv iG.mc iG.len c.F c.dF T hc.F og _ _) (pk [2,2,5,5,5]) adP rfl (by rintro _ _ ⟨rfl,p1,k1,k2,k3,C1,u,Xg,hC1,hu,hp,hr,rfl⟩;all_goals(intro _ dZ;refine⟨?_,?_,trivial⟩<;>exact fun hs=>(hs 5 b8 rfl).elim));rintro _ _ ⟨rfl,p1,k1,k2,k3,C1,u,Xg,hC1,hu,hp,hr,rfl⟩;apply XQ.pv (i:=6) rfl kq rfl (V.assign rfl) rfl rfl;apply XQ.mono (fun _ bJ=>yW (z:=(a.s.bS n).1.toNat) (⟨(c.t (a.s.bS n).1.toNat).b,(c.t (a.s.bS n).1.toNat).r,(pA c.F.toFF (c.t (a.s.bS n).1.toNat).l (BP c.F.toFF (c.t (a.s.bS n).1.toNat).l (c.t (a.s.bS n).1.toNat).r x) (KD c.F.toFF (c.t (a.s.bS n).1.toNat).l (c.t (a.s.bS n).1.toNat).r y)),p1,k1,k2,k3,C1⟩:TB) (dY hz.1 hz.2) (pk [0,0,5,5]) bJ);apply XQ.done kq;apply gE;refine aM rfl rfl (ah (pk [5,8,5,7,7,7,7,7,7,2,2,2,4,4,4,0,0]) rfl ?_);refine⟨_,{c with F:=u,t:=bu c.t (a.s.bS n).1.toNat (⟨(c.t (a.s.bS n).1.toNat).b,(c.t (a.s.bS n).1.toNat).r,(pA c.F.toFF (c.t (a.s.bS n).1.toNat).l (BP c.F.toFF (c.t (a.s.bS n).1.toNat).l (c.t (a.s.bS n).1.toNat).r x) (KD c.F.toFF (c.t (a.s.bS n).1.toNat).l (c.t (a.s.bS n).1.toNat).r y)),p1,k1,k2,k3,C1⟩:TB)},rfl,hc.tab ⟨Xg,hC1,Rv iG.len _ _⟩ (by rw[hu];exact FF.Ok.up (Ve hc.F _ _ _) og) hp hr (by rw[hu];exact K0 _ _ _ _),?_⟩;grind [Ng,Nh]
 ·have hl:a.aB n≠0:=hl;have iJ:(kp a b c).aB n=a.aB n:=rfl;rw[iJ];apply gO;refine bL (pz 17) ?_;exact⟨a.aB n,c,(aJ _ hl).symm,hc.up (Nat.le_refl _) og,rfl⟩
set_option maxHeartbeats 8000000 in
def Sc(a:KA)(b:KZ)(c:KC)(N:Nat)(T:Int)(ho:a.Ok T)(hc:cI a c N T)(hT:T<=800000)(n:Int)(x:ByteArray)(hx:x.size<=100000):Spec Tryz.prog 171 [ay b.kb 0 0,iI n,.string x] (cV a b c []) (fun v H1=>∃ (e:Int) (c1:KC),v=ax 102 e/\cI a c1 N (T+15)/\H1=(cV a b c1 [])):=by
 refine Spec.go 35 [0,1,2,6,8,9,17,28] [] Tryz.func171 fun W=> ?_;refine ca (ek b.kb (kp a b c) n) .h1 ?_;rintro _ _ ⟨⟨hl,rfl⟩ | ⟨hl,rfl⟩,rfl⟩
 ·obtain⟨jx,gn⟩:=bE hl;have hl:a.aB n=0:=hl;have gn:(a.u n).st=1:=gn;have hz:=ho.tz hl;have iG:=hc.tb _ hz.1.1 hz.1.2 hz.2;have zo:=hc.sh og;apply gO;apply XR.mono fun _ bJ=>gT (z:=(a.s.bS n).1.toNat) (dY hz.1 hz.2) (pk [15,15]) bJ;refine cq (iU a b c n hz) (pk [4,5]) ?_;refine cq (aa5 _ _ _ _ _ _ _ _ _ iG.rv iG.mc iG.len c.F zo x hx) (pk [2,2,11,11,11]) ?_;apply XO.bG (z:=.agg (WH.cF WH.nil)) (m:=2) (C:=Tr.aN WH.nil) (Tr.aN.box _);intro bw;apply gO;apply fW .aa (Tr.aN.st _ _) rfl ⟨rfl,rfl⟩;apply XR.mono fun _ bJ=>gQ (z:=(a.s.bS n).1.toNat) (dY hz.1 hz.2) (pk [1,1,6,6]) bJ;refine cd ?_ ?_<;>intro h1
  ·refine aM rfl rfl (ah (pk (6::7::rr 7 6 (rr 6 3 [0,0]))) rfl ?_);try dsimp only[aS,aR,bI,bN]
   grind [cI.up]
  ·apply XR.mono fun _ bJ=>gT (z:=(a.s.bS n).1.toNat) (dY hz.1 hz.2) (pz 2) bJ;apply XC.im mixed (f:=6) (l:= #[qF,qF,qF,qF,qF,qF]) rfl rfl XM.kN;apply XQ.pv (i:=0) rfl kq rfl (V.move rfl) rfl rfl;apply XQ.pv (i:=1) rfl kq rfl (V.move rfl) rfl rfl;apply XQ.load (i:=3) (.cells _ _ _ _) [4] rfl kq rfl (.t4 .aa) (eJ rfl eh (Tr.aN.agg _) gg dx) rfl kq rfl;apply XQ.call (i:=2) rfl kq rfl rfl (iU a b c n hz) (pk [8,8]) WR rfl (by rintro _ _ ⟨rfl,rfl⟩;all_goals(intro _ dZ;exact⟨fun _=>fb (.t6 .aa) _ dZ,trivial⟩));rintro _ _ ⟨rfl,rfl⟩;apply XQ.call (i:=4) rfl kq rfl rfl (Wy _ _ _ _ _ _ _ _ _ iG.rv iG.mc iG.len c.F c.dF T hc.F og _) (pk [2,2,5,5,5]) adQ rfl (by rintro _ _ ⟨rfl,p1,k1,k2,k3,C1,u,Xg,hC1,hu,hp,hr,rfl⟩;all_goals(intro _ dZ;exact⟨fun hs=>(hs 4 b8 rfl).elim,trivial⟩));rintro _ _ ⟨rfl,p1,k1,k2,k3,C1,u,Xg,hC1,hu,hp,hr,rfl⟩;apply XQ.pv (i:=5) rfl kq rfl (V.assign rfl) rfl rfl;apply XQ.mono (fun _ bJ=>yW (z:=(a.s.bS n).1.toNat) (⟨(c.t (a.s.bS n).1.toNat).b,(c.t (a.s.bS n).1.toNat).r,(nk (c.t (a.s.bS n).1.toNat).l (BP c.F.toFF (c.t (a.s.bS n).1.toNat).l (c.t (a.s.bS n).1.toNat).r x)),p1,k1,k2,k3,C1⟩:TB) (dY hz.1 hz.2) (pk [0,0,5,5]) bJ);apply XQ.done kq;apply gE;refine aM rfl rfl (ah (pk [5,7,5,6,6,6,6,6,6,2,2,2,3,3,3,0,0]) rfl ?_);refine⟨_,{c with F:=u,t:=bu c.t (a.s.bS n).1.toNat (⟨(c.t (a.s.bS n).1.toNat).b,(c.t (a.s.bS n).1.toNat).r,(nk (c.t (a.s.bS n).1.toNat).l (BP c.F.toFF (c.t (a.s.bS n).1.toNat).l (c.t (a.s.bS n).1.toNat).r x)),p1,k1,k2,k3,C1⟩:TB)},rfl,hc.tab ⟨Xg,hC1,KY iG.len _⟩ (by rw[hu];exact FF.Ok.up (YT hc.F _ _) og) hp hr (by rw[hu];exact Fi _ _ _),?_⟩;grind [Ng,Nh]
 ·have hl:a.aB n≠0:=hl;have iJ:(kp a b c).aB n=a.aB n:=rfl;rw[iJ];apply gO;refine bL (pz 17) ?_;exact⟨a.aB n,c,(aJ _ hl).symm,hc.up (Nat.le_refl _) og,rfl⟩
set_option maxHeartbeats 8000000 in
def WS(a:KA)(b:KZ)(c:KC)(N:Nat)(T:Int)(ho:a.Ok T)(hc:cI a c N T)(hT:T<=800000)(n z:Int):Spec Tryz.prog 39 [ay b.kb 0 0,iI n,iI z] (cV a b c []) (fun v H1=>∃ (e:Int) (c1:KC),v=ax 102 e/\cI a c1 N (T+15)/\H1=(cV a b c1 [])):=by
 refine Spec.go 31 [0,1,2,6,8,16,24] [] Tryz.func39 fun W=> ?_;refine ca (ek b.kb (kp a b c) n) .h1 ?_;rintro _ _ ⟨⟨hl,rfl⟩ | ⟨hl,rfl⟩,rfl⟩
 ·obtain⟨jx,gn⟩:=bE hl;have hl:a.aB n=0:=hl;have gn:(a.u n).st=1:=gn;have hz:=ho.tz hl;have iG:=hc.tb _ hz.1.1 hz.1.2 hz.2;have zo:=hc.sh og;apply gO;refine cq (jT b.kb (kp a b c) a.s n) (pk [0,1]) ?_;refine cq (AP b.kb (kp a b c) a.s _) (pz 2) ?_;refine cd ?_ ?_<;>intro h1
  ·refine aM rfl rfl (ah (pk (0::1::rr 15 0 [])) rfl ?_);exact⟨8,c,rfl,hc.up (Nat.le_refl _) og,rfl⟩
  ·apply XR.mono fun _ bJ=>gT (z:=(a.s.bS n).1.toNat) (dY hz.1 hz.2) (pk [15,15]) bJ;have eR:dy c.rp c.rc 3 c.rl=dy c.F.rP c.F.rC 3 c.F.toFF.roots:=by rw[hc.rp,hc.rc,hc.rl]
   try unfold cV
   rw[eR];refine cq (iU a b c n hz) (pk [4,4]) ?_;refine ca (Zy _ _ _ _ _ _ _ _ _ iG.rv iG.mc iG.len c.F c.dF T hc.F og z) (pk [2,2,11,11,11,11]) ?_;rintro _ _ (⟨gY,rfl,rfl⟩ | ⟨hre,rfl,u,hu,tv,hp,hr,rfl⟩)
   ·apply gO;refine XR.mono (fun _ bJ=>gQ (z:=(a.s.bS n).1.toNat) (dY hz.1 hz.2) (pk [0,0,6,6]) bJ) ?_;refine aM rfl rfl (ah (pk (6::7::rr 7 6 (rr 6 2 [0,0]))) rfl ?_);try dsimp only[aS,aR,bI,bN]
    grind [cI.up]
   ·apply gO;refine XR.mono (fun _ bJ=>yW (z:=(a.s.bS n).1.toNat) (⟨(c.t (a.s.bS n).1.toNat).b,⟨z,c.F.toFF.fV z⟩,[],none,0,0,0,C0⟩:TB) (dY hz.1 hz.2) (pk [0,0,6,6]) bJ) ?_;refine aM rfl rfl (ah (pk (6::7::rr 7 6 (rr 6 2 [0,0]))) rfl ?_);rw[<-eR];refine⟨0,{c with F:=u,t:=bu c.t (a.s.bS n).1.toNat (⟨(c.t (a.s.bS n).1.toNat).b,⟨z,c.F.toFF.fV z⟩,[],none,0,0,0,C0⟩:TB)},rfl,hc.tab ⟨afx,fun i hi=>absurd hi (by show ¬i<0*4;omega),(by show 0<=6;omega)⟩ (FF.Ok.up tv og) hp hr (by rw[hu,sY];exact kx _ _),?_⟩;grind [Ng,Nh]
 ·have hl:a.aB n≠0:=hl;have iJ:(kp a b c).aB n=a.aB n:=rfl;rw[iJ];apply gO;refine bL (pz 17) ?_;exact⟨a.aB n,c,(aJ _ hl).symm,hc.up (Nat.le_refl _) og,rfl⟩
def WT(a:KA)(b:KZ)(c:KC)(N:Nat)(T:Int)(ho:a.Ok T)(hc:cI a c N T)(hT:T<=800000):Spec Tryz.prog 38 [ay b.kb 0 0] (cV a b c []) (fun v H1=>∃ (m e:Int) (c1:KC),v= .tuple #[iI m,ax 102 e]/\cI a c1 N (T+15)/\H1=(cV a b c1 [])):=by
 refine Spec.go 11 [0,2,3] [] Tryz.func38 fun W=> ?_;have eR:dy c.rp c.rc 3 c.rl=dy c.F.rP c.F.rC 3 c.F.toFF.roots:=by rw[hc.rp,hc.rc,hc.rl]
 try unfold cV
 rw[eR];apply ld .aa (aD.BM _);refine ca (Pt _ _ c.F (hc.sh og)) (pk [9,9,9,9]) ?_;rintro _ _ ⟨t,rfl,ht,rfl⟩;apply gO;refine aW rfl rfl rfl (ah (pk (rr 9 4 (rr 8 0 []))) rfl ?_);obtain⟨d1,tv⟩:=hc.F.yG;exact⟨_,_,{c with F:=t,dF:=d1,rp:=t.rP,rc:=t.rC,rl:=t.toFF.roots},rfl,⟨hc.qO.mono (Nat.le_refl _) og,hc.qR,(by show t.toFF.Ok _ _;rw[ht];exact FF.Ok.up tv og),rfl,rfl,rfl,hc.tb,hc.tk⟩,rfl⟩
set_option maxHeartbeats 16000000 in
def ZT(a:KA)(b:KZ)(c:KC)(N:Nat)(T:Int)(ho:a.Ok T)(hc:cI a c N T)(hT:T<=800000)(n:Int)(x:ByteArray)(hx:x.size<=100000)(o m:Bool):Spec Tryz.prog 163 [ay b.kb 0 0,iI n,.string x,.bool o,.bool m] (cV a b c []) (fun v H1=>∃ (a1:KA) (r e:Int) (c1:KC),v= .tuple #[iI r,ax 102 e]/\a.OW n a1/\cI a1 c1 N (T+15)/\H1=(cV a1 b c1 [])):=by
 refine Spec.go 106 [0,1,2,3,4,10,11,12,13,14,15,16,17,18,19,20,28,41,58,69,83,96] [(9,1)] Tryz.func163 fun W=> ?_;refine ca (ek b.kb (kp a b c) n) .h1 ?_;rintro _ _ ⟨⟨hl,rfl⟩ | ⟨hl,rfl⟩,rfl⟩
 ·obtain⟨jx,gn⟩:=bE hl;have hl:a.aB n=0:=hl;have gn:(a.u n).st=1:=gn;have hz:=ho.tz hl;have iG:=hc.tb _ hz.1.1 hz.1.2 hz.2;have zo:=hc.sh og;have h1:a.na n=jS (a.u n).fd 0:=rfl;apply gO;refine cq (Cl a b c n jx 0) .h1 ?_;refine sp 34 rfl ?_ ?_<;>intro h1
  ·refine er (pz 17) ?_;exact⟨a,0,4,c,rfl,.inl rfl,hc.up (Nat.le_refl _) og,rfl⟩
  ·have hs0:¬a.na n<0:=h1;have CG:=vy (a.u n).fd 0;apply ld .aa (gN _);refine cq (adw _ _ _ _ a.O T og ho.wk.OI 1) (pk [14]) ?_;refine wM ?_ ?_<;>intro h2
   ·try simp only[sb]at h2
    refine aW rfl rfl rfl (ah (pk (rr 14 1 [0,0,0])) rfl ?_);exact⟨a,0,4,c,rfl,.inl rfl,hc.up (Nat.le_refl _) og,rfl⟩
   ·try simp only[sb]at h2
    apply XR.mono fun _ bJ=>gT (z:=(a.s.bS n).1.toNat) (dY hz.1 hz.2) (pk [15,15]) bJ;refine cq (iU a b c n hz) (pk [5,6]) ?_;refine cq (EF _ _ _ _ _ _ _ _ _ iG.rv iG.mc iG.len c.F zo x hx) (pk [2,2,12,12,12]) ?_;apply XO.bG (z:=.agg (WH.cF WH.nil)) (m:=2) (C:=Tr.aN WH.nil) (Tr.aN.box _);intro bw;apply gO;refine fW .aa (Tr.aN.st _ _) rfl ⟨rfl,rfl⟩ (XR.mono (fun _ bJ=>gQ (z:=(a.s.bS n).1.toNat) (dY hz.1 hz.2) (pk [1,1,6,6]) bJ) ?_);refine ld (.t2 .aa) (Tr.aN.EM _) ?_;apply ctG (σ:=Int×Int×FC×(Int->Nat)) (fun y=>cI a {c with F:=y.2.2.1,dF:=y.2.2.2} N (T+1)) (fun y=>[(0,ay b.kb 0 0),(3,.bool o),(12,ay b.kb 0 (0+0+n.toNat*22)),(13,ax 102 y.2.1),(14,iI (a.na n)),(16,iI y.1)]) fun y=>XM W (bX (cV a b c [])) [.cells b.kb 0 453 (aD (kp a b {c with F:=y.2.2.1,dF:=y.2.2.2})),.cells b.gb 0 60 (bD a.g),.cells b.sb 0 158 (Sp.aK a.s),.cells b.qb 0 2281 (aH {c with F:=y.2.2.1,dF:=y.2.2.2}.q),.aQ bW (SC.dg 254 {c with F:=y.2.2.1,dF:=y.2.2.2}.q),.cells b.bb 0 577 (dI b.vp a.v.ij a.v.rf),.cells b.vp 0 71 (Vm.bK a.v.bb.fe),.dG (iR a) {c with F:=y.2.2.1,dF:=y.2.2.2}.mb 34 (cN b.bb a.f {c with F:=y.2.2.1,dF:=y.2.2.2}.pp {c with F:=y.2.2.1,dF:=y.2.2.2}.cc),.aQ (iR a) (rN 171 a.f {c with F:=y.2.2.1,dF:=y.2.2.2}.pp {c with F:=y.2.2.1,dF:=y.2.2.2}.cc),.cells b.tb 0 321 (aC {c with F:=y.2.2.1,dF:=y.2.2.2}.F),.aQ au (FC.aX 9 {c with F:=y.2.2.1,dF:=y.2.2.2}.F),.aQ au (FC.aY 3 {c with F:=y.2.2.1,dF:=y.2.2.2}.F),dy {c with F:=y.2.2.1,dF:=y.2.2.2}.rp {c with F:=y.2.2.1,dF:=y.2.2.2}.rc 3 {c with F:=y.2.2.1,dF:=y.2.2.2}.rl,.cells b.pi 0 24 (Tr.bK a.P),.cells b.ob 0 122 (aZ b.tb b.pi a.O),.dG (kz a) (fun z=>({c with F:=y.2.2.1,dF:=y.2.2.2}.t z).b) 4 (cT b.tb {c with F:=y.2.2.1,dF:=y.2.2.2}.t),.aQ (kz a) (rT 168 {c with F:=y.2.2.1,dF:=y.2.2.2}.t)]
    ·refine XO.v (N8 rfl rfl dq Tryz.underlying33 PE rfl Tryz.underlying102 rfl) rfl (gO ?_);refine sp 56 rfl ?_ ?_<;>intro h3
     ·refine wM ?_ ?_<;>intro h4
      ·try simp only[sb]at h4
       apply XR.mono fun _ bJ=>gT (z:=(a.s.bS n).1.toNat) (dY hz.1 hz.2) (pz 2) bJ;refine cq (iU a b c n hz) (pk [8,8]) ?_;refine cq (AS _ _ _ _ _ _ _ _ _ iG.rv iG.mc iG.len c.F zo x hx) (pk [2,2,5,5,5]) ?_;apply XO.bG (z:=.agg (WH.cF WH.nil)) (m:=2) (C:=Tr.aN WH.nil) (Tr.aN.box _);intro bw2;apply gO;refine fW .aa (Tr.aN.st _ _) rfl ⟨rfl,rfl⟩ (XR.mono (fun _ bJ=>gQ (z:=(a.s.bS n).1.toNat) (dY hz.1 hz.2) (pk [1,1,6,6]) bJ) ?_);refine cd ?_ ?_<;>intro h5
       ·refine aW rfl rfl rfl (ah (pk [6,9,6,8,8,8,8,8,8,3,3,3,5,5,4,0,0]) rfl ?_);exact⟨a,0,_,c,rfl,.inl rfl,hc.up (Nat.le_refl _) og,rfl⟩
       ·refine rq [0,1,2,3,4,5,6,7,8,9,10,11,12] mixed (ld (.t6 .aa) (aD.BM _) (ld (.t2 .aa) (Tr.aN.EM _) ?_));refine ca (Wi _ _ c.F zo _ _ 1 (by have:=zg c.F.toFF (c.t (a.s.bS n).1.toNat).l (c.t (a.s.bS n).1.toNat).r x;omega)) (pk [3,3,3]) ?_;rintro _ _ ⟨rfl,t,ht,hp,hr,rfl⟩;obtain⟨d1,tv⟩:=hc.F.make (uA c.F.toFF (c.t (a.s.bS n).1.toNat).l (c.t (a.s.bS n).1.toNat).r x).node (rn c.F.toFF (c.t (a.s.bS n).1.toNat).l (c.t (a.s.bS n).1.toNat).r x) 1;apply gO;refine nR ((_,_,t,d1)) ?_ S6 (xq (pk [6,9,6,8,8,8,8,8,8,0,0,0,5,5,4,0,0]));grind [cI.Nf,Ea]
      ·try simp only[sb]at h4
       refine nR ((_,_,c.F,c.dF)) ?_ S6 (xq (pk [6,8,6,7,7,7,7,7,7,3,3,3,4,4,3,0,0]));exact hc.up (Nat.le_refl _) og
     ·refine nR ((_,_,c.F,c.dF)) ?_ S6 (xq (pk [6,8,6,7,7,7,7,7,7,3,3,3,4,4,3,0,0]));exact hc.up (Nat.le_refl _) og
    intro y hy;apply gC;refine cd ?_ ?_<;>intro h6
    ·refine er (pz 17) ?_;try dsimp only[aS,aR,bI,bN]
     grind [cI.up,KA.OW]
    ·apply ld .aa (gN _);refine ca (ads _ _ _ _ a.O y.2.2.1 (hy.sh og) y.1 o) (pk [14,9,9,9]) ?_;rintro _ _ ⟨rfl,t,ht,hp,hr,rfl⟩;apply gO;refine cd ?_ ?_<;>intro h7
     ·have hoe:n9 y.2.2.1.toFF a.O y.1≠0:=h7;refine aW rfl rfl rfl (ah (pk (rr 9 4 [1,1,1,1,1,0,0,0])) rfl ?_);have hO:qs y.2.2.1.toFF a.O y.1 o=a.O:=by unfold qs;rw[if_neg hoe]
      rw[hO];exact⟨a,0,_,{c with F:=t,dF:=y.2.2.2},rfl,.inl rfl,hy.Nf (c:= {c with F:=y.2.2.1,dF:=y.2.2.2}) (by rw[ht];exact GG hy.F _ _) og hp hr (by rw[ht];exact zh _ _ _),rfl⟩
     ·have hoe:¬n9 y.2.2.1.toFF a.O y.1≠0:=h7;have hof:¬a.O.first<0:=by
       intro q;unfold n9 at hoe;omega
      have hor:=Tr.OS.nI hof;have hov:ux y.2.2.1.toFF a.O y.1=a.O.first:=by unfold ux;rw[if_pos og]
      refine sd (sd (st (.t4 .aa) (lM _ jx ⟨CG.1,CG.2.1⟩ _) rfl (aW rfl rfl rfl (ah (pk (rr 9 4 [1,1,1,1,1,0,0,0])) rfl ?_)))) (by first | omega | (rw[hov];omega));have hO:qs y.2.2.1.toFF a.O y.1 o=a.O.lay a.O.first 1 y.1 o:=by unfold qs;rw[if_pos og]
      rw[hO,hov];refine⟨a.VE n y.1 o,_,0,{c with F:=t,dF:=y.2.2.2},rfl,.inr ⟨y.1,o,hl,⟨CG.1,CG.2.1⟩,⟨hor.1,hor.2.1⟩,rfl⟩,hy.Nf (c:= {c with F:=y.2.2.1,dF:=y.2.2.2}) (by rw[ht];exact GG hy.F _ _) og hp hr (by rw[ht];exact zh _ _ _) rfl fun m q=>by show(Bt _ _ _ _ _).st=1;rw[(kv _ _ _ _ _).1];exact q,?_⟩;unfold KA.VE;try unfold cV
      rw[H5,<-D2 a b {c with F:=t,dF:=y.2.2.2} n (a.na n) (a.O.first+1) (a.O.lay a.O.first 1 y.1 o) a.P];rfl
 ·have hl:a.aB n≠0:=hl;have iJ:(kp a b c).aB n=a.aB n:=rfl;rw[iJ];apply gO;refine er (pz 17) ?_;try dsimp only[aS,aR,bI,bN]
  exact⟨a,0,a.aB n,c,(by rw[aJ _ hl]),.inl rfl,hc.up (Nat.le_refl _) og,rfl⟩
end Go.X.Kn
