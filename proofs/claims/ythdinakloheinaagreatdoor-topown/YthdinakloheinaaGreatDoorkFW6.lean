import Derived.Test.YthdinakloheinaaGreatDoorkJC2
set_option linter.all false
namespace Go.X.Kn
open Go Go.Proofs Go.X Go.X.Sg Go.X.Tr
set_option maxRecDepth 20000
set_option maxHeartbeats 4000000
attribute [local irreducible] KA.dc KA.cH
def PK:Tryz.prog.info? 102=some Tryz.t102:=kq
theorem cK.same{a a':KA}{c:KC}{N:Nat}{T T':Int}(h:cK a c N T)(hT:T<=T')(e:a'.s=a.s)(hu:∀ n,(a.u n).st=1->(a'.u n).st=1:=by exact fun _ q=>q):cK a' c N T':=⟨h.qO.mono (Nat.le_refl _) og,h.qR,FF.Ok.up h.F hT,h.rp,h.rc,h.rl,fun z h0 h1 h2=>h.tb z h0 h1 (by rwa[e]at h2),fun n n0 n1 hn=>hu n (h.tk n n0 n1 hn)⟩
theorem WL(a:KA)(n i v j w:Int)(O:Tr.OS)(P:Tr.PS):jg {a with u:=Bn (Bn a.u n i v) n j w,O:=O,P:=P} =jg a:=by grind [kr,jg]
def NJ{F:Tr.FF}{d:Int->Nat}{B:Int}(h:F.Ok d B)(O:Tr.OS)(n:Int)(x:ByteArray):(iA F O n x).Ok d (B+1):=by
 unfold iA;split
 ·exact h.cb _ _ _
 ·exact h.up1
def WM(a:KA)(b:KZ)(c:KC)(N:Nat)(T:Int)(ho:a.Ok T)(hc:cK a c N T)(hT:T<=800000)(n i:Int):Spec Tryz.prog 25 [az b.kb 0 0,iI n,iI i] (cW a b c []) (fun v H1=>v=ay 102 (a.km c.F.toFF n i)/\∃ c1:KC,cK (a.sE n i) c1 N T/\H1=(cW (a.sE n i) b c1 [])):=by
 refine Spec.go 33 [0,1,2,6,7,8,17] [] Tryz.func25 fun W=> ?_;refine cq (zn a b c ho.wk.fd n i) .h1 ?_;refine cd ?_ ?_<;>intro h1
 ·refine bI (pz 17) ?_;grind [aU,aS,KA.km,KA.sE]
 ·have It:a.eZ n i=0:=og;obtain⟨hn,hs,hi,hf,hv⟩:=KA.sy It;have Zc:=ho.wk.fd n i;refine sd (sd (st .aa (lJ _ hn hi _) rfl (ld .aa (gM _) ?_)));refine ca (Py _ _ _ _ _ T og ho.wk.OI c.F (hc.F.sh og) T og _ ho.wk.PI (a.dx n i)) (pk [14,9,9,9,10]) ?_;rintro _ _ ⟨rfl,F1,NI,SH,GF,rfl⟩;apply gO;refine aO rfl rfl (ah (pk (rr 9 5 [1,1,1,2,1,0,0,0])) rfl ?_);have e1:a.km c.F.toFF n i=Tr.km c.F.toFF a.P a.O (a.dx n i):=by unfold KA.km;rw[if_neg og]
  have e2:a.sE n i= {a with u:=Bn a.u n i 0,O:=kR a.O (a.dx n i),P:=kQ a.P a.O (a.dx n i)} :=by unfold KA.sE;rw[if_neg og]
  rw[e1,e2];refine⟨rfl,{c with F:=F1},⟨hc.qO,hc.qR,(by show F1.toFF.Ok _ _;rw[NI];exact FF.Ok.uC hc.F _ _),SH.trans hc.rp,GF.trans hc.rc,(by show F1.toFF.roots=_;rw[NI,yP];exact hc.rl),hc.tb,fun m m0 m1 hm=>by rw[(kr _ _ _ _ _).1];exact hc.tk m m0 m1 hm⟩,?_⟩;try unfold cW
  rw[HQ,DS a b c n i 0 (kR a.O (a.dx n i)) (kQ a.P a.O (a.dx n i))];rfl
def adX(a:KA)(b:KZ)(c:KC)(N:Nat)(T:Int)(ho:a.Ok T)(hc:cK a c N T)(hT:T<=800000)(n i:Int):Spec Tryz.prog 164 [az b.kb 0 0,iI n,iI i] (cW a b c []) (fun v H1=>v= .tuple #[iI (a.KJ n i),ay 102 (a.KI n i)]/\∃ c1:KC,cK (a.BM n i) c1 N (T+1)/\H1=(cW (a.BM n i) b c1 [])):=by
 refine Spec.go 47 [0,1,2,6,7,8,9,10,19,28] [] Tryz.func164 fun W=> ?_;refine cq (zn a b c ho.wk.fd n i) .h1 ?_;refine cd ?_ ?_<;>intro h1
 ·refine eH (pz 17) ?_;have e1:a.KI n i=a.eZ n i:=by unfold KA.KI;rw[if_pos og]
  have e2:a.KJ n i=0:=by unfold KA.KJ;rw[if_pos (.inl og)]
  have e3:a.BM n i=a:=by unfold KA.BM;rw[if_pos (.inl og)]
  rw[e1,e2,e3];exact⟨rfl,c,hc.up (Nat.le_refl _) og,rfl⟩
 ·have It:a.eZ n i=0:=og;obtain⟨hn,hs,hi,hf,hv⟩:=KA.sy It;have Zc:=ho.wk.fd n i;refine sd ?_;refine cq (Ci a b c n hn 0) .h1 ?_;refine cd ?_ ?_<;>intro h2
  ·refine eH (pz 17) ?_;have CD:a.mZ n<0:=by unfold KA.mZ;omega
   have e1:a.KI n i=4:=by unfold KA.KI;rw[if_neg og,if_pos CD]
   have e2:a.KJ n i=0:=by unfold KA.KJ;rw[if_pos (.inr CD)]
   have e3:a.BM n i=a:=by unfold KA.BM;rw[if_pos (.inr CD)]
   rw[e1,e2,e3];exact⟨rfl,c,hc.up (Nat.le_refl _) og,rfl⟩
  ·have CD:=vB (a.u n).fd 0;refine sd (sd (sd (st .aa (lJ _ hn ⟨CD.1,CD.2.1⟩ _) rfl (ld .aa (gM _) ?_))));refine cq (Ic _ _ _ _ _ T og ho.wk.OI (a.dx n i)) (pk [14]) ?_;refine bA rfl rfl rfl (ah (pk (rr 14 1 [0,0,0])) rfl ?_);have hs2:¬a.mZ n<0:=by unfold KA.mZ;omega
   have e1:a.KI n i=a.O.is (a.dx n i):=by unfold KA.KI;rw[if_neg og,if_neg hs2]
   have e2:a.KJ n i=a.mZ n:=by unfold KA.KJ;rw[if_neg og]
   have e3:a.BM n i= {a with u:=Bn a.u n (a.mZ n) (a.dx n i+1),O:=qh a.O (a.dx n i),P:=a.P} :=by unfold KA.BM;rw[if_neg og]
   rw[e1,e2,e3];refine⟨rfl,c,hc.same og rfl fun m q=>by rw[(kr _ _ _ _ _).1];exact q,?_⟩;try unfold cW
   rw[HQ,<-DS a b c n (a.mZ n) (a.dx n i+1) (qh a.O (a.dx n i)) a.P];rfl
set_option maxHeartbeats 8000000 in
def ZR(a:KA)(b:KZ)(c:KC)(N:Nat)(T:Int)(ho:a.Ok T)(hc:cK a c N T)(hT:T<=800000)(n:Int):Spec Tryz.prog 20 [az b.kb 0 0,iI n] (cW a b c []) (fun v H1=>v= .tuple #[iI (a.zc n),iI (a.zd n),ay 102 (a.uJ n)]/\∃ c1:KC,cK (a.ri n) c1 N (T+1)/\H1=(cW (a.ri n) b c1 [])):=by
 have hop:=Gm a.P a.O;have h1:a.mZ n=jO (a.u n).fd 0:=rfl;have h2:a.DT n=jO (a.u n).fd (jO (a.u n).fd 0+1):=rfl;refine Spec.go 62 [0,1,4,5,6,7,8,9,10,11,12,20,25,32,44] [] Tryz.func20 fun W=> ?_;refine ca (eW b.kb (kp a b c) n) .h1 ?_;rintro _ _ ⟨⟨hl,rfl⟩ | ⟨hl,rfl⟩,rfl⟩
 ·obtain⟨jV,ic⟩:=bJ hl;have hl:a.aA n=0:=hl;have ic:(a.u n).st=1:=ic;apply gO;refine cq (Ci a b c n jV 0) .h1 ?_;refine cd ?_ ?_<;>intro h1
  ·refine rt3 (pz 17) ?_;try dsimp only[aU,aS,bG,bN]
   grind [KA.uJ,KA.zc,KA.zd,KA.ri,cK.up,ay]
  ·have CD:=vB (a.u n).fd 0;refine sd ?_;refine cq (Ci a b c n jV (jO (a.u n).fd 0+1)) .h1 ?_;refine cd ?_ ?_<;>intro h2
   ·refine rt3 (pz 17) ?_;try dsimp only[aU,aS,bG,bN]
    grind [KA.uJ,KA.zc,KA.zd,KA.ri,cK.up,ay]
   ·have hsm:=vB (a.u n).fd (jO (a.u n).fd 0+1);apply ld .aa (gM _);refine cq (adK _ _ _ _ _ T og _ ho.wk.PI) (pk [14,13]) ?_;refine cd ?_ ?_<;>intro h3
    ·refine xz rfl rfl rfl rfl (ah (pk (rr 13 2 [1,0,0,0])) rfl ?_);have e1:a.uJ n=kS a.P a.O:=by unfold KA.uJ;rw[if_neg og,if_neg og]
     have h0:¬kS a.P a.O=0:=og;have e2:a.zc n=0:=by unfold KA.zc;rw[if_neg og]
     have e3:a.zd n=0:=by unfold KA.zd;rw[if_neg og]
     have e4:a.ri n= {a with O:=nU a.P a.O,P:=nT a.P a.O} :=by unfold KA.ri;rw[if_neg og,if_neg h0]
     rw[e1,e2,e3,e4];exact⟨rfl,c,hc.same og rfl,rfl⟩
    ·refine rq [0,1,2,3,4,5,6,7,8,9,10,12,13,11,14,15] mixed (sd (sd (sd (st (.t2 .aa) (lJ _ jV ⟨CD.1,CD.2.1⟩ _) rfl (sd (st (.t2 .aa) (lJ _ jV ⟨hsm.1,hsm.2.1⟩ _) rfl (xz rfl rfl rfl rfl (ah (pk (rr 13 2 [1,0,0,0])) rfl ?_))))))));have e1:a.uJ n=kS a.P a.O:=by unfold KA.uJ;rw[if_neg og,if_neg og]
     have h0:kS a.P a.O=0:=og;have e2:a.zc n=a.mZ n:=by unfold KA.zc;rw[if_pos og]
     have e3:a.zd n=a.DT n:=by unfold KA.zd;rw[if_pos og]
     have e4:a.ri n= {a with u:=Bn (Bn a.u n (a.mZ n) (nV a.P a.O+1)) n (a.DT n) (pq a.P a.O+1),O:=nU a.P a.O,P:=nT a.P a.O} :=by unfold KA.ri;rw[if_neg og,if_pos h0]
     rw[e1,e2,e3,e4,h0];refine⟨rfl,c,hc.same og rfl fun m q=>by rw[(kr _ _ _ _ _).1,(kr _ _ _ _ _).1];exact q,?_⟩;try unfold cW
     rw[DS a b c n (jO (a.u n).fd 0) (nV a.P a.O+1) a.O a.P,DS {a with u:=Bn a.u n (jO (a.u n).fd 0) (nV a.P a.O+1),O:=a.O,P:=a.P} b c n (jO (a.u n).fd (jO (a.u n).fd 0+1)) (pq a.P a.O+1) (nU a.P a.O) (nT a.P a.O)];try unfold cW
     rw[WL];rfl
 ·have hl:a.aA n≠0:=hl;have jd:(kp a b c).aA n=a.aA n:=rfl;rw[jd];apply gO;refine rt3 (pz 17) ?_;grind [aU,aS,bN,KA.uJ,KA.zc,KA.zd,KA.ri,aK,cK.up]
def ZS(a:KA)(b:KZ)(c:KC)(N:Nat)(T:Int)(ho:a.Ok T)(hc:cK a c N T)(hT:T<=800000)(n i m:Int):Spec Tryz.prog 22 [az b.kb 0 0,iI n,iI i,iI m] (cW a b c []) (fun v H1=>v= .tuple #[.string (a.kJ c.F.toFF n i m),ay 102 (a.me c.F.toFF n i m)]/\∃ c1:KC,cK (a.ze c.F.toFF n i m) c1 N (T+1)/\H1=(cW (a.ze c.F.toFF n i m) b c1 [])):=by
 refine Spec.go 31 [0,1,2,3,8,9,10,11,20] [] Tryz.func22 fun W=> ?_;refine cq (zn a b c ho.wk.fd n i) .h1 ?_;refine cd ?_ ?_<;>intro h1
 ·refine eH (pz 17) ?_;grind [aU,aS,bN,KA.me,KA.kJ,KA.ze,cK.up]
 ·have It:a.eZ n i=0:=og;obtain⟨hn,hs,hi,hf,hv⟩:=KA.sy It;have Zc:=ho.wk.fd n i;apply ld .aa (gM _);refine cq (adH _ _ _ _ _ T og ho.wk.OI c.F (hc.F.sh og) T og _ ho.wk.PI (a.dx n i) m) (pk [14,9,9,9,10]) ?_;refine bA rfl rfl rfl (ah (pk (rr 9 5 [1,1,1,2,1,0,0,0])) rfl ?_);have e1:a.me c.F.toFF n i m=ux c.F.toFF a.P a.O (a.dx n i) m:=by unfold KA.me;rw[if_neg og]
  have e2:a.kJ c.F.toFF n i m=uy c.F.toFF a.P a.O (a.dx n i) m:=by unfold KA.kJ;rw[if_neg og]
  have e3:a.ze c.F.toFF n i m= {a with O:=qj c.F.toFF a.O (a.dx n i) m,P:=qi a.P a.O (a.dx n i) m} :=by unfold KA.ze;rw[if_neg og]
  rw[e1,e2,e3];exact⟨rfl,c,hc.same og rfl,rfl⟩
set_option maxHeartbeats 8000000 in
def WN(a:KA)(b:KZ)(c:KC)(N:Nat)(T:Int)(ho:a.Ok T)(hc:cK a c N T)(hT:T<=800000)(n i:Int)(x:ByteArray)(hx:x.size<=1000000):Spec Tryz.prog 21 [az b.kb 0 0,iI n,iI i,.string x] (cW a b c [.ro 0 0 32 dw]) (fun v H1=>v= .tuple #[iI (a.Ar c.F.toFF n i x),ay 102 (a.fc c.F.toFF n i x)]/\∃ c1:KC,cK (a.ql c.F.toFF n i x) c1 N (T+1)/\H1=(cW (a.ql c.F.toFF n i x) b c1 [])):=by
 refine Spec.go 41 [0,1,2,3,8,9,10,11,12,21,35] [] Tryz.func21 fun W=> ?_;refine cq (zn a b c ho.wk.fd n i) .h1 ?_;refine cd ?_ ?_<;>intro h1
 ·refine eH (pz 17) ?_;grind [aU,aS,bN,KA.fc,KA.Ar,KA.ql,cK.up]
 ·have It:a.eZ n i=0:=og;obtain⟨hn,hs,hi,hf,hv⟩:=KA.sy It;have Zc:=ho.wk.fd n i;apply ld .aa (gM _);refine ca (ZD _ _ _ _ _ T og ho.wk.OI c.F (hc.F.sh og) T og _ ho.wk.PI (a.dx n i) x hx) (pk [14,9,9,9,10]) ?_;rintro _ _ ⟨rfl,F1,NI,SH,GF,rfl⟩;have hcf:cK (a.uK c.F.toFF n i x) {c with F:=F1} N (T+1):=⟨hc.qO,hc.qR,(by show F1.toFF.Ok _ _;rw[NI];exact NJ hc.F _ _ _),SH.trans hc.rp,GF.trans hc.rc,(by show F1.toFF.roots=_;rw[NI,E2];exact hc.rl),hc.tb,hc.tk⟩;apply gO;refine XO.v (Oc rfl rfl dq Tryz.underlying33 PK rfl Tryz.underlying102 rfl) rfl (gO ?_);refine cd ?_ ?_<;>intro h2
  ·refine xG 17 (WJ (a.uK c.F.toFF n i x) b {c with F:=F1} N (T+1) (ho.Gn og c.F.toFF n i x).wk hcf og n 2 false ((ho.Gn og c.F.toFF n i x).hx.any n)) (pk (rr 9 5 [1,1,1,2,1,0,0,0,0])) rfl ?_;rintro _ _ ⟨c1,gj,rfl⟩;apply gO;refine eH (pz 17) ?_;try dsimp only[aU,aS,bG,bN]
   grind [KA.fc,KA.Ar,KA.ql]
  ·refine bA rfl rfl rfl (ah (pk (rr 9 5 [1,1,1,2,1,0,0,0])) rfl ?_);have e1:a.fc c.F.toFF n i x=(iQ c.F.toFF a.P a.O (a.dx n i) x):=by unfold KA.fc;rw[if_neg og]
   have e2:a.Ar c.F.toFF n i x=jv c.F.toFF a.P a.O (a.dx n i) x:=by unfold KA.Ar;rw[if_neg og]
   have e3:a.ql c.F.toFF n i x=a.uK c.F.toFF n i x:=by unfold KA.ql;rw[if_neg og,if_neg og]
   rw[e1,e2,e3];exact⟨rfl,_,hcf,rfl⟩
def ZT(a:KA)(b:KZ)(c:KC)(N:Nat)(T:Int)(ho:a.Ok T)(hc:cK a c N T)(hT:T<=800000)(n i z:Int):Spec Tryz.prog 165 [az b.kb 0 0,iI n,iI i,iI z] (cW a b c []) (fun v H1=>v=ay 102 (a.nF n i z)/\∃ c1:KC,cK (a.wz n i z) c1 N (T+1)/\H1=(cW (a.wz n i z) b c1 [])):=by
 refine Spec.go 28 [0,1,2,3,8,9,10,19] [] Tryz.func165 fun W=> ?_;refine cq (zn a b c ho.wk.fd n i) .h1 ?_;refine cd ?_ ?_<;>intro h1
 ·refine bI (pz 17) ?_;have e1:a.nF n i z=a.eZ n i:=by unfold KA.nF;rw[if_pos og]
  have e3:a.wz n i z=a:=by unfold KA.wz;rw[if_pos og]
  rw[e1,e3];exact⟨rfl,c,hc.up (Nat.le_refl _) og,rfl⟩
 ·have It:a.eZ n i=0:=og;obtain⟨hn,hs,hi,hf,hv⟩:=KA.sy It;have Zc:=ho.wk.fd n i;apply ld .aa (gM _);refine cq (adI _ _ _ _ _ (a.dx n i) z) (pk [14]) ?_;refine aO rfl rfl (ah (pk (rr 14 1 [0,0,0])) rfl ?_);have e1:a.nF n i z=Tr.nF a.O (a.dx n i) z:=by unfold KA.nF;rw[if_neg og]
  have e3:a.wz n i z= {a with O:=wo a.O (a.dx n i) z,P:=a.P} :=by unfold KA.wz;rw[if_neg og]
  rw[e1,e3];exact⟨rfl,c,hc.same og rfl,rfl⟩
open Go.X.Fa Go.X.Gr Go.X.Vm
def adY(a:KA)(b:KZ)(c:KC)(N:Nat)(T:Int)(ho:a.Ok T)(hc:cK a c N T)(hT:T<=800000)(n f m:Int)(w:Bool):Spec Tryz.prog 79 [az b.kb 0 0,iI n,iI f,iI m,.bool w] (cW a b c []) (fun v H1=>v=ay 102 (a.qe n f m)/\∃ c1:KC,cK (a.DZ n f m w) c1 N T/\H1=(cW (a.DZ n f m w) b c1 [])):=by
 refine Spec.go 30 [0,1,2,3,4,10,11,12,20] [] Tryz.func79 fun W=> ?_;refine ca (eW b.kb (kp a b c) n) .h1 ?_;rintro _ _ ⟨⟨hl,rfl⟩ | ⟨hl,rfl⟩,rfl⟩
 ·obtain⟨jV,ic⟩:=bJ hl;have hl:a.aA n=0:=hl;have ic:(a.u n).st=1:=ic;have lO:=pw a b c (n:=n);have LF:=ho.wk.sys.mo n.toNat og;refine gO ?_;refine XR.mono (fun _ bL=>kA (z:=n.toNat) (fD jV) (pk [7,7]) bL) ?_;refine ld (.t4 .aa) (dt _ og lO) ?_;refine ca (agn b.bb _ _ _ (a.f n.toNat) LF _ _ _) (pz 2) ?_;rintro _ _ ⟨rfl,pu,cu,rfl⟩;refine gO ?_;refine XR.mono (fun _ bL=>l8 ((a.f n.toNat).map f m w) (fD jV) (pz 4) bL) ?_;refine aO rfl rfl (ah (pk (rr 7 2 (rr 10 0 []))) rfl ?_);have e1:a.qe n f m=(a.f n.toNat).qe f m:=by unfold KA.qe;rw[if_neg og]
  have e2:a.DZ n f m w= {a with v:=a.v,f:=aJ a.f n.toNat ((a.f n.toNat).map f m w),g:=a.g} :=by unfold KA.DZ;rw[if_neg og]
  rw[e1,e2];exact⟨rfl,{c with pp:=aJ c.pp n.toNat pu,cc:=aJ c.cc n.toNat cu},⟨hc.qO,hc.qR,hc.F,hc.rp,hc.rc,hc.rl,hc.tb,hc.tk⟩,rfl⟩
 ·have hl:a.aA n≠0:=hl;have jd:(kp a b c).aA n=a.aA n:=rfl;rw[jd];refine gO ?_;refine bI (pz 17) ?_;grind [aU,aS,KA.qe,KA.DZ,ay]
def NK(a:KA)(b:KZ)(c:KC)(N:Nat)(T:Int)(ho:a.Ok T)(hc:cK a c N T)(hT:T<=800000)(n f m:Int)(w:Bool):Spec Tryz.prog 80 [az b.kb 0 0,iI n,iI f,iI m,.bool w] (cW a b c []) (fun v H1=>v=ay 102 (a.kV n f m)/\∃ c1:KC,cK (a.uL n f m w) c1 N T/\H1=(cW (a.uL n f m w) b c1 [])):=by
 refine Spec.go 30 [0,1,2,3,4,10,11,12,20] [] Tryz.func80 fun W=> ?_;refine ca (eW b.kb (kp a b c) n) .h1 ?_;rintro _ _ ⟨⟨hl,rfl⟩ | ⟨hl,rfl⟩,rfl⟩
 ·obtain⟨jV,ic⟩:=bJ hl;have hl:a.aA n=0:=hl;have ic:(a.u n).st=1:=ic;have lO:=pw a b c (n:=n);have LF:=ho.wk.sys.mo n.toNat og;refine gO ?_;refine XR.mono (fun _ bL=>kA (z:=n.toNat) (fD jV) (pk [7,7]) bL) ?_;refine ld (.t4 .aa) (dt _ og lO) ?_;refine ca (RT b.bb _ _ _ (a.f n.toNat) LF _ _ _) (pz 2) ?_;rintro _ _ ⟨rfl,pu,cu,rfl⟩;refine gO ?_;refine XR.mono (fun _ bL=>l8 ((a.f n.toNat).mz f m w) (fD jV) (pz 4) bL) ?_;refine aO rfl rfl (ah (pk (rr 7 2 (rr 10 0 []))) rfl ?_);have e1:a.kV n f m=(a.f n.toNat).kV f m:=by unfold KA.kV;rw[if_neg og]
  have e2:a.uL n f m w= {a with v:=a.v,f:=aJ a.f n.toNat ((a.f n.toNat).mz f m w),g:=a.g} :=by unfold KA.uL;rw[if_neg og]
  rw[e1,e2];exact⟨rfl,{c with pp:=aJ c.pp n.toNat pu,cc:=aJ c.cc n.toNat cu},⟨hc.qO,hc.qR,hc.F,hc.rp,hc.rc,hc.rl,hc.tb,hc.tk⟩,rfl⟩
 ·have hl:a.aA n≠0:=hl;have jd:(kp a b c).aA n=a.aA n:=rfl;rw[jd];refine gO ?_;refine bI (pz 17) ?_;grind [aU,aS,KA.kV,KA.uL,ay]
def WO(a:KA)(b:KZ)(c:KC)(N:Nat)(T:Int)(ho:a.Ok T)(hc:cK a c N T)(hT:T<=800000)(n f m:Int):Spec Tryz.prog 42 [az b.kb 0 0,iI n,iI f,iI m] (cW a b c []) (fun v H1=>v=ay 102 (a.jx n f m)/\∃ c1:KC,cK (a.dC n f m) c1 N T/\H1=(cW (a.dC n f m) b c1 [])):=by
 refine Spec.go 44 [0,1,2,3,8,9,10,11,19,32] [] Tryz.func42 fun W=> ?_;refine ca (eW b.kb (kp a b c) n) .h1 ?_;rintro _ _ ⟨⟨hl,rfl⟩ | ⟨hl,rfl⟩,rfl⟩
 ·obtain⟨jV,ic⟩:=bJ hl;have hl:a.aA n=0:=hl;have ic:(a.u n).st=1:=ic;have lO:=pw a b c (n:=n);have LF:=ho.wk.sys.mo n.toNat og;refine gO ?_;refine XR.mono (fun _ bL=>kA (z:=n.toNat) (fD jV) (pk [7,7]) bL) ?_;refine ld (.t4 .aa) (dt _ og lO) ?_;refine ca (K6 b.bb b.vp (c.mb n.toNat) a.v ho.wk.sys.ja.ok _ _ (a.f n.toNat) LF (ho.wk.sys.In og) f m) (pk [9,9,0,0]) ?_;rintro _ _ ⟨rfl,pu,cu,rfl⟩;refine gO ?_;refine XR.mono (fun _ bL=>l8 (a.rA n f m).2.2.2 (fD jV) (pk [2,2,2,2]) bL) ?_;refine cd ?_ ?_<;>intro h1
  ·have hu:(a.rA n f m).2.1≠0:=h1;refine aO rfl rfl (ah (pk (4::4::4::4::4::2::2::rr 10 0 [])) rfl ?_);have e1:a.jx n f m=(a.rA n f m).2.1:=by unfold KA.jx;rw[if_neg og,if_pos hu]
   have e2:a.dC n f m= {a with v:=(a.rA n f m).2.2.1,f:=aJ a.f n.toNat (a.rA n f m).2.2.2,g:=a.g} :=by unfold KA.dC;rw[if_neg og,if_pos hu]
   rw[e1,e2];exact⟨rfl,{c with pp:=aJ c.pp n.toNat pu,cc:=aJ c.cc n.toNat cu},⟨hc.qO,hc.qR,hc.F,hc.rp,hc.rc,hc.rl,hc.tb,hc.tk⟩,rfl⟩
  ·have hu:¬(a.rA n f m).2.1≠0:=h1;refine rq [0,1,2,3,4,5,6,7,8,9,10] mixed (ld (.t4 .aa) (eS _) (ld (.t4 .aa) (dB _) ?_));refine cq (nc _ _ a.g ho.wk.gI.ok _ _ _ (1000*T) (by have:=ho.wk.T0;omega) ho.wk.gS) (pk [5]) ?_;refine aO rfl rfl (ah (pk (5::0::4::4::4::2::2::rr 10 0 [])) rfl ?_);have e1:a.jx n f m=a.g.fP (a.u n).cL 0 (a.rA n f m).1:=by unfold KA.jx;rw[if_neg og,if_neg hu]
   have e2:a.dC n f m= {a with v:=(a.rA n f m).2.2.1,f:=aJ a.f n.toNat (a.rA n f m).2.2.2,g:=a.g.dz (a.u n).cL 0 (a.rA n f m).1} :=by unfold KA.dC;rw[if_neg og,if_neg hu]
   rw[e1,e2];exact⟨rfl,{c with pp:=aJ c.pp n.toNat pu,cc:=aJ c.cc n.toNat cu},⟨hc.qO,hc.qR,hc.F,hc.rp,hc.rc,hc.rl,hc.tb,hc.tk⟩,rfl⟩
 ·have hl:a.aA n≠0:=hl;have jd:(kp a b c).aA n=a.aA n:=rfl;rw[jd];refine gO ?_;refine bI (pz 17) ?_;grind [aU,aS,KA.jx,KA.dC,ay]
def WQ(a:KA)(b:KZ)(c:KC)(N:Nat)(T:Int)(ho:a.Ok T)(hc:cK a c N T)(hT:T<=800000)(n:Int)(o:Bool):Spec Tryz.prog 87 [az b.kb 0 0,iI n,.bool o] (cW a b c []) (fun v H1=>∃ (e:Int) (c1:KC),v=ay 102 e/\cK a c1 N T/\H1=(cW a b c1 [])):=by
 refine Spec.go 26 [0,1,2,6,8,16] [] Tryz.func87 fun W=> ?_;refine ca (eW b.kb (kp a b c) n) .h1 ?_;rintro _ _ ⟨⟨hl,rfl⟩ | ⟨hl,rfl⟩,rfl⟩
 ·obtain⟨jV,ic⟩:=bJ hl;have hl:a.aA n=0:=hl;have ic:(a.u n).st=1:=ic;refine gO ?_;refine ld .aa (eT _) ?_;refine ca (H5 _ _ c.q c.d hc.qO.inv hc.qR n _) (pk [3,3]) ?_;rintro _ _ ⟨rfl,q2,tm,zq,rfl⟩;refine gO ?_;refine aO rfl rfl (ah (pk (2::2::2::rr 14 0 [])) rfl ?_);exact⟨_,{c with q:=q2},rfl,⟨(by show q2.toSF.Ok _ _ _;rw[tm];exact hc.qO.gq _ _),zq,hc.F,hc.rp,hc.rc,hc.rl,hc.tb,fun m m0 m1 hm=>hc.tk m m0 m1 (by have hm:q2.toSF.aa (10+m)=true:=hm;rw[tm,Fa.SF.qP]at hm;exact hm)⟩,rfl⟩
 ·have hl:a.aA n≠0:=hl;have jd:(kp a b c).aA n=a.aA n:=rfl;rw[jd];refine gO ?_;refine bI (pz 17) ?_;exact⟨a.aA n,c,(aK _ hl).symm,hc,rfl⟩
def R7(a:KA)(b:KZ)(c:KC)(N:Nat)(T:Int)(ho:a.Ok T)(hc:cK a c N T)(hT:T<=800000)(z:Int):Spec Tryz.prog 229 [az b.kb 0 0,iI z] (cW a b c []) (fun v H1=>v=iI (a.iL z)/\H1=(cW a b c [])):=by
 refine Spec.go 47 [0,1,4,5,6,7,8,9,10,12,35,43] [] Tryz.func229 fun W=> ?_;refine lp (σ:=Int×Int×Int) (fun x=>(20-x.1).toNat) (fun x=>(1<=x.1/\x.1<=20)/\x.2=a.BN z x.1.toNat) (fun x=>[(7,iI x.1),(5,iI x.2.1),(6,iI x.2.2),(0,az b.kb 0 0),(1,iI z)]) (fun x=>XM W (cm (cW a b c [])) (cW a b c [])) ((1,-1,0)) ?_ S5 (xq (pz 17)) ?_
 ·exact⟨sq,rfl⟩
 intro x hx;obtain⟨hi,wE⟩:=hx;refine gC ?_;refine cd ?_ ?_<;>intro h1
 ·refine ca (eW b.kb (kp a b c) x.1) .h1 ?_;rintro _ _ ⟨⟨hl,rfl⟩ | ⟨hl,rfl⟩,rfl⟩
  ·obtain⟨jV,ic⟩:=bJ hl;have hl:a.aA x.1=0:=hl;have ic:(a.u x.1).st=1:=ic;have lO:=pw a b c (n:=x.1);have LF:=ho.wk.sys.mo x.1.toNat og;refine gO ?_;refine rq [0,1,2,3,4,5,6,7,8,9,10,11,12,13,14] mixed (ld .aa (eS _) (ld .aa (dB _) ?_));refine cq (Zm _ _ a.g ho.wk.gI.ok (a.u x.1).cL z) (pk [1]) ?_;refine wM ?_ ?_<;>intro h2
   ·try simp only[sb]at h2
    have Xp:a.g.under (a.u x.1).cL z=false:=by simpa using h2
    refine sd (ag ((x.1+1,x.2)) ?_ ?_ S5 (xq (pk (1::rr 16 0 []))));all_goals grind [oy]
   ·try simp only[sb]at h2
    have Xp:a.g.under (a.u x.1).cL z=true:=by simpa using h2
    refine XR.mono (fun _ bL=>kA (z:=x.1.toNat) (fD jV) (pk [7,7]) bL) ?_;refine ld (.t5 .aa) (dt _ og lO) ?_;refine cq (sJ b.bb _ _ _ (a.f x.1.toNat) LF) .h1 ?_;refine XR.mono (fun _ bL=>pf (f:=a.f) (z:=x.1.toNat) (ps:=c.pp) (cs:=c.cc) (mb:=c.mb) (fD jV) (pz 4) bL) ?_;refine cd ?_ ?_<;>intro h3
    ·have hgt:x.2.2<a.gk x.1:=h3;refine sd (ag ((x.1+1,x.1,a.gk x.1)) ?_ ?_ S5 (xq (pk (3::rr 6 2 (rr 10 0 [])))));all_goals grind [oy]
    ·have hgt:¬x.2.2<a.gk x.1:=h3;refine sd (ag ((x.1+1,x.2)) ?_ ?_ S5 (xq (pk (3::rr 6 2 (rr 10 0 [])))));all_goals grind [oy]
  ·have hl:a.aA x.1≠0:=hl;have jd:(kp a b c).aA x.1=a.aA x.1:=rfl;rw[jd];refine gO ?_;refine rq [0,1,2,3,4,5,6,7,8,9,10,11,12,13,14] mixed (sd (ag ((x.1+1,x.2)) ?_ ?_ S5 (xq (pz 17))));all_goals grind [oy]
 ·refine bI (pz 17) ?_;grind [aU,aS,KA.iL]
set_option maxHeartbeats 8000000 in
def R8(a:KA)(b:KZ)(c:KC)(N:Nat)(T:Int)(ho:a.Ok T)(hc:cK a c N T)(hT:T<=800000)(n:Int):Spec Tryz.prog 201 [az b.kb 0 0,iI n] (cW a b c [.ro 0 0 32 dw]) (fun v H1=>v=ay 102 (a.cx n).1/\∃ c1:KC,cK (a.cx n).2 c1 N (T+1)/\H1=[.cells b.kb 0 453 (aG (kp (a.cx n).2 b c1)),.cells b.gb 0 60 (bH (a.cx n).2.g),.cells b.sb 0 158 (Sp.aL (a.cx n).2.s),.cells b.qb 0 2281 (aH c1.q),.aW ck (SC.dg 254 c1.q),.cells b.bb 0 577 (dM b.vp (a.cx n).2.v.fR (a.cx n).2.v.rf),.cells b.vp 0 71 (Vm.bO (a.cx n).2.v.bb.fp),.dR (jg (a.cx n).2) c1.mb 34 (cN b.bb (a.cx n).2.f c1.pp c1.cc),.aW (jg (a.cx n).2) (rN 171 (a.cx n).2.f c1.pp c1.cc),.cells b.tb 0 321 (aC c1.F),.aW au (FC.bd 9 c1.F),.aW au (FC.bh 3 c1.F),dh c1.rp c1.rc 3 c1.rl,.cells b.pi 0 24 (Tr.bO (a.cx n).2.P),.cells b.ob 0 122 (bu b.tb b.pi (a.cx n).2.O),.dR (lu (a.cx n).2) (fun z=>(c1.t z).b) 4 (cT b.tb c1.t),.aW (lu (a.cx n).2) (rT 168 c1.t)]):=by
 refine Spec.go 51 [0,1,4,5,6,7,8,9,17,32,46] [] Tryz.func201 fun W=> ?_;refine lp (σ:=Nat×KA×KC) (fun x=>x.1) (fun x=>x.2.1.Ok T/\cK x.2.1 x.2.2 N T/\x.2.1.lvC<x.1/\x.2.1.kt n x.1=a.kt n 21) (fun x=>[(0,az b.kb 0 0),(1,iI n)]) (fun x=>XM W (cm (cW a b c [.ro 0 0 32 dw])) (cW x.2.1 b x.2.2 [.ro 0 0 32 dw])) ((21,a,c)) ?_ S2 (xq (pz 18)) ?_
 ·exact⟨ho,hc,by have:=a.OZ;show a.lvC<21;omega,rfl⟩
 intro x hx;obtain⟨R9,ZH,hxn,hxr⟩:=hx;have Iy:=x.2.1.OZ;obtain⟨k,hk⟩:∃ k,x.1=k+1:=⟨x.1-1,og⟩;apply gC;refine ca (eW b.kb (kp x.2.1 b x.2.2) n) .h1 ?_;rintro _ _ ⟨⟨hl,rfl⟩ | ⟨hl,rfl⟩,rfl⟩
 ·obtain⟨jV,ic⟩:=bJ hl;have hl:x.2.1.aA n=0:=hl;apply gO;refine rq [0,1,2,3,4,5,6,7,8,9,10,11,12,13] mixed (ld .aa (eS _) (ld .aa (dB _) ?_));refine cq (Zn _ _ x.2.1.g R9.wk.gI.ok (x.2.1.u n).cL 0 1 (1000*T) (by have:=R9.wk.T0;omega) R9.wk.gS) (pk [1]) ?_;refine wM ?_ ?_<;>intro h1
  ·try simp only[sb]at h1
   have jd:(x.2.1.iM n)=none:=by
    simp_all[KA.iM]
   refine rq [0,1,2,3,4,5,6,7,8,9] mixed (ld (.ao .aa) (eS _) (ld (.ao .aa) (dB _) ?_));refine cq (uR _ _ x.2.1.g R9.wk.gI.ok (x.2.1.u n).cL 0 1 (1000*T) (by have:=R9.wk.T0;omega) R9.wk.gS) .h1 ?_;refine bI (pk (1::rr 16 0 [])) ?_;have e1:a.cx n=(x.2.1.g.cY (x.2.1.u n).cL 0 1,{x.2.1 with v:=x.2.1.v,f:=x.2.1.f,g:=x.2.1.g.bE (x.2.1.u n).cL 0 1}):=by
    grind [KA.kt,KA.cx]
   rw[e1];exact⟨rfl,x.2.2,ZH.same og rfl,rfl⟩
  ·try simp only[sb]at h1
   have jd:∃ z,(x.2.1.iM n)=some z:=by
    grind [Option.isSome_iff_exists,KA.iM]
   obtain⟨z,hz⟩:=jd;have hzg:(x.2.1.g.iM (x.2.1.u n).cL 0 1).getD 0=z:=by rw[show x.2.1.g.iM (x.2.1.u n).cL 0 1=some z from hz];rfl
   refine cq (R7 x.2.1 b x.2.2 N T R9 ZH og _) (pk (1::rr 16 0 [])) ?_;refine cd ?_ ?_<;>intro h2
   ·have hvn:x.2.1.iL z<0:=by rw[<-hzg];exact h2
    refine bI (pz 17) ?_;try dsimp only[aU,aS,bG,bN]
    grind [KA.cx,KA.kt,cK.up,ay]
   ·have hvn:¬x.2.1.iL z<0:=by rw[<-hzg];exact h2
    have aiU:=sG hvn;have hvo:1<=x.2.1.iL ((x.2.1.g.iM (x.2.1.u n).cL 0 1).getD 0)/\x.2.1.aA (x.2.1.iL ((x.2.1.g.iM (x.2.1.u n).cL 0 1).getD 0))=0:=by rw[hzg];exact aiU
    refine xG 17 (Cg x.2.1 b x.2.2 N T R9.wk ZH og _ 137 (aR hvo.2).2 (R9.hx.any _)) (pz 18) rfl ?_;rintro _ _ ⟨c1,gj,rfl⟩;apply gO;refine ag ((k,x.2.1.dc (x.2.1.iL ((x.2.1.g.iM (x.2.1.u n).cL 0 1).getD 0)) 137,c1)) ?_ ?_ S2 (xq (pz 18))
    ·omega
    ·refine⟨R9.wk.DL R9.r0 R9.d0 og (aR hvo.2).2 (R9.hx.any _) 137,gj,?_,?_⟩
     ·have:=Ru (a:=x.2.1) (co:=137) (aR hvo.2).1 (aR hvo.2).2;grind
     grind [KA.kt]
 ·have hl:x.2.1.aA n≠0:=hl;apply gO;refine bI (pz 17) ?_;try dsimp only[aU,aS,bG,bN]
  grind [KA.cx,KA.kt,cK.up,ay]
theorem NL(v:VB)(m:Vm.MS)(a:Int):(m.load v a).2.2.2.ax=m.ax:=by
 by_cases e:(m.bF v a false).2.1=0
 ·rw[Vm.MS.yA e];exact Vm.MS.yz v m a false
 ·rw[Vm.MS.ui e];exact Vm.MS.yz v m a false
theorem Lc(v:VB)(m:Vm.MS)(a b:Int):(m.store v a b).2.2.ax=m.ax:=by
 by_cases e:(m.bF v a true).2.1=0
 ·rw[Vm.MS.uj e];exact Vm.MS.yz v m a true
 ·rw[Vm.MS.q7 e];exact Vm.MS.yz v m a true
def ZU(kb pb mb:Nat)(v:VB)(hv:v.Ok)(p:Option Addr)(c:Nat)(m:Vm.MS)(hm:m.Ok)(a:Int):Spec Tryz.prog 151 [az mb 0 0,iI a] [.cells kb 0 577 (dM pb v.fR v.rf),.cells pb 0 71 (Vm.bO v.bb.fp),.cells mb 0 34 (b6 kb p (ai m.ax).length c m.fr m.aX),aM p c 171 3 (ai m.ax).length (fh (ai m.ax)),.ro 1 0 64 gL] (fun x H1=>x= .tuple #[.int .u8 (m.load v a).1,ay 102 (m.load v a).2.1]/\H1=[.cells kb 0 577 (dM pb (m.load v a).2.2.1.fR (m.load v a).2.2.1.rf),.cells pb 0 71 (Vm.bO (m.load v a).2.2.1.bb.fp),.cells mb 0 34 (b6 kb p (ai (m.load v a).2.2.2.ax).length c (m.load v a).2.2.2.fr (m.load v a).2.2.2.aX),aM p c 171 3 (ai (m.load v a).2.2.2.ax).length (fh (ai (m.load v a).2.2.2.ax))]):=(adr kb pb mb v hv p c m hm a).SZ fun _ _ h=>by rw[NL];exact h
def WR(kb pb mb:Nat)(v:VB)(hv:v.Ok)(p:Option Addr)(c:Nat)(m:Vm.MS)(hm:m.Ok)(a b:Int):Spec Tryz.prog 153 [az mb 0 0,iI a,.int .u8 b] [.cells kb 0 577 (dM pb v.fR v.rf),.cells pb 0 71 (Vm.bO v.bb.fp),.cells mb 0 34 (b6 kb p (ai m.ax).length c m.fr m.aX),aM p c 171 3 (ai m.ax).length (fh (ai m.ax)),.ro 1 0 64 gL] (fun x H1=>x=ay 102 (m.store v a b).1/\H1=[.cells kb 0 577 (dM pb (m.store v a b).2.1.fR (m.store v a b).2.1.rf),.cells pb 0 71 (Vm.bO (m.store v a b).2.1.bb.fp),.cells mb 0 34 (b6 kb p (ai (m.store v a b).2.2.ax).length c (m.store v a b).2.2.fr (m.store v a b).2.2.aX),aM p c 171 3 (ai (m.store v a b).2.2.ax).length (fh (ai (m.store v a b).2.2.ax))]):=(Zv kb pb mb v hv p c m hm a b).SZ fun _ _ h=>by rw[Lc];exact h
def ZV(a:KA)(b:KZ)(c:KC)(N:Nat)(T:Int)(ho:a.Ok T)(hc:cK a c N T)(hT:T<=900000)(n:Int)(hl:a.aA n=0)(ab xb:Nat)(x y:Int):Spec Tryz.prog 150 [az b.kb 0 (0+0+n.toNat*22),az ab 0 0,az xb 0 0] (cW a b c [.cells ab 0 1 (aB (iI x)),.cells xb 0 1 (aB (.int .u8 y)),.ro 1 0 64 gL]) (fun v H1=>v=ay 102 ((Rv n x).e a)/\∃ c1:KC,cK ((Rv n x).A a) c1 N T/\H1=(cW ((Rv n x).A a) b c1 [.cells ab 0 1 (aB (iI x)),.cells xb 0 1 (aB (.int .u8 ((Rv n x).y a)))])):=by
 obtain⟨hn,ic⟩:=aR hl;have lO:=pw a b c (n:=n);have LF:=ho.wk.sys.mo n.toNat og;refine Spec.go 16 [0,1,2,4,5] [] Tryz.func150 fun W=> ?_;apply XR.mono fun _ bL=>kA (z:=n.toNat) (fD hn) (pk [7,7]) bL;refine rq [0,1,2,3,4,5,6,7,8,9,10] mixed ?_;apply ld (.t4 .aa) (dt _ og lO);apply ld (.lH (.t7 .aa)) (aB.ld _);refine Iv 4 (ZU b.bb b.vp (c.mb n.toNat) a.v ho.wk.sys.ja.ok _ _ (a.f n.toNat) LF x) (pk [9,9,0,0,17]) rfl ?_;apply st (.lH (.t9 .aa)) (aB.st _ _) rfl;apply XR.mono fun _ bL=>l8 ((a.f n.toNat).load a.v x).2.2.2 (fD hn) (pk [2,2,3,3]) bL;refine aO rfl rfl (ah (pk [5,5,5,5,5,2,2,0,0,1,1,1,1,1,1,1,1,1,1]) rfl ?_);exact⟨rfl,{c with pp:=aJ c.pp n.toNat (c.pp n.toNat),cc:=aJ c.cc n.toNat (c.cc n.toNat)},⟨hc.qO,hc.qR,hc.F,hc.rp,hc.rc,hc.rl,hc.tb,hc.tk⟩,rfl⟩
def WS(a:KA)(b:KZ)(c:KC)(N:Nat)(T:Int)(ho:a.Ok T)(hc:cK a c N T)(hT:T<=900000)(n:Int)(hl:a.aA n=0)(ab xb:Nat)(x y:Int):Spec Tryz.prog 152 [az b.kb 0 (0+0+n.toNat*22),az ab 0 0,az xb 0 0] (cW a b c [.cells ab 0 1 (aB (iI x)),.cells xb 0 1 (aB (.int .u8 y)),.ro 1 0 64 gL]) (fun v H1=>v=ay 102 ((LC n x y).e a)/\∃ c1:KC,cK ((LC n x y).A a) c1 N T/\H1=(cW ((LC n x y).A a) b c1 [.cells ab 0 1 (aB (iI x)),.cells xb 0 1 (aB (.int .u8 ((LC n x y).y a)))])):=by
 obtain⟨hn,ic⟩:=aR hl;have lO:=pw a b c (n:=n);have LF:=ho.wk.sys.mo n.toNat og;refine Spec.go 12 [0,1,2,4] [] Tryz.func152 fun W=> ?_;apply XR.mono fun _ bL=>kA (z:=n.toNat) (fD hn) (pk [7,7]) bL;refine rq [0,1,2,3,4,5,6,7] mixed ?_;apply ld (.t4 .aa) (dt _ og lO);apply ld (.lH (.t7 .aa)) (aB.ld _);apply ld (.lH (.t8 .aa)) (aB.ld _);refine Iv 4 (WR b.bb b.vp (c.mb n.toNat) a.v ho.wk.sys.ja.ok _ _ (a.f n.toNat) LF x y) (pk [9,9,0,0,17]) rfl ?_;apply XR.mono fun _ bL=>l8 ((a.f n.toNat).store a.v x y).2.2 (fD hn) (pk [2,2,3,3]) bL;refine aO rfl rfl (ah (pk [5,5,5,5,5,2,2,0,0,1,1,1,1,1,1,1,1,1,1]) rfl ?_);exact⟨rfl,{c with pp:=aJ c.pp n.toNat (c.pp n.toNat),cc:=aJ c.cc n.toNat (c.cc n.toNat)},⟨hc.qO,hc.qR,hc.F,hc.rp,hc.rc,hc.rl,hc.tb,hc.tk⟩,rfl⟩
set_option maxHeartbeats 8000000 in
def Ld(a:KA)(b:KZ)(c:KC)(N:Nat)(T:Int)(ho:a.Ok T)(hc:cK a c N T)(hT:T<=800000)(n x:Int)(w:Bool)(D:TD)(y:Int)(ab xb:Nat)(hA:∀ {b:KA} {S:Int},b.Ok S->b.aA n=0->(D.A b).Ok S)(fd:Nat)(Iw:cX Tryz.prog fd=true)(hd:∀ (a1:KA) (c1:KC),a1.Ok (T+1)->cK a1 c1 N (T+1)->a1.aA n=0->Spec Tryz.prog fd [az b.kb 0 (0+0+n.toNat*22),az ab 0 0,az xb 0 0] (cW a1 b c1 [.cells ab 0 1 (aB (iI x)),.cells xb 0 1 (aB (.int .u8 y)),.ro 1 0 64 gL]) (fun v H1=>v=ay 102 (D.e a1)/\∃ c2:KC,cK (D.A a1) c2 N (T+1)/\H1=(cW (D.A a1) b c2 [.cells ab 0 1 (aB (iI x)),.cells xb 0 1 (aB (.int .u8 (D.y a1)))]))):Spec Tryz.prog 149 [az b.kb 0 0,iI n,iI x,.bool w,.func (.func fd) #[] #[az ab 0 0,az xb 0 0]] (cW a b c [.cells ab 0 1 (aB (iI x)),.cells xb 0 1 (aB (.int .u8 y)),.ro 0 0 32 dw,.ro 1 0 64 gL]) (fun v H1=>v=ay 102 (a.iP n x w D y).1/\∃ c1:KC,cK (a.iP n x w D y).2.1 c1 N (T+1)/\H1=[.cells b.kb 0 453 (aG (kp (a.iP n x w D y).2.1 b c1)),.cells b.gb 0 60 (bH (a.iP n x w D y).2.1.g),.cells b.sb 0 158 (Sp.aL (a.iP n x w D y).2.1.s),.cells b.qb 0 2281 (aH c1.q),.aW ck (SC.dg 254 c1.q),.cells b.bb 0 577 (dM b.vp (a.iP n x w D y).2.1.v.fR (a.iP n x w D y).2.1.v.rf),.cells b.vp 0 71 (Vm.bO (a.iP n x w D y).2.1.v.bb.fp),.dR (jg (a.iP n x w D y).2.1) c1.mb 34 (cN b.bb (a.iP n x w D y).2.1.f c1.pp c1.cc),.aW (jg (a.iP n x w D y).2.1) (rN 171 (a.iP n x w D y).2.1.f c1.pp c1.cc),.cells b.tb 0 321 (aC c1.F),.aW au (FC.bd 9 c1.F),.aW au (FC.bh 3 c1.F),dh c1.rp c1.rc 3 c1.rl,.cells b.pi 0 24 (Tr.bO (a.iP n x w D y).2.1.P),.cells b.ob 0 122 (bu b.tb b.pi (a.iP n x w D y).2.1.O),.dR (lu (a.iP n x w D y).2.1) (fun z=>(c1.t z).b) 4 (cT b.tb c1.t),.aW (lu (a.iP n x w D y).2.1) (rT 168 c1.t),.cells ab 0 1 (aB (iI x)),.cells xb 0 1 (aB (.int .u8 (a.iP n x w D y).2.2))]):=by
 have hoc:=ho.bE og n;refine Spec.go 63 [0,1,2,3,4,10,11,12,13,21,30,38,43,52] [] Tryz.func149 fun W=> ?_;refine ca (eW b.kb (kp a b c) n) .h1 ?_;rintro _ _ ⟨⟨hl,rfl⟩ | ⟨hl,rfl⟩,rfl⟩
 ·obtain⟨jV,ic⟩:=bJ hl;have hl:a.aA n=0:=hl;have ic:(a.u n).st=1:=ic;have lO:=pw a b c (n:=n);have LF:=ho.wk.sys.mo n.toNat og;refine gO ?_;refine XR.mono (fun _ bL=>kA (z:=n.toNat) (fD jV) (pk [7,7]) bL) ?_;refine ld (.t4 .aa) (dt _ og lO) ?_;refine cq (aa8 b.bb (c.mb n.toNat) _ _ (a.f n.toNat) LF x w) (pz 2) ?_;refine XR.mono (fun _ bL=>pf (f:=a.f) (z:=n.toNat) (ps:=c.pp) (cs:=c.cc) (mb:=c.mb) (fD jV) (pz 4) bL) ?_;refine wM ?_ ?_<;>intro h1
  ·try simp only[sb]at h1
   have hm:(a.f n.toNat).sm x w=false:=by simpa using h1
   refine aO rfl rfl (ah (pk (rr 7 2 (rr 12 0 []))) rfl ?_);try dsimp only[aU,aS,bG,bN]
   grind [KA.iP,cK.up,ay]
  ·try simp only[sb]at h1
   have hm:(a.f n.toNat).sm x w=true:=by simpa using h1
   refine XR.mono (fun _ bL=>kA (z:=n.toNat) (fD jV) (pz 2) bL) ?_;refine ld (.t4 .aa) (dt _ og lO) ?_;refine cq (Zu b.bb (c.mb n.toNat) _ _ (a.f n.toNat) LF x) (pz 2) ?_;refine XR.mono (fun _ bL=>pf (f:=a.f) (z:=n.toNat) (ps:=c.pp) (cs:=c.cc) (mb:=c.mb) (fD jV) (pz 4) bL) ?_;refine wM ?_ ?_<;>intro h2
   ·try simp only[sb]at h2
    have hw:(a.f n.toNat).l5 x=true:=h2;refine xG 17 (R8 a b c N T ho hc og n) (pk (rr 7 2 (rr 10 0 [2]))) rfl ?_;rintro _ _ ⟨rfl,c1,gj,rfl⟩;refine gO ?_;refine cd ?_ ?_<;>intro h3
    ·have he:(a.cx n).1≠0:=h3;refine aO rfl rfl (ah (pk (rr 17 0 [1,1])) rfl ?_);grind [aU,aS,KA.iP]
    ·have he:(a.cx n).1=0:=by have h9:=h3;omega
     refine XO.TL (cs:=[az ab 0 0,az xb 0 0]) rfl rfl (hd (a.cx n).2 c1 (hoc.1) gj (hoc.2 he)) (pk (rr 17 0 [1,1,1])) Iw rfl ?_;rintro _ _ ⟨rfl,c2,Bv,rfl⟩;refine gO ?_;refine sp 50 rfl ?_ ?_<;>intro h4
     ·have hf:=h4;refine ahA rfl (hw) (rq [0,1,2,3,4,5,6,7,8] mixed ?_);have hoD:=hA hoc.1 (hoc.2 he);refine ld .aa (eS _) (ld .aa (dB _) ?_);refine cq (nc _ _ (D.A (a.cx n).2).g hoD.wk.gI.ok _ _ _ (1000*(T+1)) (by have:=hoD.wk.T0;omega) hoD.wk.gS) (pk [1]) ?_;refine bI (pk (1::rr 18 0 [])) ?_;try dsimp only[aU,aS,bG,bN]
      have e:(a.iP n x w D y)=(D.e (a.cx n).2,if D.e (a.cx n).2≠0 then(D.A (a.cx n).2).Xj n else D.A (a.cx n).2,D.y (a.cx n).2):=by unfold KA.iP;rw[if_neg (show ¬a.aA n≠0 by omega),if_neg (show ¬(a.f n.toNat).sm x w=false by rw[hm];decide),if_pos hw,if_neg (show ¬(a.cx n).1≠0 by omega)]
      rw[e];exact⟨rfl,c2,(by rw[if_pos hf];exact Bv.same (Int.le_refl _) rfl),by rw[if_pos hf];rfl⟩
     ·have hf:=h4;refine bI (pz 19) ?_;grind [aU,aS,KA.iP]
   ·try simp only[sb]at h2
    have hw:(a.f n.toNat).l5 x=false:=h2;refine XO.TL (cs:=[az ab 0 0,az xb 0 0]) rfl rfl (hd a c (ho.up og og) (hc.up (Nat.le_refl _) og) hl) (pk (rr 7 2 (rr 12 0 [1]))) Iw rfl ?_;rintro _ _ ⟨rfl,c2,Bv,rfl⟩;refine gO ?_;refine sp 50 rfl ?_ ?_<;>intro h5
    ·have hf:=h5;refine ahB rfl (hw) (aO rfl rfl (ah (pz 19) rfl ?_));grind [aU,aS,KA.iP]
    ·have hf:=h5;refine bI (pz 19) ?_;grind [aU,aS,KA.iP]
 ·have hl:a.aA n≠0:=hl;have jd:(kp a b c).aA n=a.aA n:=rfl;rw[jd];refine gO ?_;refine bI (pz 19) ?_;grind [aU,aS,KA.iP,aK,cK.up]
def pM{P:Program}{n:Fr}{L:PF}{ty:TypeId}{pos:String}{af:Array Edge}{d:Nat}{f:FuncId}{x y:Operand}{u v:Value}{φ:World->Prop}{gd:Option (Nat×Bool)}(hx:ev L x=some u)(hy:ev L y=some v):aZ P n L φ (⟨some d,.makeFunc (.func f) #[] #[x,y],ty,pos,af,gd⟩) (.func (.func f) #[] #[u,v]):=fun a w ha hw=>by
 simp[execOp,av ha hx,av ha hy,Instr.makeFunc]
set_option maxHeartbeats 8000000 in
def ZW(a:KA)(b:KZ)(c:KC)(N:Nat)(T:Int)(ho:a.Ok T)(hc:cK a c N T)(hT:T<=800000)(n x:Int):Spec Tryz.prog 81 [az b.kb 0 0,iI n,iI x] (cW a b c [.ro 0 0 32 dw,.ro 1 0 64 gL]) (fun v H1=>v= .tuple #[.int .u8 (a.eM n x).2.2,ay 102 (a.eM n x).1]/\∃ c1:KC,cK (a.eM n x).2.1 c1 N (T+1)/\H1=[.cells b.kb 0 453 (aG (kp (a.eM n x).2.1 b c1)),.cells b.gb 0 60 (bH (a.eM n x).2.1.g),.cells b.sb 0 158 (Sp.aL (a.eM n x).2.1.s),.cells b.qb 0 2281 (aH c1.q),.aW ck (SC.dg 254 c1.q),.cells b.bb 0 577 (dM b.vp (a.eM n x).2.1.v.fR (a.eM n x).2.1.v.rf),.cells b.vp 0 71 (Vm.bO (a.eM n x).2.1.v.bb.fp),.dR (jg (a.eM n x).2.1) c1.mb 34 (cN b.bb (a.eM n x).2.1.f c1.pp c1.cc),.aW (jg (a.eM n x).2.1) (rN 171 (a.eM n x).2.1.f c1.pp c1.cc),.cells b.tb 0 321 (aC c1.F),.aW au (FC.bd 9 c1.F),.aW au (FC.bh 3 c1.F),dh c1.rp c1.rc 3 c1.rl,.cells b.pi 0 24 (Tr.bO (a.eM n x).2.1.P),.cells b.ob 0 122 (bu b.tb b.pi (a.eM n x).2.1.O),.dR (lu (a.eM n x).2.1) (fun z=>(c1.t z).b) 4 (cT b.tb c1.t),.aW (lu (a.eM n x).2.1) (rT 168 c1.t)]):=by
 refine Spec.go 17 [0,1,5,6,7,8,9] [] Tryz.func81 fun W=> ?_;refine XO.box (m:=1) (C:=aB (iI x)) rfl rfl (fun _ _=>rfl) rfl ?_;intro ab;refine gO ?_;refine XO.bQ (z:=.int .u8 0) (m:=1) (C:=aB (.int .u8 0)) (fun _ _=>rfl) ?_;intro xb;refine gO ?_;refine st .aa (aB.st _ _) rfl (ld (.ao .aa) (aB.ld _) (XO.v (pM rfl rfl) rfl (gO ?_)));refine xG 19 (Ld a b c N T ho hc hT n x false (Rv n x) 0 ab xb (fun h q=>h.ld q x) 150 rfl fun a1 c1 h1 h2 h3=>ZV a1 b c1 N (T+1) h1 h2 og n h3 ab xb x 0) (pk (rr 17 2 [1,0,0,0])) rfl ?_;rintro _ _ ⟨rfl,c1,gj,rfl⟩;refine gO ?_;refine ld (.lH (.t6 .aa)) (aB.ld _) (bA rfl rfl rfl (ah (pz 17) rfl ?_));grind [aU,aS,KA.eM]
set_option maxHeartbeats 8000000 in
def WT(a:KA)(b:KZ)(c:KC)(N:Nat)(T:Int)(ho:a.Ok T)(hc:cK a c N T)(hT:T<=800000)(n x y:Int)(hy:0<=y/\y<256):Spec Tryz.prog 82 [az b.kb 0 0,iI n,iI x,.int .u8 y] (cW a b c [.ro 0 0 32 dw,.ro 1 0 64 gL]) (fun v H1=>v=ay 102 (a.dW n x y).1/\∃ c1:KC,cK (a.dW n x y).2.1 c1 N (T+1)/\H1=[.cells b.kb 0 453 (aG (kp (a.dW n x y).2.1 b c1)),.cells b.gb 0 60 (bH (a.dW n x y).2.1.g),.cells b.sb 0 158 (Sp.aL (a.dW n x y).2.1.s),.cells b.qb 0 2281 (aH c1.q),.aW ck (SC.dg 254 c1.q),.cells b.bb 0 577 (dM b.vp (a.dW n x y).2.1.v.fR (a.dW n x y).2.1.v.rf),.cells b.vp 0 71 (Vm.bO (a.dW n x y).2.1.v.bb.fp),.dR (jg (a.dW n x y).2.1) c1.mb 34 (cN b.bb (a.dW n x y).2.1.f c1.pp c1.cc),.aW (jg (a.dW n x y).2.1) (rN 171 (a.dW n x y).2.1.f c1.pp c1.cc),.cells b.tb 0 321 (aC c1.F),.aW au (FC.bd 9 c1.F),.aW au (FC.bh 3 c1.F),dh c1.rp c1.rc 3 c1.rl,.cells b.pi 0 24 (Tr.bO (a.dW n x y).2.1.P),.cells b.ob 0 122 (bu b.tb b.pi (a.dW n x y).2.1.O),.dR (lu (a.dW n x y).2.1) (fun z=>(c1.t z).b) 4 (cT b.tb c1.t),.aW (lu (a.dW n x y).2.1) (rT 168 c1.t)]):=by
 refine Spec.go 14 [0,1,6,7,8] [] Tryz.func82 fun W=> ?_;refine XO.box (m:=1) (C:=aB (iI x)) rfl rfl (fun _ _=>rfl) rfl ?_;intro ab;refine gO ?_;refine XO.box (m:=1) (C:=aB (.int .u8 y)) rfl rfl (fun _ _=>rfl) rfl ?_;intro xb;refine gO ?_;refine ld (.ao .aa) (aB.ld _) (XO.v (pM rfl rfl) rfl (gO ?_));refine xG 19 (Ld a b c N T ho hc hT n x true (LC n x y) y ab xb (fun h q=>h.sf q x hy) 152 rfl fun a1 c1 h1 h2 h3=>WS a1 b c1 N (T+1) h1 h2 og n h3 ab xb x y) (pk (rr 17 2 [1,0,0,0])) rfl ?_;rintro _ _ ⟨rfl,c1,gj,rfl⟩;refine gO ?_;refine bI (pz 17) ?_;grind [aU,aS,KA.dW]
end Go.X.Kn

namespace Go.X.Kn
open Go Go.Proofs Go.X Go.X.Fa Go.X.Gr
set_option maxRecDepth 20000
set_option maxHeartbeats 4000000
attribute [local irreducible] KA.dc KA.cH
def Le(a:KA)(b:KZ)(c:KC)(N:Nat)(T:Int)(ho:a.Ok T)(hc:cK a c N T)(hT:T<=800000)(n y:Int):Spec Tryz.prog 83 [az b.kb 0 0,iI n,iI y] (cW a b c []) (fun v H1=>∃ (m e:Int) (c1:KC),v= .tuple #[iI m,ay 102 e]/\cK (a.nH n y) c1 (N+1) T/\H1=(cW (a.nH n y) b c1 [])):=by
 refine Spec.go 38 [0,1,2,6,7,8,9,15,27] [] Tryz.func83 fun W=> ?_;refine sp 12 rfl ?_ ?_<;>intro h1
 ·refine eH (pz 17) ?_;have e:a.nH n y=a:=by unfold KA.nH;rw[if_pos og]
  rw[e];exact⟨0,1,c,rfl,hc.up (Nat.le_succ _) (Int.le_refl _),rfl⟩
 ·refine cd ?_ ?_<;>intro h2
  ·refine eH (pz 17) ?_;have e:a.nH n y=a:=by unfold KA.nH;rw[if_pos og]
   rw[e];exact⟨0,1,c,rfl,hc.up (Nat.le_succ _) (Int.le_refl _),rfl⟩
  ·apply ld .aa (eS _);refine cq (af9 _ _ a.g ho.wk.gI.ok n) (pk [1]) ?_;refine cd ?_ ?_<;>intro h3
   ·have hae:a.g.tZ n≠0:=h3;refine eH (pk (1::rr 16 0 [])) ?_;have e:a.nH n y=a:=by unfold KA.nH;rw[if_neg og,(Gr.TG.r7 hae).2]
    rw[e,(Gr.TG.r7 hae).2];exact⟨_,_,c,rfl,hc.up (Nat.le_succ _) (Int.le_refl _),rfl⟩
   ·have hae:=h3;apply ld (.ao .aa) (eT _);refine ca (Nr _ _ c.q c.d hc.qO.inv hc.qR _ _ _) (pk [3,3]) ?_;rintro _ _ ⟨rfl,q2,tm,zq,rfl⟩;obtain⟨d1,tq⟩:=hc.qO.s5 og (a.g.jS n) n y;apply gO;refine bA rfl rfl rfl (ah (pk (3::2::2::rr 14 0 [])) rfl ?_);have e:a.nH n y= {a with g:=a.g.add n} :=by unfold KA.nH;rw[if_neg og]
    rw[e];exact⟨_,_,{c with q:=q2,d:=d1},rfl,⟨(by show q2.toSF.Ok _ _ _;rw[tm];exact tq.mono (Nat.le_refl _) og),zq,hc.F,hc.rp,hc.rc,hc.rl,hc.tb,fun m m0 m1 hm=>hc.tk m m0 m1 (by have hm:q2.toSF.aa (10+m)=true:=hm;rw[tm]at hm;exact Fa.SF.Qr m0 hm)⟩,rfl⟩
def Ii(a:KA)(b:KZ)(c:KC)(N:Nat)(T:Int)(ho:a.Ok T)(hc:cK a c N T)(hT:T<=800000)(n:Int):Spec Tryz.prog 84 [az b.kb 0 0,iI n] (cW a b c []) (fun v H1=>∃ (e:Int) (c1:KC),v=ay 102 e/\cK (a.Au n) c1 (N+1) T/\H1=(cW (a.Au n) b c1 [])):=by
 refine Spec.go 21 [0,1,4,5,13] [] Tryz.func84 fun W=> ?_;apply ld .aa (eS _);refine cq (V5 _ _ a.g n) (pk [1]) ?_;refine cd ?_ ?_<;>intro h1
 ·have hae:a.g.dp n≠0:=h1;refine bI (pk (1::rr 16 0 [])) ?_;exact⟨_,c,rfl,(hc.up (Nat.le_succ _) (Int.le_refl _)).same (Int.le_refl _) rfl,rfl⟩
 ·have hae:=h1;apply ld (.ao .aa) (eT _);refine ca (K3 _ _ c.q c.d hc.qO.inv hc.qR n hc.qO.Mc) (pk [3,3]) ?_;rintro _ _ ⟨rfl,q2,tm,zq,rfl⟩;apply gO;refine aO rfl rfl (ah (pk (3::2::2::rr 14 0 [])) rfl ?_);exact⟨_,{c with q:=q2},rfl,⟨(by show q2.toSF.Ok _ _ _;rw[tm];exact(hc.qO.o3 og _).mono og og),zq,hc.F,hc.rp,hc.rc,hc.rl,hc.tb,fun m m0 m1 hm=>hc.tk m m0 m1 (by have hm:q2.toSF.aa (10+m)=true:=hm;rw[tm]at hm;exact Fa.SF.Mf hm)⟩,rfl⟩
def WU(a:KA)(b:KZ)(c:KC)(N:Nat)(T:Int)(ho:a.Ok T)(hc:cK a c N T)(hT:T<=800000)(n x y:Int):Spec Tryz.prog 85 [az b.kb 0 0,iI n,iI x,iI y] (cW a b c []) (fun v H1=>v=ay 102 (a.g.ka n x y)/\∃ c1:KC,cK (a.Rw n x y) c1 N T/\H1=(cW (a.Rw n x y) b c1 [])):=by
 refine Spec.go 17 [0,1,2,3,8] [] Tryz.func85 fun W=> ?_;apply ld .aa (eS _);refine cq (Zo _ _ a.g n x y) (pk [1]) ?_;refine bI (pk (1::rr 16 0 [])) ?_;exact⟨rfl,c,hc.same (Int.le_refl _) rfl,rfl⟩
def Sa(a:KA)(b:KZ)(c:KC)(N:Nat)(T:Int)(ho:a.Ok T)(hc:cK a c N T)(hT:T<=800000)(n:Int)(o:Bool):Spec Tryz.prog 88 [az b.kb 0 0,iI n,.bool o] (cW a b c []) (fun v H1=>∃ (e:Int) (c1:KC),v=ay 102 e/\cK a c1 (N+1) T/\H1=(cW a b c1 [])):=by
 refine Spec.go 14 [0,1,2,6] [] Tryz.func88 fun W=> ?_;apply ld .aa (eT _);refine ca (V9 _ _ c.q c.d hc.qO.inv hc.qR n o) (pk [3,3]) ?_;rintro _ _ ⟨rfl,q2,tm,zq,rfl⟩;apply gO;refine aO rfl rfl (ah (pk (2::2::2::rr 14 0 [])) rfl ?_);exact⟨_,{c with q:=q2},rfl,⟨(by show q2.toSF.Ok _ _ _;rw[tm];exact(hc.qO.freeze _ _).mono og og),zq,hc.F,hc.rp,hc.rc,hc.rl,hc.tb,(fun m m0 m1 hm=>hc.tk m m0 m1 (by have hm:q2.toSF.aa (10+m)=true:=hm;rw[tm,Fa.SF.Jp]at hm;exact hm))⟩,rfl⟩
def WV(a:KA)(b:KZ)(c:KC)(N:Nat)(T:Int)(ho:a.Ok T)(hc:cK a c N T)(hT:T<=800000)(n x y:Int):Spec Tryz.prog 89 [az b.kb 0 0,iI n,iI x,iI y] (cW a b c []) (fun v H1=>∃ (e:Int) (c1:KC),v=ay 102 e/\cK a c1 (N+1) T/\H1=(cW a b c1 [])):=by
 refine Spec.go 17 [0,1,2,3,8] [] Tryz.func89 fun W=> ?_;apply ld .aa (eT _);refine ca (Zp _ _ c.q c.d hc.qO.inv hc.qR n x y) (pk [3,3]) ?_;rintro _ _ ⟨rfl,q2,tm,zq,rfl⟩;apply gO;refine aO rfl rfl (ah (pk (2::2::2::rr 14 0 [])) rfl ?_);exact⟨_,{c with q:=q2},rfl,⟨(by show q2.toSF.Ok _ _ _;rw[tm];exact(hc.qO.xT og _ _ _).mono og og),zq,hc.F,hc.rp,hc.rc,hc.rl,hc.tb,(fun m m0 m1 hm=>hc.tk m m0 m1 (by have hm:q2.toSF.aa (10+m)=true:=hm;rw[tm,Fa.SF.Qp]at hm;exact hm))⟩,rfl⟩
def ZX(a:KA)(b:KZ)(c:KC)(N:Nat)(T:Int)(ho:a.Ok T)(hc:cK a c N T)(hT:T<=800000)(hN:N<=800):Spec Tryz.prog 46 [az b.kb 0 0] (cW a b c []) (fun v H1=>∃ (r:Int) (c1:KC),v=iI r/\(r<0\/(0<=r/\r<20/\c1.q.aa (10+r)=true))/\cK a c1 (N+1) T/\H1=(cW a b c1 [])):=by
 refine Spec.go 8 [0,2] [] Tryz.func46 fun W=> ?_;apply ld .aa (eT _);refine ca (Wa _ _ c.q c.d hc.qO.inv hc.qR (fun n a b=>by have:=hc.qO.aQ n a b;omega) (2000000000*N) og hc.qO.sP (by have:=hc.qO.hQ;omega) (hc.qO.oX og).set) (pk [3,3]) ?_;rintro _ _ ⟨rfl,q2,tm,zq,rfl⟩;apply gO;refine aO rfl rfl (ah (pk (2::2::2::rr 14 0 [])) rfl ?_);have hw:=Fa.SF.Ua hc.qO og;exact⟨_,{c with q:=q2},rfl,(by show _\/(_/\_/\q2.toSF.aa _=true);rw[tm];exact hw),⟨(by show q2.toSF.Ok _ _ _;rw[tm];exact(hc.qO.kM og og).mono og og),zq,hc.F,hc.rp,hc.rc,hc.rl,hc.tb,(fun m m0 m1 hm=>hc.tk m m0 m1 (by have hm:q2.toSF.aa (10+m)=true:=hm;rw[tm,Fa.SF.zQ]at hm;exact hm))⟩,rfl⟩
open Go.X.Vm
def adZ:cX Tryz.prog 159=true:=kq
def agy:cX Tryz.prog 50=true:=kq
def WW:eI Tryz.prog 101 1=some 440:=kq
def D9:jR Tryz.prog 91=true:=kq
theorem ZY(a:KA)(b:KZ)(c:KC)(n z:Int){g:Gr.TG}{q:SC}{d:Int->Nat} :kp {a with u:=ad a.u n {a.u n with cL:=z},g:=g} b {c with q:=q,d:=d} =(kp a b c).put n {(kp a b c).u n with cL:=z} :=(Vq a b c n {a.u n with cL:=z}).symm
theorem WX(a:KA)(n z:Int){g:Gr.TG} :jg {a with u:=ad a.u n {a.u n with cL:=z},g:=g} =jg a:=by grind [jg,ad]
set_option maxHeartbeats 8000000 in
def ZZ(a:KA)(b:KZ)(c:KC)(N:Nat)(T:Int)(ho:a.Ok T)(hc:cK a c N T)(hT:T<=800000)(n z:Int):Spec Tryz.prog 86 [az b.kb 0 0,iI n,iI z] (cW a b c []) (fun v H1=>∃ (e:Int) (c1:KC),v=ay 102 e/\(e=0->a.aA n=0/\a.Gt n z=0)/\cK (a.mJ n z) c1 (N+1) (T+1)/\H1=(cW (a.mJ n z) b c1 [])):=by
 refine Spec.go 47 [0,1,2,6,7,8,16,34] [] Tryz.func86 fun W=> ?_;refine ca (eW b.kb (kp a b c) n) .h1 ?_;rintro _ _ ⟨⟨hl,rfl⟩ | ⟨hl,rfl⟩,rfl⟩
 ·obtain⟨jV,ic⟩:=bJ hl;have hl:a.aA n=0:=hl;have ic:(a.u n).st=1:=ic;have lO:=pw a b c (n:=n);have LF:=ho.wk.sys.mo n.toNat og;apply gO;refine XR.mono (fun _ bL=>kA (z:=n.toNat) (fD jV) (pk [7,7]) bL) ?_;refine XC.il mixed (f:=16) (l:= #[qF,qF,qF,qF,qF,qF,qF,qF,qF,qF,qF,qF,qF,qF,qF,qF]) rfl rfl XM.kL (XQ.pv (i:=0) rfl kq rfl (V.move rfl) rfl rfl (XQ.pv (i:=1) rfl kq rfl (bC rfl) rfl rfl (XQ.pv (i:=2) rfl kq rfl (V.fieldAddr rfl WW) rfl rfl (XQ.load (i:=3) (.cells _ _ _ _) [14] rfl kq rfl (.t4 .aa) (V.load rfl eh (eS _) D9) rfl kq rfl (XQ.pv (i:=4) rfl kq rfl (V.move rfl) rfl rfl (XQ.pv (i:=5) rfl kq rfl (bC rfl) rfl rfl (XQ.pv (i:=6) rfl kq rfl (V.fieldAddr rfl H8) rfl rfl (XQ.load (i:=7) (.cells _ _ _ _) [14] rfl kq rfl (.t4 .aa) (V.load rfl eh (dB _) la) rfl kq rfl (XQ.pv (i:=8) rfl kq rfl (V.move rfl) rfl rfl (XQ.pv (i:=9) rfl kq rfl (V.move rfl) rfl rfl (XQ.pv (i:=10) rfl kq rfl (bC rfl) rfl rfl (XQ.pv (i:=11) rfl kq rfl (V.fieldAddr rfl H9) rfl rfl (XQ.load (i:=12) (.cells _ _ _ _) [13,14] rfl kq rfl (.t4 .aa) (V.load rfl eh (dt _ og lO) Wl) rfl kq rfl (XQ.call (i:=13) rfl kq rfl rfl (sJ b.bb _ _ _ (a.f n.toNat) LF) .h1 agy rfl (by rintro _ _ ⟨rfl,rfl⟩;all_goals(intro _ dX;exact⟨fun hs=>(hs 13 (by first | (simp;done) | (simp;rfl)) rfl).elim,fun _=>fb (.t4 .aa) _ dX,fun _=>fb (.t4 .aa) _ dX,trivial⟩)) ?_))))))))))))));rintro _ _ ⟨rfl,rfl⟩;apply XQ.call (i:=14) rfl kq rfl rfl (adb _ _ a.g ho.wk.gI.ok _ _ _ _ (1000*T) (by have:=ho.wk.T0;omega) ho.wk.gS) (pk [5]) adZ rfl (by rintro _ _ ⟨rfl,rfl⟩;all_goals(intro _ dX;exact⟨fun hs=>(hs 13 (by first | (simp;done) | (simp;rfl)) rfl).elim,fun hs=>(hs 14 (by first | (simp;done) | (simp;rfl)) rfl).elim,fun hs=>(hs 14 (by first | (simp;done) | (simp;rfl)) rfl).elim,trivial⟩));rintro _ _ ⟨rfl,rfl⟩;refine XQ.pv (i:=15) rfl kq rfl (V.assign rfl) rfl rfl (XQ.done kq (gE (XR.mono (fun _ bL=>pf (f:=a.f) (z:=n.toNat) (ps:=c.pp) (cs:=c.cc) (mb:=c.mb) (fD jV) (pk [1,1,1,1]) bL) ?_)));refine cd ?_ ?_<;>intro h1
  ·have hje:a.Gt n z≠0:=h1;refine aO rfl rfl (ah (pk (3::rr 6 2 (rr 10 0 []))) rfl ?_);try dsimp only[aU,aS,bG,bN]
   have e:a.mJ n z=a:=by unfold KA.mJ;rw[if_pos (.inr hje)]
   grind [kp,VM,cK.up]
  ·have hje:¬a.Gt n z≠0:=h1;refine st (.t3 .aa) (Hu _ og _) rfl (ld (.t3 .aa) (eT _) ?_);refine ca (Nt _ _ c.q c.d hc.qO.inv hc.qR n z) (pk [5,5]) ?_;rintro _ _ ⟨rfl,q2,tm,zq,rfl⟩;obtain⟨d1,tq⟩:=hc.qO.move og n z;apply gO;refine aO rfl rfl (ah (pk (5::4::4::0::0::2::2::rr 10 0 [])) rfl ?_);have e:a.mJ n z= {a with u:=ad a.u n {a.u n with cL:=z},g:=a.g.move (a.u n).cL z 1 (a.gk n)} :=by unfold KA.mJ;rw[if_neg fun q=>q.elim (fun q=>q hl) hje]
   rw[e];refine⟨_,{c with q:=q2,d:=d1},rfl,(fun _=>⟨hl,og⟩),⟨(by show q2.toSF.Ok _ _ _;rw[tm];exact tq.mono (Nat.le_refl _) og),zq,FF.Ok.up hc.F og,hc.rp,hc.rc,hc.rl,hc.tb,fun m m0 m1 hm=>by rw[(uM _ _ _ _).1];exact hc.tk m m0 m1 (by have hm:q2.toSF.aa (10+m)=true:=hm;rw[tm,Fa.SF.Qq]at hm;exact hm)⟩,?_⟩;try unfold cW
   rw[ZY a b c n z,WX];rfl
 ·have hl:a.aA n≠0:=hl;have jd:(kp a b c).aA n=a.aA n:=rfl;rw[jd];apply gO;refine bI (pz 17) ?_;have e:a.mJ n z=a:=by unfold KA.mJ;rw[if_pos (.inl hl)]
  rw[e];exact⟨a.aA n,c,(aK _ hl).symm,(fun q=>absurd q hl),hc.up (Nat.le_succ _) og,rfl⟩
open Go.X.Tr
def iR(a:KA)(b:KZ)(c:KC)(n:Int)(hz:(0<=(a.s.bU n).1/\(a.s.bU n).1<6)/\a.s.aa (a.s.bU n).1=true):Spec Tryz.prog 105 [az b.kb 0 0,iI n] [.cells b.kb 0 453 (aG (kp a b c)),.cells b.sb 0 158 (Sp.aL a.s)] (fun v H1=>v=az (c.t (a.s.bU n).1.toNat).b 0 0/\H1=[.cells b.kb 0 453 (aG (kp a b c)),.cells b.sb 0 158 (Sp.aL a.s)]):=by
 refine Spec.go 13 [0,1,4] [] Tryz.func105 fun W=> ?_;refine rq [0,1,2,4,5,3,6,7,8] mixed ?_;refine cq (jQ b.kb (kp a b c) a.s n) (pz 2) ?_;refine sd (ld .aa (sB _ hz.1 (VA a b c hz.2)) (aO rfl rfl (ah (pz 2) rfl ?_)));grind [aU,aS,kp]
set_option maxHeartbeats 8000000 in
def NM(a:KA)(b:KZ)(c:KC)(N:Nat)(T:Int)(ho:a.Ok T)(hc:cK a c N T)(hT:T<=800000)(n:Int)(x:ByteArray)(hx:x.size<=100000):Spec Tryz.prog 166 [az b.kb 0 0,iI n,.string x] (cW a b c []) (fun v H1=>∃ (e:Int) (c1:KC),v=ay 102 e/\cK a c1 N (T+15)/\H1=(cW a b c1 [])):=by
 refine Spec.go 43 [0,1,2,6,8,9,10,18,30] [] Tryz.func166 fun W=> ?_;refine ca (eW b.kb (kp a b c) n) .h1 ?_;rintro _ _ ⟨⟨hl,rfl⟩ | ⟨hl,rfl⟩,rfl⟩
 ·obtain⟨jV,ic⟩:=bJ hl;have hl:a.aA n=0:=hl;have ic:(a.u n).st=1:=ic;have hz:=ho.tz hl;have iC:=hc.tb _ hz.1.1 hz.1.2 hz.2;have zo:=hc.sh og;apply gO;apply XR.mono fun _ bL=>gR (z:=(a.s.bU n).1.toNat) (dV hz.1 hz.2) (pk [15,15]) bL;refine cq (iR a b c n hz) (pk [4,5]) ?_;refine cq (AL _ _ _ _ _ _ _ _ _ iC.rv iC.mc iC.len c.F zo x hx) (pk [2,2,11,11,11]) ?_;apply XO.bQ (z:=.agg (WH.cR WH.nil)) (m:=2) (C:=aY WH.nil) (aY.box _);intro bw;apply gO;refine gn .aa (aY.st _ _) rfl ⟨rfl,rfl⟩ (XR.mono (fun _ bL=>gP (z:=(a.s.bU n).1.toNat) (dV hz.1 hz.2) (pk [1,1,6,6]) bL) ?_);refine cd ?_ ?_<;>intro h1
  ·refine rq [0,1,2,3,4,5,6,7,8,9,10,11] mixed (ld (.t6 .aa) (aG.BH _) (ld (.t2 .aa) (aY.Ev _) ?_));refine ca (Wp _ _ c.F zo _ _ 2 (by have:=zf c.F.toFF (c.t (a.s.bU n).1.toNat).l (c.t (a.s.bU n).1.toNat).r x;omega)) (pk [3,3,3]) ?_;rintro _ _ ⟨rfl,t,ht,hp,hr,rfl⟩;obtain⟨d1,tq⟩:=hc.F.make (uz c.F.toFF (c.t (a.s.bU n).1.toNat).l (c.t (a.s.bU n).1.toNat).r x).node (ra c.F.toFF (c.t (a.s.bU n).1.toNat).l (c.t (a.s.bU n).1.toNat).r x) 2;apply gO;refine aO rfl rfl (ah (pk [6,7,6,6,6,6,6,6,6,0,0,0,3,3,3,0,0]) rfl ?_);exact⟨_,{c with F:=t,dF:=d1},rfl,hc.Nc (by rw[ht];exact FF.Ok.up tq og) og hp hr (by rw[ht];exact D1 _ _ _ _),rfl⟩
  ·refine aO rfl rfl (ah (pk (6::7::rr 7 6 (rr 6 3 [0,0]))) rfl ?_);try dsimp only[aU,aS,bG,bN]
   grind [cK.up]
 ·have hl:a.aA n≠0:=hl;have jd:(kp a b c).aA n=a.aA n:=rfl;rw[jd];apply gO;refine bI (pz 17) ?_;exact⟨a.aA n,c,(aK _ hl).symm,hc.up (Nat.le_refl _) og,rfl⟩
set_option maxHeartbeats 8000000 in
def Sb(a:KA)(b:KZ)(c:KC)(N:Nat)(T:Int)(ho:a.Ok T)(hc:cK a c N T)(hT:T<=800000)(n:Int)(x:ByteArray)(hx:x.size<=100000):Spec Tryz.prog 167 [az b.kb 0 0,iI n,.string x] (cW a b c []) (fun v H1=>∃ (e:Int) (c1:KC),v=ay 102 e/\cK a c1 N (T+15)/\H1=(cW a b c1 [])):=by
 refine Spec.go 40 [0,1,2,6,8,9,10,18,30] [] Tryz.func167 fun W=> ?_;refine ca (eW b.kb (kp a b c) n) .h1 ?_;rintro _ _ ⟨⟨hl,rfl⟩ | ⟨hl,rfl⟩,rfl⟩
 ·obtain⟨jV,ic⟩:=bJ hl;have hl:a.aA n=0:=hl;have ic:(a.u n).st=1:=ic;have hz:=ho.tz hl;have iC:=hc.tb _ hz.1.1 hz.1.2 hz.2;have zo:=hc.sh og;apply gO;apply XR.mono fun _ bL=>gR (z:=(a.s.bU n).1.toNat) (dV hz.1 hz.2) (pk [15,15]) bL;refine cq (iR a b c n hz) (pk [4,5]) ?_;refine cq (AL _ _ _ _ _ _ _ _ _ iC.rv iC.mc iC.len c.F zo x hx) (pk [2,2,11,11,11]) ?_;apply XO.bQ (z:=.agg (WH.cR WH.nil)) (m:=2) (C:=aY WH.nil) (aY.box _);intro bw;apply gO;refine gn .aa (aY.st _ _) rfl ⟨rfl,rfl⟩ (XR.mono (fun _ bL=>gP (z:=(a.s.bU n).1.toNat) (dV hz.1 hz.2) (pk [1,1,6,6]) bL) ?_);refine cd ?_ ?_<;>intro h1
  ·refine rq [0,1,2,3,4,5,6,7,8] mixed (ld (.t6 .aa) (aG.BH _) (ld (.t2 .aa) (aY.Ev _) ?_));refine ca (Wq _ _ c.F zo _ _) (pk [3,3,3]) ?_;rintro _ _ ⟨rfl,t,ht,hp,hr,rfl⟩;apply gO;refine aO rfl rfl (ah (pk [6,7,6,6,6,6,6,6,6,0,0,0,3,3,3,0,0]) rfl ?_);exact⟨_,{c with F:=t,dF:=c.dF},rfl,hc.Nc (by rw[ht];exact FF.Ok.up (hc.F.dG _ _) og) og hp hr (by rw[ht];exact HT _ _ _),rfl⟩
  ·refine aO rfl rfl (ah (pk (6::7::rr 7 6 (rr 6 3 [0,0]))) rfl ?_);try dsimp only[aU,aS,bG,bN]
   grind [cK.up]
 ·have hl:a.aA n≠0:=hl;have jd:(kp a b c).aA n=a.aA n:=rfl;rw[jd];apply gO;refine bI (pz 17) ?_;exact⟨a.aA n,c,(aK _ hl).symm,hc.up (Nat.le_refl _) og,rfl⟩
set_option maxHeartbeats 8000000 in
def Z0(a:KA)(b:KZ)(c:KC)(N:Nat)(T:Int)(ho:a.Ok T)(hc:cK a c N T)(hT:T<=800000)(n:Int)(x y:ByteArray)(hx:x.size<=100000)(hy:y.size<=100000):Spec Tryz.prog 168 [az b.kb 0 0,iI n,.string x,.string y] (cW a b c []) (fun v H1=>∃ (e:Int) (c1:KC),v=ay 102 e/\cK a c1 N (T+15)/\H1=(cW a b c1 [])):=by
 refine Spec.go 59 [0,1,2,3,8,10,11,12,13,14,22,34,46] [] Tryz.func168 fun W=> ?_;refine ca (eW b.kb (kp a b c) n) .h1 ?_;rintro _ _ ⟨⟨hl,rfl⟩ | ⟨hl,rfl⟩,rfl⟩
 ·obtain⟨jV,ic⟩:=bJ hl;have hl:a.aA n=0:=hl;have ic:(a.u n).st=1:=ic;have hz:=ho.tz hl;have iC:=hc.tb _ hz.1.1 hz.1.2 hz.2;have zo:=hc.sh og;apply gO;apply XR.mono fun _ bL=>gR (z:=(a.s.bU n).1.toNat) (dV hz.1 hz.2) (pk [15,15]) bL;refine cq (iR a b c n hz) (pk [4,5]) ?_;refine cq (AL _ _ _ _ _ _ _ _ _ iC.rv iC.mc iC.len c.F zo x hx) (pk [2,2,11,11,11]) ?_;apply XO.bQ (z:=.agg (WH.cR WH.nil)) (m:=2) (C:=aY WH.nil) (aY.box _);intro bw;apply gO;refine gn .aa (aY.st _ _) rfl ⟨rfl,rfl⟩ (XR.mono (fun _ bL=>gP (z:=(a.s.bU n).1.toNat) (dV hz.1 hz.2) (pk [1,1,6,6]) bL) ?_);refine cd ?_ ?_<;>intro h1
  ·refine aO rfl rfl (ah (pk (6::7::rr 7 6 (rr 6 3 [0,0]))) rfl ?_);try dsimp only[aU,aS,bG,bN]
   grind [cK.up]
  ·apply XR.mono fun _ bL=>gR (z:=(a.s.bU n).1.toNat) (dV hz.1 hz.2) (pz 2) bL;refine cq (iR a b c n hz) (pk [8,8]) ?_;refine cq (AL _ _ _ _ _ _ _ _ _ iC.rv iC.mc iC.len c.F zo y hy) (pk [2,2,5,5,5]) ?_;apply XO.bQ (z:=.agg (WH.cR WH.nil)) (m:=2) (C:=aY WH.nil) (aY.box _);intro bw2;apply gO;refine gn .aa (aY.st _ _) rfl ⟨rfl,rfl⟩ (XR.mono (fun _ bL=>gP (z:=(a.s.bU n).1.toNat) (dV hz.1 hz.2) (pk [1,1,6,6]) bL) ?_);refine cd ?_ ?_<;>intro h2
   ·refine aO rfl rfl (ah (pk [6,8,6,7,7,7,7,7,7,3,3,3,4,4,4,0,0]) rfl ?_);try dsimp only[aU,aS,bG,bN]
    grind [cK.up]
   ·refine rq [0,1,2,3,4,5,6,7,8,9,10,11] mixed (ld (.t6 .aa) (aG.BH _) (ld (.t8 .aa) (aY.Ev _) (ld (.t2 .aa) (aY.Ev _) ?_)));refine ca (adB _ _ c.F zo c.dF hc.F.inv.chI _ _ _ _ (by have:=zf c.F.toFF (c.t (a.s.bU n).1.toNat).l (c.t (a.s.bU n).1.toNat).r y;omega)) (pk [3,3,3]) ?_;rintro _ _ ⟨rfl,t,ht,hp,hr,rfl⟩;obtain⟨d1,tq⟩:=hc.F.move (uz c.F.toFF (c.t (a.s.bU n).1.toNat).l (c.t (a.s.bU n).1.toNat).r x).node (ra c.F.toFF (c.t (a.s.bU n).1.toNat).l (c.t (a.s.bU n).1.toNat).r x) (uz c.F.toFF (c.t (a.s.bU n).1.toNat).l (c.t (a.s.bU n).1.toNat).r y).node (ra c.F.toFF (c.t (a.s.bU n).1.toNat).l (c.t (a.s.bU n).1.toNat).r y);apply gO;refine aO rfl rfl (ah (pk [6,8,6,7,7,7,7,7,7,0,0,0,4,4,4,0,0]) rfl ?_);exact⟨_,{c with F:=t,dF:=d1},rfl,hc.Nc (by rw[ht];exact FF.Ok.up tq og) og hp hr (by rw[ht];exact Nb _ _ _ _ _ _),rfl⟩
 ·have hl:a.aA n≠0:=hl;have jd:(kp a b c).aA n=a.aA n:=rfl;rw[jd];apply gO;refine bI (pz 17) ?_;exact⟨a.aA n,c,(aK _ hl).symm,hc.up (Nat.le_refl _) og,rfl⟩
set_option maxHeartbeats 8000000 in
def Z1(a:KA)(b:KZ)(c:KC)(N:Nat)(T:Int)(ho:a.Ok T)(hc:cK a c N T)(hT:T<=800000)(n:Int)(x y:ByteArray)(hx:x.size<=100000)(hy:y.size<=100000):Spec Tryz.prog 169 [az b.kb 0 0,iI n,.string x,.string y] (cW a b c []) (fun v H1=>∃ (e:Int) (c1:KC),v=ay 102 e/\cK a c1 N (T+15)/\H1=(cW a b c1 [])):=by
 refine Spec.go 56 [0,1,2,3,8,10,11,12,13,21,32,44] [] Tryz.func169 fun W=> ?_;refine ca (eW b.kb (kp a b c) n) .h1 ?_;rintro _ _ ⟨⟨hl,rfl⟩ | ⟨hl,rfl⟩,rfl⟩
 ·obtain⟨jV,ic⟩:=bJ hl;have hl:a.aA n=0:=hl;have ic:(a.u n).st=1:=ic;have hz:=ho.tz hl;have iC:=hc.tb _ hz.1.1 hz.1.2 hz.2;have zo:=hc.sh og;apply gO;apply XR.mono fun _ bL=>gR (z:=(a.s.bU n).1.toNat) (dV hz.1 hz.2) (pk [15,15]) bL;refine cq (iR a b c n hz) (pk [4,5]) ?_;refine cq (Eo _ _ _ _ _ _ _ _ _ iC.rv iC.mc iC.len c.F zo x hx) (pk [2,2,11,11,11]) ?_;apply XO.bQ (z:=.agg (WH.cR WH.nil)) (m:=2) (C:=aY WH.nil) (aY.box _);intro bw;apply gO;refine gn .aa (aY.st _ _) rfl ⟨rfl,rfl⟩ (XR.mono (fun _ bL=>gP (z:=(a.s.bU n).1.toNat) (dV hz.1 hz.2) (pk [1,1,6,6]) bL) ?_);refine cd ?_ ?_<;>intro h1
  ·refine aO rfl rfl (ah (pk (6::7::rr 7 6 (rr 6 3 [0,0]))) rfl ?_);try dsimp only[aU,aS,bG,bN]
   grind [cK.up]
  ·apply XR.mono fun _ bL=>gR (z:=(a.s.bU n).1.toNat) (dV hz.1 hz.2) (pz 2) bL;refine cq (iR a b c n hz) (pk [8,8]) ?_;refine cq (AL _ _ _ _ _ _ _ _ _ iC.rv iC.mc iC.len c.F zo y hy) (pk [2,2,5,5,5]) ?_;apply XO.bQ (z:=.agg (WH.cR WH.nil)) (m:=2) (C:=aY WH.nil) (aY.box _);intro bw2;apply gO;refine gn .aa (aY.st _ _) rfl ⟨rfl,rfl⟩ (XR.mono (fun _ bL=>gP (z:=(a.s.bU n).1.toNat) (dV hz.1 hz.2) (pk [1,1,6,6]) bL) ?_);refine cd ?_ ?_<;>intro h2
   ·refine aO rfl rfl (ah (pk [6,8,6,7,7,7,7,7,7,3,3,3,4,4,4,0,0]) rfl ?_);try dsimp only[aU,aS,bG,bN]
    grind [cK.up]
   ·refine rq [0,1,2,3,4,5,6,7,8,9,10] mixed (ld (.t6 .aa) (aG.BH _) (ld (.t8 .aa) (aY.Ev _) (ld (.t2 .aa) (aY.Ev _) ?_)));refine ca (adz _ _ c.F zo _ _ _ (by have:=zf c.F.toFF (c.t (a.s.bU n).1.toNat).l (c.t (a.s.bU n).1.toNat).r y;omega)) (pk [3,3,3]) ?_;rintro _ _ ⟨rfl,t,ht,hp,hr,rfl⟩;apply gO;refine aO rfl rfl (ah (pk [6,8,6,7,7,7,7,7,7,0,0,0,4,4,4,0,0]) rfl ?_);exact⟨_,{c with F:=t,dF:=c.dF},rfl,hc.Nc (by rw[ht];exact FF.Ok.up (hc.F.Dr _ _ _) og) og hp hr (by rw[ht];exact Na _ _ _ _),rfl⟩
 ·have hl:a.aA n≠0:=hl;have jd:(kp a b c).aA n=a.aA n:=rfl;rw[jd];apply gO;refine bI (pz 17) ?_;exact⟨a.aA n,c,(aK _ hl).symm,hc.up (Nat.le_refl _) og,rfl⟩
def fZ:n5 Tryz.prog 163=true:=kq
def WY:cX Tryz.prog 105=true:=kq
def ad0:cX Tryz.prog 214=true:=kq
def ad1:cX Tryz.prog 215=true:=kq
def di:fm Tryz.prog 163=some 2:=kq
set_option maxHeartbeats 8000000 in
def Z2(a:KA)(b:KZ)(c:KC)(N:Nat)(T:Int)(ho:a.Ok T)(hc:cK a c N T)(hT:T<=800000)(n:Int)(x y:ByteArray)(hx:x.size<=100000)(hy:y.size<=100000):Spec Tryz.prog 170 [az b.kb 0 0,iI n,.string x,.string y] (cW a b c []) (fun v H1=>∃ (e:Int) (c1:KC),v=ay 102 e/\cK a c1 N (T+15)/\H1=(cW a b c1 [])):=by
 refine Spec.go 50 [0,1,2,3,8,10,11,12,20,31,42] [] Tryz.func170 fun W=> ?_;refine ca (eW b.kb (kp a b c) n) .h1 ?_;rintro _ _ ⟨⟨hl,rfl⟩ | ⟨hl,rfl⟩,rfl⟩
 ·obtain⟨jV,ic⟩:=bJ hl;have hl:a.aA n=0:=hl;have ic:(a.u n).st=1:=ic;have hz:=ho.tz hl;have iC:=hc.tb _ hz.1.1 hz.1.2 hz.2;have zo:=hc.sh og;apply gO;apply XR.mono fun _ bL=>gR (z:=(a.s.bU n).1.toNat) (dV hz.1 hz.2) (pk [15,15]) bL;refine cq (iR a b c n hz) (pk [4,5]) ?_;refine cq (aba _ _ _ _ _ _ _ _ _ iC.rv iC.mc iC.len c.F zo x hx) (pk [2,2,11,11,11]) ?_;apply XO.bQ (z:=.agg (WH.cR WH.nil)) (m:=2) (C:=aY WH.nil) (aY.box _);intro bw;apply gO;apply gn .aa (aY.st _ _) rfl ⟨rfl,rfl⟩;apply XR.mono fun _ bL=>gP (z:=(a.s.bU n).1.toNat) (dV hz.1 hz.2) (pk [1,1,6,6]) bL;refine cd ?_ ?_<;>intro h1
  ·refine aO rfl rfl (ah (pk (6::7::rr 7 6 (rr 6 3 [0,0]))) rfl ?_);try dsimp only[aU,aS,bG,bN]
   grind [cK.up]
  ·apply XR.mono fun _ bL=>gR (z:=(a.s.bU n).1.toNat) (dV hz.1 hz.2) (pz 2) bL;refine cq (iR a b c n hz) (pk [8,8]) ?_;refine cq (Eo _ _ _ _ _ _ _ _ _ iC.rv iC.mc iC.len c.F zo y hy) (pk [2,2,5,5,5]) ?_;apply XO.bQ (z:=.agg (WH.cR WH.nil)) (m:=2) (C:=aY WH.nil) (aY.box _);intro bw2;apply gO;apply gn .aa (aY.st _ _) rfl ⟨rfl,rfl⟩;apply XR.mono fun _ bL=>gP (z:=(a.s.bU n).1.toNat) (dV hz.1 hz.2) (pk [1,1,6,6]) bL;refine cd ?_ ?_<;>intro h2
   ·refine aO rfl rfl (ah (pk [6,8,6,7,7,7,7,7,7,3,3,3,4,4,4,0,0]) rfl ?_);try dsimp only[aU,aS,bG,bN]
    grind [cK.up]
   ·apply XR.mono fun _ bL=>gR (z:=(a.s.bU n).1.toNat) (dV hz.1 hz.2) (pz 2) bL;apply XC.il mixed (f:=7) (l:= #[qF,qF,qF,qF,qF,qF,qF]) rfl rfl XM.kL;apply XQ.pv (i:=0) rfl kq rfl (V.move rfl) rfl rfl;apply XQ.pv (i:=1) rfl kq rfl (V.move rfl) rfl rfl;apply XQ.load (i:=3) (.cells _ _ _ _) [5] rfl kq rfl (.Sr .aa) (eG rfl eh (aY.agg _) fZ di) rfl kq rfl;apply XQ.load (i:=4) (.cells _ _ _ _) [5] rfl kq rfl (.t4 .aa) (eG rfl eh (aY.agg _) fZ di) rfl kq rfl;apply XQ.call (i:=2) rfl kq rfl rfl (iR a b c n hz) (pk [8,8]) WY rfl (by rintro _ _ ⟨rfl,rfl⟩;all_goals(intro _ dX;exact⟨fun _=>fb (.t6 .aa) _ dX,fun _=>fb (.Sr .aa) _ dX,trivial⟩));rintro _ _ ⟨rfl,rfl⟩;apply XQ.call (i:=5) rfl kq rfl rfl (adP _ _ _ _ _ _ _ _ _ iC.rv iC.mc iC.len c.F c.dF T hc.F og _ _) (pk [2,2,5,5,5]) ad0 rfl (by rintro _ _ ⟨rfl,p1,k1,k2,k3,C1,u,Xn,hC1,hu,hp,hr,rfl⟩;all_goals(intro _ dX;refine⟨?_,?_,trivial⟩<;>exact fun hs=>(hs 5 (by first | (simp;done) | (simp;rfl)) rfl).elim));rintro _ _ ⟨rfl,p1,k1,k2,k3,C1,u,Xn,hC1,hu,hp,hr,rfl⟩;apply XQ.pv (i:=6) rfl kq rfl (V.assign rfl) rfl rfl;apply XQ.mono (fun _ bL=>yV (z:=(a.s.bU n).1.toNat) (⟨(c.t (a.s.bU n).1.toNat).b,(c.t (a.s.bU n).1.toNat).r,(pt c.F.toFF (c.t (a.s.bU n).1.toNat).l (BL c.F.toFF (c.t (a.s.bU n).1.toNat).l (c.t (a.s.bU n).1.toNat).r x) (Kt c.F.toFF (c.t (a.s.bU n).1.toNat).l (c.t (a.s.bU n).1.toNat).r y)),p1,k1,k2,k3,C1⟩:TB) (dV hz.1 hz.2) (pk [0,0,5,5]) bL);apply XQ.done kq;apply gE;refine aO rfl rfl (ah (pk [5,8,5,7,7,7,7,7,7,2,2,2,4,4,4,0,0]) rfl ?_);refine⟨_,{c with F:=u,t:=aJ c.t (a.s.bU n).1.toNat (⟨(c.t (a.s.bU n).1.toNat).b,(c.t (a.s.bU n).1.toNat).r,(pt c.F.toFF (c.t (a.s.bU n).1.toNat).l (BL c.F.toFF (c.t (a.s.bU n).1.toNat).l (c.t (a.s.bU n).1.toNat).r x) (Kt c.F.toFF (c.t (a.s.bU n).1.toNat).l (c.t (a.s.bU n).1.toNat).r y)),p1,k1,k2,k3,C1⟩:TB)},rfl,hc.tab ⟨Xn,hC1,Ry iC.len _ _⟩ (by rw[hu];exact FF.Ok.up (Vp hc.F _ _ _) og) hp hr (by rw[hu];exact KU _ _ _ _),?_⟩;grind [Nd,Nf]
 ·have hl:a.aA n≠0:=hl;have jd:(kp a b c).aA n=a.aA n:=rfl;rw[jd];apply gO;refine bI (pz 17) ?_;exact⟨a.aA n,c,(aK _ hl).symm,hc.up (Nat.le_refl _) og,rfl⟩
set_option maxHeartbeats 8000000 in
def Sc(a:KA)(b:KZ)(c:KC)(N:Nat)(T:Int)(ho:a.Ok T)(hc:cK a c N T)(hT:T<=800000)(n:Int)(x:ByteArray)(hx:x.size<=100000):Spec Tryz.prog 171 [az b.kb 0 0,iI n,.string x] (cW a b c []) (fun v H1=>∃ (e:Int) (c1:KC),v=ay 102 e/\cK a c1 N (T+15)/\H1=(cW a b c1 [])):=by
 refine Spec.go 35 [0,1,2,6,8,9,17,28] [] Tryz.func171 fun W=> ?_;refine ca (eW b.kb (kp a b c) n) .h1 ?_;rintro _ _ ⟨⟨hl,rfl⟩ | ⟨hl,rfl⟩,rfl⟩
 ·obtain⟨jV,ic⟩:=bJ hl;have hl:a.aA n=0:=hl;have ic:(a.u n).st=1:=ic;have hz:=ho.tz hl;have iC:=hc.tb _ hz.1.1 hz.1.2 hz.2;have zo:=hc.sh og;apply gO;apply XR.mono fun _ bL=>gR (z:=(a.s.bU n).1.toNat) (dV hz.1 hz.2) (pk [15,15]) bL;refine cq (iR a b c n hz) (pk [4,5]) ?_;refine cq (aba _ _ _ _ _ _ _ _ _ iC.rv iC.mc iC.len c.F zo x hx) (pk [2,2,11,11,11]) ?_;apply XO.bQ (z:=.agg (WH.cR WH.nil)) (m:=2) (C:=aY WH.nil) (aY.box _);intro bw;apply gO;apply gn .aa (aY.st _ _) rfl ⟨rfl,rfl⟩;apply XR.mono fun _ bL=>gP (z:=(a.s.bU n).1.toNat) (dV hz.1 hz.2) (pk [1,1,6,6]) bL;refine cd ?_ ?_<;>intro h1
  ·refine aO rfl rfl (ah (pk (6::7::rr 7 6 (rr 6 3 [0,0]))) rfl ?_);try dsimp only[aU,aS,bG,bN]
   grind [cK.up]
  ·apply XR.mono fun _ bL=>gR (z:=(a.s.bU n).1.toNat) (dV hz.1 hz.2) (pz 2) bL;apply XC.il mixed (f:=6) (l:= #[qF,qF,qF,qF,qF,qF]) rfl rfl XM.kL;apply XQ.pv (i:=0) rfl kq rfl (V.move rfl) rfl rfl;apply XQ.pv (i:=1) rfl kq rfl (V.move rfl) rfl rfl;apply XQ.load (i:=3) (.cells _ _ _ _) [4] rfl kq rfl (.t4 .aa) (eG rfl eh (aY.agg _) fZ di) rfl kq rfl;apply XQ.call (i:=2) rfl kq rfl rfl (iR a b c n hz) (pk [8,8]) WY rfl (by rintro _ _ ⟨rfl,rfl⟩;all_goals(intro _ dX;exact⟨fun _=>fb (.t6 .aa) _ dX,trivial⟩));rintro _ _ ⟨rfl,rfl⟩;apply XQ.call (i:=4) rfl kq rfl rfl (WE _ _ _ _ _ _ _ _ _ iC.rv iC.mc iC.len c.F c.dF T hc.F og _) (pk [2,2,5,5,5]) ad1 rfl (by rintro _ _ ⟨rfl,p1,k1,k2,k3,C1,u,Xn,hC1,hu,hp,hr,rfl⟩;all_goals(intro _ dX;exact⟨fun hs=>(hs 4 (by first | (simp;done) | (simp;rfl)) rfl).elim,trivial⟩));rintro _ _ ⟨rfl,p1,k1,k2,k3,C1,u,Xn,hC1,hu,hp,hr,rfl⟩;apply XQ.pv (i:=5) rfl kq rfl (V.assign rfl) rfl rfl;apply XQ.mono (fun _ bL=>yV (z:=(a.s.bU n).1.toNat) (⟨(c.t (a.s.bU n).1.toNat).b,(c.t (a.s.bU n).1.toNat).r,(nk (c.t (a.s.bU n).1.toNat).l (BL c.F.toFF (c.t (a.s.bU n).1.toNat).l (c.t (a.s.bU n).1.toNat).r x)),p1,k1,k2,k3,C1⟩:TB) (dV hz.1 hz.2) (pk [0,0,5,5]) bL);apply XQ.done kq;apply gE;refine aO rfl rfl (ah (pk [5,7,5,6,6,6,6,6,6,2,2,2,3,3,3,0,0]) rfl ?_);refine⟨_,{c with F:=u,t:=aJ c.t (a.s.bU n).1.toNat (⟨(c.t (a.s.bU n).1.toNat).b,(c.t (a.s.bU n).1.toNat).r,(nk (c.t (a.s.bU n).1.toNat).l (BL c.F.toFF (c.t (a.s.bU n).1.toNat).l (c.t (a.s.bU n).1.toNat).r x)),p1,k1,k2,k3,C1⟩:TB)},rfl,hc.tab ⟨Xn,hC1,KT iC.len _⟩ (by rw[hu];exact FF.Ok.up (Y1 hc.F _ _) og) hp hr (by rw[hu];exact E4 _ _ _),?_⟩;grind [Nd,Nf]
 ·have hl:a.aA n≠0:=hl;have jd:(kp a b c).aA n=a.aA n:=rfl;rw[jd];apply gO;refine bI (pz 17) ?_;exact⟨a.aA n,c,(aK _ hl).symm,hc.up (Nat.le_refl _) og,rfl⟩
set_option maxHeartbeats 8000000 in
def WZ(a:KA)(b:KZ)(c:KC)(N:Nat)(T:Int)(ho:a.Ok T)(hc:cK a c N T)(hT:T<=800000)(n z:Int):Spec Tryz.prog 39 [az b.kb 0 0,iI n,iI z] (cW a b c []) (fun v H1=>∃ (e:Int) (c1:KC),v=ay 102 e/\cK a c1 N (T+15)/\H1=(cW a b c1 [])):=by
 refine Spec.go 31 [0,1,2,6,8,16,24] [] Tryz.func39 fun W=> ?_;refine ca (eW b.kb (kp a b c) n) .h1 ?_;rintro _ _ ⟨⟨hl,rfl⟩ | ⟨hl,rfl⟩,rfl⟩
 ·obtain⟨jV,ic⟩:=bJ hl;have hl:a.aA n=0:=hl;have ic:(a.u n).st=1:=ic;have hz:=ho.tz hl;have iC:=hc.tb _ hz.1.1 hz.1.2 hz.2;have zo:=hc.sh og;apply gO;refine cq (jQ b.kb (kp a b c) a.s n) (pk [0,1]) ?_;refine cq (AI b.kb (kp a b c) a.s _) (pz 2) ?_;refine cd ?_ ?_<;>intro h1
  ·refine aO rfl rfl (ah (pk (0::1::rr 15 0 [])) rfl ?_);exact⟨8,c,rfl,hc.up (Nat.le_refl _) og,rfl⟩
  ·apply XR.mono fun _ bL=>gR (z:=(a.s.bU n).1.toNat) (dV hz.1 hz.2) (pk [15,15]) bL;have eR:dh c.rp c.rc 3 c.rl=dh c.F.rP c.F.rC 3 c.F.toFF.roots:=by rw[hc.rp,hc.rc,hc.rl]
   try unfold cW
   rw[eR];refine cq (iR a b c n hz) (pk [4,4]) ?_;refine ca (ZI _ _ _ _ _ _ _ _ _ iC.rv iC.mc iC.len c.F c.dF T hc.F og z) (pk [2,2,11,11,11,11]) ?_;rintro _ _ (⟨fN,rfl,rfl⟩ | ⟨hre,rfl,u,hu,tq,hp,hr,rfl⟩)
   ·apply gO;refine XR.mono (fun _ bL=>gP (z:=(a.s.bU n).1.toNat) (dV hz.1 hz.2) (pk [0,0,6,6]) bL) ?_;refine aO rfl rfl (ah (pk (6::7::rr 7 6 (rr 6 2 [0,0]))) rfl ?_);try dsimp only[aU,aS,bG,bN]
    grind [cK.up]
   ·apply gO;refine XR.mono (fun _ bL=>yV (z:=(a.s.bU n).1.toNat) (⟨(c.t (a.s.bU n).1.toNat).b,⟨z,c.F.toFF.fW z⟩,[],none,0,0,0,C0⟩:TB) (dV hz.1 hz.2) (pk [0,0,6,6]) bL) ?_;refine aO rfl rfl (ah (pk (6::7::rr 7 6 (rr 6 2 [0,0]))) rfl ?_);rw[<-eR];refine⟨0,{c with F:=u,t:=aJ c.t (a.s.bU n).1.toNat (⟨(c.t (a.s.bU n).1.toNat).b,⟨z,c.F.toFF.fW z⟩,[],none,0,0,0,C0⟩:TB)},rfl,hc.tab ⟨afQ,fun i hi=>absurd hi (by show ¬i<0*4;omega),(by show 0<=6;omega)⟩ (FF.Ok.up tq og) hp hr (by rw[hu,sU];exact ks _ _),?_⟩;grind [Nd,Nf]
 ·have hl:a.aA n≠0:=hl;have jd:(kp a b c).aA n=a.aA n:=rfl;rw[jd];apply gO;refine bI (pz 17) ?_;exact⟨a.aA n,c,(aK _ hl).symm,hc.up (Nat.le_refl _) og,rfl⟩
def W0(a:KA)(b:KZ)(c:KC)(N:Nat)(T:Int)(ho:a.Ok T)(hc:cK a c N T)(hT:T<=800000):Spec Tryz.prog 38 [az b.kb 0 0] (cW a b c []) (fun v H1=>∃ (m e:Int) (c1:KC),v= .tuple #[iI m,ay 102 e]/\cK a c1 N (T+15)/\H1=(cW a b c1 [])):=by
 refine Spec.go 11 [0,2,3] [] Tryz.func38 fun W=> ?_;have eR:dh c.rp c.rc 3 c.rl=dh c.F.rP c.F.rC 3 c.F.toFF.roots:=by rw[hc.rp,hc.rc,hc.rl]
 try unfold cW
 rw[eR];apply ld .aa (aG.BH _);refine ca (Px _ _ c.F (hc.sh og)) (pk [9,9,9,9]) ?_;rintro _ _ ⟨t,rfl,ht,rfl⟩;apply gO;refine bA rfl rfl rfl (ah (pk (rr 9 4 (rr 8 0 []))) rfl ?_);obtain⟨d1,tq⟩:=hc.F.yF;exact⟨_,_,{c with F:=t,dF:=d1,rp:=t.rP,rc:=t.rC,rl:=t.toFF.roots},rfl,⟨hc.qO.mono (Nat.le_refl _) og,hc.qR,(by show t.toFF.Ok _ _;rw[ht];exact FF.Ok.up tq og),rfl,rfl,rfl,hc.tb,hc.tk⟩,rfl⟩
set_option maxHeartbeats 16000000 in
def Z3(a:KA)(b:KZ)(c:KC)(N:Nat)(T:Int)(ho:a.Ok T)(hc:cK a c N T)(hT:T<=800000)(n:Int)(x:ByteArray)(hx:x.size<=100000)(o m:Bool):Spec Tryz.prog 163 [az b.kb 0 0,iI n,.string x,.bool o,.bool m] (cW a b c []) (fun v H1=>∃ (a1:KA) (r e:Int) (c1:KC),v= .tuple #[iI r,ay 102 e]/\a.O0 n a1/\cK a1 c1 N (T+15)/\H1=(cW a1 b c1 [])):=by
 refine Spec.go 106 [0,1,2,3,4,10,11,12,13,14,15,16,17,18,19,20,28,41,58,69,83,96] [(9,1)] Tryz.func163 fun W=> ?_;refine ca (eW b.kb (kp a b c) n) .h1 ?_;rintro _ _ ⟨⟨hl,rfl⟩ | ⟨hl,rfl⟩,rfl⟩
 ·obtain⟨jV,ic⟩:=bJ hl;have hl:a.aA n=0:=hl;have ic:(a.u n).st=1:=ic;have hz:=ho.tz hl;have iC:=hc.tb _ hz.1.1 hz.1.2 hz.2;have zo:=hc.sh og;have h1:a.mZ n=jO (a.u n).fd 0:=rfl;apply gO;refine cq (Ci a b c n jV 0) .h1 ?_;refine sp 34 rfl ?_ ?_<;>intro h1
  ·refine eH (pz 17) ?_;exact⟨a,0,4,c,rfl,.inl rfl,hc.up (Nat.le_refl _) og,rfl⟩
  ·have hs0:¬a.mZ n<0:=h1;have CD:=vB (a.u n).fd 0;apply ld .aa (gM _);refine cq (adJ _ _ _ _ a.O T og ho.wk.OI 1) (pk [14]) ?_;refine wM ?_ ?_<;>intro h2
   ·try simp only[sb]at h2
    refine bA rfl rfl rfl (ah (pk (rr 14 1 [0,0,0])) rfl ?_);exact⟨a,0,4,c,rfl,.inl rfl,hc.up (Nat.le_refl _) og,rfl⟩
   ·try simp only[sb]at h2
    apply XR.mono fun _ bL=>gR (z:=(a.s.bU n).1.toNat) (dV hz.1 hz.2) (pk [15,15]) bL;refine cq (iR a b c n hz) (pk [5,6]) ?_;refine cq (Eo _ _ _ _ _ _ _ _ _ iC.rv iC.mc iC.len c.F zo x hx) (pk [2,2,12,12,12]) ?_;apply XO.bQ (z:=.agg (WH.cR WH.nil)) (m:=2) (C:=aY WH.nil) (aY.box _);intro bw;apply gO;refine gn .aa (aY.st _ _) rfl ⟨rfl,rfl⟩ (XR.mono (fun _ bL=>gP (z:=(a.s.bU n).1.toNat) (dV hz.1 hz.2) (pk [1,1,6,6]) bL) ?_);refine ld (.t2 .aa) (aY.Ev _) ?_;apply ctG (σ:=Int×Int×FC×(Int->Nat)) (fun y=>cK a {c with F:=y.2.2.1,dF:=y.2.2.2} N (T+1)) (fun y=>[(0,az b.kb 0 0),(3,.bool o),(12,az b.kb 0 (0+0+n.toNat*22)),(13,ay 102 y.2.1),(14,iI (a.mZ n)),(16,iI y.1)]) fun y=>XM W (cm (cW a b c [])) [.cells b.kb 0 453 (aG (kp a b {c with F:=y.2.2.1,dF:=y.2.2.2})),.cells b.gb 0 60 (bH a.g),.cells b.sb 0 158 (Sp.aL a.s),.cells b.qb 0 2281 (aH {c with F:=y.2.2.1,dF:=y.2.2.2}.q),.aW ck (SC.dg 254 {c with F:=y.2.2.1,dF:=y.2.2.2}.q),.cells b.bb 0 577 (dM b.vp a.v.fR a.v.rf),.cells b.vp 0 71 (Vm.bO a.v.bb.fp),.dR (jg a) {c with F:=y.2.2.1,dF:=y.2.2.2}.mb 34 (cN b.bb a.f {c with F:=y.2.2.1,dF:=y.2.2.2}.pp {c with F:=y.2.2.1,dF:=y.2.2.2}.cc),.aW (jg a) (rN 171 a.f {c with F:=y.2.2.1,dF:=y.2.2.2}.pp {c with F:=y.2.2.1,dF:=y.2.2.2}.cc),.cells b.tb 0 321 (aC {c with F:=y.2.2.1,dF:=y.2.2.2}.F),.aW au (FC.bd 9 {c with F:=y.2.2.1,dF:=y.2.2.2}.F),.aW au (FC.bh 3 {c with F:=y.2.2.1,dF:=y.2.2.2}.F),dh {c with F:=y.2.2.1,dF:=y.2.2.2}.rp {c with F:=y.2.2.1,dF:=y.2.2.2}.rc 3 {c with F:=y.2.2.1,dF:=y.2.2.2}.rl,.cells b.pi 0 24 (Tr.bO a.P),.cells b.ob 0 122 (bu b.tb b.pi a.O),.dR (lu a) (fun z=>({c with F:=y.2.2.1,dF:=y.2.2.2}.t z).b) 4 (cT b.tb {c with F:=y.2.2.1,dF:=y.2.2.2}.t),.aW (lu a) (rT 168 {c with F:=y.2.2.1,dF:=y.2.2.2}.t)]
    ·refine XO.v (Oc rfl rfl dq Tryz.underlying33 PK rfl Tryz.underlying102 rfl) rfl (gO ?_);refine sp 56 rfl ?_ ?_<;>intro h3
     ·refine wM ?_ ?_<;>intro h4
      ·try simp only[sb]at h4
       apply XR.mono fun _ bL=>gR (z:=(a.s.bU n).1.toNat) (dV hz.1 hz.2) (pz 2) bL;refine cq (iR a b c n hz) (pk [8,8]) ?_;refine cq (AL _ _ _ _ _ _ _ _ _ iC.rv iC.mc iC.len c.F zo x hx) (pk [2,2,5,5,5]) ?_;apply XO.bQ (z:=.agg (WH.cR WH.nil)) (m:=2) (C:=aY WH.nil) (aY.box _);intro bw2;apply gO;refine gn .aa (aY.st _ _) rfl ⟨rfl,rfl⟩ (XR.mono (fun _ bL=>gP (z:=(a.s.bU n).1.toNat) (dV hz.1 hz.2) (pk [1,1,6,6]) bL) ?_);refine cd ?_ ?_<;>intro h5
       ·refine bA rfl rfl rfl (ah (pk [6,9,6,8,8,8,8,8,8,3,3,3,5,5,4,0,0]) rfl ?_);exact⟨a,0,_,c,rfl,.inl rfl,hc.up (Nat.le_refl _) og,rfl⟩
       ·refine rq [0,1,2,3,4,5,6,7,8,9,10,11,12] mixed (ld (.t6 .aa) (aG.BH _) (ld (.t2 .aa) (aY.Ev _) ?_));refine ca (Wp _ _ c.F zo _ _ 1 (by have:=zf c.F.toFF (c.t (a.s.bU n).1.toNat).l (c.t (a.s.bU n).1.toNat).r x;omega)) (pk [3,3,3]) ?_;rintro _ _ ⟨rfl,t,ht,hp,hr,rfl⟩;obtain⟨d1,tq⟩:=hc.F.make (uz c.F.toFF (c.t (a.s.bU n).1.toNat).l (c.t (a.s.bU n).1.toNat).r x).node (ra c.F.toFF (c.t (a.s.bU n).1.toNat).l (c.t (a.s.bU n).1.toNat).r x) 1;apply gO;refine nJ ((_,_,t,d1)) ?_ S6 (xq (pk [6,9,6,8,8,8,8,8,8,0,0,0,5,5,4,0,0]));grind [cK.Nc,D1]
      ·try simp only[sb]at h4
       refine nJ ((_,_,c.F,c.dF)) ?_ S6 (xq (pk [6,8,6,7,7,7,7,7,7,3,3,3,4,4,3,0,0]));exact hc.up (Nat.le_refl _) og
     ·refine nJ ((_,_,c.F,c.dF)) ?_ S6 (xq (pk [6,8,6,7,7,7,7,7,7,3,3,3,4,4,3,0,0]));exact hc.up (Nat.le_refl _) og
    intro y hy;apply gC;refine cd ?_ ?_<;>intro h6
    ·refine eH (pz 17) ?_;try dsimp only[aU,aS,bG,bN]
     grind [cK.up,KA.O0]
    ·apply ld .aa (gM _);refine ca (adF _ _ _ _ a.O y.2.2.1 (hy.sh og) y.1 o) (pk [14,9,9,9]) ?_;rintro _ _ ⟨rfl,t,ht,hp,hr,rfl⟩;apply gO;refine cd ?_ ?_<;>intro h7
     ·have hoe:nS y.2.2.1.toFF a.O y.1≠0:=h7;refine bA rfl rfl rfl (ah (pk (rr 9 4 [1,1,1,1,1,0,0,0])) rfl ?_);have hO:qg y.2.2.1.toFF a.O y.1 o=a.O:=by unfold qg;rw[if_neg hoe]
      rw[hO];exact⟨a,0,_,{c with F:=t,dF:=y.2.2.2},rfl,.inl rfl,hy.Nc (c:= {c with F:=y.2.2.1,dF:=y.2.2.2}) (by rw[ht];exact Gw hy.F _ _) og hp hr (by rw[ht];exact zg _ _ _),rfl⟩
     ·have hoe:¬nS y.2.2.1.toFF a.O y.1≠0:=h7;have hof:¬a.O.first<0:=by
       intro q;unfold nS at hoe;omega
      have hor:=Tr.OS.nD hof;have hov:uw y.2.2.1.toFF a.O y.1=a.O.first:=by unfold uw;rw[if_pos og]
      refine sd (sd (st (.t4 .aa) (lJ _ jV ⟨CD.1,CD.2.1⟩ _) rfl (bA rfl rfl rfl (ah (pk (rr 9 4 [1,1,1,1,1,0,0,0])) rfl ?_)))) (by first | omega | (rw[hov];omega));have hO:qg y.2.2.1.toFF a.O y.1 o=a.O.lay a.O.first 1 y.1 o:=by unfold qg;rw[if_pos og]
      rw[hO,hov];refine⟨a.VN n y.1 o,_,0,{c with F:=t,dF:=y.2.2.2},rfl,.inr ⟨y.1,o,hl,⟨CD.1,CD.2.1⟩,⟨hor.1,hor.2.1⟩,rfl⟩,hy.Nc (c:= {c with F:=y.2.2.1,dF:=y.2.2.2}) (by rw[ht];exact Gw hy.F _ _) og hp hr (by rw[ht];exact zg _ _ _) rfl fun m q=>by show(Bn _ _ _ _ _).st=1;rw[(kr _ _ _ _ _).1];exact q,?_⟩;unfold KA.VN;try unfold cW
      rw[HQ,<-DS a b {c with F:=t,dF:=y.2.2.2} n (a.mZ n) (a.O.first+1) (a.O.lay a.O.first 1 y.1 o) a.P];rfl
 ·have hl:a.aA n≠0:=hl;have jd:(kp a b c).aA n=a.aA n:=rfl;rw[jd];apply gO;refine eH (pz 17) ?_;try dsimp only[aU,aS,bG,bN]
  exact⟨a,0,a.aA n,c,(by rw[aK _ hl]),.inl rfl,hc.up (Nat.le_refl _) og,rfl⟩
end Go.X.Kn

namespace Go.X.Kn
open Go Go.Proofs Go.X Go.X.Tr
set_option maxRecDepth 20000
set_option maxHeartbeats 4000000
def AK:n5 Tryz.prog 211=true:=kq
def nI:fm Tryz.prog 211=some 4:=kq
attribute [local irreducible] KA.dc KA.cH
set_option maxHeartbeats 8000000 in
def W1(a:KA)(b:KZ)(c:KC)(N:Nat)(T:Int)(ho:a.Ok T)(hc:cK a c N T)(hT:T<=800000)(n:Int)(x:ByteArray)(hx:x.size<=100000):Spec Tryz.prog 172 [az b.kb 0 0,iI n,.string x] (cW a b c []) (fun v H1=>∃ (p:Option Addr) (k:Nat) (ns:List ByteArray) (e:Int),(ns.length<=8/\∀ y∈ns,y.size<=8)/\v= .tuple #[.slice p ns.length k,ay 102 e]/\H1=jZ p k 9 ns::(cW a b c [])):=by
 refine Spec.go 40 [0,1,2,6,7,9,10,18,29] [] Tryz.func172 fun W=> ?_;refine ca (eW b.kb (kp a b c) n) .h1 ?_;rintro _ _ ⟨⟨hl,rfl⟩ | ⟨hl,rfl⟩,rfl⟩
 ·obtain⟨jV,ic⟩:=bJ hl;have hl:a.aA n=0:=hl;have ic:(a.u n).st=1:=ic;have hz:=ho.tz hl;have iC:=hc.tb _ hz.1.1 hz.1.2 hz.2;have zo:=hc.sh og;apply gO;apply XR.mono fun _ bL=>gR (z:=(a.s.bU n).1.toNat) (dV hz.1 hz.2) (pk [15,15]) bL;refine cq (iR a b c n hz) (pk [4,5]) ?_;refine cq (Eo _ _ _ _ _ _ _ _ _ iC.rv iC.mc iC.len c.F zo x hx) (pk [2,2,11,11,11]) ?_;apply XO.bQ (z:=.agg (WH.cR WH.nil)) (m:=2) (C:=aY WH.nil) (aY.box _);intro bw;apply gO;refine gn .aa (aY.st _ _) rfl ⟨rfl,rfl⟩ (XR.mono (fun _ bL=>gP (z:=(a.s.bU n).1.toNat) (dV hz.1 hz.2) (pk [1,1,6,6]) bL) ?_);refine cd ?_ ?_<;>intro h1
  ·refine XR.fF 9 1 (bA rfl rfl rfl (ah (pk (0::6::7::rr 7 6 (rr 6 3 [0,0]))) rfl ?_));exact⟨none,0,[],_,⟨dq,fun y q=>by cases q⟩,rfl,rfl⟩
  ·refine rq [0,1,2,3,4,5,6,7,8,9,10] mixed (ld (.t6 .aa) (aG.BH _) (ld (.t2 .aa) (aY.Ev _) ?_));refine ca (ady _ _ c.F zo _) (pk [3,3,3]) ?_;rintro _ _ (⟨hle,rfl,rfl⟩ | ⟨hle,p,k,rfl,rfl⟩)
   ·apply gO;refine XR.fF 9 1 (bA rfl rfl rfl (ah (pk [0,6,7,6,6,6,6,6,6,6,0,0,0,3,3,3,0,0]) rfl ?_));exact⟨none,0,[],_,⟨dq,fun y q=>by cases q⟩,rfl,rfl⟩
   ·apply gO;refine bA rfl rfl rfl (ah (pk [0,6,7,6,6,6,6,6,6,6,0,0,0,3,3,3,0,0]) rfl ?_);exact⟨p,k,_,0,Ze hc.F hle,rfl,rfl⟩
 ·have hl:a.aA n≠0:=hl;have jd:(kp a b c).aA n=a.aA n:=rfl;rw[jd];apply gO;refine XR.fF 9 1 (bA rfl rfl rfl (ah (pz 18) rfl ?_));exact⟨none,0,[],a.aA n,⟨dq,fun y q=>by cases q⟩,by rw[aK _ hl];rfl,rfl⟩
set_option maxHeartbeats 8000000 in
def Z4(a:KA)(b:KZ)(c:KC)(N:Nat)(T:Int)(ho:a.Ok T)(hc:cK a c N T)(hT:T<=800000)(n:Int)(x:ByteArray)(hx:x.size<=100000):Spec Tryz.prog 173 [az b.kb 0 0,iI n,.string x] (cW a b c []) (fun v H1=>(∃ (k:NV) (e:Int),NVs k/\v= .tuple #[.agg k.cR,ay 102 e])/\H1=(cW a b c [])):=by
 refine Spec.go 42 [0,1,2,6,7,9,10,18,30] [] Tryz.func173 fun W=> ?_;apply XO.bQ (z:=.agg NV.zero.cR) (m:=4) (C:=nZ NV.zero) (oH _);intro bg;apply gO;refine ca (eW b.kb (kp a b c) n) (pk [1]) ?_;rintro _ _ ⟨⟨hl,rfl⟩ | ⟨hl,rfl⟩,rfl⟩
 ·obtain⟨jV,ic⟩:=bJ hl;have hl:a.aA n=0:=hl;have ic:(a.u n).st=1:=ic;have hz:=ho.tz hl;have iC:=hc.tb _ hz.1.1 hz.1.2 hz.2;have zo:=hc.sh og;apply gO;apply XR.mono fun _ bL=>gR (z:=(a.s.bU n).1.toNat) (dV hz.1 hz.2) (pk [16,16]) bL;refine cq (iR a b c n hz) (pk [4,6]) ?_;refine cq (Eo _ _ _ _ _ _ _ _ _ iC.rv iC.mc iC.len c.F zo x hx) (pk [2,2,12,12,12]) ?_;apply XO.bQ (z:=.agg (WH.cR WH.nil)) (m:=2) (C:=aY WH.nil) (aY.box _);intro bw;apply gO;refine gn .aa (aY.st _ _) rfl ⟨rfl,rfl⟩ (XR.mono (fun _ bL=>gP (z:=(a.s.bU n).1.toNat) (dV hz.1 hz.2) (pk [1,1,6,6]) bL) ?_);refine cd ?_ ?_<;>intro h1
  ·refine XO.v (V.build (vs:= #[]) rfl (v:=.agg NV.zero.cR) fun _=>kq) rfl (gO ?_);refine gn (.t8 .aa) (mh _ _) rfl ⟨rfl,rfl⟩ (dY rfl (.agg rfl (.t8 .aa) (q9 _) AK nI) (.tmp rfl) (ah (pk [6,8,6,7,7,7,7,7,7,3,3,3,4,4,4,0,0]) rfl ?_));try dsimp only[aU,aS,bG,bN]
   grind [afY]
  ·refine rq [0,1,2,3,4,5,6,7,8,9,10] mixed (ld (.t6 .aa) (aG.BH _) (ld (.t2 .aa) (aY.Ev _) ?_));refine cq (Tr.No _ _ c.F zo _) (pk [3]) ?_;refine gn (.t8 .aa) (mh _ _) rfl ⟨rfl,rfl⟩ (dY rfl (.agg rfl (.t8 .aa) (q9 _) AK nI) (.tmp rfl) (ah (pk [6,8,6,7,7,7,7,7,7,0,3,3,4,4,4,0,0]) rfl ?_));exact⟨⟨_,_,afX hc.F og _,rfl⟩,rfl⟩
 ·have hl:a.aA n≠0:=hl;have jd:(kp a b c).aA n=a.aA n:=rfl;rw[jd];apply gO;refine XO.v (V.build (vs:= #[]) rfl (v:=.agg NV.zero.cR) fun _=>kq) rfl (gO ?_);refine gn (.ao .aa) (mh _ _) rfl ⟨rfl,rfl⟩ (dY rfl (.agg rfl (.ao .aa) (q9 _) AK nI) (.tmp rfl) (ah (pk (0::rr 16 1 [])) rfl ?_));try dsimp only[aU,aS,bG,bN]
  exact⟨⟨_,a.aA n,afY,by rw[aK _ hl]⟩,rfl⟩
end Go.X.Kn

namespace Go.X.Kn
open Go Go.Proofs Go.X
set_option maxRecDepth 20000
set_option maxHeartbeats 4000000
def uP(z:Int):∀ w,(Instr.buildSlice 55 1 #[(0,iI z)]).run Tryz.prog w= .ok (.slice (some ⟨w.heap.size,0,none⟩) 1 1) (w.alloc (.cells #[iI z] 3)):=fun w=>kq
def qp:rF Tryz.prog 3 1=true:=kq
attribute [local irreducible] KA.dc KA.cH
end Go.X.Kn

namespace Go.X.Fa
open Go Go.Proofs Go.X
set_option maxRecDepth 20000
set_option maxHeartbeats 4000000
def Wu:Spec Tryz.prog 97 [] [] (fun v H1=>∃ p,v=az p 0 0/\∃ t:SC,t.toSF=SF.cC/\t.mv/\H1=[.cells p 0 2281 (aH t),.aW ck (t.dg 254)]):=by
 refine Spec.go 10 [0,1] [] Tryz.func97 fun W=> ?_;refine XO.v (V.build (vs:= #[]) rfl (v:=.agg T5) fun _=>kq) rfl (gO ?_);refine XO.box (m:=2281) (C:=aH SC.du) rfl Qn T6 rfl ?_;intro p;apply XO.mono fun _ bL=>Ma 254 bL;apply gO;refine XO.v (V.build (vs:= #[(0,.bool true),(1,iI (-1)),(2,iI 1)]) rfl (v:=.agg (lW (wQ true (-1) 1))) fun _=>kq) rfl (gO ?_);refine sd ?_;apply oS;apply XO.gg rfl rfl (.ao .aa) (tS _ 0 (-1) 1 true) (o4 _) rn;apply XO.mono fun _ bL=>XM.newRow (s:=SC.du) (z:=0) og .h1 bL;apply gO;refine bI (pk [1,0]) ?_;exact⟨_,rfl,_,rfl,SC.mv.du.new rfl (fun i hi=>by cases hi) (-1) 1 true,rfl⟩
end Go.X.Fa
