import Derived.Test.YthdinakloheinaaGreatDoorkJC2
set_option linter.all false
set_option maxRecDepth 20000
set_option maxHeartbeats 16000000
open Go.Proofs.Tryz
namespace Go.X.Kn
open Go Go.Proofs Go.X Go.X.Sg Go.X.Tr
attribute [local irreducible] KA.db KA.cL
def Sb:Tryz.prog.info? 102=some Tryz.t102:=kq
theorem cP.same{a a':KA}{c:KC}{N:Nat}{T T':Int}(h:cP a c N T)(hT:T<=T')(e:a'.s=a.s)(hu:∀ n,(a.u n).st=1->(a'.u n).st=1:=by exact fun _ q=>q):cP a' c N T':=⟨h.qO.mono (Nat.le_refl _) og,h.qR,FF.Ok.up h.F hT,h.rp,h.rc,h.rl,fun z h0 h1 h2=>h.tb z h0 h1 (by rwa[e]at h2),fun n n0 n1 hn=>hu n (h.tk n n0 n1 hn)⟩
theorem Zn(a:KA)(n i v j w:Int)(O:Tr.OS)(P:Tr.PS):ka {a with u:=rG (rG a.u n i v) n j w,O:=O,P:=P} =ka a:=by grind [jI,ka]
def P5{F:Tr.FF}{d:Int->Nat}{B:Int}(h:F.Ok d B)(O:Tr.OS)(n:Int)(x:ByteArray):(iV F O n x).Ok d (B+1):=by
 unfold iV;split
 ·exact h.cC _ _ _
 ·exact h.up1
def F9(a:KA)(b:KZ)(c:KC)(N:Nat)(T:Int)(ho:a.Ok T)(hc:cP a c N T)(hT:T<=800000)(n i:Int):Fn 25 [ay b.kb 0 0,iI n,iI i] (du a b c []) (fun v H1=>v=ax 102 (a.lg c.F.toFF n i)/\∃ c1:KC,cP (a.gh n i) c1 N T/\H1=(du (a.gh n i) b c1 [])):=by
 refine Spec.g 33 [0,1,2,6,7,8,17] func25 fun W=> ?_;refine cq (A1 a b c ho.wk.fd n i) .h1 ?_;apply (cd)<;>intro h1
 ·refine bL (pz 17) ?_;grind [aR,aQ,KA.lg,KA.gh]
 ·have KH:a.eY n i=0:=og;obtain⟨hn,hs,hi,hf,hv⟩:=KA.rE KH;have hfd:=ho.wk.fd n i;refine sd (sd (st .aa (mB _ hn hi _) rfl (ld .aa (gw _) ?_)));refine ca (R3 _ _ _ _ _ T og ho.wk.OI c.F (hc.F.sh og) T og _ ho.wk.PI (a.cW n i)) (pk [14,9,9,9,10]) ?_;rintro _ _ ⟨rfl,F1,P4,RZ,Kf,rfl⟩;apply gO;refine aO rfl rfl (ai (pk (rr 9 5 [1,1,1,2,1,0,0,0])) rfl ?_);have e1:a.lg c.F.toFF n i=Tr.lg c.F.toFF a.P a.O (a.cW n i):=by unfold KA.lg;rw[if_neg og]
  have e2:a.gh n i= {a with u:=rG a.u n i 0,O:=iH a.O (a.cW n i),P:=j7 a.P a.O (a.cW n i)} :=by unfold KA.gh;rw[if_neg og]
  rw[e1,e2];refine⟨rfl,{c with F:=F1},⟨hc.qO,hc.qR,(by show F1.toFF.Ok _ _;rw[P4];exact FF.Ok.vT hc.F _ _),RZ.trans hc.rp,Kf.trans hc.rc,(by show F1.toFF.roots=_;rw[P4,Ax];exact hc.rl),hc.tb,fun m m0 m1 hm=>by rw[(jI _ _ _ _ _).1];exact hc.tk m m0 m1 hm⟩,?_⟩;try unfold du
  rw[J0,Fi a b c n i 0 (iH a.O (a.cW n i)) (j7 a.P a.O (a.cW n i))];rfl
def agZ(a:KA)(b:KZ)(c:KC)(N:Nat)(T:Int)(ho:a.Ok T)(hc:cP a c N T)(hT:T<=800000)(n i:Int):Fn 164 [ay b.kb 0 0,iI n,iI i] (du a b c []) (fun v H1=>v= .tuple #[iI (a.M1 n i),ax 102 (a.M0 n i)]/\∃ c1:KC,cP (a.zb n i) c1 N (T+1)/\H1=(du (a.zb n i) b c1 [])):=by
 refine Spec.g 47 [0,1,2,6,7,8,9,10,19,28] func164 fun W=> ?_;refine cq (A1 a b c ho.wk.fd n i) .h1 ?_;apply (cd)<;>intro h1
 ·refine fg (pz 17) ?_;have e1:a.M0 n i=a.eY n i:=by unfold KA.M0;rw[if_pos og]
  have e2:a.M1 n i=0:=by unfold KA.M1;rw[if_pos (.inl og)]
  have e3:a.zb n i=a:=by unfold KA.zb;rw[if_pos (.inl og)]
  rw[e1,e2,e3];exact⟨rfl,c,hc.up (Nat.le_refl _) og,rfl⟩
 ·have KH:a.eY n i=0:=og;obtain⟨hn,hs,hi,hf,hv⟩:=KA.rE KH;have hfd:=ho.wk.fd n i;apply (sd);refine cq (DN a b c n hn 0) .h1 ?_;apply (cd)<;>intro h2
  ·refine fg (pz 17) ?_;have D9:a.jN n<0:=by unfold KA.jN;omega
   have e1:a.M0 n i=4:=by unfold KA.M0;rw[if_neg og,if_pos D9]
   have e2:a.M1 n i=0:=by unfold KA.M1;rw[if_pos (.inr D9)]
   have e3:a.zb n i=a:=by unfold KA.zb;rw[if_pos (.inr D9)]
   rw[e1,e2,e3];exact⟨rfl,c,hc.up (Nat.le_refl _) og,rfl⟩
  ·have D9:=pP (a.u n).fd 0;refine sd (sd (sd (st .aa (mB _ hn ⟨D9.1,D9.2.1⟩ _) rfl (ld .aa (gw _) ?_))));refine cq (Kp _ _ _ _ _ T og ho.wk.OI (a.cW n i)) (pk [14]) ?_;refine bC rfl rfl rfl (ai (pk (rr 14 1 [0,0,0])) rfl ?_);have hs2:¬a.jN n<0:=by unfold KA.jN;omega
   have e1:a.M0 n i=a.O.is (a.cW n i):=by unfold KA.M0;rw[if_neg og,if_neg hs2]
   have e2:a.M1 n i=a.jN n:=by unfold KA.M1;rw[if_neg og]
   have e3:a.zb n i= {a with u:=rG a.u n (a.jN n) (a.cW n i+1),O:=mj a.O (a.cW n i),P:=a.P} :=by unfold KA.zb;rw[if_neg og]
   rw[e1,e2,e3];refine⟨rfl,c,hc.same og rfl fun m q=>by rw[(jI _ _ _ _ _).1];exact q,?_⟩;try unfold du
   rw[J0,<-Fi a b c n (a.jN n) (a.cW n i+1) (mj a.O (a.cW n i)) a.P];rfl
def acL(a:KA)(b:KZ)(c:KC)(N:Nat)(T:Int)(ho:a.Ok T)(hc:cP a c N T)(hT:T<=800000)(n:Int):Fn 20 [ay b.kb 0 0,iI n] (du a b c []) (fun v H1=>v= .tuple #[iI (a.AJ n),iI (a.AK n),ax 102 (a.wb n)]/\∃ c1:KC,cP (a.o9 n) c1 N (T+1)/\H1=(du (a.o9 n) b c1 [])):=by
 have hop:=Ig a.P a.O;have h1:a.jN n=jQ (a.u n).fd 0:=rfl;have h2:a.qZ n=jQ (a.u n).fd (jQ (a.u n).fd 0+1):=rfl;refine Spec.g 62 [0,1,4,5,6,7,8,9,10,11,12,20,25,32,44] func20 fun W=> ?_;refine ca (fm b.kb (kp a b c) n) .h1 ?_;rintro _ _ ⟨⟨hl,rfl⟩ | ⟨hl,rfl⟩,rfl⟩
 obtain⟨kL,iw⟩:=bM hl;have hl:a.aF n=0:=hl;have iw:(a.u n).st=1:=iw;apply gO;refine cq (DN a b c n kL 0) .h1 ?_;apply (cd)<;>intro h1;rotate_left
 have D9:=pP (a.u n).fd 0;apply (sd);refine cq (DN a b c n kL (jQ (a.u n).fd 0+1)) .h1 ?_;apply (cd)<;>intro h2;rotate_left
 ·have hsm:=pP (a.u n).fd (jQ (a.u n).fd 0+1);apply ld .aa (gw _);refine cq (agL _ _ _ _ _ T og _ ho.wk.PI) (pk [14,13]) ?_;apply (cd)<;>intro h3
  ·refine wy rfl rfl rfl rfl (ai (pk (rr 13 2 [1,0,0,0])) rfl ?_);have e1:a.wb n=im a.P a.O:=by unfold KA.wb;rw[if_neg og,if_neg og]
   have h0:¬im a.P a.O=0:=og;have e2:a.AJ n=0:=by unfold KA.AJ;rw[if_neg og]
   have e3:a.AK n=0:=by unfold KA.AK;rw[if_neg og]
   have e4:a.o9 n= {a with O:=jl a.P a.O,P:=kA a.P a.O} :=by unfold KA.o9;rw[if_neg og,if_neg h0]
   rw[e1,e2,e3,e4];exact⟨rfl,c,hc.same og rfl,rfl⟩
  ·refine rq [0,1,2,3,4,5,6,7,8,9,10,12,13,11,14,15] mixed (sd (sd (sd (st (.t2 .aa) (mB _ kL ⟨D9.1,D9.2.1⟩ _) rfl (sd (st (.t2 .aa) (mB _ kL ⟨hsm.1,hsm.2.1⟩ _) rfl (wy rfl rfl rfl rfl (ai (pk (rr 13 2 [1,0,0,0])) rfl ?_))))))));have e1:a.wb n=im a.P a.O:=by unfold KA.wb;rw[if_neg og,if_neg og]
   have h0:im a.P a.O=0:=og;have e2:a.AJ n=a.jN n:=by unfold KA.AJ;rw[if_pos og]
   have e3:a.AK n=a.qZ n:=by unfold KA.AK;rw[if_pos og]
   have e4:a.o9 n= {a with u:=rG (rG a.u n (a.jN n) (ml a.P a.O+1)) n (a.qZ n) (nV a.P a.O+1),O:=jl a.P a.O,P:=kA a.P a.O} :=by unfold KA.o9;rw[if_neg og,if_pos h0]
   rw[e1,e2,e3,e4,h0];refine⟨rfl,c,hc.same og rfl fun m q=>by rw[(jI _ _ _ _ _).1,(jI _ _ _ _ _).1];exact q,?_⟩;try unfold du
   rw[Fi a b c n (jQ (a.u n).fd 0) (ml a.P a.O+1) a.O a.P,Fi {a with u:=rG a.u n (jQ (a.u n).fd 0) (ml a.P a.O+1),O:=a.O,P:=a.P} b c n (jQ (a.u n).fd (jQ (a.u n).fd 0+1)) (nV a.P a.O+1) (jl a.P a.O) (kA a.P a.O)];try unfold du
   rw[Zn];rfl
 ·have hl:a.aF n≠0:=hl;have jz:(kp a b c).aF n=a.aF n:=rfl;rw[jz];apply gO;refine rt3 (pz 17) ?_;grind [aR,aQ,bQ,KA.wb,KA.AJ,KA.AK,KA.o9,aL,cP.up]
 all_goals
  refine rt3 (pz 17) ?_;try dsimp only[aR,aQ,bH,bQ]
  grind [KA.wb,KA.AJ,KA.AK,KA.o9,cP.up,ax]
def acM(a:KA)(b:KZ)(c:KC)(N:Nat)(T:Int)(ho:a.Ok T)(hc:cP a c N T)(hT:T<=800000)(n i m:Int):Fn 22 [ay b.kb 0 0,iI n,iI i,iI m] (du a b c []) (fun v H1=>v= .tuple #[.string (a.lH c.F.toFF n i m),ax 102 (a.nf c.F.toFF n i m)]/\∃ c1:KC,cP (a.yi c.F.toFF n i m) c1 N (T+1)/\H1=(du (a.yi c.F.toFF n i m) b c1 [])):=by
 refine Spec.g 31 [0,1,2,3,8,9,10,11,20] func22 fun W=> ?_;refine cq (A1 a b c ho.wk.fd n i) .h1 ?_;apply (cd)<;>intro h1
 ·refine fg (pz 17) ?_;grind [aR,aQ,bQ,KA.nf,KA.lH,KA.yi,cP.up]
 ·have KH:a.eY n i=0:=og;obtain⟨hn,hs,hi,hf,hv⟩:=KA.rE KH;have hfd:=ho.wk.fd n i;apply ld .aa (gw _);refine cq (agI _ _ _ _ _ T og ho.wk.OI c.F (hc.F.sh og) T og _ ho.wk.PI (a.cW n i) m) (pk [14,9,9,9,10]) ?_;refine bC rfl rfl rfl (ai (pk (rr 9 5 [1,1,1,2,1,0,0,0])) rfl ?_);have e1:a.nf c.F.toFF n i m=vO c.F.toFF a.P a.O (a.cW n i) m:=by unfold KA.nf;rw[if_neg og]
  have e2:a.lH c.F.toFF n i m=vP c.F.toFF a.P a.O (a.cW n i) m:=by unfold KA.lH;rw[if_neg og]
  have e3:a.yi c.F.toFF n i m= {a with O:=oZ c.F.toFF a.O (a.cW n i) m,P:=oY a.P a.O (a.cW n i) m} :=by unfold KA.yi;rw[if_neg og]
  rw[e1,e2,e3];exact⟨rfl,c,hc.same og rfl,rfl⟩
def Zo(a:KA)(b:KZ)(c:KC)(N:Nat)(T:Int)(ho:a.Ok T)(hc:cP a c N T)(hT:T<=800000)(n i:Int)(x:ByteArray)(hx:x.size<=1000000):Fn 21 [ay b.kb 0 0,iI n,iI i,.string x] (du a b c [g8]) (fun v H1=>v= .tuple #[iI (a.B3 c.F.toFF n i x),ax 102 (a.fC c.F.toFF n i x)]/\∃ c1:KC,cP (a.nX c.F.toFF n i x) c1 N (T+1)/\H1=(du (a.nX c.F.toFF n i x) b c1 [])):=by
 refine Spec.g 41 [0,1,2,3,8,9,10,11,12,21,35] func21 fun W=> ?_;refine cq (A1 a b c ho.wk.fd n i) .h1 ?_;apply (cd)<;>intro h1
 ·refine fg (pz 17) ?_;grind [aR,aQ,bQ,KA.fC,KA.B3,KA.nX,cP.up]
 ·have KH:a.eY n i=0:=og;obtain⟨hn,hs,hi,hf,hv⟩:=KA.rE KH;have hfd:=ho.wk.fd n i;apply ld .aa (gw _);refine ca (acy _ _ _ _ _ T og ho.wk.OI c.F (hc.F.sh og) T og _ ho.wk.PI (a.cW n i) x hx) (pk [14,9,9,9,10]) ?_;rintro _ _ ⟨rfl,F1,P4,RZ,Kf,rfl⟩;have hcf:cP (a.rH c.F.toFF n i x) {c with F:=F1} N (T+1):=⟨hc.qO,hc.qR,(by show F1.toFF.Ok _ _;rw[P4];exact P5 hc.F _ _ _),RZ.trans hc.rp,Kf.trans hc.rc,(by show F1.toFF.roots=_;rw[P4,GZ];exact hc.rl),hc.tb,hc.tk⟩;apply gO;refine XO.v (QE rfl rfl dq underlying33 Sb rfl underlying102 rfl) rfl (gO ?_);apply (cd)<;>intro h2
  ·refine yy 17 (Zm (a.rH c.F.toFF n i x) b {c with F:=F1} N (T+1) (ho.yj og c.F.toFF n i x).wk hcf og n 2 false ((ho.yj og c.F.toFF n i x).hx.any n)) (pk (rr 9 5 [1,1,1,2,1,0,0,0,0])) rfl ?_;rintro _ _ ⟨c1,ia,rfl⟩;apply gO;refine fg (pz 17) ?_;try dsimp only[aR,aQ,bH,bQ]
   grind [KA.fC,KA.B3,KA.nX]
  ·refine bC rfl rfl rfl (ai (pk (rr 9 5 [1,1,1,2,1,0,0,0])) rfl ?_);have e1:a.fC c.F.toFF n i x=(jt c.F.toFF a.P a.O (a.cW n i) x):=by unfold KA.fC;rw[if_neg og]
   have e2:a.B3 c.F.toFF n i x=j8 c.F.toFF a.P a.O (a.cW n i) x:=by unfold KA.B3;rw[if_neg og]
   have e3:a.nX c.F.toFF n i x=a.rH c.F.toFF n i x:=by unfold KA.nX;rw[if_neg og,if_neg og]
   rw[e1,e2,e3];exact⟨rfl,_,hcf,rfl⟩
def acN(a:KA)(b:KZ)(c:KC)(N:Nat)(T:Int)(ho:a.Ok T)(hc:cP a c N T)(hT:T<=800000)(n i z:Int):Fn 165 [ay b.kb 0 0,iI n,iI i,iI z] (du a b c []) (fun v H1=>v=ax 102 (a.oF n i z)/\∃ c1:KC,cP (a.wc n i z) c1 N (T+1)/\H1=(du (a.wc n i z) b c1 [])):=by
 refine Spec.g 28 [0,1,2,3,8,9,10,19] func165 fun W=> ?_;refine cq (A1 a b c ho.wk.fd n i) .h1 ?_;apply (cd)<;>intro h1
 ·refine bL (pz 17) ?_;have e1:a.oF n i z=a.eY n i:=by unfold KA.oF;rw[if_pos og]
  have e3:a.wc n i z=a:=by unfold KA.wc;rw[if_pos og]
  rw[e1,e3];exact⟨rfl,c,hc.up (Nat.le_refl _) og,rfl⟩
 ·have KH:a.eY n i=0:=og;obtain⟨hn,hs,hi,hf,hv⟩:=KA.rE KH;have hfd:=ho.wk.fd n i;apply ld .aa (gw _);refine cq (agJ _ _ _ _ _ (a.cW n i) z) (pk [14]) ?_;refine aO rfl rfl (ai (pk (rr 14 1 [0,0,0])) rfl ?_);have e1:a.oF n i z=Tr.oF a.O (a.cW n i) z:=by unfold KA.oF;rw[if_neg og]
  have e3:a.wc n i z= {a with O:=uD a.O (a.cW n i) z,P:=a.P} :=by unfold KA.wc;rw[if_neg og]
  rw[e1,e3];exact⟨rfl,c,hc.same og rfl,rfl⟩
open Go.X.Fa Go.X.Gr Go.X.Vm
def ag0(a:KA)(b:KZ)(c:KC)(N:Nat)(T:Int)(ho:a.Ok T)(hc:cP a c N T)(hT:T<=800000)(n f m:Int)(w:Bool):Fn 79 [ay b.kb 0 0,iI n,iI f,iI m,.bool w] (du a b c []) (fun v H1=>v=ax 102 (a.rz n f m)/\∃ c1:KC,cP (a.Dm n f m w) c1 N T/\H1=(du (a.Dm n f m w) b c1 [])):=by
 refine Spec.g 30 [0,1,2,3,4,10,11,12,20] func79 fun W=> ?_;refine ca (fm b.kb (kp a b c) n) .h1 ?_;rintro _ _ ⟨⟨hl,rfl⟩ | ⟨hl,rfl⟩,rfl⟩
 ·obtain⟨kL,iw⟩:=bM hl;have hl:a.aF n=0:=hl;have iw:(a.u n).st=1:=iw;have mI:=qo a b c (n:=n);have NQ:=ho.wk.sys.mo n.toNat og;apply gO;refine XR.mono (fun _ bR=>lz (z:=n.toNat) (fS kL) (pk [7,7]) bR) ?_;refine ld (.t4 .aa) (dQ _ og mI) ?_;refine ca (ajq b.bb _ _ _ (a.f n.toNat) NQ _ _ _) (pz 2) ?_;rintro _ _ ⟨rfl,pu,cu,rfl⟩;apply gO;refine XR.mono (fun _ bR=>mZ ((a.f n.toNat).map f m w) (fS kL) (pz 4) bR) ?_;refine aO rfl rfl (ai (pk (rr 7 2 (rr 10 0 []))) rfl ?_);have e1:a.rz n f m=(a.f n.toNat).rz f m:=by unfold KA.rz;rw[if_neg og]
  have e2:a.Dm n f m w= {a with v:=a.v,f:=bD a.f n.toNat ((a.f n.toNat).map f m w),g:=a.g} :=by unfold KA.Dm;rw[if_neg og]
  rw[e1,e2];exact⟨rfl,{c with pp:=bD c.pp n.toNat pu,cc:=bD c.cc n.toNat cu},⟨hc.qO,hc.qR,hc.F,hc.rp,hc.rc,hc.rl,hc.tb,hc.tk⟩,rfl⟩
 ·have hl:a.aF n≠0:=hl;have jz:(kp a b c).aF n=a.aF n:=rfl;rw[jz];apply gO;refine bL (pz 17) ?_;grind [aR,aQ,KA.rz,KA.Dm,ax]
def P6(a:KA)(b:KZ)(c:KC)(N:Nat)(T:Int)(ho:a.Ok T)(hc:cP a c N T)(hT:T<=800000)(n f m:Int)(w:Bool):Fn 80 [ay b.kb 0 0,iI n,iI f,iI m,.bool w] (du a b c []) (fun v H1=>v=ax 102 (a.lM n f m)/\∃ c1:KC,cP (a.uH n f m w) c1 N T/\H1=(du (a.uH n f m w) b c1 [])):=by
 refine Spec.g 30 [0,1,2,3,4,10,11,12,20] func80 fun W=> ?_;refine ca (fm b.kb (kp a b c) n) .h1 ?_;rintro _ _ ⟨⟨hl,rfl⟩ | ⟨hl,rfl⟩,rfl⟩
 ·obtain⟨kL,iw⟩:=bM hl;have hl:a.aF n=0:=hl;have iw:(a.u n).st=1:=iw;have mI:=qo a b c (n:=n);have NQ:=ho.wk.sys.mo n.toNat og;apply gO;refine XR.mono (fun _ bR=>lz (z:=n.toNat) (fS kL) (pk [7,7]) bR) ?_;refine ld (.t4 .aa) (dQ _ og mI) ?_;refine ca (UJ b.bb _ _ _ (a.f n.toNat) NQ _ _ _) (pz 2) ?_;rintro _ _ ⟨rfl,pu,cu,rfl⟩;apply gO;refine XR.mono (fun _ bR=>mZ ((a.f n.toNat).mW f m w) (fS kL) (pz 4) bR) ?_;refine aO rfl rfl (ai (pk (rr 7 2 (rr 10 0 []))) rfl ?_);have e1:a.lM n f m=(a.f n.toNat).lM f m:=by unfold KA.lM;rw[if_neg og]
  have e2:a.uH n f m w= {a with v:=a.v,f:=bD a.f n.toNat ((a.f n.toNat).mW f m w),g:=a.g} :=by unfold KA.uH;rw[if_neg og]
  rw[e1,e2];exact⟨rfl,{c with pp:=bD c.pp n.toNat pu,cc:=bD c.cc n.toNat cu},⟨hc.qO,hc.qR,hc.F,hc.rp,hc.rc,hc.rl,hc.tb,hc.tk⟩,rfl⟩
 ·have hl:a.aF n≠0:=hl;have jz:(kp a b c).aF n=a.aF n:=rfl;rw[jz];apply gO;refine bL (pz 17) ?_;grind [aR,aQ,KA.lM,KA.uH,ax]
def Ga(a:KA)(b:KZ)(c:KC)(N:Nat)(T:Int)(ho:a.Ok T)(hc:cP a c N T)(hT:T<=800000)(n f m:Int):Fn 42 [ay b.kb 0 0,iI n,iI f,iI m] (du a b c []) (fun v H1=>v=ax 102 (a.nY n f m)/\∃ c1:KC,cP (a.aP n f m) c1 N T/\H1=(du (a.aP n f m) b c1 [])):=by
 refine Spec.g 44 [0,1,2,3,8,9,10,11,19,32] func42 fun W=> ?_;refine ca (fm b.kb (kp a b c) n) .h1 ?_;rintro _ _ ⟨⟨hl,rfl⟩ | ⟨hl,rfl⟩,rfl⟩
 obtain⟨kL,iw⟩:=bM hl;have hl:a.aF n=0:=hl;have iw:(a.u n).st=1:=iw;have mI:=qo a b c (n:=n);have NQ:=ho.wk.sys.mo n.toNat og;apply gO;refine XR.mono (fun _ bR=>lz (z:=n.toNat) (fS kL) (pk [7,7]) bR) ?_;refine ld (.t4 .aa) (dQ _ og mI) ?_;refine ca (Nq b.bb b.vp (c.mb n.toNat) a.v ho.wk.sys.jM.ok _ _ (a.f n.toNat) NQ (ho.wk.sys.In og) f m) (pk [9,9,0,0]) ?_;rintro _ _ ⟨rfl,pu,cu,rfl⟩;apply gO;refine XR.mono (fun _ bR=>mZ (a.xo n f m).2.2.2 (fS kL) (pk [2,2,2,2]) bR) ?_;apply (cd)<;>intro h1
 have hu:(a.xo n f m).2.1≠0:=h1;refine aO rfl rfl (ai (pk (4::4::4::4::4::2::2::rr 10 0 [])) rfl ?_);have e1:a.nY n f m=(a.xo n f m).2.1:=by unfold KA.nY;rw[if_neg og,if_pos hu]
 have e2:a.aP n f m= {a with v:=(a.xo n f m).2.2.1,f:=bD a.f n.toNat (a.xo n f m).2.2.2,g:=a.g} :=by unfold KA.aP;rw[if_neg og,if_pos hu]
 rotate_left
 have hu:¬(a.xo n f m).2.1≠0:=h1;refine rq [0,1,2,3,4,5,6,7,8,9,10] mixed (ld (.t4 .aa) (fa _) (ld (.t4 .aa) (dL _) ?_));refine cq (n5 _ _ a.g ho.wk.gI.ok _ _ _ (1000*T) (by have:=ho.wk.T0;omega) ho.wk.gS) (pk [5]) ?_;refine aO rfl rfl (ai (pk (5::0::4::4::4::2::2::rr 10 0 [])) rfl ?_);have e1:a.nY n f m=a.g.gD (a.u n).cO 0 (a.xo n f m).1:=by unfold KA.nY;rw[if_neg og,if_neg hu]
 have e2:a.aP n f m= {a with v:=(a.xo n f m).2.2.1,f:=bD a.f n.toNat (a.xo n f m).2.2.2,g:=a.g.eb (a.u n).cO 0 (a.xo n f m).1} :=by unfold KA.aP;rw[if_neg og,if_neg hu]
 rotate_left
 ·have hl:a.aF n≠0:=hl;have jz:(kp a b c).aF n=a.aF n:=rfl;rw[jz];apply gO;refine bL (pz 17) ?_;grind [aR,aQ,KA.nY,KA.aP,ax]
 all_goals rw[e1,e2];exact⟨rfl,{c with pp:=bD c.pp n.toNat pu,cc:=bD c.cc n.toNat cu},⟨hc.qO,hc.qR,hc.F,hc.rp,hc.rc,hc.rl,hc.tb,hc.tk⟩,rfl⟩
def Zp(a:KA)(b:KZ)(c:KC)(N:Nat)(T:Int)(ho:a.Ok T)(hc:cP a c N T)(hT:T<=800000)(n:Int)(o:Bool):Fn 87 [ay b.kb 0 0,iI n,.bool o] (du a b c []) (fun v H1=>∃ (e:Int) (c1:KC),v=ax 102 e/\cP a c1 N T/\H1=(du a b c1 [])):=by
 refine Spec.g 26 [0,1,2,6,8,16] func87 fun W=> ?_;refine ca (fm b.kb (kp a b c) n) .h1 ?_;rintro _ _ ⟨⟨hl,rfl⟩ | ⟨hl,rfl⟩,rfl⟩
 ·obtain⟨kL,iw⟩:=bM hl;have hl:a.aF n=0:=hl;have iw:(a.u n).st=1:=iw;apply gO;refine ld .aa (fv _) ?_;refine ca (Kh _ _ c.q c.d hc.qO.inv hc.qR n _) (pk [3,3]) ?_;rintro _ _ ⟨rfl,q2,uV,A4,rfl⟩;apply gO;refine aO rfl rfl (ai (pk (2::2::2::rr 14 0 [])) rfl ?_);exact⟨_,{c with q:=q2},rfl,⟨(by show q2.toSF.Ok _ _ _;rw[uV];exact hc.qO.gN _ _),A4,hc.F,hc.rp,hc.rc,hc.rl,hc.tb,fun m m0 m1 hm=>hc.tk m m0 m1 (by have hm:q2.toSF.aa (10+m)=true:=hm;rw[uV,Fa.SF.sj]at hm;exact hm)⟩,rfl⟩
 ·have hl:a.aF n≠0:=hl;have jz:(kp a b c).aF n=a.aF n:=rfl;rw[jz];apply gO;refine bL (pz 17) ?_;exact⟨a.aF n,c,(aL _ hl).symm,hc,rfl⟩
def UW(a:KA)(b:KZ)(c:KC)(N:Nat)(T:Int)(ho:a.Ok T)(hc:cP a c N T)(hT:T<=800000)(z:Int):Fn 229 [ay b.kb 0 0,iI z] (du a b c []) (ap (iI (a.gU z)) (du a b c [])):=by
 refine Spec.g 47 [0,1,4,5,6,7,8,9,10,12,35,43] func229 fun W=> ?_;refine wl (σ:=Int×Int×Int) (fun x=>(20-x.1).toNat) (fun x=>(1<=x.1/\x.1<=20)/\x.2=a.Dn z x.1.toNat) (fun x=>[(7,iI x.1),(5,iI x.2.1),(6,iI x.2.2),(0,ay b.kb 0 0),(1,iI z)]) (fun x=>du a b c []) ((1,-1,0)) ?_ (pz 17) ?_
 ·exact⟨sq,rfl⟩
 intro x hx;obtain⟨hi,yp⟩:=hx;apply gC;apply (cd)<;>intro h1
 ·refine ca (fm b.kb (kp a b c) x.1) .h1 ?_;rintro _ _ ⟨⟨hl,rfl⟩ | ⟨hl,rfl⟩,rfl⟩
  ·obtain⟨kL,iw⟩:=bM hl;have hl:a.aF x.1=0:=hl;have iw:(a.u x.1).st=1:=iw;have mI:=qo a b c (n:=x.1);have NQ:=ho.wk.sys.mo x.1.toNat og;apply gO;refine rq [0,1,2,3,4,5,6,7,8,9,10,11,12,13,14] mixed (ld .aa (fa _) (ld .aa (dL _) ?_));refine cq (acb _ _ a.g ho.wk.gI.ok (a.u x.1).cO z) (pk [1]) ?_;apply (yx)<;>intro h2
   ·try simp only[sb]at h2
    have hun:a.g.under (a.u x.1).cO z=false:=by simpa using h2
    refine sd (wn ((x.1+1,x.2)) ?_ ?_ (pk (1::rr 16 0 [])));all_goals grind [pB]
   ·try simp only[sb]at h2
    have hun:a.g.under (a.u x.1).cO z=true:=by simpa using h2
    refine XR.mono (fun _ bR=>lz (z:=x.1.toNat) (fS kL) (pk [7,7]) bR) ?_;refine ld (.t5 .aa) (dQ _ og mI) ?_;refine cq (uq b.bb _ _ _ (a.f x.1.toNat) NQ) .h1 ?_;refine XR.mono (fun _ bR=>qj (f:=a.f) (z:=x.1.toNat) (ps:=c.pp) (cs:=c.cc) (mb:=c.mb) (fS kL) (pz 4) bR) ?_;apply (cd)<;>intro h3
    ·have hgt:x.2.2<a.gk x.1:=h3;refine sd (wn ((x.1+1,x.1,a.gk x.1)) ?_ ?_ (pk (3::rr 6 2 (rr 10 0 []))));all_goals grind [pB]
    ·have hgt:¬x.2.2<a.gk x.1:=h3;refine sd (wn ((x.1+1,x.2)) ?_ ?_ (pk (3::rr 6 2 (rr 10 0 []))));all_goals grind [pB]
  ·have hl:a.aF x.1≠0:=hl;have jz:(kp a b c).aF x.1=a.aF x.1:=rfl;rw[jz];apply gO;refine rq [0,1,2,3,4,5,6,7,8,9,10,11,12,13,14] mixed (sd (wn ((x.1+1,x.2)) ?_ ?_ (pz 17)));all_goals grind [pB]
 ·refine bL (pz 17) ?_;grind [aR,aQ,KA.gU]
def UX(a:KA)(b:KZ)(c:KC)(N:Nat)(T:Int)(ho:a.Ok T)(hc:cP a c N T)(hT:T<=800000)(n:Int):Fn 201 [ay b.kb 0 0,iI n] (du a b c [g8]) (fun v H1=>v=ax 102 (a.cy n).1/\∃ c1:KC,cP (a.cy n).2 c1 N (T+1)/\H1=[dO b.kb (kp (a.cy n).2 b c1),dl b.gb 0 (a.cy n).2.g,Sp.bY b.sb 0 (a.cy n).2.s,d6 b.qb 0 c1.q,.aV cI (SC.dI 254 c1.q),d9 b.bb b.vp (a.cy n).2.v.ja (a.cy n).2.v.rf,Vm.d8 b.vp 0 (a.cy n).2.v.bb.fu,.eJ (ka (a.cy n).2) c1.mb 34 (cN b.bb (a.cy n).2.f c1.pp c1.cc),.aV (ka (a.cy n).2) (rN 171 (a.cy n).2.f c1.pp c1.cc),bi b.tb 0 c1.F,g6 c1.F,g7 c1.F,dH c1.rp c1.rc 3 c1.rl,Tr.el b.pi 0 (a.cy n).2.P,eQ b.ob 0 b.tb b.pi (a.cy n).2.O,.eJ (mF (a.cy n).2) (fun z=>(c1.t z).b) 4 (cT b.tb c1.t),.aV (mF (a.cy n).2) (rT 168 c1.t)]):=by
 refine Spec.g 51 [0,1,4,5,6,7,8,9,17,32,46] func201 fun W=> ?_;refine wl (σ:=Nat×KA×KC) (fun x=>x.1) (fun x=>x.2.1.Ok T/\cP x.2.1 x.2.2 N T/\x.2.1.lvC<x.1/\x.2.1.kF n x.1=a.kF n 21) (fun x=>[(0,ay b.kb 0 0),(1,iI n)]) (fun x=>du x.2.1 b x.2.2 [g8]) ((21,a,c)) ?_ (pz 18) ?_
 ·exact⟨ho,hc,by have:=a.Rq;show a.lvC<21;omega,rfl⟩
 intro x hx;obtain⟨UY,hxc,hxn,hxr⟩:=hx;have NM:=x.2.1.Rq;obtain⟨k,hk⟩:∃ k,x.1=k+1:=⟨x.1-1,og⟩;apply gC;refine ca (fm b.kb (kp x.2.1 b x.2.2) n) .h1 ?_;rintro _ _ ⟨⟨hl,rfl⟩ | ⟨hl,rfl⟩,rfl⟩
 obtain⟨kL,iw⟩:=bM hl;have hl:x.2.1.aF n=0:=hl;apply gO;refine rq [0,1,2,3,4,5,6,7,8,9,10,11,12,13] mixed (ld .aa (fa _) (ld .aa (dL _) ?_));refine cq (acd _ _ x.2.1.g UY.wk.gI.ok (x.2.1.u n).cO 0 1 (1000*T) (by have:=UY.wk.T0;omega) UY.wk.gS) (pk [1]) ?_;apply (yx)<;>intro h1
 ·try simp only[sb]at h1
  have jz:(x.2.1.iR n)=none:=by
   simp_all[KA.iR]
  refine rq [0,1,2,3,4,5,6,7,8,9] mixed (ld (.ao .aa) (fa _) (ld (.ao .aa) (dL _) ?_));refine cq (wq _ _ x.2.1.g UY.wk.gI.ok (x.2.1.u n).cO 0 1 (1000*T) (by have:=UY.wk.T0;omega) UY.wk.gS) .h1 ?_;refine bL (pk (1::rr 16 0 [])) ?_;have e1:a.cy n=(x.2.1.g.dJ (x.2.1.u n).cO 0 1,{x.2.1 with v:=x.2.1.v,f:=x.2.1.f,g:=x.2.1.g.bI (x.2.1.u n).cO 0 1}):=by
   grind [KA.kF,KA.cy]
  rw[e1];exact⟨rfl,x.2.2,hxc.same og rfl,rfl⟩
 try simp only[sb]at h1
 have jz:∃ z,(x.2.1.iR n)=some z:=by
  grind [Option.isSome_iff_exists,KA.iR]
 obtain⟨z,hz⟩:=jz;have hzg:(x.2.1.g.iR (x.2.1.u n).cO 0 1).getD 0=z:=by rw[show x.2.1.g.iR (x.2.1.u n).cO 0 1=some z from hz];rfl
 refine cq (UW x.2.1 b x.2.2 N T UY hxc og _) (pk (1::rr 16 0 [])) ?_;apply (cd)<;>intro h2
 have hvn:x.2.1.gU z<0:=by rw[<-hzg];exact h2
 rotate_left
 ·have hvn:¬x.2.1.gU z<0:=by rw[<-hzg];exact h2
  have al8:=pC hvn;have hvo:1<=x.2.1.gU ((x.2.1.g.iR (x.2.1.u n).cO 0 1).getD 0)/\x.2.1.aF (x.2.1.gU ((x.2.1.g.iR (x.2.1.u n).cO 0 1).getD 0))=0:=by rw[hzg];exact al8
  refine yy 17 (DM x.2.1 b x.2.2 N T UY.wk hxc og _ 137 (bE hvo.2).2 (UY.hx.any _)) (pz 18) rfl ?_;rintro _ _ ⟨c1,ia,rfl⟩;apply gO;refine wn ((k,x.2.1.db (x.2.1.gU ((x.2.1.g.iR (x.2.1.u n).cO 0 1).getD 0)) 137,c1)) ?_ ?_ (pz 18)
  ·omega
  ·refine⟨UY.wk.B1 UY.r0 UY.d0 og (bE hvo.2).2 (UY.hx.any _) 137,ia,?_,?_⟩
   ·have:=Uk (a:=x.2.1) (co:=137) (bE hvo.2).1 (bE hvo.2).2;grind
   grind [KA.kF]
 have hl:x.2.1.aF n≠0:=hl;apply gO;rotate_left;all_goals
  refine bL (pz 17) ?_;try dsimp only[aR,aQ,bH,bQ]
  grind [KA.cy,KA.kF,cP.up,ax]
theorem P7(v:VB)(m:Vm.MS)(a:Int):(m.load v a).2.2.2.az=m.az:=by
 by_cases e:(m.cD v a false).2.1=0
 ·rw[Vm.MS.JD e];exact Vm.MS.Ag v m a false
 ·rw[Vm.MS.EO e];exact Vm.MS.Ag v m a false
theorem Nw(v:VB)(m:Vm.MS)(a b:Int):(m.store v a b).2.2.az=m.az:=by
 by_cases e:(m.cD v a true).2.1=0
 ·rw[Vm.MS.EP e];exact Vm.MS.Ag v m a true
 ·rw[Vm.MS.HT e];exact Vm.MS.Ag v m a true
def acO(kb pb mb:Nat)(v:VB)(hv:v.Ok)(p:Option Addr)(c:Nat)(m:Vm.MS)(hm:m.Ok)(a:Int):Fn 151 [ay mb 0 0,iI a] [d9 kb pb v.ja v.rf,Vm.d8 pb 0 v.bb.fu,ip mb kb p c m,gc p c (Vm.aj m.az),g9] (ap (.tuple #[.int .u8 (m.load v a).1,ax 102 (m.load v a).2.1]) [d9 kb pb (m.load v a).2.2.1.ja (m.load v a).2.2.1.rf,Vm.d8 pb 0 (m.load v a).2.2.1.bb.fu,d7 mb kb p (Vm.aj (m.load v a).2.2.2.az).length c (m.load v a).2.2.2.fr (m.load v a).2.2.2.aU,gc p c (Vm.aj (m.load v a).2.2.2.az)]):=(agr kb pb mb v hv p c m hm a).Vw fun _ _ h=>by rw[P7];exact h
def Zq(kb pb mb:Nat)(v:VB)(hv:v.Ok)(p:Option Addr)(c:Nat)(m:Vm.MS)(hm:m.Ok)(a b:Int):Fn 153 [ay mb 0 0,iI a,.int .u8 b] [d9 kb pb v.ja v.rf,Vm.d8 pb 0 v.bb.fu,ip mb kb p c m,gc p c (Vm.aj m.az),g9] (ap (ax 102 (m.store v a b).1) [d9 kb pb (m.store v a b).2.1.ja (m.store v a b).2.1.rf,Vm.d8 pb 0 (m.store v a b).2.1.bb.fu,d7 mb kb p (Vm.aj (m.store v a b).2.2.az).length c (m.store v a b).2.2.fr (m.store v a b).2.2.aU,gc p c (Vm.aj (m.store v a b).2.2.az)]):=(acn kb pb mb v hv p c m hm a b).Vw fun _ _ h=>by rw[Nw];exact h
def acP(a:KA)(b:KZ)(c:KC)(N:Nat)(T:Int)(ho:a.Ok T)(hc:cP a c N T)(hT:T<=900000)(n:Int)(hl:a.aF n=0)(ab xb:Nat)(x y:Int):Fn 150 [ay b.kb 0 (0+0+n.toNat*22),ay ab 0 0,ay xb 0 0] (du a b c [ce ab (iI x),ce xb (.int .u8 y),g9]) (fun v H1=>v=ax 102 ((Z6 n x).e a)/\∃ c1:KC,cP ((Z6 n x).A a) c1 N T/\H1=(du ((Z6 n x).A a) b c1 [ce ab (iI x),ce xb (.int .u8 ((Z6 n x).y a))])):=by
 obtain⟨hn,iw⟩:=bE hl;have mI:=qo a b c (n:=n);have NQ:=ho.wk.sys.mo n.toNat og;refine Spec.g 16 [0,1,2,4,5] func150 fun W=> ?_;apply XR.mono fun _ bR=>lz (z:=n.toNat) (fS hn) (pk [7,7]) bR;refine rq [0,1,2,3,4,5,6,7,8,9,10] mixed ?_;apply ld (.t4 .aa) (dQ _ og mI);apply ld (.ph (.t7 .aa)) (aD.ld _);refine KK 4 (acO b.bb b.vp (c.mb n.toNat) a.v ho.wk.sys.jM.ok _ _ (a.f n.toNat) NQ x) (pk [9,9,0,0,17]) rfl ?_;apply st (.ph (.t9 .aa)) (aD.st _ _) rfl;apply XR.mono fun _ bR=>mZ ((a.f n.toNat).load a.v x).2.2.2 (fS hn) (pk [2,2,3,3]) bR;refine aO rfl rfl (ai (pk [5,5,5,5,5,2,2,0,0,1,1,1,1,1,1,1,1,1,1]) rfl ?_);exact⟨rfl,{c with pp:=bD c.pp n.toNat (c.pp n.toNat),cc:=bD c.cc n.toNat (c.cc n.toNat)},⟨hc.qO,hc.qR,hc.F,hc.rp,hc.rc,hc.rl,hc.tb,hc.tk⟩,rfl⟩
def Zr(a:KA)(b:KZ)(c:KC)(N:Nat)(T:Int)(ho:a.Ok T)(hc:cP a c N T)(hT:T<=900000)(n:Int)(hl:a.aF n=0)(ab xb:Nat)(x y:Int):Fn 152 [ay b.kb 0 (0+0+n.toNat*22),ay ab 0 0,ay xb 0 0] (du a b c [ce ab (iI x),ce xb (.int .u8 y),g9]) (fun v H1=>v=ax 102 ((sfD n x y).e a)/\∃ c1:KC,cP ((sfD n x y).A a) c1 N T/\H1=(du ((sfD n x y).A a) b c1 [ce ab (iI x),ce xb (.int .u8 ((sfD n x y).y a))])):=by
 obtain⟨hn,iw⟩:=bE hl;have mI:=qo a b c (n:=n);have NQ:=ho.wk.sys.mo n.toNat og;refine Spec.g 12 [0,1,2,4] func152 fun W=> ?_;apply XR.mono fun _ bR=>lz (z:=n.toNat) (fS hn) (pk [7,7]) bR;refine rq [0,1,2,3,4,5,6,7] mixed ?_;apply ld (.t4 .aa) (dQ _ og mI);apply ld (.ph (.t7 .aa)) (aD.ld _);apply ld (.ph (.t8 .aa)) (aD.ld _);refine KK 4 (Zq b.bb b.vp (c.mb n.toNat) a.v ho.wk.sys.jM.ok _ _ (a.f n.toNat) NQ x y) (pk [9,9,0,0,17]) rfl ?_;apply XR.mono fun _ bR=>mZ ((a.f n.toNat).store a.v x y).2.2 (fS hn) (pk [2,2,3,3]) bR;refine aO rfl rfl (ai (pk [5,5,5,5,5,2,2,0,0,1,1,1,1,1,1,1,1,1,1]) rfl ?_);exact⟨rfl,{c with pp:=bD c.pp n.toNat (c.pp n.toNat),cc:=bD c.cc n.toNat (c.cc n.toNat)},⟨hc.qO,hc.qR,hc.F,hc.rp,hc.rc,hc.rl,hc.tb,hc.tk⟩,rfl⟩
def Nx(a:KA)(b:KZ)(c:KC)(N:Nat)(T:Int)(ho:a.Ok T)(hc:cP a c N T)(hT:T<=800000)(n x:Int)(w:Bool)(D:TD)(y:Int)(ab xb:Nat)(hA:∀ {b:KA} {S:Int},b.Ok S->b.aF n=0->(D.A b).Ok S)(fd:Nat)(KL:dg Tryz.prog fd=true)(hd:∀ (a1:KA) (c1:KC),a1.Ok (T+1)->cP a1 c1 N (T+1)->a1.aF n=0->Fn fd [ay b.kb 0 (0+0+n.toNat*22),ay ab 0 0,ay xb 0 0] (du a1 b c1 [ce ab (iI x),ce xb (.int .u8 y),g9]) (fun v H1=>v=ax 102 (D.e a1)/\∃ c2:KC,cP (D.A a1) c2 N (T+1)/\H1=(du (D.A a1) b c2 [ce ab (iI x),ce xb (.int .u8 (D.y a1))]))):Fn 149 [ay b.kb 0 0,iI n,iI x,.bool w,.func (.func fd) #[] #[ay ab 0 0,ay xb 0 0]] (du a b c [ce ab (iI x),ce xb (.int .u8 y),g8,g9]) (fun v H1=>v=ax 102 (a.iX n x w D y).1/\∃ c1:KC,cP (a.iX n x w D y).2.1 c1 N (T+1)/\H1=[dO b.kb (kp (a.iX n x w D y).2.1 b c1),dl b.gb 0 (a.iX n x w D y).2.1.g,Sp.bY b.sb 0 (a.iX n x w D y).2.1.s,d6 b.qb 0 c1.q,.aV cI (SC.dI 254 c1.q),d9 b.bb b.vp (a.iX n x w D y).2.1.v.ja (a.iX n x w D y).2.1.v.rf,Vm.d8 b.vp 0 (a.iX n x w D y).2.1.v.bb.fu,.eJ (ka (a.iX n x w D y).2.1) c1.mb 34 (cN b.bb (a.iX n x w D y).2.1.f c1.pp c1.cc),.aV (ka (a.iX n x w D y).2.1) (rN 171 (a.iX n x w D y).2.1.f c1.pp c1.cc),bi b.tb 0 c1.F,g6 c1.F,g7 c1.F,dH c1.rp c1.rc 3 c1.rl,Tr.el b.pi 0 (a.iX n x w D y).2.1.P,eQ b.ob 0 b.tb b.pi (a.iX n x w D y).2.1.O,.eJ (mF (a.iX n x w D y).2.1) (fun z=>(c1.t z).b) 4 (cT b.tb c1.t),.aV (mF (a.iX n x w D y).2.1) (rT 168 c1.t),ce ab (iI x),ce xb (.int .u8 (a.iX n x w D y).2.2)]):=by
 have hoc:=ho.bI og n;refine Spec.g 63 [0,1,2,3,4,10,11,12,13,21,30,38,43,52] func149 fun W=> ?_;refine ca (fm b.kb (kp a b c) n) .h1 ?_;rintro _ _ ⟨⟨hl,rfl⟩ | ⟨hl,rfl⟩,rfl⟩
 ·obtain⟨kL,iw⟩:=bM hl;have hl:a.aF n=0:=hl;have iw:(a.u n).st=1:=iw;have mI:=qo a b c (n:=n);have NQ:=ho.wk.sys.mo n.toNat og;apply gO;refine XR.mono (fun _ bR=>lz (z:=n.toNat) (fS kL) (pk [7,7]) bR) ?_;refine ld (.t4 .aa) (dQ _ og mI) ?_;refine cq (aed b.bb (c.mb n.toNat) _ _ (a.f n.toNat) NQ x w) (pz 2) ?_;refine XR.mono (fun _ bR=>qj (f:=a.f) (z:=n.toNat) (ps:=c.pp) (cs:=c.cc) (mb:=c.mb) (fS kL) (pz 4) bR) ?_;apply (yx)<;>intro h1
  ·try simp only[sb]at h1
   have hm:(a.f n.toNat).tT x w=false:=by simpa using h1
   refine aO rfl rfl (ai (pk (rr 7 2 (rr 12 0 []))) rfl ?_);try dsimp only[aR,aQ,bH,bQ]
   grind [KA.iX,cP.up,ax]
  ·try simp only[sb]at h1
   have hm:(a.f n.toNat).tT x w=true:=by simpa using h1
   refine XR.mono (fun _ bR=>lz (z:=n.toNat) (fS kL) (pz 2) bR) ?_;refine ld (.t4 .aa) (dQ _ og mI) ?_;refine cq (acm b.bb (c.mb n.toNat) _ _ (a.f n.toNat) NQ x) (pz 2) ?_;refine XR.mono (fun _ bR=>qj (f:=a.f) (z:=n.toNat) (ps:=c.pp) (cs:=c.cc) (mb:=c.mb) (fS kL) (pz 4) bR) ?_;apply (yx)<;>intro h2
   ·try simp only[sb]at h2
    have hw:(a.f n.toNat).my x=true:=h2;refine yy 17 (UX a b c N T ho hc og n) (pk (rr 7 2 (rr 10 0 [2]))) rfl ?_;rintro _ _ ⟨rfl,c1,ia,rfl⟩;apply gO;apply (cd)<;>intro h3
    ·have he:(a.cy n).1≠0:=h3;refine aO rfl rfl (ai (pk (rr 17 0 [1,1])) rfl ?_);grind [aR,aQ,KA.iX]
    ·have he:(a.cy n).1=0:=by have h9:=h3;omega
     refine XO.V6 (cs:=[ay ab 0 0,ay xb 0 0]) rfl rfl (hd (a.cy n).2 c1 (hoc.1) ia (hoc.2 he)) (pk (rr 17 0 [1,1,1])) KL rfl ?_;rintro _ _ ⟨rfl,c2,C7,rfl⟩;apply gO;apply UV 50<;>intro h4
     ·have hf:=h4;refine akL rfl (hw) (rq [0,1,2,3,4,5,6,7,8] mixed ?_);have hoD:=hA hoc.1 (hoc.2 he);refine ld .aa (fa _) (ld .aa (dL _) ?_);refine cq (n5 _ _ (D.A (a.cy n).2).g hoD.wk.gI.ok _ _ _ (1000*(T+1)) (by have:=hoD.wk.T0;omega) hoD.wk.gS) (pk [1]) ?_;refine bL (pk (1::rr 18 0 [])) ?_;try dsimp only[aR,aQ,bH,bQ]
      have e:(a.iX n x w D y)=(D.e (a.cy n).2,if D.e (a.cy n).2≠0 then(D.A (a.cy n).2).Z5 n else D.A (a.cy n).2,D.y (a.cy n).2):=by unfold KA.iX;rw[if_neg (show ¬a.aF n≠0 by omega),if_neg (show ¬(a.f n.toNat).tT x w=false by rw[hm];decide),if_pos hw,if_neg (show ¬(a.cy n).1≠0 by omega)]
      rw[e];exact⟨rfl,c2,(by rw[if_pos hf];exact C7.same (Int.le_refl _) rfl),by rw[if_pos hf];rfl⟩
     ·have hf:=h4;refine bL (pz 19) ?_;grind [aR,aQ,KA.iX]
   ·try simp only[sb]at h2
    have hw:(a.f n.toNat).my x=false:=h2;refine XO.V6 (cs:=[ay ab 0 0,ay xb 0 0]) rfl rfl (hd a c (ho.up og og) (hc.up (Nat.le_refl _) og) hl) (pk (rr 7 2 (rr 12 0 [1]))) KL rfl ?_;rintro _ _ ⟨rfl,c2,C7,rfl⟩;apply gO;apply UV 50<;>intro h5
    ·have hf:=h5;refine akM rfl (hw) (aO rfl rfl (ai (pz 19) rfl ?_));grind [aR,aQ,KA.iX]
    ·have hf:=h5;refine bL (pz 19) ?_;grind [aR,aQ,KA.iX]
 ·have hl:a.aF n≠0:=hl;have jz:(kp a b c).aF n=a.aF n:=rfl;rw[jz];apply gO;refine bL (pz 19) ?_;grind [aR,aQ,KA.iX,aL,cP.up]
def qI{P:Program}{n:Fr}{L:PF}{ty:TypeId}{pos:String}{af:Array Edge}{d:Nat}{f:FuncId}{x y:Operand}{u v:Value}{φ:World->Prop}{gd:Option (Nat×Bool)}(hx:ev L x=some u)(hy:ev L y=some v):bj P n L φ (⟨some d,.makeFunc (.func f) #[] #[x,y],ty,pos,af,gd⟩) (.func (.func f) #[] #[u,v]):=fun a w ha hw=>by
 simp[execOp,av ha hx,av ha hy,Instr.makeFunc]
def acQ(a:KA)(b:KZ)(c:KC)(N:Nat)(T:Int)(ho:a.Ok T)(hc:cP a c N T)(hT:T<=800000)(n x:Int):Fn 81 [ay b.kb 0 0,iI n,iI x] (du a b c [g8,g9]) (fun v H1=>v= .tuple #[.int .u8 (a.iy n x).2.2,ax 102 (a.iy n x).1]/\∃ c1:KC,cP (a.iy n x).2.1 c1 N (T+1)/\H1=[dO b.kb (kp (a.iy n x).2.1 b c1),dl b.gb 0 (a.iy n x).2.1.g,Sp.bY b.sb 0 (a.iy n x).2.1.s,d6 b.qb 0 c1.q,.aV cI (SC.dI 254 c1.q),d9 b.bb b.vp (a.iy n x).2.1.v.ja (a.iy n x).2.1.v.rf,Vm.d8 b.vp 0 (a.iy n x).2.1.v.bb.fu,.eJ (ka (a.iy n x).2.1) c1.mb 34 (cN b.bb (a.iy n x).2.1.f c1.pp c1.cc),.aV (ka (a.iy n x).2.1) (rN 171 (a.iy n x).2.1.f c1.pp c1.cc),bi b.tb 0 c1.F,g6 c1.F,g7 c1.F,dH c1.rp c1.rc 3 c1.rl,Tr.el b.pi 0 (a.iy n x).2.1.P,eQ b.ob 0 b.tb b.pi (a.iy n x).2.1.O,.eJ (mF (a.iy n x).2.1) (fun z=>(c1.t z).b) 4 (cT b.tb c1.t),.aV (mF (a.iy n x).2.1) (rT 168 c1.t)]):=by
 refine Spec.g 17 [0,1,5,6,7,8,9] func81 fun W=> ?_;refine XO.box (m:=1) (C:=aD (iI x)) rfl rfl (fun _ _=>rfl) rfl ?_;intro ab;apply gO;refine XO.bP (z:=.int .u8 0) (m:=1) (C:=aD (.int .u8 0)) (fun _ _=>rfl) ?_;intro xb;apply gO;refine st .aa (aD.st _ _) rfl (ld (.ao .aa) (aD.ld _) (XO.v (qI rfl rfl) rfl (gO ?_)));refine yy 19 (Nx a b c N T ho hc hT n x false (Z6 n x) 0 ab xb (fun h q=>h.ld q x) 150 rfl fun a1 c1 h1 h2 h3=>acP a1 b c1 N (T+1) h1 h2 og n h3 ab xb x 0) (pk [2,2,2,2,2,2,2,2,2,2,2,2,2,2,2,2,2,1,0,0,0]) rfl ?_;rintro _ _ ⟨rfl,c1,ia,rfl⟩;apply gO;refine ld (.ph (.t6 .aa)) (aD.ld _) (bC rfl rfl rfl (ai (pz 17) rfl ?_));grind [aR,aQ,KA.iy]
def Zs(a:KA)(b:KZ)(c:KC)(N:Nat)(T:Int)(ho:a.Ok T)(hc:cP a c N T)(hT:T<=800000)(n x y:Int)(hy:0<=y/\y<256):Fn 82 [ay b.kb 0 0,iI n,iI x,.int .u8 y] (du a b c [g8,g9]) (fun v H1=>v=ax 102 (a.gV n x y).1/\∃ c1:KC,cP (a.gV n x y).2.1 c1 N (T+1)/\H1=[dO b.kb (kp (a.gV n x y).2.1 b c1),dl b.gb 0 (a.gV n x y).2.1.g,Sp.bY b.sb 0 (a.gV n x y).2.1.s,d6 b.qb 0 c1.q,.aV cI (SC.dI 254 c1.q),d9 b.bb b.vp (a.gV n x y).2.1.v.ja (a.gV n x y).2.1.v.rf,Vm.d8 b.vp 0 (a.gV n x y).2.1.v.bb.fu,.eJ (ka (a.gV n x y).2.1) c1.mb 34 (cN b.bb (a.gV n x y).2.1.f c1.pp c1.cc),.aV (ka (a.gV n x y).2.1) (rN 171 (a.gV n x y).2.1.f c1.pp c1.cc),bi b.tb 0 c1.F,g6 c1.F,g7 c1.F,dH c1.rp c1.rc 3 c1.rl,Tr.el b.pi 0 (a.gV n x y).2.1.P,eQ b.ob 0 b.tb b.pi (a.gV n x y).2.1.O,.eJ (mF (a.gV n x y).2.1) (fun z=>(c1.t z).b) 4 (cT b.tb c1.t),.aV (mF (a.gV n x y).2.1) (rT 168 c1.t)]):=by
 refine Spec.g 14 [0,1,6,7,8] func82 fun W=> ?_;refine XO.box (m:=1) (C:=aD (iI x)) rfl rfl (fun _ _=>rfl) rfl ?_;intro ab;apply gO;refine XO.box (m:=1) (C:=aD (.int .u8 y)) rfl rfl (fun _ _=>rfl) rfl ?_;intro xb;apply gO;refine ld (.ao .aa) (aD.ld _) (XO.v (qI rfl rfl) rfl (gO ?_));refine yy 19 (Nx a b c N T ho hc hT n x true (sfD n x y) y ab xb (fun h q=>h.sf q x hy) 152 rfl fun a1 c1 h1 h2 h3=>Zr a1 b c1 N (T+1) h1 h2 og n h3 ab xb x y) (pk [2,2,2,2,2,2,2,2,2,2,2,2,2,2,2,2,2,1,0,0,0]) rfl ?_;rintro _ _ ⟨rfl,c1,ia,rfl⟩;apply gO;refine bL (pz 17) ?_;grind [aR,aQ,KA.gV]
end Go.X.Kn

namespace Go.X.Kn
open Go Go.Proofs Go.X Go.X.Fa Go.X.Gr
def xC:fE Tryz.prog 66=some 5:=kq
attribute [local irreducible] KA.db KA.cL
def Ny(a:KA)(b:KZ)(c:KC)(N:Nat)(T:Int)(ho:a.Ok T)(hc:cP a c N T)(hT:T<=800000)(n y:Int):Fn 83 [ay b.kb 0 0,iI n,iI y] (du a b c []) (fun v H1=>∃ (m e:Int) (c1:KC),v= .tuple #[iI m,ax 102 e]/\cP (a.nG n y) c1 (N+1) T/\H1=(du (a.nG n y) b c1 [])):=by
 refine Spec.g 38 [0,1,2,6,7,8,9,15,27] func83 fun W=> ?_;apply UV 12<;>intro h1;rotate_left
 apply (cd)<;>intro h2;rotate_left
 ·apply ld .aa (fa _);refine cq (ajb _ _ a.g ho.wk.gI.ok n) (pk [1]) ?_;apply (cd)<;>intro h3
  ·have hae:a.g.vx n≠0:=h3;refine fg (pk (1::rr 16 0 [])) ?_;have e:a.nG n y=a:=by unfold KA.nG;rw[if_neg og,(Gr.TG.tF hae).2]
   rw[e,(Gr.TG.tF hae).2];exact⟨_,_,c,rfl,hc.up (Nat.le_succ _) (Int.le_refl _),rfl⟩
  ·have hae:=h3;apply ld (.ao .aa) (fv _);refine ca (PL _ _ c.q c.d hc.qO.inv hc.qR _ _ _) (pk [3,3]) ?_;rintro _ _ ⟨rfl,q2,uV,A4,rfl⟩;obtain⟨d1,uX⟩:=hc.qO.uM og (a.g.kI n) n y;apply gO;refine bC rfl rfl rfl (ai (pk (3::2::2::rr 14 0 [])) rfl ?_);have e:a.nG n y= {a with g:=a.g.add n} :=by unfold KA.nG;rw[if_neg og]
   rw[e];exact⟨_,_,{c with q:=q2,d:=d1},rfl,⟨(by show q2.toSF.Ok _ _ _;rw[uV];exact uX.mono (Nat.le_refl _) og),A4,hc.F,hc.rp,hc.rc,hc.rl,hc.tb,fun m m0 m1 hm=>hc.tk m m0 m1 (by have hm:q2.toSF.aa (10+m)=true:=hm;rw[uV]at hm;exact Fa.SF.S9 m0 hm)⟩,rfl⟩
 all_goals
  refine fg (pz 17) ?_;have e:a.nG n y=a:=by unfold KA.nG;rw[if_pos og]
  rw[e];exact⟨0,1,c,rfl,hc.up (Nat.le_succ _) (Int.le_refl _),rfl⟩
def Ku(a:KA)(b:KZ)(c:KC)(N:Nat)(T:Int)(ho:a.Ok T)(hc:cP a c N T)(hT:T<=800000)(n:Int):Fn 84 [ay b.kb 0 0,iI n] (du a b c []) (fun v H1=>∃ (e:Int) (c1:KC),v=ax 102 e/\cP (a.B4 n) c1 (N+1) T/\H1=(du (a.B4 n) b c1 [])):=by
 refine Spec.g 21 [0,1,4,5,13] func84 fun W=> ?_;apply ld .aa (fa _);refine cq (YN _ _ a.g n) (pk [1]) ?_;apply (cd)<;>intro h1
 ·have hae:a.g.dP n≠0:=h1;refine bL (pk (1::rr 16 0 [])) ?_;exact⟨_,c,rfl,(hc.up (Nat.le_succ _) (Int.le_refl _)).same (Int.le_refl _) rfl,rfl⟩
 ·have hae:=h1;apply ld (.ao .aa) (fv _);refine ca (Nn _ _ c.q c.d hc.qO.inv hc.qR n hc.qO.Og) (pk [3,3]) ?_;rintro _ _ ⟨rfl,q2,uV,A4,rfl⟩;apply gO;refine aO rfl rfl (ai (pk (3::2::2::rr 14 0 [])) rfl ?_);exact⟨_,{c with q:=q2},rfl,⟨(by show q2.toSF.Ok _ _ _;rw[uV];exact(hc.qO.qa og _).mono og og),A4,hc.F,hc.rp,hc.rc,hc.rl,hc.tb,fun m m0 m1 hm=>hc.tk m m0 m1 (by have hm:q2.toSF.aa (10+m)=true:=hm;rw[uV]at hm;exact Fa.SF.Oi hm)⟩,rfl⟩
def Zt(a:KA)(b:KZ)(c:KC)(N:Nat)(T:Int)(ho:a.Ok T)(hc:cP a c N T)(hT:T<=800000)(n x y:Int):Fn 85 [ay b.kb 0 0,iI n,iI x,iI y] (du a b c []) (fun v H1=>v=ax 102 (a.g.kU n x y)/\∃ c1:KC,cP (a.Ul n x y) c1 N T/\H1=(du (a.Ul n x y) b c1 [])):=by
 refine Spec.g 17 [0,1,2,3,8] func85 fun W=> ?_;apply ld .aa (fa _);refine cq (ace _ _ a.g n x y) (pk [1]) ?_;refine bL (pk (1::rr 16 0 [])) ?_;exact⟨rfl,c,hc.same (Int.le_refl _) rfl,rfl⟩
def UZ(a:KA)(b:KZ)(c:KC)(N:Nat)(T:Int)(ho:a.Ok T)(hc:cP a c N T)(hT:T<=800000)(n:Int)(o:Bool):Fn 88 [ay b.kb 0 0,iI n,.bool o] (du a b c []) (fun v H1=>∃ (e:Int) (c1:KC),v=ax 102 e/\cP a c1 (N+1) T/\H1=(du a b c1 [])):=by
 refine Spec.g 14 [0,1,2,6] func88 fun W=> ?_;apply ld .aa (fv _);refine ca (YR _ _ c.q c.d hc.qO.inv hc.qR n o) (pk [3,3]) ?_;rintro _ _ ⟨rfl,q2,uV,A4,rfl⟩;apply gO;refine aO rfl rfl (ai (pk (2::2::2::rr 14 0 [])) rfl ?_);exact⟨_,{c with q:=q2},rfl,⟨(by show q2.toSF.Ok _ _ _;rw[uV];exact(hc.qO.freeze _ _).mono og og),A4,hc.F,hc.rp,hc.rc,hc.rl,hc.tb,(fun m m0 m1 hm=>hc.tk m m0 m1 (by have hm:q2.toSF.aa (10+m)=true:=hm;rw[uV,Fa.SF.LF]at hm;exact hm))⟩,rfl⟩
def Zu(a:KA)(b:KZ)(c:KC)(N:Nat)(T:Int)(ho:a.Ok T)(hc:cP a c N T)(hT:T<=800000)(n x y:Int):Fn 89 [ay b.kb 0 0,iI n,iI x,iI y] (du a b c []) (fun v H1=>∃ (e:Int) (c1:KC),v=ax 102 e/\cP a c1 (N+1) T/\H1=(du a b c1 [])):=by
 refine Spec.g 17 [0,1,2,3,8] func89 fun W=> ?_;apply ld .aa (fv _);refine ca (acf _ _ c.q c.d hc.qO.inv hc.qR n x y) (pk [3,3]) ?_;rintro _ _ ⟨rfl,q2,uV,A4,rfl⟩;apply gO;refine aO rfl rfl (ai (pk (2::2::2::rr 14 0 [])) rfl ?_);exact⟨_,{c with q:=q2},rfl,⟨(by show q2.toSF.Ok _ _ _;rw[uV];exact(hc.qO.zG og _ _ _).mono og og),A4,hc.F,hc.rp,hc.rc,hc.rl,hc.tb,(fun m m0 m1 hm=>hc.tk m m0 m1 (by have hm:q2.toSF.aa (10+m)=true:=hm;rw[uV,Fa.SF.S7]at hm;exact hm))⟩,rfl⟩
def acR(a:KA)(b:KZ)(c:KC)(N:Nat)(T:Int)(ho:a.Ok T)(hc:cP a c N T)(hT:T<=800000)(hN:N<=800):Fn 46 [ay b.kb 0 0] (du a b c []) (fun v H1=>∃ (r:Int) (c1:KC),v=iI r/\(r<0\/(0<=r/\r<20/\c1.q.aa (10+r)=true))/\cP a c1 (N+1) T/\H1=(du a b c1 [])):=by
 refine Spec.g 8 [0,2] func46 fun W=> ?_;apply ld .aa (fv _);refine ca (YS _ _ c.q c.d hc.qO.inv hc.qR (fun n a b=>by have:=hc.qO.aK n a b;omega) (2000000000*N) og hc.qO.uz (by have:=hc.qO.iC;omega) (hc.qO.p7 og).set) (pk [3,3]) ?_;rintro _ _ ⟨rfl,q2,uV,A4,rfl⟩;apply gO;refine aO rfl rfl (ai (pk (2::2::2::rr 14 0 [])) rfl ?_);have hw:=Fa.SF.Wu hc.qO og;exact⟨_,{c with q:=q2},rfl,(by show _\/(_/\_/\q2.toSF.aa _=true);rw[uV];exact hw),⟨(by show q2.toSF.Ok _ _ _;rw[uV];exact(hc.qO.l8 og og).mono og og),A4,hc.F,hc.rp,hc.rc,hc.rl,hc.tb,(fun m m0 m1 hm=>hc.tk m m0 m1 (by have hm:q2.toSF.aa (10+m)=true:=hm;rw[uV,Fa.SF.Bt]at hm;exact hm))⟩,rfl⟩
def aeg(a:KA)(b:KZ)(c:KC)(n:Int):Fn 44 [ay b.kb 0 0,iI n] [dO b.kb (kp a b c)] (ap (.tuple #[iI (if a.aF n=0 then(a.u n).cO else 0),ax 102 (a.aF n)]) [dO b.kb (kp a b c)]):=by
 refine Spec.g 21 [0,1,4,5,6,7,15] func44 fun W=> ?_;refine ca (fm b.kb (kp a b c) n) .h1 ?_;rintro _ _ ⟨⟨hl,rfl⟩ | ⟨hl,rfl⟩,rfl⟩
 ·obtain⟨kL,iw⟩:=bM hl;have hl:a.aF n=0:=hl;have iw:(a.u n).st=1:=iw;apply gO;refine ld .aa (dL _) (bC rfl rfl rfl (ai .h1 rfl ?_));rw[if_pos hl,hl];exact⟨rfl,rfl⟩
 ·have hl:a.aF n≠0:=hl;have jz:(kp a b c).aF n=a.aF n:=rfl;rw[jz];apply gO;refine fg .h1 ?_;grind [aR,aQ,bQ,ax]
def A2(a:KA)(b:KZ)(c:KC)(n:Int):Fn 34 [ay b.kb 0 0,iI n] [dO b.kb (kp a b c),dl b.gb 0 a.g] (ap (.tuple #[.agg (if a.g.cQ n=0 then a.g.gv n else GV.zero).c9,ax 102 (a.g.cQ n)]) [dO b.kb (kp a b c),dl b.gb 0 a.g]):=by
 refine Spec.g 14 [0,1,4,5] func34 fun W=> ?_;apply XO.bP (z:=.agg GV.zero.c9) (m:=5) (C:=oU GV.zero) (qe _);intro bg;apply gO;apply ld (.ao .aa) (fa _);refine cq (alR _ _ a.g n) (pk [2]) ?_;refine gu (.ao .aa) (tG _ _) rfl ⟨rfl,rfl⟩ (dU rfl (.agg rfl (.ao .aa) (Jm _) kq xC) (.tmp rfl) (ai (pk [2,0]) rfl ?_));grind [aR,aQ,kp]
open Go.X.Vm
def Zv:ey Tryz.prog 101 1=some 440:=kq
theorem acS(a:KA)(b:KZ)(c:KC)(n z:Int){g:Gr.TG}{q:SC}{d:Int->Nat} :kp {a with u:=ad a.u n {a.u n with cO:=z},g:=g} b {c with q:=q,d:=d} =(kp a b c).put n {(kp a b c).u n with cO:=z} :=(X1 a b c n {a.u n with cO:=z}).symm
theorem Zw(a:KA)(n z:Int){g:Gr.TG} :ka {a with u:=ad a.u n {a.u n with cO:=z},g:=g} =ka a:=by grind [ka,ad]
def acT(a:KA)(b:KZ)(c:KC)(N:Nat)(T:Int)(ho:a.Ok T)(hc:cP a c N T)(hT:T<=800000)(n z:Int):Fn 86 [ay b.kb 0 0,iI n,iI z] (du a b c []) (fun v H1=>∃ (e:Int) (c1:KC),v=ax 102 e/\(e=0->a.aF n=0/\a.Ij n z=0)/\cP (a.pd n z) c1 (N+1) (T+1)/\H1=(du (a.pd n z) b c1 [])):=by
 refine Spec.g 47 [0,1,2,6,7,8,16,34] func86 fun W=> ?_;refine ca (fm b.kb (kp a b c) n) .h1 ?_;rintro _ _ ⟨⟨hl,rfl⟩ | ⟨hl,rfl⟩,rfl⟩
 ·obtain⟨kL,iw⟩:=bM hl;have hl:a.aF n=0:=hl;have iw:(a.u n).st=1:=iw;have mI:=qo a b c (n:=n);have NQ:=ho.wk.sys.mo n.toNat og;apply gO;refine XR.mono (fun _ bR=>lz (z:=n.toNat) (fS kL) (pk [7,7]) bR) ?_;refine XC.ir mixed (f:=16) (l:= #[qF,qF,qF,qF,qF,qF,qF,qF,qF,qF,qF,qF,qF,qF,qF,qF]) rfl rfl XM.kQ (XQ.mv 0 rfl rfl rfl (XQ.nc 1 rfl rfl rfl (XQ.pw 2 rfl rfl (V.fieldAddr rfl Zv) (XQ.ll 3 [14] rfl rfl (.t4 .aa) rfl (fa _) (XQ.mv 4 rfl rfl rfl (XQ.nc 5 rfl rfl rfl (XQ.pw 6 rfl rfl (V.fieldAddr rfl Kk) (XQ.ll 7 [14] rfl rfl (.t4 .aa) rfl (dL _) (XQ.mv 8 rfl rfl rfl (XQ.mv 9 rfl rfl rfl (XQ.nc 10 rfl rfl rfl (XQ.pw 11 rfl rfl (V.fieldAddr rfl Kl) (XQ.ll 12 [13,14] rfl rfl (.t4 .aa) rfl (dQ _ og mI) (XQ.call (i:=13) rfl kq rfl rfl (uq b.bb _ _ _ (a.f n.toNat) NQ) .h1 kq rfl (by rintro _ _ ⟨rfl,rfl⟩<;>exact ut) ?_))))))))))))));rintro _ _ ⟨rfl,rfl⟩;apply XQ.call (i:=14) rfl kq rfl rfl (af9 _ _ a.g ho.wk.gI.ok _ _ _ _ (1000*T) (by have:=ho.wk.T0;omega) ho.wk.gS) (pk [5]) kq rfl (by rintro _ _ ⟨rfl,rfl⟩<;>exact ut);rintro _ _ ⟨rfl,rfl⟩;refine XQ.pw 15 rfl rfl (V.assign rfl) (XQ.done kq (gE (XR.mono (fun _ bR=>qj (f:=a.f) (z:=n.toNat) (ps:=c.pp) (cs:=c.cc) (mb:=c.mb) (fS kL) (pk [1,1,1,1]) bR) ?_)));apply (cd)<;>intro h1
  ·have hje:a.Ij n z≠0:=h1;refine aO rfl rfl (ai (pk (3::rr 6 2 (rr 10 0 []))) rfl ?_);try dsimp only[aR,aQ,bH,bQ]
   have e:a.pd n z=a:=by unfold KA.pd;rw[if_pos (.inr hje)]
   grind [kp,Yj,cP.up]
  ·have hje:¬a.Ij n z≠0:=h1;refine st (.t3 .aa) (JC _ og _) rfl (ld (.t3 .aa) (fv _) ?_);refine ca (PN _ _ c.q c.d hc.qO.inv hc.qR n z) (pk [5,5]) ?_;rintro _ _ ⟨rfl,q2,uV,A4,rfl⟩;obtain⟨d1,uX⟩:=hc.qO.move og n z;apply gO;refine aO rfl rfl (ai (pk (5::4::4::0::0::2::2::rr 10 0 [])) rfl ?_);have e:a.pd n z= {a with u:=ad a.u n {a.u n with cO:=z},g:=a.g.move (a.u n).cO z 1 (a.gk n)} :=by unfold KA.pd;rw[if_neg fun q=>q.elim (fun q=>q hl) hje]
   rw[e];refine⟨_,{c with q:=q2,d:=d1},rfl,(fun _=>⟨hl,og⟩),⟨(by show q2.toSF.Ok _ _ _;rw[uV];exact uX.mono (Nat.le_refl _) og),A4,FF.Ok.up hc.F og,hc.rp,hc.rc,hc.rl,hc.tb,fun m m0 m1 hm=>by rw[(we _ _ _ _).1];exact hc.tk m m0 m1 (by have hm:q2.toSF.aa (10+m)=true:=hm;rw[uV,Fa.SF.S8]at hm;exact hm)⟩,?_⟩;try unfold du
   rw[acS a b c n z,Zw];rfl
 ·have hl:a.aF n≠0:=hl;have jz:(kp a b c).aF n=a.aF n:=rfl;rw[jz];apply gO;refine bL (pz 17) ?_;have e:a.pd n z=a:=by unfold KA.pd;rw[if_pos (.inl hl)]
  rw[e];exact⟨a.aF n,c,(aL _ hl).symm,(fun q=>absurd q hl),hc.up (Nat.le_succ _) og,rfl⟩
open Go.X.Tr
def jv(a:KA)(b:KZ)(c:KC)(n:Int)(hz:(0<=(a.s.bZ n).1/\(a.s.bZ n).1<6)/\a.s.aa (a.s.bZ n).1=true):Fn 105 [ay b.kb 0 0,iI n] [dO b.kb (kp a b c),Sp.bY b.sb 0 a.s] (ap (ay (c.t (a.s.bZ n).1.toNat).b 0 0) [dO b.kb (kp a b c),Sp.bY b.sb 0 a.s]):=by
 refine Spec.g 13 [0,1,4] func105 fun W=> ?_;refine rq [0,1,2,4,5,3,6,7,8] mixed ?_;refine cq (kH b.kb (kp a b c) a.s n) (pz 2) ?_;refine sd (ld .aa (uh _ hz.1 (Ya a b c hz.2)) (aO rfl rfl (ai (pz 2) rfl ?_)));grind [aR,aQ,kp]
def P8(a:KA)(b:KZ)(c:KC)(N:Nat)(T:Int)(ho:a.Ok T)(hc:cP a c N T)(hT:T<=800000)(n:Int)(x:ByteArray)(hx:x.size<=100000):Fn 166 [ay b.kb 0 0,iI n,.string x] (du a b c []) (fun v H1=>∃ (e:Int) (c1:KC),v=ax 102 e/\cP a c1 N (T+15)/\H1=(du a b c1 [])):=by
 refine Spec.g 43 [0,1,2,6,8,9,10,18,30] func166 fun W=> ?_;refine ca (fm b.kb (kp a b c) n) .h1 ?_;rintro _ _ ⟨⟨hl,rfl⟩ | ⟨hl,rfl⟩,rfl⟩
 ·obtain⟨kL,iw⟩:=bM hl;have hl:a.aF n=0:=hl;have iw:(a.u n).st=1:=iw;have hz:=ho.tz hl;have jc:=hc.tb _ hz.1.1 hz.1.2 hz.2;have A3:=hc.sh og;apply gO;apply XR.mono fun _ bR=>iv (z:=(a.s.bZ n).1.toNat) (eG hz.1 hz.2) (pk [15,15]) bR;refine cq (jv a b c n hz) (pk [4,5]) ?_;refine cq (Co _ _ _ _ _ _ _ _ _ jc.rv jc.mc jc.len c.F A3 x hx) (pk [2,2,11,11,11]) ?_;apply XO.bP (z:=.agg (WH.c9 WH.nil)) (m:=2) (C:=bd WH.nil) (bd.box _);intro bw;apply gO;refine gu .aa (bd.st _ _) rfl ⟨rfl,rfl⟩ (XR.mono (fun _ bR=>iq (z:=(a.s.bZ n).1.toNat) (eG hz.1 hz.2) (pk [1,1,6,6]) bR) ?_);apply (cd)<;>intro h1
  ·refine rq [0,1,2,3,4,5,6,7,8,9,10,11] mixed (ld (.t6 .aa) (aB.BO _) (ld (.t2 .aa) (bd.Gg _) ?_));refine ca (Y5 _ _ c.F A3 _ _ 2 (by have:=AO c.F.toFF (c.t (a.s.bZ n).1.toNat).l (c.t (a.s.bZ n).1.toNat).r x;omega)) (pk [3,3,3]) ?_;rintro _ _ ⟨rfl,t,ht,hp,hr,rfl⟩;obtain⟨d1,uX⟩:=hc.F.make (vQ c.F.toFF (c.t (a.s.bZ n).1.toNat).l (c.t (a.s.bZ n).1.toNat).r x).node (sF c.F.toFF (c.t (a.s.bZ n).1.toNat).l (c.t (a.s.bZ n).1.toNat).r x) 2;apply gO;refine aO rfl rfl (ai (pk [6,7,6,6,6,6,6,6,6,0,0,0,3,3,3,0,0]) rfl ?_);exact⟨_,{c with F:=t,dF:=d1},rfl,hc.Po (by rw[ht];exact FF.Ok.up uX og) og hp hr (by rw[ht];exact Fp _ _ _ _),rfl⟩
  ·refine aO rfl rfl (ai (pk (6::7::rr 7 6 (rr 6 3 [0,0]))) rfl ?_);try dsimp only[aR,aQ,bH,bQ]
   grind [cP.up]
 ·have hl:a.aF n≠0:=hl;have jz:(kp a b c).aF n=a.aF n:=rfl;rw[jz];apply gO;refine bL (pz 17) ?_;exact⟨a.aF n,c,(aL _ hl).symm,hc.up (Nat.le_refl _) og,rfl⟩
def U0(a:KA)(b:KZ)(c:KC)(N:Nat)(T:Int)(ho:a.Ok T)(hc:cP a c N T)(hT:T<=800000)(n:Int)(x:ByteArray)(hx:x.size<=100000):Fn 167 [ay b.kb 0 0,iI n,.string x] (du a b c []) (fun v H1=>∃ (e:Int) (c1:KC),v=ax 102 e/\cP a c1 N (T+15)/\H1=(du a b c1 [])):=by
 refine Spec.g 40 [0,1,2,6,8,9,10,18,30] func167 fun W=> ?_;refine ca (fm b.kb (kp a b c) n) .h1 ?_;rintro _ _ ⟨⟨hl,rfl⟩ | ⟨hl,rfl⟩,rfl⟩
 ·obtain⟨kL,iw⟩:=bM hl;have hl:a.aF n=0:=hl;have iw:(a.u n).st=1:=iw;have hz:=ho.tz hl;have jc:=hc.tb _ hz.1.1 hz.1.2 hz.2;have A3:=hc.sh og;apply gO;apply XR.mono fun _ bR=>iv (z:=(a.s.bZ n).1.toNat) (eG hz.1 hz.2) (pk [15,15]) bR;refine cq (jv a b c n hz) (pk [4,5]) ?_;refine cq (Co _ _ _ _ _ _ _ _ _ jc.rv jc.mc jc.len c.F A3 x hx) (pk [2,2,11,11,11]) ?_;apply XO.bP (z:=.agg (WH.c9 WH.nil)) (m:=2) (C:=bd WH.nil) (bd.box _);intro bw;apply gO;refine gu .aa (bd.st _ _) rfl ⟨rfl,rfl⟩ (XR.mono (fun _ bR=>iq (z:=(a.s.bZ n).1.toNat) (eG hz.1 hz.2) (pk [1,1,6,6]) bR) ?_);apply (cd)<;>intro h1
  ·refine rq [0,1,2,3,4,5,6,7,8] mixed (ld (.t6 .aa) (aB.BO _) (ld (.t2 .aa) (bd.Gg _) ?_));refine ca (Y6 _ _ c.F A3 _ _) (pk [3,3,3]) ?_;rintro _ _ ⟨rfl,t,ht,hp,hr,rfl⟩;apply gO;refine aO rfl rfl (ai (pk [6,7,6,6,6,6,6,6,6,0,0,0,3,3,3,0,0]) rfl ?_);exact⟨_,{c with F:=t,dF:=c.dF},rfl,hc.Po (by rw[ht];exact FF.Ok.up (hc.F.eh _ _) og) og hp hr (by rw[ht];exact J4 _ _ _),rfl⟩
  ·refine aO rfl rfl (ai (pk (6::7::rr 7 6 (rr 6 3 [0,0]))) rfl ?_);try dsimp only[aR,aQ,bH,bQ]
   grind [cP.up]
 ·have hl:a.aF n≠0:=hl;have jz:(kp a b c).aF n=a.aF n:=rfl;rw[jz];apply gO;refine bL (pz 17) ?_;exact⟨a.aF n,c,(aL _ hl).symm,hc.up (Nat.le_refl _) og,rfl⟩
def acU(a:KA)(b:KZ)(c:KC)(N:Nat)(T:Int)(ho:a.Ok T)(hc:cP a c N T)(hT:T<=800000)(n:Int)(x y:ByteArray)(hx:x.size<=100000)(hy:y.size<=100000):Fn 168 [ay b.kb 0 0,iI n,.string x,.string y] (du a b c []) (fun v H1=>∃ (e:Int) (c1:KC),v=ax 102 e/\cP a c1 N (T+15)/\H1=(du a b c1 [])):=by
 refine Spec.g 59 [0,1,2,3,8,10,11,12,13,14,22,34,46] func168 fun W=> ?_;refine ca (fm b.kb (kp a b c) n) .h1 ?_;rintro _ _ ⟨⟨hl,rfl⟩ | ⟨hl,rfl⟩,rfl⟩
 ·obtain⟨kL,iw⟩:=bM hl;have hl:a.aF n=0:=hl;have iw:(a.u n).st=1:=iw;have hz:=ho.tz hl;have jc:=hc.tb _ hz.1.1 hz.1.2 hz.2;have A3:=hc.sh og;apply gO;apply XR.mono fun _ bR=>iv (z:=(a.s.bZ n).1.toNat) (eG hz.1 hz.2) (pk [15,15]) bR;refine cq (jv a b c n hz) (pk [4,5]) ?_;refine cq (Co _ _ _ _ _ _ _ _ _ jc.rv jc.mc jc.len c.F A3 x hx) (pk [2,2,11,11,11]) ?_;apply XO.bP (z:=.agg (WH.c9 WH.nil)) (m:=2) (C:=bd WH.nil) (bd.box _);intro bw;apply gO;refine gu .aa (bd.st _ _) rfl ⟨rfl,rfl⟩ (XR.mono (fun _ bR=>iq (z:=(a.s.bZ n).1.toNat) (eG hz.1 hz.2) (pk [1,1,6,6]) bR) ?_);apply (cd)<;>intro h1
  ·refine aO rfl rfl (ai (pk (6::7::rr 7 6 (rr 6 3 [0,0]))) rfl ?_);try dsimp only[aR,aQ,bH,bQ]
   grind [cP.up]
  ·apply XR.mono fun _ bR=>iv (z:=(a.s.bZ n).1.toNat) (eG hz.1 hz.2) (pz 2) bR;refine cq (jv a b c n hz) (pk [8,8]) ?_;refine cq (Co _ _ _ _ _ _ _ _ _ jc.rv jc.mc jc.len c.F A3 y hy) (pk [2,2,5,5,5]) ?_;apply XO.bP (z:=.agg (WH.c9 WH.nil)) (m:=2) (C:=bd WH.nil) (bd.box _);intro bw2;apply gO;refine gu .aa (bd.st _ _) rfl ⟨rfl,rfl⟩ (XR.mono (fun _ bR=>iq (z:=(a.s.bZ n).1.toNat) (eG hz.1 hz.2) (pk [1,1,6,6]) bR) ?_);apply (cd)<;>intro h2
   ·refine aO rfl rfl (ai (pk [6,8,6,7,7,7,7,7,7,3,3,3,4,4,4,0,0]) rfl ?_);try dsimp only[aR,aQ,bH,bQ]
    grind [cP.up]
   ·refine rq [0,1,2,3,4,5,6,7,8,9,10,11] mixed (ld (.t6 .aa) (aB.BO _) (ld (.t8 .aa) (bd.Gg _) (ld (.t2 .aa) (bd.Gg _) ?_)));refine ca (agB _ _ c.F A3 c.dF hc.F.inv.chI _ _ _ _ (by have:=AO c.F.toFF (c.t (a.s.bZ n).1.toNat).l (c.t (a.s.bZ n).1.toNat).r y;omega)) (pk [3,3,3]) ?_;rintro _ _ ⟨rfl,t,ht,hp,hr,rfl⟩;obtain⟨d1,uX⟩:=hc.F.move (vQ c.F.toFF (c.t (a.s.bZ n).1.toNat).l (c.t (a.s.bZ n).1.toNat).r x).node (sF c.F.toFF (c.t (a.s.bZ n).1.toNat).l (c.t (a.s.bZ n).1.toNat).r x) (vQ c.F.toFF (c.t (a.s.bZ n).1.toNat).l (c.t (a.s.bZ n).1.toNat).r y).node (sF c.F.toFF (c.t (a.s.bZ n).1.toNat).l (c.t (a.s.bZ n).1.toNat).r y);apply gO;refine aO rfl rfl (ai (pk [6,8,6,7,7,7,7,7,7,0,0,0,4,4,4,0,0]) rfl ?_);exact⟨_,{c with F:=t,dF:=d1},rfl,hc.Po (by rw[ht];exact FF.Ok.up uX og) og hp hr (by rw[ht];exact Pn _ _ _ _ _ _),rfl⟩
 ·have hl:a.aF n≠0:=hl;have jz:(kp a b c).aF n=a.aF n:=rfl;rw[jz];apply gO;refine bL (pz 17) ?_;exact⟨a.aF n,c,(aL _ hl).symm,hc.up (Nat.le_refl _) og,rfl⟩
def acV(a:KA)(b:KZ)(c:KC)(N:Nat)(T:Int)(ho:a.Ok T)(hc:cP a c N T)(hT:T<=800000)(n:Int)(x y:ByteArray)(hx:x.size<=100000)(hy:y.size<=100000):Fn 169 [ay b.kb 0 0,iI n,.string x,.string y] (du a b c []) (fun v H1=>∃ (e:Int) (c1:KC),v=ax 102 e/\cP a c1 N (T+15)/\H1=(du a b c1 [])):=by
 refine Spec.g 56 [0,1,2,3,8,10,11,12,13,21,32,44] func169 fun W=> ?_;refine ca (fm b.kb (kp a b c) n) .h1 ?_;rintro _ _ ⟨⟨hl,rfl⟩ | ⟨hl,rfl⟩,rfl⟩
 ·obtain⟨kL,iw⟩:=bM hl;have hl:a.aF n=0:=hl;have iw:(a.u n).st=1:=iw;have hz:=ho.tz hl;have jc:=hc.tb _ hz.1.1 hz.1.2 hz.2;have A3:=hc.sh og;apply gO;apply XR.mono fun _ bR=>iv (z:=(a.s.bZ n).1.toNat) (eG hz.1 hz.2) (pk [15,15]) bR;refine cq (jv a b c n hz) (pk [4,5]) ?_;refine cq (F6 _ _ _ _ _ _ _ _ _ jc.rv jc.mc jc.len c.F A3 x hx) (pk [2,2,11,11,11]) ?_;apply XO.bP (z:=.agg (WH.c9 WH.nil)) (m:=2) (C:=bd WH.nil) (bd.box _);intro bw;apply gO;refine gu .aa (bd.st _ _) rfl ⟨rfl,rfl⟩ (XR.mono (fun _ bR=>iq (z:=(a.s.bZ n).1.toNat) (eG hz.1 hz.2) (pk [1,1,6,6]) bR) ?_);apply (cd)<;>intro h1
  ·refine aO rfl rfl (ai (pk (6::7::rr 7 6 (rr 6 3 [0,0]))) rfl ?_);try dsimp only[aR,aQ,bH,bQ]
   grind [cP.up]
  ·apply XR.mono fun _ bR=>iv (z:=(a.s.bZ n).1.toNat) (eG hz.1 hz.2) (pz 2) bR;refine cq (jv a b c n hz) (pk [8,8]) ?_;refine cq (Co _ _ _ _ _ _ _ _ _ jc.rv jc.mc jc.len c.F A3 y hy) (pk [2,2,5,5,5]) ?_;apply XO.bP (z:=.agg (WH.c9 WH.nil)) (m:=2) (C:=bd WH.nil) (bd.box _);intro bw2;apply gO;refine gu .aa (bd.st _ _) rfl ⟨rfl,rfl⟩ (XR.mono (fun _ bR=>iq (z:=(a.s.bZ n).1.toNat) (eG hz.1 hz.2) (pk [1,1,6,6]) bR) ?_);apply (cd)<;>intro h2
   ·refine aO rfl rfl (ai (pk [6,8,6,7,7,7,7,7,7,3,3,3,4,4,4,0,0]) rfl ?_);try dsimp only[aR,aQ,bH,bQ]
    grind [cP.up]
   ·refine rq [0,1,2,3,4,5,6,7,8,9,10] mixed (ld (.t6 .aa) (aB.BO _) (ld (.t8 .aa) (bd.Gg _) (ld (.t2 .aa) (bd.Gg _) ?_)));refine ca (agz _ _ c.F A3 _ _ _ (by have:=AO c.F.toFF (c.t (a.s.bZ n).1.toNat).l (c.t (a.s.bZ n).1.toNat).r y;omega)) (pk [3,3,3]) ?_;rintro _ _ ⟨rfl,t,ht,hp,hr,rfl⟩;apply gO;refine aO rfl rfl (ai (pk [6,8,6,7,7,7,7,7,7,0,0,0,4,4,4,0,0]) rfl ?_);exact⟨_,{c with F:=t,dF:=c.dF},rfl,hc.Po (by rw[ht];exact FF.Ok.up (hc.F.EW _ _ _) og) og hp hr (by rw[ht];exact Pm _ _ _ _),rfl⟩
 ·have hl:a.aF n≠0:=hl;have jz:(kp a b c).aF n=a.aF n:=rfl;rw[jz];apply gO;refine bL (pz 17) ?_;exact⟨a.aF n,c,(aL _ hl).symm,hc.up (Nat.le_refl _) og,rfl⟩
def Zy:ey Tryz.prog 101 5=some 444:=kq
def Zz:ey Tryz.prog 101 6=some 445:=kq
def ZA:ey Tryz.prog 101 7=some 446:=kq
def dN:fE Tryz.prog 163=some 2:=kq
def acW(a:KA)(b:KZ)(c:KC)(N:Nat)(T:Int)(ho:a.Ok T)(hc:cP a c N T)(hT:T<=800000)(n:Int)(x y:ByteArray)(hx:x.size<=100000)(hy:y.size<=100000):Fn 170 [ay b.kb 0 0,iI n,.string x,.string y] (du a b c []) (fun v H1=>∃ (e:Int) (c1:KC),v=ax 102 e/\cP a c1 N (T+15)/\H1=(du a b c1 [])):=by
 refine Spec.g 50 [0,1,2,3,8,10,11,12,20,31,42] func170 fun W=> ?_;refine ca (fm b.kb (kp a b c) n) .h1 ?_;rintro _ _ ⟨⟨hl,rfl⟩ | ⟨hl,rfl⟩,rfl⟩
 ·obtain⟨kL,iw⟩:=bM hl;have hl:a.aF n=0:=hl;have iw:(a.u n).st=1:=iw;have hz:=ho.tz hl;have jc:=hc.tb _ hz.1.1 hz.1.2 hz.2;have A3:=hc.sh og;apply gO;apply XR.mono fun _ bR=>iv (z:=(a.s.bZ n).1.toNat) (eG hz.1 hz.2) (pk [15,15]) bR;refine cq (jv a b c n hz) (pk [4,5]) ?_;refine cq (aef _ _ _ _ _ _ _ _ _ jc.rv jc.mc jc.len c.F A3 x hx) (pk [2,2,11,11,11]) ?_;apply XO.bP (z:=.agg (WH.c9 WH.nil)) (m:=2) (C:=bd WH.nil) (bd.box _);intro bw;apply gO;apply gu .aa (bd.st _ _) rfl ⟨rfl,rfl⟩;apply XR.mono fun _ bR=>iq (z:=(a.s.bZ n).1.toNat) (eG hz.1 hz.2) (pk [1,1,6,6]) bR;apply (cd)<;>intro h1
  ·refine aO rfl rfl (ai (pk (6::7::rr 7 6 (rr 6 3 [0,0]))) rfl ?_);try dsimp only[aR,aQ,bH,bQ]
   grind [cP.up]
  ·apply XR.mono fun _ bR=>iv (z:=(a.s.bZ n).1.toNat) (eG hz.1 hz.2) (pz 2) bR;refine cq (jv a b c n hz) (pk [8,8]) ?_;refine cq (F6 _ _ _ _ _ _ _ _ _ jc.rv jc.mc jc.len c.F A3 y hy) (pk [2,2,5,5,5]) ?_;apply XO.bP (z:=.agg (WH.c9 WH.nil)) (m:=2) (C:=bd WH.nil) (bd.box _);intro bw2;apply gO;apply gu .aa (bd.st _ _) rfl ⟨rfl,rfl⟩;apply XR.mono fun _ bR=>iq (z:=(a.s.bZ n).1.toNat) (eG hz.1 hz.2) (pk [1,1,6,6]) bR;apply (cd)<;>intro h2
   ·refine aO rfl rfl (ai (pk [6,8,6,7,7,7,7,7,7,3,3,3,4,4,4,0,0]) rfl ?_);try dsimp only[aR,aQ,bH,bQ]
    grind [cP.up]
   ·apply XR.mono fun _ bR=>iv (z:=(a.s.bZ n).1.toNat) (eG hz.1 hz.2) (pz 2) bR;apply XC.ir mixed (f:=7) (l:= #[qF,qF,qF,qF,qF,qF,qF]) rfl rfl XM.kQ;refine XQ.mv 0 rfl rfl rfl ?_;refine XQ.mv 1 rfl rfl rfl ?_;refine XQ.lf 3 [5] rfl rfl (.t10 .aa) rfl (bd.agg _) ?_;refine XQ.lf 4 [5] rfl rfl (.t4 .aa) rfl (bd.agg _) ?_;apply XQ.call (i:=2) rfl kq rfl rfl (jv a b c n hz) (pk [8,8]) kq rfl (by rintro _ _ ⟨rfl,rfl⟩<;>exact ut);rintro _ _ ⟨rfl,rfl⟩;apply XQ.call (i:=5) rfl kq rfl rfl (agQ _ _ _ _ _ _ _ _ _ jc.rv jc.mc jc.len c.F c.dF T hc.F og _ _) (pk [2,2,5,5,5]) kq rfl (by rintro _ _ ⟨rfl,p1,k1,k2,k3,C1,u,hv1,hC1,hu,hp,hr,rfl⟩<;>exact ut);rintro _ _ ⟨rfl,p1,k1,k2,k3,C1,u,hv1,hC1,hu,hp,hr,rfl⟩;refine XQ.pw 6 rfl rfl (V.assign rfl) ?_;apply XQ.mono (fun _ bR=>AD (z:=(a.s.bZ n).1.toNat) (⟨(c.t (a.s.bZ n).1.toNat).b,(c.t (a.s.bZ n).1.toNat).r,(qn c.F.toFF (c.t (a.s.bZ n).1.toNat).l (Di c.F.toFF (c.t (a.s.bZ n).1.toNat).l (c.t (a.s.bZ n).1.toNat).r x) (MM c.F.toFF (c.t (a.s.bZ n).1.toNat).l (c.t (a.s.bZ n).1.toNat).r y)),p1,k1,k2,k3,C1⟩:TB) (eG hz.1 hz.2) (pk [0,0,5,5]) bR);apply XQ.done kq;apply gE;refine aO rfl rfl (ai (pk [5,8,5,7,7,7,7,7,7,2,2,2,4,4,4,0,0]) rfl ?_);refine⟨_,{c with F:=u,t:=bD c.t (a.s.bZ n).1.toNat (⟨(c.t (a.s.bZ n).1.toNat).b,(c.t (a.s.bZ n).1.toNat).r,(qn c.F.toFF (c.t (a.s.bZ n).1.toNat).l (Di c.F.toFF (c.t (a.s.bZ n).1.toNat).l (c.t (a.s.bZ n).1.toNat).r x) (MM c.F.toFF (c.t (a.s.bZ n).1.toNat).l (c.t (a.s.bZ n).1.toNat).r y)),p1,k1,k2,k3,C1⟩:TB)},rfl,hc.tab ⟨hv1,hC1,Un jc.len _ _⟩ (by rw[hu];exact FF.Ok.up (X0 hc.F _ _ _) og) hp hr (by rw[hu];exact M7 _ _ _ _),?_⟩;grind [Pp,Pq]
 ·have hl:a.aF n≠0:=hl;have jz:(kp a b c).aF n=a.aF n:=rfl;rw[jz];apply gO;refine bL (pz 17) ?_;exact⟨a.aF n,c,(aL _ hl).symm,hc.up (Nat.le_refl _) og,rfl⟩
def U1(a:KA)(b:KZ)(c:KC)(N:Nat)(T:Int)(ho:a.Ok T)(hc:cP a c N T)(hT:T<=800000)(n:Int)(x:ByteArray)(hx:x.size<=100000):Fn 171 [ay b.kb 0 0,iI n,.string x] (du a b c []) (fun v H1=>∃ (e:Int) (c1:KC),v=ax 102 e/\cP a c1 N (T+15)/\H1=(du a b c1 [])):=by
 refine Spec.g 35 [0,1,2,6,8,9,17,28] func171 fun W=> ?_;refine ca (fm b.kb (kp a b c) n) .h1 ?_;rintro _ _ ⟨⟨hl,rfl⟩ | ⟨hl,rfl⟩,rfl⟩
 ·obtain⟨kL,iw⟩:=bM hl;have hl:a.aF n=0:=hl;have iw:(a.u n).st=1:=iw;have hz:=ho.tz hl;have jc:=hc.tb _ hz.1.1 hz.1.2 hz.2;have A3:=hc.sh og;apply gO;apply XR.mono fun _ bR=>iv (z:=(a.s.bZ n).1.toNat) (eG hz.1 hz.2) (pk [15,15]) bR;refine cq (jv a b c n hz) (pk [4,5]) ?_;refine cq (aef _ _ _ _ _ _ _ _ _ jc.rv jc.mc jc.len c.F A3 x hx) (pk [2,2,11,11,11]) ?_;apply XO.bP (z:=.agg (WH.c9 WH.nil)) (m:=2) (C:=bd WH.nil) (bd.box _);intro bw;apply gO;apply gu .aa (bd.st _ _) rfl ⟨rfl,rfl⟩;apply XR.mono fun _ bR=>iq (z:=(a.s.bZ n).1.toNat) (eG hz.1 hz.2) (pk [1,1,6,6]) bR;apply (cd)<;>intro h1
  ·refine aO rfl rfl (ai (pk (6::7::rr 7 6 (rr 6 3 [0,0]))) rfl ?_);try dsimp only[aR,aQ,bH,bQ]
   grind [cP.up]
  ·apply XR.mono fun _ bR=>iv (z:=(a.s.bZ n).1.toNat) (eG hz.1 hz.2) (pz 2) bR;apply XC.ir mixed (f:=6) (l:= #[qF,qF,qF,qF,qF,qF]) rfl rfl XM.kQ;refine XQ.mv 0 rfl rfl rfl ?_;refine XQ.mv 1 rfl rfl rfl ?_;refine XQ.lf 3 [4] rfl rfl (.t4 .aa) rfl (bd.agg _) ?_;apply XQ.call (i:=2) rfl kq rfl rfl (jv a b c n hz) (pk [8,8]) kq rfl (by rintro _ _ ⟨rfl,rfl⟩<;>exact ut);rintro _ _ ⟨rfl,rfl⟩;apply XQ.call (i:=4) rfl kq rfl rfl (Zk _ _ _ _ _ _ _ _ _ jc.rv jc.mc jc.len c.F c.dF T hc.F og _) (pk [2,2,5,5,5]) kq rfl (by rintro _ _ ⟨rfl,p1,k1,k2,k3,C1,u,hv1,hC1,hu,hp,hr,rfl⟩<;>exact ut);rintro _ _ ⟨rfl,p1,k1,k2,k3,C1,u,hv1,hC1,hu,hp,hr,rfl⟩;refine XQ.pw 5 rfl rfl (V.assign rfl) ?_;apply XQ.mono (fun _ bR=>AD (z:=(a.s.bZ n).1.toNat) (⟨(c.t (a.s.bZ n).1.toNat).b,(c.t (a.s.bZ n).1.toNat).r,(om (c.t (a.s.bZ n).1.toNat).l (Di c.F.toFF (c.t (a.s.bZ n).1.toNat).l (c.t (a.s.bZ n).1.toNat).r x)),p1,k1,k2,k3,C1⟩:TB) (eG hz.1 hz.2) (pk [0,0,5,5]) bR);apply XQ.done kq;apply gE;refine aO rfl rfl (ai (pk [5,7,5,6,6,6,6,6,6,2,2,2,3,3,3,0,0]) rfl ?_);refine⟨_,{c with F:=u,t:=bD c.t (a.s.bZ n).1.toNat (⟨(c.t (a.s.bZ n).1.toNat).b,(c.t (a.s.bZ n).1.toNat).r,(om (c.t (a.s.bZ n).1.toNat).l (Di c.F.toFF (c.t (a.s.bZ n).1.toNat).l (c.t (a.s.bZ n).1.toNat).r x)),p1,k1,k2,k3,C1⟩:TB)},rfl,hc.tab ⟨hv1,hC1,M6 jc.len _⟩ (by rw[hu];exact FF.Ok.up (abP hc.F _ _) og) hp hr (by rw[hu];exact G1 _ _ _),?_⟩;grind [Pp,Pq]
 ·have hl:a.aF n≠0:=hl;have jz:(kp a b c).aF n=a.aF n:=rfl;rw[jz];apply gO;refine bL (pz 17) ?_;exact⟨a.aF n,c,(aL _ hl).symm,hc.up (Nat.le_refl _) og,rfl⟩
def ZB(a:KA)(b:KZ)(c:KC)(N:Nat)(T:Int)(ho:a.Ok T)(hc:cP a c N T)(hT:T<=800000)(n z:Int):Fn 39 [ay b.kb 0 0,iI n,iI z] (du a b c []) (fun v H1=>∃ (e:Int) (c1:KC),v=ax 102 e/\cP a c1 N (T+15)/\H1=(du a b c1 [])):=by
 refine Spec.g 31 [0,1,2,6,8,16,24] func39 fun W=> ?_;refine ca (fm b.kb (kp a b c) n) .h1 ?_;rintro _ _ ⟨⟨hl,rfl⟩ | ⟨hl,rfl⟩,rfl⟩
 ·obtain⟨kL,iw⟩:=bM hl;have hl:a.aF n=0:=hl;have iw:(a.u n).st=1:=iw;have hz:=ho.tz hl;have jc:=hc.tb _ hz.1.1 hz.1.2 hz.2;have A3:=hc.sh og;apply gO;refine cq (kH b.kb (kp a b c) a.s n) (pk [0,1]) ?_;refine cq (Cl b.kb (kp a b c) a.s _) (pz 2) ?_;apply (cd)<;>intro h1
  ·refine aO rfl rfl (ai (pk (0::1::rr 15 0 [])) rfl ?_);exact⟨8,c,rfl,hc.up (Nat.le_refl _) og,rfl⟩
  ·apply XR.mono fun _ bR=>iv (z:=(a.s.bZ n).1.toNat) (eG hz.1 hz.2) (pk [15,15]) bR;have eR:dH c.rp c.rc 3 c.rl=dH c.F.rP c.F.rC 3 c.F.toFF.roots:=by rw[hc.rp,hc.rc,hc.rl]
   try unfold du
   rw[eR];refine cq (jv a b c n hz) (pk [4,4]) ?_;refine ca (acD _ _ _ _ _ _ _ _ _ jc.rv jc.mc jc.len c.F c.dF T hc.F og z) (pk [2,2,11,11,11,11]) ?_;rintro _ _ (⟨gJ,rfl,rfl⟩ | ⟨hre,rfl,u,hu,uX,hp,hr,rfl⟩)
   ·apply gO;refine XR.mono (fun _ bR=>iq (z:=(a.s.bZ n).1.toNat) (eG hz.1 hz.2) (pk [0,0,6,6]) bR) ?_;refine aO rfl rfl (ai (pk (6::7::rr 7 6 (rr 6 2 [0,0]))) rfl ?_);try dsimp only[aR,aQ,bH,bQ]
    grind [cP.up]
   ·apply gO;refine XR.mono (fun _ bR=>AD (z:=(a.s.bZ n).1.toNat) (⟨(c.t (a.s.bZ n).1.toNat).b,⟨z,c.F.toFF.gm z⟩,[],none,0,0,0,C0⟩:TB) (eG hz.1 hz.2) (pk [0,0,6,6]) bR) ?_;refine aO rfl rfl (ai (pk (6::7::rr 7 6 (rr 6 2 [0,0]))) rfl ?_);rw[<-eR];refine⟨0,{c with F:=u,t:=bD c.t (a.s.bZ n).1.toNat (⟨(c.t (a.s.bZ n).1.toNat).b,⟨z,c.F.toFF.gm z⟩,[],none,0,0,0,C0⟩:TB)},rfl,hc.tab ⟨aiP,fun i hi=>absurd hi (by show ¬i<0*4;omega),(by show 0<=6;omega)⟩ (FF.Ok.up uX og) hp hr (by rw[hu,uE];exact ln _ _),?_⟩;grind [Pp,Pq]
 ·have hl:a.aF n≠0:=hl;have jz:(kp a b c).aF n=a.aF n:=rfl;rw[jz];apply gO;refine bL (pz 17) ?_;exact⟨a.aF n,c,(aL _ hl).symm,hc.up (Nat.le_refl _) og,rfl⟩
def ZC(a:KA)(b:KZ)(c:KC)(N:Nat)(T:Int)(ho:a.Ok T)(hc:cP a c N T)(hT:T<=800000):Fn 38 [ay b.kb 0 0] (du a b c []) (fun v H1=>∃ (m e:Int) (c1:KC),v= .tuple #[iI m,ax 102 e]/\cP a c1 N (T+15)/\H1=(du a b c1 [])):=by
 refine Spec.g 11 [0,2,3] func38 fun W=> ?_;have eR:dH c.rp c.rc 3 c.rl=dH c.F.rP c.F.rC 3 c.F.toFF.roots:=by rw[hc.rp,hc.rc,hc.rl]
 try unfold du
 rw[eR];apply ld .aa (aB.BO _);refine ca (R2 _ _ c.F (hc.sh og)) (pk [9,9,9,9]) ?_;rintro _ _ ⟨t,rfl,ht,rfl⟩;apply gO;refine bC rfl rfl rfl (ai (pk (rr 9 4 (rr 8 0 []))) rfl ?_);obtain⟨d1,uX⟩:=hc.F.Al;exact⟨_,_,{c with F:=t,dF:=d1,rp:=t.rP,rc:=t.rC,rl:=t.toFF.roots},rfl,⟨hc.qO.mono (Nat.le_refl _) og,hc.qR,(by show t.toFF.Ok _ _;rw[ht];exact FF.Ok.up uX og),rfl,rfl,rfl,hc.tb,hc.tk⟩,rfl⟩
def IS(a:KA)(b:KZ)(c:KC)(N:Nat)(T:Int)(ho:a.Ok T)(hc:cP a c N T)(hT:T<=800000:=by omega):Fn 43 [ay b.kb 0 0] (du a b c []) (fun v H1=>(∃ m:Int,v= .tuple #[iI m,iI a.P.open,iI a.O.opens])/\H1=(du a b c [])):=by
 refine Spec.g 20 [0,2,3,4] func43 fun W=> ?_;apply XC.ir mixed (f:=18) (l:= #[qF,qF,qF,qF,qF,qF,qF,qF,qF,qF,qF,qF,qF,qF,qF,qF,qF,qF]) rfl rfl XM.kQ;refine XQ.mv 0 rfl rfl rfl ?_;refine XQ.nc 1 rfl rfl rfl ?_;refine XQ.pw 2 rfl rfl (V.fieldAddr rfl Zy) ?_;refine XQ.ll 3 [4,9,14] rfl rfl .aa rfl (aB.BO _) ?_;refine XQ.mv 5 rfl rfl rfl ?_;refine XQ.nc 6 rfl rfl rfl ?_;refine XQ.pw 7 rfl rfl (V.fieldAddr rfl Zz) ?_;refine XQ.ll 8 [9,14] rfl rfl .aa rfl (aB.Xk _) ?_;refine XQ.mv 10 rfl rfl rfl ?_;refine XQ.nc 11 rfl rfl rfl ?_;refine XQ.pw 12 rfl rfl (V.fieldAddr rfl ZA) ?_;refine XQ.ll 13 [14] rfl rfl .aa rfl (gw _) ?_;apply XQ.call (i:=4) rfl kq rfl rfl (acr _ _ c.F) (pk [9]) kq rfl (by rintro _ _ ⟨rfl,rfl⟩<;>exact ut);rintro _ _ ⟨rfl,rfl⟩;apply XQ.call (i:=9) rfl kq rfl rfl (acw _ _ T (by have:=ho.wk.T0;omega) a.P ho.wk.PI) (pk [13]) kq rfl (by rintro _ _ ⟨rfl,rfl⟩<;>exact ut);rintro _ _ ⟨rfl,rfl⟩;apply XQ.call (i:=14) rfl kq rfl rfl (agG _ _ _ _ a.O) (pk [14]) kq rfl (by rintro _ _ ⟨rfl,rfl⟩<;>exact ut);rintro _ _ ⟨rfl,rfl⟩;refine XQ.pw 15 rfl rfl (V.assign rfl) ?_;refine XQ.pw 16 rfl rfl (V.assign rfl) ?_;refine XQ.pw 17 rfl rfl (V.assign rfl) ?_;apply XQ.done kq;apply gE;refine wy rfl rfl rfl rfl (ai (pk (rr 9 3 [2,2,2,2,1,0,0,0])) rfl ?_);exact⟨⟨_,rfl⟩,rfl⟩
def Sc(a:KA)(b:KZ)(c:KC)(N:Nat)(T:Int)(ho:a.Ok T)(hc:cP a c N T)(hT:T<=800000:=by omega):Fn 45 [ay b.kb 0 0] (du a b c []) (ap (iI a.v.bb.left) (du a b c [])):=by
 refine Spec.g 8 [0,2] func45 fun W=> ?_;apply ld .aa (aB.zY _);refine cq (agj _ _ a.v ho.wk.sys.jM.ok) (pk [5,5]) ?_;refine aO rfl rfl (ai (pk (2::2::2::2::2::rr 12 0 [])) rfl ?_);exact⟨rfl,rfl⟩
def acX(a:KA)(b:KZ)(c:KC)(N:Nat)(T:Int)(ho:a.Ok T)(hc:cP a c N T)(hT:T<=800000)(n:Int)(x:ByteArray)(hx:x.size<=100000)(o m:Bool):Fn 163 [ay b.kb 0 0,iI n,.string x,.bool o,.bool m] (du a b c []) (fun v H1=>∃ (a1:KA) (r e:Int) (c1:KC),v= .tuple #[iI r,ax 102 e]/\a.M8 n a1/\cP a1 c1 N (T+15)/\H1=(du a1 b c1 [])):=by
 refine Spec.go 106 [0,1,2,3,4,10,11,12,13,14,15,16,17,18,19,20,28,41,58,69,83,96] [(9,1)] func163 fun W=> ?_;refine ca (fm b.kb (kp a b c) n) .h1 ?_;rintro _ _ ⟨⟨hl,rfl⟩ | ⟨hl,rfl⟩,rfl⟩
 obtain⟨kL,iw⟩:=bM hl;have hl:a.aF n=0:=hl;have iw:(a.u n).st=1:=iw;have hz:=ho.tz hl;have jc:=hc.tb _ hz.1.1 hz.1.2 hz.2;have A3:=hc.sh og;have h1:a.jN n=jQ (a.u n).fd 0:=rfl;apply gO;refine cq (DN a b c n kL 0) .h1 ?_;apply UV 34<;>intro h1
 ·refine fg (pz 17) ?_;exact⟨a,0,4,c,rfl,.inl rfl,hc.up (Nat.le_refl _) og,rfl⟩
 have hs0:¬a.jN n<0:=h1;have D9:=pP (a.u n).fd 0;apply ld .aa (gw _);refine cq (agK _ _ _ _ a.O T og ho.wk.OI 1) (pk [14]) ?_;apply (yx)<;>intro h2
 ·try simp only[sb]at h2
  refine bC rfl rfl rfl (ai (pk (rr 14 1 [0,0,0])) rfl ?_);exact⟨a,0,4,c,rfl,.inl rfl,hc.up (Nat.le_refl _) og,rfl⟩
 try simp only[sb]at h2
 apply XR.mono fun _ bR=>iv (z:=(a.s.bZ n).1.toNat) (eG hz.1 hz.2) (pk [15,15]) bR;refine cq (jv a b c n hz) (pk [5,6]) ?_;refine cq (F6 _ _ _ _ _ _ _ _ _ jc.rv jc.mc jc.len c.F A3 x hx) (pk [2,2,12,12,12]) ?_;apply XO.bP (z:=.agg (WH.c9 WH.nil)) (m:=2) (C:=bd WH.nil) (bd.box _);intro bw;apply gO;refine gu .aa (bd.st _ _) rfl ⟨rfl,rfl⟩ (XR.mono (fun _ bR=>iq (z:=(a.s.bZ n).1.toNat) (eG hz.1 hz.2) (pk [1,1,6,6]) bR) ?_);refine ld (.t2 .aa) (bd.Gg _) ?_;apply ww (σ:=Int×Int×FC×(Int->Nat)) (fun y=>cP a {c with F:=y.2.2.1,dF:=y.2.2.2} N (T+1)) (fun y=>[(0,ay b.kb 0 0),(3,.bool o),(12,ay b.kb 0 (0+0+n.toNat*22)),(13,ax 102 y.2.1),(14,iI (a.jN n)),(16,iI y.1)]) fun y=>[dO b.kb (kp a b {c with F:=y.2.2.1,dF:=y.2.2.2}),dl b.gb 0 a.g,Sp.bY b.sb 0 a.s,d6 b.qb 0 {c with F:=y.2.2.1,dF:=y.2.2.2}.q,.aV cI (SC.dI 254 {c with F:=y.2.2.1,dF:=y.2.2.2}.q),d9 b.bb b.vp a.v.ja a.v.rf,Vm.d8 b.vp 0 a.v.bb.fu,.eJ (ka a) {c with F:=y.2.2.1,dF:=y.2.2.2}.mb 34 (cN b.bb a.f {c with F:=y.2.2.1,dF:=y.2.2.2}.pp {c with F:=y.2.2.1,dF:=y.2.2.2}.cc),.aV (ka a) (rN 171 a.f {c with F:=y.2.2.1,dF:=y.2.2.2}.pp {c with F:=y.2.2.1,dF:=y.2.2.2}.cc),bi b.tb 0 {c with F:=y.2.2.1,dF:=y.2.2.2}.F,.aV au (FC.bA 9 {c with F:=y.2.2.1,dF:=y.2.2.2}.F),.aV au (FC.bB 3 {c with F:=y.2.2.1,dF:=y.2.2.2}.F),dH {c with F:=y.2.2.1,dF:=y.2.2.2}.rp {c with F:=y.2.2.1,dF:=y.2.2.2}.rc 3 {c with F:=y.2.2.1,dF:=y.2.2.2}.rl,Tr.el b.pi 0 a.P,eQ b.ob 0 b.tb b.pi a.O,.eJ (mF a) (fun z=>({c with F:=y.2.2.1,dF:=y.2.2.2}.t z).b) 4 (cT b.tb {c with F:=y.2.2.1,dF:=y.2.2.2}.t),.aV (mF a) (rT 168 {c with F:=y.2.2.1,dF:=y.2.2.2}.t)]
 refine XO.v (QE rfl rfl dq underlying33 Sb rfl underlying102 rfl) rfl (gO ?_);apply UV 56<;>intro h3
 apply (yx)<;>intro h4
 ·try simp only[sb]at h4
  apply XR.mono fun _ bR=>iv (z:=(a.s.bZ n).1.toNat) (eG hz.1 hz.2) (pz 2) bR;refine cq (jv a b c n hz) (pk [8,8]) ?_;refine cq (Co _ _ _ _ _ _ _ _ _ jc.rv jc.mc jc.len c.F A3 x hx) (pk [2,2,5,5,5]) ?_;apply XO.bP (z:=.agg (WH.c9 WH.nil)) (m:=2) (C:=bd WH.nil) (bd.box _);intro bw2;apply gO;refine gu .aa (bd.st _ _) rfl ⟨rfl,rfl⟩ (XR.mono (fun _ bR=>iq (z:=(a.s.bZ n).1.toNat) (eG hz.1 hz.2) (pk [1,1,6,6]) bR) ?_);apply (cd)<;>intro h5
  ·refine bC rfl rfl rfl (ai (pk [6,9,6,8,8,8,8,8,8,3,3,3,5,5,4,0,0]) rfl ?_);exact⟨a,0,_,c,rfl,.inl rfl,hc.up (Nat.le_refl _) og,rfl⟩
  ·refine rq [0,1,2,3,4,5,6,7,8,9,10,11,12] mixed (ld (.t6 .aa) (aB.BO _) (ld (.t2 .aa) (bd.Gg _) ?_));refine ca (Y5 _ _ c.F A3 _ _ 1 (by have:=AO c.F.toFF (c.t (a.s.bZ n).1.toNat).l (c.t (a.s.bZ n).1.toNat).r x;omega)) (pk [3,3,3]) ?_;rintro _ _ ⟨rfl,t,ht,hp,hr,rfl⟩;obtain⟨d1,uX⟩:=hc.F.make (vQ c.F.toFF (c.t (a.s.bZ n).1.toNat).l (c.t (a.s.bZ n).1.toNat).r x).node (sF c.F.toFF (c.t (a.s.bZ n).1.toNat).l (c.t (a.s.bZ n).1.toNat).r x) 1;apply gO;refine wd ((_,_,t,d1)) ?_ (pk [6,9,6,8,8,8,8,8,8,0,0,0,5,5,4,0,0]);grind [cP.Po,Fp]
 try simp only[sb]at h4
 rotate_left;rotate_left
 intro y hy;apply gC;apply (cd)<;>intro h6
 ·refine fg (pz 17) ?_;try dsimp only[aR,aQ,bH,bQ]
  grind [cP.up,KA.M8]
 ·apply ld .aa (gw _);refine ca (agF _ _ _ _ a.O y.2.2.1 (hy.sh og) y.1 o) (pk [14,9,9,9]) ?_;rintro _ _ ⟨rfl,t,ht,hp,hr,rfl⟩;apply gO;apply (cd)<;>intro h7
  ·have hoe:oX y.2.2.1.toFF a.O y.1≠0:=h7;refine bC rfl rfl rfl (ai (pk (rr 9 4 [1,1,1,1,1,0,0,0])) rfl ?_);have hO:rB y.2.2.1.toFF a.O y.1 o=a.O:=by unfold rB;rw[if_neg hoe]
   rw[hO];exact⟨a,0,_,{c with F:=t,dF:=y.2.2.2},rfl,.inl rfl,hy.Po (c:= {c with F:=y.2.2.1,dF:=y.2.2.2}) (by rw[ht];exact Im hy.F _ _) og hp hr (by rw[ht];exact AP _ _ _),rfl⟩
  ·have hoe:¬oX y.2.2.1.toFF a.O y.1≠0:=h7;have hof:¬a.O.first<0:=by
    intro q;unfold oX at hoe;omega
   have hor:=Tr.OS.jG hof;have hov:vN y.2.2.1.toFF a.O y.1=a.O.first:=by unfold vN;rw[if_pos og]
   refine sd (sd (st (.t4 .aa) (mB _ kL ⟨D9.1,D9.2.1⟩ _) rfl (bC rfl rfl rfl (ai (pk (rr 9 4 [1,1,1,1,1,0,0,0])) rfl ?_)))) (by first | omega | (rw[hov];omega));have hO:rB y.2.2.1.toFF a.O y.1 o=a.O.lay a.O.first 1 y.1 o:=by unfold rB;rw[if_pos og]
   rw[hO,hov];refine⟨a.Yk n y.1 o,_,0,{c with F:=t,dF:=y.2.2.2},rfl,.inr ⟨y.1,o,hl,⟨D9.1,D9.2.1⟩,⟨hor.1,hor.2.1⟩,rfl⟩,hy.Po (c:= {c with F:=y.2.2.1,dF:=y.2.2.2}) (by rw[ht];exact Im hy.F _ _) og hp hr (by rw[ht];exact AP _ _ _) rfl fun m q=>by show(rG _ _ _ _ _).st=1;rw[(jI _ _ _ _ _).1];exact q,?_⟩;unfold KA.Yk;try unfold du
   rw[J0,<-Fi a b {c with F:=t,dF:=y.2.2.2} n (a.jN n) (a.O.first+1) (a.O.lay a.O.first 1 y.1 o) a.P];rfl
 ·have hl:a.aF n≠0:=hl;have jz:(kp a b c).aF n=a.aF n:=rfl;rw[jz];apply gO;refine fg (pz 17) ?_;try dsimp only[aR,aQ,bH,bQ]
  exact⟨a,0,a.aF n,c,(by rw[aL _ hl]),.inl rfl,hc.up (Nat.le_refl _) og,rfl⟩
 all_goals refine wd ((_,_,c.F,c.dF)) ?_ (pk [6,8,6,7,7,7,7,7,7,3,3,3,4,4,3,0,0]);exact hc.up (Nat.le_refl _) og
end Go.X.Kn
