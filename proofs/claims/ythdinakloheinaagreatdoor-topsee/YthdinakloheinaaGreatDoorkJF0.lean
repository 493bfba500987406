import Derived.Test.YthdinakloheinaaGreatDoorkKKI
set_option linter.all false
namespace Go.X.Kn
open Go Go.Proofs Go.X Go.X.Fa
set_option maxRecDepth 20000
set_option maxHeartbeats 4000000
def Gx(p:Option Addr)(l c:Nat)(m:Int):Spec Tryz.prog 47 [.slice p l c,iI m] [] (fun v H1=>v= .bool (decide ((l:Int)<=m))/\H1=[]):=by
 apply Spec.go 9 [0,1,4] [] Tryz.func47 rfl rfl rfl;intro W;refine ah rfl rfl (ad .nil rfl ?_);grind [aL,aJ]
def Rx(bl ol len cap:Nat)(hlen:len<=cap)(A:Int->jP)(hA:∀ z:Int,0<=z->z<len->(A z).ok)(hL:len<=1000000)(m:Int):Spec Tryz.prog 48 [.slice (some ⟨bl,ol,none⟩) len cap,iI m] [.ro bl ol (8*len) (fD A)] (fun v H1=>(∃ b,v= .bool b/\(b=true->∀ z:Int,0<=z->z<len->((A z).s.size:Int)<=m/\((A z).t.size:Int)<=m))/\H1=[]):=by
 apply Spec.go 30 [0,1,4,5,9,29] [] Tryz.func48 rfl rfl rfl;intro W;refine lp (σ:=Int) (fun k=>(len-k).toNat) (fun k=>0<=k/\k<=len/\∀ z:Int,0<=z->z<k->((A z).s.size:Int)<=m/\((A z).t.size:Int)<=m) (fun k=>[(5,iI k),(0,.slice (some ⟨bl,ol,none⟩) len cap),(1,iI m)]) (fun k=>XM W (bZ [.ro bl ol (8*len) (fD A)]) [.ro bl ol (8*len) (fD A)]) (0) ?_ (S3 rfl rfl rfl) (fun _ hw=>XM.pick .h1 hw) ?_
 ·grind
 intro k hk;obtain⟨hk0,hk1,hkk⟩:=hk;apply gC;refine cd rfl ?_ ?_<;>intro h1
 ·refine sd (W3 .aa (PD A len _ og) ?_);refine sp 20 rfl ?_ ?_<;>intro h2
  ·refine ah rfl rfl (ad .nil rfl ?_);grind [aL,aJ,aR]
  ·refine sd (W3 .aa (PE A len _ og) ?_);refine cd rfl ?_ ?_<;>intro h3
   ·refine ah rfl rfl (ad .nil rfl ?_);grind [aL,aJ,aR]
   ·refine sd (ag (k+1) ?_ ?_ (S3 rfl rfl rfl) fun _ hw=>XM.pick .h1 hw);all_goals grind
 ·refine ah rfl rfl (ad .nil rfl ?_);grind [aL,aJ,aR]
def Ry(p:Option Addr)(cap:Nat)(m:Int):Spec Tryz.prog 48 [.slice p 0 cap,iI m] [] (fun v H1=>v= .bool true/\H1=[]):=by
 apply Spec.go 30 [0,1,4,5,9] [] Tryz.func48 rfl rfl rfl;intro W;refine lp (σ:=Int) (fun k=>0) (fun k=>0<=k) (fun k=>[(5,iI k),(0,.slice p 0 cap),(1,iI m)]) (fun k=>XM W (bZ []) []) (0) ?_ (S3 rfl rfl rfl) (fun _ hw=>XM.pick .nil hw) ?_
 ·omega
 intro k hk;apply gC;refine Im rfl (by simp;omega) (ah rfl rfl (ad .nil rfl ?_));grind [aL,aJ,aR]
def adl(e:Int):Spec Tryz.prog 19 [.iface 102 (iI e)] [] (fun v H1=>v=iI e/\H1=[]):=by
 apply Spec.go 15 [0,2,3,4,6,13] [] Tryz.func19 rfl rfl rfl;intro W;refine XO.v (Lq rfl Tryz.underlying102 sq) rfl (gO ?_);refine ah rfl rfl (ad .nil rfl ?_);grind [aL,aJ]
def adm:Spec Tryz.prog 19 [.nilIface] [] (fun v H1=>v=iI 0/\H1=[]):=by
 apply Spec.go 15 [0,2,6] [] Tryz.func19 rfl rfl rfl;intro W;refine ah rfl rfl (ad .nil rfl ?_);grind [aL,aJ,aR]
def O2(e:Int):Spec Tryz.prog 19 [az 102 e] [] (fun v H1=>v=iI e/\H1=[]):=by
 by_cases h:e=0
 ·subst h;exact adm
 ·rw[aQ _ h];exact adl e
def Zs(p:Option Addr)(cap:Nat)(m:Int):Spec Tryz.prog 13 [.slice p 0 cap,iI m] [] (fun v H1=>(∃ b,v= .bool b/\(b=true->((0:Nat):Int)<=m))/\H1=[]):=by
 apply Spec.go 12 [0,1,4] [] Tryz.func13 rfl rfl rfl;intro W;refine cq (Gx _ _ _ _) .nil ?_;refine sp 8 rfl ?_ ?_<;>intro h1
 ·refine cq (Ry _ _ _) .nil ?_;refine ah rfl rfl (ad .nil rfl ?_);grind [aL,aJ]
 ·refine ah rfl rfl (ad .nil rfl ?_);grind [aL,aJ,aR]
def Zt(kb:Nat)(k:KP)(q:SC)(hq:q.toSF=Q2)(hR:q.lX):Spec Tryz.prog 46 [aC kb 0 0] [.cells kb 0 453 (aF k),.cells k.qb 0 2281 (aM q),.aV b7 (SC.da 254 q)] (fun v H1=>v=iI 0/\∃ t:SC,t.toSF=(Q2.l6 dK).2/\t.lX/\H1=[.cells kb 0 453 (aF k),.cells k.qb 0 2281 (aM t),.aV b7 (SC.da 254 t)]):=by
 apply Spec.go 8 [0,2] [] Tryz.func46 rfl rfl rfl;intro W;apply ld .aa (eJ _);refine ca (U3 _ _ q dK (by rw[hq];exact CY.dS) hR (fun n a b=>Nat.le_trans (CY.aO n a b) og) (2000000000*0) og (by rw[hq];exact CY.ss) (by show 0<=q.toSF.gN/\q.toSF.gN<=2000000000*0;rw[hq];exact CY.gN) (by rw[hq];exact(CY.oK og).set)) (pk [1,1]) ?_;rintro _ _ ⟨rfl,t,ht,hr,rfl⟩;rw[hq,X2];rw[hq]at ht;apply gO;refine ah rfl rfl (ad (pk [2,0,0]) rfl ?_);grind [aL,aJ]
def Ig(kb:Nat)(k:KP):Spec Tryz.prog 27 [aC kb 0 0] [.cells kb 0 453 (aF k)] (fun v H1=>∃ p cap,v= .slice p (Vm.fl (fun n=>decide ((k.u n).st=1)) 20).length cap/\H1=[db p cap 3 (Vm.fl (fun n=>decide ((k.u n).st=1)) 20),.cells kb 0 453 (aF k)]):=by
 apply Spec.go 22 [0,2,3,4,5,6,15] [] Tryz.func27 rfl rfl rfl;intro W;apply XR.fc 3 1;refine lp (σ:=Int×List Int×Option Addr×Nat) (fun x=>(20-x.1).toNat) (fun x=>(0<=x.1/\x.1<=20)/\x.2.1=Vm.fl (fun n=>decide ((k.u n).st=1)) x.1.toNat) (fun x=>[(3,.slice x.2.2.1 x.2.1.length x.2.2.2),(5,iI x.1),(0,aC kb 0 0)]) (fun x=>XM W (bZ [.cells kb 0 453 (aF k)]) [db x.2.2.1 x.2.2.2 3 x.2.1,.cells kb 0 453 (aF k)]) ((0,[],none,0)) ?_ (S3 rfl rfl rfl) (fun _ hw=>XM.pick (pz 2) hw) ?_
 ·exact⟨sq,rfl⟩
 intro x hx;obtain⟨hx,hL⟩:=hx;have hlen:=Vm.ia (fun n=>decide ((k.u n).st=1)) x.1.toNat;rw[<-hL]at hlen;have hnx:=Vm.uP (fun n=>decide ((k.u n).st=1)) hx.1;apply gC;refine cd rfl ?_ ?_<;>intro h1
 ·refine sd (ld (.av .aa) (gg _) ?_);refine cd rfl ?_ ?_<;>intro h2
  ·have h52:=h2;apply XO.buildSlice (A:= #[iI _]) (vs:= #[(0,iI _)]) rfl (r7 _) rfl rfl;intro h3;apply gO;apply jM (e:=3) rfl rfl Tryz.underlying55 o8 (.av .aa) .aa og rfl;intro h4 h5;apply gO;refine sd (ag ((x.1+1,x.2.1++[x.1],_,_)) ?_ ?_ (S3 rfl rfl rfl) fun _ hw=>XM.pick (pk [0,1]) hw);all_goals grind
  ·have h52:=h2;refine sd (ag ((x.1+1,x.2.1,_,_)) ?_ ?_ (S3 rfl rfl rfl) fun _ hw=>XM.pick (pz 2) hw);all_goals grind
 ·refine ah rfl rfl (ad (pz 2) rfl ?_);try dsimp only[aL,aJ,aD,aR]
  have Yw:x.1=20:=og;simp_all
theorem K4{k:KP}{mb:Nat}(h:aae k mb):Vm.fl (fun n=>decide ((k.u n).st=1)) 20=[0]:=by
 have e:(fun n=>decide ((k.u n).st=1))=fun n=>decide (n=0):=by
  funext n;rw[h.u];by_cases c:n=0
  ·subst c;rw[au];rfl
  ·rw[ai _ _ c,decide_eq_false c];rfl
 rw[e];decide
open Go.X.Gr Go.X.Sg Go.X.Tr Go.X.Vm
def V6:nq Tryz.prog 58=true:=kq
def Ih:fk Tryz.prog 58=some 4:=kq
attribute [local irreducible] KA.cR KA.cK
set_option maxHeartbeats 16000000 in
def Zu(a:KA)(b:KZ)(c:KC)(N:Nat)(T:Int)(ho:a.Ok T)(hc:cH a c N T)(hT:T<=800000)(VF:1<=T)(x:jP)(hx:x.s.size<=1000/\x.t.size<=1000)(K5:Oth x.aU):Spec Tryz.prog 90 [aC b.kb 0 0,.agg (Ie x)] (cU a b c [.ro 0 0 32 cW]) (fun v H1=>∃ (a1:KA) (r:lA) (c1:KC),v= .agg r.cO/\a.uw c c1 x a1 r.n r.e/\cH a1 c1 (N+1) (T+20)/\H1=(cU a1 b c1 [])):=by
 apply Spec.go 226 [0,3,4,5,6,7,8,9,10,13,14,31,39,51,63,77,91,101,109,117,127,137,147,155,169,206,214] [(3,1)] Tryz.func90 rfl rfl rfl;intro W;refine XO.box (m:=8) (C:=fM x) rfl rfl (HE x) rfl ?_;intro ba;apply gO;apply XO.bN (z:=.agg lA.nil.cO) (m:=4) (C:=cE lA.nil) kq rfl (cE.box _) rfl;intro bz;apply gO;apply XO.bN (z:=.agg lA.nil.cO) (m:=4) (C:=cE lA.nil) kq rfl (cE.box _) rfl;intro br;apply gO;apply ZV (σ:=KA×lA×Int×KC) (fun y=>a.uw c y.2.2.2 x y.1 y.2.1.n y.2.2.1/\cH y.1 y.2.2.2 (N+1) (T+20)) (fun y=>[(4,aC bz 0 0),(5,aC br 0 0),(6,az 102 y.2.2.1)]) fun y=>XM W (bZ (cU a b c [.ro 0 0 32 cW])) (cU y.1 b y.2.2.2 [.cells bz 0 4 (cE lA.nil),.cells br 0 4 (cE y.2.1)])
 ·apply ld (.t2 .aa) (s5 _);refine cd rfl ?_ ?_<;>intro h1
  ·apply ld (.t2 .aa) (bB _);apply ld (.t2 .aa) (fF _);apply ld (.t2 .aa) (iZ _);apply ld (.t2 .aa) (cQ _);refine ca (Zo a b c N T ho hc hT x.a x.s og x.on _) (pk [3,3,3,3,3,3,3,3,3,3,3,3,3,3,3,3,3]) ?_;rintro _ _ ⟨a1,n0,e0,c1,rfl,ho1,gm,rfl⟩;apply gO;apply st (.nT (.t5 .aa)) (ft _ _) rfl;refine nm ((a1,⟨n0,0,0,⟨#[]⟩⟩,e0,c1)) ?_ (S3 rfl rfl rfl) fun _ hw=>XM.pick (pk [0,0,0,0,0,0,0,0,0,0,0,0,0,0,0,0,0,1,0]) hw;exact⟨.qe K5 (.V3 ho1) _ _,gm.up og og⟩
  ·refine cd rfl ?_ ?_<;>intro h2
   ·apply ld (.t2 .aa) (bB _);apply ld (.t2 .aa) (cQ _);refine ca (VL a b c N T ho hc hT x.a x.b) (pk [3,3,3,3,3,3,3,3,3,3,3,3,3,3,3,3,3]) ?_;rintro _ _ ⟨rfl,c1,gm,rfl⟩;apply gO;refine nm ((a.sa x.a x.b,⟨0,0,0,⟨#[]⟩⟩,a.jY c.F.toFF x.a x.b,c1)) ?_ (S3 rfl rfl rfl) fun _ hw=>XM.pick (pk [0,0,0,0,0,0,0,0,0,0,0,0,0,0,0,0,0,1,0]) hw;exact⟨.qe K5 .close _ _,gm.up og og⟩
   ·refine cd rfl ?_ ?_<;>intro h3
    ·apply ld (.t2 .aa) (bB _);apply ld (.t2 .aa) (cQ _);refine ca (ade a b c N T ho hc hT x.a x.b) (pk [3,3,3,3,3,3,3,3,3,3,3,3,3,3,3,3,3]) ?_;rintro _ _ ⟨rfl,c1,gm,rfl⟩;apply gO;apply st (.nT (.t5 .aa)) (ft _ _) rfl;refine nm ((a.Br x.a x.b,⟨a.KM x.a x.b,0,0,⟨#[]⟩⟩,a.KL x.a x.b,c1)) ?_ (S3 rfl rfl rfl) fun _ hw=>XM.pick (pk [0,0,0,0,0,0,0,0,0,0,0,0,0,0,0,0,0,1,0]) hw;exact⟨.qe K5 .dup _ _,gm.up og og⟩
    ·refine cd rfl ?_ ?_<;>intro h4
     ·apply ld (.t2 .aa) (bB _);refine ca (Zb a b c N T ho hc hT x.a) (pk [3,3,3,3,3,3,3,3,3,3,3,3,3,3,3,3,3]) ?_;rintro _ _ ⟨rfl,c1,gm,rfl⟩;apply gO;apply st (.nT (.t5 .aa)) (ft _ _) rfl;apply st (.nT (.t5 .aa)) (A9 _ _) rfl;refine nm ((a.qY x.a,⟨a.yM x.a,a.yN x.a,0,⟨#[]⟩⟩,a.uq x.a,c1)) ?_ (S3 rfl rfl rfl) fun _ hw=>XM.pick (pk [0,0,0,0,0,0,0,0,0,0,0,0,0,0,0,0,0,1,0]) hw;exact⟨.qe K5 .Mu _ _,gm.up og og⟩
     ·refine cd rfl ?_ ?_<;>intro h5
      ·apply ld (.t2 .aa) (bB _);apply ld (.t2 .aa) (cQ _);apply ld (.t2 .aa) (fZ _);refine ca (Zc a b c N T ho hc hT x.a x.b x.c) (pk [3,3,3,3,3,3,3,3,3,3,3,3,3,3,3,3,3]) ?_;rintro _ _ ⟨rfl,c1,gm,rfl⟩;apply gO;apply st (.nT (.t5 .aa)) (Bb _ _) rfl;refine nm ((a.yO c.F.toFF x.a x.b x.c,⟨0,0,0,a.ky c.F.toFF x.a x.b x.c⟩,a.lQ c.F.toFF x.a x.b x.c,c1)) ?_ (S3 rfl rfl rfl) fun _ hw=>XM.pick (pk [0,0,0,0,0,0,0,0,0,0,0,0,0,0,0,0,0,1,0]) hw;exact⟨.qe K5 .mZ _ _,gm.up og og⟩
      ·refine cd rfl ?_ ?_<;>intro h6
       ·apply ld (.t2 .aa) (bB _);apply ld (.t2 .aa) (cQ _);apply ld (.t2 .aa) (fF _);refine xj 17 (VM a b c N T ho hc hT x.a x.b x.s og) (pk [3,3,3,3,3,3,3,3,3,3,3,3,3,3,3,3,3,3]) rfl ?_;rintro _ _ ⟨rfl,c1,gm,rfl⟩;apply gO;apply st (.nT (.t6 .aa)) (ft _ _) rfl;refine nm ((a.nJ c.F.toFF x.a x.b x.s,⟨a.Ar c.F.toFF x.a x.b x.s,0,0,⟨#[]⟩⟩,a.eW c.F.toFF x.a x.b x.s,c1)) ?_ (S3 rfl rfl rfl) fun _ hw=>XM.pick (pk [0,0,0,0,0,0,0,0,0,0,0,0,0,0,0,0,0,2,1]) hw;exact⟨.qe K5 .cg _ _,gm.up og og⟩
       ·refine cd rfl ?_ ?_<;>intro h7
        ·apply ld (.t2 .aa) (bB _);apply ld (.t2 .aa) (cQ _);apply ld (.t2 .aa) (fZ _);refine ca (Zd a b c N T ho hc hT x.a x.b x.c) (pk [3,3,3,3,3,3,3,3,3,3,3,3,3,3,3,3,3]) ?_;rintro _ _ ⟨rfl,c1,gm,rfl⟩;apply gO;refine nm ((a.vR x.a x.b x.c,⟨0,0,0,⟨#[]⟩⟩,a.nf x.a x.b x.c,c1)) ?_ (S3 rfl rfl rfl) fun _ hw=>XM.pick (pk [0,0,0,0,0,0,0,0,0,0,0,0,0,0,0,0,0,1,0]) hw;exact⟨.qe K5 .Mv _ _,gm.up og og⟩
        ·refine cd rfl ?_ ?_<;>intro h8
         ·apply ld (.t2 .aa) (bB _);apply ld (.t2 .aa) (fF _);refine ca (Ng a b c N T ho hc hT x.a x.s og) (pk [3,3,3,3,3,3,3,3,3,3,3,3,3,3,3,3,3]) ?_;rintro _ _ ⟨e0,c1,rfl,gm,rfl⟩;apply gO;refine nm ((a,⟨0,0,0,⟨#[]⟩⟩,e0,c1)) ?_ (S3 rfl rfl rfl) fun _ hw=>XM.pick (pk [0,0,0,0,0,0,0,0,0,0,0,0,0,0,0,0,0,1,0]) hw;exact⟨.qe K5 .same _ _,gm.up og og⟩
         ·refine cd rfl ?_ ?_<;>intro h9
          ·apply ld (.t2 .aa) (bB _);apply ld (.t2 .aa) (fF _);refine ca (Rr a b c N T ho hc hT x.a x.s og) (pk [3,3,3,3,3,3,3,3,3,3,3,3,3,3,3,3,3]) ?_;rintro _ _ ⟨e0,c1,rfl,gm,rfl⟩;apply gO;refine nm ((a,⟨0,0,0,⟨#[]⟩⟩,e0,c1)) ?_ (S3 rfl rfl rfl) fun _ hw=>XM.pick (pk [0,0,0,0,0,0,0,0,0,0,0,0,0,0,0,0,0,1,0]) hw;exact⟨.qe K5 .same _ _,gm.up og og⟩
          ·refine cd rfl ?_ ?_<;>intro RH
           ·apply ld (.t2 .aa) (bB _);apply ld (.t2 .aa) (fF _);apply ld (.t2 .aa) (py _);refine ca (Zl a b c N T ho hc hT x.a x.s x.t og og) (pk [3,3,3,3,3,3,3,3,3,3,3,3,3,3,3,3,3]) ?_;rintro _ _ ⟨e0,c1,rfl,gm,rfl⟩;apply gO;refine nm ((a,⟨0,0,0,⟨#[]⟩⟩,e0,c1)) ?_ (S3 rfl rfl rfl) fun _ hw=>XM.pick (pk [0,0,0,0,0,0,0,0,0,0,0,0,0,0,0,0,0,1,0]) hw;exact⟨.qe K5 .same _ _,gm.up og og⟩
           ·refine cd rfl ?_ ?_<;>intro ZX
            ·apply ld (.t2 .aa) (bB _);apply ld (.t2 .aa) (fF _);apply ld (.t2 .aa) (py _);refine ca (Zm a b c N T ho hc hT x.a x.s x.t og og) (pk [3,3,3,3,3,3,3,3,3,3,3,3,3,3,3,3,3]) ?_;rintro _ _ ⟨e0,c1,rfl,gm,rfl⟩;apply gO;refine nm ((a,⟨0,0,0,⟨#[]⟩⟩,e0,c1)) ?_ (S3 rfl rfl rfl) fun _ hw=>XM.pick (pk [0,0,0,0,0,0,0,0,0,0,0,0,0,0,0,0,0,1,0]) hw;exact⟨.qe K5 .same _ _,gm.up og og⟩
            ·refine cd rfl ?_ ?_<;>intro h12
             ·apply ld (.t2 .aa) (bB _);apply ld (.t2 .aa) (fF _);apply ld (.t2 .aa) (py _);refine ca (Zn a b c N T ho hc hT x.a x.s x.t og og) (pk [3,3,3,3,3,3,3,3,3,3,3,3,3,3,3,3,3]) ?_;rintro _ _ ⟨e0,c1,rfl,gm,rfl⟩;apply gO;refine nm ((a,⟨0,0,0,⟨#[]⟩⟩,e0,c1)) ?_ (S3 rfl rfl rfl) fun _ hw=>XM.pick (pk [0,0,0,0,0,0,0,0,0,0,0,0,0,0,0,0,0,1,0]) hw;exact⟨.qe K5 .same _ _,gm.up og og⟩
             ·refine cd rfl ?_ ?_<;>intro h13
              ·apply ld (.t2 .aa) (bB _);apply ld (.t2 .aa) (fF _);refine ca (Rs a b c N T ho hc hT x.a x.s og) (pk [3,3,3,3,3,3,3,3,3,3,3,3,3,3,3,3,3]) ?_;rintro _ _ ⟨e0,c1,rfl,gm,rfl⟩;apply gO;refine nm ((a,⟨0,0,0,⟨#[]⟩⟩,e0,c1)) ?_ (S3 rfl rfl rfl) fun _ hw=>XM.pick (pk [0,0,0,0,0,0,0,0,0,0,0,0,0,0,0,0,0,1,0]) hw;exact⟨.qe K5 .same _ _,gm.up og og⟩
              ·refine cd rfl ?_ ?_<;>intro h14
               ·apply ld (.t2 .aa) (bB _);apply ld (.t2 .aa) (fF _);refine ca (V2 a b c N T ho hc hT x.a x.s og) (pk [3,3,3,3,3,3,3,3,3,3,3,3,3,3,3,3,3]) ?_;rintro _ _ ⟨p,k,ns,e0,hns,rfl,rfl⟩;apply gO;refine lp (σ:=Int×ByteArray) (fun y=>(ns.length-y.1).toNat) (fun y=>(0<=y.1/\y.1<=ns.length)/\(y.2.size:Int)<=9*y.1) (fun y=>[(9,iI y.1),(0,aC b.kb 0 0),(3,aC ba 0 0),(4,aC bz 0 0),(5,aC br 0 0),(7,.slice p ns.length k),(8,az 102 e0)]) (fun y=>XM W (bZ (cU a b c [.ro 0 0 32 cW])) [jN p k 9 ns,.cells b.kb 0 453 (aF (kp a b c)),.cells b.gb 0 60 (bE a.g),.cells b.sb 0 158 (Sp.aP a.s),.cells b.qb 0 2281 (aM c.q),.aV b7 (SC.da 254 c.q),.cells b.bb 0 577 (dD b.vp a.v.iq a.v.rf),.cells b.vp 0 71 (Vm.bL a.v.bb.fi),.dN (iR a) c.mb 34 (cN b.bb a.f c.pp c.cc),.aV (iR a) (rN 171 a.f c.pp c.cc),.cells b.tb 0 321 (aH c.F),.aV ax (FC.aX 9 c.F),.aV ax (FC.aY 3 c.F),db c.rp c.rc 3 c.rl,.cells b.pi 0 24 (Tr.bL a.P),.cells b.ob 0 122 (bh b.tb b.pi a.O),.dN (kG a) (fun z=>(c.t z).b) 4 (cT b.tb c.t),.aV (kG a) (rT 168 c.t),.cells ba 0 8 (fM x),.cells bz 0 4 (cE lA.nil),.cells br 0 4 (cE ⟨0,0,0,y.2⟩)]) ((0,⟨#[]⟩)) ?_ (.cons rfl (S6 rfl rfl rfl rfl rfl rfl)) (fun _ hw=>XM.pick (pk [0,0,0,0,0,0,0,0,0,0,0,0,0,0,0,0,0,0,2,1,0]) hw) ?_
                ·exact⟨sq,dq⟩
                intro y hy;obtain⟨hi,Nq⟩:=hy;apply gC;refine cd rfl ?_ ?_<;>intro h15
                ·apply bH .aa og;intro gl h16;subst h16;refine rq [0,1,2,3,4,5,6,7,8,9] mixed ?_;apply ld (.nT (.t8 .aa)) (cE.qK _);refine sd ?_;apply q9 .aa (rk);have hsn:(ke ns y.1).size<=8:=hns.2 _ (V5 og);refine sd ?_ (by show y.2.size+(ke ns y.1).size<=9223372036854775807;omega);refine sd ?_ (by show(y.2++ke ns y.1).size+(⟨#[47]⟩:ByteArray).size<=9223372036854775807;rw[ByteArray.size_append];have:(⟨#[47]⟩:ByteArray).size=1:=rfl;omega);apply st (.nT (.t8 .aa)) (Bb _ _) rfl;refine sd ?_;refine ag ((y.1+1,y.2++ke ns y.1++⟨#[47]⟩)) ?_ ?_ (.cons rfl (S6 rfl rfl rfl rfl rfl rfl)) fun _ hw=>XM.pick (pz 21) hw
                 ·omega
                 ·exact⟨(by show 0<=y.1+1/\y.1+1<=_;omega),(by show((y.2++ke ns y.1++⟨#[47]⟩:ByteArray).size:Int)<=9*(y.1+1);rw[ByteArray.size_append,ByteArray.size_append];have:(⟨#[47]⟩:ByteArray).size=1:=rfl;omega)⟩
                ·apply ld (.nT (.t6 .aa)) (bB _);apply ld (.nT (.t6 .aa)) (fF _);refine ca (Zp a b c N T ho hc hT x.a x.s og) (pk [1,1,1,1,1,1,1,1,1,1,1,1,1,1,1,1,1]) ?_;rintro _ _ ⟨⟨nv,e1,hnv,rfl⟩,rfl⟩;obtain⟨⟨nv1,nv2,nv3⟩,nv4,nv5,nv6⟩:=hnv;apply gO;apply XO.bN (z:=.agg NV.zero.cO) (m:=4) (C:=nQ NV.zero) kq rfl (oz _) rfl;intro bn;apply gO;apply gD .aa (lS _ _) rfl ⟨rfl,rfl⟩;apply ld .aa (wL _);refine sd ?_;apply ld .aa (Ka _);refine sd ?_;refine sd ?_;apply ld .aa (Mn _);refine sd ?_;refine sd ?_;apply ld .aa (Mo _);refine sd ?_;apply st (.nT (.t9 .aa)) (ft _ _) rfl;refine nm ((a,⟨(1000*nv.aU+100*nv.bG+10*nv.bj+nv.size),0,0,y.2⟩,e0,c)) ?_ (S3 rfl rfl rfl) fun _ hw=>XM.pick (pk [1,1,1,1,1,1,1,1,1,1,1,1,1,1,1,1,1,3,3]) hw;exact⟨.qe K5 .same _ _,hc.up og og⟩
               ·refine cd rfl ?_ ?_<;>intro h17
                ·refine ca (V1 a b c N T ho hc hT) (pk [3,3,3,3,3,3,3,3,3,3,3,3,3,3,3,3,3]) ?_;rintro _ _ ⟨n0,e0,c1,rfl,gm,rfl⟩;apply gO;apply st (.nT (.t5 .aa)) (ft _ _) rfl;refine nm ((a,⟨n0,0,0,⟨#[]⟩⟩,e0,c1)) ?_ (S3 rfl rfl rfl) fun _ hw=>XM.pick (pk [0,0,0,0,0,0,0,0,0,0,0,0,0,0,0,0,0,1,0]) hw;exact⟨.qe K5 .same _ _,gm.up og og⟩
                ·refine cd rfl ?_ ?_<;>intro h18
                 ·apply ld (.t2 .aa) (bB _);apply ld (.t2 .aa) (cQ _);refine ca (V0 a b c N T ho hc hT x.a x.b) (pk [3,3,3,3,3,3,3,3,3,3,3,3,3,3,3,3,3]) ?_;rintro _ _ ⟨e0,c1,rfl,gm,rfl⟩;apply gO;refine nm ((a,⟨0,0,0,⟨#[]⟩⟩,e0,c1)) ?_ (S3 rfl rfl rfl) fun _ hw=>XM.pick (pk [0,0,0,0,0,0,0,0,0,0,0,0,0,0,0,0,0,1,0]) hw;exact⟨.qe K5 .same _ _,gm.up og og⟩
                 ·refine nm ((a,⟨0,0,0,⟨#[]⟩⟩,0,c)) ?_ (S3 rfl rfl rfl) fun _ hw=>XM.pick (pk [3,3,3,3,3,3,3,3,3,3,3,3,3,3,3,3,3,1,0]) hw;exact⟨.qe K5 .same _ _,hc.up og og⟩
 intro y hy;obtain⟨sW,hcy⟩:=hy;apply gC;refine cq (O2 _) .nil ?_;apply st (.nT (.t6 .aa)) (Ba _ _) rfl;apply lZ (.nT (.t6 .aa)) (cE.agg _);apply gD (.nT (.t5 .aa)) (cE.st _ _) rfl ⟨rfl,rfl⟩;refine jj rfl (.agg rfl (.nT (.t5 .aa)) (cE.agg _) V6 Ih) (ad (pz 17) rfl ?_);grind
open Go.X.Sp
def A0:KA:= {u:=ae (fun _=>PA.nil) 0 ⟨1,-1,0,0,fun _=>0,BS.cP⟩,g:=G0,s:=S0,aO:=fun _=>1,v:=VB.cP,f:=fun _=>Vm.MS.nil,P:=Tr.PS.cP,O:=Tr.OS.dm}
theorem Ii(g:Int)(hg:0<=g):∀ k,wH (fun _=>Vm.MS.nil) g k=0
 | 0=>rfl
 | k+1=>by
  have e:∀ j,cM Vm.MS.nil.fr g j=0:=fun j=>by
   induction j with
   | zero=>rfl
   | succ j ih=>rw[cM,ih,show Vm.MS.nil.fr j=0 from rfl,if_neg og];rfl
  rw[wH,Ii g hg k,e];rfl
theorem E1(n:Int):A0.u n=if n=0 then⟨1,-1,0,0,fun _=>0,BS.cP⟩else PA.nil:=rfl
def V7:A0.Ok 2:=by
 have hS:S0=Sp.SS.cP.fh (fun _=>1) 0 0:=by rfl
 refine⟨⟨og,Gr.TG.Inv.cP.cv 0 1 0,(Gr.TG.bM.cP.cv Gr.TG.Inv.cP.ok 0 1 0).mono og,Sp.SS.Inv.cP.enter 0 0,⟨Vm.Sys.cP.jI.congr fun g a b=>(Ii g a 1).trans (Ii g a 20).symm,fun _ _=>Vm.MS.Ok.nil⟩,fun _ _ _ _=>rfl,Tr.PS.Inv.cP.mono og,Tr.OS.Inv.dm.mono og,fun m a b=> ?_,fun n=> ?_,fun n hn=> ?_,fun n i=> ?_,fun n=> ?_⟩,fun p _ _ _ _=>.inl ?_,⟨rfl,rfl,by show S0.bR 0 1=0;rw[adk,if_pos rfl]⟩,rfl⟩
 ·show _↔0<=ae (ED 20) 0 0 m;rw[E1];by_cases c:m=0
  ·grind [au]
  ·rw[ai _ _ c,if_neg c];unfold ED;rw[if_pos og];exact⟨fun q=>absurd rfl q,fun q=>absurd q og⟩
 ·rw[E1];split
  ·simp_all
  ·exact .inl rfl
 ·grind [E1]
 ·rw[E1];split<;>exact⟨Int.le_refl 0,by show(0:Int)<=24;omega⟩
 ·rw[E1];split<;>rfl
 ·have e:(A0.u p).bx=BS.cP:=by rw[E1];split<;>rfl
  rw[e];exact T2.cP.e
theorem V8(b:KZ)(c:KC):aae (kp A0 b c) (c.mb 0):=⟨by
 funext n
 show(A0.u n).pu (c.mb n.toNat)=_
 by_cases h:n=0
 ·subst h;rw[au];rfl
 ·rw[ai _ _ h,E1,if_neg h];rfl⟩
theorem adn:iR A0=Bg (fun _=>false) (0:Int).toNat:=by
 have h:=Oq (a:= {A0 with u:=fun _=>PA.nil}) (n:=0) (p:=⟨1,-1,0,0,fun _=>0,BS.cP⟩) ⟨og,og⟩ dq;have e:iR {A0 with u:=fun _=>PA.nil} =fun _=>false:=by
  funext j;unfold iR;exact decide_eq_false fun q=>q.2 rfl
 grind [A0]
theorem ado:kG A0=Bg (fun _=>false) (0:Int).toNat:=by
 have h0:∀ z:Int,A0.s.aa z=decide (z=0):=fun z=>by
  rfl
 grind [jA,kG]
theorem Zv(z:Int):S0.aa z=decide (z=0):=by
 rfl
theorem adp(b:KZ)(c:KC)(ob mb:Nat)(t:TB)(hm:c.mb=bF (fun _=>0) (0:Int).toNat mb)(ht:c.t=bF (fun _=>t) (0:Int).toNat t)(K:KP)(hK:K= {KP.raw b.gb b.sb b.qb b.bb b.tb b.pi with ob:=b.ob}):({K with ms:=ae K.ms 0 (aC t.b 0 0)} :KP).put 0 (CX mb)=kp A0 b c:=by
 subst hK;refine KP.ext (fun m=> ?_) ?_ ⟨⟨rfl,rfl,rfl,rfl⟩,rfl,rfl,rfl⟩
 ·show _=(A0.u m).pu (c.mb m.toNat);by_cases e:m=0
  ·subst e;rw[KP.sx,hm,rS];rfl
  ·rw[KP.zQ _ _ e,E1,if_neg e];rfl
 ·show ae (fun _=>Value.pointer none) 0 (aC t.b 0 0)=fun z=>if S0.aa z then aC (c.t z.toNat).b 0 0 else .pointer none
  rw[ht];grind [Zv,bF,ae]
def afO{q:SC}(h:q.toSF=Q2):∀ m,0<=m->m<20->q.aa (10+m)=true->(A0.u m).st=1:=fun m m0 m1 hm=>by
 have hm:q.toSF.aa (10+m)=true:=hm;rw[h,show Q2=Q1.fU dK 0 true from rfl,Fa.SF.qz]at hm;by_cases e:m=0
 ·subst e;rfl
 ·have h2:=(Fa.SF.Fy (s:=Fa.SF.cP) hm).resolve_left e;have h3:ae (fun _:Int=>false) 0 true (10+m)=true:=h2;grind [ai]
set_option maxHeartbeats 16000000 in
def adq:Spec Tryz.prog 37 [] [] (fun x H1=>∃ (b:KZ) (c:KC),x=aC b.kb 0 0/\c.q.toSF=Q2/\c.d=dK/\cH A0 c 1 2/\H1=(cU A0 b c [])):=by
 apply Spec.go 77 [0,1] [] Tryz.func37 rfl rfl rfl;intro W;refine ca (aff) .nil ?_;rintro _ _ ⟨gb,rfl,rfl⟩;apply gO;refine ca (Sp.UM) .nil ?_;rintro _ _ ⟨sb,rfl,rfl⟩;apply gO;refine ca (Fa.Vl) .nil ?_;rintro _ _ ⟨qb,rfl,q0,hq0,hr0,rfl⟩;apply gO;refine ca (QY) .nil ?_;rintro _ _ ⟨bb,vp,rfl,rfl⟩;apply gO;refine ca (Tr.UM) .nil ?_;rintro _ _ ⟨tb,rfl,rfl⟩;apply gO;refine XO.v (V.build (vs:= #[]) rfl (v:=.agg #[.string ⟨#[]⟩,iI 0,iI 0,.string ⟨#[]⟩,iI 0,iI 0,.string ⟨#[]⟩,iI 0,iI 0,.string ⟨#[]⟩,iI 0,iI 0,.string ⟨#[]⟩,iI 0,iI 0,.string ⟨#[]⟩,iI 0,iI 0,.string ⟨#[]⟩,iI 0,iI 0,.string ⟨#[]⟩,iI 0,iI 0]) fun _=>kq) rfl (gO ?_);apply XO.box (m:=24) (C:=Tr.bL Tr.PS.cP) rfl rfl Tr.zJ rfl;intro pi;apply gO;refine XO.v (V.build (vs:= #[(1,aC gb 0 0),(2,aC sb 0 0),(3,aC qb 0 0),(4,aC bb 0 0),(5,aC tb 0 0),(6,aC pi 0 0)]) rfl (v:=.agg (FU (KP.raw gb sb qb bb tb pi))) (Rw _ _ _ _ _ _)) rfl (gO ?_);refine XO.box (m:=453) (C:=xZ (KP.raw gb sb qb bb tb pi)) rfl (L9 _) (Qo _) rfl ?_;intro kb;apply gO;refine rq [0,1,2,3,4,5,6,7,8,9,10,11,12] mixed (ld .aa (xZ.Bn _) (ld .aa (JT _) ?_));refine ca (Tr.Vl tb pi) .nil ?_;rintro _ _ ⟨ob,rfl,rfl⟩;apply gO;refine st (.av .aa) (Ma _ _) rfl (ld (.av .aa) (aF.Bn _) ?_);refine ca (OM _ _ _ (Tr.FF.J6.sh og)) (pk [3,3,3,3]) ?_;rintro _ _ ⟨t0,rfl,ht0,rfl⟩;obtain⟨d1,o1⟩:=Tr.FF.J6.yg;have o2:t0.toFF.Ok d1 (0+1):=by rw[ht0];exact o1
 have hrt:t0.mi 0=0:=by show t0.toFF.mi 0=0;rw[ht0];decide+kernel
 apply gO;refine rq [0,1,2,3,4,9,10,5,6,7,8,11,12] mixed (ld (.t5 .aa) (aF.Bn _) ?_);refine ca (afy _ t0 d1 _ o2 og 0) (pz 4) ?_;rintro _ _ (⟨gK,rfl,rfl⟩ | ⟨_,bt,u0,rfl,hu0,up0,uc0,rfl⟩)
 ·exact absurd hrt gK;skip
 ·apply gO;refine sd (st (.t7 .aa) (tM _ og _) rfl (rq [0,1,2,3,4,7,8,5,6,9,10] mixed (ld (.t7 .aa) (aF.zN _) ?_)));refine ca (afn bb) .nil ?_;rintro _ _ ⟨mb,rfl,rfl⟩;apply gO;refine XO.v (V.build (vs:= #[(0,iI 1),(1,iI (-1)),(4,aC mb 0 0)]) rfl (v:=.agg (PU.cO (CX mb))) (K2 mb)) rfl (gO ?_);refine sd (gD (.t9 .aa) (aF.CV _ og (CX mb)) rfl ⟨rfl,rfl⟩ (ld (.t9 .aa) (eI _) ?_));refine cq (ui _ _ Gr.TG.cP Gr.TG.Inv.cP.ok 0 1 0 0 og Gr.TG.bM.cP) (pk [16]) ?_;apply ld (.W5 .aa) (aF.qK _);refine cq (HO _ _ Sp.SS.cP (fun _=>1) Sp.SS.Inv.cP.D 0 0) (pk [16]) ?_;apply ld (.ZW .aa) (eJ _);refine ca (An _ _ q0 (fun _=>0) (by rw[hq0];exact Fa.SF.NQ.dS) hr0 0 0 100) (pk [15,15]) ?_;rintro _ _ ⟨rfl,q1,Ge,HR,rfl⟩;have Ge:q1.toSF=Q1:=by rw[Ge,hq0];rfl
  apply gO;apply ld (.nT (.av .aa)) (eJ _);refine ca (HT _ _ q1 dK (by rw[Ge];exact aaf.dS) HR 0 true) (pz 2) ?_;rintro _ _ ⟨rfl,q2,q7,yZ,rfl⟩;have q7:q2.toSF=Q2:=by rw[q7,Ge];rfl
  apply gO;apply XR.mono (fun _ bJ=>Qn (z:=(0:Int).toNat) Vm.MS.nil (pk [4,4]) bJ);rw[kj fun _=>Vm.MS.nil];refine XR.mono (fun _ bJ=>QM (z:=(0:Int).toNat) (⟨bt,⟨0,t0.fK 0⟩,[],none,0,0,0,C0⟩:TB) (pk [6,6]) bJ) ?_;refine ah rfl rfl (ad (pk [13,7,6,4,4,10,10,2,2,2,2,2,2,3,2,0,0]) rfl ?_);try dsimp only[aL,aJ,aD,aR]
  refine⟨(⟨kb,gb,sb,qb,bb,tb,pi,ob,vp⟩:KZ),(⟨bF (fun _=>0) (0:Int).toNat mb,bF (fun _=>none) (0:Int).toNat none,bF (fun _=>0) (0:Int).toNat 0,q2,dK,u0,d1,t0.rP,t0.rC,t0.roots,bF (fun _=>(⟨bt,⟨0,t0.fK 0⟩,[],none,0,0,0,C0⟩:TB)) (0:Int).toNat (⟨bt,⟨0,t0.fK 0⟩,[],none,0,0,0,C0⟩:TB)⟩:KC),rfl,q7,rfl,⟨(by show q2.toSF.Ok dK 1 1;rw[q7];exact CY.mono (Nat.le_refl _) og),yZ,(by show u0.toFF.Ok d1 2;rw[hu0];exact o2.dP _),up0,uc0,(by show u0.toFF.roots=_;rw[hu0,j9]),fun z z0 z1 z2=> ?_,afO q7⟩,?_⟩
  ·have et:bF (fun _=>(⟨bt,⟨0,t0.fK 0⟩,[],none,0,0,0,C0⟩:TB)) (0:Int).toNat (⟨bt,⟨0,t0.fK 0⟩,[],none,0,0,0,C0⟩:TB) z.toNat=(⟨bt,⟨0,t0.fK 0⟩,[],none,0,0,0,C0⟩:TB):=by unfold bF;split<;>rfl
   show(bF (fun _=>(⟨bt,⟨0,t0.fK 0⟩,[],none,0,0,0,C0⟩:TB)) (0:Int).toNat (⟨bt,⟨0,t0.fK 0⟩,[],none,0,0,0,C0⟩:TB) z.toNat).Ok;rw[et];exact⟨.inl ⟨rfl,rfl⟩,fun i hi=>absurd hi (by show ¬i<0*4;omega),(by show 0<=6;omega)⟩
  ·try unfold cU
   rw[adn,ado,adp (⟨kb,gb,sb,qb,bb,tb,pi,ob,vp⟩:KZ) (⟨bF (fun _=>0) (0:Int).toNat mb,bF (fun _=>none) (0:Int).toNat none,bF (fun _=>0) (0:Int).toNat 0,q2,dK,u0,d1,t0.rP,t0.rC,t0.roots,bF (fun _=>(⟨bt,⟨0,t0.fK 0⟩,[],none,0,0,0,C0⟩:TB)) (0:Int).toNat (⟨bt,⟨0,t0.fK 0⟩,[],none,0,0,0,C0⟩:TB)⟩:KC) ob mb (⟨bt,⟨0,t0.fK 0⟩,[],none,0,0,0,C0⟩:TB) rfl rfl _ rfl];rfl
set_option maxHeartbeats 16000000 in
def Zw(a:KA)(b:KZ)(c:KC)(N:Nat)(T:Int)(ho:a.Ok T)(hc:cH a c N T)(hT:T<=800000)(n:Int):Spec Tryz.prog 14 [aC b.kb 0 0,iI n,.bool false] (cU a b c []) (fun v H1=>v= .tuple #[iI (a.lW n false),az 102 (a.lz n false)]/\∃ c1:KC,cH (a.iV n false) c1 (N+1) (T+20)/\H1=(cU (a.iV n false) b c1 [])):=by
 apply Spec.go 177 [0,1,2,6,7,8,9,10,11,12,13,14,16,24,37,41,59,65,132,133,134,137] [(22,0)] Tryz.func14 rfl rfl rfl;intro W;refine ca (ef b.kb (kp a b c) n) .h1 ?_;rintro _ _ ⟨⟨hl,rfl⟩ | ⟨hl,rfl⟩,rfl⟩
 ·obtain⟨jy,gh⟩:=bC hl;have hl:a.aI n=0:=hl;have gh:(a.u n).st=1:=gh;have lB:=o5 a b c (n:=n);apply gO;refine lp (σ:=Int) (fun ch=>(20-ch).toNat) (fun ch=>(0<=ch/\ch<=20)/\∀ j:Int,0<=j->j<ch->(a.u j).st≠0) (fun ch=>[(10,iI ch),(0,aC b.kb 0 0),(1,iI n),(2,.bool false),(8,aC b.kb 0 (0+0+n.toNat*22))]) (fun ch=>XM W (bZ (cU a b c [])) (cU a b c [])) (0) ?_ (S5 rfl rfl rfl rfl rfl) (fun _ hw=>XM.pick (pz 17) hw) ?_
  ·grind
  intro ch HS;have aih:=HS.1;apply gC;refine sp 28 rfl ?_ ?_<;>intro h1
  ·refine sd (ld .aa (gg _) ?_);refine cd rfl ?_ ?_<;>intro h2
   ·have aii:(a.u ch).st≠0:=h2;refine sd (ag (ch+1) ?_ ?_ (S5 rfl rfl rfl rfl rfl) fun _ hw=>XM.pick (pz 17) hw);all_goals grind
   ·have BU:(a.u ch).st=0:=by
     have h9:=h2;have e9:((kp a b c).u ch).st=(a.u ch).st:=rfl;omega
    refine Im rfl og (XR.mono (fun _ bJ=>km (z:=n.toNat) (fv jy) (pk [7,7]) bJ) ?_);refine ld (.t4 .aa) (di _ og lB) ?_;refine cq (r8 b.bb _ _ _ (a.f n.toNat) (ho.wk.sys.mo n.toNat og)) .h1 ?_;refine rq [0,1,2,3,4,5,6,7,8,9,10] mixed (ld (.t4 .aa) (eI _) (ld (.t4 .aa) (dx _) ?_));refine cq (ui _ _ a.g ho.wk.gI.ok _ _ _ (1000*T) (by have:=ho.wk.T0;omega) ho.wk.gS) (pk [5]) ?_;refine cd rfl ?_ ?_<;>intro h3
    ·have Ls:=h3;refine XR.mono (fun _ bJ=>oW (f:=a.f) (z:=n.toNat) (ps:=c.pp) (cs:=c.cc) (mb:=c.mb) (fv jy) (pk [1,1,1,1]) bJ) ?_;refine ao rfl rfl rfl (ad (pk [3,2,2,2,2,2,2,0,0,0,0,0,0,0,0,0,0]) rfl ?_);try dsimp only[aL,aJ,aD,aR]
     have hfc:a.free=ch:=KA.pJ ⟨HS.1.1,og⟩ BU HS.2;have hg0:a.gE n≠0:=Ls;have e1:a.lz n false=a.gE n:=by unfold KA.lz;rw[if_neg og,if_neg og,if_pos hg0]
     have e2:a.lW n false=0:=by unfold KA.lW;rw[if_neg og]
     have e3:a.iV n false=a:=by unfold KA.iV;rw[if_pos og]
     have hce:a.g.cv ((kp a b c).u n).kx 1 (a.f n.toNat).CN=a.g:=D7 hg0;rw[e1,e2,e3];rw[hce];exact⟨rfl,c,hc.up og og,rfl⟩
    ·have Zx:a.gE n=0:=by
      have h9:=h3;have e9:a.g.cX (a.u n).kx 1 (a.f n.toNat).CN=a.gE n:=rfl;have e8:a.g.cX ((kp a b c).u n).kx 1 (a.f n.toNat).CN=a.gE n:=rfl;omega
     refine cq (il b.kb (kp a b c) a.s n) (pk [5,5]) ?_;apply ld .aa (aF.qK _);refine cq (HO _ _ a.s a.aO ho.wk.sI.D (a.s.bI n).1 ch) (pk [1]) ?_;apply ZV (σ:=Nat×Nat×Option Addr×Nat) (fun _=>True) (fun y=>[(0,aC b.kb 0 0),(8,aC b.kb 0 (0+0+n.toNat*22)),(10,iI ch),(12,iI (a.s.bI n).1),(14,aC y.2.1 0 0)]) (fun y=>XM W (bZ (cU a b c [])) [.cells b.kb 0 453 (aF (kp a b c)),.cells b.gb 0 60 (bE (a.gC n)),.cells b.sb 0 158 (Sp.aP (a.s.enter a.aO (a.s.bI n).1 ch).2.2),.cells b.qb 0 2281 (aM c.q),.aV b7 (SC.da 254 c.q),.cells b.bb 0 577 (dD b.vp (a.v.jO (a.f n.toNat)).iq (a.v.jO (a.f n.toNat)).rf),.cells b.vp 0 71 (Vm.bL (a.v.jO (a.f n.toNat)).bb.fi),.cells (c.mb n.toNat) 0 34 (b6 b.bb (c.pp n.toNat) (aj (a.f n.toNat).aB).length (c.cc n.toNat) (a.f n.toNat).fr fun _=>false),aS (c.pp n.toNat) (c.cc n.toNat) 171 3 (aj (a.f n.toNat).aB).length (fb (aj (a.f n.toNat).aB)),.cells y.1 0 34 (b6 b.bb y.2.2.1 (aj (a.f n.toNat).aB).length y.2.2.2 (a.f n.toNat).fr fun _=>false),aS y.2.2.1 y.2.2.2 171 3 (aj (a.f n.toNat).aB).length (fb (aj (a.f n.toNat).aB)),.dN (iS (iR a) n.toNat) c.mb 34 (cN b.bb a.f c.pp c.cc),.aV (iS (iR a) n.toNat) (rN 171 a.f c.pp c.cc),.cells b.tb 0 321 (aH c.F),.aV ax (FC.aX 9 c.F),.aV ax (FC.aY 3 c.F),db c.rp c.rc 3 c.rl,.cells b.pi 0 24 (Tr.bL a.P),.cells b.ob 0 122 (bh b.tb b.pi (Lk (a.u n).fd a.O (0:Int).toNat)),.dN (kG a) (fun z=>(c.t z).b) 4 (cT b.tb c.t),.aV (kG a) (rT 168 c.t),.cells y.2.1 0 22 (((kp a b c).gF n y.1).cell)])
     ·refine XC.fI mixed (f:=23) (l:= #[qF,qF,qF,qF,qF,qF,qF,qF,qF,qF,qF,qF,qF,qF,qF,qF,qF,qF,qF,qF,qF,qF,qF]) rfl rfl XM.iY (XQ.pv (i:=0) rfl kq rfl (V.move rfl) rfl rfl (XQ.pv (i:=1) rfl kq rfl (V.move rfl) rfl rfl (XQ.pv (i:=2) rfl kq rfl (aW rfl) rfl rfl (XQ.pv (i:=3) rfl kq rfl (V.fieldAddr rfl HW) rfl rfl (XQ.load (i:=4) (.cells _ _ _ _) [22] rfl kq rfl (.av .aa) (V.load rfl dJ (dx _) kE) rfl kq rfl (XQ.pv (i:=5) rfl kq rfl (V.move rfl) rfl rfl (XQ.pv (i:=6) rfl kq rfl (aW rfl) rfl rfl (XQ.pv (i:=7) rfl kq rfl (V.fieldAddr rfl HX) rfl rfl (XQ.load (i:=8) (.cells _ _ _ _) [9,17,22] rfl kq rfl (.av .aa) (V.load rfl dJ (di _ og lB) Vc) rfl kq rfl (XQ.pv (i:=10) rfl kq rfl (V.move rfl) rfl rfl (XQ.pv (i:=11) rfl kq rfl (aW rfl) rfl rfl (XQ.pv (i:=12) rfl kq rfl (V.fieldAddr rfl OG) rfl rfl (XQ.load (i:=13) (.cells _ _ _ _) [22] rfl kq rfl (.av .aa) (eB rfl dJ (rQ _) aau OJ) rfl kq rfl (XQ.pv (i:=14) rfl kq rfl (V.move rfl) rfl rfl (XQ.pv (i:=15) rfl kq rfl (aW rfl) rfl rfl (XQ.pv (i:=16) rfl kq rfl (V.fieldAddr rfl OH) rfl rfl (XQ.jO (i:=9) (j:=21) kq ?_ ?_)))))))))))))))))
      ·apply XS.call (i:=9) rfl rfl rfl (HV b.bb b.vp _ a.v ho.wk.sys.jI.ok _ _ (a.f n.toNat) (ho.wk.sys.mo n.toNat og)) (pk [9,3,3]) OF rfl (by rintro _ _ ⟨nb,p1,c1,rfl,rfl⟩;all_goals(intro _ dG;exact⟨fun _=>eD (.t6 .aa) _ dG,fun hs=>(hs 9 (by first | (simp;done) | (simp;rfl)) rfl).elim,fun _=>eD (.t6 .aa) _ dG,trivial⟩));rintro _ _ ⟨nb,p1,c1,rfl,rfl⟩;apply XQ.jO (i:=17) (j:=21) kq
       ·apply XS.call (i:=17) rfl rfl rfl (vi b.kb (kp a b c) n jy) (pk [6]) Gg rfl (by rintro _ _ ⟨bc,rfl,rfl⟩;all_goals(intro _ dG;exact⟨fun _=>eD (.av .aa) _ dG,fun hs=>(hs 9 (by first | (simp;done) | (simp;rfl)) rfl).elim,fun _=>eD (.av .aa) _ dG,trivial⟩));rintro _ _ ⟨bc,rfl,rfl⟩;refine XQ.pv (i:=18) rfl kq rfl (aW rfl) rfl rfl (XQ.load (i:=19) (.cells _ _ _ _) [22] rfl kq rfl .aa (eB rfl dJ (mw _) Gf qU) rfl kq rfl (XQ.pv (i:=20) rfl kq rfl (V.build (vs:= #[(0,iI 1),(1,iI n),(2,iI (a.u n).kx),(4,aC nb 0 0),(5,.agg (RN (a.u n).fd)),(6,.agg (X1 (a.u n).bx.bA))]) rfl (v:=.agg ((kp a b c).gF n nb).cO) (oA n _ nb _ _)) rfl rfl (XQ.bN (i:=21) (z:=(.agg PU.nil.cO)) (m:=22) (C:=PU.nil.cell) rfl kq rfl kq rfl (PU.box PU.nil) rfl (fun _ _ dG=>⟨fun _=>eD (.av .aa) _ dG,fun _=>eD (.t2 .aa) _ dG,fun hs=>(hs 9 (by first | (simp;done) | (simp;rfl)) rfl).elim,fun _=>eD (.t2 .aa) _ dG,trivial⟩) ?_)));intro ba;refine XQ.fP (i:=22) rfl kq rfl rfl rfl .aa (PU.CV _ _) ⟨rfl,rfl⟩ qV (fun _ dG=>⟨fun hs=>(hs 22 (by first | (simp;done) | (simp;rfl)) rfl).elim,fun hs=>(hs 22 (by first | (simp;done) | (simp;rfl)) rfl).elim,fun hs=>(hs 9 (by first | (simp;done) | (simp;rfl)) rfl).elim,fun hs=>(hs 22 (by first | (simp;done) | (simp;rfl)) rfl).elim,trivial⟩) (XQ.done kq (gE (nm ((nb,ba,p1,c1)) ?_ (S5 rfl rfl rfl rfl rfl) fun _ hw=>XM.pick (pk [2,8,7,9,9,2,8,2,2,2,2,2,2,2,2,2,2,2,2,2,2,0]) hw)));trivial
       ·refine XS.bN (i:=21) (z:=(.agg PU.nil.cO)) (m:=22) (C:=PU.nil.cell) rfl rfl kq rfl (PU.box PU.nil) rfl (fun _ _ dG=>⟨fun _=>eD (.t7 .aa) _ dG,fun hs=>(hs 9 (by first | (simp;done) | (simp;rfl)) rfl).elim,fun _=>eD (.t7 .aa) _ dG,trivial⟩) ?_;intro ba;apply XQ.call (i:=17) rfl kq rfl rfl (vi b.kb (kp a b c) n jy) (pk [7]) Gg rfl (by rintro _ _ ⟨bc,rfl,rfl⟩;all_goals(intro _ dG;exact⟨fun _=>eD (.av .aa) _ dG,fun hs=>(hs 9 (by first | (simp;done) | (simp;rfl)) rfl).elim,fun _=>eD (.av .aa) _ dG,trivial⟩));rintro _ _ ⟨bc,rfl,rfl⟩;refine XQ.pv (i:=18) rfl kq rfl (aW rfl) rfl rfl (XQ.load (i:=19) (.cells _ _ _ _) [22] rfl kq rfl .aa (eB rfl dJ (mw _) Gf qU) rfl kq rfl (XQ.pv (i:=20) rfl kq rfl (V.build (vs:= #[(0,iI 1),(1,iI n),(2,iI (a.u n).kx),(4,aC nb 0 0),(5,.agg (RN (a.u n).fd)),(6,.agg (X1 (a.u n).bx.bA))]) rfl (v:=.agg ((kp a b c).gF n nb).cO) (oA n _ nb _ _)) rfl rfl (XQ.fP (i:=22) rfl kq rfl rfl rfl (.t2 .aa) (PU.CV _ _) ⟨rfl,rfl⟩ qV (fun _ dG=>⟨fun hs=>(hs 22 (by first | (simp;done) | (simp;rfl)) rfl).elim,fun hs=>(hs 22 (by first | (simp;done) | (simp;rfl)) rfl).elim,fun hs=>(hs 9 (by first | (simp;done) | (simp;rfl)) rfl).elim,fun hs=>(hs 22 (by first | (simp;done) | (simp;rfl)) rfl).elim,trivial⟩) (XQ.done kq (gE (nm ((nb,ba,p1,c1)) ?_ (S5 rfl rfl rfl rfl rfl) fun _ hw=>XM.pick (pk [1,8,7,9,9,2,8,2,2,2,2,2,2,2,2,2,2,2,2,2,2,1]) hw))))));trivial
      ·refine XS.bN (i:=21) (z:=(.agg PU.nil.cO)) (m:=22) (C:=PU.nil.cell) rfl rfl kq rfl (PU.box PU.nil) rfl (fun _ _ dG=>⟨fun _=>eD (.t2 .aa) _ dG,fun _=>eD (.t2 .aa) _ dG,fun _=>eD (.t2 .aa) _ dG,trivial⟩) ?_;intro ba;apply XQ.call (i:=9) rfl kq rfl rfl (HV b.bb b.vp _ a.v ho.wk.sys.jI.ok _ _ (a.f n.toNat) (ho.wk.sys.mo n.toNat og)) (pk [10,4,4]) OF rfl (by rintro _ _ ⟨nb,p1,c1,rfl,rfl⟩;all_goals(intro _ dG;exact⟨fun _=>eD (.t7 .aa) _ dG,fun hs=>(hs 9 (by first | (simp;done) | (simp;rfl)) rfl).elim,fun _=>eD (.t7 .aa) _ dG,trivial⟩));rintro _ _ ⟨nb,p1,c1,rfl,rfl⟩;apply XQ.call (i:=17) rfl kq rfl rfl (vi b.kb (kp a b c) n jy) (pk [7]) Gg rfl (by rintro _ _ ⟨bc,rfl,rfl⟩;all_goals(intro _ dG;exact⟨fun _=>eD (.av .aa) _ dG,fun hs=>(hs 9 (by first | (simp;done) | (simp;rfl)) rfl).elim,fun _=>eD (.av .aa) _ dG,trivial⟩));rintro _ _ ⟨bc,rfl,rfl⟩;refine XQ.pv (i:=18) rfl kq rfl (aW rfl) rfl rfl (XQ.load (i:=19) (.cells _ _ _ _) [22] rfl kq rfl .aa (eB rfl dJ (mw _) Gf qU) rfl kq rfl (XQ.pv (i:=20) rfl kq rfl (V.build (vs:= #[(0,iI 1),(1,iI n),(2,iI (a.u n).kx),(4,aC nb 0 0),(5,.agg (RN (a.u n).fd)),(6,.agg (X1 (a.u n).bx.bA))]) rfl (v:=.agg ((kp a b c).gF n nb).cO) (oA n _ nb _ _)) rfl rfl (XQ.fP (i:=22) rfl kq rfl rfl rfl (.t7 .aa) (PU.CV _ _) ⟨rfl,rfl⟩ qV (fun _ dG=>⟨fun hs=>(hs 22 (by first | (simp;done) | (simp;rfl)) rfl).elim,fun hs=>(hs 22 (by first | (simp;done) | (simp;rfl)) rfl).elim,fun hs=>(hs 9 (by first | (simp;done) | (simp;rfl)) rfl).elim,fun hs=>(hs 22 (by first | (simp;done) | (simp;rfl)) rfl).elim,trivial⟩) (XQ.done kq (gE (nm ((nb,ba,p1,c1)) ?_ (S5 rfl rfl rfl rfl rfl) fun _ hw=>XM.pick (pk [1,8,7,9,9,1,8,1,1,1,1,2,2,2,2,2,2,2,2,2,2,1]) hw))))));trivial
     intro y hy;apply gC;apply lZ (.nT (.t9 .aa)) (T5 _);refine lp (σ:=Int) (fun i=>(6-i).toNat) (fun i=>0<=i/\i<=6) (fun i=>[(133,iI i),(0,aC b.kb 0 0),(8,aC b.kb 0 (0+0+n.toNat*22)),(10,iI ch),(12,iI (a.s.bI n).1),(14,aC y.2.1 0 0),(132,.agg (RN (a.u n).fd))]) (fun i=>XM W (bZ (cU a b c [])) [.cells b.kb 0 453 (aF (kp a b c)),.cells b.gb 0 60 (bE (a.gC n)),.cells b.sb 0 158 (Sp.aP (a.s.enter a.aO (a.s.bI n).1 ch).2.2),.cells b.qb 0 2281 (aM c.q),.aV b7 (SC.da 254 c.q),.cells b.bb 0 577 (dD b.vp (a.v.jO (a.f n.toNat)).iq (a.v.jO (a.f n.toNat)).rf),.cells b.vp 0 71 (Vm.bL (a.v.jO (a.f n.toNat)).bb.fi),.cells (c.mb n.toNat) 0 34 (b6 b.bb (c.pp n.toNat) (aj (a.f n.toNat).aB).length (c.cc n.toNat) (a.f n.toNat).fr fun _=>false),aS (c.pp n.toNat) (c.cc n.toNat) 171 3 (aj (a.f n.toNat).aB).length (fb (aj (a.f n.toNat).aB)),.cells y.1 0 34 (b6 b.bb y.2.2.1 (aj (a.f n.toNat).aB).length y.2.2.2 (a.f n.toNat).fr fun _=>false),aS y.2.2.1 y.2.2.2 171 3 (aj (a.f n.toNat).aB).length (fb (aj (a.f n.toNat).aB)),.dN (iS (iR a) n.toNat) c.mb 34 (cN b.bb a.f c.pp c.cc),.aV (iS (iR a) n.toNat) (rN 171 a.f c.pp c.cc),.cells b.tb 0 321 (aH c.F),.aV ax (FC.aX 9 c.F),.aV ax (FC.aY 3 c.F),db c.rp c.rc 3 c.rl,.cells b.pi 0 24 (Tr.bL a.P),.cells b.ob 0 122 (bh b.tb b.pi (Lk (a.u n).fd a.O i.toNat)),.dN (kG a) (fun z=>(c.t z).b) 4 (cT b.tb c.t),.aV (kG a) (rT 168 c.t),.cells y.2.1 0 22 (((kp a b c).gF n y.1).cell)]) (0) ?_ (.cons rfl (S6 rfl rfl rfl rfl rfl rfl)) (fun _ hw=>XM.pick (pz 22) hw) ?_
     ·omega
     intro i hi;have aik:=ho.wk.fd n i;apply gC;refine cd rfl ?_ ?_<;>intro h4
     ·refine XO.v (ll rfl rfl Tryz.underlying83 nI kE) rfl (gO ?_);refine cd rfl ?_ ?_<;>intro h5
      ·have h26:(a.u n).fd i>0:=h5;refine ld .aa (gx _) (sd ?_);refine cq (H3 _ _ _ _ _ (T+6) og ((BX (f:=(a.u n).fd) ho.wk.OI i.toNat).mono og) _) (pk [18]) ?_;refine sd (ag (i+1) ?_ ?_ (.cons rfl (S6 rfl rfl rfl rfl rfl rfl)) fun _ l9=>by rw[OW _ hi.1 h26];exact XM.pick (pk [1,1,1,1,1,1,1,1,1,1,1,1,1,1,1,1,1,1,0,0,0,0]) l9);all_goals omega
      ·have h26:¬(a.u n).fd i>0:=h5;refine sd (ag (i+1) ?_ ?_ (.cons rfl (S6 rfl rfl rfl rfl rfl rfl)) fun _ l9=>by rw[KN _ hi.1 h26];exact XM.pick (pz 22) l9);all_goals omega
     ·refine rq [0,1,2,3,4,5,6] mixed (lZ (.nT (.t9 .aa)) (PU.agg _) (sd (gD .aa (aF.CV _ og _) rfl ⟨rfl,rfl⟩ (rq [0,1,2,3,4,5,6,7,8,9] mixed (ld .aa (eJ _) (ld .aa (dx _) ?_))))));refine ca (An _ _ c.q c.d hc.qO.dS hc.qR ch _ 100) (pk [3,3]) ?_;rintro _ _ ⟨rfl,q1,Ge,HR,rfl⟩;obtain⟨d1,V9⟩:∃ d1,q1.toSF.Ok d1 (N+1) N:=by rw[Ge];exact hc.qO.sG og _ _ _
      apply gO;apply ld (.t2 .aa) (eJ _);refine ca (HT _ _ q1 d1 V9.dS HR ch true) (pz 2) ?_;rintro _ _ ⟨rfl,q2,q7,yZ,rfl⟩;have ads:q2.toSF.Ok d1 (N+1) N:=by rw[q7];exact V9.fU _ _
      apply gO;apply ld (.t2 .aa) (aF.qK _);refine cq (Gd _ _ (a.s.enter a.aO (a.s.bI n).1 ch).2.2 _ _) (pk [4]) ?_;refine XR.mono (fun _ bJ=>lN (f:=a.f) (a.f n.toNat).bare (fv jy) (pk [7,7,9,9]) bJ) ?_;refine XR.mono (fun _ bJ=>BF (a.f n.toNat).bare (VI ⟨HS.1.1,og⟩ BU) (pk [9,9,0,0]) bJ) ?_;refine ao rfl rfl rfl (ad (pk [5,5,2,2,2,2,2,0,0,0,0,0,0,0,0,0,0]) rfl ?_);try dsimp only[aL,aJ,aD,aR]
      have hi6:i=6:=og;subst hi6;have hfc:a.free=ch:=KA.pJ ⟨HS.1.1,og⟩ BU HS.2;subst hfc;have hI:=ho.wk.fkI (n:=n) (bu:=false) (SS.Inv.dg ho.wk.sI ho.r0.loc) hl og rfl;have hg0:a.gE n=0:=Zx;have e1:a.lz n false=0:=by unfold KA.lz;rw[if_neg og,if_neg og,if_neg og];rfl
      have e2:a.lW n false=((a.df n false).s.fS a.free (a.sz n)).1:=by unfold KA.lW;rw[if_pos e1]
      have e3:a.iV n false=a.df n false:=by unfold KA.iV;rw[if_neg og,if_neg (by exact fun q=>q rfl)]
      have e4:((a.df n false).s.fS a.free (a.sz n)).2=0:=hI.fS.1;have A6:cH (a.df n false) {c with mb:=bF c.mb a.free.toNat y.1,pp:=bF (bF c.pp n.toNat (c.pp n.toNat)) a.free.toNat y.2.2.1,cc:=bF (bF c.cc n.toNat (c.cc n.toNat)) a.free.toNat y.2.2.2,q:=q2,d:=d1} (N+1) (T+20):=by
       refine⟨ads.mono (Nat.le_refl _) og,yZ,FF.Ok.up hc.F og,hc.rp,hc.rc,hc.rl,fun z h0 h1 h2=>hc.tb z h0 h1 (by rwa[hI.yP]at h2),hc.VJ hI Ge q7⟩
      rw[e1,e2,e3];refine⟨?_,_,A6,?_⟩
      ·rw[<-e4];rfl
      ·try unfold cU
       rw[OX (c':= {c with mb:=bF c.mb a.free.toNat y.1,pp:=bF (bF c.pp n.toNat (c.pp n.toNat)) a.free.toNat y.2.2.1,cc:=bF (bF c.cc n.toNat (c.cc n.toNat)) a.free.toNat y.2.2.2,q:=q2,d:=d1}) ho.wk hI rfl rfl ⟨⟨rfl,rfl,rfl,rfl⟩,rfl,rfl,rfl⟩ (by show _=(fun z=>if(a.df n false).s.aa z then aC (c.t z.toNat).b 0 0 else .pointer none);rw[hI.yP];rfl),KR hI,VH hI];rfl
  ·refine W1 rfl og (ao rfl rfl rfl (ad (pz 17) rfl ?_));try dsimp only[aL,aJ,aD,aR]
   grind [KA.BL,KA.lz,KA.lW,KA.iV,cH.up,az]
 ·have hl:a.aI n≠0:=hl;have iD:(kp a b c).aI n=a.aI n:=rfl;rw[iD];apply gO;refine ao rfl rfl rfl (ad (pz 17) rfl ?_);grind [aL,aJ,aR,KA.lz,KA.lW,KA.iV,aQ,cH.up]
end Go.X.Kn
