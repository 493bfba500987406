import Derived.Test.YthdinakloheinaaGreatDoorkJG11
set_option linter.all false
namespace Go.X.Kn
open Go Go.Proofs Go.X Go.X.Tr
set_option maxRecDepth 20000
set_option maxHeartbeats 4000000
def AR:nT Tryz.prog 211=true:=kq
def nQ:fp Tryz.prog 211=some 4:=kq
attribute [local irreducible] KA.dt KA.cK
set_option maxHeartbeats 8000000 in
def WU(a:KA)(b:KZ)(c:KC)(N:Nat)(T:Int)(ho:a.Ok T)(hc:cI a c N T)(hT:T<=800000)(n:Int)(x:ByteArray)(hx:x.size<=100000):Spec Tryz.prog 172 [ay b.kb 0 0,iI n,.string x] (cV a b c []) (fun v H1=>∃ (p:Option Addr) (k:Nat) (ns:List ByteArray) (e:Int),(ns.length<=8/\∀ y∈ns,y.size<=8)/\v= .tuple #[.slice p ns.length k,ax 102 e]/\H1=j9 p k 9 ns::(cV a b c [])):=by
 refine Spec.go 40 [0,1,2,6,7,9,10,18,29] [] Tryz.func172 fun W=> ?_;refine ca (ek b.kb (kp a b c) n) .h1 ?_;rintro _ _ ⟨⟨hl,rfl⟩ | ⟨hl,rfl⟩,rfl⟩
 ·obtain⟨jx,gn⟩:=bE hl;have hl:a.aB n=0:=hl;have gn:(a.u n).st=1:=gn;have hz:=ho.tz hl;have iG:=hc.tb _ hz.1.1 hz.1.2 hz.2;have zo:=hc.sh og;apply gO;apply XR.mono fun _ bJ=>gT (z:=(a.s.bS n).1.toNat) (dY hz.1 hz.2) (pk [15,15]) bJ;refine cq (iU a b c n hz) (pk [4,5]) ?_;refine cq (EF _ _ _ _ _ _ _ _ _ iG.rv iG.mc iG.len c.F zo x hx) (pk [2,2,11,11,11]) ?_;apply XO.bG (z:=.agg (WH.cF WH.nil)) (m:=2) (C:=Tr.aN WH.nil) (Tr.aN.box _);intro bw;apply gO;refine fW .aa (Tr.aN.st _ _) rfl ⟨rfl,rfl⟩ (XR.mono (fun _ bJ=>gQ (z:=(a.s.bS n).1.toNat) (dY hz.1 hz.2) (pk [1,1,6,6]) bJ) ?_);refine cd ?_ ?_<;>intro h1
  ·refine XR.fH 9 1 (aW rfl rfl rfl (ah (pk (0::6::7::rr 7 6 (rr 6 3 [0,0]))) rfl ?_));exact⟨none,0,[],_,⟨dq,fun y q=>by cases q⟩,rfl,rfl⟩
  ·refine rq [0,1,2,3,4,5,6,7,8,9,10] mixed (ld (.t6 .aa) (aD.BM _) (ld (.t2 .aa) (Tr.aN.EM _) ?_));refine ca (adl _ _ c.F zo _) (pk [3,3,3]) ?_;rintro _ _ (⟨hle,rfl,rfl⟩ | ⟨hle,p,k,rfl,rfl⟩)
   ·apply gO;refine XR.fH 9 1 (aW rfl rfl rfl (ah (pk [0,6,7,6,6,6,6,6,6,6,0,0,0,3,3,3,0,0]) rfl ?_));exact⟨none,0,[],_,⟨dq,fun y q=>by cases q⟩,rfl,rfl⟩
   ·apply gO;refine aW rfl rfl rfl (ah (pk [0,6,7,6,6,6,6,6,6,6,0,0,0,3,3,3,0,0]) rfl ?_);exact⟨p,k,_,0,Y6 hc.F hle,rfl,rfl⟩
 ·have hl:a.aB n≠0:=hl;have iJ:(kp a b c).aB n=a.aB n:=rfl;rw[iJ];apply gO;refine XR.fH 9 1 (aW rfl rfl rfl (ah (pz 18) rfl ?_));exact⟨none,0,[],a.aB n,⟨dq,fun y q=>by cases q⟩,by rw[aJ _ hl];rfl,rfl⟩
set_option maxHeartbeats 8000000 in
def ZU(a:KA)(b:KZ)(c:KC)(N:Nat)(T:Int)(ho:a.Ok T)(hc:cI a c N T)(hT:T<=800000)(n:Int)(x:ByteArray)(hx:x.size<=100000):Spec Tryz.prog 173 [ay b.kb 0 0,iI n,.string x] (cV a b c []) (fun v H1=>(∃ (k:NV) (e:Int),NVs k/\v= .tuple #[.agg k.cF,ax 102 e])/\H1=(cV a b c [])):=by
 refine Spec.go 42 [0,1,2,6,7,9,10,18,30] [] Tryz.func173 fun W=> ?_;apply XO.bG (z:=.agg NV.zero.cF) (m:=4) (C:=oy NV.zero) (oQ _);intro bg;apply gO;refine ca (ek b.kb (kp a b c) n) (pk [1]) ?_;rintro _ _ ⟨⟨hl,rfl⟩ | ⟨hl,rfl⟩,rfl⟩
 ·obtain⟨jx,gn⟩:=bE hl;have hl:a.aB n=0:=hl;have gn:(a.u n).st=1:=gn;have hz:=ho.tz hl;have iG:=hc.tb _ hz.1.1 hz.1.2 hz.2;have zo:=hc.sh og;apply gO;apply XR.mono fun _ bJ=>gT (z:=(a.s.bS n).1.toNat) (dY hz.1 hz.2) (pk [16,16]) bJ;refine cq (iU a b c n hz) (pk [4,6]) ?_;refine cq (EF _ _ _ _ _ _ _ _ _ iG.rv iG.mc iG.len c.F zo x hx) (pk [2,2,12,12,12]) ?_;apply XO.bG (z:=.agg (WH.cF WH.nil)) (m:=2) (C:=Tr.aN WH.nil) (Tr.aN.box _);intro bw;apply gO;refine fW .aa (Tr.aN.st _ _) rfl ⟨rfl,rfl⟩ (XR.mono (fun _ bJ=>gQ (z:=(a.s.bS n).1.toNat) (dY hz.1 hz.2) (pk [1,1,6,6]) bJ) ?_);refine cd ?_ ?_<;>intro h1
  ·refine XO.v (V.build (vs:= #[]) rfl (v:=.agg NV.zero.cF) fun _=>kq) rfl (gO ?_);refine fW (.t8 .aa) (mm _ _) rfl ⟨rfl,rfl⟩ (dC rfl (.agg rfl (.t8 .aa) (rm _) AR nQ) (.tmp rfl) (ah (pk [6,8,6,7,7,7,7,7,7,3,3,3,4,4,4,0,0]) rfl ?_));try dsimp only[aS,aR,bI,bN]
   grind [afD]
  ·refine rq [0,1,2,3,4,5,6,7,8,9,10] mixed (ld (.t6 .aa) (aD.BM _) (ld (.t2 .aa) (Tr.aN.EM _) ?_));refine cq (Tr.No _ _ c.F zo _) (pk [3]) ?_;refine fW (.t8 .aa) (mm _ _) rfl ⟨rfl,rfl⟩ (dC rfl (.agg rfl (.t8 .aa) (rm _) AR nQ) (.tmp rfl) (ah (pk [6,8,6,7,7,7,7,7,7,0,3,3,4,4,4,0,0]) rfl ?_));exact⟨⟨_,_,afC hc.F og _,rfl⟩,rfl⟩
 ·have hl:a.aB n≠0:=hl;have iJ:(kp a b c).aB n=a.aB n:=rfl;rw[iJ];apply gO;refine XO.v (V.build (vs:= #[]) rfl (v:=.agg NV.zero.cF) fun _=>kq) rfl (gO ?_);refine fW (.ao .aa) (mm _ _) rfl ⟨rfl,rfl⟩ (dC rfl (.agg rfl (.ao .aa) (rm _) AR nQ) (.tmp rfl) (ah (pk (0::rr 16 1 [])) rfl ?_));try dsimp only[aS,aR,bI,bN]
  exact⟨⟨_,a.aB n,afD,by rw[aJ _ hl]⟩,rfl⟩
end Go.X.Kn

namespace Go.X.Kn
open Go Go.Proofs Go.X
set_option maxRecDepth 20000
set_option maxHeartbeats 4000000
def uQ(z:Int):∀ w,(Instr.buildSlice 55 1 #[(0,iI z)]).run Tryz.prog w= .ok (.slice (some ⟨w.heap.size,0,none⟩) 1 1) (w.alloc (.cells #[iI z] 3)):=fun w=>kq
def qy:rL Tryz.prog 3 1=true:=kq
attribute [local irreducible] KA.dt KA.cK
end Go.X.Kn

namespace Go.X.Fa
open Go Go.Proofs Go.X
set_option maxRecDepth 20000
set_option maxHeartbeats 4000000
def Wo:Spec Tryz.prog 97 [] [] (fun v H1=>∃ p,v=ay p 0 0/\∃ t:SC,t.toSF=SF.cP/\t.mA/\H1=[.cells p 0 2281 (aH t),.aQ bW (t.dg 254)]):=by
 refine Spec.go 10 [0,1] [] Tryz.func97 fun W=> ?_;refine XO.v (V.build (vs:= #[]) rfl (v:=.agg TW) fun _=>kq) rfl (gO ?_);refine XO.box (m:=2281) (C:=aH SC.dB) rfl Qi TX rfl ?_;intro p;apply XO.mono fun _ bJ=>L7 254 bJ;apply gO;refine XO.v (V.build (vs:= #[(0,.bool true),(1,iI (-1)),(2,iI 1)]) rfl (v:=.agg (l5 (wQ true (-1) 1))) fun _=>kq) rfl (gO ?_);refine sd ?_;apply oS;apply XO.gi rfl rfl (.ao .aa) (tY _ 0 (-1) 1 true) (pe _) rD;apply XO.mono fun _ bJ=>XM.newRow (s:=SC.dB) (z:=0) og .h1 bJ;apply gO;refine bL (pk [1,0]) ?_;exact⟨_,rfl,_,rfl,SC.mA.dB.new rfl (fun i hi=>by cases hi) (-1) 1 true,rfl⟩
end Go.X.Fa

namespace Go.X.Tr
open Go Go.X
def Aa:∀ i,i<24->cellsOf (Value.agg #[.string ⟨#[]⟩,iI 0,iI 0,.string ⟨#[]⟩,iI 0,iI 0,.string ⟨#[]⟩,iI 0,iI 0,.string ⟨#[]⟩,iI 0,iI 0,.string ⟨#[]⟩,iI 0,iI 0,.string ⟨#[]⟩,iI 0,iI 0,.string ⟨#[]⟩,iI 0,iI 0,.string ⟨#[]⟩,iI 0,iI 0]).cells i=bK PS.cP i:=fun i hi=>match i,hi with
 | 0,_=>rfl
 | 1,_=>rfl
 | 2,_=>rfl
 | 3,_=>rfl
 | 4,_=>rfl
 | 5,_=>rfl
 | 6,_=>rfl
 | 7,_=>rfl
 | 8,_=>rfl
 | 9,_=>rfl
 | 10,_=>rfl
 | 11,_=>rfl
 | 12,_=>rfl
 | 13,_=>rfl
 | 14,_=>rfl
 | 15,_=>rfl
 | 16,_=>rfl
 | 17,_=>rfl
 | 18,_=>rfl
 | 19,_=>rfl
 | 20,_=>rfl
 | 21,_=>rfl
 | 22,_=>rfl
 | 23,_=>rfl
 | k+24,h=>absurd h og
end Go.X.Tr

namespace Go.X.Kn
open Go Go.Proofs Go.X
set_option maxRecDepth 20000
set_option maxHeartbeats 4000000
def Lo(mb:Nat):∀ w,(Instr.build 89 #[(0,iI 1),(1,iI (-1)),(4,ay mb 0 0)]).run Tryz.prog w= .ok (.agg (PU.cF (Dp mb))) w:=fun w=>kq
def Se(a b c d e f:Nat):∀ w,(Instr.build 101 #[(1,ay a 0 0),(2,ay b 0 0),(3,ay c 0 0),(4,ay d 0 0),(5,ay e 0 0),(6,ay f 0 0)]).run Tryz.prog w= .ok (.agg (Gc (KP.raw a b c d e f))) w:=fun w=>kq
open Go.X.Fa
def GZ(p:Option Addr)(l c:Nat)(m:Int):Spec Tryz.prog 47 [.slice p l c,iI m] [] (fun v H1=>v= .bool (decide ((l:Int)<=m))/\H1=[]):=by
 refine Spec.go 9 [0,1,4] [] Tryz.func47 fun W=> ?_;refine bL .nil ?_;grind [aS,aR]
def Sf(bl ol len cap:Nat)(hlen:len<=cap)(A:Int->jA)(hA:∀ z:Int,0<=z->z<len->(A z).ok)(hL:len<=1000000)(m:Int):Spec Tryz.prog 48 [.slice (some ⟨bl,ol,none⟩) len cap,iI m] [.ro bl ol (8*len) (fq A)] (fun v H1=>(∃ b,v= .bool b/\(b=true->∀ z:Int,0<=z->z<len->((A z).s.size:Int)<=m/\((A z).t.size:Int)<=m))/\H1=[]):=by
 refine Spec.go 30 [0,1,4,5,9,29] [] Tryz.func48 fun W=> ?_;refine lp (σ:=Int) (fun k=>(len-k).toNat) (fun k=>0<=k/\k<=len/\∀ z:Int,0<=z->z<k->((A z).s.size:Int)<=m/\((A z).t.size:Int)<=m) (fun k=>[(5,iI k),(0,.slice (some ⟨bl,ol,none⟩) len cap),(1,iI m)]) (fun k=>XM W (bX [.ro bl ol (8*len) (fq A)]) [.ro bl ol (8*len) (fq A)]) (0) ?_ S3 (xq .h1) ?_
 ·grind
 intro k hk;obtain⟨hk0,hk1,hkk⟩:=hk;apply gC;refine cd ?_ ?_<;>intro h1
 ·refine sd (XG .aa (Qc A len _ og) ?_);refine sp 20 rfl ?_ ?_<;>intro h2
  ·refine bL .nil ?_;grind [aS,aR,bN]
  ·refine sd (XG .aa (Qd A len _ og) ?_);refine cd ?_ ?_<;>intro h3
   ·refine bL .nil ?_;grind [aS,aR,bN]
   ·refine sd (ag (k+1) ?_ ?_ S3 (xq .h1));all_goals grind
 ·refine bL .nil ?_;grind [aS,aR,bN]
def Si(p:Option Addr)(cap:Nat)(m:Int):Spec Tryz.prog 48 [.slice p 0 cap,iI m] [] (fun v H1=>v= .bool true/\H1=[]):=by
 refine Spec.go 30 [0,1,4,5,9] [] Tryz.func48 fun W=> ?_;refine lp (σ:=Int) (fun k=>0) (fun k=>0<=k) (fun k=>[(5,iI k),(0,.slice p 0 cap),(1,iI m)]) (fun k=>XM W (bX []) []) (0) ?_ S3 (xq .nil) ?_
 ·omega
 intro k hk;apply gC;refine Hb rfl eW (aM rfl rfl (ah .nil rfl ?_));grind [aS,aR,bN]
def adR(e:Int):Spec Tryz.prog 19 [.iface 102 (iI e)] [] (fun v H1=>v=iI e/\H1=[]):=by
 refine Spec.go 15 [0,2,3,4,6,13] [] Tryz.func19 fun W=> ?_;refine XO.v (LI rfl Tryz.underlying102 sq) rfl (gO ?_);refine bL .nil ?_;grind [aS,aR]
def adS:Spec Tryz.prog 19 [.nilIface] [] (fun v H1=>v=iI 0/\H1=[]):=by
 refine Spec.go 15 [0,2,6] [] Tryz.func19 fun W=> ?_;refine bL .nil ?_;grind [aS,aR,bN]
def aa7(e:Int):Spec Tryz.prog 19 [ax 102 e] [] (fun v H1=>v=iI e/\H1=[]):=by
 by_cases h:e=0
 ·subst h;exact adS
 ·rw[aJ _ h];exact adR e
def ZV(p:Option Addr)(cap:Nat)(m:Int):Spec Tryz.prog 13 [.slice p 0 cap,iI m] [] (fun v H1=>(∃ b,v= .bool b/\(b=true->((0:Nat):Int)<=m))/\H1=[]):=by
 refine Spec.go 12 [0,1,4] [] Tryz.func13 fun W=> ?_;refine cq (GZ _ _ _ _) .nil ?_;refine sp 8 rfl ?_ ?_<;>intro h1
 ·refine cq (Si _ _ _) .nil ?_;refine bL .nil ?_;grind [aS,aR]
 ·refine bL .nil ?_;grind [aS,aR,bN]
def ZW(kb:Nat)(k:KP)(q:SC)(hq:q.toSF=Q2)(hR:q.mA):Spec Tryz.prog 46 [ay kb 0 0] [.cells kb 0 453 (aD k),.cells k.qb 0 2281 (aH q),.aQ bW (SC.dg 254 q)] (fun v H1=>v=iI 0/\∃ t:SC,t.toSF=(Q2.lR dK).2/\t.mA/\H1=[.cells kb 0 453 (aD k),.cells k.qb 0 2281 (aH t),.aQ bW (SC.dg 254 t)]):=by
 refine Spec.go 8 [0,2] [] Tryz.func46 fun W=> ?_;apply ld .aa (eB _);refine ca (V4 _ _ q dK (by rw[hq];exact Dq.eG) hR (fun n a b=>Nat.le_trans (Dq.aV n a b) og) (2000000000*0) og (by rw[hq];exact Dq.sS) (by show 0<=q.toSF.ie/\q.toSF.ie<=2000000000*0;rw[hq];exact Dq.ie) (by rw[hq];exact(Dq.o7 og).set)) (pk [1,1]) ?_;rintro _ _ ⟨rfl,t,ht,hr,rfl⟩;rw[hq,Yy];rw[hq]at ht;apply gO;refine bL (pk [2,0,0]) ?_;grind [aS,aR]
def PG(kb:Nat)(k:KP):Spec Tryz.prog 27 [ay kb 0 0] [.cells kb 0 453 (aD k)] (fun v H1=>∃ p cap,v= .slice p (Vm.fM (fun n=>decide ((k.u n).st=1)) 20).length cap/\H1=[dy p cap 3 (Vm.fM (fun n=>decide ((k.u n).st=1)) 20),.cells kb 0 453 (aD k)]):=by
 refine Spec.go 22 [0,2,3,4,5,6,15] [] Tryz.func27 fun W=> ?_;refine XR.fH 3 1 ?_;refine lp (σ:=Int×List Int×Option Addr×Nat) (fun x=>(20-x.1).toNat) (fun x=>(0<=x.1/\x.1<=20)/\x.2.1=Vm.fM (fun n=>decide ((k.u n).st=1)) x.1.toNat) (fun x=>[(3,.slice x.2.2.1 x.2.1.length x.2.2.2),(5,iI x.1),(0,ay kb 0 0)]) (fun x=>XM W (bX [.cells kb 0 453 (aD k)]) [dy x.2.2.1 x.2.2.2 3 x.2.1,.cells kb 0 453 (aD k)]) ((0,[],none,0)) ?_ S3 (xq (pz 2)) ?_
 ·exact⟨sq,rfl⟩
 intro x hx;obtain⟨hx,hL⟩:=hx;have hlen:=Vm.kg (fun n=>decide ((k.u n).st=1)) x.1.toNat;rw[<-hL]at hlen;have hnx:=Vm.zT (fun n=>decide ((k.u n).st=1)) hx.1;refine gC ?_;refine cd ?_ ?_<;>intro h1
 ·refine sd (ld (.ao .aa) (gB _) ?_);refine cd ?_ ?_<;>intro h2
  ·have h52:=h2;refine XO.buildSlice (A:= #[iI _]) (vs:= #[(0,iI _)]) rfl (uQ _) rfl rfl ?_;intro h3;refine gO ?_;refine lB (e:=3) rfl rfl Tryz.underlying55 qy (.ao .aa) .aa og rfl ?_;intro h4 h5;refine gO ?_;refine sd (ag ((x.1+1,x.2.1++[x.1],_,_)) ?_ ?_ S3 (xq (pk [0,1])));all_goals grind
  ·have h52:=h2;refine sd (ag ((x.1+1,x.2.1,_,_)) ?_ ?_ S3 (xq (pz 2)));all_goals grind
 ·refine bL (pz 2) ?_;try dsimp only[aS,aR,bI,bN]
  have acR:x.1=20:=og;simp_all
theorem Lp{k:KP}{mb:Nat}(h:aaH k mb):Vm.fM (fun n=>decide ((k.u n).st=1)) 20=[0]:=by
 have e:(fun n=>decide ((k.u n).st=1))=fun n=>decide (n=0):=by
  funext n;rw[h.u];by_cases c:n=0
  ·subst c;rw[aj];rfl
  ·rw[ae _ _ c,decide_eq_false c];rfl
 rw[e];decide
open Go.X.Gr Go.X.Sg Go.X.Tr Go.X.Vm
def WV:nT Tryz.prog 58=true:=kq
def Iy:fp Tryz.prog 58=some 4:=kq
attribute [local irreducible] KA.dt KA.cK
set_option maxHeartbeats 16000000 in
def ZX(a:KA)(b:KZ)(c:KC)(N:Nat)(T:Int)(ho:a.Ok T)(hc:cI a c N T)(hT:T<=800000)(Vw:1<=T)(x:jA)(hx:x.s.size<=1000/\x.t.size<=1000)(Lq:Oth x.aO):Spec Tryz.prog 90 [ay b.kb 0 0,.agg (H9 x)] (cV a b c [.ro 0 0 32 dp]) (fun v H1=>∃ (a1:KA) (r:kU) (c1:KC),v= .agg r.cF/\a.rz c c1 x a1 r.n r.e/\cI a1 c1 (N+1) (T+20)/\H1=(cV a1 b c1 [])):=by
 refine Spec.go 226 [0,3,4,5,6,7,8,9,10,13,14,31,39,51,63,77,91,101,109,117,127,137,147,155,169,206,214] [(3,1)] Tryz.func90 fun W=> ?_;refine XO.box (m:=8) (C:=fc x) rfl rfl (OX x) rfl ?_;intro ba;apply gO;apply XO.bG (z:=.agg kU.nil.cF) (m:=4) (C:=cy kU.nil) (cy.box _);intro bz;apply gO;apply XO.bG (z:=.agg kU.nil.cF) (m:=4) (C:=cy kU.nil) (cy.box _);intro br;apply gO;apply ctG (σ:=KA×kU×Int×KC) (fun y=>a.rz c y.2.2.2 x y.1 y.2.1.n y.2.2.1/\cI y.1 y.2.2.2 (N+1) (T+20)) (fun y=>[(4,ay bz 0 0),(5,ay br 0 0),(6,ax 102 y.2.2.1)]) fun y=>XM W (bX (cV a b c [.ro 0 0 32 dp])) (cV y.1 b y.2.2.2 [.cells bz 0 4 (cy kU.nil),.cells br 0 4 (cy y.2.1)])
 ·apply ld (.t2 .aa) (lX _);refine cd ?_ ?_<;>intro h1
  ·apply ld (.t2 .aa) (bC _);apply ld (.t2 .aa) (fO _);apply ld (.t2 .aa) (jm _);apply ld (.t2 .aa) (cW _);refine ca (ZT a b c N T ho hc hT x.a x.s og x.on _) (pk (rr 17 3 [])) ?_;rintro _ _ ⟨a1,n0,e0,c1,rfl,ho1,fZ,rfl⟩;apply gO;apply st (.ov (.t5 .aa)) (fD _ _) rfl;refine nR ((a1,⟨n0,0,0,⟨#[]⟩⟩,e0,c1)) ?_ S3 (xq (pk (rr 17 0 [1,0])));exact⟨.qe Lq (.OZ ho1) _ _,fZ.up og og⟩
  ·refine cd ?_ ?_<;>intro h2
   ·apply ld (.t2 .aa) (bC _);apply ld (.t2 .aa) (cW _);refine ca (WC a b c N T ho hc hT x.a x.b) (pk (rr 17 3 [])) ?_;rintro _ _ ⟨rfl,c1,fZ,rfl⟩;apply gO;refine nR ((a.qx x.a x.b,⟨0,0,0,⟨#[]⟩⟩,a.ks c.F.toFF x.a x.b,c1)) ?_ S3 (xq (pk (rr 17 0 [1,0])));exact⟨.qe Lq .close _ _,fZ.up og og⟩
   ·refine cd ?_ ?_<;>intro h3
    ·apply ld (.t2 .aa) (bC _);apply ld (.t2 .aa) (cW _);refine ca (adL a b c N T ho hc hT x.a x.b) (pk (rr 17 3 [])) ?_;rintro _ _ ⟨rfl,c1,fZ,rfl⟩;apply gO;apply st (.ov (.t5 .aa)) (fD _ _) rfl;refine nR ((a.Aw x.a x.b,⟨a.KS x.a x.b,0,0,⟨#[]⟩⟩,a.KR x.a x.b,c1)) ?_ S3 (xq (pk (rr 17 0 [1,0])));exact⟨.qe Lq .dup _ _,fZ.up og og⟩
    ·refine cd ?_ ?_<;>intro h4
     ·apply ld (.t2 .aa) (bC _);refine ca (ZH a b c N T ho hc hT x.a) (pk (rr 17 3 [])) ?_;rintro _ _ ⟨rfl,c1,fZ,rfl⟩;apply gO;apply st (.ov (.t5 .aa)) (fD _ _) rfl;apply st (.ov (.t5 .aa)) (Bw _ _) rfl;refine nR ((a.qd x.a,⟨a.zd x.a,a.ze x.a,0,⟨#[]⟩⟩,a.uK x.a,c1)) ?_ S3 (xq (pk (rr 17 0 [1,0])));exact⟨.qe Lq .Kx _ _,fZ.up og og⟩
     ·refine cd ?_ ?_<;>intro h5
      ·apply ld (.t2 .aa) (bC _);apply ld (.t2 .aa) (cW _);apply ld (.t2 .aa) (gz _);refine ca (ZI a b c N T ho hc hT x.a x.b x.c) (pk (rr 17 3 [])) ?_;rintro _ _ ⟨rfl,c1,fZ,rfl⟩;apply gO;apply st (.ov (.t5 .aa)) (Bz _ _) rfl;refine nR ((a.wx c.F.toFF x.a x.b x.c,⟨0,0,0,a.kM c.F.toFF x.a x.b x.c⟩,a.mj c.F.toFF x.a x.b x.c,c1)) ?_ S3 (xq (pk (rr 17 0 [1,0])));exact⟨.qe Lq .mV _ _,fZ.up og og⟩
      ·refine cd ?_ ?_<;>intro h6
       ·apply ld (.t2 .aa) (bC _);apply ld (.t2 .aa) (cW _);apply ld (.t2 .aa) (fO _);refine xK 17 (WD a b c N T ho hc hT x.a x.b x.s og) (pk (rr 18 3 [])) rfl ?_;rintro _ _ ⟨rfl,c1,fZ,rfl⟩;apply gO;apply st (.ov (.t6 .aa)) (fD _ _) rfl;refine nR ((a.pD c.F.toFF x.a x.b x.s,⟨a.Ax c.F.toFF x.a x.b x.s,0,0,⟨#[]⟩⟩,a.fg c.F.toFF x.a x.b x.s,c1)) ?_ S3 (xq (pk (rr 17 0 [2,1])));exact⟨.qe Lq .cm _ _,fZ.up og og⟩
       ·refine cd ?_ ?_<;>intro h7
        ·apply ld (.t2 .aa) (bC _);apply ld (.t2 .aa) (cW _);apply ld (.t2 .aa) (gz _);refine ca (ZJ a b c N T ho hc hT x.a x.b x.c) (pk (rr 17 3 [])) ?_;rintro _ _ ⟨rfl,c1,fZ,rfl⟩;apply gO;refine nR ((a.uM x.a x.b x.c,⟨0,0,0,⟨#[]⟩⟩,a.nJ x.a x.b x.c,c1)) ?_ S3 (xq (pk (rr 17 0 [1,0])));exact⟨.qe Lq .Ky _ _,fZ.up og og⟩
        ·refine cd ?_ ?_<;>intro h8
         ·apply ld (.t2 .aa) (bC _);apply ld (.t2 .aa) (fO _);refine ca (NL a b c N T ho hc hT x.a x.s og) (pk (rr 17 3 [])) ?_;rintro _ _ ⟨e0,c1,rfl,fZ,rfl⟩;apply gO;refine nR ((a,⟨0,0,0,⟨#[]⟩⟩,e0,c1)) ?_ S3 (xq (pk (rr 17 0 [1,0])));exact⟨.qe Lq .same _ _,fZ.up og og⟩
         ·refine cd ?_ ?_<;>intro h9
          ·apply ld (.t2 .aa) (bC _);apply ld (.t2 .aa) (fO _);refine ca (Sb a b c N T ho hc hT x.a x.s og) (pk (rr 17 3 [])) ?_;rintro _ _ ⟨e0,c1,rfl,fZ,rfl⟩;apply gO;refine nR ((a,⟨0,0,0,⟨#[]⟩⟩,e0,c1)) ?_ S3 (xq (pk (rr 17 0 [1,0])));exact⟨.qe Lq .same _ _,fZ.up og og⟩
          ·refine cd ?_ ?_<;>intro Tu
           ·apply ld (.t2 .aa) (bC _);apply ld (.t2 .aa) (fO _);apply ld (.t2 .aa) (pU _);refine ca (ZQ a b c N T ho hc hT x.a x.s x.t og og) (pk (rr 17 3 [])) ?_;rintro _ _ ⟨e0,c1,rfl,fZ,rfl⟩;apply gO;refine nR ((a,⟨0,0,0,⟨#[]⟩⟩,e0,c1)) ?_ S3 (xq (pk (rr 17 0 [1,0])));exact⟨.qe Lq .same _ _,fZ.up og og⟩
           ·refine cd ?_ ?_<;>intro h11
            ·apply ld (.t2 .aa) (bC _);apply ld (.t2 .aa) (fO _);apply ld (.t2 .aa) (pU _);refine ca (ZR a b c N T ho hc hT x.a x.s x.t og og) (pk (rr 17 3 [])) ?_;rintro _ _ ⟨e0,c1,rfl,fZ,rfl⟩;apply gO;refine nR ((a,⟨0,0,0,⟨#[]⟩⟩,e0,c1)) ?_ S3 (xq (pk (rr 17 0 [1,0])));exact⟨.qe Lq .same _ _,fZ.up og og⟩
            ·refine cd ?_ ?_<;>intro h12
             ·apply ld (.t2 .aa) (bC _);apply ld (.t2 .aa) (fO _);apply ld (.t2 .aa) (pU _);refine ca (ZS a b c N T ho hc hT x.a x.s x.t og og) (pk (rr 17 3 [])) ?_;rintro _ _ ⟨e0,c1,rfl,fZ,rfl⟩;apply gO;refine nR ((a,⟨0,0,0,⟨#[]⟩⟩,e0,c1)) ?_ S3 (xq (pk (rr 17 0 [1,0])));exact⟨.qe Lq .same _ _,fZ.up og og⟩
             ·refine cd ?_ ?_<;>intro h13
              ·apply ld (.t2 .aa) (bC _);apply ld (.t2 .aa) (fO _);refine ca (Sc a b c N T ho hc hT x.a x.s og) (pk (rr 17 3 [])) ?_;rintro _ _ ⟨e0,c1,rfl,fZ,rfl⟩;apply gO;refine nR ((a,⟨0,0,0,⟨#[]⟩⟩,e0,c1)) ?_ S3 (xq (pk (rr 17 0 [1,0])));exact⟨.qe Lq .same _ _,fZ.up og og⟩
              ·refine cd ?_ ?_<;>intro h14
               ·apply ld (.t2 .aa) (bC _);apply ld (.t2 .aa) (fO _);refine ca (WU a b c N T ho hc hT x.a x.s og) (pk (rr 17 3 [])) ?_;rintro _ _ ⟨p,k,ns,e0,hns,rfl,rfl⟩;apply gO;refine lp (σ:=Int×ByteArray) (fun y=>(ns.length-y.1).toNat) (fun y=>(0<=y.1/\y.1<=ns.length)/\(y.2.size:Int)<=9*y.1) (fun y=>[(9,iI y.1),(0,ay b.kb 0 0),(3,ay ba 0 0),(4,ay bz 0 0),(5,ay br 0 0),(7,.slice p ns.length k),(8,ax 102 e0)]) (fun y=>XM W (bX (cV a b c [.ro 0 0 32 dp])) [j9 p k 9 ns,.cells b.kb 0 453 (aD (kp a b c)),.cells b.gb 0 60 (bD a.g),.cells b.sb 0 158 (Sp.aK a.s),.cells b.qb 0 2281 (aH c.q),.aQ bW (SC.dg 254 c.q),.cells b.bb 0 577 (dI b.vp a.v.ij a.v.rf),.cells b.vp 0 71 (Vm.bK a.v.bb.fe),.dG (iR a) c.mb 34 (cN b.bb a.f c.pp c.cc),.aQ (iR a) (rN 171 a.f c.pp c.cc),.cells b.tb 0 321 (aC c.F),.aQ au (FC.aX 9 c.F),.aQ au (FC.aY 3 c.F),dy c.rp c.rc 3 c.rl,.cells b.pi 0 24 (Tr.bK a.P),.cells b.ob 0 122 (aZ b.tb b.pi a.O),.dG (kz a) (fun z=>(c.t z).b) 4 (cT b.tb c.t),.aQ (kz a) (rT 168 c.t),.cells ba 0 8 (fc x),.cells bz 0 4 (cy kU.nil),.cells br 0 4 (cy ⟨0,0,0,y.2⟩)]) ((0,⟨#[]⟩)) ?_ (.cons rfl S6) (xq (pk [0,0,0,0,0,0,0,0,0,0,0,0,0,0,0,0,0,0,2,1,0])) ?_
                ·exact⟨sq,dq⟩
                intro y hy;obtain⟨hi,Sm⟩:=hy;apply gC;refine cd ?_ ?_<;>intro h15
                ·apply bP .aa og;intro gl h16;subst h16;refine rq [0,1,2,3,4,5,6,7,8,9] mixed ?_;apply ld (.ov (.t8 .aa)) (cy.uk _);refine sd ?_;apply zC .aa (rQ);have hsn:(kB ns y.1).size<=8:=hns.2 _ (VG og);refine sd ?_ (by show y.2.size+(kB ns y.1).size<=9223372036854775807;omega);refine sd ?_ (by show(y.2++kB ns y.1).size+(⟨#[47]⟩:ByteArray).size<=9223372036854775807;rw[ByteArray.size_append];have:(⟨#[47]⟩:ByteArray).size=1:=rfl;omega);apply st (.ov (.t8 .aa)) (Bz _ _) rfl;refine sd ?_;refine ag ((y.1+1,y.2++kB ns y.1++⟨#[47]⟩)) ?_ ?_ (.cons rfl S6) (xq (pz 21))
                 ·omega
                 ·exact⟨(by show 0<=y.1+1/\y.1+1<=_;omega),(by show((y.2++kB ns y.1++⟨#[47]⟩:ByteArray).size:Int)<=9*(y.1+1);rw[ByteArray.size_append,ByteArray.size_append];have:(⟨#[47]⟩:ByteArray).size=1:=rfl;omega)⟩
                ·apply ld (.ov (.t6 .aa)) (bC _);apply ld (.ov (.t6 .aa)) (fO _);refine ca (ZU a b c N T ho hc hT x.a x.s og) (pk (rr 17 1 [])) ?_;rintro _ _ ⟨⟨nv,e1,hnv,rfl⟩,rfl⟩;obtain⟨⟨nv1,nv2,nv3⟩,nv4,nv5,nv6⟩:=hnv;apply gO;apply XO.bG (z:=.agg NV.zero.cF) (m:=4) (C:=oy NV.zero) (oQ _);intro bn;apply gO;apply fW .aa (mm _ _) rfl ⟨rfl,rfl⟩;apply ld .aa (xe _);refine sd ?_;apply ld .aa (Kq _);refine sd ?_;refine sd ?_;apply ld .aa (MM _);refine sd ?_;refine sd ?_;apply ld .aa (MN _);refine sd ?_;apply st (.ov (.t9 .aa)) (fD _ _) rfl;refine nR ((a,⟨(1000*nv.aO+100*nv.bM+10*nv.bj+nv.size),0,0,y.2⟩,e0,c)) ?_ S3 (xq (pk (rr 17 1 [3,3])));exact⟨.qe Lq .same _ _,hc.up og og⟩
               ·refine cd ?_ ?_<;>intro h17
                ·refine ca (WT a b c N T ho hc hT) (pk (rr 17 3 [])) ?_;rintro _ _ ⟨n0,e0,c1,rfl,fZ,rfl⟩;apply gO;apply st (.ov (.t5 .aa)) (fD _ _) rfl;refine nR ((a,⟨n0,0,0,⟨#[]⟩⟩,e0,c1)) ?_ S3 (xq (pk (rr 17 0 [1,0])));exact⟨.qe Lq .same _ _,fZ.up og og⟩
                ·refine cd ?_ ?_<;>intro h18
                 ·apply ld (.t2 .aa) (bC _);apply ld (.t2 .aa) (cW _);refine ca (WS a b c N T ho hc hT x.a x.b) (pk (rr 17 3 [])) ?_;rintro _ _ ⟨e0,c1,rfl,fZ,rfl⟩;apply gO;refine nR ((a,⟨0,0,0,⟨#[]⟩⟩,e0,c1)) ?_ S3 (xq (pk (rr 17 0 [1,0])));exact⟨.qe Lq .same _ _,fZ.up og og⟩
                 ·refine nR ((a,⟨0,0,0,⟨#[]⟩⟩,0,c)) ?_ S3 (xq (pk (rr 17 3 [1,0])));exact⟨.qe Lq .same _ _,hc.up og og⟩
 intro y hy;obtain⟨s8,hcy⟩:=hy;apply gC;refine cq (aa7 _) .nil ?_;apply st (.ov (.t6 .aa)) (Bx _ _) rfl;apply lW (.ov (.t6 .aa)) (cy.agg _);apply fW (.ov (.t5 .aa)) (cy.st _ _) rfl ⟨rfl,rfl⟩;refine jz rfl (.agg rfl (.ov (.t5 .aa)) (cy.agg _) WV Iy) (ah (pz 17) rfl ?_);grind
open Go.X.Sp
set_option maxHeartbeats 16000000 in
def adT:Spec Tryz.prog 37 [] [] (fun x H1=>∃ (b:KZ) (c:KC),x=ay b.kb 0 0/\c.q.toSF=Q2/\c.d=dK/\cI A0 c 1 2/\H1=(cV A0 b c [])):=by
 refine Spec.go 77 [0,1] [] Tryz.func37 fun W=> ?_;refine ca (afR) .nil ?_;rintro _ _ ⟨gb,rfl,rfl⟩;apply gO;refine ca (Sp.VR) .nil ?_;rintro _ _ ⟨sb,rfl,rfl⟩;apply gO;refine ca (Fa.Wo) .nil ?_;rintro _ _ ⟨qb,rfl,q0,LD,hr0,rfl⟩;apply gO;refine ca (RR) .nil ?_;rintro _ _ ⟨bb,vp,rfl,rfl⟩;apply gO;refine ca (Tr.VR) .nil ?_;rintro _ _ ⟨tb,rfl,rfl⟩;apply gO;refine XO.v (V.build (vs:= #[]) rfl (v:=.agg #[.string ⟨#[]⟩,iI 0,iI 0,.string ⟨#[]⟩,iI 0,iI 0,.string ⟨#[]⟩,iI 0,iI 0,.string ⟨#[]⟩,iI 0,iI 0,.string ⟨#[]⟩,iI 0,iI 0,.string ⟨#[]⟩,iI 0,iI 0,.string ⟨#[]⟩,iI 0,iI 0,.string ⟨#[]⟩,iI 0,iI 0]) fun _=>kq) rfl (gO ?_);apply XO.box (m:=24) (C:=Tr.bK Tr.PS.cP) rfl rfl Tr.Aa rfl;intro pi;apply gO;refine XO.v (V.build (vs:= #[(1,ay gb 0 0),(2,ay sb 0 0),(3,ay qb 0 0),(4,ay bb 0 0),(5,ay tb 0 0),(6,ay pi 0 0)]) rfl (v:=.agg (Gc (KP.raw gb sb qb bb tb pi))) (Se _ _ _ _ _ _)) rfl (gO ?_);refine XO.box (m:=453) (C:=yA (KP.raw gb sb qb bb tb pi)) rfl (Mx _) (QP _) rfl ?_;intro kb;apply gO;refine rq [0,1,2,3,4,5,6,7,8,9,10,11,12] mixed (ld .aa (yA.BM _) (ld .aa (J7 _) ?_));refine ca (Tr.Wo tb pi) .nil ?_;rintro _ _ ⟨ob,rfl,rfl⟩;apply gO;refine st (.ao .aa) (My _ _) rfl (ld (.ao .aa) (aD.BM _) ?_);refine ca (Pt _ _ _ (Tr.FF.Kl.sh og)) (pk [3,3,3,3]) ?_;rintro _ _ ⟨t0,rfl,ht0,rfl⟩;obtain⟨d1,o1⟩:=Tr.FF.Kl.yG;have o2:t0.toFF.Ok d1 (0+1):=by rw[ht0];exact o1
 have hrt:t0.mG 0=0:=by show t0.toFF.mG 0=0;rw[ht0];decide+kernel
 apply gO;refine rq [0,1,2,3,4,9,10,5,6,7,8,11,12] mixed (ld (.t5 .aa) (aD.BM _) ?_);refine ca (aga _ t0 d1 _ o2 og 0) (pz 4) ?_;rintro _ _ (⟨gY,rfl,rfl⟩ | ⟨_,bt,u0,rfl,hu0,up0,uc0,rfl⟩)
 ·exact absurd hrt gY;skip
 ·apply gO;refine sd (st (.t7 .aa) (uo _ og _) rfl (rq [0,1,2,3,4,7,8,5,6,9,10] mixed (ld (.t7 .aa) (aD.Ae _) ?_)));refine ca (af0 bb) .nil ?_;rintro _ _ ⟨mb,rfl,rfl⟩;apply gO;refine XO.v (V.build (vs:= #[(0,iI 1),(1,iI (-1)),(4,ay mb 0 0)]) rfl (v:=.agg (PU.cF (Dp mb))) (Lo mb)) rfl (gO ?_);refine sd (fW (.t9 .aa) (aD.Dm _ og (Dp mb)) rfl ⟨rfl,rfl⟩ (ld (.t9 .aa) (eA _) ?_));refine cq (uS _ _ Gr.TG.cP Gr.TG.Inv.cP.ok 0 1 0 0 og Gr.TG.bU.cP) (pk [16]) ?_;apply ld (.XJ .aa) (aD.uk _);refine cq (Ig _ _ Sp.SS.cP (fun _=>1) Sp.SS.Inv.cP.D 0 0) (pk [16]) ?_;apply ld (.t11 .aa) (eB _);refine ca (AQ _ _ q0 (fun _=>0) (by rw[LD];exact Fa.SF.Og.eG) hr0 0 0 100) (pk [15,15]) ?_;rintro _ _ ⟨rfl,q1,LF,Eu,rfl⟩;have LF:q1.toSF=Q1:=by rw[LF,LD];rfl
  apply gO;apply ld (.ov (.ao .aa)) (eB _);refine ca (Il _ _ q1 dK (by rw[LF];exact aaI.eG) Eu 0 true) (pz 2) ?_;rintro _ _ ⟨rfl,q2,tu,zp,rfl⟩;have tu:q2.toSF=Q2:=by rw[tu,LF];rfl
  apply gO;apply XR.mono (fun _ bJ=>QO (z:=(0:Int).toNat) Vm.MS.nil (pk [4,4]) bJ);rw[jG fun _=>Vm.MS.nil];refine XR.mono (fun _ bJ=>Rk (z:=(0:Int).toNat) (⟨bt,⟨0,t0.fV 0⟩,[],none,0,0,0,C0⟩:TB) (pk [6,6]) bJ) ?_;refine aM rfl rfl (ah (pk [13,7,6,4,4,10,10,2,2,2,2,2,2,3,2,0,0]) rfl ?_);try dsimp only[aS,aR,bI,bN]
  refine⟨(⟨kb,gb,sb,qb,bb,tb,pi,ob,vp⟩:KZ),(⟨bu (fun _=>0) (0:Int).toNat mb,bu (fun _=>none) (0:Int).toNat none,bu (fun _=>0) (0:Int).toNat 0,q2,dK,u0,d1,t0.rP,t0.rC,t0.roots,bu (fun _=>(⟨bt,⟨0,t0.fV 0⟩,[],none,0,0,0,C0⟩:TB)) (0:Int).toNat (⟨bt,⟨0,t0.fV 0⟩,[],none,0,0,0,C0⟩:TB)⟩:KC),rfl,tu,rfl,⟨(by show q2.toSF.Ok dK 1 1;rw[tu];exact Dq.mono (Nat.le_refl _) og),zp,(by show u0.toFF.Ok d1 2;rw[hu0];exact o2.ea _),up0,uc0,(by show u0.toFF.roots=_;rw[hu0,kx]),fun z z0 z1 z2=> ?_,afF tu⟩,?_⟩
  ·have et:bu (fun _=>(⟨bt,⟨0,t0.fV 0⟩,[],none,0,0,0,C0⟩:TB)) (0:Int).toNat (⟨bt,⟨0,t0.fV 0⟩,[],none,0,0,0,C0⟩:TB) z.toNat=(⟨bt,⟨0,t0.fV 0⟩,[],none,0,0,0,C0⟩:TB):=by unfold bu;split<;>rfl
   show(bu (fun _=>(⟨bt,⟨0,t0.fV 0⟩,[],none,0,0,0,C0⟩:TB)) (0:Int).toNat (⟨bt,⟨0,t0.fV 0⟩,[],none,0,0,0,C0⟩:TB) z.toNat).Ok;rw[et];exact⟨.inl ⟨rfl,rfl⟩,fun i hi=>absurd hi (by show ¬i<0*4;omega),(by show 0<=6;omega)⟩
  ·try unfold cV
   rw[acM,acN,acO (⟨kb,gb,sb,qb,bb,tb,pi,ob,vp⟩:KZ) (⟨bu (fun _=>0) (0:Int).toNat mb,bu (fun _=>none) (0:Int).toNat none,bu (fun _=>0) (0:Int).toNat 0,q2,dK,u0,d1,t0.rP,t0.rC,t0.roots,bu (fun _=>(⟨bt,⟨0,t0.fV 0⟩,[],none,0,0,0,C0⟩:TB)) (0:Int).toNat (⟨bt,⟨0,t0.fV 0⟩,[],none,0,0,0,C0⟩:TB)⟩:KC) ob mb (⟨bt,⟨0,t0.fV 0⟩,[],none,0,0,0,C0⟩:TB) rfl rfl _ rfl];rfl
set_option maxHeartbeats 16000000 in
def ZY(a:KA)(b:KZ)(c:KC)(N:Nat)(T:Int)(ho:a.Ok T)(hc:cI a c N T)(hT:T<=800000)(n:Int):Spec Tryz.prog 14 [ay b.kb 0 0,iI n,.bool false] (cV a b c []) (fun v H1=>v= .tuple #[iI (a.mr n false),ax 102 (a.lP n false)]/\∃ c1:KC,cI (a.hQ n false) c1 (N+1) (T+20)/\H1=(cV (a.hQ n false) b c1 [])):=by
 refine Spec.go 177 [0,1,2,6,7,8,9,10,11,12,13,14,16,24,37,41,59,65,132,133,134,137] [(22,0)] Tryz.func14 fun W=> ?_;refine ca (ek b.kb (kp a b c) n) .h1 ?_;rintro _ _ ⟨⟨hl,rfl⟩ | ⟨hl,rfl⟩,rfl⟩
 ·obtain⟨jx,gn⟩:=bE hl;have hl:a.aB n=0:=hl;have gn:(a.u n).st=1:=gn;have kX:=om a b c (n:=n);apply gO;refine lp (σ:=Int) (fun ch=>(20-ch).toNat) (fun ch=>(0<=ch/\ch<=20)/\∀ j:Int,0<=j->j<ch->(a.u j).st≠0) (fun ch=>[(10,iI ch),(0,ay b.kb 0 0),(1,iI n),(2,.bool false),(8,ay b.kb 0 (0+0+n.toNat*22))]) (fun ch=>XM W (bX (cV a b c [])) (cV a b c [])) (0) ?_ S5 (xq (pz 17)) ?_
  ·grind
  intro ch Ij;have aiM:=Ij.1;apply gC;refine sp 28 rfl ?_ ?_<;>intro h1
  ·refine sd (ld .aa (gB _) ?_);refine cd ?_ ?_<;>intro h2
   ·have aiN:(a.u ch).st≠0:=h2;refine sd (ag (ch+1) ?_ ?_ S5 (xq (pz 17)));all_goals grind
   ·have Eh:(a.u ch).st=0:=by
     have h9:=h2;have e9:((kp a b c).u ch).st=(a.u ch).st:=rfl;omega
    refine Hb rfl og (XR.mono (fun _ bJ=>jR (z:=n.toNat) (fh jx) (pk [7,7]) bJ) ?_);refine ld (.t4 .aa) (dm _ og kX) ?_;refine cq (pJ b.bb _ _ _ (a.f n.toNat) (ho.wk.sys.mo n.toNat og)) .h1 ?_;refine rq [0,1,2,3,4,5,6,7,8,9,10] mixed (ld (.t4 .aa) (eA _) (ld (.t4 .aa) (dw _) ?_));refine cq (uS _ _ a.g ho.wk.gI.ok _ _ _ (1000*T) (by have:=ho.wk.T0;omega) ho.wk.gS) (pk [5]) ?_;refine cd ?_ ?_<;>intro h3
    ·have LK:=h3;refine XR.mono (fun _ bJ=>nF (f:=a.f) (z:=n.toNat) (ps:=c.pp) (cs:=c.cc) (mb:=c.mb) (fh jx) (pk [1,1,1,1]) bJ) ?_;refine aW rfl rfl rfl (ah (pk (3::rr 6 2 (rr 10 0 []))) rfl ?_);have hfc:a.free=ch:=KA.p9 ⟨Ij.1.1,og⟩ Eh Ij.2;have hg0:a.gE n≠0:=LK;have e1:a.lP n false=a.gE n:=by unfold KA.lP;rw[if_neg og,if_neg og,if_pos hg0]
     have e2:a.mr n false=0:=by unfold KA.mr;rw[if_neg og]
     have e3:a.hQ n false=a:=by unfold KA.hQ;rw[if_pos og]
     have hce:a.g.aP ((kp a b c).u n).cB 1 (a.f n.toNat).eZ=a.g:=xr hg0;rw[e1,e2,e3];rw[hce];exact⟨rfl,c,hc.up og og,rfl⟩
    ·have ZZ:a.gE n=0:=by
      have h9:=h3;have e9:a.g.cZ (a.u n).cB 1 (a.f n.toNat).eZ=a.gE n:=rfl;have e8:a.g.cZ ((kp a b c).u n).cB 1 (a.f n.toNat).eZ=a.gE n:=rfl;omega
     refine cq (jT b.kb (kp a b c) a.s n) (pk [5,5]) ?_;apply ld .aa (aD.uk _);refine cq (Ig _ _ a.s a.aV ho.wk.sI.D (a.s.bS n).1 ch) (pk [1]) ?_;apply ctG (σ:=Nat×Nat×Option Addr×Nat) (fun _=>True) (fun y=>[(0,ay b.kb 0 0),(8,ay b.kb 0 (0+0+n.toNat*22)),(10,iI ch),(12,iI (a.s.bS n).1),(14,ay y.2.1 0 0)]) (fun y=>XM W (bX (cV a b c [])) [.cells b.kb 0 453 (aD (kp a b c)),.cells b.gb 0 60 (bD (a.gC n)),.cells b.sb 0 158 (Sp.aK (a.s.enter a.aV (a.s.bS n).1 ch).2.2),.cells b.qb 0 2281 (aH c.q),.aQ bW (SC.dg 254 c.q),.cells b.bb 0 577 (dI b.vp (a.v.jl (a.f n.toNat)).ij (a.v.jl (a.f n.toNat)).rf),.cells b.vp 0 71 (Vm.bK (a.v.jl (a.f n.toNat)).bb.fe),.cells (c.mb n.toNat) 0 34 (b7 b.bb (c.pp n.toNat) (Vm.ai (a.f n.toNat).az).length (c.cc n.toNat) (a.f n.toNat).fr fun _=>false),aL (c.pp n.toNat) (c.cc n.toNat) 171 3 (Vm.ai (a.f n.toNat).az).length (fm (Vm.ai (a.f n.toNat).az)),.cells y.1 0 34 (b7 b.bb y.2.2.1 (Vm.ai (a.f n.toNat).az).length y.2.2.2 (a.f n.toNat).fr fun _=>false),aL y.2.2.1 y.2.2.2 171 3 (Vm.ai (a.f n.toNat).az).length (fm (Vm.ai (a.f n.toNat).az)),.dG (ji (iR a) n.toNat) c.mb 34 (cN b.bb a.f c.pp c.cc),.aQ (ji (iR a) n.toNat) (rN 171 a.f c.pp c.cc),.cells b.tb 0 321 (aC c.F),.aQ au (FC.aX 9 c.F),.aQ au (FC.aY 3 c.F),dy c.rp c.rc 3 c.rl,.cells b.pi 0 24 (Tr.bK a.P),.cells b.ob 0 122 (aZ b.tb b.pi (LC (a.u n).fd a.O (0:Int).toNat)),.dG (kz a) (fun z=>(c.t z).b) 4 (cT b.tb c.t),.aQ (kz a) (rT 168 c.t),.cells y.2.1 0 22 (((kp a b c).gF n y.1).cell)])
     ·refine XC.im mixed (f:=23) (l:= #[qF,qF,qF,qF,qF,qF,qF,qF,qF,qF,qF,qF,qF,qF,qF,qF,qF,qF,qF,qF,qF,qF,qF]) rfl rfl XM.kN (XQ.pv (i:=0) rfl kq rfl (V.move rfl) rfl rfl (XQ.pv (i:=1) rfl kq rfl (V.move rfl) rfl rfl (XQ.pv (i:=2) rfl kq rfl (bB rfl) rfl rfl (XQ.pv (i:=3) rfl kq rfl (V.fieldAddr rfl Ip) rfl rfl (XQ.load (i:=4) (.cells _ _ _ _) [22] rfl kq rfl (.ao .aa) (V.load rfl eh (dw _) lq) rfl kq rfl (XQ.pv (i:=5) rfl kq rfl (V.move rfl) rfl rfl (XQ.pv (i:=6) rfl kq rfl (bB rfl) rfl rfl (XQ.pv (i:=7) rfl kq rfl (V.fieldAddr rfl Iq) rfl rfl (XQ.load (i:=8) (.cells _ _ _ _) [9,17,22] rfl kq rfl (.ao .aa) (V.load rfl eh (dm _ og kX) We) rfl kq rfl (XQ.pv (i:=10) rfl kq rfl (V.move rfl) rfl rfl (XQ.pv (i:=11) rfl kq rfl (bB rfl) rfl rfl (XQ.pv (i:=12) rfl kq rfl (V.fieldAddr rfl Po) rfl rfl (XQ.load (i:=13) (.cells _ _ _ _) [22] rfl kq rfl (.ao .aa) (eJ rfl eh (sx _) aa4 Pq) rfl kq rfl (XQ.pv (i:=14) rfl kq rfl (V.move rfl) rfl rfl (XQ.pv (i:=15) rfl kq rfl (bB rfl) rfl rfl (XQ.pv (i:=16) rfl kq rfl (V.fieldAddr rfl Pp) rfl rfl (XQ.jl (i:=9) (j:=21) kq ?_ ?_)))))))))))))))))
      ·apply XS.call (i:=9) rfl rfl rfl (Io b.bb b.vp _ a.v ho.wk.sys.jJ.ok _ _ (a.f n.toNat) (ho.wk.sys.mo n.toNat og)) (pk [9,3,3]) Pn rfl (by rintro _ _ ⟨nb,p1,c1,rfl,rfl⟩;all_goals(intro _ dZ;exact⟨fun _=>fb (.t6 .aa) _ dZ,fun hs=>(hs 9 b8 rfl).elim,fun _=>fb (.t6 .aa) _ dZ,trivial⟩));rintro _ _ ⟨nb,p1,c1,rfl,rfl⟩;apply XQ.jl (i:=17) (j:=21) kq
       ·apply XS.call (i:=17) rfl rfl rfl (vG b.kb (kp a b c) n jx) (pk [6]) GX rfl (by rintro _ _ ⟨bc,rfl,rfl⟩;all_goals(intro _ dZ;exact⟨fun _=>fb (.ao .aa) _ dZ,fun hs=>(hs 9 b8 rfl).elim,fun _=>fb (.ao .aa) _ dZ,trivial⟩));rintro _ _ ⟨bc,rfl,rfl⟩;refine XQ.pv (i:=18) rfl kq rfl (bB rfl) rfl rfl (XQ.load (i:=19) (.cells _ _ _ _) [22] rfl kq rfl .aa (eJ rfl eh (mP _) GW rE) rfl kq rfl (XQ.pv (i:=20) rfl kq rfl (V.build (vs:= #[(0,iI 1),(1,iI n),(2,iI (a.u n).cB),(4,ay nb 0 0),(5,.agg (Sx (a.u n).fd)),(6,.agg (Yx (a.u n).bx.bA))]) rfl (v:=.agg ((kp a b c).gF n nb).cF) (oT n _ nb _ _)) rfl rfl (XQ.bG (i:=21) (z:=(.agg PU.nil.cF)) (m:=22) (C:=PU.nil.cell) rfl kq rfl kq rfl (PU.box PU.nil) rfl (fun _ _ dZ=>⟨fun _=>fb (.ao .aa) _ dZ,fun _=>fb (.t2 .aa) _ dZ,fun hs=>(hs 9 b8 rfl).elim,fun _=>fb (.t2 .aa) _ dZ,trivial⟩) ?_)));intro ba;refine XQ.gi (i:=22) rfl kq rfl rfl rfl .aa (PU.Dm _ _) ⟨rfl,rfl⟩ rF (fun _ dZ=>⟨fun hs=>(hs 22 b8 rfl).elim,fun hs=>(hs 22 b8 rfl).elim,fun hs=>(hs 9 b8 rfl).elim,fun hs=>(hs 22 b8 rfl).elim,trivial⟩) (XQ.done kq (gE (nR ((nb,ba,p1,c1)) ?_ S5 (xq (pk [2,8,7,9,9,2,8,2,2,2,2,2,2,2,2,2,2,2,2,2,2,0])))));trivial
       ·refine XS.bG (i:=21) (z:=(.agg PU.nil.cF)) (m:=22) (C:=PU.nil.cell) rfl rfl kq rfl (PU.box PU.nil) rfl (fun _ _ dZ=>⟨fun _=>fb (.t7 .aa) _ dZ,fun hs=>(hs 9 b8 rfl).elim,fun _=>fb (.t7 .aa) _ dZ,trivial⟩) ?_;intro ba;apply XQ.call (i:=17) rfl kq rfl rfl (vG b.kb (kp a b c) n jx) (pk [7]) GX rfl (by rintro _ _ ⟨bc,rfl,rfl⟩;all_goals(intro _ dZ;exact⟨fun _=>fb (.ao .aa) _ dZ,fun hs=>(hs 9 b8 rfl).elim,fun _=>fb (.ao .aa) _ dZ,trivial⟩));rintro _ _ ⟨bc,rfl,rfl⟩;refine XQ.pv (i:=18) rfl kq rfl (bB rfl) rfl rfl (XQ.load (i:=19) (.cells _ _ _ _) [22] rfl kq rfl .aa (eJ rfl eh (mP _) GW rE) rfl kq rfl (XQ.pv (i:=20) rfl kq rfl (V.build (vs:= #[(0,iI 1),(1,iI n),(2,iI (a.u n).cB),(4,ay nb 0 0),(5,.agg (Sx (a.u n).fd)),(6,.agg (Yx (a.u n).bx.bA))]) rfl (v:=.agg ((kp a b c).gF n nb).cF) (oT n _ nb _ _)) rfl rfl (XQ.gi (i:=22) rfl kq rfl rfl rfl (.t2 .aa) (PU.Dm _ _) ⟨rfl,rfl⟩ rF (fun _ dZ=>⟨fun hs=>(hs 22 b8 rfl).elim,fun hs=>(hs 22 b8 rfl).elim,fun hs=>(hs 9 b8 rfl).elim,fun hs=>(hs 22 b8 rfl).elim,trivial⟩) (XQ.done kq (gE (nR ((nb,ba,p1,c1)) ?_ S5 (xq (pk [1,8,7,9,9,2,8,2,2,2,2,2,2,2,2,2,2,2,2,2,2,1]))))))));trivial
      ·refine XS.bG (i:=21) (z:=(.agg PU.nil.cF)) (m:=22) (C:=PU.nil.cell) rfl rfl kq rfl (PU.box PU.nil) rfl (fun _ _ dZ=>⟨fun _=>fb (.t2 .aa) _ dZ,fun _=>fb (.t2 .aa) _ dZ,fun _=>fb (.t2 .aa) _ dZ,trivial⟩) ?_;intro ba;apply XQ.call (i:=9) rfl kq rfl rfl (Io b.bb b.vp _ a.v ho.wk.sys.jJ.ok _ _ (a.f n.toNat) (ho.wk.sys.mo n.toNat og)) (pk [10,4,4]) Pn rfl (by rintro _ _ ⟨nb,p1,c1,rfl,rfl⟩;all_goals(intro _ dZ;exact⟨fun _=>fb (.t7 .aa) _ dZ,fun hs=>(hs 9 b8 rfl).elim,fun _=>fb (.t7 .aa) _ dZ,trivial⟩));rintro _ _ ⟨nb,p1,c1,rfl,rfl⟩;apply XQ.call (i:=17) rfl kq rfl rfl (vG b.kb (kp a b c) n jx) (pk [7]) GX rfl (by rintro _ _ ⟨bc,rfl,rfl⟩;all_goals(intro _ dZ;exact⟨fun _=>fb (.ao .aa) _ dZ,fun hs=>(hs 9 b8 rfl).elim,fun _=>fb (.ao .aa) _ dZ,trivial⟩));rintro _ _ ⟨bc,rfl,rfl⟩;refine XQ.pv (i:=18) rfl kq rfl (bB rfl) rfl rfl (XQ.load (i:=19) (.cells _ _ _ _) [22] rfl kq rfl .aa (eJ rfl eh (mP _) GW rE) rfl kq rfl (XQ.pv (i:=20) rfl kq rfl (V.build (vs:= #[(0,iI 1),(1,iI n),(2,iI (a.u n).cB),(4,ay nb 0 0),(5,.agg (Sx (a.u n).fd)),(6,.agg (Yx (a.u n).bx.bA))]) rfl (v:=.agg ((kp a b c).gF n nb).cF) (oT n _ nb _ _)) rfl rfl (XQ.gi (i:=22) rfl kq rfl rfl rfl (.t7 .aa) (PU.Dm _ _) ⟨rfl,rfl⟩ rF (fun _ dZ=>⟨fun hs=>(hs 22 b8 rfl).elim,fun hs=>(hs 22 b8 rfl).elim,fun hs=>(hs 9 b8 rfl).elim,fun hs=>(hs 22 b8 rfl).elim,trivial⟩) (XQ.done kq (gE (nR ((nb,ba,p1,c1)) ?_ S5 (xq (pk [1,8,7,9,9,1,8,1,1,1,1,2,2,2,2,2,2,2,2,2,2,1]))))))));trivial
     intro y hy;apply gC;apply lW (.ov (.t9 .aa)) (UK _);refine lp (σ:=Int) (fun i=>(6-i).toNat) (fun i=>0<=i/\i<=6) (fun i=>[(133,iI i),(0,ay b.kb 0 0),(8,ay b.kb 0 (0+0+n.toNat*22)),(10,iI ch),(12,iI (a.s.bS n).1),(14,ay y.2.1 0 0),(132,.agg (Sx (a.u n).fd))]) (fun i=>XM W (bX (cV a b c [])) [.cells b.kb 0 453 (aD (kp a b c)),.cells b.gb 0 60 (bD (a.gC n)),.cells b.sb 0 158 (Sp.aK (a.s.enter a.aV (a.s.bS n).1 ch).2.2),.cells b.qb 0 2281 (aH c.q),.aQ bW (SC.dg 254 c.q),.cells b.bb 0 577 (dI b.vp (a.v.jl (a.f n.toNat)).ij (a.v.jl (a.f n.toNat)).rf),.cells b.vp 0 71 (Vm.bK (a.v.jl (a.f n.toNat)).bb.fe),.cells (c.mb n.toNat) 0 34 (b7 b.bb (c.pp n.toNat) (Vm.ai (a.f n.toNat).az).length (c.cc n.toNat) (a.f n.toNat).fr fun _=>false),aL (c.pp n.toNat) (c.cc n.toNat) 171 3 (Vm.ai (a.f n.toNat).az).length (fm (Vm.ai (a.f n.toNat).az)),.cells y.1 0 34 (b7 b.bb y.2.2.1 (Vm.ai (a.f n.toNat).az).length y.2.2.2 (a.f n.toNat).fr fun _=>false),aL y.2.2.1 y.2.2.2 171 3 (Vm.ai (a.f n.toNat).az).length (fm (Vm.ai (a.f n.toNat).az)),.dG (ji (iR a) n.toNat) c.mb 34 (cN b.bb a.f c.pp c.cc),.aQ (ji (iR a) n.toNat) (rN 171 a.f c.pp c.cc),.cells b.tb 0 321 (aC c.F),.aQ au (FC.aX 9 c.F),.aQ au (FC.aY 3 c.F),dy c.rp c.rc 3 c.rl,.cells b.pi 0 24 (Tr.bK a.P),.cells b.ob 0 122 (aZ b.tb b.pi (LC (a.u n).fd a.O i.toNat)),.dG (kz a) (fun z=>(c.t z).b) 4 (cT b.tb c.t),.aQ (kz a) (rT 168 c.t),.cells y.2.1 0 22 (((kp a b c).gF n y.1).cell)]) (0) ?_ (.cons rfl S6) (xq (pz 22)) ?_
     ·omega
     intro i hi;have aiP:=ho.wk.fd n i;apply gC;refine cd ?_ ?_<;>intro h4
     ·refine XO.v (lJ rfl rfl Tryz.underlying83 ot lq) rfl (gO ?_);refine cd ?_ ?_<;>intro h5
      ·have h26:(a.u n).fd i>0:=h5;refine ld .aa (gN _) (sd ?_);refine cq (It _ _ _ _ _ (T+6) og ((Cf (f:=(a.u n).fd) ho.wk.OI i.toNat).mono og) _) (pk [18]) ?_;refine sd (ag (i+1) ?_ ?_ (.cons rfl S6) fun _ mw=>by rw[OQ _ hi.1 h26];exact XM.pick (pk [1,1,1,1,1,1,1,1,1,1,1,1,1,1,1,1,1,1,0,0,0,0]) mw);all_goals omega
      ·have h26:¬(a.u n).fd i>0:=h5;refine sd (ag (i+1) ?_ ?_ (.cons rfl S6) fun _ mw=>by rw[KT _ hi.1 h26];exact XM.pick (pz 22) mw);all_goals omega
     ·refine rq [0,1,2,3,4,5,6] mixed (lW (.ov (.t9 .aa)) (PU.agg _) (sd (fW .aa (aD.Dm _ og _) rfl ⟨rfl,rfl⟩ (rq [0,1,2,3,4,5,6,7,8,9] mixed (ld .aa (eB _) (ld .aa (dw _) ?_))))));refine ca (AQ _ _ c.q c.d hc.qO.eG hc.qR ch _ 100) (pk [3,3]) ?_;rintro _ _ ⟨rfl,q1,LF,Eu,rfl⟩;obtain⟨d1,WW⟩:∃ d1,q1.toSF.Ok d1 (N+1) N:=by rw[LF];exact hc.qO.te og _ _ _
      apply gO;apply ld (.t2 .aa) (eB _);refine ca (Il _ _ q1 d1 WW.eG Eu ch true) (pz 2) ?_;rintro _ _ ⟨rfl,q2,tu,zp,rfl⟩;have adV:q2.toSF.Ok d1 (N+1) N:=by rw[tu];exact WW.gq _ _
      apply gO;apply ld (.t2 .aa) (aD.uk _);refine cq (O7 _ _ (a.s.enter a.aV (a.s.bS n).1 ch).2.2 _ _) (pk [4]) ?_;refine XR.mono (fun _ bJ=>mf (f:=a.f) (a.f n.toNat).bare (fh jx) (pk [7,7,9,9]) bJ) ?_;refine XR.mono (fun _ bJ=>B5 (a.f n.toNat).bare (Vz ⟨Ij.1.1,og⟩ Eh) (pk [9,9,0,0]) bJ) ?_;refine aW rfl rfl rfl (ah (pk (5::5::2::2::2::2::2::rr 10 0 [])) rfl ?_);have hi6:i=6:=og;subst hi6;have hfc:a.free=ch:=KA.p9 ⟨Ij.1.1,og⟩ Eh Ij.2;subst hfc;have hI:=ho.wk.fkI (n:=n) (bH:=false) (SS.Inv.gh ho.wk.sI ho.r0.loc) hl og rfl;have hg0:a.gE n=0:=ZZ;have e1:a.lP n false=0:=by unfold KA.lP;rw[if_neg og,if_neg og,if_neg og];rfl
      have e2:a.mr n false=((a.dU n false).s.jB a.free (a.sz n)).1:=by unfold KA.mr;rw[if_pos e1]
      have e3:a.hQ n false=a.dU n false:=by unfold KA.hQ;rw[if_neg og,if_neg (by exact fun q=>q rfl)]
      have e4:((a.dU n false).s.jB a.free (a.sz n)).2=0:=hI.jB.1;have BA:cI (a.dU n false) {c with mb:=bu c.mb a.free.toNat y.1,pp:=bu (bu c.pp n.toNat (c.pp n.toNat)) a.free.toNat y.2.2.1,cc:=bu (bu c.cc n.toNat (c.cc n.toNat)) a.free.toNat y.2.2.2,q:=q2,d:=d1} (N+1) (T+20):=by
       refine⟨adV.mono (Nat.le_refl _) og,zp,FF.Ok.up hc.F og,hc.rp,hc.rc,hc.rl,fun z h0 h1 h2=>hc.tb z h0 h1 (by rwa[hI.D5]at h2),hc.VA hI LF tu⟩
      rw[e1,e2,e3];refine⟨?_,_,BA,?_⟩
      ·rw[<-e4];rfl
      ·try unfold cV
       rw[OT (c':= {c with mb:=bu c.mb a.free.toNat y.1,pp:=bu (bu c.pp n.toNat (c.pp n.toNat)) a.free.toNat y.2.2.1,cc:=bu (bu c.cc n.toNat (c.cc n.toNat)) a.free.toNat y.2.2.2,q:=q2,d:=d1}) ho.wk hI rfl rfl ⟨⟨rfl,rfl,rfl,rfl⟩,rfl,rfl,rfl⟩ (by show _=(fun z=>if(a.dU n false).s.aa z then ay (c.t z.toNat).b 0 0 else .pointer none);rw[hI.D5];rfl),KW hI,Vy hI];rfl
  ·refine XF rfl og (aW rfl rfl rfl (ah (pz 17) rfl ?_));try dsimp only[aS,aR,bI,bN]
   grind [KA.Cb,KA.lP,KA.mr,KA.hQ,cI.up,ax]
 ·have hl:a.aB n≠0:=hl;have iJ:(kp a b c).aB n=a.aB n:=rfl;rw[iJ];apply gO;refine er (pz 17) ?_;grind [aS,aR,bN,KA.lP,KA.mr,KA.hQ,aJ,cI.up]
theorem Sj{a:KA}{b:KZ}{n:Int}(hI:a.Gz n true)(vS:(a.s.add a.aV (a.s.bS n).1).2.1=0)(hh:a.s.aa 0=true)(c c':KC){x:TB}(hc:c'.t=bu c.t (a.s.add a.aV (a.s.bS n).1).1.toNat x):ad (kp a b c).ms (a.s.add a.aV (a.s.bS n).1).1 (ay x.b 0 0)=(kp (a.dU n true) b c').ms:=by
 have h1:=xt vS;show _=fun z=>if(a.dU n true).s.aa z then ay (c'.t z.toNat).b 0 0 else .pointer none
 rw[hI.D5,hc];have h2:(a.sA n true).aa=ad a.s.aa (a.s.add a.aV (a.s.bS n).1).1 true:=h1.2.2;rw[h2];funext z;by_cases e:z=(a.s.add a.aV (a.s.bS n).1).1
 ·grind [bu,ad]
 grind [bu,ad,kp]
set_option maxHeartbeats 16000000 in
def Z0(a:KA)(b:KZ)(c:KC)(N:Nat)(T:Int)(ho:a.Ok T)(hc:cI a c N T)(hT:T<=800000)(n:Int):Spec Tryz.prog 14 [ay b.kb 0 0,iI n,.bool true] (cV a b c []) (fun v H1=>v= .tuple #[iI (a.mr n true),ax 102 (a.lP n true)]/\∃ c1:KC,cI (a.hQ n true) c1 (N+1) (T+20)/\H1=(cV (a.hQ n true) b c1 [])):=by
 refine Spec.go 177 [0,1,2,6,7,8,9,10,11,12,13,14,16,24,37,41,59,65,76,132,133,134,137] [(22,0)] Tryz.func14 fun W=> ?_;refine ca (ek b.kb (kp a b c) n) .h1 ?_;rintro _ _ ⟨⟨hl,rfl⟩ | ⟨hl,rfl⟩,rfl⟩
 ·obtain⟨jx,gn⟩:=bE hl;have hl:a.aB n=0:=hl;have gn:(a.u n).st=1:=gn;have kX:=om a b c (n:=n);apply gO;refine lp (σ:=Int) (fun ch=>(20-ch).toNat) (fun ch=>(0<=ch/\ch<=20)/\∀ j:Int,0<=j->j<ch->(a.u j).st≠0) (fun ch=>[(10,iI ch),(0,ay b.kb 0 0),(1,iI n),(2,.bool true),(8,ay b.kb 0 (0+0+n.toNat*22))]) (fun ch=>XM W (bX (cV a b c [])) (cV a b c [])) (0) ?_ S5 (xq (pz 17)) ?_
  ·grind
  intro ch Ij;have aiM:=Ij.1;apply gC;refine sp 28 rfl ?_ ?_<;>intro h1
  ·refine sd (ld .aa (gB _) ?_);refine cd ?_ ?_<;>intro h2
   ·have aiN:(a.u ch).st≠0:=h2;refine sd (ag (ch+1) ?_ ?_ S5 (xq (pz 17)));all_goals grind
   ·have Eh:(a.u ch).st=0:=by
     have h9:=h2;have e9:((kp a b c).u ch).st=(a.u ch).st:=rfl;omega
    refine Hb rfl og (XR.mono (fun _ bJ=>jR (z:=n.toNat) (fh jx) (pk [7,7]) bJ) ?_);refine ld (.t4 .aa) (dm _ og kX) ?_;refine cq (pJ b.bb _ _ _ (a.f n.toNat) (ho.wk.sys.mo n.toNat og)) .h1 ?_;refine rq [0,1,2,3,4,5,6,7,8,9,10] mixed (ld (.t4 .aa) (eA _) (ld (.t4 .aa) (dw _) ?_));refine cq (uS _ _ a.g ho.wk.gI.ok _ _ _ (1000*T) (by have:=ho.wk.T0;omega) ho.wk.gS) (pk [5]) ?_;refine cd ?_ ?_<;>intro h3
    ·have LK:=h3;refine XR.mono (fun _ bJ=>nF (f:=a.f) (z:=n.toNat) (ps:=c.pp) (cs:=c.cc) (mb:=c.mb) (fh jx) (pk [1,1,1,1]) bJ) ?_;refine aW rfl rfl rfl (ah (pk (3::rr 6 2 (rr 10 0 []))) rfl ?_);have hfc:a.free=ch:=KA.p9 ⟨Ij.1.1,og⟩ Eh Ij.2;have hg0:a.gE n≠0:=LK;have e1:a.lP n true=a.gE n:=by unfold KA.lP;rw[if_neg og,if_neg og,if_pos hg0]
     have e2:a.mr n true=0:=by unfold KA.mr;rw[if_neg og]
     have e3:a.hQ n true=a:=by unfold KA.hQ;rw[if_pos og]
     have hce:a.g.aP ((kp a b c).u n).cB 1 (a.f n.toNat).eZ=a.g:=xr hg0;rw[e1,e2,e3];rw[hce];exact⟨rfl,c,hc.up og og,rfl⟩
    ·have ZZ:a.gE n=0:=by
      have h9:=h3;have e9:a.g.cZ (a.u n).cB 1 (a.f n.toNat).eZ=a.gE n:=rfl;have e8:a.g.cZ ((kp a b c).u n).cB 1 (a.f n.toNat).eZ=a.gE n:=rfl;omega
     refine cq (jT b.kb (kp a b c) a.s n) (pk [5,5]) ?_;apply ld .aa (aD.uk _);refine cq (afL _ _ a.s a.aV ho.wk.sI.D ho.wk.sI.A (a.s.bS n).1) (pk [1]) ?_;refine cd ?_ ?_<;>intro h4
     ·have vS:(a.s.add a.aV (a.s.bS n).1).2.1≠0:=h4;refine rq [0,1,2,3,4,5,6,7,8,9] mixed (ld (.ao .aa) (eA _) (ld (.ao .aa) (dw _) ?_));refine cq (nf _ _ (a.gC n) (ho.wk.gI.aP _ _ _).ok _ _ _ (1000*T+320) (by have:=ho.wk.T0;omega) (ho.wk.gS.aP ho.wk.gI.ok _ _ _)) (pk [2]) ?_;refine XR.mono (fun _ bJ=>nF (f:=a.f) (z:=n.toNat) (ps:=c.pp) (cs:=c.cc) (mb:=c.mb) (fh jx) (pk [3,3,3,3]) bJ) ?_;refine aW rfl rfl rfl (ah (pk (4::rr 6 2 (rr 10 0 []))) rfl ?_);have hg0:a.gE n=0:=ZZ;have hfc:a.free=ch:=KA.p9 ⟨Ij.1.1,og⟩ Eh Ij.2;have e1:a.lP n true=(a.s.add a.aV (a.s.bS n).1).2.1:=by unfold KA.lP;rw[if_neg og,if_neg og,if_neg og];show a.inE n true=_;rw[show a.inE n true=(a.s.add a.aV (a.s.bS n).1).2.1 from rfl]
      have e2:a.mr n true=0:=by unfold KA.mr;rw[if_neg og]
      have e3:a.hQ n true= {a with g:=(a.gC n).cR (a.u n).cB 1 (a.eZ n)} :=by unfold KA.hQ;rw[if_neg og,if_pos (by exact vS)]
      have hse:(a.s.add a.aV (a.s.bS n).1).2.2=a.s:=by
       rcases a.s.qY a.aV (a.s.bS n).1 with⟨_,_,q⟩ | ⟨k,_,_,_,_,q5⟩;all_goals simp_all
      rw[e1,e2,e3,hse];exact⟨rfl,c,⟨hc.qO.mono og og,hc.qR,FF.Ok.up hc.F og,hc.rp,hc.rc,hc.rl,hc.tb,hc.tk⟩,rfl⟩
     ·have vS:(a.s.add a.aV (a.s.bS n).1).2.1=0:=by
       omega
      have hfc:a.free=ch:=KA.p9 ⟨Ij.1.1,og⟩ Eh Ij.2;have hI:=ho.wk.fkI (n:=n) (bH:=true) (SS.Inv.gh ho.wk.sI ho.r0.loc) hl og vS;have Z1:(0<=(a.s.bS n).1/\(a.s.bS n).1<6)/\a.s.aa (a.s.bS n).1=true:=⟨⟨hI.z.1,hI.z.2.1⟩,hI.z.2.2⟩;have iG:=hc.tb _ Z1.1.1 Z1.1.2 Z1.2;have hnz:=xt vS;refine XR.mono (fun _ bJ=>gT (z:=(a.s.bS n).1.toNat) (dY Z1.1 Z1.2) (pk [17,17]) bJ) ?_;refine rq [0,1,2,3,4,5,6,7,9,10,8,11,12] mixed (sd (ld (.t5 .aa) (sG _ Z1.1 (Vp a b c Z1.2)) ?_));refine ca (adA _ _ _ _ _ _ _ _ _ iG.rv iG.mc iG.len c.F c.dF T hc.F og) (pk [0,0,13,13,13]) ?_;rintro _ _ ⟨Pv,p2,wD,k2,c2,C2,F1,rfl,W3,hC2,NH,Pw,Sy,Eu,rfl⟩;apply gO;refine sd (st (.XJ .aa) (uo _ hnz.1 _) rfl (XR.mono (fun _ bJ=>gQ (z:=(a.s.bS n).1.toNat) (dY Z1.1 Z1.2) (pk [2,2,5,5]) bJ) ?_));refine XR.mono (fun _ bJ=>HY (z:=(a.s.add a.aV (a.s.bS n).1).1.toNat) ⟨Pv,(c.t (a.s.bS n).1.toNat).r,(c.t (a.s.bS n).1.toNat).l,p2,wD,k2,c2,C2⟩ (acI hnz.1 hnz.2.1) (pk [2,2,0,0]) bJ) ?_;refine ld (.t6 .aa) (aD.uk _) ?_;refine cq (Ig _ _ (a.s.add a.aV (a.s.bS n).1).2.2 (a.dA n true) hI.eG.D (a.s.add a.aV (a.s.bS n).1).1 ch) (pk [5]) ?_;apply ctG (σ:=Nat×Nat×Option Addr×Nat×Nat×TB×FC) (fun y=>y.2.2.2.2.2.2.toFF.Ok c.dF (T+13)/\y.2.2.2.2.2.2.rP=c.F.rP/\y.2.2.2.2.2.2.rC=c.F.rC/\y.2.2.2.2.2.2.roots=c.F.roots/\y.2.2.2.2.2.1.Ok) (fun y=>[(0,ay b.kb 0 0),(8,ay b.kb 0 (0+0+n.toNat*22)),(10,iI ch),(12,iI (a.s.bS n).1),(14,ay y.2.1 0 0)]) (fun y=>XM W (bX (cV a b c [])) [.cells b.kb 0 453 (aD ({kp a b c with ms:=ad (kp a b c).ms (a.s.add a.aV (a.s.bS n).1).1 (ay y.2.2.2.2.2.1.b 0 0)} :KP)),.cells b.gb 0 60 (bD (a.gC n)),.cells b.sb 0 158 (Sp.aK ((a.s.add a.aV (a.s.bS n).1).2.2.enter (a.dA n true) (a.s.add a.aV (a.s.bS n).1).1 ch).2.2),.cells b.qb 0 2281 (aH c.q),.aQ bW (SC.dg 254 c.q),.cells b.bb 0 577 (dI b.vp (a.v.jl (a.f n.toNat)).ij (a.v.jl (a.f n.toNat)).rf),.cells b.vp 0 71 (Vm.bK (a.v.jl (a.f n.toNat)).bb.fe),.cells (c.mb n.toNat) 0 34 (b7 b.bb (c.pp n.toNat) (Vm.ai (a.f n.toNat).az).length (c.cc n.toNat) (a.f n.toNat).fr fun _=>false),aL (c.pp n.toNat) (c.cc n.toNat) 171 3 (Vm.ai (a.f n.toNat).az).length (fm (Vm.ai (a.f n.toNat).az)),.cells y.1 0 34 (b7 b.bb y.2.2.1 (Vm.ai (a.f n.toNat).az).length y.2.2.2.1 (a.f n.toNat).fr fun _=>false),aL y.2.2.1 y.2.2.2.1 171 3 (Vm.ai (a.f n.toNat).az).length (fm (Vm.ai (a.f n.toNat).az)),.dG (ji (iR a) n.toNat) c.mb 34 (cN b.bb a.f c.pp c.cc),.aQ (ji (iR a) n.toNat) (rN 171 a.f c.pp c.cc),.cells b.tb 0 321 (aC y.2.2.2.2.2.2),.aQ au (FC.aX 9 y.2.2.2.2.2.2),.aQ au (FC.aY 3 y.2.2.2.2.2.2),dy c.rp c.rc 3 c.rl,.cells b.pi 0 24 (Tr.bK a.P),.cells b.ob 0 122 (aZ b.tb b.pi (LC (a.u n).fd a.O (0:Int).toNat)),.dG (Fz (kz a) (a.s.add a.aV (a.s.bS n).1).1.toNat) (fun z=>((bu c.t (a.s.add a.aV (a.s.bS n).1).1.toNat y.2.2.2.2.2.1) z).b) 4 (cT b.tb (bu c.t (a.s.add a.aV (a.s.bS n).1).1.toNat y.2.2.2.2.2.1)),.aQ (Fz (kz a) (a.s.add a.aV (a.s.bS n).1).1.toNat) (rT 168 (bu c.t (a.s.add a.aV (a.s.bS n).1).1.toNat y.2.2.2.2.2.1)),.cells y.2.1 0 22 (((kp a b c).gF n y.1).cell)])
      ·refine XC.im mixed (f:=23) (l:= #[qF,qF,qF,qF,qF,qF,qF,qF,qF,qF,qF,qF,qF,qF,qF,qF,qF,qF,qF,qF,qF,qF,qF]) rfl rfl XM.kN (XQ.pv (i:=0) rfl kq rfl (V.move rfl) rfl rfl (XQ.pv (i:=1) rfl kq rfl (V.move rfl) rfl rfl (XQ.pv (i:=2) rfl kq rfl (bB rfl) rfl rfl (XQ.pv (i:=3) rfl kq rfl (V.fieldAddr rfl Ip) rfl rfl (XQ.load (i:=4) (.cells _ _ _ _) [22] rfl kq rfl (.t6 .aa) (V.load rfl eh (dw _) lq) rfl kq rfl (XQ.pv (i:=5) rfl kq rfl (V.move rfl) rfl rfl (XQ.pv (i:=6) rfl kq rfl (bB rfl) rfl rfl (XQ.pv (i:=7) rfl kq rfl (V.fieldAddr rfl Iq) rfl rfl (XQ.load (i:=8) (.cells _ _ _ _) [9,17,22] rfl kq rfl (.t6 .aa) (V.load rfl eh (dm _ og kX) We) rfl kq rfl (XQ.pv (i:=10) rfl kq rfl (V.move rfl) rfl rfl (XQ.pv (i:=11) rfl kq rfl (bB rfl) rfl rfl (XQ.pv (i:=12) rfl kq rfl (V.fieldAddr rfl Po) rfl rfl (XQ.load (i:=13) (.cells _ _ _ _) [22] rfl kq rfl (.t6 .aa) (eJ rfl eh (sx _) aa4 Pq) rfl kq rfl (XQ.pv (i:=14) rfl kq rfl (V.move rfl) rfl rfl (XQ.pv (i:=15) rfl kq rfl (bB rfl) rfl rfl (XQ.pv (i:=16) rfl kq rfl (V.fieldAddr rfl Pp) rfl rfl (XQ.jl (i:=9) (j:=21) kq ?_ ?_)))))))))))))))))
       ·apply XS.call (i:=9) rfl rfl rfl (Io b.bb b.vp _ a.v ho.wk.sys.jJ.ok _ _ (a.f n.toNat) (ho.wk.sys.mo n.toNat og)) (pk [14,8,8]) Pn rfl (by rintro _ _ ⟨nb,p1,c1,rfl,rfl⟩;all_goals(intro _ dZ;exact⟨fun _=>fb (.t11 .aa) _ dZ,fun hs=>(hs 9 b8 rfl).elim,fun _=>fb (.t11 .aa) _ dZ,trivial⟩));rintro _ _ ⟨nb,p1,c1,rfl,rfl⟩;apply XQ.jl (i:=17) (j:=21) kq
        ·apply XS.call (i:=17) rfl rfl rfl (vG b.kb ({kp a b c with ms:=ad (kp a b c).ms (a.s.add a.aV (a.s.bS n).1).1 (ay Pv 0 0)} :KP) n jx) (pk [11]) GX rfl (by rintro _ _ ⟨bc,rfl,rfl⟩;all_goals(intro _ dZ;exact⟨fun _=>fb (.ao .aa) _ dZ,fun hs=>(hs 9 b8 rfl).elim,fun _=>fb (.ao .aa) _ dZ,trivial⟩));rintro _ _ ⟨bc,rfl,rfl⟩;refine XQ.pv (i:=18) rfl kq rfl (bB rfl) rfl rfl (XQ.load (i:=19) (.cells _ _ _ _) [22] rfl kq rfl .aa (eJ rfl eh (mP _) GW rE) rfl kq rfl (XQ.pv (i:=20) rfl kq rfl (V.build (vs:= #[(0,iI 1),(1,iI n),(2,iI (a.u n).cB),(4,ay nb 0 0),(5,.agg (Sx (a.u n).fd)),(6,.agg (Yx (a.u n).bx.bA))]) rfl (v:=.agg ((kp a b c).gF n nb).cF) (oT n _ nb _ _)) rfl rfl (XQ.bG (i:=21) (z:=(.agg PU.nil.cF)) (m:=22) (C:=PU.nil.cell) rfl kq rfl kq rfl (PU.box PU.nil) rfl (fun _ _ dZ=>⟨fun _=>fb (.ao .aa) _ dZ,fun _=>fb (.t2 .aa) _ dZ,fun hs=>(hs 9 b8 rfl).elim,fun _=>fb (.t2 .aa) _ dZ,trivial⟩) ?_)));intro ba;refine XQ.gi (i:=22) rfl kq rfl rfl rfl .aa (PU.Dm _ _) ⟨rfl,rfl⟩ rF (fun _ dZ=>⟨fun hs=>(hs 22 b8 rfl).elim,fun hs=>(hs 22 b8 rfl).elim,fun hs=>(hs 9 b8 rfl).elim,fun hs=>(hs 22 b8 rfl).elim,trivial⟩) (XQ.done kq (gE (nR ((nb,ba,p1,c1,0,⟨Pv,(c.t (a.s.bS n).1.toNat).r,(c.t (a.s.bS n).1.toNat).l,p2,wD,k2,c2,C2⟩,F1)) ?_ S5 (xq (pk [2,13,7,14,14,2,13,2,2,2,2,7,7,4,4,4,4,4,4,2,2,0])))));exact⟨Pw,Sy,Eu,(by show F1.toFF.roots=_;rw[NH,sK]),⟨W3,hC2,iG.len⟩⟩
        ·refine XS.bG (i:=21) (z:=(.agg PU.nil.cF)) (m:=22) (C:=PU.nil.cell) rfl rfl kq rfl (PU.box PU.nil) rfl (fun _ _ dZ=>⟨fun _=>fb (.ov .aa) _ dZ,fun hs=>(hs 9 b8 rfl).elim,fun _=>fb (.ov .aa) _ dZ,trivial⟩) ?_;intro ba;apply XQ.call (i:=17) rfl kq rfl rfl (vG b.kb ({kp a b c with ms:=ad (kp a b c).ms (a.s.add a.aV (a.s.bS n).1).1 (ay Pv 0 0)} :KP) n jx) (pk [12]) GX rfl (by rintro _ _ ⟨bc,rfl,rfl⟩;all_goals(intro _ dZ;exact⟨fun _=>fb (.ao .aa) _ dZ,fun hs=>(hs 9 b8 rfl).elim,fun _=>fb (.ao .aa) _ dZ,trivial⟩));rintro _ _ ⟨bc,rfl,rfl⟩;refine XQ.pv (i:=18) rfl kq rfl (bB rfl) rfl rfl (XQ.load (i:=19) (.cells _ _ _ _) [22] rfl kq rfl .aa (eJ rfl eh (mP _) GW rE) rfl kq rfl (XQ.pv (i:=20) rfl kq rfl (V.build (vs:= #[(0,iI 1),(1,iI n),(2,iI (a.u n).cB),(4,ay nb 0 0),(5,.agg (Sx (a.u n).fd)),(6,.agg (Yx (a.u n).bx.bA))]) rfl (v:=.agg ((kp a b c).gF n nb).cF) (oT n _ nb _ _)) rfl rfl (XQ.gi (i:=22) rfl kq rfl rfl rfl (.t2 .aa) (PU.Dm _ _) ⟨rfl,rfl⟩ rF (fun _ dZ=>⟨fun hs=>(hs 22 b8 rfl).elim,fun hs=>(hs 22 b8 rfl).elim,fun hs=>(hs 9 b8 rfl).elim,fun hs=>(hs 22 b8 rfl).elim,trivial⟩) (XQ.done kq (gE (nR ((nb,ba,p1,c1,0,⟨Pv,(c.t (a.s.bS n).1.toNat).r,(c.t (a.s.bS n).1.toNat).l,p2,wD,k2,c2,C2⟩,F1)) ?_ S5 (xq (pk [1,13,7,14,14,2,13,2,2,2,2,7,7,4,4,4,4,4,4,2,2,1]))))))));exact⟨Pw,Sy,Eu,(by show F1.toFF.roots=_;rw[NH,sK]),⟨W3,hC2,iG.len⟩⟩
       ·refine XS.bG (i:=21) (z:=(.agg PU.nil.cF)) (m:=22) (C:=PU.nil.cell) rfl rfl kq rfl (PU.box PU.nil) rfl (fun _ _ dZ=>⟨fun _=>fb (.t7 .aa) _ dZ,fun _=>fb (.t7 .aa) _ dZ,fun _=>fb (.t7 .aa) _ dZ,trivial⟩) ?_;intro ba;apply XQ.call (i:=9) rfl kq rfl rfl (Io b.bb b.vp _ a.v ho.wk.sys.jJ.ok _ _ (a.f n.toNat) (ho.wk.sys.mo n.toNat og)) (pk [15,9,9]) Pn rfl (by rintro _ _ ⟨nb,p1,c1,rfl,rfl⟩;all_goals(intro _ dZ;exact⟨fun _=>fb (.ov .aa) _ dZ,fun hs=>(hs 9 b8 rfl).elim,fun _=>fb (.ov .aa) _ dZ,trivial⟩));rintro _ _ ⟨nb,p1,c1,rfl,rfl⟩;apply XQ.call (i:=17) rfl kq rfl rfl (vG b.kb ({kp a b c with ms:=ad (kp a b c).ms (a.s.add a.aV (a.s.bS n).1).1 (ay Pv 0 0)} :KP) n jx) (pk [12]) GX rfl (by rintro _ _ ⟨bc,rfl,rfl⟩;all_goals(intro _ dZ;exact⟨fun _=>fb (.ao .aa) _ dZ,fun hs=>(hs 9 b8 rfl).elim,fun _=>fb (.ao .aa) _ dZ,trivial⟩));rintro _ _ ⟨bc,rfl,rfl⟩;refine XQ.pv (i:=18) rfl kq rfl (bB rfl) rfl rfl (XQ.load (i:=19) (.cells _ _ _ _) [22] rfl kq rfl .aa (eJ rfl eh (mP _) GW rE) rfl kq rfl (XQ.pv (i:=20) rfl kq rfl (V.build (vs:= #[(0,iI 1),(1,iI n),(2,iI (a.u n).cB),(4,ay nb 0 0),(5,.agg (Sx (a.u n).fd)),(6,.agg (Yx (a.u n).bx.bA))]) rfl (v:=.agg ((kp a b c).gF n nb).cF) (oT n _ nb _ _)) rfl rfl (XQ.gi (i:=22) rfl kq rfl rfl rfl (.t7 .aa) (PU.Dm _ _) ⟨rfl,rfl⟩ rF (fun _ dZ=>⟨fun hs=>(hs 22 b8 rfl).elim,fun hs=>(hs 22 b8 rfl).elim,fun hs=>(hs 9 b8 rfl).elim,fun hs=>(hs 22 b8 rfl).elim,trivial⟩) (XQ.done kq (gE (nR ((nb,ba,p1,c1,0,⟨Pv,(c.t (a.s.bS n).1.toNat).r,(c.t (a.s.bS n).1.toNat).l,p2,wD,k2,c2,C2⟩,F1)) ?_ S5 (xq (pk [1,13,7,14,14,1,13,1,1,1,1,7,7,4,4,4,4,4,4,2,2,1]))))))));exact⟨Pw,Sy,Eu,(by show F1.toFF.roots=_;rw[NH,sK]),⟨W3,hC2,iG.len⟩⟩
      intro y hy;apply gC;apply lW (.ov (.t9 .aa)) (UK _);refine lp (σ:=Int) (fun i=>(6-i).toNat) (fun i=>0<=i/\i<=6) (fun i=>[(133,iI i),(0,ay b.kb 0 0),(8,ay b.kb 0 (0+0+n.toNat*22)),(10,iI ch),(12,iI (a.s.bS n).1),(14,ay y.2.1 0 0),(132,.agg (Sx (a.u n).fd))]) (fun i=>XM W (bX (cV a b c [])) [.cells b.kb 0 453 (aD ({kp a b c with ms:=ad (kp a b c).ms (a.s.add a.aV (a.s.bS n).1).1 (ay y.2.2.2.2.2.1.b 0 0)} :KP)),.cells b.gb 0 60 (bD (a.gC n)),.cells b.sb 0 158 (Sp.aK ((a.s.add a.aV (a.s.bS n).1).2.2.enter (a.dA n true) (a.s.add a.aV (a.s.bS n).1).1 ch).2.2),.cells b.qb 0 2281 (aH c.q),.aQ bW (SC.dg 254 c.q),.cells b.bb 0 577 (dI b.vp (a.v.jl (a.f n.toNat)).ij (a.v.jl (a.f n.toNat)).rf),.cells b.vp 0 71 (Vm.bK (a.v.jl (a.f n.toNat)).bb.fe),.cells (c.mb n.toNat) 0 34 (b7 b.bb (c.pp n.toNat) (Vm.ai (a.f n.toNat).az).length (c.cc n.toNat) (a.f n.toNat).fr fun _=>false),aL (c.pp n.toNat) (c.cc n.toNat) 171 3 (Vm.ai (a.f n.toNat).az).length (fm (Vm.ai (a.f n.toNat).az)),.cells y.1 0 34 (b7 b.bb y.2.2.1 (Vm.ai (a.f n.toNat).az).length y.2.2.2.1 (a.f n.toNat).fr fun _=>false),aL y.2.2.1 y.2.2.2.1 171 3 (Vm.ai (a.f n.toNat).az).length (fm (Vm.ai (a.f n.toNat).az)),.dG (ji (iR a) n.toNat) c.mb 34 (cN b.bb a.f c.pp c.cc),.aQ (ji (iR a) n.toNat) (rN 171 a.f c.pp c.cc),.cells b.tb 0 321 (aC y.2.2.2.2.2.2),.aQ au (FC.aX 9 y.2.2.2.2.2.2),.aQ au (FC.aY 3 y.2.2.2.2.2.2),dy c.rp c.rc 3 c.rl,.cells b.pi 0 24 (Tr.bK a.P),.cells b.ob 0 122 (aZ b.tb b.pi (LC (a.u n).fd a.O i.toNat)),.dG (Fz (kz a) (a.s.add a.aV (a.s.bS n).1).1.toNat) (fun z=>((bu c.t (a.s.add a.aV (a.s.bS n).1).1.toNat y.2.2.2.2.2.1) z).b) 4 (cT b.tb (bu c.t (a.s.add a.aV (a.s.bS n).1).1.toNat y.2.2.2.2.2.1)),.aQ (Fz (kz a) (a.s.add a.aV (a.s.bS n).1).1.toNat) (rT 168 (bu c.t (a.s.add a.aV (a.s.bS n).1).1.toNat y.2.2.2.2.2.1)),.cells y.2.1 0 22 (((kp a b c).gF n y.1).cell)]) (0) ?_ (.cons rfl S6) (xq (pz 22)) ?_
      ·omega
      intro i hi;have aiP:=ho.wk.fd n i;apply gC;refine cd ?_ ?_<;>intro h5
      ·refine XO.v (lJ rfl rfl Tryz.underlying83 ot lq) rfl (gO ?_);refine cd ?_ ?_<;>intro h6
       ·have h26:(a.u n).fd i>0:=h6;refine ld .aa (gN _) (sd ?_);refine cq (It _ _ _ _ _ (T+6) og ((Cf (f:=(a.u n).fd) ho.wk.OI i.toNat).mono og) _) (pk [18]) ?_;refine sd (ag (i+1) ?_ ?_ (.cons rfl S6) fun _ mw=>by rw[OQ _ hi.1 h26];exact XM.pick (pk [1,1,1,1,1,1,1,1,1,1,1,1,1,1,1,1,1,1,0,0,0,0]) mw);all_goals omega
       ·have h26:¬(a.u n).fd i>0:=h6;refine sd (ag (i+1) ?_ ?_ (.cons rfl S6) fun _ mw=>by rw[KT _ hi.1 h26];exact XM.pick (pz 22) mw);all_goals omega
      ·refine rq [0,1,2,3,4,5,6] mixed (lW (.ov (.t9 .aa)) (PU.agg _) (sd (fW .aa (aD.Dm _ og _) rfl ⟨rfl,rfl⟩ (rq [0,1,2,3,4,5,6,7,8,9] mixed (ld .aa (eB _) (ld .aa (dw _) ?_))))));refine ca (AQ _ _ c.q c.d hc.qO.eG hc.qR ch _ 100) (pk [3,3]) ?_;rintro _ _ ⟨rfl,q1,LF,Eu,rfl⟩;obtain⟨d1,WW⟩:∃ d1,q1.toSF.Ok d1 (N+1) N:=by rw[LF];exact hc.qO.te og _ _ _
       apply gO;apply ld (.t2 .aa) (eB _);refine ca (Il _ _ q1 d1 WW.eG Eu ch true) (pz 2) ?_;rintro _ _ ⟨rfl,q2,tu,zp,rfl⟩;have adV:q2.toSF.Ok d1 (N+1) N:=by rw[tu];exact WW.gq _ _
       apply gO;apply ld (.t2 .aa) (aD.uk _);refine cq (O7 _ _ ((a.s.add a.aV (a.s.bS n).1).2.2.enter (a.dA n true) (a.s.add a.aV (a.s.bS n).1).1 ch).2.2 _ _) (pk [4]) ?_;refine XR.mono (fun _ bJ=>mf (f:=a.f) (a.f n.toNat).bare (fh jx) (pk [7,7,9,9]) bJ) ?_;refine XR.mono (fun _ bJ=>B5 (a.f n.toNat).bare (Vz ⟨Ij.1.1,og⟩ Eh) (pk [9,9,0,0]) bJ) ?_;refine aW rfl rfl rfl (ah (pk (5::5::2::2::2::2::2::rr 10 0 [])) rfl ?_);have hi6:i=6:=og;subst hi6;have hfc:a.free=ch:=KA.p9 ⟨Ij.1.1,og⟩ Eh Ij.2;subst hfc;have hg0:a.gE n=0:=ZZ;have e1:a.lP n true=0:=by unfold KA.lP;rw[if_neg og,if_neg og,if_neg og];exact vS
       have e2:a.mr n true=((a.dU n true).s.jB a.free (a.sz n)).1:=by unfold KA.mr;rw[if_pos e1]
       have e3:a.hQ n true=a.dU n true:=by unfold KA.hQ;rw[if_neg og,if_neg (by exact fun q=>q vS)]
       have e4:((a.dU n true).s.jB a.free (a.sz n)).2=0:=hI.jB.1;have BA:cI (a.dU n true) {c with mb:=bu c.mb a.free.toNat y.1,pp:=bu (bu c.pp n.toNat (c.pp n.toNat)) a.free.toNat y.2.2.1,cc:=bu (bu c.cc n.toNat (c.cc n.toNat)) a.free.toNat y.2.2.2.1,q:=q2,d:=d1,F:=y.2.2.2.2.2.2,t:=bu c.t (a.s.add a.aV (a.s.bS n).1).1.toNat y.2.2.2.2.2.1} (N+1) (T+20):=by
        refine⟨adV.mono (Nat.le_refl _) og,zp,FF.Ok.up hy.1 og,hy.2.1.trans hc.rp,hy.2.2.1.trans hc.rc,hy.2.2.2.1.trans hc.rl,fun z h0 h1 h2=> ?_,hc.VA hI LF tu⟩;by_cases ez:z.toNat=(a.s.add a.aV (a.s.bS n).1).1.toNat
        ·grind [lz]
        ·show(bu c.t _ y.2.2.2.2.2.1 z.toNat).Ok;rw[iA _ _ ez];apply hc.tb z h0 h1;rw[hI.D5]at h2;have h2:(a.s.add a.aV (a.s.bS n).1).2.2.aa z=true:=h2;rw[(xt vS).2.2,ae _ _ og]at h2;omega
       rw[e1,e2,e3];refine⟨?_,_,BA,?_⟩
       ·rw[<-e4];rfl
       ·try unfold cV
        rw[OT (c':= {c with mb:=bu c.mb a.free.toNat y.1,pp:=bu (bu c.pp n.toNat (c.pp n.toNat)) a.free.toNat y.2.2.1,cc:=bu (bu c.cc n.toNat (c.cc n.toNat)) a.free.toNat y.2.2.2.1,q:=q2,d:=d1,F:=y.2.2.2.2.2.2,t:=bu c.t (a.s.add a.aV (a.s.bS n).1).1.toNat y.2.2.2.2.2.1}) (K:=({kp a b c with ms:=ad (kp a b c).ms (a.s.add a.aV (a.s.bS n).1).1 (ay y.2.2.2.2.2.1.b 0 0)} :KP)) ho.wk hI rfl rfl ⟨⟨rfl,rfl,rfl,rfl⟩,rfl,rfl,rfl⟩ (Sj hI vS (SS.Inv.gh ho.wk.sI ho.r0.loc) c _ rfl),KW hI,Rr hI vS];rfl
  ·refine XF rfl og (aW rfl rfl rfl (ah (pz 17) rfl ?_));try dsimp only[aS,aR,bI,bN]
   grind [KA.Cb,KA.lP,KA.mr,KA.hQ,cI.up,ax]
 ·have hl:a.aB n≠0:=hl;have iJ:(kp a b c).aB n=a.aB n:=rfl;rw[iJ];apply gO;refine er (pz 17) ?_;grind [aS,aR,bN,KA.lP,KA.mr,KA.hQ,aJ,cI.up]
end Go.X.Kn

namespace Go.X.Kn
open Go Go.Proofs Go.X
set_option maxRecDepth 20000
set_option maxHeartbeats 4000000
def Lr:Spec Tryz.prog 12 [] [] (fun x H1=>∃ (b:KZ) (c:KC),x= .tuple #[ay b.kb 0 0,.bool true]/\c.q.toSF=(Q2.lR dK).2/\c.d=dK/\cI A0 c 1 2/\H1=(cV A0 b c [])):=by
 refine Spec.go 18 [0,1,2,16] [] Tryz.func12 fun W=> ?_;refine ca (adT) .nil ?_;rintro _ _ ⟨b,c,rfl,hq,hd,hc,rfl⟩;apply gO;refine ca (ZW b.kb (kp A0 b c) c.q hq hc.qR) (pk [0,2,2]) ?_;rintro _ _ ⟨rfl,q2,tu,zp,rfl⟩;apply gO;apply spF 11 rfl sq;refine ca (PG b.kb (kp A0 b c)) .h1 ?_;rintro _ _ ⟨pl,cl,rfl,rfl⟩;rw[Lp (VH b c)];apply gO;apply Hb rfl sq;refine aW rfl rfl rfl (ah (pk (1::3::3::rr 14 1 [])) rfl ?_);exact⟨b,{c with q:=q2},rfl,tu,hd,⟨(by show q2.toSF.Ok c.d 1 1;rw[tu,hd];exact aci),zp,hc.F,hc.rp,hc.rc,hc.rl,hc.tb,fun m m0 m1 hm=>hc.tk m m0 m1 (by have hm:q2.toSF.aa (10+m)=true:=hm;rw[tu,Fa.SF.zQ,<-hq]at hm;exact hm)⟩,rfl⟩
def Z2(a:KA)(b:KZ)(c:KC)(N:Nat)(T:Int)(ho:a.Ok T)(hc:cI a c N T)(hT:T<=800000)(n:Int)(o:Bool):Spec Tryz.prog 14 [ay b.kb 0 0,iI n,.bool o] (cV a b c []) (fun v H1=>v= .tuple #[iI (a.mr n o),ax 102 (a.lP n o)]/\∃ c1:KC,cI (a.hQ n o) c1 (N+1) (T+20)/\H1=(cV (a.hQ n o) b c1 [])):=by
 cases o
 ·exact ZY a b c N T ho hc hT n
 ·exact Z0 a b c N T ho hc hT n
def Z3(bl ol len cap:Nat)(hlen:len<=cap)(A:Int->jA)(hA:∀ z:Int,0<=z->z<len->(A z).ok)(m:Int)(hm:m<=1000000):Spec Tryz.prog 13 [.slice (some ⟨bl,ol,none⟩) len cap,iI m] [.ro bl ol (8*len) (fq A)] (fun v H1=>(∃ b,v= .bool b/\(b=true->(len:Int)<=m/\∀ z:Int,0<=z->z<len->((A z).s.size:Int)<=80/\((A z).t.size:Int)<=80))/\H1=[]):=by
 refine Spec.go 12 [0,1,4] [] Tryz.func13 fun W=> ?_;refine cq (GZ _ _ _ _) .nil ?_;refine sp 8 rfl ?_ ?_<;>intro h1
 ·refine xK 0 (Sf _ _ len cap hlen A hA og 80) .h1 rfl ?_;rintro _ _ ⟨⟨bt,rfl,tx⟩,rfl⟩;refine gO ?_;refine bL .nil ?_;grind [aS,aR]
 ·refine bL .nil ?_;grind [aS,aR,bN]
open Go.X.Fa Go.X.Gr Go.X.Sp Go.X.Tr Go.X.Vm
attribute [local irreducible] KA.dt KA.cK
set_option maxHeartbeats 8000000 in
def Z4(a:KA)(b:KZ)(c:KC)(N:Nat)(T:Int)(ho:a.Ok T)(hc:cI a c N T)(hT:T<=800000)(n:Int):Spec Tryz.prog 17 [ay b.kb 0 0,iI n] (cV a b c []) (fun v H1=>v= .tuple #[.agg #[iI (a.D6 n),iI (a.D7 n)],ax 102 (a.sZ n)]/\∃ c1:KC,cI (a.ry n) c1 N T/\H1=(cV (a.ry n) b c1 [])):=by
 refine Spec.go 115 [0,1,4,5,7,8,9,10,11,12,13,14,22,26,27,47,83,95,100] [] Tryz.func17 fun W=> ?_;apply XO.bG (z:=.agg #[iI 0,iI 0]) (m:=2) (C:=tB 0 0) tB.box;intro b4;apply gO;refine ca (ek b.kb (kp a b c) n) (pk [1]) ?_;rintro _ _ ⟨⟨hl,rfl⟩ | ⟨hl,rfl⟩,rfl⟩
 ·obtain⟨jx,gn⟩:=bE hl;have hl:a.aB n=0:=hl;have gn:(a.u n).st=1:=gn;apply gO;refine XO.v (V.build (vs:= #[]) rfl (v:=.agg #[iI 0,iI 0]) fun _=>kq) rfl (gO ?_);apply XO.bG (z:=.agg #[iI 0,iI 0]) (m:=2) (C:=tB 0 0) tB.box;intro b10;apply gO;apply fW .aa (tB.st _ _ _ _) rfl ⟨rfl,rfl⟩;refine lp (σ:=Int×WF) (fun x=>(20-x.1).toNat) (fun x=>(0<=x.1/\x.1<=20)/\x.2=a.fk n x.1.toNat) (fun x=>[(26,iI x.1),(9,iI x.2.kids),(8,iI x.2.bA),(0,ay b.kb 0 0),(1,iI n),(4,ay b4 0 0),(10,ay b10 0 0)]) (fun x=>XM W (bX (cV a b c [])) [.cells b.kb 0 453 (aD (kp a b c)),.cells b.sb 0 158 (Sp.aK a.s),.cells b10 0 2 (tB x.2.jB x.2.km),.cells b4 0 2 (tB 0 0),.cells b.gb 0 60 (bD a.g),.cells b.qb 0 2281 (aH c.q),.aQ bW (SC.dg 254 c.q),.cells b.bb 0 577 (dI b.vp a.v.ij a.v.rf),.cells b.vp 0 71 (Vm.bK a.v.bb.fe),.dG (iR a) c.mb 34 (cN b.bb a.f c.pp c.cc),.aQ (iR a) (rN 171 a.f c.pp c.cc),.cells b.tb 0 321 (aC c.F),.aQ au (FC.aX 9 c.F),.aQ au (FC.aY 3 c.F),dy c.rp c.rc 3 c.rl,.cells b.pi 0 24 (Tr.bK a.P),.cells b.ob 0 122 (aZ b.tb b.pi a.O),.dG (kz a) (fun z=>(c.t z).b) 4 (cT b.tb c.t),.aQ (kz a) (rT 168 c.t)]) ((0,⟨0,-1,0,0⟩)) ?_ (.cons rfl S6) (xq (pk (1::3::rr 17 0 []))) ?_
  ·exact⟨sq,rfl⟩
  intro x hx;obtain⟨hi,wE⟩:=hx;have hwi:=a.H7 n x.1.toNat;rw[<-wE]at hwi;obtain⟨hk,hwc⟩:=hwi;apply gC;refine cd ?_ ?_<;>intro h1
  ·refine sd (ld .aa (gB _) ?_);refine sp 37 rfl ?_ ?_<;>intro h2
   ·have h8:(a.u x.1).st=0:=h2;refine sd (ag ((x.1+1,x.2)) ?_ ?_ (.cons rfl S6) (xq (pz 19)));all_goals grind [iO]
   ·have h8:¬(a.u x.1).st=0:=h2;refine sd (ld .aa (me _) ?_);refine cd ?_ ?_<;>intro h3
    ·have h9:(a.u x.1).aA≠n:=h3;refine sd (ag ((x.1+1,x.2)) ?_ ?_ (.cons rfl S6) (xq (pz 19)));all_goals grind [iO]
    ·have h9:¬(a.u x.1).aA≠n:=h3;refine sd (XC.im mixed (f:=14) (l:= #[qF,qF,qF,qF,qF,qF,qF,qF,qF,qF,qF,qF,qF,qF]) rfl rfl XM.kN (XQ.pv (i:=0) rfl kq rfl (V.move rfl) rfl rfl (XQ.pv (i:=1) rfl kq rfl (bB rfl) rfl rfl (XQ.pv (i:=2) rfl kq rfl (V.fieldAddr rfl K8) rfl rfl (XQ.load (i:=3) (.cells _ _ _ _) [8] rfl kq rfl .aa (V.load rfl eh (aD.uk _) aaX) rfl kq rfl (XQ.pv (i:=4) rfl kq rfl (V.move rfl) rfl rfl (XQ.pv (i:=5) rfl kq rfl (V.move rfl) rfl rfl (XQ.pv (i:=6) rfl kq rfl (V.move rfl) rfl rfl (XQ.call (i:=7) rfl kq rfl rfl (jT b.kb (kp a b c) a.s n) (pz 2) aaW rfl (by rintro _ _ ⟨rfl,rfl⟩;all_goals(intro _ dZ;exact⟨fun _=>fb .aa _ dZ,trivial⟩)) ?_)))))))));rintro _ _ ⟨rfl,rfl⟩;apply XQ.call (i:=8) rfl kq rfl rfl (O7 _ _ a.s x.1 (a.s.bS n).1) (pk [1]) afM rfl (by rintro _ _ ⟨rfl,rfl⟩;all_goals(intro _ dZ;exact⟨fun hs=>(hs 8 b8 rfl).elim,trivial⟩));rintro _ _ ⟨rfl,rfl⟩;refine XQ.pv (i:=9) rfl kq rfl (V.move rfl) rfl rfl (XQ.pv (i:=10) rfl kq rfl (V.extract rfl rfl) rfl rfl (XQ.pv (i:=11) rfl kq rfl (V.extract rfl rfl) rfl rfl (XQ.pv (i:=12) rfl kq rfl (V.assign rfl) rfl rfl (XQ.pv (i:=13) rfl kq rfl (V.assign rfl) rfl rfl (XQ.done kq (gE ?_))))));refine sp 64 rfl ?_ ?_<;>intro h4
     ·have hpe:(a.s.jB x.1 (a.sz n)).2=0:=h4;refine sd (ld (.ao .aa) (gB _) ?_);refine sp 74 rfl ?_ ?_<;>intro h5
      ·have h2:(a.u x.1).st=2:=h5;refine sp 77 rfl ?_ ?_<;>intro h6
       ·have hcn:x.2.bA<0:=h6;refine rq [0,1,2,3,4,5,6,7,8,9,10,11] mixed (sd (ld (.ao .aa) (wg _) (XO.v (V.build (vs:= #[(0,iI (a.s.jB x.1 (a.s.bS n).1).1),(1,iI (a.u x.1).km)]) rfl (v:=.agg #[iI (a.s.jB x.1 (a.s.bS n).1).1,iI (a.u x.1).km]) fun _=>kq) rfl (gO ?_))));refine fW (.t2 .aa) (tB.st _ _ _ _) rfl ⟨rfl,rfl⟩ (sd (ag ((x.1+1,⟨x.2.kids+1,x.1,(a.s.jB x.1 (a.s.bS n).1).1,(a.u x.1).km⟩)) ?_ ?_ (.cons rfl S6) (xq (pk (1::rr 18 0 [])))))
        ·omega
        ·exact⟨(by show 0<=x.1+1/\x.1+1<=20;omega),(by show(⟨x.2.kids+1,x.1,(a.s.jB x.1 (a.s.bS n).1).1,(a.u x.1).km⟩:WF)=a.fk n (x.1+1).toNat;rw[iO a n hi.1,<-wE,if_neg (by rintro(q | q);exact h8 q;exact h9 q),if_pos ⟨hpe,h2,.inl hcn⟩];rfl)⟩
       ·have hcn:¬x.2.bA<0:=h6;apply ld (.t2 .aa) (tB.B6 _ _);refine cd ?_ ?_<;>intro h7
        ·have rH:(a.s.jB x.1 (a.s.bS n).1).1<x.2.jB:=h7;refine rq [0,1,2,3,4,5,6,7,8,9,10,11] mixed (sd (ld (.ao .aa) (wg _) (XO.v (V.build (vs:= #[(0,iI (a.s.jB x.1 (a.s.bS n).1).1),(1,iI (a.u x.1).km)]) rfl (v:=.agg #[iI (a.s.jB x.1 (a.s.bS n).1).1,iI (a.u x.1).km]) fun _=>kq) rfl (gO ?_))));refine fW (.t2 .aa) (tB.st _ _ _ _) rfl ⟨rfl,rfl⟩ (sd (ag ((x.1+1,⟨x.2.kids+1,x.1,(a.s.jB x.1 (a.s.bS n).1).1,(a.u x.1).km⟩)) ?_ ?_ (.cons rfl S6) (xq (pk (1::rr 18 0 [])))))
         ·omega
         ·exact⟨(by show 0<=x.1+1/\x.1+1<=20;omega),(by show(⟨x.2.kids+1,x.1,(a.s.jB x.1 (a.s.bS n).1).1,(a.u x.1).km⟩:WF)=a.fk n (x.1+1).toNat;rw[iO a n hi.1,<-wE,if_neg (by rintro(q | q);exact h8 q;exact h9 q),if_pos ⟨hpe,h2,.inr rH⟩];rfl)⟩
        ·have rH:¬(a.s.jB x.1 (a.s.bS n).1).1<x.2.jB:=h7;refine sd (ag ((x.1+1,⟨x.2.kids+1,x.2.bA,x.2.jB,x.2.km⟩)) ?_ ?_ (.cons rfl S6) (xq (pk (1::rr 18 0 []))))
         ·omega
         ·exact⟨(by show 0<=x.1+1/\x.1+1<=20;omega),(by show(⟨x.2.kids+1,x.2.bA,x.2.jB,x.2.km⟩:WF)=a.fk n (x.1+1).toNat;rw[iO a n hi.1,<-wE,if_neg (by rintro(q | q);exact h8 q;exact h9 q),if_neg (by rintro⟨q1,q2,q3⟩;rcases q3 with q | q;exact hcn q;exact rH q)])⟩
      ·have h2:¬(a.u x.1).st=2:=h5;refine sd (ag ((x.1+1,⟨x.2.kids+1,x.2.bA,x.2.jB,x.2.km⟩)) ?_ ?_ (.cons rfl S6) (xq (pk (1::rr 18 0 []))));all_goals grind [iO]
     ·have hpe:¬(a.s.jB x.1 (a.sz n)).2=0:=h4;refine sd (ag ((x.1+1,⟨x.2.kids+1,x.2.bA,x.2.jB,x.2.km⟩)) ?_ ?_ (.cons rfl S6) (xq (pk (1::rr 18 0 []))));all_goals grind [iO]
  ·refine cd ?_ ?_<;>intro h8
   ·have II:x.2.kids=0:=h8;have IB:x.2=a.fk n 20:=by
     grind
    refine XO.v (V.build (vs:= #[]) rfl (v:=.agg #[iI 0,iI 0]) fun _=>kq) rfl (gO ?_);refine fW (.t3 .aa) (tB.st _ _ _ _) rfl ⟨rfl,rfl⟩ (dC rfl (.agg rfl (.t3 .aa) (tB.agg _ _) Pm Cj) (.tmp rfl) (ah (pk (0::3::0::rr 14 2 [])) rfl ?_));grind [aS,aR,bN,KA.sZ,KA.D6,KA.D7,KA.ry,ax]
   ·have II:¬x.2.kids=0:=h8;have IB:x.2=a.fk n 20:=by
     grind
    refine cd ?_ ?_<;>intro h9
    ·have hcd:x.2.bA<0:=h9;refine XO.v (V.build (vs:= #[]) rfl (v:=.agg #[iI 0,iI 0]) fun _=>kq) rfl (gO ?_);refine fW (.t3 .aa) (tB.st _ _ _ _) rfl ⟨rfl,rfl⟩ (dC rfl (.agg rfl (.t3 .aa) (tB.agg _ _) Pm Cj) (.tmp rfl) (ah (pk (0::3::0::rr 14 2 [])) rfl ?_));grind [aS,aR,bN,KA.sZ,KA.D6,KA.D7,KA.ry,ax]
    ·have hcd:¬x.2.bA<0:=h9;have e0:a.sZ n=0:=by unfold KA.sZ;rw[<-IB,if_neg og,if_neg II,if_neg hcd]
     obtain⟨_,w1,w2,_,_,_⟩:=Ay e0;rw[<-IB]at w1 w2;refine cq (jT b.kb (kp a b c) a.s x.2.bA) (pz 2) ?_;refine ca (Iv a b c N T ho.wk hc og x.2.bA w1 og) (pk (0::3::0::rr 14 2 [])) ?_;rintro _ _ rfl;apply gO;refine ca (Py (a.fj x.2.bA) b c N T (ho.wk.fj w1 og) (hc.Vs og) og _) (pz 17) ?_;rintro _ _ ⟨c1,fZ,rfl⟩;apply gO;refine lW (.ov (.t5 .aa)) (tB.agg _ _) (fW (.ov (.t6 .aa)) (tB.st _ _ _ _) rfl ⟨rfl,rfl⟩ (dC rfl (.agg rfl (.ov (.t6 .aa)) (tB.agg _ _) Pm Cj) (.tmp rfl) (ah (pz 17) rfl ?_)));try dsimp only[aS,aR,bI,bN]
     have e2:a.D6 n=x.2.jB:=by unfold KA.D6;rw[if_pos e0,<-IB]
     have e3:a.D7 n=x.2.km:=by unfold KA.D7;rw[if_pos e0,<-IB]
     have e4:a.ry n=(a.fj x.2.bA).fL (a.s.bS x.2.bA).1:=by unfold KA.ry;rw[if_pos e0,<-IB];rfl
     grind [ax]
 ·have hl:a.aB n≠0:=hl;have iJ:(kp a b c).aB n=a.aB n:=rfl;rw[iJ];apply gO;refine XO.v (V.build (vs:= #[]) rfl (v:=.agg #[iI 0,iI 0]) fun _=>kq) rfl (gO ?_);refine fW (.ao .aa) (tB.st _ _ _ _) rfl ⟨rfl,rfl⟩ (dC rfl (.agg rfl (.ao .aa) (tB.agg _ _) Pm Cj) (.tmp rfl) (ah (pk (0::rr 16 1 [])) rfl ?_));grind [aS,aR,KA.sZ,KA.D6,KA.D7,KA.ry,ax]
end Go.X.Kn
