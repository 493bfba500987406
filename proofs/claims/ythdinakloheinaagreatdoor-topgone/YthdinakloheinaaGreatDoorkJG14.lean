import Derived.Test.YthdinakloheinaaGreatDoorkJG11
set_option linter.all false
set_option maxRecDepth 20000
set_option maxHeartbeats 16000000
open Go.Proofs.Tryz
namespace Go.X.Kn
open Go Go.Proofs Go.X Go.X.Tr
def oI:fE Tryz.prog 211=some 4:=kq
attribute [local irreducible] KA.db KA.cL
def ZD(a:KA)(b:KZ)(c:KC)(N:Nat)(T:Int)(ho:a.Ok T)(hc:cP a c N T)(hT:T<=800000)(n:Int)(x:ByteArray)(hx:x.size<=100000):Fn 172 [ay b.kb 0 0,iI n,.string x] (du a b c []) (fun v H1=>∃ (p:Option Addr) (k:Nat) (ns:List ByteArray) (e:Int),(ns.length<=8/\∀ y∈ns,y.size<=8)/\v= .tuple #[.slice p ns.length k,ax 102 e]/\H1=kR p k 9 ns::(du a b c [])):=by
 refine Spec.g 40 [0,1,2,6,7,9,10,18,29] func172 fun W=> ?_;refine ca (fm b.kb (kp a b c) n) .h1 ?_;rintro _ _ ⟨⟨hl,rfl⟩ | ⟨hl,rfl⟩,rfl⟩
 obtain⟨kL,iw⟩:=bM hl;have hl:a.aF n=0:=hl;have iw:(a.u n).st=1:=iw;have hz:=ho.tz hl;have jc:=hc.tb _ hz.1.1 hz.1.2 hz.2;have A3:=hc.sh og;apply gO;apply XR.mono fun _ bR=>iv (z:=(a.s.bZ n).1.toNat) (eG hz.1 hz.2) (pk [15,15]) bR;refine cq (jv a b c n hz) (pk [4,5]) ?_;refine cq (F6 _ _ _ _ _ _ _ _ _ jc.rv jc.mc jc.len c.F A3 x hx) (pk [2,2,11,11,11]) ?_;apply XO.bP (z:=.agg (WH.c9 WH.nil)) (m:=2) (C:=bd WH.nil) (bd.box _);intro bw;apply gO;refine gu .aa (bd.st _ _) rfl ⟨rfl,rfl⟩ (XR.mono (fun _ bR=>iq (z:=(a.s.bZ n).1.toNat) (eG hz.1 hz.2) (pk [1,1,6,6]) bR) ?_);apply (cd)<;>intro h1
 refine XR.fU 9 1 (bC rfl rfl rfl (ai (pk (0::6::7::rr 7 6 (rr 6 3 [0,0]))) rfl ?_));rotate_left
 refine rq [0,1,2,3,4,5,6,7,8,9,10] mixed (ld (.t6 .aa) (aB.BO _) (ld (.t2 .aa) (bd.Gg _) ?_));refine ca (agy _ _ c.F A3 _) (pk [3,3,3]) ?_;rintro _ _ (⟨hle,rfl,rfl⟩ | ⟨hle,p,k,rfl,rfl⟩)
 apply gO;refine XR.fU 9 1 (bC rfl rfl rfl (ai (pk [0,6,7,6,6,6,6,6,6,6,0,0,0,3,3,3,0,0]) rfl ?_));rotate_left
 ·apply gO;refine bC rfl rfl rfl (ai (pk [0,6,7,6,6,6,6,6,6,6,0,0,0,3,3,3,0,0]) rfl ?_);exact⟨p,k,_,0,ab1 hc.F hle,rfl,rfl⟩
 ·have hl:a.aF n≠0:=hl;have jz:(kp a b c).aF n=a.aF n:=rfl;rw[jz];apply gO;refine XR.fU 9 1 (bC rfl rfl rfl (ai (pz 18) rfl ?_));exact⟨none,0,[],a.aF n,⟨dq,fun y q=>by cases q⟩,by rw[aL _ hl];rfl,rfl⟩
 all_goals exact⟨none,0,[],_,⟨dq,fun y q=>by cases q⟩,rfl,rfl⟩
def acY(a:KA)(b:KZ)(c:KC)(N:Nat)(T:Int)(ho:a.Ok T)(hc:cP a c N T)(hT:T<=800000)(n:Int)(x:ByteArray)(hx:x.size<=100000):Fn 173 [ay b.kb 0 0,iI n,.string x] (du a b c []) (fun v H1=>(∃ (k:NV) (e:Int),NVs k/\v= .tuple #[.agg k.c9,ax 102 e])/\H1=(du a b c [])):=by
 refine Spec.g 42 [0,1,2,6,7,9,10,18,30] func173 fun W=> ?_;apply XO.bP (z:=.agg NV.zero.c9) (m:=4) (C:=o8 NV.zero) (pO _);intro bg;apply gO;refine ca (fm b.kb (kp a b c) n) (pk [1]) ?_;rintro _ _ ⟨⟨hl,rfl⟩ | ⟨hl,rfl⟩,rfl⟩
 ·obtain⟨kL,iw⟩:=bM hl;have hl:a.aF n=0:=hl;have iw:(a.u n).st=1:=iw;have hz:=ho.tz hl;have jc:=hc.tb _ hz.1.1 hz.1.2 hz.2;have A3:=hc.sh og;apply gO;apply XR.mono fun _ bR=>iv (z:=(a.s.bZ n).1.toNat) (eG hz.1 hz.2) (pk [16,16]) bR;refine cq (jv a b c n hz) (pk [4,6]) ?_;refine cq (F6 _ _ _ _ _ _ _ _ _ jc.rv jc.mc jc.len c.F A3 x hx) (pk [2,2,12,12,12]) ?_;apply XO.bP (z:=.agg (WH.c9 WH.nil)) (m:=2) (C:=bd WH.nil) (bd.box _);intro bw;apply gO;refine gu .aa (bd.st _ _) rfl ⟨rfl,rfl⟩ (XR.mono (fun _ bR=>iq (z:=(a.s.bZ n).1.toNat) (eG hz.1 hz.2) (pk [1,1,6,6]) bR) ?_);apply (cd)<;>intro h1
  ·refine XO.v (V.build (vs:= #[]) rfl (v:=.agg NV.zero.c9) fun _=>kq) rfl (gO ?_);refine gu (.t8 .aa) (nh _ _) rfl ⟨rfl,rfl⟩ (dU rfl (.agg rfl (.t8 .aa) (sE _) kq oI) (.tmp rfl) (ai (pk [6,8,6,7,7,7,7,7,7,3,3,3,4,4,4,0,0]) rfl ?_));try dsimp only[aR,aQ,bH,bQ]
   grind [aiU]
  ·refine rq [0,1,2,3,4,5,6,7,8,9,10] mixed (ld (.t6 .aa) (aB.BO _) (ld (.t2 .aa) (bd.Gg _) ?_));refine cq (Tr.PH _ _ c.F A3 _) (pk [3]) ?_;refine gu (.t8 .aa) (nh _ _) rfl ⟨rfl,rfl⟩ (dU rfl (.agg rfl (.t8 .aa) (sE _) kq oI) (.tmp rfl) (ai (pk [6,8,6,7,7,7,7,7,7,0,3,3,4,4,4,0,0]) rfl ?_));exact⟨⟨_,_,aiT hc.F og _,rfl⟩,rfl⟩
 ·have hl:a.aF n≠0:=hl;have jz:(kp a b c).aF n=a.aF n:=rfl;rw[jz];apply gO;refine XO.v (V.build (vs:= #[]) rfl (v:=.agg NV.zero.c9) fun _=>kq) rfl (gO ?_);refine gu (.ao .aa) (nh _ _) rfl ⟨rfl,rfl⟩ (dU rfl (.agg rfl (.ao .aa) (sE _) kq oI) (.tmp rfl) (ai (pk (0::rr 16 1 [])) rfl ?_));try dsimp only[aR,aQ,bH,bQ]
  exact⟨⟨_,a.aF n,aiU,by rw[aL _ hl]⟩,rfl⟩
end Go.X.Kn

namespace Go.X.Kn
open Go Go.Proofs Go.X Go.X.Sp
def wm(z:Int):∀ w,(Instr.buildSlice 55 1 #[(0,iI z)]).run Tryz.prog w= .ok (.slice (some ⟨w.heap.size,0,none⟩) 1 1) (w.alloc (.cells #[iI z] 3)):=fun w=>kq
attribute [local irreducible] KA.db KA.cL
def IT(a:KA)(b:KZ)(c:KC):Fn 31 [ay b.kb 0 0] [dO b.kb (kp a b c),Sp.bY b.sb 0 a.s] (fun v H1=>∃ (p:Option Addr) (k:Nat),v= .slice p (Sp.fF a.s.aa 6).length k/\H1=[dH p k 3 (Sp.fF a.s.aa 6),dO b.kb (kp a b c),Sp.bY b.sb 0 a.s]):=by
 refine Spec.g 8 [0,2] func31 fun W=> ?_;apply ld .aa (aB.uS _);refine ca (ad5 _ _ a.s) (pk [1]) ?_;rintro _ _ ⟨p,k,rfl,rfl⟩;apply gO;refine aO rfl rfl (ai (pk [0,1,0]) rfl ?_);simp_all[aR,aQ,kp]
end Go.X.Kn

namespace Go.X.Fa
open Go Go.Proofs Go.X
def Za:Fn 97 [] [] (fun v H1=>∃ p,v=ay p 0 0/\∃ t:SC,t.toSF=SF.cR/\t.nt/\H1=[d6 p 0 t,.aV cI (t.dI 254)]):=by
 refine Spec.g 10 [0,1] func97 fun W=> ?_;refine XO.v (V.build (vs:= #[]) rfl (v:=.agg Wp) fun _=>kq) rfl (gO ?_);refine XO.box (m:=2281) (C:=aH SC.dR) rfl SY Wq rfl ?_;intro p;apply XO.mono fun _ bR=>Oe 254 bR;apply gO;refine XO.v (V.build (vs:= #[(0,.bool true),(1,iI (-1)),(2,iI 1)]) rfl (v:=.agg (mS (yC true (-1) 1))) fun _=>kq) rfl (gO ?_);apply (sd);apply oS;apply XO.gz rfl rfl (.ao .aa) (vq _ 0 (-1) 1 true) (qc _) sR;apply XO.mono fun _ bR=>XM.newRow (s:=SC.dR) (z:=0) og .h1 bR;apply gO;refine bL (pk [1,0]) ?_;exact⟨_,rfl,_,rfl,SC.nt.dR.new rfl (fun i hi=>by cases hi) (-1) 1 true,rfl⟩
end Go.X.Fa

namespace Go.X.Tr
open Go Go.X
def BG:∀ i,i<24->cellsOf (Value.agg #[.string ⟨#[]⟩,iI 0,iI 0,.string ⟨#[]⟩,iI 0,iI 0,.string ⟨#[]⟩,iI 0,iI 0,.string ⟨#[]⟩,iI 0,iI 0,.string ⟨#[]⟩,iI 0,iI 0,.string ⟨#[]⟩,iI 0,iI 0,.string ⟨#[]⟩,iI 0,iI 0,.string ⟨#[]⟩,iI 0,iI 0]).cells i=bN PS.cR i:=fun i hi=>match i,hi with
 | 0,_=>rfl
 | 1,_=>rfl
 | 2,_=>rfl
 | 3,_=>rfl
 | 4,_=>rfl
 | 5,_=>rfl
 | 6,_=>rfl
 | 7,_=>rfl
 | 8,_=>rfl
 | 9,_=>rfl
 | 10,_=>rfl
 | 11,_=>rfl
 | 12,_=>rfl
 | 13,_=>rfl
 | 14,_=>rfl
 | 15,_=>rfl
 | 16,_=>rfl
 | 17,_=>rfl
 | 18,_=>rfl
 | 19,_=>rfl
 | 20,_=>rfl
 | 21,_=>rfl
 | 22,_=>rfl
 | 23,_=>rfl
 | k+24,h=>absurd h og
end Go.X.Tr

namespace Go.X.Kn
open Go Go.Proofs Go.X
def Nz(mb:Nat):∀ w,(Instr.build 89 #[(0,iI 1),(1,iI (-1)),(4,ay mb 0 0)]).run Tryz.prog w= .ok (.agg (PU.c9 (EJ mb))) w:=fun w=>kq
def U2(a b c d e f:Nat):∀ w,(Instr.build 101 #[(1,ay a 0 0),(2,ay b 0 0),(3,ay c 0 0),(4,ay d 0 0),(5,ay e 0 0),(6,ay f 0 0)]).run Tryz.prog w= .ok (.agg (HQ (KP.raw a b c d e f))) w:=fun w=>kq
open Go.X.Fa
def IU(p:Option Addr)(l c:Nat)(m:Int):Fn 47 [.slice p l c,iI m] [] (ap (.bool (decide ((l:Int)<=m))) []):=by
 refine Spec.g 9 [0,1,4] func47 fun W=> ?_;refine bL .nil ?_;grind [aR,aQ]
def U3(bl ol len cap:Nat)(hlen:len<=cap)(A:Int->jA)(hA:∀ z:Int,0<=z->z<len->(A z).ok)(hL:len<=1000000)(m:Int):Fn 48 [.slice (some ⟨bl,ol,none⟩) len cap,iI m] [.ro bl ol (8*len) (fY A)] (fun v H1=>(∃ b,v= .bool b/\(b=true->∀ z:Int,0<=z->z<len->((A z).s.size:Int)<=m/\((A z).t.size:Int)<=m))/\H1=[]):=by
 refine Spec.g 30 [0,1,4,5,9,29] func48 fun W=> ?_;refine wl (σ:=Int) (fun k=>(len-k).toNat) (fun k=>0<=k/\k<=len/\∀ z:Int,0<=z->z<k->((A z).s.size:Int)<=m/\((A z).t.size:Int)<=m) (fun k=>[(5,iI k),(0,.slice (some ⟨bl,ol,none⟩) len cap),(1,iI m)]) (fun k=>[.ro bl ol (8*len) (fY A)]) (0) ?_ .h1 ?_
 ·grind
 intro k hk;obtain⟨hk0,hk1,hkk⟩:=hk;apply gC;apply (cd)<;>intro h1
 ·refine sd (aay .aa (SN A len _ og) ?_);apply UV 20<;>intro h2
  ·refine bL .nil ?_;grind [aR,aQ,bQ]
  ·refine sd (aay .aa (SO A len _ og) ?_);apply (cd)<;>intro h3
   ·refine bL .nil ?_;grind [aR,aQ,bQ]
   ·refine sd (wn (k+1) ?_ ?_ .h1);all_goals grind
 ·refine bL .nil ?_;grind [aR,aQ,bQ]
def U4(p:Option Addr)(cap:Nat)(m:Int):Fn 48 [.slice p 0 cap,iI m] [] (ap (.bool true) []):=by
 refine Spec.g 30 [0,1,4,5,9] func48 fun W=> ?_;refine wl (σ:=Int) (fun k=>0) (fun k=>0<=k) (fun k=>[(5,iI k),(0,.slice p 0 cap),(1,iI m)]) (fun k=>[]) (0) ?_ .nil ?_
 ·omega
 intro k hk;apply gC;refine KJ rfl eI (aO rfl rfl (ai .nil rfl ?_));grind [aR,aQ,bQ]
def ag7(e:Int):Fn 19 [.iface 102 (iI e)] [] (ap (iI e) []):=by
 refine Spec.g 15 [0,2,3,4,6,13] func19 fun W=> ?_;refine XO.v (NU rfl underlying102 sq) rfl (gO ?_);refine bL .nil ?_;grind [aR,aQ]
def ag8:Fn 19 [.nilIface] [] (ap (iI 0) []):=by
 refine Spec.g 15 [0,2,6] func19 fun W=> ?_;refine bL .nil ?_;grind [aR,aQ,bQ]
def Se(e:Int):Fn 19 [ax 102 e] [] (ap (iI e) []):=by
 by_cases h:e=0
 ·subst h;exact ag8
 ·rw[aL _ h];exact ag7 e
def acZ(p:Option Addr)(cap:Nat)(m:Int):Fn 13 [.slice p 0 cap,iI m] [] (fun v H1=>(∃ b,v= .bool b/\(b=true->((0:Nat):Int)<=m))/\H1=[]):=by
 refine Spec.g 12 [0,1,4] func13 fun W=> ?_;refine cq (IU _ _ _ _) .nil ?_;apply UV 8<;>intro h1
 ·refine cq (U4 _ _ _) .nil ?_;refine bL .nil ?_;grind [aR,aQ]
 ·refine bL .nil ?_;grind [aR,aQ,bQ]
def ac0(kb:Nat)(k:KP)(q:SC)(hq:q.toSF=Q2)(hR:q.nt):Fn 46 [ay kb 0 0] [dO kb k,d6 k.qb 0 q,.aV cI (SC.dI 254 q)] (fun v H1=>v=iI 0/\∃ t:SC,t.toSF=(Q2.l8 dK).2/\t.nt/\H1=[dO kb k,d6 k.qb 0 t,.aV cI (SC.dI 254 t)]):=by
 refine Spec.g 8 [0,2] func46 fun W=> ?_;apply ld .aa (fv _);refine ca (YS _ _ q dK (by rw[hq];exact EK.inv) hR (fun n a b=>Nat.le_trans (EK.aK n a b) og) (2000000000*0) og (by rw[hq];exact EK.uz) (by show 0<=q.toSF.iC/\q.toSF.iC<=2000000000*0;rw[hq];exact EK.iC) (by rw[hq];exact(EK.p7 og).set)) (pk [1,1]) ?_;rintro _ _ ⟨rfl,t,ht,hr,rfl⟩;rw[hq,abv];rw[hq]at ht;apply gO;refine bL (pk [2,0,0]) ?_;grind [aR,aQ]
def Kv(kb:Nat)(k:KP):Fn 27 [ay kb 0 0] [dO kb k] (fun v H1=>∃ p cap,v= .slice p (Vm.fF (fun n=>decide ((k.u n).st=1)) 20).length cap/\H1=[dH p cap 3 (Vm.fF (fun n=>decide ((k.u n).st=1)) 20),dO kb k]):=by
 refine Spec.g 22 [0,2,3,4,5,6,15] func27 fun W=> ?_;refine XR.fU 3 1 ?_;refine wl (σ:=Int×List Int×Option Addr×Nat) (fun x=>(20-x.1).toNat) (fun x=>(0<=x.1/\x.1<=20)/\x.2.1=Vm.fF (fun n=>decide ((k.u n).st=1)) x.1.toNat) (fun x=>[(3,.slice x.2.2.1 x.2.1.length x.2.2.2),(5,iI x.1),(0,ay kb 0 0)]) (fun x=>[dH x.2.2.1 x.2.2.2 3 x.2.1,dO kb k]) ((0,[],none,0)) ?_ (pz 2) ?_
 ·exact⟨sq,rfl⟩
 intro x hx;obtain⟨hx,hL⟩:=hx;have hlen:=Vm.mw (fun n=>decide ((k.u n).st=1)) x.1.toNat;rw[<-hL]at hlen;have hnx:=Vm.Bw (fun n=>decide ((k.u n).st=1)) hx.1;apply gC;apply (cd)<;>intro h1
 ·refine sd (ld (.ao .aa) (gY _) ?_);apply (cd)<;>intro h2
  ·have h52:=h2;refine XO.buildSlice (A:= #[iI _]) (vs:= #[(0,iI _)]) rfl (wm _) rfl rfl ?_;intro h3;apply gO;refine lY (e:=3) rfl rfl underlying55 kq (.ao .aa) .aa og rfl ?_;intro h4 h5;apply gO;refine sd (wn ((x.1+1,x.2.1++[x.1],_,_)) ?_ ?_ (pk [0,1]));all_goals grind
  ·have h52:=h2;refine sd (wn ((x.1+1,x.2.1,_,_)) ?_ ?_ (pz 2));all_goals grind
 ·refine bL (pz 2) ?_;try dsimp only[aR,aQ,bH,bQ]
  have af2:x.1=20:=og;simp_all
theorem NA{k:KP}{mb:Nat}(h:adM k mb):Vm.fF (fun n=>decide ((k.u n).st=1)) 20=[0]:=by
 have e:(fun n=>decide ((k.u n).st=1))=fun n=>decide (n=0):=by
  funext n;rw[h.u];by_cases c:n=0
  ·subst c;rw[ah];rfl
  ·rw[ae _ _ c,decide_eq_false c];rfl
 rw[e];decide
open Go.X.Gr Go.X.Sp Go.X.Tr Go.X.Vm
def Kw:fE Tryz.prog 58=some 4:=kq
attribute [local irreducible] KA.db KA.cL
def ag9:Fn 37 [] [] (fun x H1=>∃ (b:KZ) (c:KC),x=ay b.kb 0 0/\c.q.toSF=Q2/\c.d=dK/\cP A0 c 1 2/\H1=(du A0 b c [])):=by
 refine Spec.g 77 [0,1] func37 fun W=> ?_;refine ca (ajc) .nil ?_;rintro _ _ ⟨gb,rfl,rfl⟩;apply gO;refine ca (Sp.YE) .nil ?_;rintro _ _ ⟨sb,rfl,rfl⟩;apply gO;refine ca (Fa.Za) .nil ?_;rintro _ _ ⟨qb,rfl,q0,UD,hr0,rfl⟩;apply gO;refine ca (UH) .nil ?_;rintro _ _ ⟨bb,vp,rfl,rfl⟩;apply gO;refine ca (Tr.YE) .nil ?_;rintro _ _ ⟨tb,rfl,rfl⟩;apply gO;refine XO.v (V.build (vs:= #[]) rfl (v:=.agg #[.string ⟨#[]⟩,iI 0,iI 0,.string ⟨#[]⟩,iI 0,iI 0,.string ⟨#[]⟩,iI 0,iI 0,.string ⟨#[]⟩,iI 0,iI 0,.string ⟨#[]⟩,iI 0,iI 0,.string ⟨#[]⟩,iI 0,iI 0,.string ⟨#[]⟩,iI 0,iI 0,.string ⟨#[]⟩,iI 0,iI 0]) fun _=>kq) rfl (gO ?_);apply XO.box (m:=24) (C:=Tr.bN Tr.PS.cR) rfl rfl Tr.BG rfl;intro pi;apply gO;refine XO.v (V.build (vs:= #[(1,ay gb 0 0),(2,ay sb 0 0),(3,ay qb 0 0),(4,ay bb 0 0),(5,ay tb 0 0),(6,ay pi 0 0)]) rfl (v:=.agg (HQ (KP.raw gb sb qb bb tb pi))) (U2 _ _ _ _ _ _)) rfl (gO ?_);refine XO.box (m:=453) (C:=vH (KP.raw gb sb qb bb tb pi)) rfl (OH _) (TK _) rfl ?_;intro kb;apply gO;refine rq [0,1,2,3,4,5,6,7,8,9,10,11,12] mixed (ld .aa (vH.BO _) (ld .aa (vH.Xk _) ?_));refine ca (Tr.Za tb pi) .nil ?_;rintro _ _ ⟨ob,rfl,rfl⟩;apply gO;refine st (.ao .aa) (OJ _ _) rfl (ld (.ao .aa) (aB.BO _) ?_);refine ca (R2 _ _ _ (Tr.FF.My.sh og)) (pk [3,3,3,3]) ?_;rintro _ _ ⟨t0,rfl,ht0,rfl⟩;obtain⟨d1,o1⟩:=Tr.FF.My.Al;have o2:t0.toFF.Ok d1 (0+1):=by rw[ht0];exact o1
 have hrt:t0.nD 0=0:=by show t0.toFF.nD 0=0;rw[ht0];decide+kernel
 apply gO;refine rq [0,1,2,3,4,9,10,5,6,7,8,11,12] mixed (ld (.t5 .aa) (aB.BO _) ?_);refine ca (ajw _ t0 d1 _ o2 og 0) (pz 4) ?_;rintro _ _ (⟨gJ,rfl,rfl⟩ | ⟨_,bt,u0,rfl,hu0,up0,uc0,rfl⟩)
 ·exact absurd hrt gJ;skip
 ·apply gO;refine sd (st (.t7 .aa) (vG _ og _) rfl (rq [0,1,2,3,4,7,8,5,6,9,10] mixed (ld (.t7 .aa) (aB.zY _) ?_)));refine ca (ajm bb) .nil ?_;rintro _ _ ⟨mb,rfl,rfl⟩;apply gO;refine XO.v (V.build (vs:= #[(0,iI 1),(1,iI (-1)),(4,ay mb 0 0)]) rfl (v:=.agg (PU.c9 (EJ mb))) (Nz mb)) rfl (gO ?_);refine sd (gu (.t9 .aa) (aB.EH _ og (EJ mb)) rfl ⟨rfl,rfl⟩ (ld (.t9 .aa) (fa _) ?_));refine cq (wq _ _ Gr.TG.cR Gr.TG.Inv.cR.ok 0 1 0 0 og Gr.TG.cb.cR) (pk [16]) ?_;apply ld (.t10 .aa) (aB.uS _);refine cq (Kc _ _ Sp.SS.cR (fun _=>1) Sp.SS.Inv.cR.D 0 0) (pk [16]) ?_;apply ld (.t11 .aa) (fv _);refine ca (Cm _ _ q0 (fun _=>0) (by rw[UD];exact Fa.SF.QN.inv) hr0 0 0 100) (pk [15,15]) ?_;rintro _ _ ⟨rfl,q1,NP,Kf,rfl⟩;have NP:q1.toSF=Q1:=by rw[NP,UD];rfl
  apply gO;apply ld (.ph (.ao .aa)) (fv _);refine ca (Kh _ _ q1 dK (by rw[NP];exact adN.inv) Kf 0 true) (pz 2) ?_;rintro _ _ ⟨rfl,q2,uV,A4,rfl⟩;have uV:q2.toSF=Q2:=by rw[uV,NP];rfl
  apply gO;apply XR.mono (fun _ bR=>TJ (z:=(0:Int).toNat) Vm.MS.nil (pk [4,4]) bR);rw[ku fun _=>Vm.MS.nil];refine XR.mono (fun _ bR=>Ub (z:=(0:Int).toNat) (⟨bt,⟨0,t0.gm 0⟩,[],none,0,0,0,C0⟩:TB) (pk [6,6]) bR) ?_;refine aO rfl rfl (ai (pk [13,7,6,4,4,10,10,2,2,2,2,2,2,3,2,0,0]) rfl ?_);try dsimp only[aR,aQ,bH,bQ]
  refine⟨(⟨kb,gb,sb,qb,bb,tb,pi,ob,vp⟩:KZ),(⟨bD (fun _=>0) (0:Int).toNat mb,bD (fun _=>none) (0:Int).toNat none,bD (fun _=>0) (0:Int).toNat 0,q2,dK,u0,d1,t0.rP,t0.rC,t0.roots,bD (fun _=>(⟨bt,⟨0,t0.gm 0⟩,[],none,0,0,0,C0⟩:TB)) (0:Int).toNat (⟨bt,⟨0,t0.gm 0⟩,[],none,0,0,0,C0⟩:TB)⟩:KC),rfl,uV,rfl,⟨(by show q2.toSF.Ok dK 1 1;rw[uV];exact EK.mono (Nat.le_refl _) og),A4,(by show u0.toFF.Ok d1 2;rw[hu0];exact o2.dX _),up0,uc0,(by show u0.toFF.roots=_;rw[hu0,ln]),fun z z0 z1 z2=> ?_,ai2 uV⟩,?_⟩
  ·have et:bD (fun _=>(⟨bt,⟨0,t0.gm 0⟩,[],none,0,0,0,C0⟩:TB)) (0:Int).toNat (⟨bt,⟨0,t0.gm 0⟩,[],none,0,0,0,C0⟩:TB) z.toNat=(⟨bt,⟨0,t0.gm 0⟩,[],none,0,0,0,C0⟩:TB):=by unfold bD;split<;>rfl
   show(bD (fun _=>(⟨bt,⟨0,t0.gm 0⟩,[],none,0,0,0,C0⟩:TB)) (0:Int).toNat (⟨bt,⟨0,t0.gm 0⟩,[],none,0,0,0,C0⟩:TB) z.toNat).Ok;rw[et];exact⟨.inl ⟨rfl,rfl⟩,fun i hi=>absurd hi (by show ¬i<0*4;omega),(by show 0<=6;omega)⟩
  ·try unfold du
   rw[afV,afW,afX (⟨kb,gb,sb,qb,bb,tb,pi,ob,vp⟩:KZ) (⟨bD (fun _=>0) (0:Int).toNat mb,bD (fun _=>none) (0:Int).toNat none,bD (fun _=>0) (0:Int).toNat 0,q2,dK,u0,d1,t0.rP,t0.rC,t0.roots,bD (fun _=>(⟨bt,⟨0,t0.gm 0⟩,[],none,0,0,0,C0⟩:TB)) (0:Int).toNat (⟨bt,⟨0,t0.gm 0⟩,[],none,0,0,0,C0⟩:TB)⟩:KC) ob mb (⟨bt,⟨0,t0.gm 0⟩,[],none,0,0,0,C0⟩:TB) rfl rfl _ rfl];rfl
open Go.X.Sg
def ac1(a:KA)(b:KZ)(c:KC)(N:Nat)(T:Int)(ho:a.Ok T)(hc:cP a c N T)(hT:T<=800000)(n:Int):Fn 14 [ay b.kb 0 0,iI n,.bool false] (du a b c []) (fun v H1=>v= .tuple #[iI (a.nk n false),ax 102 (a.mH n false)]/\∃ c1:KC,cP (a.gH n false) c1 (N+1) (T+20)/\H1=(du (a.gH n false) b c1 [])):=by
 refine Spec.go 177 [0,1,2,6,7,8,9,10,11,12,13,14,16,24,37,41,59,65,132,133,134,137] [(22,0)] func14 fun W=> ?_;refine ca (fm b.kb (kp a b c) n) .h1 ?_;rintro _ _ ⟨⟨hl,rfl⟩ | ⟨hl,rfl⟩,rfl⟩
 ·obtain⟨kL,iw⟩:=bM hl;have hl:a.aF n=0:=hl;have iw:(a.u n).st=1:=iw;have mI:=qo a b c (n:=n);apply gO;refine wl (σ:=Int) (fun ch=>(20-ch).toNat) (fun ch=>(0<=ch/\ch<=20)/\∀ j:Int,0<=j->j<ch->(a.u j).st≠0) (fun ch=>[(10,iI ch),(0,ay b.kb 0 0),(1,iI n),(2,.bool false),(8,ay b.kb 0 (0+0+n.toNat*22))]) (fun ch=>du a b c []) (0) ?_ (pz 17) ?_
  ·grind
  intro ch Kg;have amc:=Kg.1;apply gC;apply UV 28<;>intro h1
  ·refine sd (ld .aa (gY _) ?_);apply (cd)<;>intro h2
   ·have amd:(a.u ch).st≠0:=h2;refine sd (wn (ch+1) ?_ ?_ (pz 17));all_goals grind
   ·have DI:(a.u ch).st=0:=by
     have h9:=h2;have e9:((kp a b c).u ch).st=(a.u ch).st:=rfl;omega
    refine KJ rfl og (XR.mono (fun _ bR=>lz (z:=n.toNat) (fS kL) (pk [7,7]) bR) ?_);refine ld (.t4 .aa) (dQ _ og mI) ?_;refine cq (uq b.bb _ _ _ (a.f n.toNat) (ho.wk.sys.mo n.toNat og)) .h1 ?_;refine rq [0,1,2,3,4,5,6,7,8,9,10] mixed (ld (.t4 .aa) (fa _) (ld (.t4 .aa) (dL _) ?_));refine cq (wq _ _ a.g ho.wk.gI.ok _ _ _ (1000*T) (by have:=ho.wk.T0;omega) ho.wk.gS) (pk [5]) ?_;apply (cd)<;>intro h3
    ·have NW:=h3;refine XR.mono (fun _ bR=>qj (f:=a.f) (z:=n.toNat) (ps:=c.pp) (cs:=c.cc) (mb:=c.mb) (fS kL) (pk [1,1,1,1]) bR) ?_;refine bC rfl rfl rfl (ai (pk (3::rr 6 2 (rr 10 0 []))) rfl ?_);have hfc:a.free=ch:=KA.qW ⟨Kg.1.1,og⟩ DI Kg.2;have KQ:a.gE n≠0:=NW;have e1:a.mH n false=a.gE n:=by unfold KA.mH;rw[if_neg og,if_neg og,if_pos KQ]
     have e2:a.nk n false=0:=by unfold KA.nk;rw[if_neg og]
     have e3:a.gH n false=a:=by unfold KA.gH;rw[if_pos og]
     have hce:a.g.bI ((kp a b c).u n).cO 1 (a.f n.toNat).gk=a.g:=zc KQ;rw[e1,e2,e3];rw[hce];exact⟨rfl,c,hc.up og og,rfl⟩
    ·have ac2:a.gE n=0:=by
      have h9:=h3;have e9:a.g.dJ (a.u n).cO 1 (a.f n.toNat).gk=a.gE n:=rfl;have e8:a.g.dJ ((kp a b c).u n).cO 1 (a.f n.toNat).gk=a.gE n:=rfl;omega
     refine cq (kH b.kb (kp a b c) a.s n) (pk [5,5]) ?_;apply ld .aa (aB.uS _);refine cq (Kc _ _ a.s a.aK ho.wk.sI.D (a.s.bZ n).1 ch) (pk [1]) ?_;apply ww (σ:=Nat×Nat×Option Addr×Nat) (fun _=>True) (fun y=>[(0,ay b.kb 0 0),(8,ay b.kb 0 (0+0+n.toNat*22)),(10,iI ch),(12,iI (a.s.bZ n).1),(14,ay y.2.1 0 0)]) (fun y=>[dO b.kb (kp a b c),dl b.gb 0 (a.gC n),Sp.bY b.sb 0 (a.s.enter a.aK (a.s.bZ n).1 ch).2.2,d6 b.qb 0 c.q,.aV cI (SC.dI 254 c.q),d9 b.bb b.vp (a.v.jo (a.f n.toNat)).ja (a.v.jo (a.f n.toNat)).rf,Vm.d8 b.vp 0 (a.v.jo (a.f n.toNat)).bb.fu,d7 (c.mb n.toNat) b.bb (c.pp n.toNat) (Vm.aj (a.f n.toNat).az).length (c.cc n.toNat) (a.f n.toNat).fr fun _=>false,gc (c.pp n.toNat) (c.cc n.toNat) (Vm.aj (a.f n.toNat).az),d7 y.1 b.bb y.2.2.1 (Vm.aj (a.f n.toNat).az).length y.2.2.2 (a.f n.toNat).fr fun _=>false,gc y.2.2.1 y.2.2.2 (Vm.aj (a.f n.toNat).az),.eJ (jS (ka a) n.toNat) c.mb 34 (cN b.bb a.f c.pp c.cc),.aV (jS (ka a) n.toNat) (rN 171 a.f c.pp c.cc),bi b.tb 0 c.F,g6 c.F,g7 c.F,dH c.rp c.rc 3 c.rl,Tr.el b.pi 0 a.P,eQ b.ob 0 b.tb b.pi (Gh (a.u n).fd a.O (0:Int).toNat),.eJ (mF a) (fun z=>(c.t z).b) 4 (cT b.tb c.t),.aV (mF a) (rT 168 c.t),.cells y.2.1 0 22 (((kp a b c).gK n y.1).cell)])
     ·refine XC.ir mixed (f:=23) (l:= #[qF,qF,qF,qF,qF,qF,qF,qF,qF,qF,qF,qF,qF,qF,qF,qF,qF,qF,qF,qF,qF,qF,qF]) rfl rfl XM.kQ (XQ.mv 0 rfl rfl rfl (XQ.mv 1 rfl rfl rfl (XQ.nc 2 rfl rfl rfl (XQ.pw 3 rfl rfl (V.fieldAddr rfl Kk) (XQ.ll 4 [22] rfl rfl (.ao .aa) rfl (dL _) (XQ.mv 5 rfl rfl rfl (XQ.nc 6 rfl rfl rfl (XQ.pw 7 rfl rfl (V.fieldAddr rfl Kl) (XQ.ll 8 [9,17,22] rfl rfl (.ao .aa) rfl (dQ _ og mI) (XQ.mv 10 rfl rfl rfl (XQ.nc 11 rfl rfl rfl (XQ.pw 12 rfl rfl (V.fieldAddr rfl RU) (XQ.lf 13 [22] rfl rfl (.ao .aa) rfl (tW _) (XQ.mv 14 rfl rfl rfl (XQ.nc 15 rfl rfl rfl (XQ.pw 16 rfl rfl (V.fieldAddr rfl RW) (XQ.jo (i:=9) (j:=21) kq ?_ ?_)))))))))))))))))
      ·apply XS.call (i:=9) rfl rfl rfl (Kj b.bb b.vp _ a.v ho.wk.sys.jM.ok _ _ (a.f n.toNat) (ho.wk.sys.mo n.toNat og)) (pk [9,3,3]) kq rfl (by rintro _ _ ⟨nb,p1,c1,rfl,rfl⟩<;>exact ut);rintro _ _ ⟨nb,p1,c1,rfl,rfl⟩;apply XQ.jo (i:=17) (j:=21) kq
       ·apply XS.call (i:=17) rfl rfl rfl (xE b.kb (kp a b c) n kL) (pk [6]) kq rfl (by rintro _ _ ⟨bc,rfl,rfl⟩<;>exact ut);rintro _ _ ⟨bc,rfl,rfl⟩;refine XQ.nc 18 rfl rfl rfl (XQ.lf 19 [22] rfl rfl .aa rfl (nM _) (XQ.pw 20 rfl rfl (V.build (vs:= #[(0,iI 1),(1,iI n),(2,iI (a.u n).cO),(4,ay nb 0 0),(5,.agg (Vg (a.u n).fd)),(6,.agg (bxA (a.u n).bx.aW))]) rfl (v:=.agg ((kp a b c).gK n nb).c9) (pR n _ nb _ _)) (XQ.bP (i:=21) (z:=(.agg PU.nil.c9)) (m:=22) (C:=PU.nil.cell) rfl kq rfl kq rfl (PU.box PU.nil) rfl ut ?_)));intro ba;refine XQ.gz (i:=22) rfl kq rfl rfl rfl .aa (PU.EH _ _) ⟨rfl,rfl⟩ sU ut (XQ.done kq (gE (wd ((nb,ba,p1,c1)) ?_ (pk [2,8,7,9,9,2,8,2,2,2,2,2,2,2,2,2,2,2,2,2,2,0]))));trivial
       ·refine XS.bP (i:=21) (z:=(.agg PU.nil.c9)) (m:=22) (C:=PU.nil.cell) rfl rfl kq rfl (PU.box PU.nil) rfl ut ?_;intro ba;apply XQ.call (i:=17) rfl kq rfl rfl (xE b.kb (kp a b c) n kL) (pk [7]) kq rfl (by rintro _ _ ⟨bc,rfl,rfl⟩<;>exact ut);rintro _ _ ⟨bc,rfl,rfl⟩;refine XQ.nc 18 rfl rfl rfl (XQ.lf 19 [22] rfl rfl .aa rfl (nM _) (XQ.pw 20 rfl rfl (V.build (vs:= #[(0,iI 1),(1,iI n),(2,iI (a.u n).cO),(4,ay nb 0 0),(5,.agg (Vg (a.u n).fd)),(6,.agg (bxA (a.u n).bx.aW))]) rfl (v:=.agg ((kp a b c).gK n nb).c9) (pR n _ nb _ _)) (XQ.gz (i:=22) rfl kq rfl rfl rfl (.t2 .aa) (PU.EH _ _) ⟨rfl,rfl⟩ sU ut (XQ.done kq (gE (wd ((nb,ba,p1,c1)) ?_ (pk [1,8,7,9,9,2,8,2,2,2,2,2,2,2,2,2,2,2,2,2,2,1])))))));trivial
      ·refine XS.bP (i:=21) (z:=(.agg PU.nil.c9)) (m:=22) (C:=PU.nil.cell) rfl rfl kq rfl (PU.box PU.nil) rfl ut ?_;intro ba;apply XQ.call (i:=9) rfl kq rfl rfl (Kj b.bb b.vp _ a.v ho.wk.sys.jM.ok _ _ (a.f n.toNat) (ho.wk.sys.mo n.toNat og)) (pk [10,4,4]) kq rfl (by rintro _ _ ⟨nb,p1,c1,rfl,rfl⟩<;>exact ut);rintro _ _ ⟨nb,p1,c1,rfl,rfl⟩;apply XQ.call (i:=17) rfl kq rfl rfl (xE b.kb (kp a b c) n kL) (pk [7]) kq rfl (by rintro _ _ ⟨bc,rfl,rfl⟩<;>exact ut);rintro _ _ ⟨bc,rfl,rfl⟩;refine XQ.nc 18 rfl rfl rfl (XQ.lf 19 [22] rfl rfl .aa rfl (nM _) (XQ.pw 20 rfl rfl (V.build (vs:= #[(0,iI 1),(1,iI n),(2,iI (a.u n).cO),(4,ay nb 0 0),(5,.agg (Vg (a.u n).fd)),(6,.agg (bxA (a.u n).bx.aW))]) rfl (v:=.agg ((kp a b c).gK n nb).c9) (pR n _ nb _ _)) (XQ.gz (i:=22) rfl kq rfl rfl rfl (.t7 .aa) (PU.EH _ _) ⟨rfl,rfl⟩ sU ut (XQ.done kq (gE (wd ((nb,ba,p1,c1)) ?_ (pk [1,8,7,9,9,1,8,1,1,1,1,2,2,2,2,2,2,2,2,2,2,1])))))));trivial
     intro y hy;apply gC;apply mP (.ph (.t9 .aa)) (Xo _);refine wl (σ:=Int) (fun i=>(6-i).toNat) (fun i=>0<=i/\i<=6) (fun i=>[(133,iI i),(0,ay b.kb 0 0),(8,ay b.kb 0 (0+0+n.toNat*22)),(10,iI ch),(12,iI (a.s.bZ n).1),(14,ay y.2.1 0 0),(132,.agg (Vg (a.u n).fd))]) (fun i=>[dO b.kb (kp a b c),dl b.gb 0 (a.gC n),Sp.bY b.sb 0 (a.s.enter a.aK (a.s.bZ n).1 ch).2.2,d6 b.qb 0 c.q,.aV cI (SC.dI 254 c.q),d9 b.bb b.vp (a.v.jo (a.f n.toNat)).ja (a.v.jo (a.f n.toNat)).rf,Vm.d8 b.vp 0 (a.v.jo (a.f n.toNat)).bb.fu,d7 (c.mb n.toNat) b.bb (c.pp n.toNat) (Vm.aj (a.f n.toNat).az).length (c.cc n.toNat) (a.f n.toNat).fr fun _=>false,gc (c.pp n.toNat) (c.cc n.toNat) (Vm.aj (a.f n.toNat).az),d7 y.1 b.bb y.2.2.1 (Vm.aj (a.f n.toNat).az).length y.2.2.2 (a.f n.toNat).fr fun _=>false,gc y.2.2.1 y.2.2.2 (Vm.aj (a.f n.toNat).az),.eJ (jS (ka a) n.toNat) c.mb 34 (cN b.bb a.f c.pp c.cc),.aV (jS (ka a) n.toNat) (rN 171 a.f c.pp c.cc),bi b.tb 0 c.F,g6 c.F,g7 c.F,dH c.rp c.rc 3 c.rl,Tr.el b.pi 0 a.P,eQ b.ob 0 b.tb b.pi (Gh (a.u n).fd a.O i.toNat),.eJ (mF a) (fun z=>(c.t z).b) 4 (cT b.tb c.t),.aV (mF a) (rT 168 c.t),.cells y.2.1 0 22 (((kp a b c).gK n y.1).cell)]) (0) ?_ (pz 22) ?_
     ·omega
     intro i hi;have amf:=ho.wk.fd n i;apply gC;apply (cd)<;>intro h4
     ·refine XO.v (mu rfl rfl underlying83 o4 kq) rfl (gO ?_);apply (cd)<;>intro h5
      ·have h26:(a.u n).fd i>0:=h5;refine ld .aa (gw _) (sd ?_);refine cq (Kp _ _ _ _ _ (T+6) og ((AL (f:=(a.u n).fd) ho.wk.OI i.toNat).mono og) _) (pk [18]) ?_;refine sd (ag (i+1) ?_ ?_ (.cons rfl S6) fun _ mK=>by rw[Rn _ hi.1 h26];exact XM.pick (pk [1,1,1,1,1,1,1,1,1,1,1,1,1,1,1,1,1,1,0,0,0,0]) mK);all_goals omega
      ·have h26:¬(a.u n).fd i>0:=h5;refine sd (ag (i+1) ?_ ?_ (.cons rfl S6) fun _ mK=>by rw[M2 _ hi.1 h26];exact XM.pick (pz 22) mK);all_goals omega
     ·refine rq [0,1,2,3,4,5,6] mixed (mP (.ph (.t9 .aa)) (PU.agg _) (sd (gu .aa (aB.EH _ og _) rfl ⟨rfl,rfl⟩ (rq [0,1,2,3,4,5,6,7,8,9] mixed (ld .aa (fv _) (ld .aa (dL _) ?_))))));refine ca (Cm _ _ c.q c.d hc.qO.inv hc.qR ch _ 100) (pk [3,3]) ?_;rintro _ _ ⟨rfl,q1,NP,Kf,rfl⟩;obtain⟨d1,ZF⟩:∃ d1,q1.toSF.Ok d1 (N+1) N:=by rw[NP];exact hc.qO.uN og _ _ _
      apply gO;apply ld (.t2 .aa) (fv _);refine ca (Kh _ _ q1 d1 ZF.inv Kf ch true) (pz 2) ?_;rintro _ _ ⟨rfl,q2,uV,A4,rfl⟩;have ahb:q2.toSF.Ok d1 (N+1) N:=by rw[uV];exact ZF.gN _ _
      apply gO;apply ld (.t2 .aa) (aB.uS _);refine cq (RC _ _ (a.s.enter a.aK (a.s.bZ n).1 ch).2.2 _ _) (pk [4]) ?_;refine XR.mono (fun _ bR=>mZ (f:=a.f) (a.f n.toNat).bare (fS kL) (pk [7,7,9,9]) bR) ?_;refine XR.mono (fun _ bR=>Dx (a.f n.toNat).bare (Yh ⟨Kg.1.1,og⟩ DI) (pk [9,9,0,0]) bR) ?_;refine bC rfl rfl rfl (ai (pk (5::5::2::2::2::2::2::rr 10 0 [])) rfl ?_);have hi6:i=6:=og;subst hi6;have hfc:a.free=ch:=KA.qW ⟨Kg.1.1,og⟩ DI Kg.2;subst hfc;have hI:=ho.wk.fkI (n:=n) (aU:=false) (SS.Inv.jK ho.wk.sI ho.r0.loc) hl og rfl;have KQ:a.gE n=0:=ac2;have e1:a.mH n false=0:=by unfold KA.mH;rw[if_neg og,if_neg og,if_neg og];rfl
      have e2:a.nk n false=((a.cS n false).s.js a.free (a.sz n)).1:=by unfold KA.nk;rw[if_pos e1]
      have e3:a.gH n false=a.cS n false:=by unfold KA.gH;rw[if_neg og,if_neg (by exact fun q=>q rfl)]
      have e4:((a.cS n false).s.js a.free (a.sz n)).2=0:=hI.js.1;have C7:cP (a.cS n false) {c with mb:=bD c.mb a.free.toNat y.1,pp:=bD (bD c.pp n.toNat (c.pp n.toNat)) a.free.toNat y.2.2.1,cc:=bD (bD c.cc n.toNat (c.cc n.toNat)) a.free.toNat y.2.2.2,q:=q2,d:=d1} (N+1) (T+20):=by
       refine⟨ahb.mono (Nat.le_refl _) og,A4,FF.Ok.up hc.F og,hc.rp,hc.rc,hc.rl,fun z h0 h1 h2=>hc.tb z h0 h1 (by rwa[hI.AN]at h2),hc.Yi hI NP uV⟩
      rw[e1,e2,e3];refine⟨?_,_,C7,?_⟩
      ·rw[<-e4];rfl
      ·try unfold du
       rw[Ro (c':= {c with mb:=bD c.mb a.free.toNat y.1,pp:=bD (bD c.pp n.toNat (c.pp n.toNat)) a.free.toNat y.2.2.1,cc:=bD (bD c.cc n.toNat (c.cc n.toNat)) a.free.toNat y.2.2.2,q:=q2,d:=d1}) ho.wk hI rfl rfl ⟨⟨rfl,rfl,rfl,rfl⟩,rfl,rfl,rfl⟩ (by show _=(fun z=>if(a.cS n false).s.aa z then ay (c.t z.toNat).b 0 0 else .pointer none);rw[hI.AN];rfl),M4 hI,Yg hI];rfl
  ·refine cdT rfl og (bC rfl rfl rfl (ai (pz 17) rfl ?_));try dsimp only[aR,aQ,bH,bQ]
   grind [KA.DD,KA.mH,KA.nk,KA.gH,cP.up,ax]
 ·have hl:a.aF n≠0:=hl;have jz:(kp a b c).aF n=a.aF n:=rfl;rw[jz];apply gO;refine fg (pz 17) ?_;grind [aR,aQ,bQ,KA.mH,KA.nk,KA.gH,aL,cP.up]
theorem U5{a:KA}{b:KZ}{n:Int}(hI:a.Dk n true)(xH:(a.s.add a.aK (a.s.bZ n).1).2.1=0)(hh:a.s.aa 0=true)(c c':KC){x:TB}(hc:c'.t=bD c.t (a.s.add a.aK (a.s.bZ n).1).1.toNat x):ad (kp a b c).ms (a.s.add a.aK (a.s.bZ n).1).1 (ay x.b 0 0)=(kp (a.cS n true) b c').ms:=by
 have h1:=uk xH;show _=fun z=>if(a.cS n true).s.aa z then ay (c'.t z.toNat).b 0 0 else .pointer none
 rw[hI.AN,hc];have h2:(a.sA n true).aa=ad a.s.aa (a.s.add a.aK (a.s.bZ n).1).1 true:=h1.2.2;rw[h2];funext z;by_cases e:z=(a.s.add a.aK (a.s.bZ n).1).1
 ·grind [bD,ad]
 grind [bD,ad,kp]
def ac3(a:KA)(b:KZ)(c:KC)(N:Nat)(T:Int)(ho:a.Ok T)(hc:cP a c N T)(hT:T<=800000)(n:Int):Fn 14 [ay b.kb 0 0,iI n,.bool true] (du a b c []) (fun v H1=>v= .tuple #[iI (a.nk n true),ax 102 (a.mH n true)]/\∃ c1:KC,cP (a.gH n true) c1 (N+1) (T+20)/\H1=(du (a.gH n true) b c1 [])):=by
 refine Spec.go 177 [0,1,2,6,7,8,9,10,11,12,13,14,16,24,37,41,59,65,76,132,133,134,137] [(22,0)] func14 fun W=> ?_;refine ca (fm b.kb (kp a b c) n) .h1 ?_;rintro _ _ ⟨⟨hl,rfl⟩ | ⟨hl,rfl⟩,rfl⟩
 obtain⟨kL,iw⟩:=bM hl;have hl:a.aF n=0:=hl;have iw:(a.u n).st=1:=iw;have mI:=qo a b c (n:=n);apply gO;refine wl (σ:=Int) (fun ch=>(20-ch).toNat) (fun ch=>(0<=ch/\ch<=20)/\∀ j:Int,0<=j->j<ch->(a.u j).st≠0) (fun ch=>[(10,iI ch),(0,ay b.kb 0 0),(1,iI n),(2,.bool true),(8,ay b.kb 0 (0+0+n.toNat*22))]) (fun ch=>du a b c []) (0) ?_ (pz 17) ?_
 ·grind
 intro ch Kg;have amc:=Kg.1;apply gC;apply UV 28<;>intro h1
 refine sd (ld .aa (gY _) ?_);apply (cd)<;>intro h2
 ·have amd:(a.u ch).st≠0:=h2;refine sd (wn (ch+1) ?_ ?_ (pz 17));all_goals grind
 have DI:(a.u ch).st=0:=by
  have h9:=h2;have e9:((kp a b c).u ch).st=(a.u ch).st:=rfl;omega
 refine KJ rfl og (XR.mono (fun _ bR=>lz (z:=n.toNat) (fS kL) (pk [7,7]) bR) ?_);refine ld (.t4 .aa) (dQ _ og mI) ?_;refine cq (uq b.bb _ _ _ (a.f n.toNat) (ho.wk.sys.mo n.toNat og)) .h1 ?_;refine rq [0,1,2,3,4,5,6,7,8,9,10] mixed (ld (.t4 .aa) (fa _) (ld (.t4 .aa) (dL _) ?_));refine cq (wq _ _ a.g ho.wk.gI.ok _ _ _ (1000*T) (by have:=ho.wk.T0;omega) ho.wk.gS) (pk [5]) ?_;apply (cd)<;>intro h3
 ·have NW:=h3;refine XR.mono (fun _ bR=>qj (f:=a.f) (z:=n.toNat) (ps:=c.pp) (cs:=c.cc) (mb:=c.mb) (fS kL) (pk [1,1,1,1]) bR) ?_;refine bC rfl rfl rfl (ai (pk (3::rr 6 2 (rr 10 0 []))) rfl ?_);have hfc:a.free=ch:=KA.qW ⟨Kg.1.1,og⟩ DI Kg.2;have KQ:a.gE n≠0:=NW;have e1:a.mH n true=a.gE n:=by unfold KA.mH;rw[if_neg og,if_neg og,if_pos KQ]
  have e2:a.nk n true=0:=by unfold KA.nk;rw[if_neg og]
  have e3:a.gH n true=a:=by unfold KA.gH;rw[if_pos og]
  have hce:a.g.bI ((kp a b c).u n).cO 1 (a.f n.toNat).gk=a.g:=zc KQ;rw[e1,e2,e3];rw[hce];exact⟨rfl,c,hc.up og og,rfl⟩
 have ac2:a.gE n=0:=by
  have h9:=h3;have e9:a.g.dJ (a.u n).cO 1 (a.f n.toNat).gk=a.gE n:=rfl;have e8:a.g.dJ ((kp a b c).u n).cO 1 (a.f n.toNat).gk=a.gE n:=rfl;omega
 refine cq (kH b.kb (kp a b c) a.s n) (pk [5,5]) ?_;apply ld .aa (aB.uS _);refine cq (ai6 _ _ a.s a.aK ho.wk.sI.D ho.wk.sI.A (a.s.bZ n).1) (pk [1]) ?_;apply (cd)<;>intro h4
 ·have xH:(a.s.add a.aK (a.s.bZ n).1).2.1≠0:=h4;refine rq [0,1,2,3,4,5,6,7,8,9] mixed (ld (.ao .aa) (fa _) (ld (.ao .aa) (dL _) ?_));refine cq (n5 _ _ (a.gC n) (ho.wk.gI.bI _ _ _).ok _ _ _ (1000*T+320) (by have:=ho.wk.T0;omega) (ho.wk.gS.bI ho.wk.gI.ok _ _ _)) (pk [2]) ?_;refine XR.mono (fun _ bR=>qj (f:=a.f) (z:=n.toNat) (ps:=c.pp) (cs:=c.cc) (mb:=c.mb) (fS kL) (pk [3,3,3,3]) bR) ?_;refine bC rfl rfl rfl (ai (pk (4::rr 6 2 (rr 10 0 []))) rfl ?_);have KQ:a.gE n=0:=ac2;have hfc:a.free=ch:=KA.qW ⟨Kg.1.1,og⟩ DI Kg.2;have e1:a.mH n true=(a.s.add a.aK (a.s.bZ n).1).2.1:=by unfold KA.mH;rw[if_neg og,if_neg og,if_neg og];show a.inE n true=_;rw[show a.inE n true=(a.s.add a.aK (a.s.bZ n).1).2.1 from rfl]
  have e2:a.nk n true=0:=by unfold KA.nk;rw[if_neg og]
  have e3:a.gH n true= {a with g:=(a.gC n).eb (a.u n).cO 1 (a.gk n)} :=by unfold KA.gH;rw[if_neg og,if_pos (by exact xH)]
  have hse:(a.s.add a.aK (a.s.bZ n).1).2.2=a.s:=by
   rcases a.s.pJ a.aK (a.s.bZ n).1 with⟨_,_,q⟩ | ⟨k,_,_,_,_,q5⟩;all_goals simp_all
  rw[e1,e2,e3,hse];exact⟨rfl,c,⟨hc.qO.mono og og,hc.qR,FF.Ok.up hc.F og,hc.rp,hc.rc,hc.rl,hc.tb,hc.tk⟩,rfl⟩
 have xH:(a.s.add a.aK (a.s.bZ n).1).2.1=0:=by
  omega
 have hfc:a.free=ch:=KA.qW ⟨Kg.1.1,og⟩ DI Kg.2;have hI:=ho.wk.fkI (n:=n) (aU:=true) (SS.Inv.jK ho.wk.sI ho.r0.loc) hl og xH;have hzr:(0<=(a.s.bZ n).1/\(a.s.bZ n).1<6)/\a.s.aa (a.s.bZ n).1=true:=⟨⟨hI.z.1,hI.z.2.1⟩,hI.z.2.2⟩;have jc:=hc.tb _ hzr.1.1 hzr.1.2 hzr.2;have hnz:=uk xH;refine XR.mono (fun _ bR=>iv (z:=(a.s.bZ n).1.toNat) (eG hzr.1 hzr.2) (pk [17,17]) bR) ?_;refine rq [0,1,2,3,4,5,6,7,9,10,8,11,12] mixed (sd (ld (.t5 .aa) (uh _ hzr.1 (Ya a b c hzr.2)) ?_));refine ca (agO _ _ _ _ _ _ _ _ _ jc.rv jc.mc jc.len c.F c.dF T hc.F og) (pk [0,0,13,13,13]) ?_;rintro _ _ ⟨R5,p2,qx,k2,c2,C2,F1,rfl,ZW,hC2,P4,R6,RZ,Kf,rfl⟩;apply gO;refine sd (st (.t10 .aa) (vG _ hnz.1 _) rfl (XR.mono (fun _ bR=>iq (z:=(a.s.bZ n).1.toNat) (eG hzr.1 hzr.2) (pk [2,2,5,5]) bR) ?_));refine XR.mono (fun _ bR=>JW (z:=(a.s.add a.aK (a.s.bZ n).1).1.toNat) ⟨R5,(c.t (a.s.bZ n).1.toNat).r,(c.t (a.s.bZ n).1.toNat).l,p2,qx,k2,c2,C2⟩ (afR hnz.1 hnz.2.1) (pk [2,2,0,0]) bR) ?_;refine ld (.t6 .aa) (aB.uS _) ?_;refine cq (Kc _ _ (a.s.add a.aK (a.s.bZ n).1).2.2 (a.dA n true) hI.inv.D (a.s.add a.aK (a.s.bZ n).1).1 ch) (pk [5]) ?_;apply ww (σ:=Nat×Nat×Option Addr×Nat×Nat×TB×FC) (fun y=>y.2.2.2.2.2.2.toFF.Ok c.dF (T+13)/\y.2.2.2.2.2.2.rP=c.F.rP/\y.2.2.2.2.2.2.rC=c.F.rC/\y.2.2.2.2.2.2.roots=c.F.roots/\y.2.2.2.2.2.1.Ok) (fun y=>[(0,ay b.kb 0 0),(8,ay b.kb 0 (0+0+n.toNat*22)),(10,iI ch),(12,iI (a.s.bZ n).1),(14,ay y.2.1 0 0)]) (fun y=>[dO b.kb ({kp a b c with ms:=ad (kp a b c).ms (a.s.add a.aK (a.s.bZ n).1).1 (ay y.2.2.2.2.2.1.b 0 0)} :KP),dl b.gb 0 (a.gC n),Sp.bY b.sb 0 ((a.s.add a.aK (a.s.bZ n).1).2.2.enter (a.dA n true) (a.s.add a.aK (a.s.bZ n).1).1 ch).2.2,d6 b.qb 0 c.q,.aV cI (SC.dI 254 c.q),d9 b.bb b.vp (a.v.jo (a.f n.toNat)).ja (a.v.jo (a.f n.toNat)).rf,Vm.d8 b.vp 0 (a.v.jo (a.f n.toNat)).bb.fu,d7 (c.mb n.toNat) b.bb (c.pp n.toNat) (Vm.aj (a.f n.toNat).az).length (c.cc n.toNat) (a.f n.toNat).fr fun _=>false,gc (c.pp n.toNat) (c.cc n.toNat) (Vm.aj (a.f n.toNat).az),d7 y.1 b.bb y.2.2.1 (Vm.aj (a.f n.toNat).az).length y.2.2.2.1 (a.f n.toNat).fr fun _=>false,gc y.2.2.1 y.2.2.2.1 (Vm.aj (a.f n.toNat).az),.eJ (jS (ka a) n.toNat) c.mb 34 (cN b.bb a.f c.pp c.cc),.aV (jS (ka a) n.toNat) (rN 171 a.f c.pp c.cc),bi b.tb 0 y.2.2.2.2.2.2,g6 y.2.2.2.2.2.2,g7 y.2.2.2.2.2.2,dH c.rp c.rc 3 c.rl,Tr.el b.pi 0 a.P,eQ b.ob 0 b.tb b.pi (Gh (a.u n).fd a.O (0:Int).toNat),.eJ (He (mF a) (a.s.add a.aK (a.s.bZ n).1).1.toNat) (fun z=>((bD c.t (a.s.add a.aK (a.s.bZ n).1).1.toNat y.2.2.2.2.2.1) z).b) 4 (cT b.tb (bD c.t (a.s.add a.aK (a.s.bZ n).1).1.toNat y.2.2.2.2.2.1)),.aV (He (mF a) (a.s.add a.aK (a.s.bZ n).1).1.toNat) (rT 168 (bD c.t (a.s.add a.aK (a.s.bZ n).1).1.toNat y.2.2.2.2.2.1)),.cells y.2.1 0 22 (((kp a b c).gK n y.1).cell)])
 refine XC.ir mixed (f:=23) (l:= #[qF,qF,qF,qF,qF,qF,qF,qF,qF,qF,qF,qF,qF,qF,qF,qF,qF,qF,qF,qF,qF,qF,qF]) rfl rfl XM.kQ (XQ.mv 0 rfl rfl rfl (XQ.mv 1 rfl rfl rfl (XQ.nc 2 rfl rfl rfl (XQ.pw 3 rfl rfl (V.fieldAddr rfl Kk) (XQ.ll 4 [22] rfl rfl (.t6 .aa) rfl (dL _) (XQ.mv 5 rfl rfl rfl (XQ.nc 6 rfl rfl rfl (XQ.pw 7 rfl rfl (V.fieldAddr rfl Kl) (XQ.ll 8 [9,17,22] rfl rfl (.t6 .aa) rfl (dQ _ og mI) (XQ.mv 10 rfl rfl rfl (XQ.nc 11 rfl rfl rfl (XQ.pw 12 rfl rfl (V.fieldAddr rfl RU) (XQ.lf 13 [22] rfl rfl (.t6 .aa) rfl (tW _) (XQ.mv 14 rfl rfl rfl (XQ.nc 15 rfl rfl rfl (XQ.pw 16 rfl rfl (V.fieldAddr rfl RW) (XQ.jo (i:=9) (j:=21) kq ?_ ?_)))))))))))))))))
 apply XS.call (i:=9) rfl rfl rfl (Kj b.bb b.vp _ a.v ho.wk.sys.jM.ok _ _ (a.f n.toNat) (ho.wk.sys.mo n.toNat og)) (pk [14,8,8]) kq rfl (by rintro _ _ ⟨nb,p1,c1,rfl,rfl⟩<;>exact ut);rintro _ _ ⟨nb,p1,c1,rfl,rfl⟩;apply XQ.jo (i:=17) (j:=21) kq
 apply XS.call (i:=17) rfl rfl rfl (xE b.kb ({kp a b c with ms:=ad (kp a b c).ms (a.s.add a.aK (a.s.bZ n).1).1 (ay R5 0 0)} :KP) n kL) (pk [11]) kq rfl (by rintro _ _ ⟨bc,rfl,rfl⟩<;>exact ut);rintro _ _ ⟨bc,rfl,rfl⟩;refine XQ.nc 18 rfl rfl rfl (XQ.lf 19 [22] rfl rfl .aa rfl (nM _) (XQ.pw 20 rfl rfl (V.build (vs:= #[(0,iI 1),(1,iI n),(2,iI (a.u n).cO),(4,ay nb 0 0),(5,.agg (Vg (a.u n).fd)),(6,.agg (bxA (a.u n).bx.aW))]) rfl (v:=.agg ((kp a b c).gK n nb).c9) (pR n _ nb _ _)) (XQ.bP (i:=21) (z:=(.agg PU.nil.c9)) (m:=22) (C:=PU.nil.cell) rfl kq rfl kq rfl (PU.box PU.nil) rfl ut ?_)));intro ba;refine XQ.gz (i:=22) rfl kq rfl rfl rfl .aa (PU.EH _ _) ⟨rfl,rfl⟩ sU ut (XQ.done kq (gE (wd ((nb,ba,p1,c1,0,⟨R5,(c.t (a.s.bZ n).1.toNat).r,(c.t (a.s.bZ n).1.toNat).l,p2,qx,k2,c2,C2⟩,F1)) ?_ (pk [2,13,7,14,14,2,13,2,2,2,2,7,7,4,4,4,4,4,4,2,2,0]))));rotate_left
 refine XS.bP (i:=21) (z:=(.agg PU.nil.c9)) (m:=22) (C:=PU.nil.cell) rfl rfl kq rfl (PU.box PU.nil) rfl ut ?_;intro ba;apply XQ.call (i:=17) rfl kq rfl rfl (xE b.kb ({kp a b c with ms:=ad (kp a b c).ms (a.s.add a.aK (a.s.bZ n).1).1 (ay R5 0 0)} :KP) n kL) (pk [12]) kq rfl (by rintro _ _ ⟨bc,rfl,rfl⟩<;>exact ut);rintro _ _ ⟨bc,rfl,rfl⟩;refine XQ.nc 18 rfl rfl rfl (XQ.lf 19 [22] rfl rfl .aa rfl (nM _) (XQ.pw 20 rfl rfl (V.build (vs:= #[(0,iI 1),(1,iI n),(2,iI (a.u n).cO),(4,ay nb 0 0),(5,.agg (Vg (a.u n).fd)),(6,.agg (bxA (a.u n).bx.aW))]) rfl (v:=.agg ((kp a b c).gK n nb).c9) (pR n _ nb _ _)) (XQ.gz (i:=22) rfl kq rfl rfl rfl (.t2 .aa) (PU.EH _ _) ⟨rfl,rfl⟩ sU ut (XQ.done kq (gE (wd ((nb,ba,p1,c1,0,⟨R5,(c.t (a.s.bZ n).1.toNat).r,(c.t (a.s.bZ n).1.toNat).l,p2,qx,k2,c2,C2⟩,F1)) ?_ (pk [1,13,7,14,14,2,13,2,2,2,2,7,7,4,4,4,4,4,4,2,2,1])))))));rotate_left
 refine XS.bP (i:=21) (z:=(.agg PU.nil.c9)) (m:=22) (C:=PU.nil.cell) rfl rfl kq rfl (PU.box PU.nil) rfl ut ?_;intro ba;apply XQ.call (i:=9) rfl kq rfl rfl (Kj b.bb b.vp _ a.v ho.wk.sys.jM.ok _ _ (a.f n.toNat) (ho.wk.sys.mo n.toNat og)) (pk [15,9,9]) kq rfl (by rintro _ _ ⟨nb,p1,c1,rfl,rfl⟩<;>exact ut);rintro _ _ ⟨nb,p1,c1,rfl,rfl⟩;apply XQ.call (i:=17) rfl kq rfl rfl (xE b.kb ({kp a b c with ms:=ad (kp a b c).ms (a.s.add a.aK (a.s.bZ n).1).1 (ay R5 0 0)} :KP) n kL) (pk [12]) kq rfl (by rintro _ _ ⟨bc,rfl,rfl⟩<;>exact ut);rintro _ _ ⟨bc,rfl,rfl⟩;refine XQ.nc 18 rfl rfl rfl (XQ.lf 19 [22] rfl rfl .aa rfl (nM _) (XQ.pw 20 rfl rfl (V.build (vs:= #[(0,iI 1),(1,iI n),(2,iI (a.u n).cO),(4,ay nb 0 0),(5,.agg (Vg (a.u n).fd)),(6,.agg (bxA (a.u n).bx.aW))]) rfl (v:=.agg ((kp a b c).gK n nb).c9) (pR n _ nb _ _)) (XQ.gz (i:=22) rfl kq rfl rfl rfl (.t7 .aa) (PU.EH _ _) ⟨rfl,rfl⟩ sU ut (XQ.done kq (gE (wd ((nb,ba,p1,c1,0,⟨R5,(c.t (a.s.bZ n).1.toNat).r,(c.t (a.s.bZ n).1.toNat).l,p2,qx,k2,c2,C2⟩,F1)) ?_ (pk [1,13,7,14,14,1,13,1,1,1,1,7,7,4,4,4,4,4,4,2,2,1])))))));rotate_left
 intro y hy;apply gC;apply mP (.ph (.t9 .aa)) (Xo _);refine wl (σ:=Int) (fun i=>(6-i).toNat) (fun i=>0<=i/\i<=6) (fun i=>[(133,iI i),(0,ay b.kb 0 0),(8,ay b.kb 0 (0+0+n.toNat*22)),(10,iI ch),(12,iI (a.s.bZ n).1),(14,ay y.2.1 0 0),(132,.agg (Vg (a.u n).fd))]) (fun i=>[dO b.kb ({kp a b c with ms:=ad (kp a b c).ms (a.s.add a.aK (a.s.bZ n).1).1 (ay y.2.2.2.2.2.1.b 0 0)} :KP),dl b.gb 0 (a.gC n),Sp.bY b.sb 0 ((a.s.add a.aK (a.s.bZ n).1).2.2.enter (a.dA n true) (a.s.add a.aK (a.s.bZ n).1).1 ch).2.2,d6 b.qb 0 c.q,.aV cI (SC.dI 254 c.q),d9 b.bb b.vp (a.v.jo (a.f n.toNat)).ja (a.v.jo (a.f n.toNat)).rf,Vm.d8 b.vp 0 (a.v.jo (a.f n.toNat)).bb.fu,d7 (c.mb n.toNat) b.bb (c.pp n.toNat) (Vm.aj (a.f n.toNat).az).length (c.cc n.toNat) (a.f n.toNat).fr fun _=>false,gc (c.pp n.toNat) (c.cc n.toNat) (Vm.aj (a.f n.toNat).az),d7 y.1 b.bb y.2.2.1 (Vm.aj (a.f n.toNat).az).length y.2.2.2.1 (a.f n.toNat).fr fun _=>false,gc y.2.2.1 y.2.2.2.1 (Vm.aj (a.f n.toNat).az),.eJ (jS (ka a) n.toNat) c.mb 34 (cN b.bb a.f c.pp c.cc),.aV (jS (ka a) n.toNat) (rN 171 a.f c.pp c.cc),bi b.tb 0 y.2.2.2.2.2.2,g6 y.2.2.2.2.2.2,g7 y.2.2.2.2.2.2,dH c.rp c.rc 3 c.rl,Tr.el b.pi 0 a.P,eQ b.ob 0 b.tb b.pi (Gh (a.u n).fd a.O i.toNat),.eJ (He (mF a) (a.s.add a.aK (a.s.bZ n).1).1.toNat) (fun z=>((bD c.t (a.s.add a.aK (a.s.bZ n).1).1.toNat y.2.2.2.2.2.1) z).b) 4 (cT b.tb (bD c.t (a.s.add a.aK (a.s.bZ n).1).1.toNat y.2.2.2.2.2.1)),.aV (He (mF a) (a.s.add a.aK (a.s.bZ n).1).1.toNat) (rT 168 (bD c.t (a.s.add a.aK (a.s.bZ n).1).1.toNat y.2.2.2.2.2.1)),.cells y.2.1 0 22 (((kp a b c).gK n y.1).cell)]) (0) ?_ (pz 22) ?_
 ·omega
 intro i hi;have amf:=ho.wk.fd n i;apply gC;apply (cd)<;>intro h5
 ·refine XO.v (mu rfl rfl underlying83 o4 kq) rfl (gO ?_);apply (cd)<;>intro h6
  ·have h26:(a.u n).fd i>0:=h6;refine ld .aa (gw _) (sd ?_);refine cq (Kp _ _ _ _ _ (T+6) og ((AL (f:=(a.u n).fd) ho.wk.OI i.toNat).mono og) _) (pk [18]) ?_;refine sd (ag (i+1) ?_ ?_ (.cons rfl S6) fun _ mK=>by rw[Rn _ hi.1 h26];exact XM.pick (pk [1,1,1,1,1,1,1,1,1,1,1,1,1,1,1,1,1,1,0,0,0,0]) mK);all_goals omega
  ·have h26:¬(a.u n).fd i>0:=h6;refine sd (ag (i+1) ?_ ?_ (.cons rfl S6) fun _ mK=>by rw[M2 _ hi.1 h26];exact XM.pick (pz 22) mK);all_goals omega
 ·refine rq [0,1,2,3,4,5,6] mixed (mP (.ph (.t9 .aa)) (PU.agg _) (sd (gu .aa (aB.EH _ og _) rfl ⟨rfl,rfl⟩ (rq [0,1,2,3,4,5,6,7,8,9] mixed (ld .aa (fv _) (ld .aa (dL _) ?_))))));refine ca (Cm _ _ c.q c.d hc.qO.inv hc.qR ch _ 100) (pk [3,3]) ?_;rintro _ _ ⟨rfl,q1,NP,Kf,rfl⟩;obtain⟨d1,ZF⟩:∃ d1,q1.toSF.Ok d1 (N+1) N:=by rw[NP];exact hc.qO.uN og _ _ _
  apply gO;apply ld (.t2 .aa) (fv _);refine ca (Kh _ _ q1 d1 ZF.inv Kf ch true) (pz 2) ?_;rintro _ _ ⟨rfl,q2,uV,A4,rfl⟩;have ahb:q2.toSF.Ok d1 (N+1) N:=by rw[uV];exact ZF.gN _ _
  apply gO;apply ld (.t2 .aa) (aB.uS _);refine cq (RC _ _ ((a.s.add a.aK (a.s.bZ n).1).2.2.enter (a.dA n true) (a.s.add a.aK (a.s.bZ n).1).1 ch).2.2 _ _) (pk [4]) ?_;refine XR.mono (fun _ bR=>mZ (f:=a.f) (a.f n.toNat).bare (fS kL) (pk [7,7,9,9]) bR) ?_;refine XR.mono (fun _ bR=>Dx (a.f n.toNat).bare (Yh ⟨Kg.1.1,og⟩ DI) (pk [9,9,0,0]) bR) ?_;refine bC rfl rfl rfl (ai (pk (5::5::2::2::2::2::2::rr 10 0 [])) rfl ?_);have hi6:i=6:=og;subst hi6;have hfc:a.free=ch:=KA.qW ⟨Kg.1.1,og⟩ DI Kg.2;subst hfc;have KQ:a.gE n=0:=ac2;have e1:a.mH n true=0:=by unfold KA.mH;rw[if_neg og,if_neg og,if_neg og];exact xH
  have e2:a.nk n true=((a.cS n true).s.js a.free (a.sz n)).1:=by unfold KA.nk;rw[if_pos e1]
  have e3:a.gH n true=a.cS n true:=by unfold KA.gH;rw[if_neg og,if_neg (by exact fun q=>q xH)]
  have e4:((a.cS n true).s.js a.free (a.sz n)).2=0:=hI.js.1;have C7:cP (a.cS n true) {c with mb:=bD c.mb a.free.toNat y.1,pp:=bD (bD c.pp n.toNat (c.pp n.toNat)) a.free.toNat y.2.2.1,cc:=bD (bD c.cc n.toNat (c.cc n.toNat)) a.free.toNat y.2.2.2.1,q:=q2,d:=d1,F:=y.2.2.2.2.2.2,t:=bD c.t (a.s.add a.aK (a.s.bZ n).1).1.toNat y.2.2.2.2.2.1} (N+1) (T+20):=by
   refine⟨ahb.mono (Nat.le_refl _) og,A4,FF.Ok.up hy.1 og,hy.2.1.trans hc.rp,hy.2.2.1.trans hc.rc,hy.2.2.2.1.trans hc.rl,fun z h0 h1 h2=> ?_,hc.Yi hI NP uV⟩;by_cases ez:z.toNat=(a.s.add a.aK (a.s.bZ n).1).1.toNat
   ·grind [ly]
   ·show(bD c.t _ y.2.2.2.2.2.1 z.toNat).Ok;rw[iu _ _ ez];apply hc.tb z h0 h1;rw[hI.AN]at h2;have h2:(a.s.add a.aK (a.s.bZ n).1).2.2.aa z=true:=h2;rw[(uk xH).2.2,ae _ _ og]at h2;omega
  rw[e1,e2,e3];refine⟨?_,_,C7,?_⟩
  ·rw[<-e4];rfl
  ·try unfold du
   rw[Ro (c':= {c with mb:=bD c.mb a.free.toNat y.1,pp:=bD (bD c.pp n.toNat (c.pp n.toNat)) a.free.toNat y.2.2.1,cc:=bD (bD c.cc n.toNat (c.cc n.toNat)) a.free.toNat y.2.2.2.1,q:=q2,d:=d1,F:=y.2.2.2.2.2.2,t:=bD c.t (a.s.add a.aK (a.s.bZ n).1).1.toNat y.2.2.2.2.2.1}) (K:=({kp a b c with ms:=ad (kp a b c).ms (a.s.add a.aK (a.s.bZ n).1).1 (ay y.2.2.2.2.2.1.b 0 0)} :KP)) ho.wk hI rfl rfl ⟨⟨rfl,rfl,rfl,rfl⟩,rfl,rfl,rfl⟩ (U5 hI xH (SS.Inv.jK ho.wk.sI ho.r0.loc) c _ rfl),M4 hI,Uj hI xH];rfl
 ·refine cdT rfl og (bC rfl rfl rfl (ai (pz 17) rfl ?_));try dsimp only[aR,aQ,bH,bQ]
  grind [KA.DD,KA.mH,KA.nk,KA.gH,cP.up,ax]
 ·have hl:a.aF n≠0:=hl;have jz:(kp a b c).aF n=a.aF n:=rfl;rw[jz];apply gO;refine fg (pz 17) ?_;grind [aR,aQ,bQ,KA.mH,KA.nk,KA.gH,aL,cP.up]
 all_goals exact⟨R6,RZ,Kf,(by show F1.toFF.roots=_;rw[P4,uj]),⟨ZW,hC2,jc.len⟩⟩
end Go.X.Kn

namespace Go.X.Kn
open Go Go.Proofs Go.X
def NB:Fn 12 [] [] (fun x H1=>∃ (b:KZ) (c:KC),x= .tuple #[ay b.kb 0 0,.bool true]/\c.q.toSF=(Q2.l8 dK).2/\c.d=dK/\cP A0 c 1 2/\H1=(du A0 b c [])):=by
 refine Spec.g 18 [0,1,2,16] func12 fun W=> ?_;refine ca (ag9) .nil ?_;rintro _ _ ⟨b,c,rfl,hq,hd,hc,rfl⟩;apply gO;refine ca (ac0 b.kb (kp A0 b c) c.q hq hc.qR) (pk [0,2,2]) ?_;rintro _ _ ⟨rfl,q2,uV,A4,rfl⟩;apply gO;apply spF 11 rfl sq;refine ca (Kv b.kb (kp A0 b c)) .h1 ?_;rintro _ _ ⟨pl,cl,rfl,rfl⟩;rw[NA (Yr b c)];apply gO;apply KJ rfl sq;refine bC rfl rfl rfl (ai (pk (1::3::3::rr 14 1 [])) rfl ?_);exact⟨b,{c with q:=q2},rfl,uV,hd,⟨(by show q2.toSF.Ok c.d 1 1;rw[uV,hd];exact afr),A4,hc.F,hc.rp,hc.rc,hc.rl,hc.tb,fun m m0 m1 hm=>hc.tk m m0 m1 (by have hm:q2.toSF.aa (10+m)=true:=hm;rw[uV,Fa.SF.Bt,<-hq]at hm;exact hm)⟩,rfl⟩
def ac5(a:KA)(b:KZ)(c:KC)(N:Nat)(T:Int)(ho:a.Ok T)(hc:cP a c N T)(hT:T<=800000)(n:Int)(o:Bool):Fn 14 [ay b.kb 0 0,iI n,.bool o] (du a b c []) (fun v H1=>v= .tuple #[iI (a.nk n o),ax 102 (a.mH n o)]/\∃ c1:KC,cP (a.gH n o) c1 (N+1) (T+20)/\H1=(du (a.gH n o) b c1 [])):=by
 cases o
 ·exact ac1 a b c N T ho hc hT n
 ·exact ac3 a b c N T ho hc hT n
def ac6(bl ol len cap:Nat)(hlen:len<=cap)(A:Int->jA)(hA:∀ z:Int,0<=z->z<len->(A z).ok)(m:Int)(hm:m<=1000000):Fn 13 [.slice (some ⟨bl,ol,none⟩) len cap,iI m] [.ro bl ol (8*len) (fY A)] (fun v H1=>(∃ b,v= .bool b/\(b=true->(len:Int)<=m/\∀ z:Int,0<=z->z<len->((A z).s.size:Int)<=80/\((A z).t.size:Int)<=80))/\H1=[]):=by
 refine Spec.g 12 [0,1,4] func13 fun W=> ?_;refine cq (IU _ _ _ _) .nil ?_;apply UV 8<;>intro h1
 ·refine yy 0 (U3 _ _ len cap hlen A hA og 80) .h1 rfl ?_;rintro _ _ ⟨⟨bt,rfl,tx⟩,rfl⟩;apply gO;refine bL .nil ?_;grind [aR,aQ]
 ·refine bL .nil ?_;grind [aR,aQ,bQ]
open Go.X.Fa Go.X.Gr Go.X.Sp Go.X.Tr Go.X.Vm
attribute [local irreducible] KA.db KA.cL
def Kx(a:KA)(b:KZ)(c:KC)(N:Nat)(T:Int)(ho:a.Ok T)(hc:cP a c N T)(hT:T<=800000)(n:Int):Fn 17 [ay b.kb 0 0,iI n] (du a b c []) (fun v H1=>v= .tuple #[.agg #[iI (a.Fk n),iI (a.Fl n)],ax 102 (a.nl n)]/\∃ c1:KC,cP (a.eT n) c1 N T/\H1=(du (a.eT n) b c1 [])):=by
 refine Spec.g 115 [0,1,4,5,7,8,9,10,11,12,13,14,22,26,27,47,83,95,100] func17 fun W=> ?_;apply XO.bP (z:=.agg #[iI 0,iI 0]) (m:=2) (C:=rJ 0 0) rJ.box;intro b4;apply gO;refine ca (fm b.kb (kp a b c) n) (pk [1]) ?_;rintro _ _ ⟨⟨hl,rfl⟩ | ⟨hl,rfl⟩,rfl⟩
 obtain⟨kL,iw⟩:=bM hl;have hl:a.aF n=0:=hl;have iw:(a.u n).st=1:=iw;apply gO;refine XO.v (V.build (vs:= #[]) rfl (v:=.agg #[iI 0,iI 0]) fun _=>kq) rfl (gO ?_);apply XO.bP (z:=.agg #[iI 0,iI 0]) (m:=2) (C:=rJ 0 0) rJ.box;intro b10;apply gO;apply gu .aa (rJ.st _ _ _ _) rfl ⟨rfl,rfl⟩;refine wl (σ:=Int×WF) (fun x=>(20-x.1).toNat) (fun x=>(0<=x.1/\x.1<=20)/\x.2=a.dG n x.1.toNat) (fun x=>[(26,iI x.1),(9,iI x.2.kids),(8,iI x.2.aW),(0,ay b.kb 0 0),(1,iI n),(4,ay b4 0 0),(10,ay b10 0 0)]) (fun x=>[dO b.kb (kp a b c),Sp.bY b.sb 0 a.s,.cells b10 0 2 (rJ x.2.js x.2.kJ),.cells b4 0 2 (rJ 0 0),dl b.gb 0 a.g,d6 b.qb 0 c.q,.aV cI (SC.dI 254 c.q),d9 b.bb b.vp a.v.ja a.v.rf,Vm.d8 b.vp 0 a.v.bb.fu,.eJ (ka a) c.mb 34 (cN b.bb a.f c.pp c.cc),.aV (ka a) (rN 171 a.f c.pp c.cc),bi b.tb 0 c.F,g6 c.F,g7 c.F,dH c.rp c.rc 3 c.rl,Tr.el b.pi 0 a.P,eQ b.ob 0 b.tb b.pi a.O,.eJ (mF a) (fun z=>(c.t z).b) 4 (cT b.tb c.t),.aV (mF a) (rT 168 c.t)]) ((0,⟨0,-1,0,0⟩)) ?_ (pk (1::3::rr 17 0 [])) ?_
 ·exact⟨sq,rfl⟩
 intro x hx;obtain⟨hi,yp⟩:=hx;have hwi:=a.J3 n x.1.toNat;rw[<-yp]at hwi;obtain⟨hk,hwc⟩:=hwi;apply gC;apply (cd)<;>intro h1
 ·refine sd (ld .aa (gY _) ?_);apply UV 37<;>intro h2
  ·have h8:(a.u x.1).st=0:=h2;refine sd (wn ((x.1+1,x.2)) ?_ ?_ (pz 19));all_goals grind [jm]
  ·have h8:¬(a.u x.1).st=0:=h2;refine sd (ld .aa (mY _) ?_);apply (cd)<;>intro h3
   ·have h9:(a.u x.1).aA≠n:=h3;refine sd (wn ((x.1+1,x.2)) ?_ ?_ (pz 19));all_goals grind [jm]
   ·have h9:¬(a.u x.1).aA≠n:=h3;refine sd (XC.ir mixed (f:=14) (l:= #[qF,qF,qF,qF,qF,qF,qF,qF,qF,qF,qF,qF,qF,qF]) rfl rfl XM.kQ (XQ.mv 0 rfl rfl rfl (XQ.nc 1 rfl rfl rfl (XQ.pw 2 rfl rfl (V.fieldAddr rfl Nk) (XQ.ll 3 [8] rfl rfl .aa rfl (aB.uS _) (XQ.mv 4 rfl rfl rfl (XQ.mv 5 rfl rfl rfl (XQ.mv 6 rfl rfl rfl (XQ.call (i:=7) rfl kq rfl rfl (kH b.kb (kp a b c) a.s n) (pz 2) kq rfl (by rintro _ _ ⟨rfl,rfl⟩<;>exact ut) ?_)))))))));rintro _ _ ⟨rfl,rfl⟩;apply XQ.call (i:=8) rfl kq rfl rfl (RC _ _ a.s x.1 (a.s.bZ n).1) (pk [1]) kq rfl (by rintro _ _ ⟨rfl,rfl⟩<;>exact ut);rintro _ _ ⟨rfl,rfl⟩;refine XQ.mv 9 rfl rfl rfl (XQ.pw 10 rfl rfl (V.extract rfl rfl) (XQ.pw 11 rfl rfl (V.extract rfl rfl) (XQ.pw 12 rfl rfl (V.assign rfl) (XQ.pw 13 rfl rfl (V.assign rfl) (XQ.done kq (gE ?_))))));apply UV 64<;>intro h4
    ·have hpe:(a.s.js x.1 (a.sz n)).2=0:=h4;refine sd (ld (.ao .aa) (gY _) ?_);apply UV 74<;>intro h5
     ·have h2:(a.u x.1).st=2:=h5;apply UV 77<;>intro h6
      ·have hcn:x.2.aW<0:=h6;refine rq [0,1,2,3,4,5,6,7,8,9,10,11] mixed (sd (ld (.ao .aa) (yb _) (XO.v (V.build (vs:= #[(0,iI (a.s.js x.1 (a.s.bZ n).1).1),(1,iI (a.u x.1).kJ)]) rfl (v:=.agg #[iI (a.s.js x.1 (a.s.bZ n).1).1,iI (a.u x.1).kJ]) fun _=>kq) rfl (gO ?_))));refine gu (.t2 .aa) (rJ.st _ _ _ _) rfl ⟨rfl,rfl⟩ (sd (wn ((x.1+1,⟨x.2.kids+1,x.1,(a.s.js x.1 (a.s.bZ n).1).1,(a.u x.1).kJ⟩)) ?_ ?_ (pk (1::rr 18 0 []))))
       ·omega
       ·exact⟨(by show 0<=x.1+1/\x.1+1<=20;omega),(by show(⟨x.2.kids+1,x.1,(a.s.js x.1 (a.s.bZ n).1).1,(a.u x.1).kJ⟩:WF)=a.dG n (x.1+1).toNat;rw[jm a n hi.1,<-yp,if_neg (by rintro(q | q);exact h8 q;exact h9 q),if_pos ⟨hpe,h2,.inl hcn⟩];rfl)⟩
      ·have hcn:¬x.2.aW<0:=h6;apply ld (.t2 .aa) (rJ.Dy _ _);apply (cd)<;>intro h7
       ·have sW:(a.s.js x.1 (a.s.bZ n).1).1<x.2.js:=h7;refine rq [0,1,2,3,4,5,6,7,8,9,10,11] mixed (sd (ld (.ao .aa) (yb _) (XO.v (V.build (vs:= #[(0,iI (a.s.js x.1 (a.s.bZ n).1).1),(1,iI (a.u x.1).kJ)]) rfl (v:=.agg #[iI (a.s.js x.1 (a.s.bZ n).1).1,iI (a.u x.1).kJ]) fun _=>kq) rfl (gO ?_))));refine gu (.t2 .aa) (rJ.st _ _ _ _) rfl ⟨rfl,rfl⟩ (sd (wn ((x.1+1,⟨x.2.kids+1,x.1,(a.s.js x.1 (a.s.bZ n).1).1,(a.u x.1).kJ⟩)) ?_ ?_ (pk (1::rr 18 0 []))))
        ·omega
        ·exact⟨(by show 0<=x.1+1/\x.1+1<=20;omega),(by show(⟨x.2.kids+1,x.1,(a.s.js x.1 (a.s.bZ n).1).1,(a.u x.1).kJ⟩:WF)=a.dG n (x.1+1).toNat;rw[jm a n hi.1,<-yp,if_neg (by rintro(q | q);exact h8 q;exact h9 q),if_pos ⟨hpe,h2,.inr sW⟩];rfl)⟩
       ·have sW:¬(a.s.js x.1 (a.s.bZ n).1).1<x.2.js:=h7;refine sd (wn ((x.1+1,⟨x.2.kids+1,x.2.aW,x.2.js,x.2.kJ⟩)) ?_ ?_ (pk (1::rr 18 0 [])))
        ·omega
        ·exact⟨(by show 0<=x.1+1/\x.1+1<=20;omega),(by show(⟨x.2.kids+1,x.2.aW,x.2.js,x.2.kJ⟩:WF)=a.dG n (x.1+1).toNat;rw[jm a n hi.1,<-yp,if_neg (by rintro(q | q);exact h8 q;exact h9 q),if_neg (by rintro⟨q1,q2,q3⟩;rcases q3 with q | q;exact hcn q;exact sW q)])⟩
     ·have h2:¬(a.u x.1).st=2:=h5;refine sd (wn ((x.1+1,⟨x.2.kids+1,x.2.aW,x.2.js,x.2.kJ⟩)) ?_ ?_ (pk (1::rr 18 0 [])));all_goals grind [jm]
    ·have hpe:¬(a.s.js x.1 (a.sz n)).2=0:=h4;refine sd (wn ((x.1+1,⟨x.2.kids+1,x.2.aW,x.2.js,x.2.kJ⟩)) ?_ ?_ (pk (1::rr 18 0 [])));all_goals grind [jm]
 apply (cd)<;>intro h8
 have KN:x.2.kids=0:=h8;have KG:x.2=a.dG n 20:=by
  grind
 rotate_left
 have KN:¬x.2.kids=0:=h8;have KG:x.2=a.dG n 20:=by
  grind
 apply (cd)<;>intro h9
 have hcd:x.2.aW<0:=h9;rotate_left
 ·have hcd:¬x.2.aW<0:=h9;have e0:a.nl n=0:=by unfold KA.nl;rw[<-KG,if_neg og,if_neg KN,if_neg hcd]
  obtain⟨_,w1,w2,_,_,_⟩:=pQ e0;rw[<-KG]at w1 w2;refine cq (kH b.kb (kp a b c) a.s x.2.aW) (pz 2) ?_;refine ca (Kr a b c N T ho.wk hc og x.2.aW w1 og) (pk (0::3::0::rr 14 2 [])) ?_;rintro _ _ rfl;apply gO;refine ca (R8 (a.dD x.2.aW) b c N T (ho.wk.dD w1 og) (hc.Yc og) og _) (pz 17) ?_;rintro _ _ ⟨c1,ia,rfl⟩;apply gO;refine mP (.ph (.t5 .aa)) (rJ.agg _ _) (gu (.ph (.t6 .aa)) (rJ.st _ _ _ _) rfl ⟨rfl,rfl⟩ (dU rfl (.agg rfl (.ph (.t6 .aa)) (rJ.agg _ _) kq DL) (.tmp rfl) (ai (pz 17) rfl ?_)));try dsimp only[aR,aQ,bH,bQ]
  have e2:a.Fk n=x.2.js:=by unfold KA.Fk;rw[if_pos e0,<-KG]
  have e3:a.Fl n=x.2.kJ:=by unfold KA.Fl;rw[if_pos e0,<-KG]
  have e4:a.eT n=(a.dD x.2.aW).ea (a.s.bZ x.2.aW).1:=by unfold KA.eT;rw[if_pos e0,<-KG];rfl
  grind [ax]
 ·have hl:a.aF n≠0:=hl;have jz:(kp a b c).aF n=a.aF n:=rfl;rw[jz];apply gO;refine XO.v (V.build (vs:= #[]) rfl (v:=.agg #[iI 0,iI 0]) fun _=>kq) rfl (gO ?_);refine gu (.ao .aa) (rJ.st _ _ _ _) rfl ⟨rfl,rfl⟩ (dU rfl (.agg rfl (.ao .aa) (rJ.agg _ _) kq DL) (.tmp rfl) (ai (pk (0::rr 16 1 [])) rfl ?_));grind [aR,aQ,KA.nl,KA.Fk,KA.Fl,KA.eT,ax]
 all_goals refine XO.v (V.build (vs:= #[]) rfl (v:=.agg #[iI 0,iI 0]) fun _=>kq) rfl (gO ?_);refine gu (.t3 .aa) (rJ.st _ _ _ _) rfl ⟨rfl,rfl⟩ (dU rfl (.agg rfl (.t3 .aa) (rJ.agg _ _) kq DL) (.tmp rfl) (ai (pk (0::3::0::rr 14 2 [])) rfl ?_));grind [aR,aQ,bQ,KA.nl,KA.Fk,KA.Fl,KA.eT,ax]
end Go.X.Kn

namespace Go.X.Kn
open Go Go.Proofs Go.X
attribute [local irreducible] KA.db KA.cL
def pF(p q:Option Addr)(cap qx:Nat)(zs ws:List Int)(hz:zs.length<=1000000):Fn 29 [.slice p zs.length cap,.slice q ws.length qx] [dH p cap 3 zs,dH q qx 3 ws] (ap (.bool (decide (zs=ws))) [dH p cap 3 zs,dH q qx 3 ws]):=by
 refine Spec.g 26 [0,1,4,5,10,14,25] func29 fun W=> ?_;apply (cd)<;>intro h1;rotate_left
 refine wl (σ:=Int) (fun k=>(zs.length-k).toNat) (fun k=>(0<=k/\k<=zs.length)/\∀ z:Int,0<=z->z<k->jK zs z=jK ws z) (fun k=>[(5,iI k),(0,.slice p zs.length cap),(1,.slice q ws.length qx)]) (fun k=>[dH p cap 3 zs,dH q qx 3 ws]) (0) ?_ (pz 2) ?_
 ·exact⟨og,fun z h1 h2=>og⟩
 intro k hk;obtain⟨hk,hn⟩:=hk;apply gC;apply (cd)<;>intro h2
 apply bV .aa og;intro h3 h4;subst h4;apply bV (.ao .aa) og;intro h5 h6;subst h6;refine rq [0,1,2,3,4,5,6,7,8] mixed ?_;apply (sd);apply Cx .aa (ints_at);apply (sd);apply Cx (.ao .aa) (ints_at);apply (cd)<;>intro h7;rotate_left
 ·apply (sd);refine wn (k+1) ?_ ?_ (pz 2)
  ·
   (first | omega | (simp;done) | (simp;omega))
  ·refine⟨og,fun z h1 h2=> ?_⟩;by_cases hzk:z=k
   ·subst hzk;omega
   ·exact hn z h1 og
 ·refine bL (pz 2) ?_;try dsimp only[aR,aQ,bH,bQ]
  have he:zs=ws:=aal og fun z h1 h2=>hn z h1 og;exact⟨by simp[he],rfl⟩
 all_goals
  refine bL (pz 2) ?_;try dsimp only[aR,aQ,bH,bQ]
  have gJ:¬zs=ws:=by rintro rfl;omega
  exact⟨by simp[gJ],rfl⟩
open Go.X.Fa Go.X.Gr Go.X.Sg Go.X.Tr Go.X.Vm
def ac7(a:KA)(b:KZ)(c:KC)(N:Nat)(T:Int)(ho:a.Ok T)(hc:cP a c N T)(hT:T<=800000)(Yf:1<=T)(x:jA)(hx:x.s.size<=1000/\x.t.size<=1000)(NC:Oth x.aI):Fn 90 [ay b.kb 0 0,.agg (J5 x)] (du a b c [g8]) (fun v H1=>∃ (a1:KA) (r:mJ) (c1:KC),v= .agg r.c9/\a.sH c c1 x a1 r.n r.e/\cP a1 c1 (N+1) (T+20)/\H1=(du a1 b c1 [])):=by
 refine Spec.go 226 [0,3,4,5,6,7,8,9,10,13,14,31,39,51,63,77,91,101,109,117,127,137,147,155,169,206,214] [(3,1)] func90 fun W=> ?_;refine XO.box (m:=8) (C:=gM x) rfl rfl (Rs x) rfl ?_;intro ba;apply gO;apply XO.bP (z:=.agg mJ.nil.c9) (m:=4) (C:=df mJ.nil) (df.box _);intro bz;apply gO;apply XO.bP (z:=.agg mJ.nil.c9) (m:=4) (C:=df mJ.nil) (df.box _);intro br;apply gO;apply ww (σ:=KA×mJ×Int×KC) (fun y=>a.sH c y.2.2.2 x y.1 y.2.1.n y.2.2.1/\cP y.1 y.2.2.2 (N+1) (T+20)) (fun y=>[(4,ay bz 0 0),(5,ay br 0 0),(6,ax 102 y.2.2.1)]) fun y=>du y.1 b y.2.2.2 [f9 bz mJ.nil,f9 br y.2.1]
 apply ld (.t2 .aa) (ve _);apply (cd)<;>intro h1
 ·apply ld (.t2 .aa) (bF _);apply ld (.t2 .aa) (gg _);apply ld (.t2 .aa) (jU _);apply ld (.t2 .aa) (dw _);refine ca (acX a b c N T ho hc hT x.a x.s og x.on _) (pk (rr 17 3 [])) ?_;rintro _ _ ⟨a1,n0,e0,c1,rfl,ho1,ia,rfl⟩;apply gO;apply st (.ph (.t5 .aa)) (fP _ _) rfl;refine wd ((a1,⟨n0,0,0,⟨#[]⟩⟩,e0,c1)) ?_ (pk (rr 17 0 [1,0]));exact⟨.qE NC (.It ho1) _ _,ia.up og og⟩
 apply (cd)<;>intro h2
 ·apply ld (.t2 .aa) (bF _);apply ld (.t2 .aa) (dw _);refine ca (F9 a b c N T ho hc hT x.a x.b) (pk (rr 17 3 [])) ?_;rintro _ _ ⟨rfl,c1,ia,rfl⟩;apply gO;refine wd ((a.gh x.a x.b,⟨0,0,0,⟨#[]⟩⟩,a.lg c.F.toFF x.a x.b,c1)) ?_ (pk (rr 17 0 [1,0]));exact⟨.qE NC .close _ _,ia.up og og⟩
 apply (cd)<;>intro h3
 ·apply ld (.t2 .aa) (bF _);apply ld (.t2 .aa) (dw _);refine ca (agZ a b c N T ho hc hT x.a x.b) (pk (rr 17 3 [])) ?_;rintro _ _ ⟨rfl,c1,ia,rfl⟩;apply gO;apply st (.ph (.t5 .aa)) (fP _ _) rfl;refine wd ((a.zb x.a x.b,⟨a.M1 x.a x.b,0,0,⟨#[]⟩⟩,a.M0 x.a x.b,c1)) ?_ (pk (rr 17 0 [1,0]));exact⟨.qE NC .Z4 _ _,ia.up og og⟩
 apply (cd)<;>intro h4
 ·apply ld (.t2 .aa) (bF _);refine ca (acL a b c N T ho hc hT x.a) (pk (rr 17 3 [])) ?_;rintro _ _ ⟨rfl,c1,ia,rfl⟩;apply gO;apply st (.ph (.t5 .aa)) (fP _ _) rfl;apply st (.ph (.t5 .aa)) (CX _ _) rfl;refine wd ((a.o9 x.a,⟨a.AJ x.a,a.AK x.a,0,⟨#[]⟩⟩,a.wb x.a,c1)) ?_ (pk (rr 17 0 [1,0]));exact⟨.qE NC .Aw _ _,ia.up og og⟩
 apply (cd)<;>intro h5
 ·apply ld (.t2 .aa) (bF _);apply ld (.t2 .aa) (dw _);apply ld (.t2 .aa) (gX _);refine ca (acM a b c N T ho hc hT x.a x.b x.c) (pk (rr 17 3 [])) ?_;rintro _ _ ⟨rfl,c1,ia,rfl⟩;apply gO;apply st (.ph (.t5 .aa)) (CZ _ _) rfl;refine wd ((a.yi c.F.toFF x.a x.b x.c,⟨0,0,0,a.lH c.F.toFF x.a x.b x.c⟩,a.nf c.F.toFF x.a x.b x.c,c1)) ?_ (pk (rr 17 0 [1,0]));exact⟨.qE NC .mh _ _,ia.up og og⟩
 apply (cd)<;>intro h6
 ·apply ld (.t2 .aa) (bF _);apply ld (.t2 .aa) (dw _);apply ld (.t2 .aa) (gg _);refine yy 17 (Zo a b c N T ho hc hT x.a x.b x.s og) (pk (rr 18 3 [])) rfl ?_;rintro _ _ ⟨rfl,c1,ia,rfl⟩;apply gO;apply st (.ph (.t6 .aa)) (fP _ _) rfl;refine wd ((a.nX c.F.toFF x.a x.b x.s,⟨a.B3 c.F.toFF x.a x.b x.s,0,0,⟨#[]⟩⟩,a.fC c.F.toFF x.a x.b x.s,c1)) ?_ (pk (rr 17 0 [2,1]));exact⟨.qE NC .cC _ _,ia.up og og⟩
 apply (cd)<;>intro h7
 ·apply ld (.t2 .aa) (bF _);apply ld (.t2 .aa) (dw _);apply ld (.t2 .aa) (gX _);refine ca (acN a b c N T ho hc hT x.a x.b x.c) (pk (rr 17 3 [])) ?_;rintro _ _ ⟨rfl,c1,ia,rfl⟩;apply gO;refine wd ((a.wc x.a x.b x.c,⟨0,0,0,⟨#[]⟩⟩,a.oF x.a x.b x.c,c1)) ?_ (pk (rr 17 0 [1,0]));exact⟨.qE NC .GY _ _,ia.up og og⟩
 apply (cd)<;>intro h8
 apply ld (.t2 .aa) (bF _);apply ld (.t2 .aa) (gg _);refine ca (P8 a b c N T ho hc hT x.a x.s og) (pk (rr 17 3 [])) ?_;rotate_left
 apply (cd)<;>intro h9
 apply ld (.t2 .aa) (bF _);apply ld (.t2 .aa) (gg _);refine ca (U0 a b c N T ho hc hT x.a x.s og) (pk (rr 17 3 [])) ?_;rotate_left
 apply (cd)<;>intro Vb
 apply ld (.t2 .aa) (bF _);apply ld (.t2 .aa) (gg _);apply ld (.t2 .aa) (qK _);refine ca (acU a b c N T ho hc hT x.a x.s x.t og og) (pk (rr 17 3 [])) ?_;rotate_left
 apply (cd)<;>intro h11
 apply ld (.t2 .aa) (bF _);apply ld (.t2 .aa) (gg _);apply ld (.t2 .aa) (qK _);refine ca (acV a b c N T ho hc hT x.a x.s x.t og og) (pk (rr 17 3 [])) ?_;rotate_left
 apply (cd)<;>intro h12
 apply ld (.t2 .aa) (bF _);apply ld (.t2 .aa) (gg _);apply ld (.t2 .aa) (qK _);refine ca (acW a b c N T ho hc hT x.a x.s x.t og og) (pk (rr 17 3 [])) ?_;rotate_left
 apply (cd)<;>intro h13
 apply ld (.t2 .aa) (bF _);apply ld (.t2 .aa) (gg _);refine ca (U1 a b c N T ho hc hT x.a x.s og) (pk (rr 17 3 [])) ?_;rotate_left
 apply (cd)<;>intro h14
 ·apply ld (.t2 .aa) (bF _);apply ld (.t2 .aa) (gg _);refine ca (ZD a b c N T ho hc hT x.a x.s og) (pk (rr 17 3 [])) ?_;rintro _ _ ⟨p,k,ns,e0,hns,rfl,rfl⟩;apply gO;refine wl (σ:=Int×ByteArray) (fun y=>(ns.length-y.1).toNat) (fun y=>(0<=y.1/\y.1<=ns.length)/\(y.2.size:Int)<=9*y.1) (fun y=>[(9,iI y.1),(0,ay b.kb 0 0),(3,ay ba 0 0),(4,ay bz 0 0),(5,ay br 0 0),(7,.slice p ns.length k),(8,ax 102 e0)]) (fun y=>[kR p k 9 ns,dO b.kb (kp a b c),dl b.gb 0 a.g,Sp.bY b.sb 0 a.s,d6 b.qb 0 c.q,.aV cI (SC.dI 254 c.q),d9 b.bb b.vp a.v.ja a.v.rf,Vm.d8 b.vp 0 a.v.bb.fu,.eJ (ka a) c.mb 34 (cN b.bb a.f c.pp c.cc),.aV (ka a) (rN 171 a.f c.pp c.cc),bi b.tb 0 c.F,g6 c.F,g7 c.F,dH c.rp c.rc 3 c.rl,Tr.el b.pi 0 a.P,eQ b.ob 0 b.tb b.pi a.O,.eJ (mF a) (fun z=>(c.t z).b) 4 (cT b.tb c.t),.aV (mF a) (rT 168 c.t),.cells ba 0 8 (gM x),f9 bz mJ.nil,f9 br ⟨0,0,0,y.2⟩]) ((0,⟨#[]⟩)) ?_ (pk [0,0,0,0,0,0,0,0,0,0,0,0,0,0,0,0,0,0,2,1,0]) ?_
  ·exact⟨sq,dq⟩
  intro y hy;obtain⟨hi,ND⟩:=hy;apply gC;apply (cd)<;>intro h15
  ·apply bV .aa og;intro gl h16;subst h16;refine rq [0,1,2,3,4,5,6,7,8,9] mixed ?_;apply ld (.ph (.t8 .aa)) (df.uS _);apply (sd);apply Cx .aa (te);have hsn:(lr ns y.1).size<=8:=hns.2 _ (Ym og);refine sd ?_ (by show y.2.size+(lr ns y.1).size<=9223372036854775807;omega);refine sd ?_ (by show(y.2++lr ns y.1).size+(⟨#[47]⟩:ByteArray).size<=9223372036854775807;rw[ByteArray.size_append];have:(⟨#[47]⟩:ByteArray).size=1:=rfl;omega);apply st (.ph (.t8 .aa)) (CZ _ _) rfl;apply (sd);refine wn ((y.1+1,y.2++lr ns y.1++⟨#[47]⟩)) ?_ ?_ (pz 21)
   ·omega
   ·exact⟨(by show 0<=y.1+1/\y.1+1<=_;omega),(by show((y.2++lr ns y.1++⟨#[47]⟩:ByteArray).size:Int)<=9*(y.1+1);rw[ByteArray.size_append,ByteArray.size_append];have:(⟨#[47]⟩:ByteArray).size=1:=rfl;omega)⟩
  ·apply ld (.ph (.t6 .aa)) (bF _);apply ld (.ph (.t6 .aa)) (gg _);refine ca (acY a b c N T ho hc hT x.a x.s og) (pk (rr 17 1 [])) ?_;rintro _ _ ⟨⟨nv,e1,hnv,rfl⟩,rfl⟩;obtain⟨⟨nv1,nv2,nv3⟩,nv4,nv5,nv6⟩:=hnv;apply gO;apply XO.bP (z:=.agg NV.zero.c9) (m:=4) (C:=o8 NV.zero) (pO _);intro bn;apply gO;apply gu .aa (nh _ _) rfl ⟨rfl,rfl⟩;apply ld .aa (yV _);apply (sd);apply ld .aa (MD _);apply (sd);apply (sd);apply ld .aa (OX _);apply (sd);apply (sd);apply ld .aa (OY _);apply (sd);apply st (.ph (.t9 .aa)) (fP _ _) rfl;refine wd ((a,⟨(1000*nv.aI+100*nv.bO+10*nv.bu+nv.size),0,0,y.2⟩,e0,c)) ?_ (pk (rr 17 1 [3,3]));exact⟨.qE NC .same _ _,hc.up og og⟩
 apply (cd)<;>intro h17
 ·refine ca (ZC a b c N T ho hc hT) (pk (rr 17 3 [])) ?_;rintro _ _ ⟨n0,e0,c1,rfl,ia,rfl⟩;apply gO;apply st (.ph (.t5 .aa)) (fP _ _) rfl;refine wd ((a,⟨n0,0,0,⟨#[]⟩⟩,e0,c1)) ?_ (pk (rr 17 0 [1,0]));exact⟨.qE NC .same _ _,ia.up og og⟩
 apply (cd)<;>intro h18
 apply ld (.t2 .aa) (bF _);apply ld (.t2 .aa) (dw _);refine ca (ZB a b c N T ho hc hT x.a x.b) (pk (rr 17 3 [])) ?_;rotate_left
 ·refine wd ((a,⟨0,0,0,⟨#[]⟩⟩,0,c)) ?_ (pk (rr 17 3 [1,0]));exact⟨.qE NC .same _ _,hc.up og og⟩
 intro y hy;obtain⟨pf,hcy⟩:=hy;apply gC;refine cq (Se _) .nil ?_;apply st (.ph (.t6 .aa)) (CY _ _) rfl;apply mP (.ph (.t6 .aa)) (df.agg _);apply gu (.ph (.t5 .aa)) (df.st _ _) rfl ⟨rfl,rfl⟩;refine kf rfl (.agg rfl (.ph (.t5 .aa)) (df.agg _) kq Kw) (ai (pz 17) rfl ?_);grind;all_goals rintro _ _ ⟨e0,c1,rfl,ia,rfl⟩;apply gO;refine wd ((a,⟨0,0,0,⟨#[]⟩⟩,e0,c1)) ?_ (pk (rr 17 0 [1,0]));exact⟨.qE NC .same _ _,ia.up og og⟩
end Go.X.Kn
