import Derived.Test.YthdinakloheinaaGreatDoorkJO6
set_option linter.all false
namespace Go.X.Kn
open Go Go.Proofs Go.X Go.X.Tr
set_option maxRecDepth 20000
set_option maxHeartbeats 4000000
attribute [local irreducible] KA.cR KA.cK
def iH(a:KA)(b:KZ)(c:KC)(n:Int)(hz:(0<=(a.s.bI n).1/\(a.s.bI n).1<6)/\a.s.aa (a.s.bI n).1=true):Spec Tryz.prog 105 [aC b.kb 0 0,iI n] [.cells b.kb 0 453 (aF (kp a b c)),.cells b.sb 0 158 (Sp.aP a.s)] (fun v H1=>v=aC (c.t (a.s.bI n).1.toNat).b 0 0/\H1=[.cells b.kb 0 453 (aF (kp a b c)),.cells b.sb 0 158 (Sp.aP a.s)]):=by
 apply Spec.go 13 [0,1,4] [] Tryz.func105 rfl rfl rfl;intro W;refine rq [0,1,2,4,5,3,6,7,8] mixed ?_;refine cq (il b.kb (kp a b c) a.s n) (pz 2) ?_;refine sd (ld .aa (r6 _ hz.1 (UI a b c hz.2)) (ah rfl rfl (ad (pz 2) rfl ?_)));grind [aL,aJ,kp]
set_option maxHeartbeats 8000000 in
def Ng(a:KA)(b:KZ)(c:KC)(N:Nat)(T:Int)(ho:a.Ok T)(hc:cH a c N T)(hT:T<=800000)(n:Int)(x:ByteArray)(hx:x.size<=100000):Spec Tryz.prog 166 [aC b.kb 0 0,iI n,.string x] (cU a b c []) (fun v H1=>∃ (e:Int) (c1:KC),v=az 102 e/\cH a c1 N (T+15)/\H1=(cU a b c1 [])):=by
 apply Spec.go 43 [0,1,2,6,8,9,10,18,30] [] Tryz.func166 rfl rfl rfl;intro W;refine ca (ef b.kb (kp a b c) n) .h1 ?_;rintro _ _ ⟨⟨hl,rfl⟩ | ⟨hl,rfl⟩,rfl⟩
 ·obtain⟨jy,gh⟩:=bC hl;have hl:a.aI n=0:=hl;have gh:(a.u n).st=1:=gh;have hz:=ho.tz hl;have ir:=hc.tb _ hz.1.1 hz.1.2 hz.2;have yV:=hc.sh og;apply gO;apply XR.mono fun _ bJ=>gG (z:=(a.s.bI n).1.toNat) (dU hz.1 hz.2) (pk [15,15]) bJ;refine cq (iH a b c n hz) (pk [4,5]) ?_;refine cq (Ap _ _ _ _ _ _ _ _ _ ir.rv ir.mc ir.len c.F yV x hx) (pk [2,2,11,11,11]) ?_;apply XO.bN (z:=.agg (WH.cO WH.nil)) (m:=2) (C:=aZ WH.nil) kq rfl (aZ.box _) rfl;intro bw;apply gO;refine gD .aa (aZ.st _ _) rfl ⟨rfl,rfl⟩ (XR.mono (fun _ bJ=>gz (z:=(a.s.bI n).1.toNat) (dU hz.1 hz.2) (pk [1,1,6,6]) bJ) ?_);refine cd rfl ?_ ?_<;>intro h1
  ·refine rq [0,1,2,3,4,5,6,7,8,9,10,11] mixed (ld (.t6 .aa) (aF.Bn _) (ld (.t2 .aa) (aZ.Ej _) ?_));refine ca (Vg _ _ c.F yV _ _ 2 (by have:=yU c.F.toFF (c.t (a.s.bI n).1.toNat).l (c.t (a.s.bI n).1.toNat).r x;omega)) (pk [3,3,3]) ?_;rintro _ _ ⟨rfl,t,ht,hp,hr,rfl⟩;obtain⟨d1,xt⟩:=hc.F.make (tV c.F.toFF (c.t (a.s.bI n).1.toNat).l (c.t (a.s.bI n).1.toNat).r x).node (qN c.F.toFF (c.t (a.s.bI n).1.toNat).l (c.t (a.s.bI n).1.toNat).r x) 2;apply gO;refine ah rfl rfl (ad (pk [6,7,6,6,6,6,6,6,6,0,0,0,3,3,3,0,0]) rfl ?_);try dsimp only[aL,aJ,aD,aR]
   exact⟨_,{c with F:=t,dF:=d1},rfl,hc.Nc (by rw[ht];exact FF.Ok.up xt og) og hp hr (by rw[ht];exact wM _ _ _ _),rfl⟩
  ·refine ah rfl rfl (ad (pk [6,7,6,6,6,6,6,6,6,3,3,3,3,3,3,0,0]) rfl ?_);try dsimp only[aL,aJ,aD,aR]
   grind [cH.up]
 ·have hl:a.aI n≠0:=hl;have iD:(kp a b c).aI n=a.aI n:=rfl;rw[iD];apply gO;refine ah rfl rfl (ad (pz 17) rfl ?_);try dsimp only[aL,aJ,aD,aR]
  exact⟨a.aI n,c,(aQ _ hl).symm,hc.up (Nat.le_refl _) og,rfl⟩
set_option maxHeartbeats 8000000 in
def Rr(a:KA)(b:KZ)(c:KC)(N:Nat)(T:Int)(ho:a.Ok T)(hc:cH a c N T)(hT:T<=800000)(n:Int)(x:ByteArray)(hx:x.size<=100000):Spec Tryz.prog 167 [aC b.kb 0 0,iI n,.string x] (cU a b c []) (fun v H1=>∃ (e:Int) (c1:KC),v=az 102 e/\cH a c1 N (T+15)/\H1=(cU a b c1 [])):=by
 apply Spec.go 40 [0,1,2,6,8,9,10,18,30] [] Tryz.func167 rfl rfl rfl;intro W;refine ca (ef b.kb (kp a b c) n) .h1 ?_;rintro _ _ ⟨⟨hl,rfl⟩ | ⟨hl,rfl⟩,rfl⟩
 ·obtain⟨jy,gh⟩:=bC hl;have hl:a.aI n=0:=hl;have gh:(a.u n).st=1:=gh;have hz:=ho.tz hl;have ir:=hc.tb _ hz.1.1 hz.1.2 hz.2;have yV:=hc.sh og;apply gO;apply XR.mono fun _ bJ=>gG (z:=(a.s.bI n).1.toNat) (dU hz.1 hz.2) (pk [15,15]) bJ;refine cq (iH a b c n hz) (pk [4,5]) ?_;refine cq (Ap _ _ _ _ _ _ _ _ _ ir.rv ir.mc ir.len c.F yV x hx) (pk [2,2,11,11,11]) ?_;apply XO.bN (z:=.agg (WH.cO WH.nil)) (m:=2) (C:=aZ WH.nil) kq rfl (aZ.box _) rfl;intro bw;apply gO;refine gD .aa (aZ.st _ _) rfl ⟨rfl,rfl⟩ (XR.mono (fun _ bJ=>gz (z:=(a.s.bI n).1.toNat) (dU hz.1 hz.2) (pk [1,1,6,6]) bJ) ?_);refine cd rfl ?_ ?_<;>intro h1
  ·refine rq [0,1,2,3,4,5,6,7,8] mixed (ld (.t6 .aa) (aF.Bn _) (ld (.t2 .aa) (aZ.Ej _) ?_));refine ca (Vh _ _ c.F yV _ _) (pk [3,3,3]) ?_;rintro _ _ ⟨rfl,t,ht,hp,hr,rfl⟩;apply gO;refine ah rfl rfl (ad (pk [6,7,6,6,6,6,6,6,6,0,0,0,3,3,3,0,0]) rfl ?_);try dsimp only[aL,aJ,aD,aR]
   exact⟨_,{c with F:=t,dF:=c.dF},rfl,hc.Nc (by rw[ht];exact FF.Ok.up (hc.F.ed _ _) og) og hp hr (by rw[ht];exact yt _ _ _),rfl⟩
  ·refine ah rfl rfl (ad (pk [6,7,6,6,6,6,6,6,6,3,3,3,3,3,3,0,0]) rfl ?_);try dsimp only[aL,aJ,aD,aR]
   grind [cH.up]
 ·have hl:a.aI n≠0:=hl;have iD:(kp a b c).aI n=a.aI n:=rfl;rw[iD];apply gO;refine ah rfl rfl (ad (pz 17) rfl ?_);try dsimp only[aL,aJ,aD,aR]
  exact⟨a.aI n,c,(aQ _ hl).symm,hc.up (Nat.le_refl _) og,rfl⟩
set_option maxHeartbeats 8000000 in
def Zl(a:KA)(b:KZ)(c:KC)(N:Nat)(T:Int)(ho:a.Ok T)(hc:cH a c N T)(hT:T<=800000)(n:Int)(x y:ByteArray)(hx:x.size<=100000)(hy:y.size<=100000):Spec Tryz.prog 168 [aC b.kb 0 0,iI n,.string x,.string y] (cU a b c []) (fun v H1=>∃ (e:Int) (c1:KC),v=az 102 e/\cH a c1 N (T+15)/\H1=(cU a b c1 [])):=by
 apply Spec.go 59 [0,1,2,3,8,10,11,12,13,14,22,34,46] [] Tryz.func168 rfl rfl rfl;intro W;refine ca (ef b.kb (kp a b c) n) .h1 ?_;rintro _ _ ⟨⟨hl,rfl⟩ | ⟨hl,rfl⟩,rfl⟩
 ·obtain⟨jy,gh⟩:=bC hl;have hl:a.aI n=0:=hl;have gh:(a.u n).st=1:=gh;have hz:=ho.tz hl;have ir:=hc.tb _ hz.1.1 hz.1.2 hz.2;have yV:=hc.sh og;apply gO;apply XR.mono fun _ bJ=>gG (z:=(a.s.bI n).1.toNat) (dU hz.1 hz.2) (pk [15,15]) bJ;refine cq (iH a b c n hz) (pk [4,5]) ?_;refine cq (Ap _ _ _ _ _ _ _ _ _ ir.rv ir.mc ir.len c.F yV x hx) (pk [2,2,11,11,11]) ?_;apply XO.bN (z:=.agg (WH.cO WH.nil)) (m:=2) (C:=aZ WH.nil) kq rfl (aZ.box _) rfl;intro bw;apply gO;refine gD .aa (aZ.st _ _) rfl ⟨rfl,rfl⟩ (XR.mono (fun _ bJ=>gz (z:=(a.s.bI n).1.toNat) (dU hz.1 hz.2) (pk [1,1,6,6]) bJ) ?_);refine cd rfl ?_ ?_<;>intro h1
  ·refine ah rfl rfl (ad (pk [6,7,6,6,6,6,6,6,6,3,3,3,3,3,3,0,0]) rfl ?_);try dsimp only[aL,aJ,aD,aR]
   grind [cH.up]
  ·apply XR.mono fun _ bJ=>gG (z:=(a.s.bI n).1.toNat) (dU hz.1 hz.2) (pz 2) bJ;refine cq (iH a b c n hz) (pk [8,8]) ?_;refine cq (Ap _ _ _ _ _ _ _ _ _ ir.rv ir.mc ir.len c.F yV y hy) (pk [2,2,5,5,5]) ?_;apply XO.bN (z:=.agg (WH.cO WH.nil)) (m:=2) (C:=aZ WH.nil) kq rfl (aZ.box _) rfl;intro bw2;apply gO;refine gD .aa (aZ.st _ _) rfl ⟨rfl,rfl⟩ (XR.mono (fun _ bJ=>gz (z:=(a.s.bI n).1.toNat) (dU hz.1 hz.2) (pk [1,1,6,6]) bJ) ?_);refine cd rfl ?_ ?_<;>intro h2
   ·refine ah rfl rfl (ad (pk [6,8,6,7,7,7,7,7,7,3,3,3,4,4,4,0,0]) rfl ?_);try dsimp only[aL,aJ,aD,aR]
    grind [cH.up]
   ·refine rq [0,1,2,3,4,5,6,7,8,9,10,11] mixed (ld (.t6 .aa) (aF.Bn _) (ld (.t8 .aa) (aZ.Ej _) (ld (.t2 .aa) (aZ.Ej _) ?_)));refine ca (acN _ _ c.F yV c.dF hc.F.dS.chI _ _ _ _ (by have:=yU c.F.toFF (c.t (a.s.bI n).1.toNat).l (c.t (a.s.bI n).1.toNat).r y;omega)) (pk [3,3,3]) ?_;rintro _ _ ⟨rfl,t,ht,hp,hr,rfl⟩;obtain⟨d1,xt⟩:=hc.F.move (tV c.F.toFF (c.t (a.s.bI n).1.toNat).l (c.t (a.s.bI n).1.toNat).r x).node (qN c.F.toFF (c.t (a.s.bI n).1.toNat).l (c.t (a.s.bI n).1.toNat).r x) (tV c.F.toFF (c.t (a.s.bI n).1.toNat).l (c.t (a.s.bI n).1.toNat).r y).node (qN c.F.toFF (c.t (a.s.bI n).1.toNat).l (c.t (a.s.bI n).1.toNat).r y);apply gO;refine ah rfl rfl (ad (pk [6,8,6,7,7,7,7,7,7,0,0,0,4,4,4,0,0]) rfl ?_);try dsimp only[aL,aJ,aD,aR]
    exact⟨_,{c with F:=t,dF:=d1},rfl,hc.Nc (by rw[ht];exact FF.Ok.up xt og) og hp hr (by rw[ht];exact Dn _ _ _ _ _ _),rfl⟩
 ·have hl:a.aI n≠0:=hl;have iD:(kp a b c).aI n=a.aI n:=rfl;rw[iD];apply gO;refine ah rfl rfl (ad (pz 17) rfl ?_);try dsimp only[aL,aJ,aD,aR]
  exact⟨a.aI n,c,(aQ _ hl).symm,hc.up (Nat.le_refl _) og,rfl⟩
set_option maxHeartbeats 8000000 in
def Zm(a:KA)(b:KZ)(c:KC)(N:Nat)(T:Int)(ho:a.Ok T)(hc:cH a c N T)(hT:T<=800000)(n:Int)(x y:ByteArray)(hx:x.size<=100000)(hy:y.size<=100000):Spec Tryz.prog 169 [aC b.kb 0 0,iI n,.string x,.string y] (cU a b c []) (fun v H1=>∃ (e:Int) (c1:KC),v=az 102 e/\cH a c1 N (T+15)/\H1=(cU a b c1 [])):=by
 apply Spec.go 56 [0,1,2,3,8,10,11,12,13,21,32,44] [] Tryz.func169 rfl rfl rfl;intro W;refine ca (ef b.kb (kp a b c) n) .h1 ?_;rintro _ _ ⟨⟨hl,rfl⟩ | ⟨hl,rfl⟩,rfl⟩
 ·obtain⟨jy,gh⟩:=bC hl;have hl:a.aI n=0:=hl;have gh:(a.u n).st=1:=gh;have hz:=ho.tz hl;have ir:=hc.tb _ hz.1.1 hz.1.2 hz.2;have yV:=hc.sh og;apply gO;apply XR.mono fun _ bJ=>gG (z:=(a.s.bI n).1.toNat) (dU hz.1 hz.2) (pk [15,15]) bJ;refine cq (iH a b c n hz) (pk [4,5]) ?_;refine cq (DT _ _ _ _ _ _ _ _ _ ir.rv ir.mc ir.len c.F yV x hx) (pk [2,2,11,11,11]) ?_;apply XO.bN (z:=.agg (WH.cO WH.nil)) (m:=2) (C:=aZ WH.nil) kq rfl (aZ.box _) rfl;intro bw;apply gO;refine gD .aa (aZ.st _ _) rfl ⟨rfl,rfl⟩ (XR.mono (fun _ bJ=>gz (z:=(a.s.bI n).1.toNat) (dU hz.1 hz.2) (pk [1,1,6,6]) bJ) ?_);refine cd rfl ?_ ?_<;>intro h1
  ·refine ah rfl rfl (ad (pk [6,7,6,6,6,6,6,6,6,3,3,3,3,3,3,0,0]) rfl ?_);try dsimp only[aL,aJ,aD,aR]
   grind [cH.up]
  ·apply XR.mono fun _ bJ=>gG (z:=(a.s.bI n).1.toNat) (dU hz.1 hz.2) (pz 2) bJ;refine cq (iH a b c n hz) (pk [8,8]) ?_;refine cq (Ap _ _ _ _ _ _ _ _ _ ir.rv ir.mc ir.len c.F yV y hy) (pk [2,2,5,5,5]) ?_;apply XO.bN (z:=.agg (WH.cO WH.nil)) (m:=2) (C:=aZ WH.nil) kq rfl (aZ.box _) rfl;intro bw2;apply gO;refine gD .aa (aZ.st _ _) rfl ⟨rfl,rfl⟩ (XR.mono (fun _ bJ=>gz (z:=(a.s.bI n).1.toNat) (dU hz.1 hz.2) (pk [1,1,6,6]) bJ) ?_);refine cd rfl ?_ ?_<;>intro h2
   ·refine ah rfl rfl (ad (pk [6,8,6,7,7,7,7,7,7,3,3,3,4,4,4,0,0]) rfl ?_);try dsimp only[aL,aJ,aD,aR]
    grind [cH.up]
   ·refine rq [0,1,2,3,4,5,6,7,8,9,10] mixed (ld (.t6 .aa) (aF.Bn _) (ld (.t8 .aa) (aZ.Ej _) (ld (.t2 .aa) (aZ.Ej _) ?_)));refine ca (acL _ _ c.F yV _ _ _ (by have:=yU c.F.toFF (c.t (a.s.bI n).1.toNat).l (c.t (a.s.bI n).1.toNat).r y;omega)) (pk [3,3,3]) ?_;rintro _ _ ⟨rfl,t,ht,hp,hr,rfl⟩;apply gO;refine ah rfl rfl (ad (pk [6,8,6,7,7,7,7,7,7,0,0,0,4,4,4,0,0]) rfl ?_);try dsimp only[aL,aJ,aD,aR]
    exact⟨_,{c with F:=t,dF:=c.dF},rfl,hc.Nc (by rw[ht];exact FF.Ok.up (hc.F.zU _ _ _) og) og hp hr (by rw[ht];exact Dm _ _ _ _),rfl⟩
 ·have hl:a.aI n≠0:=hl;have iD:(kp a b c).aI n=a.aI n:=rfl;rw[iD];apply gO;refine ah rfl rfl (ad (pz 17) rfl ?_);try dsimp only[aL,aJ,aD,aR]
  exact⟨a.aI n,c,(aQ _ hl).symm,hc.up (Nat.le_refl _) og,rfl⟩
def fO:nq Tryz.prog 163=true:=kq
def VZ:cV Tryz.prog 105=true:=kq
def adi:cV Tryz.prog 214=true:=kq
def adj:cV Tryz.prog 215=true:=kq
def Vs:jw Tryz.prog 95=true:=kq
def de:fk Tryz.prog 163=some 2:=kq
set_option maxHeartbeats 8000000 in
def Zn(a:KA)(b:KZ)(c:KC)(N:Nat)(T:Int)(ho:a.Ok T)(hc:cH a c N T)(hT:T<=800000)(n:Int)(x y:ByteArray)(hx:x.size<=100000)(hy:y.size<=100000):Spec Tryz.prog 170 [aC b.kb 0 0,iI n,.string x,.string y] (cU a b c []) (fun v H1=>∃ (e:Int) (c1:KC),v=az 102 e/\cH a c1 N (T+15)/\H1=(cU a b c1 [])):=by
 apply Spec.go 50 [0,1,2,3,8,10,11,12,20,31,42] [] Tryz.func170 rfl rfl rfl;intro W;refine ca (ef b.kb (kp a b c) n) .h1 ?_;rintro _ _ ⟨⟨hl,rfl⟩ | ⟨hl,rfl⟩,rfl⟩
 ·obtain⟨jy,gh⟩:=bC hl;have hl:a.aI n=0:=hl;have gh:(a.u n).st=1:=gh;have hz:=ho.tz hl;have ir:=hc.tb _ hz.1.1 hz.1.2 hz.2;have yV:=hc.sh og;apply gO;apply XR.mono fun _ bJ=>gG (z:=(a.s.bI n).1.toNat) (dU hz.1 hz.2) (pk [15,15]) bJ;refine cq (iH a b c n hz) (pk [4,5]) ?_;refine cq (aav _ _ _ _ _ _ _ _ _ ir.rv ir.mc ir.len c.F yV x hx) (pk [2,2,11,11,11]) ?_;apply XO.bN (z:=.agg (WH.cO WH.nil)) (m:=2) (C:=aZ WH.nil) kq rfl (aZ.box _) rfl;intro bw;apply gO;apply gD .aa (aZ.st _ _) rfl ⟨rfl,rfl⟩;apply XR.mono fun _ bJ=>gz (z:=(a.s.bI n).1.toNat) (dU hz.1 hz.2) (pk [1,1,6,6]) bJ;refine cd rfl ?_ ?_<;>intro h1
  ·refine ah rfl rfl (ad (pk [6,7,6,6,6,6,6,6,6,3,3,3,3,3,3,0,0]) rfl ?_);try dsimp only[aL,aJ,aD,aR]
   grind [cH.up]
  ·apply XR.mono fun _ bJ=>gG (z:=(a.s.bI n).1.toNat) (dU hz.1 hz.2) (pz 2) bJ;refine cq (iH a b c n hz) (pk [8,8]) ?_;refine cq (DT _ _ _ _ _ _ _ _ _ ir.rv ir.mc ir.len c.F yV y hy) (pk [2,2,5,5,5]) ?_;apply XO.bN (z:=.agg (WH.cO WH.nil)) (m:=2) (C:=aZ WH.nil) kq rfl (aZ.box _) rfl;intro bw2;apply gO;apply gD .aa (aZ.st _ _) rfl ⟨rfl,rfl⟩;apply XR.mono fun _ bJ=>gz (z:=(a.s.bI n).1.toNat) (dU hz.1 hz.2) (pk [1,1,6,6]) bJ;refine cd rfl ?_ ?_<;>intro h2
   ·refine ah rfl rfl (ad (pk [6,8,6,7,7,7,7,7,7,3,3,3,4,4,4,0,0]) rfl ?_);try dsimp only[aL,aJ,aD,aR]
    grind [cH.up]
   ·apply XR.mono fun _ bJ=>gG (z:=(a.s.bI n).1.toNat) (dU hz.1 hz.2) (pz 2) bJ;apply XC.fI mixed (f:=7) (l:= #[qF,qF,qF,qF,qF,qF,qF]) rfl rfl XM.iY;apply XQ.pv (i:=0) rfl kq rfl (V.move rfl) rfl rfl;apply XQ.pv (i:=1) rfl kq rfl (V.move rfl) rfl rfl;apply XQ.load (i:=3) (.cells _ _ _ _) [5] rfl kq rfl (.W5 .aa) (eB rfl dJ (aZ.agg _) fO de) rfl kq rfl;apply XQ.load (i:=4) (.cells _ _ _ _) [5] rfl kq rfl (.t4 .aa) (eB rfl dJ (aZ.agg _) fO de) rfl kq rfl;apply XQ.call (i:=2) rfl kq rfl rfl (iH a b c n hz) (pk [8,8]) VZ rfl (by rintro _ _ ⟨rfl,rfl⟩;all_goals(intro _ dG;exact⟨fun _=>eD (.t6 .aa) _ dG,fun _=>eD (.W5 .aa) _ dG,trivial⟩));rintro _ _ ⟨rfl,rfl⟩;apply XQ.call (i:=5) rfl kq rfl rfl (ac1 _ _ _ _ _ _ _ _ _ ir.rv ir.mc ir.len c.F c.dF T hc.F og _ _) (pk [2,2,5,5,5]) adi rfl (by rintro _ _ ⟨rfl,p1,k1,k2,k3,C1,u,WA,hC1,hu,hp,hr,rfl⟩;all_goals(intro _ dG;exact⟨fun hs=>(hs 5 (by first | (simp;done) | (simp;rfl)) rfl).elim,fun hs=>(hs 5 (by first | (simp;done) | (simp;rfl)) rfl).elim,trivial⟩));rintro _ _ ⟨rfl,p1,k1,k2,k3,C1,u,WA,hC1,hu,hp,hr,rfl⟩;apply XQ.pv (i:=6) rfl kq rfl (V.assign rfl) rfl rfl;apply XQ.mono (fun _ bJ=>yz (z:=(a.s.bI n).1.toNat) (⟨(c.t (a.s.bI n).1.toNat).b,(c.t (a.s.bI n).1.toNat).r,(o4 c.F.toFF (c.t (a.s.bI n).1.toNat).l (Bp c.F.toFF (c.t (a.s.bI n).1.toNat).l (c.t (a.s.bI n).1.toNat).r x) (Ki c.F.toFF (c.t (a.s.bI n).1.toNat).l (c.t (a.s.bI n).1.toNat).r y)),p1,k1,k2,k3,C1⟩:TB) (dU hz.1 hz.2) (pk [0,0,5,5]) bJ);apply XQ.done kq;apply gE;refine ah rfl rfl (ad (pk [5,8,5,7,7,7,7,7,7,2,2,2,4,4,4,0,0]) rfl ?_);try dsimp only[aL,aJ,aD,aR]
    refine⟨_,{c with F:=u,t:=bF c.t (a.s.bI n).1.toNat (⟨(c.t (a.s.bI n).1.toNat).b,(c.t (a.s.bI n).1.toNat).r,(o4 c.F.toFF (c.t (a.s.bI n).1.toNat).l (Bp c.F.toFF (c.t (a.s.bI n).1.toNat).l (c.t (a.s.bI n).1.toNat).r x) (Ki c.F.toFF (c.t (a.s.bI n).1.toNat).l (c.t (a.s.bI n).1.toNat).r y)),p1,k1,k2,k3,C1⟩:TB)},rfl,hc.tab ⟨WA,hC1,Rq ir.len _ _⟩ (by rw[hu];exact FF.Ok.up (Uy hc.F _ _ _) og) hp hr (by rw[hu];exact K1 _ _ _ _),?_⟩;grind [Nd,Nf]
 ·have hl:a.aI n≠0:=hl;have iD:(kp a b c).aI n=a.aI n:=rfl;rw[iD];apply gO;refine ah rfl rfl (ad (pz 17) rfl ?_);try dsimp only[aL,aJ,aD,aR]
  exact⟨a.aI n,c,(aQ _ hl).symm,hc.up (Nat.le_refl _) og,rfl⟩
set_option maxHeartbeats 8000000 in
def Rs(a:KA)(b:KZ)(c:KC)(N:Nat)(T:Int)(ho:a.Ok T)(hc:cH a c N T)(hT:T<=800000)(n:Int)(x:ByteArray)(hx:x.size<=100000):Spec Tryz.prog 171 [aC b.kb 0 0,iI n,.string x] (cU a b c []) (fun v H1=>∃ (e:Int) (c1:KC),v=az 102 e/\cH a c1 N (T+15)/\H1=(cU a b c1 [])):=by
 apply Spec.go 35 [0,1,2,6,8,9,17,28] [] Tryz.func171 rfl rfl rfl;intro W;refine ca (ef b.kb (kp a b c) n) .h1 ?_;rintro _ _ ⟨⟨hl,rfl⟩ | ⟨hl,rfl⟩,rfl⟩
 ·obtain⟨jy,gh⟩:=bC hl;have hl:a.aI n=0:=hl;have gh:(a.u n).st=1:=gh;have hz:=ho.tz hl;have ir:=hc.tb _ hz.1.1 hz.1.2 hz.2;have yV:=hc.sh og;apply gO;apply XR.mono fun _ bJ=>gG (z:=(a.s.bI n).1.toNat) (dU hz.1 hz.2) (pk [15,15]) bJ;refine cq (iH a b c n hz) (pk [4,5]) ?_;refine cq (aav _ _ _ _ _ _ _ _ _ ir.rv ir.mc ir.len c.F yV x hx) (pk [2,2,11,11,11]) ?_;apply XO.bN (z:=.agg (WH.cO WH.nil)) (m:=2) (C:=aZ WH.nil) kq rfl (aZ.box _) rfl;intro bw;apply gO;apply gD .aa (aZ.st _ _) rfl ⟨rfl,rfl⟩;apply XR.mono fun _ bJ=>gz (z:=(a.s.bI n).1.toNat) (dU hz.1 hz.2) (pk [1,1,6,6]) bJ;refine cd rfl ?_ ?_<;>intro h1
  ·refine ah rfl rfl (ad (pk [6,7,6,6,6,6,6,6,6,3,3,3,3,3,3,0,0]) rfl ?_);try dsimp only[aL,aJ,aD,aR]
   grind [cH.up]
  ·apply XR.mono fun _ bJ=>gG (z:=(a.s.bI n).1.toNat) (dU hz.1 hz.2) (pz 2) bJ;apply XC.fI mixed (f:=6) (l:= #[qF,qF,qF,qF,qF,qF]) rfl rfl XM.iY;apply XQ.pv (i:=0) rfl kq rfl (V.move rfl) rfl rfl;apply XQ.pv (i:=1) rfl kq rfl (V.move rfl) rfl rfl;apply XQ.load (i:=3) (.cells _ _ _ _) [4] rfl kq rfl (.t4 .aa) (eB rfl dJ (aZ.agg _) fO de) rfl kq rfl;apply XQ.call (i:=2) rfl kq rfl rfl (iH a b c n hz) (pk [8,8]) VZ rfl (by rintro _ _ ⟨rfl,rfl⟩;all_goals(intro _ dG;exact⟨fun _=>eD (.t6 .aa) _ dG,trivial⟩));rintro _ _ ⟨rfl,rfl⟩;apply XQ.call (i:=4) rfl kq rfl rfl (Vz _ _ _ _ _ _ _ _ _ ir.rv ir.mc ir.len c.F c.dF T hc.F og _) (pk [2,2,5,5,5]) adj rfl (by rintro _ _ ⟨rfl,p1,k1,k2,k3,C1,u,WA,hC1,hu,hp,hr,rfl⟩;all_goals(intro _ dG;exact⟨fun hs=>(hs 4 (by first | (simp;done) | (simp;rfl)) rfl).elim,trivial⟩));rintro _ _ ⟨rfl,p1,k1,k2,k3,C1,u,WA,hC1,hu,hp,hr,rfl⟩;apply XQ.pv (i:=5) rfl kq rfl (V.assign rfl) rfl rfl;apply XQ.mono (fun _ bJ=>yz (z:=(a.s.bI n).1.toNat) (⟨(c.t (a.s.bI n).1.toNat).b,(c.t (a.s.bI n).1.toNat).r,(mP (c.t (a.s.bI n).1.toNat).l (Bp c.F.toFF (c.t (a.s.bI n).1.toNat).l (c.t (a.s.bI n).1.toNat).r x)),p1,k1,k2,k3,C1⟩:TB) (dU hz.1 hz.2) (pk [0,0,5,5]) bJ);apply XQ.done kq;apply gE;refine ah rfl rfl (ad (pk [5,7,5,6,6,6,6,6,6,2,2,2,3,3,3,0,0]) rfl ?_);try dsimp only[aL,aJ,aD,aR]
   refine⟨_,{c with F:=u,t:=bF c.t (a.s.bI n).1.toNat (⟨(c.t (a.s.bI n).1.toNat).b,(c.t (a.s.bI n).1.toNat).r,(mP (c.t (a.s.bI n).1.toNat).l (Bp c.F.toFF (c.t (a.s.bI n).1.toNat).l (c.t (a.s.bI n).1.toNat).r x)),p1,k1,k2,k3,C1⟩:TB)},rfl,hc.tab ⟨WA,hC1,K0 ir.len _⟩ (by rw[hu];exact FF.Ok.up (Ym hc.F _ _) og) hp hr (by rw[hu];exact E0 _ _ _),?_⟩;grind [Nd,Nf]
 ·have hl:a.aI n≠0:=hl;have iD:(kp a b c).aI n=a.aI n:=rfl;rw[iD];apply gO;refine ah rfl rfl (ad (pz 17) rfl ?_);try dsimp only[aL,aJ,aD,aR]
  exact⟨a.aI n,c,(aQ _ hl).symm,hc.up (Nat.le_refl _) og,rfl⟩
set_option maxHeartbeats 8000000 in
def V0(a:KA)(b:KZ)(c:KC)(N:Nat)(T:Int)(ho:a.Ok T)(hc:cH a c N T)(hT:T<=800000)(n z:Int):Spec Tryz.prog 39 [aC b.kb 0 0,iI n,iI z] (cU a b c []) (fun v H1=>∃ (e:Int) (c1:KC),v=az 102 e/\cH a c1 N (T+15)/\H1=(cU a b c1 [])):=by
 apply Spec.go 31 [0,1,2,6,8,16,24] [] Tryz.func39 rfl rfl rfl;intro W;refine ca (ef b.kb (kp a b c) n) .h1 ?_;rintro _ _ ⟨⟨hl,rfl⟩ | ⟨hl,rfl⟩,rfl⟩
 ·obtain⟨jy,gh⟩:=bC hl;have hl:a.aI n=0:=hl;have gh:(a.u n).st=1:=gh;have hz:=ho.tz hl;have ir:=hc.tb _ hz.1.1 hz.1.2 hz.2;have yV:=hc.sh og;apply gO;refine cq (il b.kb (kp a b c) a.s n) (pk [0,1]) ?_;refine cq (Am b.kb (kp a b c) a.s _) (pz 2) ?_;refine cd rfl ?_ ?_<;>intro h1
  ·refine ah rfl rfl (ad (pk [0,1,0,0,0,0,0,0,0,0,0,0,0,0,0,0,0]) rfl ?_);try dsimp only[aL,aJ,aD,aR]
   exact⟨8,c,rfl,hc.up (Nat.le_refl _) og,rfl⟩
  ·apply XR.mono fun _ bJ=>gG (z:=(a.s.bI n).1.toNat) (dU hz.1 hz.2) (pk [15,15]) bJ;have eR:db c.rp c.rc 3 c.rl=db c.F.rP c.F.rC 3 c.F.toFF.roots:=by rw[hc.rp,hc.rc,hc.rl]
   try unfold cU
   rw[eR];refine cq (iH a b c n hz) (pk [4,4]) ?_;refine ca (YX _ _ _ _ _ _ _ _ _ ir.rv ir.mc ir.len c.F c.dF T hc.F og z) (pk [2,2,11,11,11,11]) ?_;rintro _ _ (⟨gK,rfl,rfl⟩ | ⟨hre,rfl,u,hu,xt,hp,hr,rfl⟩)
   ·apply gO;refine XR.mono (fun _ bJ=>gz (z:=(a.s.bI n).1.toNat) (dU hz.1 hz.2) (pk [0,0,6,6]) bJ) ?_;refine ah rfl rfl (ad (pk [6,7,6,6,6,6,6,6,6,2,2,2,2,2,2,0,0]) rfl ?_);try dsimp only[aL,aJ,aD,aR]
    grind [cH.up]
   ·apply gO;refine XR.mono (fun _ bJ=>yz (z:=(a.s.bI n).1.toNat) (⟨(c.t (a.s.bI n).1.toNat).b,⟨z,c.F.toFF.fK z⟩,[],none,0,0,0,C0⟩:TB) (dU hz.1 hz.2) (pk [0,0,6,6]) bJ) ?_;refine ah rfl rfl (ad (pk [6,7,6,6,6,6,6,6,6,2,2,2,2,2,2,0,0]) rfl ?_);try dsimp only[aL,aJ,aD,aR]
    rw[<-eR];refine⟨0,{c with F:=u,t:=bF c.t (a.s.bI n).1.toNat (⟨(c.t (a.s.bI n).1.toNat).b,⟨z,c.F.toFF.fK z⟩,[],none,0,0,0,C0⟩:TB)},rfl,hc.tab ⟨ae5,fun i hi=>absurd hi (by show ¬i<0*4;omega),(by show 0<=6;omega)⟩ (FF.Ok.up xt og) hp hr (by rw[hu,sB];exact j9 _ _),?_⟩;grind [Nd,Nf]
 ·have hl:a.aI n≠0:=hl;have iD:(kp a b c).aI n=a.aI n:=rfl;rw[iD];apply gO;refine ah rfl rfl (ad (pz 17) rfl ?_);try dsimp only[aL,aJ,aD,aR]
  exact⟨a.aI n,c,(aQ _ hl).symm,hc.up (Nat.le_refl _) og,rfl⟩
def V1(a:KA)(b:KZ)(c:KC)(N:Nat)(T:Int)(ho:a.Ok T)(hc:cH a c N T)(hT:T<=800000):Spec Tryz.prog 38 [aC b.kb 0 0] (cU a b c []) (fun v H1=>∃ (m e:Int) (c1:KC),v= .tuple #[iI m,az 102 e]/\cH a c1 N (T+15)/\H1=(cU a b c1 [])):=by
 apply Spec.go 11 [0,2,3] [] Tryz.func38 rfl rfl rfl;intro W;have eR:db c.rp c.rc 3 c.rl=db c.F.rP c.F.rC 3 c.F.toFF.roots:=by rw[hc.rp,hc.rc,hc.rl]
 try unfold cU
 rw[eR];apply ld .aa (aF.Bn _);refine ca (OM _ _ c.F (hc.sh og)) (pk [9,9,9,9]) ?_;rintro _ _ ⟨t,rfl,ht,rfl⟩;apply gO;refine ao rfl rfl rfl (ad (pk [4,4,4,4,4,4,4,4,4,0,0,0,0,0,0,0,0]) rfl ?_);obtain⟨d1,xt⟩:=hc.F.yg;exact⟨_,_,{c with F:=t,dF:=d1,rp:=t.rP,rc:=t.rC,rl:=t.toFF.roots},rfl,⟨hc.qO.mono (Nat.le_refl _) og,hc.qR,(by show t.toFF.Ok _ _;rw[ht];exact FF.Ok.up xt og),rfl,rfl,rfl,hc.tb,hc.tk⟩,rfl⟩
open Go.X.Fa Go.X.Gr Go.X.Vm
set_option maxHeartbeats 16000000 in
def Zo(a:KA)(b:KZ)(c:KC)(N:Nat)(T:Int)(ho:a.Ok T)(hc:cH a c N T)(hT:T<=800000)(n:Int)(x:ByteArray)(hx:x.size<=100000)(o m:Bool):Spec Tryz.prog 163 [aC b.kb 0 0,iI n,.string x,.bool o,.bool m] (cU a b c []) (fun v H1=>∃ (a1:KA) (r e:Int) (c1:KC),v= .tuple #[iI r,az 102 e]/\a.O1 n a1/\cH a1 c1 N (T+15)/\H1=(cU a1 b c1 [])):=by
 apply Spec.go 106 [0,1,2,3,4,10,11,12,13,14,15,16,17,18,19,20,28,41,58,69,83,96] [(9,1)] Tryz.func163 rfl rfl rfl;intro W;refine ca (ef b.kb (kp a b c) n) .h1 ?_;rintro _ _ ⟨⟨hl,rfl⟩ | ⟨hl,rfl⟩,rfl⟩
 ·obtain⟨jy,gh⟩:=bC hl;have hl:a.aI n=0:=hl;have gh:(a.u n).st=1:=gh;have hz:=ho.tz hl;have ir:=hc.tb _ hz.1.1 hz.1.2 hz.2;have yV:=hc.sh og;have h1:a.mK n=jE (a.u n).fd 0:=rfl;apply gO;refine cq (BZ a b c n jy 0) .h1 ?_;refine sp 34 rfl ?_ ?_<;>intro h1
  ·refine ao rfl rfl rfl (ad (pz 17) rfl ?_);try dsimp only[aL,aJ,aD,aR]
   exact⟨a,0,4,c,rfl,.inl rfl,hc.up (Nat.le_refl _) og,rfl⟩
  ·have hs0:¬a.mK n<0:=h1;have It:=vj (a.u n).fd 0;apply ld .aa (gx _);refine cq (acV _ _ _ _ a.O T og ho.wk.OI 1) (pk [14]) ?_;refine we rfl ?_ ?_<;>intro h2
   ·try simp only[sb]at h2
    refine ao rfl rfl rfl (ad (pk [1,1,1,1,1,1,1,1,1,1,1,1,1,1,0,0,0]) rfl ?_);try dsimp only[aL,aJ,aD,aR]
    exact⟨a,0,4,c,rfl,.inl rfl,hc.up (Nat.le_refl _) og,rfl⟩
   ·try simp only[sb]at h2
    apply XR.mono fun _ bJ=>gG (z:=(a.s.bI n).1.toNat) (dU hz.1 hz.2) (pk [15,15]) bJ;refine cq (iH a b c n hz) (pk [5,6]) ?_;refine cq (DT _ _ _ _ _ _ _ _ _ ir.rv ir.mc ir.len c.F yV x hx) (pk [2,2,12,12,12]) ?_;apply XO.bN (z:=.agg (WH.cO WH.nil)) (m:=2) (C:=aZ WH.nil) kq rfl (aZ.box _) rfl;intro bw;apply gO;refine gD .aa (aZ.st _ _) rfl ⟨rfl,rfl⟩ (XR.mono (fun _ bJ=>gz (z:=(a.s.bI n).1.toNat) (dU hz.1 hz.2) (pk [1,1,6,6]) bJ) ?_);refine ld (.t2 .aa) (aZ.Ej _) ?_;apply ZV (σ:=Int×Int×FC×(Int->Nat)) (fun y=>cH a {c with F:=y.2.2.1,dF:=y.2.2.2} N (T+1)) (fun y=>[(0,aC b.kb 0 0),(3,.bool o),(12,aC b.kb 0 (0+0+n.toNat*22)),(13,az 102 y.2.1),(14,iI (a.mK n)),(16,iI y.1)]) fun y=>XM W (bZ (cU a b c [])) [.cells b.kb 0 453 (aF (kp a b {c with F:=y.2.2.1,dF:=y.2.2.2})),.cells b.gb 0 60 (bE a.g),.cells b.sb 0 158 (Sp.aP a.s),.cells b.qb 0 2281 (aM {c with F:=y.2.2.1,dF:=y.2.2.2}.q),.aV b7 (SC.da 254 {c with F:=y.2.2.1,dF:=y.2.2.2}.q),.cells b.bb 0 577 (dD b.vp a.v.iq a.v.rf),.cells b.vp 0 71 (Vm.bL a.v.bb.fi),.dN (iR a) {c with F:=y.2.2.1,dF:=y.2.2.2}.mb 34 (cN b.bb a.f {c with F:=y.2.2.1,dF:=y.2.2.2}.pp {c with F:=y.2.2.1,dF:=y.2.2.2}.cc),.aV (iR a) (rN 171 a.f {c with F:=y.2.2.1,dF:=y.2.2.2}.pp {c with F:=y.2.2.1,dF:=y.2.2.2}.cc),.cells b.tb 0 321 (aH {c with F:=y.2.2.1,dF:=y.2.2.2}.F),.aV ax (FC.aX 9 {c with F:=y.2.2.1,dF:=y.2.2.2}.F),.aV ax (FC.aY 3 {c with F:=y.2.2.1,dF:=y.2.2.2}.F),db {c with F:=y.2.2.1,dF:=y.2.2.2}.rp {c with F:=y.2.2.1,dF:=y.2.2.2}.rc 3 {c with F:=y.2.2.1,dF:=y.2.2.2}.rl,.cells b.pi 0 24 (Tr.bL a.P),.cells b.ob 0 122 (bh b.tb b.pi a.O),.dN (kG a) (fun z=>({c with F:=y.2.2.1,dF:=y.2.2.2}.t z).b) 4 (cT b.tb {c with F:=y.2.2.1,dF:=y.2.2.2}.t),.aV (kG a) (rT 168 {c with F:=y.2.2.1,dF:=y.2.2.2}.t)]
    ·refine XO.v (NI rfl rfl dq Tryz.underlying33 OY rfl Tryz.underlying102 rfl) rfl (gO ?_);refine sp 56 rfl ?_ ?_<;>intro h3
     ·refine we rfl ?_ ?_<;>intro h4
      ·try simp only[sb]at h4
       apply XR.mono fun _ bJ=>gG (z:=(a.s.bI n).1.toNat) (dU hz.1 hz.2) (pz 2) bJ;refine cq (iH a b c n hz) (pk [8,8]) ?_;refine cq (Ap _ _ _ _ _ _ _ _ _ ir.rv ir.mc ir.len c.F yV x hx) (pk [2,2,5,5,5]) ?_;apply XO.bN (z:=.agg (WH.cO WH.nil)) (m:=2) (C:=aZ WH.nil) kq rfl (aZ.box _) rfl;intro bw2;apply gO;refine gD .aa (aZ.st _ _) rfl ⟨rfl,rfl⟩ (XR.mono (fun _ bJ=>gz (z:=(a.s.bI n).1.toNat) (dU hz.1 hz.2) (pk [1,1,6,6]) bJ) ?_);refine cd rfl ?_ ?_<;>intro h5
       ·refine ao rfl rfl rfl (ad (pk [6,9,6,8,8,8,8,8,8,3,3,3,5,5,4,0,0]) rfl ?_);try dsimp only[aL,aJ,aD,aR]
        exact⟨a,0,_,c,rfl,.inl rfl,hc.up (Nat.le_refl _) og,rfl⟩
       ·refine rq [0,1,2,3,4,5,6,7,8,9,10,11,12] mixed (ld (.t6 .aa) (aF.Bn _) (ld (.t2 .aa) (aZ.Ej _) ?_));refine ca (Vg _ _ c.F yV _ _ 1 (by have:=yU c.F.toFF (c.t (a.s.bI n).1.toNat).l (c.t (a.s.bI n).1.toNat).r x;omega)) (pk [3,3,3]) ?_;rintro _ _ ⟨rfl,t,ht,hp,hr,rfl⟩;obtain⟨d1,xt⟩:=hc.F.make (tV c.F.toFF (c.t (a.s.bI n).1.toNat).l (c.t (a.s.bI n).1.toNat).r x).node (qN c.F.toFF (c.t (a.s.bI n).1.toNat).l (c.t (a.s.bI n).1.toNat).r x) 1;apply gO;refine nm ((_,_,t,d1)) ?_ (S6 rfl rfl rfl rfl rfl rfl) fun _ hw=>XM.pick (pk [6,9,6,8,8,8,8,8,8,0,0,0,5,5,4,0,0]) hw;grind [cH.Nc,wM]
      ·try simp only[sb]at h4
       refine nm ((_,_,c.F,c.dF)) ?_ (S6 rfl rfl rfl rfl rfl rfl) fun _ hw=>XM.pick (pk [6,8,6,7,7,7,7,7,7,3,3,3,4,4,3,0,0]) hw;exact hc.up (Nat.le_refl _) og
     ·refine nm ((_,_,c.F,c.dF)) ?_ (S6 rfl rfl rfl rfl rfl rfl) fun _ hw=>XM.pick (pk [6,8,6,7,7,7,7,7,7,3,3,3,4,4,3,0,0]) hw;exact hc.up (Nat.le_refl _) og
    intro y hy;apply gC;refine cd rfl ?_ ?_<;>intro h6
    ·refine ao rfl rfl rfl (ad (pz 17) rfl ?_);try dsimp only[aL,aJ,aD,aR]
     grind [cH.up,KA.O1]
    ·apply ld .aa (gx _);refine ca (acR _ _ _ _ a.O y.2.2.1 (hy.sh og) y.1 o) (pk [14,9,9,9]) ?_;rintro _ _ ⟨rfl,t,ht,hp,hr,rfl⟩;apply gO;refine cd rfl ?_ ?_<;>intro h7
     ·have hoe:nD y.2.2.1.toFF a.O y.1≠0:=h7;refine ao rfl rfl rfl (ad (pk [4,4,4,4,4,4,4,4,4,1,1,1,1,1,0,0,0]) rfl ?_);try dsimp only[aL,aJ,aD,aR]
      have hO:p7 y.2.2.1.toFF a.O y.1 o=a.O:=by unfold p7;rw[if_neg hoe]
      rw[hO];exact⟨a,0,_,{c with F:=t,dF:=y.2.2.2},rfl,.inl rfl,hy.Nc (c:= {c with F:=y.2.2.1,dF:=y.2.2.2}) (by rw[ht];exact zZ hy.F _ _) og hp hr (by rw[ht];exact rX _ _ _),rfl⟩
     ·have hoe:¬nD y.2.2.1.toFF a.O y.1≠0:=h7;have hof:¬a.O.first<0:=by
       intro q;unfold nD at hoe;omega
      have hor:=Tr.OS.nc hof;have hov:tS y.2.2.1.toFF a.O y.1=a.O.first:=by unfold tS;rw[if_pos og]
      refine sd (sd (st (.t4 .aa) (lu _ jy ⟨It.1,It.2.1⟩ _) rfl (ao rfl rfl rfl (ad (pk [4,4,4,4,4,4,4,4,4,1,1,1,1,1,0,0,0]) rfl ?_)))) (by first | omega | (rw[hov];omega));try dsimp only[aL,aJ,aD,aR]
      have hO:p7 y.2.2.1.toFF a.O y.1 o=a.O.lay a.O.first 1 y.1 o:=by unfold p7;rw[if_pos og]
      rw[hO,hov];refine⟨a.VY n y.1 o,_,0,{c with F:=t,dF:=y.2.2.2},rfl,.inr ⟨y.1,o,hl,⟨It.1,It.2.1⟩,⟨hor.1,hor.2.1⟩,rfl⟩,hy.Nc (c:= {c with F:=y.2.2.1,dF:=y.2.2.2}) (by rw[ht];exact zZ hy.F _ _) og hp hr (by rw[ht];exact rX _ _ _) rfl fun m q=>by show(BW _ _ _ _ _).st=1;rw[(jz _ _ _ _ _).1];exact q,?_⟩;unfold KA.VY;try unfold cU
      rw[H7,<-D4 a b {c with F:=t,dF:=y.2.2.2} n (a.mK n) (a.O.first+1) (a.O.lay a.O.first 1 y.1 o) a.P];rfl
 ·have hl:a.aI n≠0:=hl;have iD:(kp a b c).aI n=a.aI n:=rfl;rw[iD];apply gO;refine ao rfl rfl rfl (ad (pz 17) rfl ?_);try dsimp only[aL,aJ,aD,aR]
  exact⟨a,0,a.aI n,c,(by rw[aQ _ hl]),.inl rfl,hc.up (Nat.le_refl _) og,rfl⟩
end Go.X.Kn

namespace Go.X.Kn
open Go Go.Proofs Go.X Go.X.Tr
set_option maxRecDepth 20000
set_option maxHeartbeats 4000000
def Ao:nq Tryz.prog 211=true:=kq
def nh:fk Tryz.prog 211=some 4:=kq
attribute [local irreducible] KA.cR KA.cK
set_option maxHeartbeats 8000000 in
def V2(a:KA)(b:KZ)(c:KC)(N:Nat)(T:Int)(ho:a.Ok T)(hc:cH a c N T)(hT:T<=800000)(n:Int)(x:ByteArray)(hx:x.size<=100000):Spec Tryz.prog 172 [aC b.kb 0 0,iI n,.string x] (cU a b c []) (fun v H1=>∃ (p:Option Addr) (k:Nat) (ns:List ByteArray) (e:Int),(ns.length<=8/\∀ y∈ns,y.size<=8)/\v= .tuple #[.slice p ns.length k,az 102 e]/\H1=jN p k 9 ns::(cU a b c [])):=by
 apply Spec.go 40 [0,1,2,6,7,9,10,18,29] [] Tryz.func172 rfl rfl rfl;intro W;refine ca (ef b.kb (kp a b c) n) .h1 ?_;rintro _ _ ⟨⟨hl,rfl⟩ | ⟨hl,rfl⟩,rfl⟩
 ·obtain⟨jy,gh⟩:=bC hl;have hl:a.aI n=0:=hl;have gh:(a.u n).st=1:=gh;have hz:=ho.tz hl;have ir:=hc.tb _ hz.1.1 hz.1.2 hz.2;have yV:=hc.sh og;apply gO;apply XR.mono fun _ bJ=>gG (z:=(a.s.bI n).1.toNat) (dU hz.1 hz.2) (pk [15,15]) bJ;refine cq (iH a b c n hz) (pk [4,5]) ?_;refine cq (DT _ _ _ _ _ _ _ _ _ ir.rv ir.mc ir.len c.F yV x hx) (pk [2,2,11,11,11]) ?_;apply XO.bN (z:=.agg (WH.cO WH.nil)) (m:=2) (C:=aZ WH.nil) kq rfl (aZ.box _) rfl;intro bw;apply gO;refine gD .aa (aZ.st _ _) rfl ⟨rfl,rfl⟩ (XR.mono (fun _ bJ=>gz (z:=(a.s.bI n).1.toNat) (dU hz.1 hz.2) (pk [1,1,6,6]) bJ) ?_);refine cd rfl ?_ ?_<;>intro h1
  ·refine XR.fc 9 1 (ao rfl rfl rfl (ad (pk [0,6,7,6,6,6,6,6,6,6,3,3,3,3,3,3,0,0]) rfl ?_));exact⟨none,0,[],_,⟨dq,fun y q=>by cases q⟩,rfl,rfl⟩
  ·refine rq [0,1,2,3,4,5,6,7,8,9,10] mixed (ld (.t6 .aa) (aF.Bn _) (ld (.t2 .aa) (aZ.Ej _) ?_));refine ca (acK _ _ c.F yV _) (pk [3,3,3]) ?_;rintro _ _ (⟨hle,rfl,rfl⟩ | ⟨hle,p,k,rfl,rfl⟩)
   ·apply gO;refine XR.fc 9 1 (ao rfl rfl rfl (ad (pk [0,6,7,6,6,6,6,6,6,6,0,0,0,3,3,3,0,0]) rfl ?_));exact⟨none,0,[],_,⟨dq,fun y q=>by cases q⟩,rfl,rfl⟩
   ·apply gO;refine ao rfl rfl rfl (ad (pk [0,6,7,6,6,6,6,6,6,6,0,0,0,3,3,3,0,0]) rfl ?_);exact⟨p,k,_,0,Zk hc.F hle,rfl,rfl⟩
 ·have hl:a.aI n≠0:=hl;have iD:(kp a b c).aI n=a.aI n:=rfl;rw[iD];apply gO;refine XR.fc 9 1 (ao rfl rfl rfl (ad (pz 18) rfl ?_));exact⟨none,0,[],a.aI n,⟨dq,fun y q=>by cases q⟩,by rw[aQ _ hl];rfl,rfl⟩
set_option maxHeartbeats 8000000 in
def Zp(a:KA)(b:KZ)(c:KC)(N:Nat)(T:Int)(ho:a.Ok T)(hc:cH a c N T)(hT:T<=800000)(n:Int)(x:ByteArray)(hx:x.size<=100000):Spec Tryz.prog 173 [aC b.kb 0 0,iI n,.string x] (cU a b c []) (fun v H1=>(∃ (k:NV) (e:Int),NVs k/\v= .tuple #[.agg k.cO,az 102 e])/\H1=(cU a b c [])):=by
 apply Spec.go 42 [0,1,2,6,7,9,10,18,30] [] Tryz.func173 rfl rfl rfl;intro W;apply XO.bN (z:=.agg NV.zero.cO) (m:=4) (C:=nQ NV.zero) kq rfl (oz _) rfl;intro bg;apply gO;refine ca (ef b.kb (kp a b c) n) (pk [1]) ?_;rintro _ _ ⟨⟨hl,rfl⟩ | ⟨hl,rfl⟩,rfl⟩
 ·obtain⟨jy,gh⟩:=bC hl;have hl:a.aI n=0:=hl;have gh:(a.u n).st=1:=gh;have hz:=ho.tz hl;have ir:=hc.tb _ hz.1.1 hz.1.2 hz.2;have yV:=hc.sh og;apply gO;apply XR.mono fun _ bJ=>gG (z:=(a.s.bI n).1.toNat) (dU hz.1 hz.2) (pk [16,16]) bJ;refine cq (iH a b c n hz) (pk [4,6]) ?_;refine cq (DT _ _ _ _ _ _ _ _ _ ir.rv ir.mc ir.len c.F yV x hx) (pk [2,2,12,12,12]) ?_;apply XO.bN (z:=.agg (WH.cO WH.nil)) (m:=2) (C:=aZ WH.nil) kq rfl (aZ.box _) rfl;intro bw;apply gO;refine gD .aa (aZ.st _ _) rfl ⟨rfl,rfl⟩ (XR.mono (fun _ bJ=>gz (z:=(a.s.bI n).1.toNat) (dU hz.1 hz.2) (pk [1,1,6,6]) bJ) ?_);refine cd rfl ?_ ?_<;>intro h1
  ·refine XO.v (V.build (vs:= #[]) rfl (v:=.agg NV.zero.cO) fun _=>kq) rfl (gO ?_);refine gD (.t8 .aa) (lS _ _) rfl ⟨rfl,rfl⟩ (dX rfl (.agg rfl (.t8 .aa) (qM _) Ao nh) (.tmp rfl) (ad (pk [6,8,6,7,7,7,7,7,7,3,3,3,4,4,4,0,0]) rfl ?_));try dsimp only[aL,aJ,aD,aR]
   grind [afK]
  ·refine rq [0,1,2,3,4,5,6,7,8,9,10] mixed (ld (.t6 .aa) (aF.Bn _) (ld (.t2 .aa) (aZ.Ej _) ?_));refine cq (Tr.MH _ _ c.F yV _) (pk [3]) ?_;refine gD (.t8 .aa) (lS _ _) rfl ⟨rfl,rfl⟩ (dX rfl (.agg rfl (.t8 .aa) (qM _) Ao nh) (.tmp rfl) (ad (pk [6,8,6,7,7,7,7,7,7,0,3,3,4,4,4,0,0]) rfl ?_));try dsimp only[aL,aJ,aD,aR]
   exact⟨⟨_,_,afJ hc.F og _,rfl⟩,rfl⟩
 ·have hl:a.aI n≠0:=hl;have iD:(kp a b c).aI n=a.aI n:=rfl;rw[iD];apply gO;refine XO.v (V.build (vs:= #[]) rfl (v:=.agg NV.zero.cO) fun _=>kq) rfl (gO ?_);refine gD (.av .aa) (lS _ _) rfl ⟨rfl,rfl⟩ (dX rfl (.agg rfl (.av .aa) (qM _) Ao nh) (.tmp rfl) (ad (pk [0,1,1,1,1,1,1,1,1,1,1,1,1,1,1,1,1]) rfl ?_));try dsimp only[aL,aJ,aD,aR]
  exact⟨⟨_,a.aI n,afK,by rw[aQ _ hl]⟩,rfl⟩
end Go.X.Kn

namespace Go.X.Kn
open Go Go.X
def KA.Au(a:KA)(n:Int):Int:=if a.aI n=0/\(a.s.fS (a.u n).aA (a.s.bI n).1).2=0 then(a.s.fS (a.u n).aA (a.s.bI n).1).1 else 0
def KA.WB(a:KA)(n q:Int):Bool:=decide (1<=q/\(a.s.find (a.s.bI n).1 q).2=0)
def KA.sQ(a:KA)(n:Int):List Int:=if a.aI n≠0 then []else Vm.fl (a.WB n) 21
open Go.Proofs Go.X.Sp
set_option maxRecDepth 20000
set_option maxHeartbeats 4000000
def r7(z:Int):∀ w,(Instr.buildSlice 55 1 #[(0,iI z)]).run Tryz.prog w= .ok (.slice (some ⟨w.heap.size,0,none⟩) 1 1) (w.alloc (.cells #[iI z] 3)):=fun w=>kq
def Zq:eC Tryz.prog 89 1=some 1:=kq
def o8:rh Tryz.prog 3 1=true:=kq
attribute [local irreducible] KA.cR KA.cK
def Gq(a:KA)(b:KZ)(c:KC)(n:Int):Spec Tryz.prog 33 [aC b.kb 0 0,iI n] [.cells b.kb 0 453 (aF (kp a b c)),.cells b.sb 0 158 (Sp.aP a.s)] (fun v H1=>v= .tuple #[iI (a.Au n),az 102 (a.aI n)]/\H1=[.cells b.kb 0 453 (aF (kp a b c)),.cells b.sb 0 158 (Sp.aP a.s)]):=by
 apply Spec.go 36 [0,1,4,5,6,7,8,16,34] [] Tryz.func33 rfl rfl rfl;intro W;refine ca (ef b.kb (kp a b c) n) .h1 ?_;rintro _ _ ⟨⟨hl,rfl⟩ | ⟨hl,rfl⟩,rfl⟩
 ·obtain⟨jy,gh⟩:=bC hl;have hl:a.aI n=0:=hl;have gh:(a.u n).st=1:=gh;apply gO;refine XC.fI mixed (f:=17) (l:= #[qF,qF,qF,qF,qF,qF,qF,qF,qF,qF,qF,qF,qF,qF,qF,qF,qF]) rfl rfl XM.iY (XQ.pv (i:=0) rfl kq rfl (V.move rfl) rfl rfl (XQ.pv (i:=1) rfl kq rfl (aW rfl) rfl rfl (XQ.pv (i:=2) rfl kq rfl (V.fieldAddr rfl ug) rfl rfl (XQ.load (i:=3) (.cells _ _ _ _) [11] rfl kq rfl .aa (V.load rfl dJ (aF.qK _) Kt) rfl kq rfl (XQ.pv (i:=4) rfl kq rfl (V.move rfl) rfl rfl (XQ.pv (i:=5) rfl kq rfl (aW rfl) rfl rfl (XQ.pv (i:=6) rfl kq rfl (V.fieldAddr rfl Zq) rfl rfl (XQ.load (i:=7) (.cells _ _ _ _) [11] rfl kq rfl .aa (V.load rfl dJ (ki _) kE) rfl kq rfl (XQ.pv (i:=8) rfl kq rfl (V.move rfl) rfl rfl (XQ.pv (i:=9) rfl kq rfl (V.move rfl) rfl rfl (XQ.call (i:=10) rfl kq rfl rfl (il b.kb (kp a b c) a.s n) (pz 2) Ks rfl (by rintro _ _ ⟨rfl,rfl⟩;all_goals(intro _ dG;exact⟨fun _=>eD .aa _ dG,fun _=>eD .aa _ dG,trivial⟩)) ?_)))))))))));rintro _ _ ⟨rfl,rfl⟩;apply XQ.call (i:=11) rfl kq rfl rfl (Gd _ _ a.s (a.u n).aA (a.s.bI n).1) (pk [1]) UO rfl (by rintro _ _ ⟨rfl,rfl⟩;all_goals(intro _ dG;exact⟨fun hs=>(hs 11 (by first | (simp;done) | (simp;rfl)) rfl).elim,fun hs=>(hs 11 (by first | (simp;done) | (simp;rfl)) rfl).elim,trivial⟩));rintro _ _ ⟨rfl,rfl⟩;refine XQ.pv (i:=12) rfl kq rfl (V.move rfl) rfl rfl (XQ.pv (i:=13) rfl kq rfl (V.extract rfl rfl) rfl rfl (XQ.pv (i:=14) rfl kq rfl (V.extract rfl rfl) rfl rfl (XQ.pv (i:=15) rfl kq rfl (V.assign rfl) rfl rfl (XQ.pv (i:=16) rfl kq rfl (V.assign rfl) rfl rfl (XQ.done kq (gE ?_))))));refine cd rfl ?_ ?_<;>intro h1
  ·have hpe:(a.s.fS (a.u n).aA (a.s.bI n).1).2≠0:=h1;refine ao rfl rfl rfl (ad (pk [1,0]) rfl ?_);grind [aL,aJ,aR,KA.Au,kp,az]
  ·have hpe:¬(a.s.fS (a.u n).aA (a.s.bI n).1).2≠0:=h1;refine ao rfl rfl rfl (ad (pk [1,0]) rfl ?_);try dsimp only[aL,aJ,aD,aR]
   grind [KA.Au,kp,az]
 ·have hl:a.aI n≠0:=hl;have iD:(kp a b c).aI n=a.aI n:=rfl;rw[iD];apply gO;refine ao rfl rfl rfl (ad (pz 2) rfl ?_);grind [aL,aJ,aR,KA.Au,az]
def B0(a:KA)(b:KZ)(c:KC)(n:Int):Spec Tryz.prog 32 [aC b.kb 0 0,iI n] [.cells b.kb 0 453 (aF (kp a b c)),.cells b.sb 0 158 (Sp.aP a.s)] (fun v H1=>∃ (p:Option Addr) (k:Nat),v= .tuple #[.slice p (a.sQ n).length k,az 102 (a.aI n)]/\H1=[db p k 3 (a.sQ n),.cells b.kb 0 453 (aF (kp a b c)),.cells b.sb 0 158 (Sp.aP a.s)]):=by
 apply Spec.go 44 [0,1,4,5,7,8,9,11,19,22,38] [] Tryz.func32 rfl rfl rfl;intro W;refine ca (ef b.kb (kp a b c) n) .h1 ?_;rintro _ _ ⟨⟨hl,rfl⟩ | ⟨hl,rfl⟩,rfl⟩
 ·obtain⟨jy,gh⟩:=bC hl;have hl:a.aI n=0:=hl;have gh:(a.u n).st=1:=gh;apply gO;apply XR.fc 3 1;refine lp (σ:=Int×List Int×Option Addr×Nat) (fun x=>(21-x.1).toNat) (fun x=>(1<=x.1/\x.1<=21)/\x.2.1=Vm.fl (a.WB n) x.1.toNat) (fun x=>[(8,.slice x.2.2.1 x.2.1.length x.2.2.2),(9,iI x.1),(0,aC b.kb 0 0),(1,iI n)]) (fun x=>XM W (bZ [.cells b.kb 0 453 (aF (kp a b c)),.cells b.sb 0 158 (Sp.aP a.s)]) [db x.2.2.1 x.2.2.2 3 x.2.1,.cells b.kb 0 453 (aF (kp a b c)),.cells b.sb 0 158 (Sp.aP a.s)]) ((1,[],none,0)) ?_ (S4 rfl rfl rfl rfl) (fun _ hw=>XM.pick (pz 3) hw) ?_
  ·exact⟨sq,rfl⟩
  intro x hx;obtain⟨hx,hL⟩:=hx;have hlen:=Vm.ia (a.WB n) x.1.toNat;rw[<-hL]at hlen;have hnx:=Vm.uP (a.WB n) (show 0<=x.1 by omega);apply gC;refine cd rfl ?_ ?_<;>intro h1
  ·refine XC.fI mixed (f:=14) (l:= #[qF,qF,qF,qF,qF,qF,qF,qF,qF,qF,qF,qF,qF,qF]) rfl rfl XM.iY (XQ.pv (i:=0) rfl kq rfl (V.move rfl) rfl rfl (XQ.pv (i:=1) rfl kq rfl (aW rfl) rfl rfl (XQ.pv (i:=2) rfl kq rfl (V.fieldAddr rfl ug) rfl rfl (XQ.load (i:=3) (.cells _ _ _ _) [8] rfl kq rfl (.av .aa) (V.load rfl dJ (aF.qK _) Kt) rfl kq rfl (XQ.pv (i:=4) rfl kq rfl (V.move rfl) rfl rfl (XQ.pv (i:=5) rfl kq rfl (V.move rfl) rfl rfl (XQ.pv (i:=7) rfl kq rfl (V.move rfl) rfl rfl (XQ.call (i:=6) rfl kq rfl rfl (il b.kb (kp a b c) a.s n) (pk [1,1]) Ks rfl (by rintro _ _ ⟨rfl,rfl⟩;all_goals(intro _ dG;exact⟨fun _=>eD .aa _ dG,trivial⟩)) ?_))))))));rintro _ _ ⟨rfl,rfl⟩;apply XQ.call (i:=8) rfl kq rfl rfl (Sp.uf _ _ a.s (a.s.bI n).1 x.1) (pk [1]) aan rfl (by rintro _ _ ⟨rfl,rfl⟩;all_goals(intro _ dG;exact⟨fun hs=>(hs 8 (by first | (simp;done) | (simp;rfl)) rfl).elim,trivial⟩));rintro _ _ ⟨rfl,rfl⟩;refine XQ.pv (i:=9) rfl kq rfl (V.move rfl) rfl rfl (XQ.pv (i:=10) rfl kq rfl (V.extract rfl rfl) rfl rfl (XQ.pv (i:=11) rfl kq rfl (V.extract rfl rfl) rfl rfl (XQ.pv (i:=12) rfl kq rfl (V.assign rfl) rfl rfl (XQ.pv (i:=13) rfl kq rfl (V.assign rfl) rfl rfl (XQ.done kq (gE ?_))))));refine cd rfl ?_ ?_<;>intro h2
   ·have h92:(a.s.find (a.s.bI n).1 x.1).2=0:=h2;apply XO.buildSlice (A:= #[iI _]) (vs:= #[(0,iI _)]) rfl (r7 _) rfl rfl;intro h3;apply gO;apply jM (e:=3) rfl rfl Tryz.underlying55 o8 (.t3 .aa) .aa og rfl;intro h4 h5;apply gO;refine sd (ag ((x.1+1,x.2.1++[x.1],_,_)) ?_ ?_ (S4 rfl rfl rfl rfl) fun _ hw=>XM.pick (pk [0,2,1]) hw)
    ·omega
    ·exact⟨(by show 1<=x.1+1/\x.1+1<=21;omega),(by show x.2.1++[x.1]=_;rw[hL];exact(hnx.1 (decide_eq_true ⟨hx.1,h92⟩)).symm)⟩
   ·have h92:¬(a.s.find (a.s.bI n).1 x.1).2=0:=h2;refine sd (ag ((x.1+1,x.2.1,_,_)) ?_ ?_ (S4 rfl rfl rfl rfl) fun _ hw=>XM.pick (pk [2,1,0]) hw)
    ·omega
    ·exact⟨(by show 1<=x.1+1/\x.1+1<=21;omega),(by show x.2.1=_;rw[hL];exact(hnx.2 (decide_eq_false fun q=>h92 q.2)).symm)⟩
  ·refine ao rfl rfl rfl (ad (pz 3) rfl ?_);try dsimp only[aL,aJ,aD,aR]
   have Yw:x.1=21:=og;simp_all[KA.sQ,az]
 ·have hl:a.aI n≠0:=hl;have iD:(kp a b c).aI n=a.aI n:=rfl;rw[iD];apply gO;refine XR.fc 3 1 (ao rfl rfl rfl (ad (pz 3) rfl ?_));try dsimp only[aL,aJ,aD,aR]
  have e:a.sQ n=[]:=by unfold KA.sQ;rw[if_pos hl]
  rw[e,aQ _ hl];exact⟨none,0,rfl,rfl⟩
end Go.X.Kn

namespace Go.X.Kn
open Go Go.X Go.X.Vm
structure lA where
 n:Int
 m:Int
 e:Int
 s:ByteArray
def lA.cO(x:lA):Array Value:= #[iI x.n,iI x.m,iI x.e,.string x.s]
def lA.nil:lA:=⟨0,0,0,⟨#[]⟩⟩
def cE(x:lA)(i:Nat):Value:=if i=0 then iI x.n else if i=1 then iI x.m else if i=2 then iI x.e else if i=3 then .string x.s else undef
theorem cE.box(x:lA):∀ i,i<4->cellsOf x.cO i=cE x i:=fun i h=>match i,h with
 | 0,_=>rfl
 | 1,_=>rfl
 | 2,_=>rfl
 | 3,_=>rfl
theorem cE.ext{C:Nat->Value}{x:lA}(h0:C 0=iI x.n)(h1:C 1=iI x.m)(h2:C 2=iI x.e)(h3:C 3= .string x.s)(h:∀ k,C (k+4)=undef):C=cE x:=funext fun i=>match i with
 | 0=>h0
 | 1=>h1
 | 2=>h2
 | 3=>h3
 | k+4=>(h k).trans (by simp[cE])
def cE.agg(x:lA):0+4<=4/\dc (cE x) 0 4= .agg x.cO:=⟨og,rfl⟩
theorem cE.st(y x:lA):0+4<=4/\cB (cE y) 0 x.cO.toList=cE x:=⟨og,cE.ext rfl rfl rfl rfl fun k=>by simp[cB,dE,lA.cO,cE]⟩
def cE.qK(x:lA):0+3<4/\cE x (0+3)= .string x.s:=⟨og,rfl⟩
def ft(x:lA)(v:Int):0+0<4/\dE (cE x) (0+0) (iI v)=cE {x with n:=v} :=by grind [dE,cE]
def A9(x:lA)(v:Int):0+1<4/\dE (cE x) (0+1) (iI v)=cE {x with m:=v} :=by grind [dE,cE]
def Ba(x:lA)(v:Int):0+2<4/\dE (cE x) (0+2) (iI v)=cE {x with e:=v} :=by grind [dE,cE]
def Bb(x:lA)(v:ByteArray):0+3<4/\dE (cE x) (0+3) (.string v)=cE {x with s:=v} :=by grind [dE,cE]
abbrev Ie(x:jP):Array Value:= #[.string x.aU,iI x.a,iI x.b,iI x.c,.int .u64 x.iJ,.bool x.on,.string x.s,.string x.t]
def HE(x:jP):∀ i,i<8->cellsOf (Ie x) i=fM x i:=fun i h=>match i,h with
 | 0,_=>rfl
 | 1,_=>rfl
 | 2,_=>rfl
 | 3,_=>rfl
 | 4,_=>rfl
 | 5,_=>rfl
 | 6,_=>rfl
 | 7,_=>rfl
def Zr(x:jP):0+8<=8/\dc (fM x) 0 8= .agg (Ie x):=⟨og,rfl⟩
def Gs:ByteArray:=⟨#[102,111,114,107]⟩
def Gt:ByteArray:=⟨#[101,120,105,116]⟩
def Rt:ByteArray:=⟨#[117,110,109,97,112]⟩
def Gu:ByteArray:=⟨#[108,111,97,100]⟩
def Av:ByteArray:=⟨#[115,116,111,114,101]⟩
def Gv:ByteArray:=⟨#[116,105,99,107]⟩
def Ru:ByteArray:=⟨#[108,105,109,105,116]⟩
def Gw:ByteArray:=⟨#[106,111,105,110]⟩
def Rv:ByteArray:=⟨#[97,100,100]⟩
def Oth(k:ByteArray):Prop:=k∉[Gs,Gt,Rt,Gu,Av,Gv,Ru,Gw,Rv]
def qe{x:jP}{k:ByteArray}(h:x.aU=k)(hd:k∉[Gs,Gt,Rt,Gu,Av,Gv,Ru,Gw,Rv]:=by simp[Gs,Gt,Rt,Gu,Av,Gv,Ru,Gw,Rv]):Oth x.aU:=by grind [Oth]
inductive KA.q8 (a:KA) (F:Tr.FF) (x:jP):KA->Prop
 | same:KA.q8 a F x a
 | dY:KA.q8 a F x (a.qZ x.a)
 | wU:KA.q8 a F x (a.kt x.a x.b x.c)
 | dP:KA.q8 a F x (a.ml x.a x.b x.on)
 | kg:KA.q8 a F x (a.DZ x.a x.b x.c)
 | take:KA.q8 a F x (a.qX x.a)
 | map:KA.q8 a F x (a.Ib x.a x.b x.c x.on)
 | nA:KA.q8 a F x (a.yT x.a x.b x.c x.on)
 | drop:KA.q8 a F x (a.Ea x.a)
 | V3 {a1:KA} (h:a.O1 x.a a1):KA.q8 a F x a1
 | close:KA.q8 a F x (a.sa x.a x.b)
 | dup:KA.q8 a F x (a.Br x.a x.b)
 | Mu:KA.q8 a F x (a.qY x.a)
 | mZ:KA.q8 a F x (a.yO F x.a x.b x.c)
 | cg:KA.q8 a F x (a.nJ F x.a x.b x.s)
 | Mv:KA.q8 a F x (a.vR x.a x.b x.c)
inductive KA.uw (a:KA) (c c1:KC) (x:jP):KA->Int->Int->Prop
 | jO (h:x.aU=Gs):KA.uw a c c1 x (a.iV x.a x.on) (a.lW x.a x.on) (a.lz x.a x.on)
 | exit (h:x.aU=Gt):KA.uw a c c1 x (a.ni x.a x.b) 0 (a.uo x.a x.b)
 | fJ (h:x.aU=Rt):KA.uw a c c1 x (a.pd x.a x.b x.c) 0 (a.uu x.a x.b x.c)
 | load (h:x.aU=Gu):KA.uw a c c1 x (a.iC x.a x.b).2.1 (a.iC x.a x.b).2.2 (a.iC x.a x.b).1
 | store (h:x.aU=Av):KA.uw a c c1 x (a.gU x.a x.b (IntKind.u8.wrap x.c)).2.1 0 (a.gU x.a x.b (IntKind.u8.wrap x.c)).1
 | l6 (h:x.aU=Gv) (r:Int) (hr:r<0\/(0<=r/\r<20/\c1.q.aa (10+r)=true)):KA.uw a c c1 x a r 0
 | lim (h:x.aU=Ru):KA.uw a c c1 x (a.VS x.a x.b x.c) 0 (a.g.jS x.a x.b x.c)
 | IM (h:x.aU=Gw) (e:Int) (he:e=0->a.aI x.a=0/\a.KW x.a x.b=0):KA.uw a c c1 x (a.sD x.a x.b) 0 e
 | add (h:x.aU=Rv) (n e:Int):KA.uw a c c1 x (a.pP x.a x.b) n e
 | qe (h:Oth x.aU) {a1:KA} (h1:a.q8 c.F.toFF x a1) (n e:Int):KA.uw a c c1 x a1 n e
theorem KA.q8.ok{a a1:KA}{F:Tr.FF}{x:jP}{T:Int}(h:a.Ok T)(hT:T<=800000)(VF:1<=T)(hF:F.Sh)(s:a.q8 F x a1):a1.Ok (T+20):=by
 have u:∀ {b:KA},b.Ok T->b.Ok (T+20):=fun q=>q.up og og;have u1:∀ {b:KA},b.Ok (T+1)->b.Ok (T+20):=fun q=>q.up og og;cases s with
 | same=>exact u h
 | dY=>exact u (h.dY _)
 | wU=>exact u (h.wU _ _ _)
 | dP=>exact u (h.dP _ _ _)
 | kg=>exact u (h.kg _ _ _)
 | take=>exact u (h.take _)
 | map=>exact u (h.map _ _ _ _)
 | nA=>exact u (h.nA _ _ _ _)
 | drop=>exact u (h.qx _)
 | V3 q=>exact u1 (h.opens og VF q)
 | close=>exact u (h.close _ _)
 | dup=>exact u1 (h.dup og _ _)
 | Mu=>exact u1 (h.Mu og VF _)
 | mZ=>exact u1 (h.mZ og hF _ _ _)
 | cg=>exact u1 (h.cg og _ _ _ _)
 | Mv=>exact u1 (h.Mv og _ _ _)
theorem KA.uw.ok{a a1:KA}{c c1:KC}{x:jP}{T n e:Int}(h:a.Ok T)(hT:T<=800000)(VF:1<=T)(hF:c.F.toFF.Sh)(s:a.uw c c1 x a1 n e):a1.Ok (T+20):=by
 have u:∀ {b:KA},b.Ok T->b.Ok (T+20):=fun q=>q.up og og;have u1:∀ {b:KA},b.Ok (T+1)->b.Ok (T+20):=fun q=>q.up og og;cases s with
 | jO _=>exact(h.jO og _ _).up og og
 | exit _=>exact u (h.ni _ _)
 | fJ _=>exact u (h.fJ _ _ _)
 | load _=>exact u1 (h.load og _ _)
 | store _=>exact u1 (h.store og _ _ (Ob _))
 | l6 _ _ _=>exact u h
 | lim _=>exact u (h.lim _ _ _)
 | IM _ _ _=>exact u1 (h.IM og _ _)
 | add _ _ _=>exact u (h.vr _ _)
 | qe _ q _ _=>exact q.ok h hT VF hF
def V4{k:ByteArray}(h1:k≠⟨#[102,111,114,107]⟩)(h2:k≠⟨#[101,120,105,116]⟩)(h3:k≠⟨#[117,110,109,97,112]⟩)(h4:k≠⟨#[108,111,97,100]⟩)(h5:k≠⟨#[115,116,111,114,101]⟩)(h6:k≠⟨#[116,105,99,107]⟩)(h7:k≠⟨#[108,105,109,105,116]⟩)(h8:k≠⟨#[106,111,105,110]⟩)(h9:k≠⟨#[97,100,100]⟩):Oth k:=by
 simp_all[Oth,Gs,Gt,Rt,Gu,Av,Gv,Ru,Gw,Rv]
def KA.Ok.afN{a:KA}{T:Int}(h:a.Ok T)(hT:T<=900000)(n x:Int):0<=(a.iC n x).2.2/\(a.iC n x).2.2<256:=by
 have iJ:∀ {b:KA} {S:Int},b.Ok S->0<=((ldD n x).y b)/\((ldD n x).y b)<256:=fun {b S} hb=>by
  show 0<=((b.f n.toNat).load b.v x).1/\((b.f n.toNat).load b.v x).1<256;by_cases e:((b.f n.toNat).cw b.v x false).2.1=0
  ·rw[Vm.MS.Hr e];exact(VB.Ok.cw (m:=b.f n.toNat) hb.wk.sys.jI.ok x false).iq _ _
  ·rw[Vm.MS.C6 e];exact⟨Int.le_refl 0,(by decide:(0:Int)<256)⟩
 unfold KA.iC KA.kQ;repeat' split
 all_goals first
  | exact⟨Int.le_refl 0,(by decide:(0:Int)<256)⟩
  | exact iJ (h.cv hT n).1
  | exact iJ h
def V5{l:List ByteArray}{z:Int}(h:0<=z/\z<l.length):ke l z∈l:=by
 grind [ke]
end Go.X.Kn

namespace Go.X.Fa
open Go Go.Proofs Go.X
set_option maxRecDepth 20000
set_option maxHeartbeats 4000000
def Vl:Spec Tryz.prog 97 [] [] (fun v H1=>∃ p,v=aC p 0 0/\∃ t:SC,t.toSF=SF.cP/\t.lX/\H1=[.cells p 0 2281 (aM t),.aV b7 (t.da 254)]):=by
 apply Spec.go 10 [0,1] [] Tryz.func97 rfl rfl rfl;intro W;refine XO.v (V.build (vs:= #[]) rfl (v:=.agg Ta) fun _=>kq) rfl (gO ?_);refine XO.box (m:=2281) (C:=aM SC.dm) rfl PM Tc rfl ?_;intro p;apply XO.mono fun _ bJ=>LL 254 bJ;apply gO;refine XO.v (V.build (vs:= #[(0,.bool true),(1,iI (-1)),(2,iI 1)]) rfl (v:=.agg (lH (wj true (-1) 1))) fun _=>kq) rfl (gO ?_);refine sd ?_;apply oS;apply XO.fP rfl rfl (.av .aa) (tq _ 0 (-1) 1 true) (oO _) qS;apply XO.mono fun _ bJ=>XM.newRow (s:=SC.dm) (z:=0) og .h1 bJ;apply gO;refine ah rfl rfl (ad (pk [1,0]) rfl ?_);try dsimp only[aL,aJ,aD,aR]
 exact⟨_,rfl,_,rfl,SC.lX.dm.new rfl (fun i hi=>by cases hi) (-1) 1 true,rfl⟩
end Go.X.Fa

namespace Go.X.Tr
open Go Go.X
def zJ:∀ i,i<24->cellsOf (Value.agg #[.string ⟨#[]⟩,iI 0,iI 0,.string ⟨#[]⟩,iI 0,iI 0,.string ⟨#[]⟩,iI 0,iI 0,.string ⟨#[]⟩,iI 0,iI 0,.string ⟨#[]⟩,iI 0,iI 0,.string ⟨#[]⟩,iI 0,iI 0,.string ⟨#[]⟩,iI 0,iI 0,.string ⟨#[]⟩,iI 0,iI 0]).cells i=bL PS.cP i:=fun i hi=>match i,hi with
 | 0,_=>rfl
 | 1,_=>rfl
 | 2,_=>rfl
 | 3,_=>rfl
 | 4,_=>rfl
 | 5,_=>rfl
 | 6,_=>rfl
 | 7,_=>rfl
 | 8,_=>rfl
 | 9,_=>rfl
 | 10,_=>rfl
 | 11,_=>rfl
 | 12,_=>rfl
 | 13,_=>rfl
 | 14,_=>rfl
 | 15,_=>rfl
 | 16,_=>rfl
 | 17,_=>rfl
 | 18,_=>rfl
 | 19,_=>rfl
 | 20,_=>rfl
 | 21,_=>rfl
 | 22,_=>rfl
 | 23,_=>rfl
 | k+24,h=>absurd h og
end Go.X.Tr

namespace Go.X.Kn
open Go Go.Proofs Go.X
set_option maxRecDepth 20000
set_option maxHeartbeats 4000000
def K2(mb:Nat):∀ w,(Instr.build 89 #[(0,iI 1),(1,iI (-1)),(4,aC mb 0 0)]).run Tryz.prog w= .ok (.agg (PU.cO (CX mb))) w:=fun w=>kq
def Rw(a b c d e f:Nat):∀ w,(Instr.build 101 #[(1,aC a 0 0),(2,aC b 0 0),(3,aC c 0 0),(4,aC d 0 0),(5,aC e 0 0),(6,aC f 0 0)]).run Tryz.prog w= .ok (.agg (FU (KP.raw a b c d e f))) w:=fun w=>kq
end Go.X.Kn

namespace Go.X.Kn
open Go Go.X Go.X.Fa
structure KI (k:KP) (mb:Nat->Nat) (s:Sp.SS):Prop where
 gF:Kid k mb
 dS:s.Inv fun _=>1
 h0:s.aa 0=true
 hN:∀ n,s.aa n=true->n=0
 loc:∀ n,0<=n->n<20->(0<=s.loc n↔(k.u n).st≠0)
 one:s.bR 0 1=0
 st0:(k.u 0).st=1
section
variable {k:KP} {mb:Nat->Nat} {s:Sp.SS}
theorem KI.hz(h:KI k mb s)(t:Int):(s.bI t).1=0:=by
 unfold Sp.SS.bI;split
 ·rfl
 ·split
  ·rfl
  ·exact h.hN _ (h.dS.at_ t og og og)
def EN(k:KP)(s:Sp.SS)(en:Int->Bool)(cd:Int->Int):Prop:=
 ∀ p,2<=p->p<21->(en p=true↔(0<=s.bR 0 p/\(k.u (s.bR 0 p)).st=2))/\(en p=true->cd p=(k.u (s.bR 0 p)).jF)
end
theorem adk:∀ p:Int,S0.bR 0 p=if p=1 then 0 else-1:=fun p=>by
 have h:S0.bR=cr Sp.SS.cP.bR 0 1 0:=by rfl
 rw[h];unfold cr;by_cases c:p=1
 ·omega
 ·rw[if_neg fun q=>c q.2,if_neg c];rfl
structure KX where
 k:KP
 mb:Nat->Nat
 s:Sp.SS
 g:Gr.TG
 q:SC
 d:Int->Nat
 m:Nat
 en:Int->Bool
 cd:Int->Int
 ps:Nat->Option Addr
 cs:Nat->Nat
structure KX.Ok (x:KX) (i:Int):Prop where
 I:KI x.k x.mb x.s
 E:EN x.k x.s x.en x.cd
 gI:x.g.Inv
 gS:x.g.bM (1000*i+1000)
 qO:x.q.toSF.Ok x.d x.m 1
 qR:x.q.lX
def sP.Ej(a b:Int):0+1<2/\sP a b (0+1)=iI b:=⟨og,rfl⟩
def K3{a:Prop}{v:Value}{b:Bool}(h:a/\v= .bool b)(e:b=false):a/\v= .bool false:=⟨h.1,by rw[h.2,e]⟩
section
variable {k:KP} {mb:Nat->Nat} {s:Sp.SS}
end
end Go.X.Kn
