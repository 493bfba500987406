import Derived.Test.YthdinakloheinaaGreatDoorkJG1
set_option linter.all false
namespace Go.X.Kn
open Go Go.Proofs Go.X Go.X.Gr Go.X.Vm
set_option maxRecDepth 20000
set_option maxHeartbeats 4000000
variable{T n:Int}
attribute [local irreducible] KA.aU KA.cD
def QP(a:KA)(b:KZ)(c:KC)(N:Nat)(T:Int)(ho:a.Ok T)(hc:cR a c N T)(hT:T<=800000)(z:Int):Spec Tryz.prog 229 [aA b.kb 0 0,iI z] (df a b c []) (fun v H1=>v=iI (a.gK z)/\H1=(df a b c [])):=by
 refine Spec.go 47 [0,1,4,5,6,7,8,9,10,12,35,43] [] Tryz.func229 fun W=> ?_;refine lp (σ:=Int×Int×Int) (fun x=>(20-x.1).toNat) (fun x=>(1<=x.1/\x.1<=20)/\x.2=a.Bg z x.1.toNat) (fun x=>[(7,iI x.1),(5,iI x.2.1),(6,iI x.2.2),(0,aA b.kb 0 0),(1,iI z)]) (fun x=>XM W (ck (df a b c [])) (df a b c [])) ((1,-1,0)) ?_ S5 (xq (pz 17)) ?_
 ·exact⟨sq,rfl⟩
 intro x hx;obtain⟨hi,sK⟩:=hx;refine gC ?_;refine cd rfl ?_ ?_<;>intro h1
 ·refine ca (eW b.kb (kp a b c) x.1) .h1 ?_;rintro _ _ ⟨⟨hl,rfl⟩ | ⟨hl,rfl⟩,rfl⟩
  ·obtain⟨kx,iy⟩:=bI hl;have hl:a.aH x.1=0:=hl;have iy:(a.u x.1).st=1:=iy;have mj:=qd a b c (n:=x.1);have Ot:=ho.wk.sys.mo x.1.toNat og;refine gO ?_;refine rq [0,1,2,3,4,5,6,7,8,9,10,11,12,13,14] mixed (ld .aa (gp _) (ld .aa (dI _) ?_));refine cq (Yj _ _ a.g ho.wk.gI.ok (a.u x.1).lv z) (pk [1]) ?_;refine yW ?_ ?_<;>intro h2
   ·try simp only[sb]at h2
    have Wh:a.g.under (a.u x.1).lv z=false:=by simpa using h2
    refine sd (ag ((x.1+1,x.2)) ?_ ?_ S5 (xq (pk [1,0,0,0,0,0,0,0,0,0,0,0,0,0,0,0,0])));all_goals grind [n5]
   ·try simp only[sb]at h2
    have Wh:a.g.under (a.u x.1).lv z=true:=by simpa using h2
    refine XR.mono (fun _ bK=>kU (z:=x.1.toNat) (fG kx) (pk [7,7]) bK) ?_;refine ld (.t5 .aa) (dz _ og mj) ?_;refine cq (wD b.bb _ _ _ (a.f x.1.toNat) Ot) .h1 ?_;refine XR.mono (fun _ bK=>qN (f:=a.f) (z:=x.1.toNat) (ps:=c.pp) (cs:=c.cc) (mb:=c.mb) (fG kx) (pz 4) bK) ?_;refine cd rfl ?_ ?_<;>intro h3
    ·have hgt:x.2.2<a.Cu x.1:=h3;refine sd (ag ((x.1+1,x.1,a.Cu x.1)) ?_ ?_ S5 (xq (pk [3,2,2,2,2,2,2,0,0,0,0,0,0,0,0,0,0])));all_goals grind [n5]
    ·have hgt:¬x.2.2<a.Cu x.1:=h3;refine sd (ag ((x.1+1,x.2)) ?_ ?_ S5 (xq (pk [3,2,2,2,2,2,2,0,0,0,0,0,0,0,0,0,0])));all_goals grind [n5]
  ·have hl:a.aH x.1≠0:=hl;have jv:(kp a b c).aH x.1=a.aH x.1:=rfl;rw[jv];refine gO ?_;refine rq [0,1,2,3,4,5,6,7,8,9,10,11,12,13,14] mixed (sd (ag ((x.1+1,x.2)) ?_ ?_ S5 (xq (pz 17))));all_goals grind [n5]
 ·refine bS (pz 17) ?_;grind [aK,aJ,KA.gK]
open Go.X.Fa Go.X.Sg Go.X.Tr
set_option maxHeartbeats 8000000 in
def QQ(a:KA)(b:KZ)(c:KC)(N:Nat)(T:Int)(ho:a.Ok T)(hc:cR a c N T)(hT:T<=800000)(n:Int):Spec Tryz.prog 201 [aA b.kb 0 0,iI n] (df a b c [.ro 0 0 32 dD]) (fun v H1=>v=az 102 (a.bQ n).1/\∃ c1:KC,cR (a.bQ n).2 c1 N (T+1)/\H1=[.cells b.kb 0 453 (aD (kp (a.bQ n).2 b c1)),.cells b.gb 0 60 (cb (a.bQ n).2.g),.cells b.sb 0 158 (Sp.aO (a.bQ n).2.s),.cells b.qb 0 2281 (aP c1.q),.bk cP (SC.dZ 254 c1.q),.cells b.bb 0 577 (dM b.vp (a.bQ n).2.v.iD (a.bQ n).2.v.rf),.cells b.vp 0 71 (Vm.bO (a.bQ n).2.v.bb.fv),.eb (ka (a.bQ n).2) c1.mb 34 (cN b.bb (a.bQ n).2.f c1.pp c1.cc),.bk (ka (a.bQ n).2) (rN 171 (a.bQ n).2.f c1.pp c1.cc),.cells b.tb 0 321 (aC c1.F),.bk av (FC.bu 9 c1.F),.bk av (FC.bA 3 c1.F),dE c1.rp c1.rc 3 c1.rl,.cells b.pi 0 24 (Tr.bO (a.bQ n).2.P),.cells b.ob 0 122 (bj b.tb b.pi (a.bQ n).2.O),.eb (mh (a.bQ n).2) (fun z=>(c1.t z).b) 4 (cT b.tb c1.t),.bk (mh (a.bQ n).2) (rT 168 c1.t)]):=by
 refine Spec.go 51 [0,1,4,5,6,7,8,9,17,32,46] [] Tryz.func201 fun W=> ?_;refine lp (σ:=Nat×KA×KC) (fun x=>x.1) (fun x=>x.2.1.Ok T/\cR x.2.1 x.2.2 N T/\x.2.1.lvC<x.1/\x.2.1.my n x.1=a.my n 21) (fun x=>[(0,aA b.kb 0 0),(1,iI n)]) (fun x=>XM W (ck (df a b c [.ro 0 0 32 dD])) (df x.2.1 b x.2.2 [.ro 0 0 32 dD])) ((21,a,c)) ?_ S2 (xq (pz 18)) ?_
 ·exact⟨ho,hc,by have:=a.Oq;show a.lvC<21;omega,rfl⟩
 intro x hx;obtain⟨QR,YD,hxn,hxr⟩:=hx;have KN:=x.2.1.Oq;obtain⟨k,hk⟩:∃ k,x.1=k+1:=⟨x.1-1,og⟩;refine gC ?_;refine ca (eW b.kb (kp x.2.1 b x.2.2) n) .h1 ?_;rintro _ _ ⟨⟨hl,rfl⟩ | ⟨hl,rfl⟩,rfl⟩
 ·obtain⟨kx,iy⟩:=bI hl;have hl:x.2.1.aH n=0:=hl;refine gO ?_;refine rq [0,1,2,3,4,5,6,7,8,9,10,11,12,13] mixed (ld .aa (gp _) (ld .aa (dI _) ?_));refine cq (Yk _ _ x.2.1.g QR.wk.gI.ok (x.2.1.u n).lv 0 1 (1000*T) (by have:=QR.wk.T0;omega) QR.wk.gS) (pk [1]) ?_;refine yW ?_ ?_<;>intro h1
  ·try simp only[sb]at h1
   have jv:(x.2.1.gj n)=none:=by
    simp_all[KA.gj]
   refine rq [0,1,2,3,4,5,6,7,8,9] mixed (ld (.ao .aa) (gp _) (ld (.ao .aa) (dI _) ?_));refine cq (yg _ _ x.2.1.g QR.wk.gI.ok (x.2.1.u n).lv 0 1 (1000*T) (by have:=QR.wk.T0;omega) QR.wk.gS) .h1 ?_;refine bS (pk [1,0,0,0,0,0,0,0,0,0,0,0,0,0,0,0,0]) ?_;try dsimp only[aK,aJ,aG,aR]
   have e1:a.bQ n=(x.2.1.g.cY (x.2.1.u n).lv 0 1,{x.2.1 with v:=x.2.1.v,f:=x.2.1.f,g:=x.2.1.g.cr (x.2.1.u n).lv 0 1}):=by
    grind [KA.my,KA.bQ]
   rw[e1];exact⟨rfl,x.2.2,YD.same og rfl,rfl⟩
  ·try simp only[sb]at h1
   have jv:∃ z,(x.2.1.gj n)=some z:=by
    grind [Option.isSome_iff_exists,KA.gj]
   obtain⟨z,hz⟩:=jv;have hzg:(x.2.1.g.gj (x.2.1.u n).lv 0 1).getD 0=z:=by rw[show x.2.1.g.gj (x.2.1.u n).lv 0 1=some z from hz];rfl
   refine cq (QP x.2.1 b x.2.2 N T QR YD og _) (pk [1,0,0,0,0,0,0,0,0,0,0,0,0,0,0,0,0]) ?_;refine cd rfl ?_ ?_<;>intro h2
   ·have hvn:x.2.1.gK z<0:=by rw[<-hzg];exact h2
    refine bS (pz 17) ?_;try dsimp only[aK,aJ,aG,aR]
    grind [KA.bQ,KA.my,cR.up,az]
   ·have hvn:¬x.2.1.gK z<0:=by rw[<-hzg];exact h2
    have ahU:=sj hvn;have hvo:1<=x.2.1.gK ((x.2.1.g.gj (x.2.1.u n).lv 0 1).getD 0)/\x.2.1.aH (x.2.1.gK ((x.2.1.g.gj (x.2.1.u n).lv 0 1).getD 0))=0:=by rw[hzg];exact ahU
    refine vl 17 (BC x.2.1 b x.2.2 N T QR.wk YD og _ 137 (bX hvo.2).2 (QR.hx.any _)) (pz 18) rfl ?_;rintro _ _ ⟨c1,ie,rfl⟩;refine gO ?_;refine ag ((k,x.2.1.aU (x.2.1.gK ((x.2.1.g.gj (x.2.1.u n).lv 0 1).getD 0)) 137,c1)) ?_ ?_ S2 (xq (pz 18))
    ·omega
    ·refine⟨QR.wk.DD QR.r0 QR.d0 og (bX hvo.2).2 (QR.hx.any _) 137,ie,?_,?_⟩
     ·have:=QO (a:=x.2.1) (co:=137) (bX hvo.2).1 (bX hvo.2).2;grind
     grind [KA.my]
 ·have hl:x.2.1.aH n≠0:=hl;refine gO ?_;refine bS (pz 17) ?_;try dsimp only[aK,aJ,aG,aR]
  grind [KA.bQ,KA.my,cR.up,az]
theorem KA.Ok.room{n:Int} :∀ (k:Nat) {a:KA} {T:Int},a.Ok T->T<=900000->((a.my n k).2).Ok (T+1)/\((a.my n k).1=0->(a.my n k).2.aH n=0)
 | 0,a,T,h,hT=>⟨h.up og og,fun e=>absurd (show(6:Int)=0 from e) dq⟩
 | k+1,a,T,h,hT=>by
  unfold KA.my;by_cases c:a.aH n≠0
  ·rw[if_pos c];exact⟨h.up og og,fun e=>absurd (show(6:Int)=0 from e) dq⟩
  ·rw[if_neg c];cases hz:a.gj n with
   | none=>exact⟨h.Hy og og (h.wk.gI.cr _ _ _) ((h.wk.gS.cr h.wk.gI.ok _ _ _).mono og),fun _=>by show a.aH n=0;omega⟩
   | some z=>
    show((if a.gK z<0 then((6:Int),a)else(a.aU (a.gK z) 137).my n k).2).Ok (T+1)/\_;by_cases d:a.gK z<0
    ·show _/\((if a.gK z<0 then((6:Int),a)else(a.aU (a.gK z) 137).my n k).1=0->_);rw[if_pos d];exact⟨h.up og og,fun e=>absurd (show(6:Int)=0 from e) dq⟩
    ·have hv:=sj d;have hl:=bX hv.2;have h2:=KA.Ok.room (n:=n) k (h.wk.DD h.r0 h.d0 (show a.gK z≠0 by omega) hl.2 (h.hx.any _) 137) hT;simp only[if_neg d];exact h2
theorem KA.Ok.cr{a:KA}(h:a.Ok T)(hT:T<=900000)(n:Int):((a.bQ n).2).Ok (T+1)/\((a.bQ n).1=0->(a.bQ n).2.aH n=0):=KA.Ok.room 21 h hT
structure TD where
 e:KA->Int
 A:KA->KA
 y:KA->Int
def KA.unA(a:KA)(n:Int):KA:= {a with g:=a.g.fU (a.u n).lv 0 1}
def KA.ky(a:KA)(n x:Int)(w:Bool)(D:TD)(y0:Int):Int×KA×Int:=
 if a.aH n≠0 then(a.aH n,a,y0)else if(a.f n.toNat).xy x w=false then(10,a,y0)else
 if(a.f n.toNat).sD x=true then
  if(a.bQ n).1≠0 then((a.bQ n).1,(a.bQ n).2,y0)else
  (D.e (a.bQ n).2,if D.e (a.bQ n).2≠0 then(D.A (a.bQ n).2).unA n else D.A (a.bQ n).2,D.y (a.bQ n).2)
 else(D.e a,D.A a,D.y a)
def KA.Ak(a:KA)(n x:Int):Int×Int×VB×Vm.MS:=(a.f n.toNat).load a.v x
def KA.lM(a:KA)(n x:Int):KA:= {a with v:=(a.Ak n x).2.2.1,f:=bE a.f n.toNat (a.Ak n x).2.2.2,g:=a.g}
def KA.sfR(a:KA)(n x y:Int):Int×VB×Vm.MS:=(a.f n.toNat).store a.v x y
def KA.sfA(a:KA)(n x y:Int):KA:= {a with v:=(a.sfR n x y).2.1,f:=bE a.f n.toNat (a.sfR n x y).2.2,g:=a.g}
def Z4(n x:Int):TD:=⟨fun a=>(a.Ak n x).2.1,fun a=>a.lM n x,fun a=>(a.Ak n x).1⟩
def sfD(n x y:Int):TD:=⟨fun a=>(a.sfR n x y).1,fun a=>a.sfA n x y,fun _=>y⟩
def KA.iz(a:KA)(n x:Int):Int×KA×Int:=a.ky n x false (Z4 n x) 0
def KA.gL(a:KA)(n x y:Int):Int×KA×Int:=a.ky n x true (sfD n x y) y
def KA.Ok.ld{a:KA}(h:a.Ok T)(c:a.aH n=0)(x:Int):(a.lM n x).Ok T:=by
 have hn:=(bX c).1;exact h.mem c (h.wk.sys.load (z:=n.toNat) og x) h.wk.gI h.wk.gS
def KA.Ok.sf{a:KA}(h:a.Ok T)(c:a.aH n=0)(x:Int){y:Int}(hy:0<=y/\y<256):(a.sfA n x y).Ok T:=by
 have hn:=(bX c).1;exact h.mem c (h.wk.sys.store (z:=n.toNat) og x y hy) h.wk.gI h.wk.gS
theorem KA.Ok.un{a:KA}(h:a.Ok T)(n:Int):(a.unA n).Ok T:=h.Hy og h.wk.T0.2 (h.wk.gI.fU _ _ _) (tW h.wk.gI h.wk.gS _ _ _)
def KA.Ok.Z5{a:KA}(h:a.Ok T)(hT:T<=900000){D:TD}(hD:∀ {b:KA} {S:Int},b.Ok S->b.aH n=0->(D.A b).Ok S)(x:Int)(w:Bool)(y0:Int):((a.ky n x w D y0).2.1).Ok (T+1):=by
 have h1:=h.up (T':=T+1) og og;have h2:=h.cr hT n;grind [KA.ky,KA.Ok.un]
theorem KA.Ok.load{a:KA}(h:a.Ok T)(hT:T<=900000)(n x:Int):((a.iz n x).2.1).Ok (T+1):=h.Z5 hT (fun hb c=>hb.ld c x) x false 0
theorem KA.Ok.store{a:KA}(h:a.Ok T)(hT:T<=900000)(n x:Int){y:Int}(hy:0<=y/\y<256):((a.gL n x y).2.1).Ok (T+1):=h.Z5 hT (fun hb c=>hb.sf c x hy) x true y
theorem MF(v:VB)(m:Vm.MS)(a:Int):(m.load v a).2.2.2.ay=m.ay:=by
 by_cases e:(m.cx v a false).2.1=0
 ·rw[Vm.MS.GP e];exact Vm.MS.xE v m a false
 ·rw[Vm.MS.CJ e];exact Vm.MS.xE v m a false
theorem Kp(v:VB)(m:Vm.MS)(a b:Int):(m.store v a b).2.2.ay=m.ay:=by
 by_cases e:(m.cx v a true).2.1=0
 ·rw[Vm.MS.CK e];exact Vm.MS.xE v m a true
 ·rw[Vm.MS.FA e];exact Vm.MS.xE v m a true
def YU(kb pb mb:Nat)(v:VB)(hv:v.Ok)(p:Option Addr)(c:Nat)(m:Vm.MS)(hm:m.Ok)(a:Int):Spec Tryz.prog 151 [aA mb 0 0,iI a] [.cells kb 0 577 (dM pb v.iD v.rf),.cells pb 0 71 (Vm.bO v.bb.fv),.cells mb 0 34 (b6 kb p (ah m.ay).length c m.fr m.aS),aM p c 171 3 (ah m.ay).length (fa (ah m.ay)),.ro 1 0 64 ix] (fun x H1=>x= .tuple #[.int .u8 (m.load v a).1,az 102 (m.load v a).2.1]/\H1=[.cells kb 0 577 (dM pb (m.load v a).2.2.1.iD (m.load v a).2.2.1.rf),.cells pb 0 71 (Vm.bO (m.load v a).2.2.1.bb.fv),.cells mb 0 34 (b6 kb p (ah (m.load v a).2.2.2.ay).length c (m.load v a).2.2.2.fr (m.load v a).2.2.2.aS),aM p c 171 3 (ah (m.load v a).2.2.2.ay).length (fa (ah (m.load v a).2.2.2.ay))]):=(acf kb pb mb v hv p c m hm a).Rx fun _ _ h=>by rw[MF];exact h
def Vr(kb pb mb:Nat)(v:VB)(hv:v.Ok)(p:Option Addr)(c:Nat)(m:Vm.MS)(hm:m.Ok)(a b:Int):Spec Tryz.prog 153 [aA mb 0 0,iI a,.int .u8 b] [.cells kb 0 577 (dM pb v.iD v.rf),.cells pb 0 71 (Vm.bO v.bb.fv),.cells mb 0 34 (b6 kb p (ah m.ay).length c m.fr m.aS),aM p c 171 3 (ah m.ay).length (fa (ah m.ay)),.ro 1 0 64 ix] (fun x H1=>x=az 102 (m.store v a b).1/\H1=[.cells kb 0 577 (dM pb (m.store v a b).2.1.iD (m.store v a b).2.1.rf),.cells pb 0 71 (Vm.bO (m.store v a b).2.1.bb.fv),.cells mb 0 34 (b6 kb p (ah (m.store v a b).2.2.ay).length c (m.store v a b).2.2.fr (m.store v a b).2.2.aS),aM p c 171 3 (ah (m.store v a b).2.2.ay).length (fa (ah (m.store v a b).2.2.ay))]):=(Yq kb pb mb v hv p c m hm a b).Rx fun _ _ h=>by rw[Kp];exact h
def YV(a:KA)(b:KZ)(c:KC)(N:Nat)(T:Int)(ho:a.Ok T)(hc:cR a c N T)(hT:T<=900000)(n:Int)(hl:a.aH n=0)(ab xb:Nat)(x y:Int):Spec Tryz.prog 150 [aA b.kb 0 (0+0+n.toNat*22),aA ab 0 0,aA xb 0 0] (df a b c [.cells ab 0 1 (aF (iI x)),.cells xb 0 1 (aF (.int .u8 y)),.ro 1 0 64 ix]) (fun v H1=>v=az 102 ((Z4 n x).e a)/\∃ c1:KC,cR ((Z4 n x).A a) c1 N T/\H1=(df ((Z4 n x).A a) b c1 [.cells ab 0 1 (aF (iI x)),.cells xb 0 1 (aF (.int .u8 ((Z4 n x).y a)))])):=by
 obtain⟨hn,iy⟩:=bX hl;have mj:=qd a b c (n:=n);have Ot:=ho.wk.sys.mo n.toNat og;refine Spec.go 16 [0,1,2,4,5] [] Tryz.func150 fun W=> ?_;refine XR.mono (fun _ bK=>kU (z:=n.toNat) (fG hn) (pk [7,7]) bK) ?_;refine rq [0,1,2,3,4,5,6,7,8,9,10] mixed ?_;refine ld (.t4 .aa) (dz _ og mj) ?_;refine ld (.oq (.t7 .aa)) (aF.ld _) ?_;refine HQ 4 (YU b.bb b.vp (c.mb n.toNat) a.v ho.wk.sys.jL.ok _ _ (a.f n.toNat) Ot x) (pk [9,9,0,0,17]) rfl ?_;refine st (.oq (.t9 .aa)) (aF.st _ _) rfl ?_;refine XR.mono (fun _ bK=>lW ((a.f n.toNat).load a.v x).2.2.2 (fG hn) (pk [2,2,3,3]) bK) ?_;refine bh rfl rfl (ai (pk [5,5,5,5,5,2,2,0,0,1,1,1,1,1,1,1,1,1,1]) rfl ?_);try dsimp only[aK,aJ,aG,aR]
 exact⟨rfl,{c with pp:=bE c.pp n.toNat (c.pp n.toNat),cc:=bE c.cc n.toNat (c.cc n.toNat)},⟨hc.qO,hc.qR,hc.F,hc.rp,hc.rc,hc.rl,hc.tb,hc.tk⟩,rfl⟩
def Vs(a:KA)(b:KZ)(c:KC)(N:Nat)(T:Int)(ho:a.Ok T)(hc:cR a c N T)(hT:T<=900000)(n:Int)(hl:a.aH n=0)(ab xb:Nat)(x y:Int):Spec Tryz.prog 152 [aA b.kb 0 (0+0+n.toNat*22),aA ab 0 0,aA xb 0 0] (df a b c [.cells ab 0 1 (aF (iI x)),.cells xb 0 1 (aF (.int .u8 y)),.ro 1 0 64 ix]) (fun v H1=>v=az 102 ((sfD n x y).e a)/\∃ c1:KC,cR ((sfD n x y).A a) c1 N T/\H1=(df ((sfD n x y).A a) b c1 [.cells ab 0 1 (aF (iI x)),.cells xb 0 1 (aF (.int .u8 ((sfD n x y).y a)))])):=by
 obtain⟨hn,iy⟩:=bX hl;have mj:=qd a b c (n:=n);have Ot:=ho.wk.sys.mo n.toNat og;refine Spec.go 12 [0,1,2,4] [] Tryz.func152 fun W=> ?_;refine XR.mono (fun _ bK=>kU (z:=n.toNat) (fG hn) (pk [7,7]) bK) ?_;refine rq [0,1,2,3,4,5,6,7] mixed ?_;refine ld (.t4 .aa) (dz _ og mj) ?_;refine ld (.oq (.t7 .aa)) (aF.ld _) ?_;refine ld (.oq (.t8 .aa)) (aF.ld _) ?_;refine HQ 4 (Vr b.bb b.vp (c.mb n.toNat) a.v ho.wk.sys.jL.ok _ _ (a.f n.toNat) Ot x y) (pk [9,9,0,0,17]) rfl ?_;refine XR.mono (fun _ bK=>lW ((a.f n.toNat).store a.v x y).2.2 (fG hn) (pk [2,2,3,3]) bK) ?_;refine bh rfl rfl (ai (pk [5,5,5,5,5,2,2,0,0,1,1,1,1,1,1,1,1,1,1]) rfl ?_);try dsimp only[aK,aJ,aG,aR]
 exact⟨rfl,{c with pp:=bE c.pp n.toNat (c.pp n.toNat),cc:=bE c.cc n.toNat (c.cc n.toNat)},⟨hc.qO,hc.qR,hc.F,hc.rp,hc.rc,hc.rl,hc.tb,hc.tk⟩,rfl⟩
set_option maxHeartbeats 8000000 in
def Kq(a:KA)(b:KZ)(c:KC)(N:Nat)(T:Int)(ho:a.Ok T)(hc:cR a c N T)(hT:T<=800000)(n x:Int)(w:Bool)(D:TD)(y:Int)(ab xb:Nat)(hA:∀ {b:KA} {S:Int},b.Ok S->b.aH n=0->(D.A b).Ok S)(fd:Nat)(EX:c9 Tryz.prog fd=true)(hd:∀ (a1:KA) (c1:KC),a1.Ok (T+1)->cR a1 c1 N (T+1)->a1.aH n=0->Spec Tryz.prog fd [aA b.kb 0 (0+0+n.toNat*22),aA ab 0 0,aA xb 0 0] (df a1 b c1 [.cells ab 0 1 (aF (iI x)),.cells xb 0 1 (aF (.int .u8 y)),.ro 1 0 64 ix]) (fun v H1=>v=az 102 (D.e a1)/\∃ c2:KC,cR (D.A a1) c2 N (T+1)/\H1=(df (D.A a1) b c2 [.cells ab 0 1 (aF (iI x)),.cells xb 0 1 (aF (.int .u8 (D.y a1)))]))):Spec Tryz.prog 149 [aA b.kb 0 0,iI n,iI x,.bool w,.func (.func fd) #[] #[aA ab 0 0,aA xb 0 0]] (df a b c [.cells ab 0 1 (aF (iI x)),.cells xb 0 1 (aF (.int .u8 y)),.ro 0 0 32 dD,.ro 1 0 64 ix]) (fun v H1=>v=az 102 (a.ky n x w D y).1/\∃ c1:KC,cR (a.ky n x w D y).2.1 c1 N (T+1)/\H1=[.cells b.kb 0 453 (aD (kp (a.ky n x w D y).2.1 b c1)),.cells b.gb 0 60 (cb (a.ky n x w D y).2.1.g),.cells b.sb 0 158 (Sp.aO (a.ky n x w D y).2.1.s),.cells b.qb 0 2281 (aP c1.q),.bk cP (SC.dZ 254 c1.q),.cells b.bb 0 577 (dM b.vp (a.ky n x w D y).2.1.v.iD (a.ky n x w D y).2.1.v.rf),.cells b.vp 0 71 (Vm.bO (a.ky n x w D y).2.1.v.bb.fv),.eb (ka (a.ky n x w D y).2.1) c1.mb 34 (cN b.bb (a.ky n x w D y).2.1.f c1.pp c1.cc),.bk (ka (a.ky n x w D y).2.1) (rN 171 (a.ky n x w D y).2.1.f c1.pp c1.cc),.cells b.tb 0 321 (aC c1.F),.bk av (FC.bu 9 c1.F),.bk av (FC.bA 3 c1.F),dE c1.rp c1.rc 3 c1.rl,.cells b.pi 0 24 (Tr.bO (a.ky n x w D y).2.1.P),.cells b.ob 0 122 (bj b.tb b.pi (a.ky n x w D y).2.1.O),.eb (mh (a.ky n x w D y).2.1) (fun z=>(c1.t z).b) 4 (cT b.tb c1.t),.bk (mh (a.ky n x w D y).2.1) (rT 168 c1.t),.cells ab 0 1 (aF (iI x)),.cells xb 0 1 (aF (.int .u8 (a.ky n x w D y).2.2))]):=by
 have hoc:=ho.cr og n;refine Spec.go 63 [0,1,2,3,4,10,11,12,13,21,30,38,43,52] [] Tryz.func149 fun W=> ?_;refine ca (eW b.kb (kp a b c) n) .h1 ?_;rintro _ _ ⟨⟨hl,rfl⟩ | ⟨hl,rfl⟩,rfl⟩
 ·obtain⟨kx,iy⟩:=bI hl;have hl:a.aH n=0:=hl;have iy:(a.u n).st=1:=iy;have mj:=qd a b c (n:=n);have Ot:=ho.wk.sys.mo n.toNat og;refine gO ?_;refine XR.mono (fun _ bK=>kU (z:=n.toNat) (fG kx) (pk [7,7]) bK) ?_;refine ld (.t4 .aa) (dz _ og mj) ?_;refine cq (ZZ b.bb (c.mb n.toNat) _ _ (a.f n.toNat) Ot x w) (pz 2) ?_;refine XR.mono (fun _ bK=>qN (f:=a.f) (z:=n.toNat) (ps:=c.pp) (cs:=c.cc) (mb:=c.mb) (fG kx) (pz 4) bK) ?_;refine yW ?_ ?_<;>intro h1
  ·try simp only[sb]at h1
   have hm:(a.f n.toNat).xy x w=false:=by simpa using h1
   refine bh rfl rfl (ai (pk [2,2,2,2,2,2,2,0,0,0,0,0,0,0,0,0,0,0,0]) rfl ?_);try dsimp only[aK,aJ,aG,aR]
   grind [KA.ky,cR.up,az]
  ·try simp only[sb]at h1
   have hm:(a.f n.toNat).xy x w=true:=by simpa using h1
   refine XR.mono (fun _ bK=>kU (z:=n.toNat) (fG kx) (pz 2) bK) ?_;refine ld (.t4 .aa) (dz _ og mj) ?_;refine cq (Yp b.bb (c.mb n.toNat) _ _ (a.f n.toNat) Ot x) (pz 2) ?_;refine XR.mono (fun _ bK=>qN (f:=a.f) (z:=n.toNat) (ps:=c.pp) (cs:=c.cc) (mb:=c.mb) (fG kx) (pz 4) bK) ?_;refine yW ?_ ?_<;>intro h2
   ·try simp only[sb]at h2
    have hw:(a.f n.toNat).sD x=true:=h2;refine vl 17 (QQ a b c N T ho hc og n) (pk [2,2,2,2,2,2,2,0,0,0,0,0,0,0,0,0,0,2]) rfl ?_;rintro _ _ ⟨rfl,c1,ie,rfl⟩;refine gO ?_;refine cd rfl ?_ ?_<;>intro h3
    ·have he:(a.bQ n).1≠0:=h3;refine bh rfl rfl (ai (pk [0,0,0,0,0,0,0,0,0,0,0,0,0,0,0,0,0,1,1]) rfl ?_);grind [aK,aJ,KA.ky]
    ·have he:(a.bQ n).1=0:=by have h9:=h3;omega
     refine XO.Sj (cs:=[aA ab 0 0,aA xb 0 0]) rfl rfl (hd (a.bQ n).2 c1 (hoc.1) ie (hoc.2 he)) (pk [0,0,0,0,0,0,0,0,0,0,0,0,0,0,0,0,0,1,1,1]) EX rfl ?_;rintro _ _ ⟨rfl,c2,uZ,rfl⟩;refine gO ?_;refine sp 50 rfl ?_ ?_<;>intro h4
     ·have hf:=h4;refine agH rfl (hw) (rq [0,1,2,3,4,5,6,7,8] mixed ?_);have hoD:=hA hoc.1 (hoc.2 he);refine ld .aa (gp _) (ld .aa (dI _) ?_);refine cq (o6 _ _ (D.A (a.bQ n).2).g hoD.wk.gI.ok _ _ _ (1000*(T+1)) (by have:=hoD.wk.T0;omega) hoD.wk.gS) (pk [1]) ?_;refine bS (pk [1,0,0,0,0,0,0,0,0,0,0,0,0,0,0,0,0,0,0]) ?_;try dsimp only[aK,aJ,aG,aR]
      have e:(a.ky n x w D y)=(D.e (a.bQ n).2,if D.e (a.bQ n).2≠0 then(D.A (a.bQ n).2).unA n else D.A (a.bQ n).2,D.y (a.bQ n).2):=by unfold KA.ky;rw[if_neg (show ¬a.aH n≠0 by omega),if_neg (show ¬(a.f n.toNat).xy x w=false by rw[hm];decide),if_pos hw,if_neg (show ¬(a.bQ n).1≠0 by omega)]
      rw[e];exact⟨rfl,c2,(by rw[if_pos hf];exact uZ.same (Int.le_refl _) rfl),by rw[if_pos hf];rfl⟩
     ·have hf:=h4;refine bS (pz 19) ?_;grind [aK,aJ,KA.ky]
   ·try simp only[sb]at h2
    have hw:(a.f n.toNat).sD x=false:=h2;refine XO.Sj (cs:=[aA ab 0 0,aA xb 0 0]) rfl rfl (hd a c (ho.up og og) (hc.up (Nat.le_refl _) og) hl) (pk [2,2,2,2,2,2,2,0,0,0,0,0,0,0,0,0,0,0,0,1]) EX rfl ?_;rintro _ _ ⟨rfl,c2,uZ,rfl⟩;refine gO ?_;refine sp 50 rfl ?_ ?_<;>intro h5
    ·have hf:=h5;refine agI rfl (hw) (bh rfl rfl (ai (pz 19) rfl ?_));grind [aK,aJ,KA.ky]
    ·have hf:=h5;refine bS (pz 19) ?_;grind [aK,aJ,KA.ky]
 ·have hl:a.aH n≠0:=hl;have jv:(kp a b c).aH n=a.aH n:=rfl;rw[jv];refine gO ?_;refine bS (pz 19) ?_;grind [aK,aJ,KA.ky,aV,cR.up]
def pq{P:Program}{n:Fr}{L:PF}{ty:TypeId}{pos:String}{af:Array Edge}{d:Nat}{f:FuncId}{x y:Operand}{u v:Value}{φ:World->Prop}{gd:Option (Nat×Bool)}(hx:ev L x=some u)(hy:ev L y=some v):aZ P n L φ (⟨some d,.makeFunc (.func f) #[] #[x,y],ty,pos,af,gd⟩) (.func (.func f) #[] #[u,v]):=fun a w ha hw=>by
 simp[execOp,au ha hx,au ha hy,Instr.makeFunc]
set_option maxHeartbeats 8000000 in
def YW(a:KA)(b:KZ)(c:KC)(N:Nat)(T:Int)(ho:a.Ok T)(hc:cR a c N T)(hT:T<=800000)(n x:Int):Spec Tryz.prog 81 [aA b.kb 0 0,iI n,iI x] (df a b c [.ro 0 0 32 dD,.ro 1 0 64 ix]) (fun v H1=>v= .tuple #[.int .u8 (a.iz n x).2.2,az 102 (a.iz n x).1]/\∃ c1:KC,cR (a.iz n x).2.1 c1 N (T+1)/\H1=[.cells b.kb 0 453 (aD (kp (a.iz n x).2.1 b c1)),.cells b.gb 0 60 (cb (a.iz n x).2.1.g),.cells b.sb 0 158 (Sp.aO (a.iz n x).2.1.s),.cells b.qb 0 2281 (aP c1.q),.bk cP (SC.dZ 254 c1.q),.cells b.bb 0 577 (dM b.vp (a.iz n x).2.1.v.iD (a.iz n x).2.1.v.rf),.cells b.vp 0 71 (Vm.bO (a.iz n x).2.1.v.bb.fv),.eb (ka (a.iz n x).2.1) c1.mb 34 (cN b.bb (a.iz n x).2.1.f c1.pp c1.cc),.bk (ka (a.iz n x).2.1) (rN 171 (a.iz n x).2.1.f c1.pp c1.cc),.cells b.tb 0 321 (aC c1.F),.bk av (FC.bu 9 c1.F),.bk av (FC.bA 3 c1.F),dE c1.rp c1.rc 3 c1.rl,.cells b.pi 0 24 (Tr.bO (a.iz n x).2.1.P),.cells b.ob 0 122 (bj b.tb b.pi (a.iz n x).2.1.O),.eb (mh (a.iz n x).2.1) (fun z=>(c1.t z).b) 4 (cT b.tb c1.t),.bk (mh (a.iz n x).2.1) (rT 168 c1.t)]):=by
 refine Spec.go 17 [0,1,5,6,7,8,9] [] Tryz.func81 fun W=> ?_;refine XO.box (m:=1) (C:=aF (iI x)) rfl rfl (fun _ _=>rfl) rfl ?_;intro ab;refine gO ?_;refine XO.bJ (z:=.int .u8 0) (m:=1) (C:=aF (.int .u8 0)) (fun _ _=>rfl) ?_;intro xb;refine gO ?_;refine st .aa (aF.st _ _) rfl (ld (.ao .aa) (aF.ld _) (XO.v (pq rfl rfl) rfl (gO ?_)));refine vl 19 (Kq a b c N T ho hc hT n x false (Z4 n x) 0 ab xb (fun h q=>h.ld q x) 150 rfl fun a1 c1 h1 h2 h3=>YV a1 b c1 N (T+1) h1 h2 og n h3 ab xb x 0) (pk [2,2,2,2,2,2,2,2,2,2,2,2,2,2,2,2,2,1,0,0,0]) rfl ?_;rintro _ _ ⟨rfl,c1,ie,rfl⟩;refine gO ?_;refine ld (.oq (.t6 .aa)) (aF.ld _) (bC rfl rfl rfl (ai (pz 17) rfl ?_));grind [aK,aJ,KA.iz]
set_option maxHeartbeats 8000000 in
def Vt(a:KA)(b:KZ)(c:KC)(N:Nat)(T:Int)(ho:a.Ok T)(hc:cR a c N T)(hT:T<=800000)(n x y:Int)(hy:0<=y/\y<256):Spec Tryz.prog 82 [aA b.kb 0 0,iI n,iI x,.int .u8 y] (df a b c [.ro 0 0 32 dD,.ro 1 0 64 ix]) (fun v H1=>v=az 102 (a.gL n x y).1/\∃ c1:KC,cR (a.gL n x y).2.1 c1 N (T+1)/\H1=[.cells b.kb 0 453 (aD (kp (a.gL n x y).2.1 b c1)),.cells b.gb 0 60 (cb (a.gL n x y).2.1.g),.cells b.sb 0 158 (Sp.aO (a.gL n x y).2.1.s),.cells b.qb 0 2281 (aP c1.q),.bk cP (SC.dZ 254 c1.q),.cells b.bb 0 577 (dM b.vp (a.gL n x y).2.1.v.iD (a.gL n x y).2.1.v.rf),.cells b.vp 0 71 (Vm.bO (a.gL n x y).2.1.v.bb.fv),.eb (ka (a.gL n x y).2.1) c1.mb 34 (cN b.bb (a.gL n x y).2.1.f c1.pp c1.cc),.bk (ka (a.gL n x y).2.1) (rN 171 (a.gL n x y).2.1.f c1.pp c1.cc),.cells b.tb 0 321 (aC c1.F),.bk av (FC.bu 9 c1.F),.bk av (FC.bA 3 c1.F),dE c1.rp c1.rc 3 c1.rl,.cells b.pi 0 24 (Tr.bO (a.gL n x y).2.1.P),.cells b.ob 0 122 (bj b.tb b.pi (a.gL n x y).2.1.O),.eb (mh (a.gL n x y).2.1) (fun z=>(c1.t z).b) 4 (cT b.tb c1.t),.bk (mh (a.gL n x y).2.1) (rT 168 c1.t)]):=by
 refine Spec.go 14 [0,1,6,7,8] [] Tryz.func82 fun W=> ?_;refine XO.box (m:=1) (C:=aF (iI x)) rfl rfl (fun _ _=>rfl) rfl ?_;intro ab;refine gO ?_;refine XO.box (m:=1) (C:=aF (.int .u8 y)) rfl rfl (fun _ _=>rfl) rfl ?_;intro xb;refine gO ?_;refine ld (.ao .aa) (aF.ld _) (XO.v (pq rfl rfl) rfl (gO ?_));refine vl 19 (Kq a b c N T ho hc hT n x true (sfD n x y) y ab xb (fun h q=>h.sf q x hy) 152 rfl fun a1 c1 h1 h2 h3=>Vs a1 b c1 N (T+1) h1 h2 og n h3 ab xb x y) (pk [2,2,2,2,2,2,2,2,2,2,2,2,2,2,2,2,2,1,0,0,0]) rfl ?_;rintro _ _ ⟨rfl,c1,ie,rfl⟩;refine gO ?_;refine bS (pz 17) ?_;grind [aK,aJ,KA.gL]
end Go.X.Kn

namespace Go.X.Kn
open Go Go.X
variable{B T n:Int}{d:Int->Nat}{c:KC}{F:Tr.FF}
def KA.Vu(a:KA)(p w:Int):KA:=if w<1\/1000<w then a else {a with g:=a.g.add p}
def KA.MG(a:KA)(n:Int):KA:= {a with g:=a.g.eS n}
def KA.afo(a:KA)(n p m:Int):KA:= {a with g:=a.g.xe n p m}
def KA.Z6(a:KA)(n z:Int):Int:=a.g.iM (a.u n).lv z 1 (a.Cu n)
def KA.Vv(a:KA)(n z:Int):KA:=if a.aH n≠0\/a.Z6 n z≠0 then a else {a with u:=ad a.u n {a.u n with lv:=z},g:=a.g.move (a.u n).lv z 1 (a.Cu n)}
theorem yz(u:Int->PA)(n z p:Int):(ad u n {u n with lv:=z} p).st=(u p).st/\(ad u n {u n with lv:=z} p).bx=(u p).bx/\(ad u n {u n with lv:=z} p).fd=(u p).fd:=by
 grind [ad]
def KA.Ok.SD{a:KA}(h:a.Ok T)(p w:Int):(a.Vu p w).Ok T:=by
 unfold KA.Vu;split
 ·exact h
 ·exact h.Hy og h.wk.T0.2 (h.wk.gI.add p) (h.wk.gS.add (by have:=h.wk.T0;omega) p)
def KA.Ok.ID{a:KA}(h:a.Ok T)(n:Int):(a.MG n).Ok T:=h.Hy og h.wk.T0.2 (h.wk.gI.eS n) (h.wk.gS.eS (by have:=h.wk.T0;omega) n)
def KA.Ok.lim{a:KA}(h:a.Ok T)(n p m:Int):(a.afo n p m).Ok T:=h.Hy og h.wk.T0.2 (h.wk.gI.xe n p m) (h.wk.gS.xe n p m)
def KA.Ok.Ii{a:KA}(h:a.Ok T)(hT:T<=900000)(n z:Int):(a.Vv n z).Ok (T+1):=by
 unfold KA.Vv;split
 ·grind [KA.Ok.up]
 ·rename_i c;have h1:=h.io (T':=T) (Int.le_refl _) h.wk.T0.2 (u:=ad a.u n {a.u n with lv:=z}) (O:=a.O) (P:=a.P) (fun p=>(yz _ _ _ p).1) (fun p=>(yz _ _ _ p).2.1) (fun p hp=>by
   have hl:a.aH n=0:=by simp_all
   have:=(bX hl).1
   rw[ae _ _ og];exact h.wk.out p hp) (fun p i=>by rw[(yz _ _ _ p).2.2];exact h.wk.fd p i) h.wk.OI h.wk.PI
  exact h1.Hy og og (h.wk.gI.move _ _ _ _) ((h.wk.gS.move h.wk.gI.ok _ _ _ _).mono og)
open Go.Proofs
set_option maxRecDepth 20000
set_option maxHeartbeats 4000000
def Uy:ny Tryz.prog 66=true:=kq
def Hl:fb Tryz.prog 66=some 5:=kq
attribute [local irreducible] KA.aU KA.cD
def FR:jD Tryz.prog 91=true:=kq
open Go.X.Tr
def KA.Ok.tz{a:KA}(h:a.Ok T)(c:a.aH n=0):(0<=(a.s.bM n).1/\(a.s.bM n).1<6)/\a.s.aa (a.s.bM n).1=true:=by
 obtain⟨hn,hs⟩:=bX c;obtain⟨e,_,r,hh⟩:=SS.Inv.is0 h.wk.sI hn ((h.wk.lc n hn.1 hn.2).1 og);simp_all
def yA(F:Tr.FF)(l:List MT)(r:WH)(x:ByteArray):(qS F l r x).size<=x.size:=by
 unfold qS;split
 ·exact Nat.zero_le _
 ·unfold nm bW;split
  ·by_cases h:0<(dV (x.extract 1 x.size)).length
   ·have h1:=FX (x.extract 1 x.size) (z:=((dV (x.extract 1 x.size)).length:Int)-1) ⟨og,og⟩;grind [ByteArray.size_extract]
   ·have e:dV (x.extract 1 x.size)=[]:=by cases hp:dV (x.extract 1 x.size)with
     | nil=>rfl
     | cons a b=>rw[hp]at h;simp at h
    rw[e];exact Nat.zero_le _
  ·exact Nat.zero_le _
theorem wu(s:Tr.FF)(n:Int)(x:ByteArray)(k:Int):(s.make n x k).roots=s.roots:=by
 unfold Tr.FF.make;split<;>rfl
def xT(s:Tr.FF)(n:Int)(x:ByteArray):(s.eS n x).roots=s.roots:=by
 unfold Tr.FF.eS;split
 ·unfold Tr.FF.qP;split<;>rfl
 rfl
def CY(s:Tr.FF)(k n:Int)(x:ByteArray):(s.zC k n x).roots=s.roots:=by
 unfold Tr.FF.zC;split<;>rfl
def CZ(s:Tr.FF)(d:Int->Nat)(n:Int)(x:ByteArray)(to:Int)(y:ByteArray):(s.move d n x to y).roots=s.roots:=by
 unfold Tr.FF.move;repeat' split
 all_goals rfl
def rY(s:Tr.FF)(O:Tr.OS)(n:Int):(mN s O n).roots=s.roots:=by
 unfold mN;split;all_goals grind [lD]
theorem cR.MH{a a':KA}{N:Nat}{T':Int}(h:cR a c N T){F:FC}(hF:F.toFF.Ok d T')(hT:T<=T')(hp:F.rP=c.F.rP)(hc:F.rC=c.F.rC)(hr:F.toFF.roots=c.F.toFF.roots)(e:a'.s=a.s:=by rfl)(hu:∀ n,(a.u n).st=1->(a'.u n).st=1:=by exact fun _ q=>q):cR a' {c with F:=F,dF:=d} N T':=
 ⟨h.qO.mono (Nat.le_refl _) og,h.qR,hF,hp.trans h.rp,hc.trans h.rc,hr.trans h.rl,fun z h0 h1 h2=>h.tb z h0 h1 (by rwa[e]at h2),fun n n0 n1 hn=>hu n (h.tk n n0 n1 hn)⟩
theorem Vw(a:KA)(b:KZ){e:KC}(h1:e.mb=c.mb)(h2:∀ z,(e.t z).b=(c.t z).b):kp a b e=kp a b c:=by grind [kp]
theorem Vy{t:Nat->TB}{z:Nat}{m:TB}(h:m.b=(t z).b):∀ y,(bE t z m y).b=(t y).b:=fun y=>by
 grind [bE]
def cR.tab{a:KA}{N:Nat}{T':Int}(h:cR a c N T){F:FC}{z:Nat}{m:TB}(hm:m.Ok)(hF:F.toFF.Ok c.dF T')(hp:F.rP=c.F.rP)(hc:F.rC=c.F.rC)(hr:F.toFF.roots=c.F.toFF.roots):cR a {c with F:=F,t:=bE c.t z m} N T':=
 ⟨h.qO.mono (Nat.le_refl _) og,h.qR,hF,hp.trans h.rp,hc.trans h.rc,hr.trans h.rl,fun y h0 h1 h2=>by
  show(bE c.t z m y.toNat).Ok
  by_cases e:y.toNat=z
  ·rw[e,rU];exact hm
  ·rw[lV _ _ e];exact h.tb y h0 h1 h2,h.tk⟩
def QT{l:List MT}(h:l.length<=6)(a z:WH):(oZ F l a z).length<=6:=by
 unfold oZ;split
 ·rename_i c;have:l.length≠6:=by
   intro q;unfold tS at c;omega
  grind
 omega
def Kr{l:List MT}(h:l.length<=6)(w:WH):(mX l w).length<=6:=by
 unfold mX;rw[List.length_eraseIdx];split<;>omega
def Ks(F:Tr.FF)(l:List MT)(a z:WH):(qU F l a z).roots=F.roots:=by
 unfold qU;split;all_goals grind [lD]
def EJ(F:Tr.FF)(l:List MT)(w:WH):(pM F l w).roots=F.roots:=by
 unfold pM;split;all_goals grind [FF.mL]
def KA.Vz(a:KA)(n x:Int)(w:Bool):KA:= {a with u:=Bc a.u n (a.mQ n) (a.O.first+1),O:=a.O.lay a.O.first 1 x w,P:=a.P}
def KA.Ou(a:KA)(n:Int)(a1:KA):Prop:=a1=a\/∃ x w,a.aH n=0/\(0<=a.mQ n/\a.mQ n<6)/\(0<=a.O.first/\a.O.first<24)/\a1=a.Vz n x w
theorem KA.Ok.opens{a a1:KA}(h:a.Ok T)(hT:T<=900000)(Ve:1<=T)(ho:a.Ou n a1):a1.Ok (T+1):=by
 rcases ho with rfl | ⟨x,w,hl,hs,hf,rfl⟩
 ·grind [KA.Ok.up]
 ·exact h.io og og (fun p=>(jq _ _ _ _ p).1) (fun p=>(jq _ _ _ _ p).2) (yo (bX hl).1 _ _ h.wk.out) (DH og h.wk.fd) ((h.wk.OI.lay Ve _ _ _ _ (.inl rfl) fun q=>absurd rfl q).mono og) (h.wk.PI.mono og)
def zI{B':Int}(h:F.Ok d B)(O:Tr.OS)(n:Int)(hB:B+1<=B':=by omega):(mN F O n).Ok d B':=by
 unfold mN;split
 ·exact FF.Ok.up (h.dy n) hB
 grind [FF.Ok.up]
def NVs(x:NV):Prop:=((0<=x.aN/\x.aN<=2)/\ -1000000<=x.bF/\x.bF<=1000000)/\(0<=x.aX/\x.aX<=1000000)/\0<=x.size/\x.size<=100
def afq(h:F.Ok d B)(hB:B<=1000000)(n:Int):NVs (F.V9 n):=by
 unfold Tr.FF.V9;split
 ·rename_i c;have hr:0<=n/\n<40:=by
   unfold Tr.FF.cI at c;omega
  have h1:=(h.sh hB).num n hr.1 hr.2;have h2:=(h.sh hB).data n hr.1 hr.2;have h3:=(h.sh hB).jh n hr.1 hr.2;have h4:=h.ec.kinds n hr.1 hr.2;grind [NVs]
 ·exact⟨⟨⟨dq,dq⟩,dq,dq⟩,⟨dq,dq⟩,dq,dq⟩
theorem afr:NVs NV.zero:=⟨⟨⟨dq,dq⟩,dq,dq⟩,⟨dq,dq⟩,dq,dq⟩
def YX(h:F.Ok d B)(hn:F.cI n 2=0):(F.aI n).length<=8/\∀ x∈F.aI n,x.size<=8:=by
 have hr:0<=n/\n<40:=by
  unfold Tr.FF.cI at hn;omega
 exact⟨(h.ec.jh n hr.1 hr.2).2.2.1,fun x hx=>Tr.FF.JM (h.ec.LS n hr.1 hr.2 x hx)⟩
def jr(a:KA)(b:KZ)(c:KC)(n:Int)(hz:(0<=(a.s.bM n).1/\(a.s.bM n).1<6)/\a.s.aa (a.s.bM n).1=true):Spec Tryz.prog 105 [aA b.kb 0 0,iI n] [.cells b.kb 0 453 (aD (kp a b c)),.cells b.sb 0 158 (Sp.aO a.s)] (fun v H1=>v=aA (c.t (a.s.bM n).1.toNat).b 0 0/\H1=[.cells b.kb 0 453 (aD (kp a b c)),.cells b.sb 0 158 (Sp.aO a.s)]):=by
 refine Spec.go 13 [0,1,4] [] Tryz.func105 fun W=> ?_;refine rq [0,1,2,4,5,3,6,7,8] mixed ?_;refine cq (jK b.kb (kp a b c) a.s n) (pz 2) ?_;refine sd (ld .aa (r8 _ hz.1 (Um a b c hz.2)) (bh rfl rfl (ai (pz 2) rfl ?_)));grind [aK,aJ,kp]
set_option maxHeartbeats 8000000 in
def MI(a:KA)(b:KZ)(c:KC)(N:Nat)(T:Int)(ho:a.Ok T)(hc:cR a c N T)(hT:T<=800000)(n:Int)(x:ByteArray)(hx:x.size<=100000):Spec Tryz.prog 166 [aA b.kb 0 0,iI n,.string x] (df a b c []) (fun v H1=>∃ (e:Int) (c1:KC),v=az 102 e/\cR a c1 N (T+15)/\H1=(df a b c1 [])):=by
 refine Spec.go 43 [0,1,2,6,8,9,10,18,30] [] Tryz.func166 fun W=> ?_;refine ca (eW b.kb (kp a b c) n) .h1 ?_;rintro _ _ ⟨⟨hl,rfl⟩ | ⟨hl,rfl⟩,rfl⟩
 ·obtain⟨kx,iy⟩:=bI hl;have hl:a.aH n=0:=hl;have iy:(a.u n).st=1:=iy;have hz:=ho.tz hl;have iG:=hc.tb _ hz.1.1 hz.1.2 hz.2;have yJ:=hc.sh og;refine gO ?_;refine XR.mono (fun _ bK=>ia (z:=(a.s.bM n).1.toNat) (ej hz.1 hz.2) (pk [15,15]) bK) ?_;refine cq (jr a b c n hz) (pk [4,5]) ?_;refine cq (zZ _ _ _ _ _ _ _ _ _ iG.rv iG.mc iG.len c.F yJ x hx) (pk [2,2,11,11,11]) ?_;refine XO.bJ (z:=.agg (WH.cQ WH.nil)) (m:=2) (C:=aY WH.nil) (aY.box _) ?_;intro bw;refine gO ?_;refine fW .aa (aY.st _ _) rfl ⟨rfl,rfl⟩ (XR.mono (fun _ bK=>ib (z:=(a.s.bM n).1.toNat) (ej hz.1 hz.2) (pk [1,1,6,6]) bK) ?_);refine cd rfl ?_ ?_<;>intro h1
  ·refine rq [0,1,2,3,4,5,6,7,8,9,10,11] mixed (ld (.t6 .aa) (aD.CB _) (ld (.t2 .aa) (aY.D5 _) ?_));refine ca (UQ _ _ c.F yJ _ _ 2 (by have:=yA c.F.toFF (c.t (a.s.bM n).1.toNat).l (c.t (a.s.bM n).1.toNat).r x;omega)) (pk [3,3,3]) ?_;rintro _ _ ⟨rfl,t,ht,hp,hr,rfl⟩;obtain⟨d1,Ee⟩:=hc.F.make (tQ c.F.toFF (c.t (a.s.bM n).1.toNat).l (c.t (a.s.bM n).1.toNat).r x).node (qS c.F.toFF (c.t (a.s.bM n).1.toNat).l (c.t (a.s.bM n).1.toNat).r x) 2;refine gO ?_;refine bh rfl rfl (ai (pk [6,7,6,6,6,6,6,6,6,0,0,0,3,3,3,0,0]) rfl ?_);try dsimp only[aK,aJ,aG,aR]
   exact⟨_,{c with F:=t,dF:=d1},rfl,hc.MH (by rw[ht];exact FF.Ok.up Ee og) og hp hr (by rw[ht];exact wu _ _ _ _),rfl⟩
  ·refine bh rfl rfl (ai (pk [6,7,6,6,6,6,6,6,6,3,3,3,3,3,3,0,0]) rfl ?_);try dsimp only[aK,aJ,aG,aR]
   grind [cR.up]
 ·have hl:a.aH n≠0:=hl;have jv:(kp a b c).aH n=a.aH n:=rfl;rw[jv];refine gO ?_;refine bS (pz 17) ?_;try dsimp only[aK,aJ,aG,aR]
  exact⟨a.aH n,c,(aV _ hl).symm,hc.up (Nat.le_refl _) og,rfl⟩
set_option maxHeartbeats 8000000 in
def QU(a:KA)(b:KZ)(c:KC)(N:Nat)(T:Int)(ho:a.Ok T)(hc:cR a c N T)(hT:T<=800000)(n:Int)(x:ByteArray)(hx:x.size<=100000):Spec Tryz.prog 167 [aA b.kb 0 0,iI n,.string x] (df a b c []) (fun v H1=>∃ (e:Int) (c1:KC),v=az 102 e/\cR a c1 N (T+15)/\H1=(df a b c1 [])):=by
 refine Spec.go 40 [0,1,2,6,8,9,10,18,30] [] Tryz.func167 fun W=> ?_;refine ca (eW b.kb (kp a b c) n) .h1 ?_;rintro _ _ ⟨⟨hl,rfl⟩ | ⟨hl,rfl⟩,rfl⟩
 ·obtain⟨kx,iy⟩:=bI hl;have hl:a.aH n=0:=hl;have iy:(a.u n).st=1:=iy;have hz:=ho.tz hl;have iG:=hc.tb _ hz.1.1 hz.1.2 hz.2;have yJ:=hc.sh og;refine gO ?_;refine XR.mono (fun _ bK=>ia (z:=(a.s.bM n).1.toNat) (ej hz.1 hz.2) (pk [15,15]) bK) ?_;refine cq (jr a b c n hz) (pk [4,5]) ?_;refine cq (zZ _ _ _ _ _ _ _ _ _ iG.rv iG.mc iG.len c.F yJ x hx) (pk [2,2,11,11,11]) ?_;refine XO.bJ (z:=.agg (WH.cQ WH.nil)) (m:=2) (C:=aY WH.nil) (aY.box _) ?_;intro bw;refine gO ?_;refine fW .aa (aY.st _ _) rfl ⟨rfl,rfl⟩ (XR.mono (fun _ bK=>ib (z:=(a.s.bM n).1.toNat) (ej hz.1 hz.2) (pk [1,1,6,6]) bK) ?_);refine cd rfl ?_ ?_<;>intro h1
  ·refine rq [0,1,2,3,4,5,6,7,8] mixed (ld (.t6 .aa) (aD.CB _) (ld (.t2 .aa) (aY.D5 _) ?_));refine ca (US _ _ c.F yJ _ _) (pk [3,3,3]) ?_;rintro _ _ ⟨rfl,t,ht,hp,hr,rfl⟩;refine gO ?_;refine bh rfl rfl (ai (pk [6,7,6,6,6,6,6,6,6,0,0,0,3,3,3,0,0]) rfl ?_);try dsimp only[aK,aJ,aG,aR]
   exact⟨_,{c with F:=t,dF:=c.dF},rfl,hc.MH (by rw[ht];exact FF.Ok.up (hc.F.eS _ _) og) og hp hr (by rw[ht];exact xT _ _ _),rfl⟩
  ·refine bh rfl rfl (ai (pk [6,7,6,6,6,6,6,6,6,3,3,3,3,3,3,0,0]) rfl ?_);try dsimp only[aK,aJ,aG,aR]
   grind [cR.up]
 ·have hl:a.aH n≠0:=hl;have jv:(kp a b c).aH n=a.aH n:=rfl;rw[jv];refine gO ?_;refine bS (pz 17) ?_;try dsimp only[aK,aJ,aG,aR]
  exact⟨a.aH n,c,(aV _ hl).symm,hc.up (Nat.le_refl _) og,rfl⟩
set_option maxHeartbeats 8000000 in
def YY(a:KA)(b:KZ)(c:KC)(N:Nat)(T:Int)(ho:a.Ok T)(hc:cR a c N T)(hT:T<=800000)(n:Int)(x y:ByteArray)(hx:x.size<=100000)(hy:y.size<=100000):Spec Tryz.prog 168 [aA b.kb 0 0,iI n,.string x,.string y] (df a b c []) (fun v H1=>∃ (e:Int) (c1:KC),v=az 102 e/\cR a c1 N (T+15)/\H1=(df a b c1 [])):=by
 refine Spec.go 59 [0,1,2,3,8,10,11,12,13,14,22,34,46] [] Tryz.func168 fun W=> ?_;refine ca (eW b.kb (kp a b c) n) .h1 ?_;rintro _ _ ⟨⟨hl,rfl⟩ | ⟨hl,rfl⟩,rfl⟩
 ·obtain⟨kx,iy⟩:=bI hl;have hl:a.aH n=0:=hl;have iy:(a.u n).st=1:=iy;have hz:=ho.tz hl;have iG:=hc.tb _ hz.1.1 hz.1.2 hz.2;have yJ:=hc.sh og;refine gO ?_;refine XR.mono (fun _ bK=>ia (z:=(a.s.bM n).1.toNat) (ej hz.1 hz.2) (pk [15,15]) bK) ?_;refine cq (jr a b c n hz) (pk [4,5]) ?_;refine cq (zZ _ _ _ _ _ _ _ _ _ iG.rv iG.mc iG.len c.F yJ x hx) (pk [2,2,11,11,11]) ?_;refine XO.bJ (z:=.agg (WH.cQ WH.nil)) (m:=2) (C:=aY WH.nil) (aY.box _) ?_;intro bw;refine gO ?_;refine fW .aa (aY.st _ _) rfl ⟨rfl,rfl⟩ (XR.mono (fun _ bK=>ib (z:=(a.s.bM n).1.toNat) (ej hz.1 hz.2) (pk [1,1,6,6]) bK) ?_);refine cd rfl ?_ ?_<;>intro h1
  ·refine bh rfl rfl (ai (pk [6,7,6,6,6,6,6,6,6,3,3,3,3,3,3,0,0]) rfl ?_);try dsimp only[aK,aJ,aG,aR]
   grind [cR.up]
  ·refine XR.mono (fun _ bK=>ia (z:=(a.s.bM n).1.toNat) (ej hz.1 hz.2) (pz 2) bK) ?_;refine cq (jr a b c n hz) (pk [8,8]) ?_;refine cq (zZ _ _ _ _ _ _ _ _ _ iG.rv iG.mc iG.len c.F yJ y hy) (pk [2,2,5,5,5]) ?_;refine XO.bJ (z:=.agg (WH.cQ WH.nil)) (m:=2) (C:=aY WH.nil) (aY.box _) ?_;intro bw2;refine gO ?_;refine fW .aa (aY.st _ _) rfl ⟨rfl,rfl⟩ (XR.mono (fun _ bK=>ib (z:=(a.s.bM n).1.toNat) (ej hz.1 hz.2) (pk [1,1,6,6]) bK) ?_);refine cd rfl ?_ ?_<;>intro h2
   ·refine bh rfl rfl (ai (pk [6,8,6,7,7,7,7,7,7,3,3,3,4,4,4,0,0]) rfl ?_);try dsimp only[aK,aJ,aG,aR]
    grind [cR.up]
   ·refine rq [0,1,2,3,4,5,6,7,8,9,10,11] mixed (ld (.t6 .aa) (aD.CB _) (ld (.t8 .aa) (aY.D5 _) (ld (.t2 .aa) (aY.D5 _) ?_)));refine ca (acr _ _ c.F yJ c.dF hc.F.ec.chI _ _ _ _ (by have:=yA c.F.toFF (c.t (a.s.bM n).1.toNat).l (c.t (a.s.bM n).1.toNat).r y;omega)) (pk [3,3,3]) ?_;rintro _ _ ⟨rfl,t,ht,hp,hr,rfl⟩;obtain⟨d1,Ee⟩:=hc.F.move (tQ c.F.toFF (c.t (a.s.bM n).1.toNat).l (c.t (a.s.bM n).1.toNat).r x).node (qS c.F.toFF (c.t (a.s.bM n).1.toNat).l (c.t (a.s.bM n).1.toNat).r x) (tQ c.F.toFF (c.t (a.s.bM n).1.toNat).l (c.t (a.s.bM n).1.toNat).r y).node (qS c.F.toFF (c.t (a.s.bM n).1.toNat).l (c.t (a.s.bM n).1.toNat).r y);refine gO ?_;refine bh rfl rfl (ai (pk [6,8,6,7,7,7,7,7,7,0,0,0,4,4,4,0,0]) rfl ?_);try dsimp only[aK,aJ,aG,aR]
    exact⟨_,{c with F:=t,dF:=d1},rfl,hc.MH (by rw[ht];exact FF.Ok.up Ee og) og hp hr (by rw[ht];exact CZ _ _ _ _ _ _),rfl⟩
 ·have hl:a.aH n≠0:=hl;have jv:(kp a b c).aH n=a.aH n:=rfl;rw[jv];refine gO ?_;refine bS (pz 17) ?_;try dsimp only[aK,aJ,aG,aR]
  exact⟨a.aH n,c,(aV _ hl).symm,hc.up (Nat.le_refl _) og,rfl⟩
set_option maxHeartbeats 8000000 in
def YZ(a:KA)(b:KZ)(c:KC)(N:Nat)(T:Int)(ho:a.Ok T)(hc:cR a c N T)(hT:T<=800000)(n:Int)(x y:ByteArray)(hx:x.size<=100000)(hy:y.size<=100000):Spec Tryz.prog 169 [aA b.kb 0 0,iI n,.string x,.string y] (df a b c []) (fun v H1=>∃ (e:Int) (c1:KC),v=az 102 e/\cR a c1 N (T+15)/\H1=(df a b c1 [])):=by
 refine Spec.go 56 [0,1,2,3,8,10,11,12,13,21,32,44] [] Tryz.func169 fun W=> ?_;refine ca (eW b.kb (kp a b c) n) .h1 ?_;rintro _ _ ⟨⟨hl,rfl⟩ | ⟨hl,rfl⟩,rfl⟩
 ·obtain⟨kx,iy⟩:=bI hl;have hl:a.aH n=0:=hl;have iy:(a.u n).st=1:=iy;have hz:=ho.tz hl;have iG:=hc.tb _ hz.1.1 hz.1.2 hz.2;have yJ:=hc.sh og;refine gO ?_;refine XR.mono (fun _ bK=>ia (z:=(a.s.bM n).1.toNat) (ej hz.1 hz.2) (pk [15,15]) bK) ?_;refine cq (jr a b c n hz) (pk [4,5]) ?_;refine cq (Dz _ _ _ _ _ _ _ _ _ iG.rv iG.mc iG.len c.F yJ x hx) (pk [2,2,11,11,11]) ?_;refine XO.bJ (z:=.agg (WH.cQ WH.nil)) (m:=2) (C:=aY WH.nil) (aY.box _) ?_;intro bw;refine gO ?_;refine fW .aa (aY.st _ _) rfl ⟨rfl,rfl⟩ (XR.mono (fun _ bK=>ib (z:=(a.s.bM n).1.toNat) (ej hz.1 hz.2) (pk [1,1,6,6]) bK) ?_);refine cd rfl ?_ ?_<;>intro h1
  ·refine bh rfl rfl (ai (pk [6,7,6,6,6,6,6,6,6,3,3,3,3,3,3,0,0]) rfl ?_);try dsimp only[aK,aJ,aG,aR]
   grind [cR.up]
  ·refine XR.mono (fun _ bK=>ia (z:=(a.s.bM n).1.toNat) (ej hz.1 hz.2) (pz 2) bK) ?_;refine cq (jr a b c n hz) (pk [8,8]) ?_;refine cq (zZ _ _ _ _ _ _ _ _ _ iG.rv iG.mc iG.len c.F yJ y hy) (pk [2,2,5,5,5]) ?_;refine XO.bJ (z:=.agg (WH.cQ WH.nil)) (m:=2) (C:=aY WH.nil) (aY.box _) ?_;intro bw2;refine gO ?_;refine fW .aa (aY.st _ _) rfl ⟨rfl,rfl⟩ (XR.mono (fun _ bK=>ib (z:=(a.s.bM n).1.toNat) (ej hz.1 hz.2) (pk [1,1,6,6]) bK) ?_);refine cd rfl ?_ ?_<;>intro h2
   ·refine bh rfl rfl (ai (pk [6,8,6,7,7,7,7,7,7,3,3,3,4,4,4,0,0]) rfl ?_);try dsimp only[aK,aJ,aG,aR]
    grind [cR.up]
   ·refine rq [0,1,2,3,4,5,6,7,8,9,10] mixed (ld (.t6 .aa) (aD.CB _) (ld (.t8 .aa) (aY.D5 _) (ld (.t2 .aa) (aY.D5 _) ?_)));refine ca (acp _ _ c.F yJ _ _ _ (by have:=yA c.F.toFF (c.t (a.s.bM n).1.toNat).l (c.t (a.s.bM n).1.toNat).r y;omega)) (pk [3,3,3]) ?_;rintro _ _ ⟨rfl,t,ht,hp,hr,rfl⟩;refine gO ?_;refine bh rfl rfl (ai (pk [6,8,6,7,7,7,7,7,7,0,0,0,4,4,4,0,0]) rfl ?_);try dsimp only[aK,aJ,aG,aR]
    exact⟨_,{c with F:=t,dF:=c.dF},rfl,hc.MH (by rw[ht];exact FF.Ok.up (hc.F.zC _ _ _) og) og hp hr (by rw[ht];exact CY _ _ _ _),rfl⟩
 ·have hl:a.aH n≠0:=hl;have jv:(kp a b c).aH n=a.aH n:=rfl;rw[jv];refine gO ?_;refine bS (pz 17) ?_;try dsimp only[aK,aJ,aG,aR]
  exact⟨a.aH n,c,(aV _ hl).symm,hc.up (Nat.le_refl _) og,rfl⟩
def fL:ny Tryz.prog 163=true:=kq
def VA:c9 Tryz.prog 105=true:=kq
def acU:c9 Tryz.prog 214=true:=kq
def acV:c9 Tryz.prog 215=true:=kq
def U3:jD Tryz.prog 95=true:=kq
def da:fb Tryz.prog 163=some 2:=kq
set_option maxHeartbeats 8000000 in
def Y0(a:KA)(b:KZ)(c:KC)(N:Nat)(T:Int)(ho:a.Ok T)(hc:cR a c N T)(hT:T<=800000)(n:Int)(x y:ByteArray)(hx:x.size<=100000)(hy:y.size<=100000):Spec Tryz.prog 170 [aA b.kb 0 0,iI n,.string x,.string y] (df a b c []) (fun v H1=>∃ (e:Int) (c1:KC),v=az 102 e/\cR a c1 N (T+15)/\H1=(df a b c1 [])):=by
 refine Spec.go 50 [0,1,2,3,8,10,11,12,20,31,42] [] Tryz.func170 fun W=> ?_;refine ca (eW b.kb (kp a b c) n) .h1 ?_;rintro _ _ ⟨⟨hl,rfl⟩ | ⟨hl,rfl⟩,rfl⟩
 ·obtain⟨kx,iy⟩:=bI hl;have hl:a.aH n=0:=hl;have iy:(a.u n).st=1:=iy;have hz:=ho.tz hl;have iG:=hc.tb _ hz.1.1 hz.1.2 hz.2;have yJ:=hc.sh og;refine gO ?_;refine XR.mono (fun _ bK=>ia (z:=(a.s.bM n).1.toNat) (ej hz.1 hz.2) (pk [15,15]) bK) ?_;refine cq (jr a b c n hz) (pk [4,5]) ?_;refine cq (Z2 _ _ _ _ _ _ _ _ _ iG.rv iG.mc iG.len c.F yJ x hx) (pk [2,2,11,11,11]) ?_;refine XO.bJ (z:=.agg (WH.cQ WH.nil)) (m:=2) (C:=aY WH.nil) (aY.box _) ?_;intro bw;refine gO ?_;refine fW .aa (aY.st _ _) rfl ⟨rfl,rfl⟩ ?_;refine XR.mono (fun _ bK=>ib (z:=(a.s.bM n).1.toNat) (ej hz.1 hz.2) (pk [1,1,6,6]) bK) ?_;refine cd rfl ?_ ?_<;>intro h1
  ·refine bh rfl rfl (ai (pk [6,7,6,6,6,6,6,6,6,3,3,3,3,3,3,0,0]) rfl ?_);try dsimp only[aK,aJ,aG,aR]
   grind [cR.up]
  ·refine XR.mono (fun _ bK=>ia (z:=(a.s.bM n).1.toNat) (ej hz.1 hz.2) (pz 2) bK) ?_;refine cq (jr a b c n hz) (pk [8,8]) ?_;refine cq (Dz _ _ _ _ _ _ _ _ _ iG.rv iG.mc iG.len c.F yJ y hy) (pk [2,2,5,5,5]) ?_;refine XO.bJ (z:=.agg (WH.cQ WH.nil)) (m:=2) (C:=aY WH.nil) (aY.box _) ?_;intro bw2;refine gO ?_;refine fW .aa (aY.st _ _) rfl ⟨rfl,rfl⟩ ?_;refine XR.mono (fun _ bK=>ib (z:=(a.s.bM n).1.toNat) (ej hz.1 hz.2) (pk [1,1,6,6]) bK) ?_;refine cd rfl ?_ ?_<;>intro h2
   ·refine bh rfl rfl (ai (pk [6,8,6,7,7,7,7,7,7,3,3,3,4,4,4,0,0]) rfl ?_);try dsimp only[aK,aJ,aG,aR]
    grind [cR.up]
   ·refine XR.mono (fun _ bK=>ia (z:=(a.s.bM n).1.toNat) (ej hz.1 hz.2) (pz 2) bK) ?_;refine XC.gR mixed (f:=7) (l:= #[qF,qF,qF,qF,qF,qF,qF]) rfl rfl XM.kD ?_;refine XQ.pv (i:=0) rfl kq rfl (V.move rfl) rfl rfl ?_;refine XQ.pv (i:=1) rfl kq rfl (V.move rfl) rfl rfl ?_;refine XQ.load (i:=3) (.cells _ _ _ _) [5] rfl kq rfl (.WM .aa) (eB rfl ek (aY.agg _) fL da) rfl kq rfl ?_;refine XQ.load (i:=4) (.cells _ _ _ _) [5] rfl kq rfl (.t4 .aa) (eB rfl ek (aY.agg _) fL da) rfl kq rfl ?_;refine XQ.call (i:=2) rfl kq rfl rfl (jr a b c n hz) (pk [8,8]) VA rfl (by rintro _ _ ⟨rfl,rfl⟩;all_goals(intro _ dP;exact⟨fun _=>fc (.t6 .aa) _ dP,fun _=>fc (.WM .aa) _ dP,trivial⟩)) ?_;rintro _ _ ⟨rfl,rfl⟩;refine XQ.call (i:=5) rfl kq rfl rfl (acH _ _ _ _ _ _ _ _ _ iG.rv iG.mc iG.len c.F c.dF T hc.F og _ _) (pk [2,2,5,5,5]) acU rfl (by rintro _ _ ⟨rfl,p1,k1,k2,k3,C1,u,We,hC1,hu,hp,hr,rfl⟩;all_goals(intro _ dP;refine⟨?_,?_,trivial⟩<;>exact fun hs=>(hs 5 (by first | (simp;done) | (simp;rfl)) rfl).elim)) ?_;rintro _ _ ⟨rfl,p1,k1,k2,k3,C1,u,We,hC1,hu,hp,hr,rfl⟩;refine XQ.pv (i:=6) rfl kq rfl (V.assign rfl) rfl rfl ?_;refine XQ.mono (fun _ bK=>Da (z:=(a.s.bM n).1.toNat) (⟨(c.t (a.s.bM n).1.toNat).b,(c.t (a.s.bM n).1.toNat).r,(oZ c.F.toFF (c.t (a.s.bM n).1.toNat).l (A9 c.F.toFF (c.t (a.s.bM n).1.toNat).l (c.t (a.s.bM n).1.toNat).r x) (JU c.F.toFF (c.t (a.s.bM n).1.toNat).l (c.t (a.s.bM n).1.toNat).r y)),p1,k1,k2,k3,C1⟩:TB) (ej hz.1 hz.2) (pk [0,0,5,5]) bK) ?_;refine XQ.done kq ?_;refine gE ?_;refine bh rfl rfl (ai (pk [5,8,5,7,7,7,7,7,7,2,2,2,4,4,4,0,0]) rfl ?_);try dsimp only[aK,aJ,aG,aR]
    refine⟨_,{c with F:=u,t:=bE c.t (a.s.bM n).1.toNat (⟨(c.t (a.s.bM n).1.toNat).b,(c.t (a.s.bM n).1.toNat).r,(oZ c.F.toFF (c.t (a.s.bM n).1.toNat).l (A9 c.F.toFF (c.t (a.s.bM n).1.toNat).l (c.t (a.s.bM n).1.toNat).r x) (JU c.F.toFF (c.t (a.s.bM n).1.toNat).l (c.t (a.s.bM n).1.toNat).r y)),p1,k1,k2,k3,C1⟩:TB)},rfl,hc.tab ⟨We,hC1,QT iG.len _ _⟩ (by rw[hu];exact FF.Ok.up (Ud hc.F _ _ _) og) hp hr (by rw[hu];exact Ks _ _ _ _),?_⟩;grind [Vw,Vy]
 ·have hl:a.aH n≠0:=hl;have jv:(kp a b c).aH n=a.aH n:=rfl;rw[jv];refine gO ?_;refine bS (pz 17) ?_;try dsimp only[aK,aJ,aG,aR]
  exact⟨a.aH n,c,(aV _ hl).symm,hc.up (Nat.le_refl _) og,rfl⟩
set_option maxHeartbeats 8000000 in
def QV(a:KA)(b:KZ)(c:KC)(N:Nat)(T:Int)(ho:a.Ok T)(hc:cR a c N T)(hT:T<=800000)(n:Int)(x:ByteArray)(hx:x.size<=100000):Spec Tryz.prog 171 [aA b.kb 0 0,iI n,.string x] (df a b c []) (fun v H1=>∃ (e:Int) (c1:KC),v=az 102 e/\cR a c1 N (T+15)/\H1=(df a b c1 [])):=by
 refine Spec.go 35 [0,1,2,6,8,9,17,28] [] Tryz.func171 fun W=> ?_;refine ca (eW b.kb (kp a b c) n) .h1 ?_;rintro _ _ ⟨⟨hl,rfl⟩ | ⟨hl,rfl⟩,rfl⟩
 ·obtain⟨kx,iy⟩:=bI hl;have hl:a.aH n=0:=hl;have iy:(a.u n).st=1:=iy;have hz:=ho.tz hl;have iG:=hc.tb _ hz.1.1 hz.1.2 hz.2;have yJ:=hc.sh og;refine gO ?_;refine XR.mono (fun _ bK=>ia (z:=(a.s.bM n).1.toNat) (ej hz.1 hz.2) (pk [15,15]) bK) ?_;refine cq (jr a b c n hz) (pk [4,5]) ?_;refine cq (Z2 _ _ _ _ _ _ _ _ _ iG.rv iG.mc iG.len c.F yJ x hx) (pk [2,2,11,11,11]) ?_;refine XO.bJ (z:=.agg (WH.cQ WH.nil)) (m:=2) (C:=aY WH.nil) (aY.box _) ?_;intro bw;refine gO ?_;refine fW .aa (aY.st _ _) rfl ⟨rfl,rfl⟩ ?_;refine XR.mono (fun _ bK=>ib (z:=(a.s.bM n).1.toNat) (ej hz.1 hz.2) (pk [1,1,6,6]) bK) ?_;refine cd rfl ?_ ?_<;>intro h1
  ·refine bh rfl rfl (ai (pk [6,7,6,6,6,6,6,6,6,3,3,3,3,3,3,0,0]) rfl ?_);try dsimp only[aK,aJ,aG,aR]
   grind [cR.up]
  ·refine XR.mono (fun _ bK=>ia (z:=(a.s.bM n).1.toNat) (ej hz.1 hz.2) (pz 2) bK) ?_;refine XC.gR mixed (f:=6) (l:= #[qF,qF,qF,qF,qF,qF]) rfl rfl XM.kD ?_;refine XQ.pv (i:=0) rfl kq rfl (V.move rfl) rfl rfl ?_;refine XQ.pv (i:=1) rfl kq rfl (V.move rfl) rfl rfl ?_;refine XQ.load (i:=3) (.cells _ _ _ _) [4] rfl kq rfl (.t4 .aa) (eB rfl ek (aY.agg _) fL da) rfl kq rfl ?_;refine XQ.call (i:=2) rfl kq rfl rfl (jr a b c n hz) (pk [8,8]) VA rfl (by rintro _ _ ⟨rfl,rfl⟩;all_goals(intro _ dP;exact⟨fun _=>fc (.t6 .aa) _ dP,trivial⟩)) ?_;rintro _ _ ⟨rfl,rfl⟩;refine XQ.call (i:=4) rfl kq rfl rfl (U9 _ _ _ _ _ _ _ _ _ iG.rv iG.mc iG.len c.F c.dF T hc.F og _) (pk [2,2,5,5,5]) acV rfl (by rintro _ _ ⟨rfl,p1,k1,k2,k3,C1,u,We,hC1,hu,hp,hr,rfl⟩;all_goals(intro _ dP;exact⟨fun hs=>(hs 4 (by first | (simp;done) | (simp;rfl)) rfl).elim,trivial⟩)) ?_;rintro _ _ ⟨rfl,p1,k1,k2,k3,C1,u,We,hC1,hu,hp,hr,rfl⟩;refine XQ.pv (i:=5) rfl kq rfl (V.assign rfl) rfl rfl ?_;refine XQ.mono (fun _ bK=>Da (z:=(a.s.bM n).1.toNat) (⟨(c.t (a.s.bM n).1.toNat).b,(c.t (a.s.bM n).1.toNat).r,(mX (c.t (a.s.bM n).1.toNat).l (A9 c.F.toFF (c.t (a.s.bM n).1.toNat).l (c.t (a.s.bM n).1.toNat).r x)),p1,k1,k2,k3,C1⟩:TB) (ej hz.1 hz.2) (pk [0,0,5,5]) bK) ?_;refine XQ.done kq ?_;refine gE ?_;refine bh rfl rfl (ai (pk [5,7,5,6,6,6,6,6,6,2,2,2,3,3,3,0,0]) rfl ?_);try dsimp only[aK,aJ,aG,aR]
   refine⟨_,{c with F:=u,t:=bE c.t (a.s.bM n).1.toNat (⟨(c.t (a.s.bM n).1.toNat).b,(c.t (a.s.bM n).1.toNat).r,(mX (c.t (a.s.bM n).1.toNat).l (A9 c.F.toFF (c.t (a.s.bM n).1.toNat).l (c.t (a.s.bM n).1.toNat).r x)),p1,k1,k2,k3,C1⟩:TB)},rfl,hc.tab ⟨We,hC1,Kr iG.len _⟩ (by rw[hu];exact FF.Ok.up (X5 hc.F _ _) og) hp hr (by rw[hu];exact EJ _ _ _),?_⟩;grind [Vw,Vy]
 ·have hl:a.aH n≠0:=hl;have jv:(kp a b c).aH n=a.aH n:=rfl;rw[jv];refine gO ?_;refine bS (pz 17) ?_;try dsimp only[aK,aJ,aG,aR]
  exact⟨a.aH n,c,(aV _ hl).symm,hc.up (Nat.le_refl _) og,rfl⟩
end Go.X.Kn
