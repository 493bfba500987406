import Derived.Test.YthdinakloheinaaGreatDoorkSW
set_option linter.all false
namespace Go.X.Gr
open Go Go.RowKit Go.Proofs Go.X
def Di:vh Tryz.prog 67=some (10,5):=kq
def o5:eK Tryz.prog 151 0=some 0:=kq
def Yg:eK Tryz.prog 66 0=some 0:=kq
def lF:jD Tryz.prog 3=true:=kq
def FR:jD Tryz.prog 91=true:=kq
def qW(p o b1 b2:Nat)(n:Int)(ax:Int->Int):List (Addr×Value):=
 (⟨b1,0,none⟩,iI n)::(⟨b2,0,none⟩,aA p o 0)::(List.range 10).map (fun k=>(⟨p,o+(0+0+k*5+0),none⟩,iI (ax (k:Int))))
def nq{p o b1 b2:Nat}{n:Int}{ax:Int->Int}{s':TG}(hp:s'.ax=ax){H:List aB}{w:World}(hg:Go.X.Good H w)(h1:kR H (.cells b1 0 1 (aF (iI n))))(h2:kR H (.cells b2 0 1 (aF (aA p o 0))))(h3:kR H (.cells p o 60 (cb s'))):∀ y∈qW p o b1 b2 n ax,w.cell? y.1=some y.2:=fun y hy=>by
 simp only[qW,List.mem_cons,List.mem_map,List.mem_range]at hy;rcases hy with rfl | rfl | ⟨k,hk,rfl⟩
 ·exact dX (i:=0) (hg.1 _ h1.mem)
 ·exact dX (i:=0) (hg.1 _ h2.mem)
 ·have h4:=dX (hg.1 _ h3.mem) (iC s' (k:Int)).1;simp_all[cb]
def Qr{p o b1 b2:Nat}{n:Int}{ax:Int->Int}{w:World}(h:∀ y∈qW p o b1 b2 n ax,w.cell? y.1=some y.2){z:Int}(h0:0<=z/\z<10):w.cell? ⟨p,o+(0+0+z.toNat*5+0),none⟩=some (iI (ax z)):=by
 have:=h (⟨p,o+(0+0+z.toNat*5+0),none⟩,iI (ax (z.toNat:Int))) (by
  simp only[qW,List.mem_cons,List.mem_map,List.mem_range]
  exact .inr (.inr ⟨z.toNat,og,rfl⟩))
 rw[show((z.toNat:Nat):Int)=z from og]at this;exact this
set_option maxHeartbeats 1000000 in def yf(p o b1 b2:Nat)(n:Int)(ax:Int->Int)(xs:List Re)(lE:kK ax n (ng xs))(w:World)(hR:∀ y∈qW p o b1 b2 n ax,w.cell? y.1=some y.2):SeqStopsK Fence.wide 2 Tryz.prog 184 #[aA b1 0 0,aA b2 0 0] (fun x:Re=> #[iI x.1]) (RO (qW p o b1 b2 n ax)) (· =xs) (· <+:xs) xs.length w:=by
 intro l J Jx W hW hJ hJx hY h0;have hR0:∀ y∈qW p o b1 b2 n ax,W.cell? y.1=some y.2:=fun y hy=>by
  rw[hW.cell (Wz (hR y hy))];exact hR y hy
 have e:(#[.func (.yield l) #[] #[]]++ #[aA b1 0 0,aA b2 0 0]:Array Value)=[.func (.yield l) #[] #[],aA b1 0 0,aA b2 0 0].toArray:=rfl;rw[e];refine callsIn_wide.2 (enter (ps:=[]) (cs:=[]) (M:=fun w=>J [] w/\∀ y∈qW p o b1 b2 n ax,w.cell? y.1=some y.2) Tryz.func184 rfl rfl ?_ ⟨h0,hR0⟩);refine XC.seq ?_;refine XC.region ?_;refine XO.l (vO (b:=b1) (o:=0) (v:=iI n) rfl (fun w hw=>hw.2 (⟨b1,0,none⟩,iI n) (by simp[qW])) lF) rfl ?_;refine XO.v (V.assign rfl) rfl ?_;refine XO.nil ?_;refine XE.next ?_;refine XC.eG [(0,_),(2,_),(4,_)] (Sub.cons rfl (Sub.cons rfl (Sub.cons rfl (Sub.nil _)))) ?_;refine XC.block ?_;refine XC.loop (σ:=List Re×List Re×Int) (fun x=>x.2.1.length) (fun x=>x.1++x.2.1=xs/\kK ax x.2.2 (ng x.2.1)) (fun x=>[(0,.func (.yield l) #[] #[]),(2,aA b2 0 0),(4,iI x.2.2)]) (fun x w=>J x.1 w/\∀ y∈qW p o b1 b2 n ax,w.cell? y.1=some y.2) ([],xs,n) ⟨rfl,lE⟩ (Sub.cons rfl (Sub.cons rfl (Sub.cons rfl (Sub.nil _)))) (fun _ hw=>hw) ?_;rintro⟨pre,bU,q⟩ ⟨hx,hq⟩;refine XC.seq ?_;refine XC.seq ?_;refine XC.region ?_;refine XO.v (V.move rfl) rfl ?_;refine XO.v (Ru rfl rfl rfl) rfl ?_;refine XO.nil ?_;refine XE.next ?_;refine XC.MN rfl (fun hq0=> ?_) fun hq0=> ?_
 ·have KS:q>=0:=hq0;match bU,hq with
  | [],hq=>exact absurd hq (by show ¬q<0;omega)
  | x::bU,hq=>
   obtain⟨e1,e2,e3,e4⟩:=hq;have e1':x.1=q:=e1;subst e1';refine XC.skip ?_;refine XE.next ?_;refine XC.eG [(0,_),(2,_),(4,_)] (Sub.cons rfl (Sub.cons rfl (Sub.cons rfl (Sub.nil _)))) ?_;refine XC.seq ?_;refine XC.block ?_;refine XC.seq ?_;refine K7 ?_;refine XI.v (V.move rfl) rfl ?_;refine XI.v (V.move rfl) rfl ?_;refine XI.yield (R:=fun e w'=>(e= .returned (.bool true)/\J (pre++[x]) w'/\∀ y∈qW p o b1 b2 n ax,w'.cell? y.1=some y.2)\/(e= .returned (.bool false)/\Jx (pre++[x]) w')) rfl rfl (fun w hw=>YieldAt.weak (hY pre x w hw.1 (by rw[<-hx];simp)) fun e w' h=> ?_) rfl fun e w' h=> ?_
   ·rcases h with⟨h1,h2,h3⟩ | h
    ·exact .inl ⟨h1,h2,fun y hy=>h3 y hy (hw.2 y hy)⟩
    ·exact .inr h
   ·rcases h with⟨rfl,h2⟩ | ⟨rfl,h2⟩
    ·refine⟨true,rfl,?_⟩;refine XI.v (V.not rfl) rfl ?_;refine XI.nil ?_;refine XE.next ?_;refine BH rfl rfl ?_;refine XC.skip ?_;refine iH ?_;refine XE.next ?_;refine XC.eG [(0,_),(2,_),(4,_)] (Sub.cons rfl (Sub.cons rfl (Sub.cons rfl (Sub.nil _)))) ?_;refine XC.mono (M':=fun w'=>J (pre++[x]) w'/\∀ y∈qW p o b1 b2 n ax,w'.cell? y.1=some y.2) (fun w' dP=>by
      rcases dP with⟨_,h⟩ | ⟨h,_⟩
      ·exact h
      ·simp at h) ?_
     refine XC.region ?_;refine XO.l (vO (b:=b2) (o:=0) (v:=aA p o 0) rfl (fun w hw=>hw.2 (⟨b2,0,none⟩,aA p o 0) (by simp[qW])) FR) rfl ?_;refine XO.v (V.move rfl) rfl ?_;refine XO.v (bD rfl) rfl ?_;refine XO.v (V.fieldAddr rfl o5) rfl ?_;refine XO.v (ja rfl rfl Di ⟨e2,e3⟩) rfl ?_;refine XO.v (V.fieldAddr rfl Yg) rfl ?_;refine XO.l (vO rfl (fun w hw=>Qr hw.2 ⟨e2,e3⟩) lF) rfl ?_;refine XO.v (V.assign rfl) rfl ?_;refine XO.nil ?_;refine XE.again (pre++[x],bU,ax x.1) sq ⟨by rw[<-hx];simp,e4⟩ (Sub.cons rfl (Sub.cons rfl (Sub.cons rfl (Sub.nil _)))) fun _ hw=>hw
    ·refine⟨false,rfl,?_⟩;refine XI.v (V.not rfl) rfl ?_;refine XI.nil ?_;refine XE.next ?_;refine BG rfl rfl ?_;refine XC.ret ?_;refine ll ?_;refine ra ?_;refine ra ?_;refine ll ?_;refine MO rfl fun w' dP=>⟨⟨_,rfl⟩,.inr ⟨pre++[x],?_,?_⟩⟩
     ·exact⟨bU,by rw[<-hx];simp⟩
     ·rcases dP with⟨h,_⟩ | ⟨_,h⟩
      ·simp at h
      ·exact h
 ·refine XC.exit ?_;refine pj ?_;refine pj ?_;refine wI ?_;refine cS rfl fun w' dP=>⟨⟨_,rfl⟩,.inl ⟨pre,?_,dP.1⟩⟩;match bU,hq with
  | [],_=>rw[<-hx];simp
  | x::bU,hq=>
   have KS:¬q>=0:=hq0;exact absurd hq.2.1 KS
end Go.X.Gr

namespace Go.X.Gr
open Go Go.Proofs Go.X
set_option maxRecDepth 20000
set_option maxHeartbeats 4000000
def Hj:c9 Tryz.prog 184=true:=kq
def o4:fb Tryz.prog 3=some 1:=kq
def Yh(p o:Nat)(s:TG)(n:Int):Spec Tryz.prog 113 [aA p o 0,iI n] [.cells p o 60 (cb s)] (fun v H1=>((s.cI n=0/\0<=n/\n<10/\s.aa n=true)/\v= .nilIface/\H1=[.cells p o 60 (cb s)])\/(s.cI n≠0/\v= .iface 102 (iI (s.cI n))/\H1=[.cells p o 60 (cb s)])):=by
 refine Spec.go 20 [0,1,4,10,18] [] Tryz.func113 fun W=> ?_;refine sp 7 rfl ?_ ?_<;>intro h1
 ·refine bS .h1 ?_;try dsimp only[aK,aJ,aG,aR]
  have e:s.cI n=1:=by unfold TG.cI;rw[if_pos og]
  simp_all
 ·refine cd rfl ?_ ?_<;>intro h2
  ·refine bS .h1 ?_;try dsimp only[aK,aJ,aG,aR]
   have e:s.cI n=1:=by unfold TG.cI;rw[if_pos og]
   simp_all
  ·refine sd (ld .aa (A5 _ _ og) ?_);refine yW ?_ ?_<;>intro h3
   ·try simp only[sb]at h3
    refine bS .h1 ?_;try dsimp only[aK,aJ,aG,aR]
    have e:s.cI n=2:=by unfold TG.cI;rw[if_neg og,if_neg (by simp_all)]
    simp_all
   ·try simp only[sb]at h3
    refine bS .h1 ?_;try dsimp only[aK,aJ,aG,aR]
    have e:s.cI n=0:=by unfold TG.cI;rw[if_neg og,if_pos (by simp_all)]
    simp_all
def Dj(q m:Int):Spec Tryz.prog 114 [iI q,iI m] [] (fun v H1=>((0<=q/\q<=20/\0<=m/\m<=64)/\v= .nilIface/\H1=[])\/(TG.V6 q m=1/\v= .iface 102 (iI 1)/\H1=[])):=by
 refine Spec.go 20 [0,1,4,18] [] Tryz.func114 fun W=> ?_;refine sp 7 rfl ?_ ?_<;>intro h1
 ·refine bS .nil ?_;first
  | exact .inr ⟨by unfold TG.V6;rw[if_pos og],rfl,rfl⟩
  | exact .inl ⟨og,rfl,rfl⟩
 ·refine sp 11 rfl ?_ ?_<;>intro h2
  ·refine bS .nil ?_;first
   | exact .inr ⟨by unfold TG.V6;rw[if_pos og],rfl,rfl⟩
   | exact .inl ⟨og,rfl,rfl⟩
  ·refine sp 15 rfl ?_ ?_<;>intro h3
   ·refine bS .nil ?_;first
    | exact .inr ⟨by unfold TG.V6;rw[if_pos og],rfl,rfl⟩
    | exact .inl ⟨og,rfl,rfl⟩
   ·refine cd rfl ?_ ?_<;>intro h4
    ·refine bS .nil ?_;first
     | exact .inr ⟨by unfold TG.V6;rw[if_pos og],rfl,rfl⟩
     | exact .inl ⟨og,rfl,rfl⟩
    ·refine bS .nil ?_;grind [aK,aJ,aR]
def Ux(g:GV)(q m:Int)(h0: -9223372036854775808<=g.pr+q/\g.pr+q<=9223372036854775807)(h1: -9223372036854775808<=g.pg+m/\g.pg+m<=9223372036854775807):Spec Tryz.prog 116 [.agg g.cQ,iI q,iI m] [] (fun v H1=>v= .bool (g.room q m)/\H1=[]):=by
 refine Spec.go 41 [1,2,3,6] [] Tryz.func116 fun W=> ?_;refine XO.box (m:=5) (C:=Et g) rfl rfl (Te g) rfl ?_;intro bg;refine gO ?_;refine sp 9 rfl ?_ ?_<;>intro h1
 ·refine sp 26 rfl ?_ ?_<;>intro h2
  ·refine bS .nil ?_;grind [aK,aJ,aR,GV.room]
  ·refine ld .aa (fV _) ?_;refine sp 31 rfl ?_ ?_<;>intro h3
   ·refine bS .nil ?_;grind [aK,aJ,aR,GV.room]
   ·refine ld .aa (pW _) ?_;refine sd ?_;refine ld .aa (fV _) ?_;refine bS .nil ?_;grind [aK,aJ,GV.room]
 ·refine ld .aa (qH _) ?_;refine sp 14 rfl ?_ ?_<;>intro h4
  ·refine sp 26 rfl ?_ ?_<;>intro h5
   ·refine bS .nil ?_;grind [aK,aJ,aR,GV.room]
   ·refine ld .aa (fV _) ?_;refine sp 31 rfl ?_ ?_<;>intro h6
    ·refine bS .nil ?_;grind [aK,aJ,aR,GV.room]
    ·refine ld .aa (pW _) ?_;refine sd ?_;refine ld .aa (fV _) ?_;refine bS .nil ?_;grind [aK,aJ,GV.room]
  ·refine ld .aa (Eu _) ?_;refine sd ?_;refine ld .aa (qH _) ?_;refine sp 23 rfl ?_ ?_<;>intro h7
   ·refine sp 26 rfl ?_ ?_<;>intro h8
    ·refine bS .nil ?_;grind [aK,aJ,aR,GV.room]
    ·refine ld .aa (fV _) ?_;refine sp 31 rfl ?_ ?_<;>intro h9
     ·refine bS .nil ?_;grind [aK,aJ,aR,GV.room]
     ·refine ld .aa (pW _) ?_;refine sd ?_;refine ld .aa (fV _) ?_;refine bS .nil ?_;grind [aK,aJ,GV.room]
   ·refine bS .nil ?_;grind [aK,aJ,aR,GV.room]
def Hk(p o:Nat)(n:Int):Spec Tryz.prog 115 [aA p o 0,iI n] [] (fun v H1=>∃ b1 b2,v= .func (.func 184) #[] #[aA b1 0 0,aA b2 0 0]/\H1=[.cells b1 0 1 (aF (iI n)),.cells b2 0 1 (aF (aA p o 0))]):=by
 refine Spec.go 6 [2,3,4] [] Tryz.func115 fun W=> ?_;refine XO.box (m:=1) (C:=aF (aA p o 0)) rfl rfl (fun _ _=>rfl) rfl ?_;intro b2;refine gO ?_;refine XO.box (m:=1) (C:=aF (iI n)) rfl rfl (fun _ _=>rfl) rfl ?_;intro b1;refine gO ?_;refine XO.v (pq rfl rfl) rfl ?_;refine gO ?_;refine bS (pz 2) ?_;grind [aK,aJ]
def Uy:ny Tryz.prog 66=true:=kq
def Uz:c9 Tryz.prog 116=true:=kq
def NW:eK Tryz.prog 66 3=some 3:=kq
def NX:eK Tryz.prog 66 4=some 4:=kq
def NY:jD Tryz.prog 33=true:=kq
def J5:jD Tryz.prog 4=true:=kq
def Yi:fb Tryz.prog 33=some 1:=kq
def Mi:fb Tryz.prog 4=some 1:=kq
def Hl:fb Tryz.prog 66=some 5:=kq
def ZU(p o:Nat)(s:TG)(hO:s.Ok)(n:Int)(hn:0<=n/\n<10/\s.aa n=true)(q m:Int)(hq: -20<=q/\q<=20)(hm: -64<=m/\m<=64)(Bd:Int)(hB:0<=Bd/\Bd<=1000000000000)(hS:s.bR Bd):Spec Tryz.prog 117 [aA p o 0,iI n,iI q,iI m] [.cells p o 60 (cb s)] (fun v H1=>v= .tuple #[]/\H1=[.cells p o 60 (cb (s.lay (s.cF n) q m))]):=by
 have lE:=hO.cF hn.1 hn.2.1 hn.2.2;obtain⟨xs,M6⟩:=tv _ lE.1.range;have UA:xs.length<=4:=by
  grind [ng]
 refine wT 39 [1,4,6,7,11] [] Tryz.func117 rfl rfl rfl ?_;intro W;refine XO.box (m:=1) (C:=aF (aA p o 0)) rfl rfl (fun _ _=>rfl) rfl ?_;intro bT;refine gO ?_;refine XO.box (m:=1) (C:=aF (iI q)) rfl rfl (fun _ _=>rfl) rfl ?_;intro bq;refine gO ?_;refine XO.box (m:=1) (C:=aF (iI m)) rfl rfl (fun _ _=>rfl) rfl ?_;intro bm;refine gO ?_;refine ld (.t2 .aa) (aF.ld _) ?_;refine ca (Hk _ _ _) .nil ?_;rintro _ _ ⟨b1,b2,rfl,rfl⟩;refine gO ?_;refine uo (xs:=xs) (fun x:Re=>iI x.1) (fun pre=>pre.length<=xs.length) (fun _=>False) (fun pre=>[.cells b1 0 1 (aF (iI n)),.cells b2 0 1 (aF (aA p o 0)),.cells p o 60 (cb (s.lay (ng pre) q m)),.cells bT 0 1 (aF (aA p o 0)),.cells bq 0 1 (aF (iI q)),.cells bm 0 1 (aF (iI m))]) (fun pre=>[.cells b1 0 1 (aF (iI n)),.cells b2 0 1 (aF (aA p o 0)),.cells p o 60 (cb (s.lay (ng pre) q m)),.cells bT 0 1 (aF (aA p o 0)),.cells bq 0 1 (aF (iI q)),.cells bm 0 1 (aF (iI m))]) rfl (pt Hj) rfl rfl (fun w hw=>yf p o b1 b2 n s.ax xs (by rw[M6];exact lE.1) w (nq (by rfl) hw.eY .aa (.ao .aa) (.t5 .aa))) ?_ (fun _ hw=>by rw[show s.lay (ng []) q m=s from TG.Xi s q m];exact XM.pick (pk [0,0,3,2,1,0]) hw) (fun _=>rfl) (fun _=>rfl) ?_ ?_ ?_
 ·simp_all
 ·intro pre x w hV hlen hx;have ZV:=hS.lay (l:=ng pre) (by simp[ng];omega) hq hm x.1 x.2.1 x.2.2;obtain⟨x1,x2⟩:=x.2;refine XB.block (XB.seq (XB.gR mixed (f:=14) (l:= #[qF,qF,qF,qF,qF,qF,qF,qF,qF,qF,qF,qF,qF,qF]) rfl rfl XM.kD (XQ.load (i:=0) (.cells _ _ _ _) [13] rfl kq rfl (.t3 .aa) (V.load rfl ek (aF.ld _) FR) rfl kq rfl (XQ.pv (i:=1) rfl kq rfl (V.move rfl) rfl rfl (XQ.pv (i:=2) rfl kq rfl (bD rfl) rfl rfl (XQ.pv (i:=3) rfl kq rfl (V.fieldAddr rfl o5) rfl rfl (XQ.pv (i:=4) rfl kq rfl (ja rfl rfl Di og) rfl rfl (XQ.pv (i:=5) rfl kq rfl (V.fieldAddr rfl NW) rfl rfl (XQ.load (i:=6) (.cells _ _ _ _) [13] rfl kq rfl (.t2 .aa) (V.load rfl ek (gk _ _) lF) rfl kq rfl (XQ.load (i:=7) (.cells _ _ _ _) [13] rfl kq rfl (.t4 .aa) (V.load rfl ek (aF.ld _) lF) rfl kq rfl (XQ.pv (i:=8) rfl kq rfl (V.add rfl rfl _ (IntWalk.i64_in _ og)) rfl rfl (XQ.pv (i:=9) rfl kq rfl (bD rfl) rfl rfl (XQ.pv (i:=10) rfl kq rfl (V.fieldAddr rfl o5) rfl rfl (XQ.pv (i:=11) rfl kq rfl (ja rfl rfl Di og) rfl rfl (XQ.pv (i:=12) rfl kq rfl (V.fieldAddr rfl NW) rfl rfl (XQ.store (i:=13) rfl kq rfl rfl rfl (.t2 .aa) (vX _ _ og _) rfl o4 (fun _ dP=>⟨fun hs=>(hs 13 (by first | (simp;done) | (simp;rfl)) rfl).elim,fun hs=>(hs 13 (by first | (simp;done) | (simp;rfl)) rfl).elim,fun hs=>(hs 13 (by first | (simp;done) | (simp;rfl)) rfl).elim,trivial⟩) (XQ.done kq (oH (XB.eG [(4,_),(7,_),(8,_)] S3 (XB.gR mixed (f:=14) (l:= #[qF,qF,qF,qF,qF,qF,qF,qF,qF,qF,qF,qF,qF,qF]) rfl rfl XM.kD (XQ.load (i:=0) (.cells _ _ _ _) [13] rfl kq rfl (.t3 .aa) (V.load rfl ek (aF.ld _) FR) rfl kq rfl (XQ.pv (i:=1) rfl kq rfl (V.move rfl) rfl rfl (XQ.pv (i:=2) rfl kq rfl (bD rfl) rfl rfl (XQ.pv (i:=3) rfl kq rfl (V.fieldAddr rfl o5) rfl rfl (XQ.pv (i:=4) rfl kq rfl (ja rfl rfl Di og) rfl rfl (XQ.pv (i:=5) rfl kq rfl (V.fieldAddr rfl NX) rfl rfl (XQ.load (i:=6) (.cells _ _ _ _) [13] rfl kq rfl (.t2 .aa) (V.load rfl ek (gm _ _) lF) rfl kq rfl (XQ.load (i:=7) (.cells _ _ _ _) [13] rfl kq rfl (.t5 .aa) (V.load rfl ek (aF.ld _) lF) rfl kq rfl (XQ.pv (i:=8) rfl kq rfl (V.add rfl rfl _ (IntWalk.i64_in _ (by have:=ZV.2.2;show _<=(s.lay (ng pre) q m).pg x.1+m/\(s.lay (ng pre) q m).pg x.1+m<=_;omega))) rfl rfl (XQ.pv (i:=9) rfl kq rfl (bD rfl) rfl rfl (XQ.pv (i:=10) rfl kq rfl (V.fieldAddr rfl o5) rfl rfl (XQ.pv (i:=11) rfl kq rfl (ja rfl rfl Di og) rfl rfl (XQ.pv (i:=12) rfl kq rfl (V.fieldAddr rfl NX) rfl rfl (XQ.store (i:=13) rfl kq rfl rfl rfl (.t2 .aa) (vY _ _ og _) rfl o4 (fun _ dP=>⟨fun hs=>(hs 13 (by first | (simp;done) | (simp;rfl)) rfl).elim,fun hs=>(hs 13 (by first | (simp;done) | (simp;rfl)) rfl).elim,fun hs=>(hs 13 (by first | (simp;done) | (simp;rfl)) rfl).elim,trivial⟩) (XQ.done kq (iH (Bi hx ?_ rfl (fun w2 hg=>nq (by rfl) hg .aa (.ao .aa) (.t2 .aa)) fun w2 ml=> ?_)))))))))))))))))))))))))))))))))))))
  ·grind
  ·have:=XM.pick (pz 6) ml;rw[Ff,TG.Td];omega
 ·intro hV D hD;refine gE (oI (.inl rfl) .aa rfl hD (cS rfl (ai (pk [2]) rfl ?_)));simp_all
 ·intro pre hp hV D hD;exact hV.elim
def Yj(p o:Nat)(s:TG)(hO:s.Ok)(n q:Int):Spec Tryz.prog 244 [aA p o 0,iI n,iI q] [.cells p o 60 (cb s)] (fun v H1=>v= .bool (s.under n q)/\H1=[.cells p o 60 (cb s)]):=by
 refine wT 19 [0,1,5,6,11,14] [] Tryz.func244 rfl rfl rfl ?_;intro W;refine XO.box (m:=1) (C:=aF (iI q)) rfl rfl (fun _ _=>rfl) rfl ?_;intro bq;refine gO ?_;refine XO.bJ (z:=.bool false) (m:=1) (C:=aF (.bool false)) (fun _ _=>rfl) ?_;intro br;refine gO ?_;refine ca (Yh _ _ _ _) (pk [2]) ?_;rintro _ _ (⟨h1,rfl,rfl⟩ | ⟨h1,rfl,rfl⟩)
 ·obtain⟨i0,i1,i2,i3⟩:=h1;have lE:=hO.cF i1 i2 i3;obtain⟨xs,M6⟩:=tv _ lE.1.range;have UA:xs.length<=4:=by
   grind [ng]
  refine gO ?_;refine ca (Hk _ _ _) .nil ?_;rintro _ _ ⟨b1,b2,rfl,rfl⟩;refine gO ?_;refine uo (xs:=xs) (fun x:Re=>iI x.1) (fun pre=>∀ x∈pre,¬x.1=q) (fun pre=>∃ x∈pre,x.1=q) (fun pre=>[.cells b1 0 1 (aF (iI n)),.cells b2 0 1 (aF (aA p o 0)),.cells p o 60 (cb s),.cells bq 0 1 (aF (iI q)),.cells br 0 1 (aF (.bool false))]) (fun pre=>[.cells b1 0 1 (aF (iI n)),.cells b2 0 1 (aF (aA p o 0)),.cells p o 60 (cb s),.cells bq 0 1 (aF (iI q)),.cells br 0 1 (aF (.bool true))]) rfl (pt Hj) rfl rfl (fun w hw=>yf p o b1 b2 n s.ax xs (by rw[M6];exact lE.1) w (nq (by rfl) hw.eY .aa (.ao .aa) (.t2 .aa))) ?_ (xq (pk [0,0,0,1,0])) (fun _=>rfl) (fun _=>rfl) ?_ ?_ ?_
  ·simp_all
  ·intro pre x w hV hlen hx;refine XB.block ?_;refine XB.seq ?_;refine XB.region ?_;refine XO.v (V.move rfl) rfl ?_;refine XO.l (V.load rfl (fc (.t3 .aa)) (aF.ld _) lF) rfl ?_;refine XO.v (Ru rfl rfl rfl) rfl ?_;refine XO.nil ?_;refine oH ?_;refine XB.eG [(6,_),(18,_)] S2 ?_;refine XB.MN rfl (fun h2=> ?_) fun h2=> ?_
   ·refine XB.seq ?_;refine XB.region ?_;refine XO.store rfl rfl (.t4 .aa) (aF.st _ _) rfl Mi ?_;refine XO.nil ?_;refine oH ?_;refine XB.eG [(6,_)] S1 ?_;refine XB.ret ?_;refine ll ?_;refine XE.fi hx ?_ rfl fun w2 ml=> ?_;all_goals simp_all
   ·refine XB.skip ?_;refine iH ?_;refine Bi hx ?_ rfl (fun w2 hg=>nq (by rfl) hg .aa (.ao .aa) (.t2 .aa)) fun w2 ml=> ?_;all_goals grind
  ·intro hV D hD;have hr:s.under n q=false:=by
    unfold TG.under;grind [ng]
   refine gE ?_;refine st (.t5 .aa) (aF.st _ _) rfl ?_;refine oI (.inr rfl) .aa rfl hD ?_;refine jt rfl (.cell rfl (.t4 .aa) (aF.ld _) J5) (ai (pk [2]) rfl ?_);grind [aJ,aR]
  ·intro pre hp hV D hD;have hr:s.under n q=true:=by
    unfold TG.under;grind [ng]
   refine gE ?_;refine oI (.inr rfl) .aa rfl hD ?_;refine jt rfl (.cell rfl (.t4 .aa) (aF.ld _) J5) (ai (pk [2]) rfl ?_);simp_all
 ·have i0:=h1;refine gO ?_;refine st (.ao .aa) (aF.st _ _) rfl ?_;refine qn (.inr rfl) ?_;refine jt rfl (.cell rfl (.ao .aa) (aF.ld _) J5) (ai .h1 rfl ?_);try dsimp only[aK,aJ,aG,aR]
  exact⟨by unfold TG.under;rw[if_pos og],rfl⟩
def yg(p o:Nat)(s:TG)(hO:s.Ok)(n q m:Int)(Bd:Int)(hB:0<=Bd/\Bd<=1000000000000)(hS:s.bR Bd):Spec Tryz.prog 51 [aA p o 0,iI n,iI q,iI m] [.cells p o 60 (cb s)] (fun v H1=>v=az 102 (s.cY n q m)/\H1=[.cells p o 60 (cb (s.cr n q m))]):=by
  refine wT 42 [1,4,6,7,8,9,15,20,24] [] Tryz.func51 rfl rfl rfl ?_
  intro W
  refine XO.box (m:=1) (C:=aF (aA p o 0)) rfl rfl (fun _ _=>rfl) rfl ?_
  intro bT
  refine gO ?_
  refine XO.box (m:=1) (C:=aF (iI q)) rfl rfl (fun _ _=>rfl) rfl ?_
  intro bq
  refine gO ?_
  refine XO.box (m:=1) (C:=aF (iI m)) rfl rfl (fun _ _=>rfl) rfl ?_
  intro bm
  refine gO ?_
  refine XO.bJ (z:=.nilIface) (m:=1) (C:=aF (.nilIface)) (fun _ _=>rfl) ?_
  intro be
  refine gO ?_
  refine ld (.t3 .aa) (aF.ld _) ?_
  refine ca (Yh _ _ _ _) (pk [4]) ?_
  rintro _ _ (⟨h1,rfl,rfl⟩ | ⟨h1,rfl,rfl⟩)
  · skip
    obtain⟨i0,i1,i2,i3⟩:=h1
    refine gO ?_
    refine ld (.t3 .aa) (aF.ld _) ?_
    refine ld (.t2 .aa) (aF.ld _) ?_
    refine ca (Dj _ _) .nil ?_
    rintro _ _ (⟨h2,rfl,rfl⟩ | ⟨h2,rfl,rfl⟩)
    · skip
      have j0:=h2
      have lE:=hO.cF i1 i2 i3
      obtain⟨xs,M6⟩:=tv _ lE.1.range
      have UA:xs.length<=4:=by
        grind [ng]
      refine gO ?_
      refine ld (.t4 .aa) (aF.ld _) ?_
      refine ca (Hk _ _ _) .nil ?_
      rintro _ _ ⟨b1,b2,rfl,rfl⟩
      refine gO ?_
      refine uo (xs:=xs) (fun x:Re=>iI x.1) (fun pre=>∀ x∈pre,s.room q m x.1=true) (fun pre=>∃ x∈pre,s.room q m x.1=false) (fun pre=>[.cells b1 0 1 (aF (iI n)),.cells b2 0 1 (aF (aA p o 0)),.cells p o 60 (cb s),.cells bT 0 1 (aF (aA p o 0)),.cells bq 0 1 (aF (iI q)),.cells bm 0 1 (aF (iI m)),.cells be 0 1 (aF (.nilIface))]) (fun pre=>[.cells b1 0 1 (aF (iI n)),.cells b2 0 1 (aF (aA p o 0)),.cells p o 60 (cb s),.cells bT 0 1 (aF (aA p o 0)),.cells bq 0 1 (aF (iI q)),.cells bm 0 1 (aF (iI m)),.cells be 0 1 (aF (.iface 102 (iI 6)))]) rfl (pt Hj) rfl rfl (fun w hw=>yf p o b1 b2 n s.ax xs (by rw[M6];exact lE.1) w (nq (by rfl) hw.eY .aa (.ao .aa) (.t2 .aa))) ?_ (xq (pk [0,0,0,3,2,1,0])) (fun _=>rfl) (fun _=>rfl) ?_ ?_ ?_
      · simp_all
      · intro pre x w hV hlen hx
        have ZV:=hS x.1 x.2.1 x.2.2
        obtain⟨x1,x2⟩:=x.2
        have hr0: -9223372036854775808<=(s.gv x.1).pr+q/\(s.gv x.1).pr+q<=9223372036854775807:=by show _<=s.pr x.1+q/\s.pr x.1+q<=_;omega
        have Hm: -9223372036854775808<=(s.gv x.1).pg+m/\(s.gv x.1).pg+m<=9223372036854775807:=by show _<=s.pg x.1+m/\s.pg x.1+m<=_;omega
        refine XB.block ?_
        refine XB.seq ?_
        refine XB.gR mixed (f:=10) (l:= #[qF,qF,qF,qF,qF,qF,qF,qF,qF,qF]) rfl rfl XM.kD ?_
        refine XQ.load (i:=0) (.cells _ _ _ _) [8] rfl kq rfl (.t3 .aa) (V.load rfl ek (aF.ld _) FR) rfl kq rfl ?_
        refine XQ.pv (i:=1) rfl kq rfl (V.move rfl) rfl rfl ?_
        refine XQ.pv (i:=2) rfl kq rfl (bD rfl) rfl rfl ?_
        refine XQ.pv (i:=3) rfl kq rfl (V.fieldAddr rfl o5) rfl rfl ?_
        refine XQ.pv (i:=4) rfl kq rfl (ja rfl rfl Di og) rfl rfl ?_
        refine XQ.load (i:=5) (.cells _ _ _ _) [8] rfl kq rfl (.t2 .aa) (eB rfl ek (I7 _ _) Uy Hl) rfl kq rfl ?_
        refine XQ.load (i:=6) (.cells _ _ _ _) [8] rfl kq rfl (.t4 .aa) (V.load rfl ek (aF.ld _) lF) rfl kq rfl ?_
        refine XQ.load (i:=7) (.cells _ _ _ _) [8] rfl kq rfl (.t5 .aa) (V.load rfl ek (aF.ld _) lF) rfl kq rfl ?_
        refine XQ.call (i:=8) rfl kq rfl rfl (Ux _ _ _ aq aq) .nil Uz rfl (by rintro _ _ ⟨rfl,rfl⟩;all_goals(intro _ dP;refine⟨?_,?_,?_,?_,trivial⟩<;>exact fun hs=>(hs 8 (by first | (simp;done) | (simp;rfl)) rfl).elim)) ?_
        rintro _ _ ⟨rfl,rfl⟩
        refine XQ.pv (i:=9) rfl kq rfl (V.not rfl) rfl rfl ?_
        refine XQ.done kq ?_
        refine oH ?_
        refine XB.eG [(8,_),(35,_)] S2 ?_
        refine XB.cond rfl (fun h3=> ?_) fun h3=> ?_
        · try simp only[sb]at h3
          have hX:=h3
          refine XB.seq ?_
          refine XB.region ?_
          refine XO.v (Ag rfl Tryz.underlying102 sq) rfl ?_
          refine XO.store rfl rfl (.t6 .aa) (aF.st _ _) rfl Yi ?_
          refine XO.nil ?_
          refine oH ?_
          refine XB.eG [(8,_)] S1 ?_
          refine XB.ret ?_
          refine ll ?_
          refine XE.fi hx ?_ rfl fun w2 ml=> ?_
          · skip
            exact⟨x,sq,by simpa [TG.room]using hX⟩
          omega
        · try simp only[sb]at h3
          have hX:=h3
          refine XB.skip ?_
          refine iH ?_
          refine Bi hx ?_ rfl (fun w2 hg=>nq (by rfl) hg .aa (.ao .aa) (.t2 .aa)) fun w2 ml=> ?_
          · skip
            intro y hy
            rcases List.mem_append.1 hy with hy | hy
            · grind
            · simp at hy;subst hy;simpa [TG.room]using hX
          simp_all
      · intro hV D hD
        have hc:s.nw n q m=0:=by unfold TG.nw;rw[if_neg og];exact(TG.Cm _ _).2 j0
        have hr:s.cY n q m=0:=by
          unfold TG.cY
          grind [ng]
        have uZ:s.cr n q m=s.lay (s.cF n) q m:=by unfold TG.cr;rw[if_pos hr]
        refine gE ?_
        refine ld (.t4 .aa) (aF.ld _) ?_
        refine ld (.t5 .aa) (aF.ld _) ?_
        refine ld (.t6 .aa) (aF.ld _) ?_
        refine cq (ZU _ _ s hO _ (by first | assumption | exact⟨og,og,aq⟩) _ _ og og Bd hB hS) (pk [3]) ?_
        refine st (.t7 .aa) (aF.st _ _) rfl ?_
        refine oI (.inr rfl) (.ao .aa) rfl hD ?_
        refine jt rfl (.cell rfl (.t6 .aa) (aF.ld _) NY) (ai .h1 rfl ?_)
        grind [aJ,aR,az]
      · intro pre hp hV D hD
        have hc:s.nw n q m=0:=by unfold TG.nw;rw[if_neg og];exact(TG.Cm _ _).2 j0
        have hr:s.cY n q m=6:=by
          unfold TG.cY
          grind [ng]
        have uZ:s.cr n q m=s:=by unfold TG.cr;rw[if_neg og]
        refine gE ?_
        refine oI (.inr rfl) .aa rfl hD ?_
        refine jt rfl (.cell rfl (.t6 .aa) (aF.ld _) NY) (ai (pk [2]) rfl ?_)
        grind [az]
    · skip
      have j1:=h2
      refine gO ?_
      refine st (.ao .aa) (aF.st _ _) rfl ?_
      refine qn (.inr rfl) ?_
      refine jt rfl (.cell rfl (.ao .aa) (aF.ld _) NY) (ai .h1 rfl ?_)
      try dsimp only[aK,aJ,aG,aR]
      first
      | (have hc:s.nw n q m=s.cI n:=by unfold TG.nw;rw[if_pos aq]
         have hr:s.cY n q m=s.cI n:=by unfold TG.cY;rw[if_pos og,hc]
         exact⟨by rw[hr,aV _ aq],by unfold TG.cr;rw[if_neg og]⟩)
      | (have hc:s.nw n q m=1:=by unfold TG.nw;rw[if_neg og];exact j1
         have hr:s.cY n q m=1:=by unfold TG.cY;rw[if_pos og,hc]
         exact⟨by rw[hr];rfl,by unfold TG.cr;rw[if_neg og]⟩)
  · skip
    have i0:=h1
    refine gO ?_
    refine st (.ao .aa) (aF.st _ _) rfl ?_
    refine qn (.inr rfl) ?_
    refine jt rfl (.cell rfl (.ao .aa) (aF.ld _) NY) (ai .h1 rfl ?_)
    try dsimp only[aK,aJ,aG,aR]
    first
    | (have hc:s.nw n q m=s.cI n:=by unfold TG.nw;rw[if_pos aq]
       have hr:s.cY n q m=s.cI n:=by unfold TG.cY;rw[if_pos og,hc]
       exact⟨by rw[hr,aV _ aq],by unfold TG.cr;rw[if_neg og]⟩)
    | (have hc:s.nw n q m=1:=by unfold TG.nw;rw[if_neg og];exact j1
       have hr:s.cY n q m=1:=by unfold TG.cY;rw[if_pos og,hc]
       exact⟨by rw[hr];rfl,by unfold TG.cr;rw[if_neg og]⟩)
def Yk(p o:Nat)(s:TG)(hO:s.Ok)(n q m:Int)(Bd:Int)(hB:0<=Bd/\Bd<=1000000000000)(hS:s.bR Bd):Spec Tryz.prog 228 [aA p o 0,iI n,iI q,iI m] [.cells p o 60 (cb s)] (fun v H1=>v= .tuple #[iI ((s.gj n q m).getD 0),.bool (s.gj n q m).isSome]/\H1=[.cells p o 60 (cb s)]):=by
  refine wT 36 [1,4,6,7,8,9,20,23] [] Tryz.func228 rfl rfl rfl ?_
  intro W
  refine XO.box (m:=1) (C:=aF (aA p o 0)) rfl rfl (fun _ _=>rfl) rfl ?_
  intro bT
  refine gO ?_
  refine XO.box (m:=1) (C:=aF (iI q)) rfl rfl (fun _ _=>rfl) rfl ?_
  intro bq
  refine gO ?_
  refine XO.box (m:=1) (C:=aF (iI m)) rfl rfl (fun _ _=>rfl) rfl ?_
  intro bm
  refine gO ?_
  refine XO.bJ (z:=iI 0) (m:=1) (C:=aF (iI 0)) (fun _ _=>rfl) ?_
  intro br
  refine gO ?_
  refine XO.bJ (z:=.bool false) (m:=1) (C:=aF (.bool false)) (fun _ _=>rfl) ?_
  intro bo
  refine gO ?_
  refine ld (.t4 .aa) (aF.ld _) ?_
  refine ca (Yh _ _ _ _) (pk [5]) ?_
  rintro _ _ (⟨h1,rfl,rfl⟩ | ⟨h1,rfl,rfl⟩)
  · skip
    obtain⟨i0,i1,i2,i3⟩:=h1
    refine gO ?_
    refine ld (.t4 .aa) (aF.ld _) ?_
    refine ld (.t3 .aa) (aF.ld _) ?_
    refine ca (Dj _ _) .nil ?_
    rintro _ _ (⟨h2,rfl,rfl⟩ | ⟨h2,rfl,rfl⟩)
    · skip
      have j0:=h2
      have lE:=hO.cF i1 i2 i3
      obtain⟨xs,M6⟩:=tv _ lE.1.range
      have UA:xs.length<=4:=by
        grind [ng]
      refine gO ?_
      refine ld (.t5 .aa) (aF.ld _) ?_
      refine ca (Hk _ _ _) .nil ?_
      rintro _ _ ⟨b1,b2,rfl,rfl⟩
      refine gO ?_
      refine uo (xs:=xs) (fun x:Re=>iI x.1) (fun pre=>∀ x∈pre,s.room q m x.1=true) (fun pre=>∃ l x,pre=l++[x]/\(∀ y∈l,s.room q m y.1=true)/\s.room q m x.1=false) (fun pre=>[.cells b1 0 1 (aF (iI n)),.cells b2 0 1 (aF (aA p o 0)),.cells p o 60 (cb s),.cells bT 0 1 (aF (aA p o 0)),.cells bq 0 1 (aF (iI q)),.cells bm 0 1 (aF (iI m)),.cells br 0 1 (aF (iI 0)),.cells bo 0 1 (aF (.bool false))]) (fun pre=>[.cells b1 0 1 (aF (iI n)),.cells b2 0 1 (aF (aA p o 0)),.cells p o 60 (cb s),.cells bT 0 1 (aF (aA p o 0)),.cells bq 0 1 (aF (iI q)),.cells bm 0 1 (aF (iI m)),.cells br 0 1 (aF (iI ((ng pre).getLast?.getD 0))),.cells bo 0 1 (aF (.bool true))]) rfl (pt Hj) rfl rfl (fun w hw=>yf p o b1 b2 n s.ax xs (by rw[M6];exact lE.1) w (nq (by rfl) hw.eY .aa (.ao .aa) (.t2 .aa))) ?_ (xq (pk [0,0,0,4,3,2,1,0])) (fun _=>rfl) (fun _=>rfl) ?_ ?_ ?_
      · simp_all
      · intro pre x w hV hlen hx
        have ZV:=hS x.1 x.2.1 x.2.2
        obtain⟨x1,x2⟩:=x.2
        have hr0: -9223372036854775808<=(s.gv x.1).pr+q/\(s.gv x.1).pr+q<=9223372036854775807:=by show _<=s.pr x.1+q/\s.pr x.1+q<=_;omega
        have Hm: -9223372036854775808<=(s.gv x.1).pg+m/\(s.gv x.1).pg+m<=9223372036854775807:=by show _<=s.pg x.1+m/\s.pg x.1+m<=_;omega
        refine XB.block ?_
        refine XB.seq ?_
        refine XB.gR mixed (f:=10) (l:= #[qF,qF,qF,qF,qF,qF,qF,qF,qF,qF]) rfl rfl XM.kD ?_
        refine XQ.load (i:=0) (.cells _ _ _ _) [8] rfl kq rfl (.t3 .aa) (V.load rfl ek (aF.ld _) FR) rfl kq rfl ?_
        refine XQ.pv (i:=1) rfl kq rfl (V.move rfl) rfl rfl ?_
        refine XQ.pv (i:=2) rfl kq rfl (bD rfl) rfl rfl ?_
        refine XQ.pv (i:=3) rfl kq rfl (V.fieldAddr rfl o5) rfl rfl ?_
        refine XQ.pv (i:=4) rfl kq rfl (ja rfl rfl Di og) rfl rfl ?_
        refine XQ.load (i:=5) (.cells _ _ _ _) [8] rfl kq rfl (.t2 .aa) (eB rfl ek (I7 _ _) Uy Hl) rfl kq rfl ?_
        refine XQ.load (i:=6) (.cells _ _ _ _) [8] rfl kq rfl (.t4 .aa) (V.load rfl ek (aF.ld _) lF) rfl kq rfl ?_
        refine XQ.load (i:=7) (.cells _ _ _ _) [8] rfl kq rfl (.t5 .aa) (V.load rfl ek (aF.ld _) lF) rfl kq rfl ?_
        refine XQ.call (i:=8) rfl kq rfl rfl (Ux _ _ _ aq aq) .nil Uz rfl (by rintro _ _ ⟨rfl,rfl⟩;all_goals(intro _ dP;refine⟨?_,?_,?_,?_,trivial⟩<;>exact fun hs=>(hs 8 (by first | (simp;done) | (simp;rfl)) rfl).elim)) ?_
        rintro _ _ ⟨rfl,rfl⟩
        refine XQ.pv (i:=9) rfl kq rfl (V.not rfl) rfl rfl ?_
        refine XQ.done kq ?_
        refine oH ?_
        refine XB.eG [(8,_),(9,_),(10,_),(34,_)] S4 ?_
        refine XB.cond rfl (fun h3=> ?_) fun h3=> ?_
        · try simp only[sb]at h3
          have hX:=h3
          refine XB.seq ?_
          refine XB.region ?_
          refine XO.v (V.move rfl) rfl ?_
          refine XO.store rfl rfl (.t6 .aa) (aF.st _ _) rfl o4 ?_
          refine XO.store rfl rfl (.t7 .aa) (aF.st _ _) rfl Mi ?_
          refine XO.nil ?_
          refine oH ?_
          refine XB.eG [(8,_),(9,_)] S2 ?_
          refine XB.ret ?_
          refine ll ?_
          refine XE.fi hx ?_ rfl fun w2 ml=> ?_
          · skip
            exact⟨pre,x,rfl,hV,by simpa [TG.room]using hX⟩
          grind [Ff]
        · try simp only[sb]at h3
          have hX:=h3
          refine XB.skip ?_
          refine iH ?_
          refine Bi hx ?_ rfl (fun w2 hg=>nq (by rfl) hg .aa (.ao .aa) (.t2 .aa)) fun w2 ml=> ?_
          · skip
            intro y hy
            rcases List.mem_append.1 hy with hy | hy
            · grind
            · simp at hy;subst hy;simpa [TG.room]using hX
          simp_all
      · intro hV D hD
        have hc:s.nw n q m=0:=by unfold TG.nw;rw[if_neg og];exact(TG.Cm _ _).2 j0
        have hr:s.gj n q m=none:=by
          unfold TG.gj
          grind [ng]
        refine gE ?_
        refine st (.t7 .aa) (aF.st _ _) rfl ?_
        refine st (.t8 .aa) (aF.st _ _) rfl ?_
        refine oI (.inr rfl) .aa rfl hD ?_
        refine dQ rfl (.cell rfl (.t6 .aa) (aF.ld _) lF) (.cell rfl (.t7 .aa) (aF.ld _) J5) (ai (pk [2]) rfl ?_)
        grind [aJ,aR]
      · intro pre hp hV D hD
        have hc:s.nw n q m=0:=by unfold TG.nw;rw[if_neg og];exact(TG.Cm _ _).2 j0
        have hr:s.gj n q m=some ((ng pre).getLast?.getD 0):=by
          unfold TG.gj
          grind [ng]
        refine gE ?_
        refine oI (.inr rfl) .aa rfl hD ?_
        refine dQ rfl (.cell rfl (.t6 .aa) (aF.ld _) lF) (.cell rfl (.t7 .aa) (aF.ld _) J5) (ai (pk [2]) rfl ?_)
        simp_all
    · skip
      have j1:=h2
      refine gO ?_
      refine st (.t2 .aa) (aF.st _ _) rfl ?_
      refine st (.ao .aa) (aF.st _ _) rfl ?_
      refine qn (.inr rfl) ?_
      refine dQ rfl (.cell rfl (.t2 .aa) (aF.ld _) lF) (.cell rfl (.ao .aa) (aF.ld _) J5) (ai .h1 rfl ?_)
      first
      | (have hc:s.nw n q m=s.cI n:=by unfold TG.nw;rw[if_pos aq]
         have hr:s.gj n q m=none:=by unfold TG.gj;rw[if_pos og]
         exact⟨by rw[hr];rfl,rfl⟩)
      | (have hc:s.nw n q m=1:=by unfold TG.nw;rw[if_neg og];exact j1
         have hr:s.gj n q m=none:=by unfold TG.gj;rw[if_pos og]
         exact⟨by rw[hr];rfl,rfl⟩)
  · skip
    have i0:=h1
    refine gO ?_
    refine st (.t2 .aa) (aF.st _ _) rfl ?_
    refine st (.ao .aa) (aF.st _ _) rfl ?_
    refine qn (.inr rfl) ?_
    refine dQ rfl (.cell rfl (.t2 .aa) (aF.ld _) lF) (.cell rfl (.ao .aa) (aF.ld _) J5) (ai .h1 rfl ?_)
    first
    | (have hc:s.nw n q m=s.cI n:=by unfold TG.nw;rw[if_pos aq]
       have hr:s.gj n q m=none:=by unfold TG.gj;rw[if_pos og]
       exact⟨by rw[hr];rfl,rfl⟩)
    | (have hc:s.nw n q m=1:=by unfold TG.nw;rw[if_neg og];exact j1
       have hr:s.gj n q m=none:=by unfold TG.gj;rw[if_pos og]
       exact⟨by rw[hr];rfl,rfl⟩)
def UB(p o:Nat)(s:TG)(n:Int)(hn:0<=n/\n<10)(q m:Int)(Bd:Int)(hB:0<=Bd/\Bd<=1000000000000)(hS:s.bR Bd):Spec Tryz.prog 122 [aA p o 0,iI n,iI q,iI m] [.cells p o 60 (cb s)] (fun v H1=>v= .bool (decide (q<=s.left s.pr n/\m<=s.left s.pg n))/\H1=[.cells p o 60 (cb s)]):=by
 refine Spec.go 74 [0,1,2,3,8,9,10,11,12,30,31,32,46] [] Tryz.func122 fun W=> ?_;refine rq [0,1,2,3,4,5,6,7,8,9,10,11,12,13,14,15] mixed ?_;refine sd ?_;refine ld .aa (gk _ _) ?_;refine sd ?_;refine ld .aa (gm _ _) ?_;refine lM .aa (Lw _) ?_;refine lp (σ:=Int) (fun k=>(10-k).toNat) (fun k=>0<=k/\k<=10) (fun k=>[(31,iI k),(9,iI (s.pr n-eZ (s.gx s.pr n) k.toNat)),(10,iI (s.pg n-eZ (s.gx s.pg n) k.toNat)),(0,aA p o 0),(1,iI n),(2,iI q),(3,iI m),(30,.agg (Wt s.aa 10))]) (fun k=>XM W (ck [.cells p o 60 (cb s)]) [.cells p o 60 (cb s)]) (0) ?_ (.cons rfl (.cons (by rw[show s.pr n-eZ (s.gx s.pr n) (0:Int).toNat=s.pr n from by simp[eZ]];rfl) (S6 (by rw[show s.pg n-eZ (s.gx s.pg n) (0:Int).toNat=s.pg n from by simp[eZ]];rfl) rfl rfl rfl rfl rfl))) (xq .h1) ?_
 ·omega
 intro k hk;have abY:=I5 s s.pr n hk.1;have abZ:=I5 s s.pg n hk.1;have hbd:=Ps hS hB hn (k:=k) hk.1;refine gC ?_;refine cd rfl ?_ ?_<;>intro h1
 ·have hSn:=hS n hn.1 hn.2;have hSk:=hS k hk.1 og;refine XO.v (K3 rfl rfl Tryz.underlying149 Mi J5 og (Wy og)) rfl (gO ?_);refine M9 36 rfl ?_ ?_<;>intro h2
  ·try simp only[sb]at h2
   refine sd ?_;refine ld .aa (iC _ _) ?_;refine cd rfl ?_ ?_<;>intro h3
   ·refine sd ?_;refine ld .aa (gk _ _) ?_;refine sd ?_;refine sd ?_;refine ld .aa (gm _ _) ?_;refine sd ?_;refine sd ?_;refine ag (k+1) ?_ ?_ (.cons rfl (.cons (by rw[abY];rw[show s.gx s.pr n k=s.pr k from by unfold TG.gx;rw[if_pos ⟨by simp_all,by simp_all⟩]];exact K1) (S6 (by rw[abZ];rw[show s.gx s.pg n k=s.pg k from by unfold TG.gx;rw[if_pos ⟨by simp_all,by simp_all⟩]];exact K1) rfl rfl rfl rfl rfl))) (xq .h1);all_goals omega
   ·refine sd ?_;refine ag (k+1) ?_ ?_ (.cons rfl (.cons (by rw[abY];rw[show s.gx s.pr n k=0 from by unfold TG.gx;rw[if_neg (by simp_all)]];exact K1) (S6 (by rw[abZ];rw[show s.gx s.pg n k=0 from by unfold TG.gx;rw[if_neg (by simp_all)]];exact K1) rfl rfl rfl rfl rfl))) (xq .h1);all_goals omega
  ·try simp only[sb]at h2
   refine sd ?_;refine ag (k+1) ?_ ?_ (.cons rfl (.cons (by rw[abY];rw[show s.gx s.pr n k=0 from by unfold TG.gx;rw[if_neg (by simp_all)]];exact K1) (S6 (by rw[abZ];rw[show s.gx s.pg n k=0 from by unfold TG.gx;rw[if_neg (by simp_all)]];exact K1) rfl rfl rfl rfl rfl))) (xq .h1);all_goals omega
 ·refine sp 69 rfl ?_ ?_<;>intro h4
  ·refine bS .h1 ?_;obtain rfl:k=10:=og;refine⟨congrArg Value.bool ?_,rfl⟩;unfold TG.left;simp_all
  ·refine bS .h1 ?_;obtain rfl:k=10:=og;refine⟨congrArg Value.bool ?_,rfl⟩;unfold TG.left;grind
def o6(p o:Nat)(s:TG)(hO:s.Ok)(n q m:Int)(Bd:Int)(hB:0<=Bd/\Bd<=1000000000000)(hS:s.bR Bd):Spec Tryz.prog 54 [aA p o 0,iI n,iI q,iI m] [.cells p o 60 (cb s)] (fun v H1=>v=az 102 (s.gi n q m)/\H1=[.cells p o 60 (cb (s.fU n q m))]):=by
  refine Spec.go 35 [0,1,2,3,8,9,14,19,26] [] Tryz.func54 fun W=> ?_
  refine ca (Yh _ _ _ _) .h1 ?_
  rintro _ _ (⟨h1,rfl,rfl⟩ | ⟨h1,rfl,rfl⟩)
  · skip
    obtain⟨i0,i1,i2,i3⟩:=h1
    refine gO ?_
    refine ca (Dj _ _) .nil ?_
    rintro _ _ (⟨h2,rfl,rfl⟩ | ⟨h2,rfl,rfl⟩)
    · skip
      have j0:=h2
      refine gO ?_
      refine cq (UB _ _ s _ ⟨og,og⟩ _ _ Bd hB hS) .h1 ?_
      refine cd rfl ?_ ?_<;>intro h3
      · skip
        refine bS .h1 ?_
        try dsimp only[aK,aJ,aG,aR]
        have hc:s.nw n q m=0:=by unfold TG.nw;rw[if_neg og];exact(TG.Cm _ _).2 j0
        have hr:s.gi n q m=8:=by unfold TG.gi;rw[if_neg og,if_neg (by simp_all)]
        exact⟨by rw[hr];rfl,by unfold TG.fU;rw[if_neg og]⟩
      · skip
        refine sd (sd ?_)
        refine cq (ZU _ _ s hO _ (by first | assumption | exact⟨og,og,aq⟩) _ _ og og Bd hB hS) .h1 ?_
        refine bS .h1 ?_
        try dsimp only[aK,aJ,aG,aR]
        have hc:s.nw n q m=0:=by unfold TG.nw;rw[if_neg og];exact(TG.Cm _ _).2 j0
        have hr:s.gi n q m=0:=by unfold TG.gi;rw[if_neg og,if_pos (by simp_all)]
        exact⟨by rw[hr];rfl,by unfold TG.fU;rw[if_pos hr];simp only[Int.zero_sub]⟩
    · skip
      have j1:=h2
      refine gO ?_
      refine bS .h1 ?_
      try dsimp only[aK,aJ,aG,aR]
      first
      | (have hc:s.nw n q m=s.cI n:=by unfold TG.nw;rw[if_pos aq]
         have hr:s.gi n q m=s.cI n:=by unfold TG.gi;rw[if_pos og,hc]
         exact⟨by rw[hr,aV _ aq],by unfold TG.fU;rw[if_neg og]⟩)
      | (have hc:s.nw n q m=1:=by unfold TG.nw;rw[if_neg og];exact j1
         have hr:s.gi n q m=1:=by unfold TG.gi;rw[if_pos og,hc]
         exact⟨by rw[hr];rfl,by unfold TG.fU;rw[if_neg og]⟩)
  · skip
    have i0:=h1
    refine gO ?_
    refine bS .h1 ?_
    try dsimp only[aK,aJ,aG,aR]
    first
    | (have hc:s.nw n q m=s.cI n:=by unfold TG.nw;rw[if_pos aq]
       have hr:s.gi n q m=s.cI n:=by unfold TG.gi;rw[if_pos og,hc]
       exact⟨by rw[hr,aV _ aq],by unfold TG.fU;rw[if_neg og]⟩)
    | (have hc:s.nw n q m=1:=by unfold TG.nw;rw[if_neg og];exact j1
       have hr:s.gi n q m=1:=by unfold TG.gi;rw[if_pos og,hc]
       exact⟨by rw[hr];rfl,by unfold TG.fU;rw[if_neg og]⟩)
def aeX:Spec Tryz.prog 95 [] [] (fun v H1=>∃ p,v=aA p 0 0/\H1=[.cells p 0 60 (cb TG.cK)]):=by
 refine Spec.go 14 [0,1] [] Tryz.func95 fun W=> ?_;refine XO.v (V.build (vs:= #[]) rfl (v:=.agg #[iI 0,iI 0,iI 0,iI 0,iI 0,iI 0,iI 0,iI 0,iI 0,iI 0,iI 0,iI 0,iI 0,iI 0,iI 0,iI 0,iI 0,iI 0,iI 0,iI 0,iI 0,iI 0,iI 0,iI 0,iI 0,iI 0,iI 0,iI 0,iI 0,iI 0,iI 0,iI 0,iI 0,iI 0,iI 0,iI 0,iI 0,iI 0,iI 0,iI 0,iI 0,iI 0,iI 0,iI 0,iI 0,iI 0,iI 0,iI 0,iI 0,iI 0,.bool false,.bool false,.bool false,.bool false,.bool false,.bool false,.bool false,.bool false,.bool false,.bool false]) fun _=>kq) rfl (gO ?_);refine XO.box (m:=60) (C:=cb TG.dc) rfl rfl aew rfl ?_;intro p;refine gO ?_;refine sd (st .aa (A6 _ _ og _) rfl (XO.v (V.build (vs:= #[(0,iI (-1)),(1,iI (-1)),(2,iI (-1))]) rfl (v:=.agg (GV.cQ ⟨-1,-1,-1,0,0⟩)) fun _=>kq) rfl (gO ?_)));refine sd (fW .aa (Pu _ _ og _) rfl ⟨rfl,rfl⟩ (bh rfl rfl (ai .h1 rfl ?_)));exact⟨_,rfl,rfl⟩
end Go.X.Gr
