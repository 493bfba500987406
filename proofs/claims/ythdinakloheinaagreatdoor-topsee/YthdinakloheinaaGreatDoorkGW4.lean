import Derived.Test.YthdinakloheinaaGreatDoorkSW
set_option linter.all false
namespace Go.X.Gr
open Go Go.RowKit Go.Proofs Go.X
def DA:vv Tryz.prog 67=some (10,5):=kq
def o9:eC Tryz.prog 151 0=some 0:=kq
def Yy:eC Tryz.prog 66 0=some 0:=kq
def kE:jw Tryz.prog 3=true:=kq
def DB:jw Tryz.prog 91=true:=kq
def qQ(p o b1 b2:Nat)(n:Int)(aA:Int->Int):List (Addr×Value):=
 (⟨b1,0,none⟩,iI n)::(⟨b2,0,none⟩,aC p o 0)::(List.range 10).map (fun k=>(⟨p,o+(0+0+k*5+0),none⟩,iI (aA (k:Int))))
def kO{p o b1 b2:Nat}{n:Int}{aA:Int->Int}{s':TG}(hp:s'.aA=aA){H:List aK}{w:World}(hg:Go.X.Good H w)(h1:kR H (.cells b1 0 1 (aG (iI n))))(h2:kR H (.cells b2 0 1 (aG (aC p o 0))))(h3:kR H (.cells p o 60 (bE s'))):∀ y∈qQ p o b1 b2 n aA,w.cell? y.1=some y.2:=fun y hy=>by
 simp only[qQ,List.mem_cons,List.mem_map,List.mem_range]at hy;rcases hy with rfl | rfl | ⟨k,hk,rfl⟩
 ·exact ec (i:=0) (hg.1 _ h1.mem)
 ·exact ec (i:=0) (hg.1 _ h2.mem)
 ·have h4:=ec (hg.1 _ h3.mem) (fR s' (k:Int)).1;simp_all[bE]
def QU{p o b1 b2:Nat}{n:Int}{aA:Int->Int}{w:World}(h:∀ y∈qQ p o b1 b2 n aA,w.cell? y.1=some y.2){z:Int}(h0:0<=z/\z<10):w.cell? ⟨p,o+(0+0+z.toNat*5+0),none⟩=some (iI (aA z)):=by
 have:=h (⟨p,o+(0+0+z.toNat*5+0),none⟩,iI (aA (z.toNat:Int))) (by
  simp only[qQ,List.mem_cons,List.mem_map,List.mem_range]
  exact .inr (.inr ⟨z.toNat,og,rfl⟩))
 rw[show((z.toNat:Nat):Int)=z from og]at this;exact this
set_option maxHeartbeats 1000000 in def uh(p o b1 b2:Nat)(n:Int)(aA:Int->Int)(xs:List P2)(kZ:kJ aA n (l7 xs))(w:World)(hR:∀ y∈qQ p o b1 b2 n aA,w.cell? y.1=some y.2):SeqStopsK Fence.wide 2 Tryz.prog 184 #[aC b1 0 0,aC b2 0 0] (fun x:P2=> #[iI x.1]) (RE (qQ p o b1 b2 n aA)) (· =xs) (· <+:xs) xs.length w:=by
 intro l J Jx W hW hJ hJx hY h0;have hR0:∀ y∈qQ p o b1 b2 n aA,W.cell? y.1=some y.2:=fun y hy=>by
  rw[hW.cell (WU (hR y hy))];exact hR y hy
 have e:(#[.func (.yield l) #[] #[]]++ #[aC b1 0 0,aC b2 0 0]:Array Value)=[.func (.yield l) #[] #[],aC b1 0 0,aC b2 0 0].toArray:=rfl;rw[e];refine callsIn_wide.2 (enter (ps:=[]) (cs:=[]) (M:=fun w=>J [] w/\∀ y∈qQ p o b1 b2 n aA,w.cell? y.1=some y.2) Tryz.func184 rfl rfl ?_ ⟨h0,hR0⟩);apply XC.seq;apply XC.region;apply XO.l (wb (b:=b1) (o:=0) (v:=iI n) rfl (fun w hw=>hw.2 (⟨b1,0,none⟩,iI n) (by simp[qQ])) kE) rfl;apply XO.v (V.assign rfl) rfl;apply XO.nil;apply XE.next;apply XC.eK [(0,_),(2,_),(4,_)] (Sub.cons rfl (Sub.cons rfl (Sub.cons rfl (Sub.nil _))));apply XC.block;apply XC.loop (σ:=List P2×List P2×Int) (fun x=>x.2.1.length) (fun x=>x.1++x.2.1=xs/\kJ aA x.2.2 (l7 x.2.1)) (fun x=>[(0,.func (.yield l) #[] #[]),(2,aC b2 0 0),(4,iI x.2.2)]) (fun x w=>J x.1 w/\∀ y∈qQ p o b1 b2 n aA,w.cell? y.1=some y.2) ([],xs,n) ⟨rfl,kZ⟩ (Sub.cons rfl (Sub.cons rfl (Sub.cons rfl (Sub.nil _)))) fun _ hw=>hw;rintro⟨pre,bU,q⟩ ⟨hx,hq⟩;apply XC.seq;apply XC.seq;apply XC.region;apply XO.v (V.move rfl) rfl;apply XO.v (RY rfl rfl rfl) rfl;apply XO.nil;apply XE.next;refine XC.Nl rfl (fun hq0=> ?_) fun hq0=> ?_
 ·have Ge:q>=0:=hq0;match bU,hq with
  | [],hq=>exact absurd hq (by show ¬q<0;omega)
  | x::bU,hq=>
   obtain⟨e1,e2,e3,e4⟩:=hq;have e1':x.1=q:=e1;subst e1';apply XC.skip;apply XE.next;apply XC.eK [(0,_),(2,_),(4,_)] (Sub.cons rfl (Sub.cons rfl (Sub.cons rfl (Sub.nil _))));apply XC.seq;apply XC.block;apply XC.seq;apply Lx;apply XI.v (V.move rfl) rfl;apply XI.v (V.move rfl) rfl;refine XI.yield (R:=fun e w'=>(e= .returned (.bool true)/\J (pre++[x]) w'/\∀ y∈qQ p o b1 b2 n aA,w'.cell? y.1=some y.2)\/(e= .returned (.bool false)/\Jx (pre++[x]) w')) rfl rfl (fun w hw=>YieldAt.weak (hY pre x w hw.1 (by rw[<-hx];simp)) fun e w' h=> ?_) rfl fun e w' h=> ?_
   ·rcases h with⟨h1,h2,h3⟩ | h
    ·exact .inl ⟨h1,h2,fun y hy=>h3 y hy (hw.2 y hy)⟩
    ·exact .inr h
   ·rcases h with⟨rfl,h2⟩ | ⟨rfl,h2⟩
    ·refine⟨true,rfl,?_⟩;apply XI.v (V.not rfl) rfl;apply XI.nil;apply XE.next;apply B2 rfl rfl;apply XC.skip;apply gn;apply XE.next;apply XC.eK [(0,_),(2,_),(4,_)] (Sub.cons rfl (Sub.cons rfl (Sub.cons rfl (Sub.nil _))));refine XC.mono (M':=fun w'=>J (pre++[x]) w'/\∀ y∈qQ p o b1 b2 n aA,w'.cell? y.1=some y.2) (fun w' dG=>by
      rcases dG with⟨_,h⟩ | ⟨h,_⟩
      ·exact h
      ·simp at h) ?_
     apply XC.region;apply XO.l (wb (b:=b2) (o:=0) (v:=aC p o 0) rfl (fun w hw=>hw.2 (⟨b2,0,none⟩,aC p o 0) (by simp[qQ])) DB) rfl;apply XO.v (V.move rfl) rfl;apply XO.v (aW rfl) rfl;apply XO.v (V.fieldAddr rfl o9) rfl;apply XO.v (iW rfl rfl DA ⟨e2,e3⟩) rfl;apply XO.v (V.fieldAddr rfl Yy) rfl;apply XO.l (wb rfl (fun w hw=>QU hw.2 ⟨e2,e3⟩) kE) rfl;apply XO.v (V.assign rfl) rfl;apply XO.nil;refine XE.again (pre++[x],bU,aA x.1) sq ⟨by rw[<-hx];simp,e4⟩ (Sub.cons rfl (Sub.cons rfl (Sub.cons rfl (Sub.nil _)))) fun _ hw=>hw
    ·refine⟨false,rfl,?_⟩;apply XI.v (V.not rfl) rfl;apply XI.nil;apply XE.next;apply B1 rfl rfl;apply XC.ret;apply lj;apply ra;apply ra;apply lj;refine GI rfl fun w' dG=>⟨⟨_,rfl⟩,.inr ⟨pre++[x],?_,?_⟩⟩
     ·exact⟨bU,by rw[<-hx];simp⟩
     ·rcases dG with⟨h,_⟩ | ⟨_,h⟩
      ·simp at h
      ·exact h
 ·apply XC.exit;apply pj;apply pj;apply w6;refine cS rfl fun w' dG=>⟨⟨_,rfl⟩,.inl ⟨pre,?_,dG.1⟩⟩;match bU,hq with
  | [],_=>rw[<-hx];simp
  | x::bU,hq=>
   have Ge:¬q>=0:=hq0;exact absurd hq.2.1 Ge
end Go.X.Gr

namespace Go.X.Gr
open Go Go.Proofs Go.X
set_option maxRecDepth 20000
set_option maxHeartbeats 4000000
def DC:cV Tryz.prog 184=true:=kq
def nI:fk Tryz.prog 3=some 1:=kq
def Kv(p o:Nat)(s:TG)(n:Int):Spec Tryz.prog 113 [aC p o 0,iI n] [.cells p o 60 (bE s)] (fun v H1=>((s.cx n=0/\0<=n/\n<10/\s.aa n=true)/\v= .nilIface/\H1=[.cells p o 60 (bE s)])\/(s.cx n≠0/\v= .iface 102 (iI (s.cx n))/\H1=[.cells p o 60 (bE s)])):=by
 apply Spec.go 20 [0,1,4,10,18] [] Tryz.func113 rfl rfl rfl;intro W;refine sp 7 rfl ?_ ?_<;>intro h1
 ·refine ah rfl rfl (ad .h1 rfl ?_);try dsimp only[aL,aJ,aD,aR]
  have e:s.cx n=1:=by unfold TG.cx;rw[if_pos og]
  simp_all
 ·refine cd rfl ?_ ?_<;>intro h2
  ·refine ah rfl rfl (ad .h1 rfl ?_);try dsimp only[aL,aJ,aD,aR]
   have e:s.cx n=1:=by unfold TG.cx;rw[if_pos og]
   simp_all
  ·refine sd (ld .aa (Bl _ _ og) ?_);refine we rfl ?_ ?_<;>intro h3
   ·try simp only[sb]at h3
    refine ah rfl rfl (ad .h1 rfl ?_);try dsimp only[aL,aJ,aD,aR]
    have e:s.cx n=2:=by unfold TG.cx;rw[if_neg og,if_neg (by simp_all)]
    simp_all
   ·try simp only[sb]at h3
    refine ah rfl rfl (ad .h1 rfl ?_);try dsimp only[aL,aJ,aD,aR]
    have e:s.cx n=0:=by unfold TG.cx;rw[if_neg og,if_pos (by simp_all)]
    simp_all
def DD(q m:Int):Spec Tryz.prog 114 [iI q,iI m] [] (fun v H1=>((0<=q/\q<=20/\0<=m/\m<=64)/\v= .nilIface/\H1=[])\/(TG.Wt q m=1/\v= .iface 102 (iI 1)/\H1=[])):=by
 apply Spec.go 20 [0,1,4,18] [] Tryz.func114 rfl rfl rfl;intro W;refine sp 7 rfl ?_ ?_<;>intro h1
 ·refine ah rfl rfl (ad .nil rfl ?_);first
  | exact .inr ⟨by unfold TG.Wt;rw[if_pos og],rfl,rfl⟩
  | exact .inl ⟨og,rfl,rfl⟩
 ·refine sp 11 rfl ?_ ?_<;>intro h2
  ·refine ah rfl rfl (ad .nil rfl ?_);first
   | exact .inr ⟨by unfold TG.Wt;rw[if_pos og],rfl,rfl⟩
   | exact .inl ⟨og,rfl,rfl⟩
  ·refine sp 15 rfl ?_ ?_<;>intro h3
   ·refine ah rfl rfl (ad .nil rfl ?_);first
    | exact .inr ⟨by unfold TG.Wt;rw[if_pos og],rfl,rfl⟩
    | exact .inl ⟨og,rfl,rfl⟩
   ·refine cd rfl ?_ ?_<;>intro h4
    ·refine ah rfl rfl (ad .nil rfl ?_);first
     | exact .inr ⟨by unfold TG.Wt;rw[if_pos og],rfl,rfl⟩
     | exact .inl ⟨og,rfl,rfl⟩
    ·refine ah rfl rfl (ad .nil rfl ?_);grind [aL,aJ,aR]
def US(g:GV)(q m:Int)(h0: -9223372036854775808<=g.pr+q/\g.pr+q<=9223372036854775807)(h1: -9223372036854775808<=g.pg+m/\g.pg+m<=9223372036854775807):Spec Tryz.prog 116 [.agg g.cO,iI q,iI m] [] (fun v H1=>v= .bool (g.room q m)/\H1=[]):=by
 apply Spec.go 41 [1,2,3,6] [] Tryz.func116 rfl rfl rfl;intro W;refine XO.box (m:=5) (C:=EI g) rfl rfl (TA g) rfl ?_;intro bg;apply gO;refine sp 9 rfl ?_ ?_<;>intro h1
 ·refine sp 26 rfl ?_ ?_<;>intro h2
  ·refine ah rfl rfl (ad .nil rfl ?_);grind [aL,aJ,aR,GV.room]
  ·apply ld .aa (gk _);refine sp 31 rfl ?_ ?_<;>intro h3
   ·refine ah rfl rfl (ad .nil rfl ?_);grind [aL,aJ,aR,GV.room]
   ·apply ld .aa (pW _);refine sd ?_;apply ld .aa (gk _);refine ah rfl rfl (ad .nil rfl ?_);grind [aL,aJ,GV.room]
 ·apply ld .aa (qD _);refine sp 14 rfl ?_ ?_<;>intro h4
  ·refine sp 26 rfl ?_ ?_<;>intro h5
   ·refine ah rfl rfl (ad .nil rfl ?_);grind [aL,aJ,aR,GV.room]
   ·apply ld .aa (gk _);refine sp 31 rfl ?_ ?_<;>intro h6
    ·refine ah rfl rfl (ad .nil rfl ?_);grind [aL,aJ,aR,GV.room]
    ·apply ld .aa (pW _);refine sd ?_;apply ld .aa (gk _);refine ah rfl rfl (ad .nil rfl ?_);grind [aL,aJ,GV.room]
  ·apply ld .aa (EJ _);refine sd ?_;apply ld .aa (qD _);refine sp 23 rfl ?_ ?_<;>intro h7
   ·refine sp 26 rfl ?_ ?_<;>intro h8
    ·refine ah rfl rfl (ad .nil rfl ?_);grind [aL,aJ,aR,GV.room]
    ·apply ld .aa (gk _);refine sp 31 rfl ?_ ?_<;>intro h9
     ·refine ah rfl rfl (ad .nil rfl ?_);grind [aL,aJ,aR,GV.room]
     ·apply ld .aa (pW _);refine sd ?_;apply ld .aa (gk _);refine ah rfl rfl (ad .nil rfl ?_);grind [aL,aJ,GV.room]
   ·refine ah rfl rfl (ad .nil rfl ?_);grind [aL,aJ,aR,GV.room]
def DE(p o:Nat)(n:Int):Spec Tryz.prog 115 [aC p o 0,iI n] [] (fun v H1=>∃ b1 b2,v= .func (.func 184) #[] #[aC b1 0 0,aC b2 0 0]/\H1=[.cells b1 0 1 (aG (iI n)),.cells b2 0 1 (aG (aC p o 0))]):=by
 apply Spec.go 6 [2,3,4] [] Tryz.func115 rfl rfl rfl;intro W;apply XO.box (m:=1) (C:=aG (aC p o 0)) rfl rfl (fun _ _=>rfl) rfl;intro b2;apply gO;apply XO.box (m:=1) (C:=aG (iI n)) rfl rfl (fun _ _=>rfl) rfl;intro b1;apply gO;apply XO.v (pq rfl rfl) rfl;apply gO;refine ah rfl rfl (ad (pz 2) rfl ?_);grind [aL,aJ]
def ack(p o:Nat)(s:TG)(hO:s.Ok)(n:Int)(hn:0<=n/\n<10/\s.aa n=true):Spec Tryz.prog 203 [aC p o 0,iI n] [.cells p o 60 (bE s)] (fun v H1=>v=iI ((s.cC n).length:Int)/\H1=[.cells p o 60 (bE s)]):=by
 have kZ:=hO.cC hn.1 hn.2.1 hn.2.2;obtain⟨xs,Ld⟩:=qC _ kZ.1.range;have Ou:xs.length<=4:=by
  grind [l7]
 refine sZ 13 [0,1,4,5,8] [] Tryz.func203 rfl rfl rfl ?_;intro W;refine XO.bN (z:=iI 0) (m:=1) (C:=aG (iI 0)) kq rfl (fun _ _=>rfl) rfl ?_;intro bk;refine gO ?_;refine st .aa (aG.st _ _) rfl ?_;refine ca (DE _ _ _) .nil ?_;rintro _ _ ⟨b1,b2,rfl,rfl⟩;refine gO ?_;refine Pp (xs:=xs) (fun x:P2=>iI x.1) (fun pre=>pre.length<=xs.length) (fun _=>False) (fun pre=>[.cells b1 0 1 (aG (iI n)),.cells b2 0 1 (aG (aC p o 0)),.cells p o 60 (bE s),.cells bk 0 1 (aG (iI (pre.length:Int)))]) (fun pre=>[.cells b1 0 1 (aG (iI n)),.cells b2 0 1 (aG (aC p o 0)),.cells p o 60 (bE s),.cells bk 0 1 (aG (iI (pre.length:Int)))]) rfl (mW DC) rfl (fun w hw=>uh p o b1 b2 n s.aA xs (by rw[Ld];exact kZ.1) w (kO (by rfl) hw.eT .aa (.av .aa) (.t3 .aa))) ?_ (fun _ hw=>XM.pick (pk [0,0,1,0]) hw) (fun _=>rfl) (fun _=>rfl) ?_ ?_ ?_
 ·simp_all
 ·intro pre x w hV hlen hx;refine XB.block ?_;refine XB.region ?_;refine XO.l (V.load rfl (eD (.t3 .aa)) (aG.ld _) kE) rfl ?_;refine XO.v (V.add rfl rfl _ (IntWalk.i64_in _ og)) rfl ?_;refine XO.store rfl rfl (.t3 .aa) (aG.st _ _) rfl nI ?_;refine XO.nil ?_;refine gn ?_;refine xd hx ?_ rfl (fun w2 hg=>kO (by rfl) hg .aa (.av .aa) (.t2 .aa)) fun w2 l9=> ?_;all_goals grind
 ·intro hV D hD;refine gE ?_;refine ld (.t4 .aa) (aG.ld _) ?_;refine mV (.inr rfl) .aa rfl hD ?_;refine ah rfl rfl (ad (pk [2]) rfl ?_);grind [aL,aJ,l7]
 ·intro pre hp hV D hD;exact hV.elim
def UT:nq Tryz.prog 66=true:=kq
def UU:cV Tryz.prog 116=true:=kq
def Ov:eC Tryz.prog 66 3=some 3:=kq
def Ow:eC Tryz.prog 66 4=some 4:=kq
def Ox:jw Tryz.prog 33=true:=kq
def EW:jw Tryz.prog 4=true:=kq
def Yz:fk Tryz.prog 33=some 1:=kq
def DF:fk Tryz.prog 4=some 1:=kq
def HQ:fk Tryz.prog 66=some 5:=kq
def UW(p o:Nat)(s:TG)(hO:s.Ok)(n:Int)(hn:0<=n/\n<10/\s.aa n=true)(q m:Int)(hq: -20<=q/\q<=20)(hm: -64<=m/\m<=64)(Bd:Int)(hB:0<=Bd/\Bd<=1000000000000)(hS:s.bM Bd):Spec Tryz.prog 117 [aC p o 0,iI n,iI q,iI m] [.cells p o 60 (bE s)] (fun v H1=>v= .tuple #[]/\H1=[.cells p o 60 (bE (s.lay (s.cC n) q m))]):=by
 have kZ:=hO.cC hn.1 hn.2.1 hn.2.2;obtain⟨xs,Ld⟩:=qC _ kZ.1.range;have Ou:xs.length<=4:=by
  grind [l7]
 apply sZ 39 [1,4,6,7,11] [] Tryz.func117 rfl rfl rfl;intro W;apply XO.box (m:=1) (C:=aG (aC p o 0)) rfl rfl (fun _ _=>rfl) rfl;intro bT;apply gO;apply XO.box (m:=1) (C:=aG (iI q)) rfl rfl (fun _ _=>rfl) rfl;intro bq;apply gO;apply XO.box (m:=1) (C:=aG (iI m)) rfl rfl (fun _ _=>rfl) rfl;intro bm;apply gO;apply ld (.t2 .aa) (aG.ld _);refine ca (DE _ _ _) .nil ?_;rintro _ _ ⟨b1,b2,rfl,rfl⟩;apply gO;refine uA (xs:=xs) (fun x:P2=>iI x.1) (fun pre=>pre.length<=xs.length) (fun _=>False) (fun pre=>[.cells b1 0 1 (aG (iI n)),.cells b2 0 1 (aG (aC p o 0)),.cells p o 60 (bE (s.lay (l7 pre) q m)),.cells bT 0 1 (aG (aC p o 0)),.cells bq 0 1 (aG (iI q)),.cells bm 0 1 (aG (iI m))]) (fun pre=>[.cells b1 0 1 (aG (iI n)),.cells b2 0 1 (aG (aC p o 0)),.cells p o 60 (bE (s.lay (l7 pre) q m)),.cells bT 0 1 (aG (aC p o 0)),.cells bq 0 1 (aG (iI q)),.cells bm 0 1 (aG (iI m))]) rfl (mW DC) rfl rfl (fun w hw=>uh p o b1 b2 n s.aA xs (by rw[Ld];exact kZ.1) w (kO (by rfl) hw.eT .aa (.av .aa) (.t5 .aa))) ?_ (fun _ hw=>by rw[show s.lay (l7 []) q m=s from TG.Xy s q m];exact XM.pick (pk [0,0,3,2,1,0]) hw) (fun _=>rfl) (fun _=>rfl) ?_ ?_ ?_
 ·simp_all
 ·intro pre x w hV hlen hx;have hsm:=hS.lay (l:=l7 pre) (by simp[l7];omega) hq hm x.1 x.2.1 x.2.2;obtain⟨x1,x2⟩:=x.2;refine XB.block (XB.seq (XB.fI mixed (f:=14) (l:= #[qF,qF,qF,qF,qF,qF,qF,qF,qF,qF,qF,qF,qF,qF]) rfl rfl XM.iY (XQ.load (i:=0) (.cells _ _ _ _) [13] rfl kq rfl (.t3 .aa) (V.load rfl dJ (aG.ld _) DB) rfl kq rfl (XQ.pv (i:=1) rfl kq rfl (V.move rfl) rfl rfl (XQ.pv (i:=2) rfl kq rfl (aW rfl) rfl rfl (XQ.pv (i:=3) rfl kq rfl (V.fieldAddr rfl o9) rfl rfl (XQ.pv (i:=4) rfl kq rfl (iW rfl rfl DA og) rfl rfl (XQ.pv (i:=5) rfl kq rfl (V.fieldAddr rfl Ov) rfl rfl (XQ.load (i:=6) (.cells _ _ _ _) [13] rfl kq rfl (.t2 .aa) (V.load rfl dJ (fy _ _) kE) rfl kq rfl (XQ.load (i:=7) (.cells _ _ _ _) [13] rfl kq rfl (.t4 .aa) (V.load rfl dJ (aG.ld _) kE) rfl kq rfl (XQ.pv (i:=8) rfl kq rfl (V.add rfl rfl _ (IntWalk.i64_in _ og)) rfl rfl (XQ.pv (i:=9) rfl kq rfl (aW rfl) rfl rfl (XQ.pv (i:=10) rfl kq rfl (V.fieldAddr rfl o9) rfl rfl (XQ.pv (i:=11) rfl kq rfl (iW rfl rfl DA og) rfl rfl (XQ.pv (i:=12) rfl kq rfl (V.fieldAddr rfl Ov) rfl rfl (XQ.store (i:=13) rfl kq rfl rfl rfl (.t2 .aa) (wv _ _ og _) rfl nI (fun _ dG=>⟨fun hs=>(hs 13 (by first | (simp;done) | (simp;rfl)) rfl).elim,fun hs=>(hs 13 (by first | (simp;done) | (simp;rfl)) rfl).elim,fun hs=>(hs 13 (by first | (simp;done) | (simp;rfl)) rfl).elim,trivial⟩) (XQ.done kq (oG (XB.eK [(4,_),(7,_),(8,_)] (S3 rfl rfl rfl) (XB.fI mixed (f:=14) (l:= #[qF,qF,qF,qF,qF,qF,qF,qF,qF,qF,qF,qF,qF,qF]) rfl rfl XM.iY (XQ.load (i:=0) (.cells _ _ _ _) [13] rfl kq rfl (.t3 .aa) (V.load rfl dJ (aG.ld _) DB) rfl kq rfl (XQ.pv (i:=1) rfl kq rfl (V.move rfl) rfl rfl (XQ.pv (i:=2) rfl kq rfl (aW rfl) rfl rfl (XQ.pv (i:=3) rfl kq rfl (V.fieldAddr rfl o9) rfl rfl (XQ.pv (i:=4) rfl kq rfl (iW rfl rfl DA og) rfl rfl (XQ.pv (i:=5) rfl kq rfl (V.fieldAddr rfl Ow) rfl rfl (XQ.load (i:=6) (.cells _ _ _ _) [13] rfl kq rfl (.t2 .aa) (V.load rfl dJ (fA _ _) kE) rfl kq rfl (XQ.load (i:=7) (.cells _ _ _ _) [13] rfl kq rfl (.t5 .aa) (V.load rfl dJ (aG.ld _) kE) rfl kq rfl (XQ.pv (i:=8) rfl kq rfl (V.add rfl rfl _ (IntWalk.i64_in _ (by have:=hsm.2.2;show _<=(s.lay (l7 pre) q m).pg x.1+m/\(s.lay (l7 pre) q m).pg x.1+m<=_;omega))) rfl rfl (XQ.pv (i:=9) rfl kq rfl (aW rfl) rfl rfl (XQ.pv (i:=10) rfl kq rfl (V.fieldAddr rfl o9) rfl rfl (XQ.pv (i:=11) rfl kq rfl (iW rfl rfl DA og) rfl rfl (XQ.pv (i:=12) rfl kq rfl (V.fieldAddr rfl Ow) rfl rfl (XQ.store (i:=13) rfl kq rfl rfl rfl (.t2 .aa) (wx _ _ og _) rfl nI (fun _ dG=>⟨fun hs=>(hs 13 (by first | (simp;done) | (simp;rfl)) rfl).elim,fun hs=>(hs 13 (by first | (simp;done) | (simp;rfl)) rfl).elim,fun hs=>(hs 13 (by first | (simp;done) | (simp;rfl)) rfl).elim,trivial⟩) (XQ.done kq (gn (xd hx ?_ rfl (fun w2 hg=>kO (by rfl) hg .aa (.av .aa) (.t2 .aa)) fun w2 l9=> ?_)))))))))))))))))))))))))))))))))))))
  ·grind
  ·have:=XM.pick (pz 6) l9;rw[FB,TG.Tw];omega
 ·intro hV D hD;refine gE (mV (.inl rfl) .aa rfl hD (cS rfl (ad (pk [2]) rfl ?_)));simp_all
 ·intro pre hp hV D hD;exact hV.elim
def YA(p o:Nat)(s:TG)(hO:s.Ok)(n q:Int):Spec Tryz.prog 244 [aC p o 0,iI n,iI q] [.cells p o 60 (bE s)] (fun v H1=>v= .bool (s.under n q)/\H1=[.cells p o 60 (bE s)]):=by
 refine sZ 19 [0,1,5,6,11,14] [] Tryz.func244 rfl rfl rfl ?_;intro W;refine XO.box (m:=1) (C:=aG (iI q)) rfl rfl (fun _ _=>rfl) rfl ?_;intro bq;refine gO ?_;refine XO.bN (z:=.bool false) (m:=1) (C:=aG (.bool false)) kq rfl (fun _ _=>rfl) rfl ?_;intro br;refine gO ?_;refine ca (Kv _ _ _ _) (pk [2]) ?_;rintro _ _ (⟨h1,rfl,rfl⟩ | ⟨h1,rfl,rfl⟩)
 ·obtain⟨i0,i1,i2,i3⟩:=h1;have kZ:=hO.cC i1 i2 i3;obtain⟨xs,Ld⟩:=qC _ kZ.1.range;have Ou:xs.length<=4:=by
   grind [l7]
  refine gO ?_;refine ca (DE _ _ _) .nil ?_;rintro _ _ ⟨b1,b2,rfl,rfl⟩;refine gO ?_;refine uA (xs:=xs) (fun x:P2=>iI x.1) (fun pre=>∀ x∈pre,¬x.1=q) (fun pre=>∃ x∈pre,x.1=q) (fun pre=>[.cells b1 0 1 (aG (iI n)),.cells b2 0 1 (aG (aC p o 0)),.cells p o 60 (bE s),.cells bq 0 1 (aG (iI q)),.cells br 0 1 (aG (.bool false))]) (fun pre=>[.cells b1 0 1 (aG (iI n)),.cells b2 0 1 (aG (aC p o 0)),.cells p o 60 (bE s),.cells bq 0 1 (aG (iI q)),.cells br 0 1 (aG (.bool true))]) rfl (mW DC) rfl rfl (fun w hw=>uh p o b1 b2 n s.aA xs (by rw[Ld];exact kZ.1) w (kO (by rfl) hw.eT .aa (.av .aa) (.t2 .aa))) ?_ (fun _ hw=>XM.pick (pk [0,0,0,1,0]) hw) (fun _=>rfl) (fun _=>rfl) ?_ ?_ ?_
  ·simp_all
  ·intro pre x w hV hlen hx;refine XB.block ?_;refine XB.seq ?_;refine XB.region ?_;refine XO.v (V.move rfl) rfl ?_;refine XO.l (V.load rfl (eD (.t3 .aa)) (aG.ld _) kE) rfl ?_;refine XO.v (RY rfl rfl rfl) rfl ?_;refine XO.nil ?_;refine oG ?_;refine XB.eK [(6,_),(18,_)] (S2 rfl rfl) ?_;refine XB.Nl rfl (fun h2=> ?_) fun h2=> ?_
   ·refine XB.seq ?_;refine XB.region ?_;refine XO.store rfl rfl (.t4 .aa) (aG.st _ _) rfl DF ?_;refine XO.nil ?_;refine oG ?_;refine XB.eK [(6,_)] (S1 rfl) ?_;refine XB.ret ?_;refine lj ?_;refine XE.fB hx ?_ rfl fun w2 l9=> ?_;all_goals simp_all
   ·refine XB.skip ?_;refine gn ?_;refine xd hx ?_ rfl (fun w2 hg=>kO (by rfl) hg .aa (.av .aa) (.t2 .aa)) fun w2 l9=> ?_;all_goals grind
  ·intro hV D hD;have hr:s.under n q=false:=by
    unfold TG.under;grind [l7]
   refine gE ?_;refine st (.t5 .aa) (aG.st _ _) rfl ?_;refine mV (.inr rfl) .aa rfl hD ?_;refine jj rfl (.cell rfl (.t4 .aa) (aG.ld _) EW) (ad (pk [2]) rfl ?_);grind [aJ,aR]
  ·intro pre hp hV D hD;have hr:s.under n q=true:=by
    unfold TG.under;grind [l7]
   refine gE ?_;refine mV (.inr rfl) .aa rfl hD ?_;refine jj rfl (.cell rfl (.t4 .aa) (aG.ld _) EW) (ad (pk [2]) rfl ?_);simp_all
 ·have i0:=h1;refine gO ?_;refine st (.av .aa) (aG.st _ _) rfl ?_;refine qj (.inr rfl) ?_;refine jj rfl (.cell rfl (.av .aa) (aG.ld _) EW) (ad .h1 rfl ?_);try dsimp only[aL,aJ,aD,aR]
  exact⟨by unfold TG.under;rw[if_pos og],rfl⟩
def ui(p o:Nat)(s:TG)(hO:s.Ok)(n q m:Int)(Bd:Int)(hB:0<=Bd/\Bd<=1000000000000)(hS:s.bM Bd):Spec Tryz.prog 51 [aC p o 0,iI n,iI q,iI m] [.cells p o 60 (bE s)] (fun v H1=>v=az 102 (s.cX n q m)/\H1=[.cells p o 60 (bE (s.cv n q m))]):=by
  refine sZ 42 [1,4,6,7,8,9,15,20,24] [] Tryz.func51 rfl rfl rfl ?_
  intro W
  refine XO.box (m:=1) (C:=aG (aC p o 0)) rfl rfl (fun _ _=>rfl) rfl ?_
  intro bT
  refine gO ?_
  refine XO.box (m:=1) (C:=aG (iI q)) rfl rfl (fun _ _=>rfl) rfl ?_
  intro bq
  refine gO ?_
  refine XO.box (m:=1) (C:=aG (iI m)) rfl rfl (fun _ _=>rfl) rfl ?_
  intro bm
  refine gO ?_
  refine XO.bN (z:=.nilIface) (m:=1) (C:=aG (.nilIface)) kq rfl (fun _ _=>rfl) rfl ?_
  intro be
  refine gO ?_
  refine ld (.t3 .aa) (aG.ld _) ?_
  refine ca (Kv _ _ _ _) (pk [4]) ?_
  rintro _ _ (⟨h1,rfl,rfl⟩ | ⟨h1,rfl,rfl⟩)
  · skip
    obtain⟨i0,i1,i2,i3⟩:=h1
    refine gO ?_
    refine ld (.t3 .aa) (aG.ld _) ?_
    refine ld (.t2 .aa) (aG.ld _) ?_
    refine ca (DD _ _) .nil ?_
    rintro _ _ (⟨h2,rfl,rfl⟩ | ⟨h2,rfl,rfl⟩)
    · skip
      have j0:=h2
      have kZ:=hO.cC i1 i2 i3
      obtain⟨xs,Ld⟩:=qC _ kZ.1.range
      have Ou:xs.length<=4:=by
        grind [l7]
      refine gO ?_
      refine ld (.t4 .aa) (aG.ld _) ?_
      refine ca (DE _ _ _) .nil ?_
      rintro _ _ ⟨b1,b2,rfl,rfl⟩
      refine gO ?_
      refine uA (xs:=xs) (fun x:P2=>iI x.1) (fun pre=>∀ x∈pre,s.room q m x.1=true) (fun pre=>∃ x∈pre,s.room q m x.1=false) (fun pre=>[.cells b1 0 1 (aG (iI n)),.cells b2 0 1 (aG (aC p o 0)),.cells p o 60 (bE s),.cells bT 0 1 (aG (aC p o 0)),.cells bq 0 1 (aG (iI q)),.cells bm 0 1 (aG (iI m)),.cells be 0 1 (aG (.nilIface))]) (fun pre=>[.cells b1 0 1 (aG (iI n)),.cells b2 0 1 (aG (aC p o 0)),.cells p o 60 (bE s),.cells bT 0 1 (aG (aC p o 0)),.cells bq 0 1 (aG (iI q)),.cells bm 0 1 (aG (iI m)),.cells be 0 1 (aG (.iface 102 (iI 6)))]) rfl (mW DC) rfl rfl (fun w hw=>uh p o b1 b2 n s.aA xs (by rw[Ld];exact kZ.1) w (kO (by rfl) hw.eT .aa (.av .aa) (.t2 .aa))) ?_ (fun _ hw=>XM.pick (pk [0,0,0,3,2,1,0]) hw) (fun _=>rfl) (fun _=>rfl) ?_ ?_ ?_
      · simp_all
      · intro pre x w hV hlen hx
        have hsm:=hS x.1 x.2.1 x.2.2
        obtain⟨x1,x2⟩:=x.2
        have hr0: -9223372036854775808<=(s.gv x.1).pr+q/\(s.gv x.1).pr+q<=9223372036854775807:=by show _<=s.pr x.1+q/\s.pr x.1+q<=_;omega
        have HR: -9223372036854775808<=(s.gv x.1).pg+m/\(s.gv x.1).pg+m<=9223372036854775807:=by show _<=s.pg x.1+m/\s.pg x.1+m<=_;omega
        refine XB.block ?_
        refine XB.seq ?_
        refine XB.fI mixed (f:=10) (l:= #[qF,qF,qF,qF,qF,qF,qF,qF,qF,qF]) rfl rfl XM.iY ?_
        refine XQ.load (i:=0) (.cells _ _ _ _) [8] rfl kq rfl (.t3 .aa) (V.load rfl dJ (aG.ld _) DB) rfl kq rfl ?_
        refine XQ.pv (i:=1) rfl kq rfl (V.move rfl) rfl rfl ?_
        refine XQ.pv (i:=2) rfl kq rfl (aW rfl) rfl rfl ?_
        refine XQ.pv (i:=3) rfl kq rfl (V.fieldAddr rfl o9) rfl rfl ?_
        refine XQ.pv (i:=4) rfl kq rfl (iW rfl rfl DA og) rfl rfl ?_
        refine XQ.load (i:=5) (.cells _ _ _ _) [8] rfl kq rfl (.t2 .aa) (eB rfl dJ (Jy _ _) UT HQ) rfl kq rfl ?_
        refine XQ.load (i:=6) (.cells _ _ _ _) [8] rfl kq rfl (.t4 .aa) (V.load rfl dJ (aG.ld _) kE) rfl kq rfl ?_
        refine XQ.load (i:=7) (.cells _ _ _ _) [8] rfl kq rfl (.t5 .aa) (V.load rfl dJ (aG.ld _) kE) rfl kq rfl ?_
        refine XQ.call (i:=8) rfl kq rfl rfl (US _ _ _ aq aq) .nil UU rfl (by rintro _ _ ⟨rfl,rfl⟩;all_goals(intro _ dG;exact⟨fun hs=>(hs 8 (by first | (simp;done) | (simp;rfl)) rfl).elim,fun hs=>(hs 8 (by first | (simp;done) | (simp;rfl)) rfl).elim,fun hs=>(hs 8 (by first | (simp;done) | (simp;rfl)) rfl).elim,fun hs=>(hs 8 (by first | (simp;done) | (simp;rfl)) rfl).elim,trivial⟩)) ?_
        rintro _ _ ⟨rfl,rfl⟩
        refine XQ.pv (i:=9) rfl kq rfl (V.not rfl) rfl rfl ?_
        refine XQ.done kq ?_
        refine oG ?_
        refine XB.eK [(8,_),(35,_)] (S2 rfl rfl) ?_
        refine XB.cond rfl (fun h3=> ?_) fun h3=> ?_
        · try simp only[sb]at h3
          have hX:=h3
          refine XB.seq ?_
          refine XB.region ?_
          refine XO.v (Az rfl Tryz.underlying102 sq) rfl ?_
          refine XO.store rfl rfl (.t6 .aa) (aG.st _ _) rfl Yz ?_
          refine XO.nil ?_
          refine oG ?_
          refine XB.eK [(8,_)] (S1 rfl) ?_
          refine XB.ret ?_
          refine lj ?_
          refine XE.fB hx ?_ rfl fun w2 l9=> ?_
          · skip
            exact⟨x,sq,by simpa [TG.room]using hX⟩
          omega
        · try simp only[sb]at h3
          have hX:=h3
          refine XB.skip ?_
          refine gn ?_
          refine xd hx ?_ rfl (fun w2 hg=>kO (by rfl) hg .aa (.av .aa) (.t2 .aa)) fun w2 l9=> ?_
          · skip
            intro y hy
            rcases List.mem_append.1 hy with hy | hy
            · grind
            · simp at hy;subst hy;simpa [TG.room]using hX
          simp_all
      · intro hV D hD
        have hc:s.nx n q m=0:=by unfold TG.nx;rw[if_neg og];exact(TG.CF _ _).2 j0
        have hr:s.cX n q m=0:=by
          unfold TG.cX
          grind [l7]
        have A6:s.cv n q m=s.lay (s.cC n) q m:=by unfold TG.cv;rw[if_pos hr]
        refine gE ?_
        refine ld (.t4 .aa) (aG.ld _) ?_
        refine ld (.t5 .aa) (aG.ld _) ?_
        refine ld (.t6 .aa) (aG.ld _) ?_
        refine cq (UW _ _ s hO _ (by first | assumption | exact⟨og,og,aq⟩) _ _ og og Bd hB hS) (pk [3]) ?_
        refine st (.t7 .aa) (aG.st _ _) rfl ?_
        refine mV (.inr rfl) (.av .aa) rfl hD ?_
        refine jj rfl (.cell rfl (.t6 .aa) (aG.ld _) Ox) (ad .h1 rfl ?_)
        grind [aJ,aR,az]
      · intro pre hp hV D hD
        have hc:s.nx n q m=0:=by unfold TG.nx;rw[if_neg og];exact(TG.CF _ _).2 j0
        have hr:s.cX n q m=6:=by
          unfold TG.cX
          grind [l7]
        have A6:s.cv n q m=s:=by unfold TG.cv;rw[if_neg og]
        refine gE ?_
        refine mV (.inr rfl) .aa rfl hD ?_
        refine jj rfl (.cell rfl (.t6 .aa) (aG.ld _) Ox) (ad (pk [2]) rfl ?_)
        grind [az]
    · skip
      have j1:=h2
      refine gO ?_
      refine st (.av .aa) (aG.st _ _) rfl ?_
      refine qj (.inr rfl) ?_
      refine jj rfl (.cell rfl (.av .aa) (aG.ld _) Ox) (ad .h1 rfl ?_)
      try dsimp only[aL,aJ,aD,aR]
      first
      | (have hc:s.nx n q m=s.cx n:=by unfold TG.nx;rw[if_pos aq]
         have hr:s.cX n q m=s.cx n:=by unfold TG.cX;rw[if_pos og,hc]
         exact⟨by rw[hr,aQ _ aq],by unfold TG.cv;rw[if_neg og]⟩)
      | (have hc:s.nx n q m=1:=by unfold TG.nx;rw[if_neg og];exact j1
         have hr:s.cX n q m=1:=by unfold TG.cX;rw[if_pos og,hc]
         exact⟨by rw[hr];rfl,by unfold TG.cv;rw[if_neg og]⟩)
  · skip
    have i0:=h1
    refine gO ?_
    refine st (.av .aa) (aG.st _ _) rfl ?_
    refine qj (.inr rfl) ?_
    refine jj rfl (.cell rfl (.av .aa) (aG.ld _) Ox) (ad .h1 rfl ?_)
    try dsimp only[aL,aJ,aD,aR]
    first
    | (have hc:s.nx n q m=s.cx n:=by unfold TG.nx;rw[if_pos aq]
       have hr:s.cX n q m=s.cx n:=by unfold TG.cX;rw[if_pos og,hc]
       exact⟨by rw[hr,aQ _ aq],by unfold TG.cv;rw[if_neg og]⟩)
    | (have hc:s.nx n q m=1:=by unfold TG.nx;rw[if_neg og];exact j1
       have hr:s.cX n q m=1:=by unfold TG.cX;rw[if_pos og,hc]
       exact⟨by rw[hr];rfl,by unfold TG.cv;rw[if_neg og]⟩)
def YB(p o:Nat)(s:TG)(hO:s.Ok)(n q m:Int)(Bd:Int)(hB:0<=Bd/\Bd<=1000000000000)(hS:s.bM Bd):Spec Tryz.prog 228 [aC p o 0,iI n,iI q,iI m] [.cells p o 60 (bE s)] (fun v H1=>v= .tuple #[iI ((s.iB n q m).getD 0),.bool (s.iB n q m).isSome]/\H1=[.cells p o 60 (bE s)]):=by
  refine sZ 36 [1,4,6,7,8,9,20,23] [] Tryz.func228 rfl rfl rfl ?_
  intro W
  refine XO.box (m:=1) (C:=aG (aC p o 0)) rfl rfl (fun _ _=>rfl) rfl ?_
  intro bT
  refine gO ?_
  refine XO.box (m:=1) (C:=aG (iI q)) rfl rfl (fun _ _=>rfl) rfl ?_
  intro bq
  refine gO ?_
  refine XO.box (m:=1) (C:=aG (iI m)) rfl rfl (fun _ _=>rfl) rfl ?_
  intro bm
  refine gO ?_
  refine XO.bN (z:=iI 0) (m:=1) (C:=aG (iI 0)) kq rfl (fun _ _=>rfl) rfl ?_
  intro br
  refine gO ?_
  refine XO.bN (z:=.bool false) (m:=1) (C:=aG (.bool false)) kq rfl (fun _ _=>rfl) rfl ?_
  intro bo
  refine gO ?_
  refine ld (.t4 .aa) (aG.ld _) ?_
  refine ca (Kv _ _ _ _) (pk [5]) ?_
  rintro _ _ (⟨h1,rfl,rfl⟩ | ⟨h1,rfl,rfl⟩)
  · skip
    obtain⟨i0,i1,i2,i3⟩:=h1
    refine gO ?_
    refine ld (.t4 .aa) (aG.ld _) ?_
    refine ld (.t3 .aa) (aG.ld _) ?_
    refine ca (DD _ _) .nil ?_
    rintro _ _ (⟨h2,rfl,rfl⟩ | ⟨h2,rfl,rfl⟩)
    · skip
      have j0:=h2
      have kZ:=hO.cC i1 i2 i3
      obtain⟨xs,Ld⟩:=qC _ kZ.1.range
      have Ou:xs.length<=4:=by
        grind [l7]
      refine gO ?_
      refine ld (.t5 .aa) (aG.ld _) ?_
      refine ca (DE _ _ _) .nil ?_
      rintro _ _ ⟨b1,b2,rfl,rfl⟩
      refine gO ?_
      refine uA (xs:=xs) (fun x:P2=>iI x.1) (fun pre=>∀ x∈pre,s.room q m x.1=true) (fun pre=>∃ l x,pre=l++[x]/\(∀ y∈l,s.room q m y.1=true)/\s.room q m x.1=false) (fun pre=>[.cells b1 0 1 (aG (iI n)),.cells b2 0 1 (aG (aC p o 0)),.cells p o 60 (bE s),.cells bT 0 1 (aG (aC p o 0)),.cells bq 0 1 (aG (iI q)),.cells bm 0 1 (aG (iI m)),.cells br 0 1 (aG (iI 0)),.cells bo 0 1 (aG (.bool false))]) (fun pre=>[.cells b1 0 1 (aG (iI n)),.cells b2 0 1 (aG (aC p o 0)),.cells p o 60 (bE s),.cells bT 0 1 (aG (aC p o 0)),.cells bq 0 1 (aG (iI q)),.cells bm 0 1 (aG (iI m)),.cells br 0 1 (aG (iI ((l7 pre).getLast?.getD 0))),.cells bo 0 1 (aG (.bool true))]) rfl (mW DC) rfl rfl (fun w hw=>uh p o b1 b2 n s.aA xs (by rw[Ld];exact kZ.1) w (kO (by rfl) hw.eT .aa (.av .aa) (.t2 .aa))) ?_ (fun _ hw=>XM.pick (pk [0,0,0,4,3,2,1,0]) hw) (fun _=>rfl) (fun _=>rfl) ?_ ?_ ?_
      · simp_all
      · intro pre x w hV hlen hx
        have hsm:=hS x.1 x.2.1 x.2.2
        obtain⟨x1,x2⟩:=x.2
        have hr0: -9223372036854775808<=(s.gv x.1).pr+q/\(s.gv x.1).pr+q<=9223372036854775807:=by show _<=s.pr x.1+q/\s.pr x.1+q<=_;omega
        have HR: -9223372036854775808<=(s.gv x.1).pg+m/\(s.gv x.1).pg+m<=9223372036854775807:=by show _<=s.pg x.1+m/\s.pg x.1+m<=_;omega
        refine XB.block ?_
        refine XB.seq ?_
        refine XB.fI mixed (f:=10) (l:= #[qF,qF,qF,qF,qF,qF,qF,qF,qF,qF]) rfl rfl XM.iY ?_
        refine XQ.load (i:=0) (.cells _ _ _ _) [8] rfl kq rfl (.t3 .aa) (V.load rfl dJ (aG.ld _) DB) rfl kq rfl ?_
        refine XQ.pv (i:=1) rfl kq rfl (V.move rfl) rfl rfl ?_
        refine XQ.pv (i:=2) rfl kq rfl (aW rfl) rfl rfl ?_
        refine XQ.pv (i:=3) rfl kq rfl (V.fieldAddr rfl o9) rfl rfl ?_
        refine XQ.pv (i:=4) rfl kq rfl (iW rfl rfl DA og) rfl rfl ?_
        refine XQ.load (i:=5) (.cells _ _ _ _) [8] rfl kq rfl (.t2 .aa) (eB rfl dJ (Jy _ _) UT HQ) rfl kq rfl ?_
        refine XQ.load (i:=6) (.cells _ _ _ _) [8] rfl kq rfl (.t4 .aa) (V.load rfl dJ (aG.ld _) kE) rfl kq rfl ?_
        refine XQ.load (i:=7) (.cells _ _ _ _) [8] rfl kq rfl (.t5 .aa) (V.load rfl dJ (aG.ld _) kE) rfl kq rfl ?_
        refine XQ.call (i:=8) rfl kq rfl rfl (US _ _ _ aq aq) .nil UU rfl (by rintro _ _ ⟨rfl,rfl⟩;all_goals(intro _ dG;exact⟨fun hs=>(hs 8 (by first | (simp;done) | (simp;rfl)) rfl).elim,fun hs=>(hs 8 (by first | (simp;done) | (simp;rfl)) rfl).elim,fun hs=>(hs 8 (by first | (simp;done) | (simp;rfl)) rfl).elim,fun hs=>(hs 8 (by first | (simp;done) | (simp;rfl)) rfl).elim,trivial⟩)) ?_
        rintro _ _ ⟨rfl,rfl⟩
        refine XQ.pv (i:=9) rfl kq rfl (V.not rfl) rfl rfl ?_
        refine XQ.done kq ?_
        refine oG ?_
        refine XB.eK [(8,_),(9,_),(10,_),(34,_)] (S4 rfl rfl rfl rfl) ?_
        refine XB.cond rfl (fun h3=> ?_) fun h3=> ?_
        · try simp only[sb]at h3
          have hX:=h3
          refine XB.seq ?_
          refine XB.region ?_
          refine XO.v (V.move rfl) rfl ?_
          refine XO.store rfl rfl (.t6 .aa) (aG.st _ _) rfl nI ?_
          refine XO.store rfl rfl (.t7 .aa) (aG.st _ _) rfl DF ?_
          refine XO.nil ?_
          refine oG ?_
          refine XB.eK [(8,_),(9,_)] (S2 rfl rfl) ?_
          refine XB.ret ?_
          refine lj ?_
          refine XE.fB hx ?_ rfl fun w2 l9=> ?_
          · skip
            exact⟨pre,x,rfl,hV,by simpa [TG.room]using hX⟩
          grind [FB]
        · try simp only[sb]at h3
          have hX:=h3
          refine XB.skip ?_
          refine gn ?_
          refine xd hx ?_ rfl (fun w2 hg=>kO (by rfl) hg .aa (.av .aa) (.t2 .aa)) fun w2 l9=> ?_
          · skip
            intro y hy
            rcases List.mem_append.1 hy with hy | hy
            · grind
            · simp at hy;subst hy;simpa [TG.room]using hX
          simp_all
      · intro hV D hD
        have hc:s.nx n q m=0:=by unfold TG.nx;rw[if_neg og];exact(TG.CF _ _).2 j0
        have hr:s.iB n q m=none:=by
          unfold TG.iB
          grind [l7]
        refine gE ?_
        refine st (.t7 .aa) (aG.st _ _) rfl ?_
        refine st (.t8 .aa) (aG.st _ _) rfl ?_
        refine mV (.inr rfl) .aa rfl hD ?_
        refine dX rfl (.cell rfl (.t6 .aa) (aG.ld _) kE) (.cell rfl (.t7 .aa) (aG.ld _) EW) (ad (pk [2]) rfl ?_)
        grind [aJ,aR]
      · intro pre hp hV D hD
        have hc:s.nx n q m=0:=by unfold TG.nx;rw[if_neg og];exact(TG.CF _ _).2 j0
        have hr:s.iB n q m=some ((l7 pre).getLast?.getD 0):=by
          unfold TG.iB
          grind [l7]
        refine gE ?_
        refine mV (.inr rfl) .aa rfl hD ?_
        refine dX rfl (.cell rfl (.t6 .aa) (aG.ld _) kE) (.cell rfl (.t7 .aa) (aG.ld _) EW) (ad (pk [2]) rfl ?_)
        simp_all
    · skip
      have j1:=h2
      refine gO ?_
      refine st (.t2 .aa) (aG.st _ _) rfl ?_
      refine st (.av .aa) (aG.st _ _) rfl ?_
      refine qj (.inr rfl) ?_
      refine dX rfl (.cell rfl (.t2 .aa) (aG.ld _) kE) (.cell rfl (.av .aa) (aG.ld _) EW) (ad .h1 rfl ?_)
      first
      | (have hc:s.nx n q m=s.cx n:=by unfold TG.nx;rw[if_pos aq]
         have hr:s.iB n q m=none:=by unfold TG.iB;rw[if_pos og]
         exact⟨by rw[hr];rfl,rfl⟩)
      | (have hc:s.nx n q m=1:=by unfold TG.nx;rw[if_neg og];exact j1
         have hr:s.iB n q m=none:=by unfold TG.iB;rw[if_pos og]
         exact⟨by rw[hr];rfl,rfl⟩)
  · skip
    have i0:=h1
    refine gO ?_
    refine st (.t2 .aa) (aG.st _ _) rfl ?_
    refine st (.av .aa) (aG.st _ _) rfl ?_
    refine qj (.inr rfl) ?_
    refine dX rfl (.cell rfl (.t2 .aa) (aG.ld _) kE) (.cell rfl (.av .aa) (aG.ld _) EW) (ad .h1 rfl ?_)
    first
    | (have hc:s.nx n q m=s.cx n:=by unfold TG.nx;rw[if_pos aq]
       have hr:s.iB n q m=none:=by unfold TG.iB;rw[if_pos og]
       exact⟨by rw[hr];rfl,rfl⟩)
    | (have hc:s.nx n q m=1:=by unfold TG.nx;rw[if_neg og];exact j1
       have hr:s.iB n q m=none:=by unfold TG.iB;rw[if_pos og]
       exact⟨by rw[hr];rfl,rfl⟩)
def UX(p o:Nat)(s:TG)(n:Int)(hn:0<=n/\n<10)(q m:Int)(Bd:Int)(hB:0<=Bd/\Bd<=1000000000000)(hS:s.bM Bd):Spec Tryz.prog 122 [aC p o 0,iI n,iI q,iI m] [.cells p o 60 (bE s)] (fun v H1=>v= .bool (decide (q<=s.left s.pr n/\m<=s.left s.pg n))/\H1=[.cells p o 60 (bE s)]):=by
 apply Spec.go 74 [0,1,2,3,8,9,10,11,12,30,31,32,46] [] Tryz.func122 rfl rfl rfl;intro W;refine rq [0,1,2,3,4,5,6,7,8,9,10,11,12,13,14,15] mixed ?_;refine sd ?_;apply ld .aa (fy _ _);refine sd ?_;apply ld .aa (fA _ _);apply lZ .aa (wy _);refine lp (σ:=Int) (fun k=>(10-k).toNat) (fun k=>0<=k/\k<=10) (fun k=>[(31,iI k),(9,iI (s.pr n-eZ (s.gF s.pr n) k.toNat)),(10,iI (s.pg n-eZ (s.gF s.pg n) k.toNat)),(0,aC p o 0),(1,iI n),(2,iI q),(3,iI m),(30,.agg (Bf s.aa 10))]) (fun k=>XM W (bZ [.cells p o 60 (bE s)]) [.cells p o 60 (bE s)]) (0) ?_ (.cons rfl (.cons (by rw[show s.pr n-eZ (s.gF s.pr n) (0:Int).toNat=s.pr n from by simp[eZ]];rfl) (S6 (by rw[show s.pg n-eZ (s.gF s.pg n) (0:Int).toNat=s.pg n from by simp[eZ]];rfl) rfl rfl rfl rfl rfl))) (fun _ hw=>XM.pick .h1 hw) ?_
 ·omega
 intro k hk;have acm:=Jw s s.pr n hk.1;have acn:=Jw s s.pg n hk.1;have hbd:=P3 hS hB hn (k:=k) hk.1;apply gC;refine cd rfl ?_ ?_<;>intro h1
 ·have hSn:=hS n hn.1 hn.2;have hSk:=hS k hk.1 og;refine XO.v (vX rfl rfl Tryz.underlying149 DF EW og (GR)) rfl (gO ?_);refine Pt 36 rfl ?_ ?_<;>intro h2
  ·try simp only[sb]at h2
   refine sd ?_;apply ld .aa (fR _ _);refine cd rfl ?_ ?_<;>intro h3
   ·refine sd ?_;apply ld .aa (fy _ _);refine sd ?_;refine sd ?_;apply ld .aa (fA _ _);refine sd ?_;refine sd ?_;refine ag (k+1) ?_ ?_ (.cons rfl (.cons (by rw[acm];rw[show s.gF s.pr n k=s.pr k from by unfold TG.gF;rw[if_pos ⟨by simp_all,by simp_all⟩]];exact Lr) (S6 (by rw[acn];rw[show s.gF s.pg n k=s.pg k from by unfold TG.gF;rw[if_pos ⟨by simp_all,by simp_all⟩]];exact Lr) rfl rfl rfl rfl rfl))) fun _ hw=>XM.pick .h1 hw;all_goals omega
   ·refine sd ?_;refine ag (k+1) ?_ ?_ (.cons rfl (.cons (by rw[acm];rw[show s.gF s.pr n k=0 from by unfold TG.gF;rw[if_neg (by simp_all)]];exact Lr) (S6 (by rw[acn];rw[show s.gF s.pg n k=0 from by unfold TG.gF;rw[if_neg (by simp_all)]];exact Lr) rfl rfl rfl rfl rfl))) fun _ hw=>XM.pick .h1 hw;all_goals omega
  ·try simp only[sb]at h2
   refine sd ?_;refine ag (k+1) ?_ ?_ (.cons rfl (.cons (by rw[acm];rw[show s.gF s.pr n k=0 from by unfold TG.gF;rw[if_neg (by simp_all)]];exact Lr) (S6 (by rw[acn];rw[show s.gF s.pg n k=0 from by unfold TG.gF;rw[if_neg (by simp_all)]];exact Lr) rfl rfl rfl rfl rfl))) fun _ hw=>XM.pick .h1 hw;all_goals omega
 ·refine sp 69 rfl ?_ ?_<;>intro h4
  ·refine ah rfl rfl (ad .h1 rfl ?_);obtain rfl:k=10:=og;refine⟨congrArg Value.bool ?_,rfl⟩;unfold TG.left;simp_all
  ·refine ah rfl rfl (ad .h1 rfl ?_);obtain rfl:k=10:=og;refine⟨congrArg Value.bool ?_,rfl⟩;unfold TG.left;grind
def mJ(p o:Nat)(s:TG)(hO:s.Ok)(n q m:Int)(Bd:Int)(hB:0<=Bd/\Bd<=1000000000000)(hS:s.bM Bd):Spec Tryz.prog 54 [aC p o 0,iI n,iI q,iI m] [.cells p o 60 (bE s)] (fun v H1=>v=az 102 (s.gu n q m)/\H1=[.cells p o 60 (bE (s.fa n q m))]):=by
  apply Spec.go 35 [0,1,2,3,8,9,14,19,26] [] Tryz.func54 rfl rfl rfl
  intro W
  refine ca (Kv _ _ _ _) .h1 ?_
  rintro _ _ (⟨h1,rfl,rfl⟩ | ⟨h1,rfl,rfl⟩)
  · skip
    obtain⟨i0,i1,i2,i3⟩:=h1
    apply gO
    refine ca (DD _ _) .nil ?_
    rintro _ _ (⟨h2,rfl,rfl⟩ | ⟨h2,rfl,rfl⟩)
    · skip
      have j0:=h2
      apply gO
      refine cq (UX _ _ s _ ⟨og,og⟩ _ _ Bd hB hS) .h1 ?_
      refine cd rfl ?_ ?_<;>intro h3
      · skip
        refine ah rfl rfl (ad .h1 rfl ?_)
        try dsimp only[aL,aJ,aD,aR]
        have hc:s.nx n q m=0:=by unfold TG.nx;rw[if_neg og];exact(TG.CF _ _).2 j0
        have hr:s.gu n q m=8:=by unfold TG.gu;rw[if_neg og,if_neg (by simp_all)]
        exact⟨by rw[hr];rfl,by unfold TG.fa;rw[if_neg og]⟩
      · skip
        refine sd (sd ?_)
        refine cq (UW _ _ s hO _ (by first | assumption | exact⟨og,og,aq⟩) _ _ og og Bd hB hS) .h1 ?_
        refine ah rfl rfl (ad .h1 rfl ?_)
        try dsimp only[aL,aJ,aD,aR]
        have hc:s.nx n q m=0:=by unfold TG.nx;rw[if_neg og];exact(TG.CF _ _).2 j0
        have hr:s.gu n q m=0:=by unfold TG.gu;rw[if_neg og,if_pos (by simp_all)]
        exact⟨by rw[hr];rfl,by unfold TG.fa;rw[if_pos hr];simp only[Int.zero_sub]⟩
    · skip
      have j1:=h2
      apply gO
      refine ah rfl rfl (ad .h1 rfl ?_)
      try dsimp only[aL,aJ,aD,aR]
      first
      | (have hc:s.nx n q m=s.cx n:=by unfold TG.nx;rw[if_pos aq]
         have hr:s.gu n q m=s.cx n:=by unfold TG.gu;rw[if_pos og,hc]
         exact⟨by rw[hr,aQ _ aq],by unfold TG.fa;rw[if_neg og]⟩)
      | (have hc:s.nx n q m=1:=by unfold TG.nx;rw[if_neg og];exact j1
         have hr:s.gu n q m=1:=by unfold TG.gu;rw[if_pos og,hc]
         exact⟨by rw[hr];rfl,by unfold TG.fa;rw[if_neg og]⟩)
  · skip
    have i0:=h1
    apply gO
    refine ah rfl rfl (ad .h1 rfl ?_)
    try dsimp only[aL,aJ,aD,aR]
    first
    | (have hc:s.nx n q m=s.cx n:=by unfold TG.nx;rw[if_pos aq]
       have hr:s.gu n q m=s.cx n:=by unfold TG.gu;rw[if_pos og,hc]
       exact⟨by rw[hr,aQ _ aq],by unfold TG.fa;rw[if_neg og]⟩)
    | (have hc:s.nx n q m=1:=by unfold TG.nx;rw[if_neg og];exact j1
       have hr:s.gu n q m=1:=by unfold TG.gu;rw[if_pos og,hc]
       exact⟨by rw[hr];rfl,by unfold TG.fa;rw[if_neg og]⟩)
def aco(p o:Nat)(s:TG)(hO:s.Ok)(a b q m:Int)(Bd:Int)(hB:0<=Bd/\Bd<=900000000000)(hS:s.bM Bd):Spec Tryz.prog 159 [aC p o 0,iI a,iI b,iI q,iI m] [.cells p o 60 (bE s)] (fun v H1=>v=az 102 (s.fg a b q m)/\H1=[.cells p o 60 (bE (s.move a b q m))]):=by
 have hO2:(s.fa a q m).Ok:=hO.fa;have hB2:0<=Bd+320/\Bd+320<=2000000000000:=og;apply Spec.go 39 [0,1,2,3,4,10,11,16,24,32] [] Tryz.func159 rfl rfl rfl;intro W;refine ca (Kv _ _ _ _) .h1 ?_;rintro _ _ (⟨h1,rfl,rfl⟩ | ⟨h1,rfl,rfl⟩)
 ·obtain⟨i0,i1,i2,i3⟩:=h1;apply gO;refine cq (mJ _ _ s hO _ _ _ Bd og hS) .h1 ?_;refine cd rfl ?_ ?_<;>intro h2
  ·refine ah rfl rfl (ad .h1 rfl ?_);try dsimp only[aL,aJ,aD,aR]
   exact⟨by unfold TG.fg;rw[if_neg og,if_pos aq],by rw[show s.fa a q m=s from by unfold TG.fa;rw[if_neg aq],show s.move a b q m=s from by unfold TG.move;rw[if_pos (Or.inr aq)]]⟩
  ·have hS2:(s.fa a q m).bM (Bd+320):=hS.fa hO a q m;obtain⟨⟨a1,a2,a3⟩,q1,q2,m1,m2⟩:=TG.xH (by omega:s.gu a q m=0);have hu:s.fa a q m=s.lay (s.cC a) (-q) (-m):=by unfold TG.fa;rw[if_pos og]
   refine cq (ui _ _ _ hO2 _ _ _ (Bd+320) og hS2) .h1 ?_;refine cd rfl ?_ ?_<;>intro h3
   ·have HS:(s.fa a q m).cv b q m=s.fa a q m:=by unfold TG.cv;rw[if_neg og]
    rw[HS];refine cq (UW _ _ (s.fa a q m) hO2 a (by rw[hu];exact⟨a1,a2,a3⟩) q m og og (Bd+320) og hS2) .h1 ?_;refine ah rfl rfl (ad .h1 rfl ?_);try dsimp only[aL,aJ,aD,aR]
    have hv:s.fg a b q m=(s.fa a q m).cX b q m:=by unfold TG.fg;rw[if_neg og,if_neg og]
    have hm:s.move a b q m=s:=by unfold TG.move;rw[if_neg og,if_neg aq]
    exact⟨by rw[hv],by rw[hm,TG.Ty,hu,TG.Tx]⟩
   ·refine ah rfl rfl (ad .h1 rfl ?_);try dsimp only[aL,aJ,aD,aR]
    have hv:s.fg a b q m=(s.fa a q m).cX b q m:=by unfold TG.fg;rw[if_neg og,if_neg og]
    have hm:s.move a b q m=(s.fa a q m).cv b q m:=by unfold TG.move;rw[if_neg og,if_pos og]
    simp_all
 ·have i0:=h1;apply gO;refine ah rfl rfl (ad .h1 rfl ?_);try dsimp only[aL,aJ,aD,aR]
  exact⟨by unfold TG.fg;rw[if_pos aq,aQ _ aq],by unfold TG.move;rw[if_pos (.inl aq)]⟩
def YC(p o:Nat)(s:TG)(n q m:Int):Spec Tryz.prog 158 [aC p o 0,iI n,iI q,iI m] [.cells p o 60 (bE s)] (fun v H1=>v=az 102 (s.jS n q m)/\H1=[.cells p o 60 (bE (s.nN n q m))]):=by
 apply Spec.go 45 [0,1,2,3,8,9,14,29] [] Tryz.func158 rfl rfl rfl;intro W;refine ca (Kv _ _ _ _) .h1 ?_;rintro _ _ (⟨h1,rfl,rfl⟩ | ⟨h1,rfl,rfl⟩)
 ·obtain⟨i0,i1,i2,i3⟩:=h1;apply gO;refine sp 18 rfl ?_ ?_<;>intro h2
  ·refine ah rfl rfl (ad .h1 rfl ?_);try dsimp only[aL,aJ,aD,aR]
   have hr:s.jS n q m=1:=by unfold TG.jS;rw[if_neg og,if_pos og]
   exact⟨by rw[hr];rfl,by unfold TG.nN;rw[if_neg og]⟩
  ·refine sp 22 rfl ?_ ?_<;>intro h3
   ·refine ah rfl rfl (ad .h1 rfl ?_);try dsimp only[aL,aJ,aD,aR]
    have hr:s.jS n q m=1:=by unfold TG.jS;rw[if_neg og,if_pos og]
    exact⟨by rw[hr];rfl,by unfold TG.nN;rw[if_neg og]⟩
   ·refine sp 26 rfl ?_ ?_<;>intro h4
    ·refine ah rfl rfl (ad .h1 rfl ?_);try dsimp only[aL,aJ,aD,aR]
     have hr:s.jS n q m=1:=by unfold TG.jS;rw[if_neg og,if_pos og]
     exact⟨by rw[hr];rfl,by unfold TG.nN;rw[if_neg og]⟩
    ·refine cd rfl ?_ ?_<;>intro h5
     ·refine ah rfl rfl (ad .h1 rfl ?_);try dsimp only[aL,aJ,aD,aR]
      have hr:s.jS n q m=1:=by unfold TG.jS;rw[if_neg og,if_pos og]
      exact⟨by rw[hr];rfl,by unfold TG.nN;rw[if_neg og]⟩
     ·refine rq [0,1,2,3,4,5,6,7,8,9,11,12,10,13,14,15] mixed (sd (st .aa (sJ _ _ og _) rfl (sd (st .aa (sK _ _ og _) rfl (ah rfl rfl (ad .h1 rfl ?_))))));try dsimp only[aL,aJ,aD,aR]
      have hr:s.jS n q m=0:=by unfold TG.jS;rw[if_neg og,if_neg og]
      exact⟨by rw[hr];rfl,by unfold TG.nN;rw[if_pos hr]⟩
 ·have i0:=h1;apply gO;refine ah rfl rfl (ad .h1 rfl ?_);try dsimp only[aL,aJ,aD,aR]
  have hr:s.jS n q m=s.cx n:=by unfold TG.jS;rw[if_pos aq]
  exact⟨by rw[hr,aQ _ aq],by unfold TG.nN;rw[if_neg og]⟩
def afe(p o:Nat)(s:TG)(hO:s.Ok)(a:Int):Spec Tryz.prog 154 [aC p o 0,iI a] [.cells p o 60 (bE s)] (fun v H1=>v= .tuple #[iI (s.pV a),az 102 (s.wq a)]/\H1=[.cells p o 60 (bE (s.add a))]):=by
 apply Spec.go 45 [0,1,4,5,6,7,8,13,18,23,24,25,29] [] Tryz.func154 rfl rfl rfl;intro W;refine ca (Kv _ _ _ _) .h1 ?_;rintro _ _ (⟨h1,rfl,rfl⟩ | ⟨h1,rfl,rfl⟩)
 ·obtain⟨i0,i1,i2,i3⟩:=h1;apply gO;refine cq (ack _ _ _ hO _ ⟨og,og,aq⟩) .h1 ?_;refine cd rfl ?_ ?_<;>intro h2
  ·refine ao rfl rfl rfl (ad .h1 rfl ?_);try dsimp only[aL,aJ,aD,aR]
   have e:=TG.CC (s:=s) (a:=a) aq og;rw[(TG.tD og).1,(TG.tD og).2];grind [az]
  ·apply lZ .aa (wy _);refine lp (σ:=Int) (fun k=>(10-k).toNat) (fun k=>(0<=k/\k<=10)/\∀ j:Int,0<=j->j<k->s.aa j=true) (fun k=>[(24,iI k),(0,aC p o 0),(1,iI a),(23,.agg (Bf s.aa 10))]) (fun k=>XM W (bZ [.cells p o 60 (bE s)]) [.cells p o 60 (bE s)]) (0) ?_ (S4 rfl rfl rfl rfl) (fun _ hw=>XM.pick .h1 hw) ?_
   ·grind
   intro k hk;obtain⟨hk,Eg⟩:=hk;apply gC;refine cd rfl ?_ ?_<;>intro h3
   ·refine XO.v (vX rfl rfl Tryz.underlying149 DF EW og (GR)) rfl (gO ?_);refine we rfl ?_ ?_<;>intro h4
    ·try simp only[sb]at h4
     refine sd (st .aa (ny _ _ og _) rfl (XO.v (V.build (vs:= #[(0,iI a),(1,iI (-1)),(2,iI (-1))]) rfl (v:=.agg (GV.cO ⟨a,-1,-1,0,0⟩)) fun _=>kq) rfl (gO ?_)));refine sd (gD .aa (zF _ _ og _) rfl ⟨rfl,rfl⟩ (ao rfl rfl rfl (ad .h1 rfl ?_)));try dsimp only[aL,aJ,aD,aR]
     obtain⟨e1,e2,e3⟩:=TG.CD (s:=s) (a:=a) (k:=k) aq og hk.1 og (by simp_all) Eg;rw[e1,e2,e3];exact⟨rfl,rfl⟩
    ·try simp only[sb]at h4
     refine sd (ag (k+1) ?_ ?_ (S4 rfl rfl rfl rfl) fun _ hw=>XM.pick .h1 hw);all_goals grind
   ·refine ao rfl rfl rfl (ad .h1 rfl ?_);try dsimp only[aL,aJ,aD,aR]
    have e:=TG.Tz (s:=s) (a:=a) aq og fun j h1 h2=>Eg j h1 og;rw[(TG.tD og).1,(TG.tD og).2];grind [az]
 ·have i0:=h1;apply gO;refine ao rfl rfl rfl (ad .h1 rfl ?_);try dsimp only[aL,aJ,aD,aR]
  have e:=TG.Hb (s:=s) aq;rw[(TG.tD og).1,(TG.tD og).2];grind [az]
def UY(p o:Nat)(s:TG)(n:Int):Spec Tryz.prog 156 [aC p o 0,iI n] [.cells p o 60 (bE s)] (fun v H1=>v=az 102 (s.cY n)/\H1=[.cells p o 60 (bE (s.ed n))]):=by
 apply Spec.go 70 [0,1,4,5,6,7,12,35,40,41,42,56] [] Tryz.func156 rfl rfl rfl;intro W;refine ca (Kv _ _ _ _) .h1 ?_;rintro _ _ (⟨h1,rfl,rfl⟩ | ⟨h1,rfl,rfl⟩)
 ·obtain⟨i0,i1,i2,i3⟩:=h1;apply gO;refine sp 16 rfl ?_ ?_<;>intro h2
  ·refine ah rfl rfl (ad .h1 rfl ?_);try dsimp only[aL,aJ,aD,aR]
   have e:s.cY n=5:=by unfold TG.cY;rw[if_neg og,if_pos og]
   exact⟨by rw[e]<;>rfl,by unfold TG.ed;rw[if_neg og]⟩
  ·refine sd (ld .aa (fy _ _) ?_);refine sp 26 rfl ?_ ?_<;>intro h3
   ·refine ah rfl rfl (ad .h1 rfl ?_);try dsimp only[aL,aJ,aD,aR]
    have e:s.cY n=5:=by unfold TG.cY;rw[if_neg og,if_pos og]
    exact⟨by rw[e]<;>rfl,by unfold TG.ed;rw[if_neg og]⟩
   ·refine sd (ld .aa (fA _ _) ?_);refine cd rfl ?_ ?_<;>intro h4
    ·refine ah rfl rfl (ad .h1 rfl ?_);try dsimp only[aL,aJ,aD,aR]
     have e:s.cY n=5:=by unfold TG.cY;rw[if_neg og,if_pos og]
     exact⟨by rw[e]<;>rfl,by unfold TG.ed;rw[if_neg og]⟩
    ·apply lZ .aa (wy _);refine lp (σ:=Int) (fun k=>(10-k).toNat) (fun k=>(0<=k/\k<=10)/\∀ j:Int,0<=j->j<k->¬(s.aa j=true/\s.aA j=n)) (fun k=>[(41,iI k),(0,aC p o 0),(1,iI n),(40,.agg (Bf s.aa 10))]) (fun k=>XM W (bZ [.cells p o 60 (bE s)]) [.cells p o 60 (bE s)]) (0) ?_ (S4 rfl rfl rfl rfl) (fun _ hw=>XM.pick .h1 hw) ?_
     ·grind
     intro k hk;obtain⟨hk,Eg⟩:=hk;apply gC;refine cd rfl ?_ ?_<;>intro h5
     ·refine XO.v (vX rfl rfl Tryz.underlying149 DF EW og (GR)) rfl (gO ?_);refine Pt 46 rfl ?_ ?_<;>intro h6
      ·try simp only[sb]at h6
       refine sd (ld .aa (fR _ _) ?_);refine cd rfl ?_ ?_<;>intro h7
       ·refine ah rfl rfl (ad .h1 rfl ?_);try dsimp only[aL,aJ,aD,aR]
        have hkn:=TG.NZ (s:=s) (n:=n) hk.1 og (by simp_all) (by simp_all);have e:s.cY n=5:=by unfold TG.cY;rw[if_neg og,if_pos (Or.inr (Or.inr (Or.inr hkn)))]
        exact⟨by rw[e]<;>rfl,by unfold TG.ed;rw[if_neg og]⟩
       ·refine sd (ag (k+1) ?_ ?_ (S4 rfl rfl rfl rfl) fun _ hw=>XM.pick .h1 hw);all_goals grind
      ·try simp only[sb]at h6
       refine sd (ag (k+1) ?_ ?_ (S4 rfl rfl rfl rfl) fun _ hw=>XM.pick .h1 hw);all_goals grind
     ·refine sd (st .aa (ny _ _ og _) rfl (XO.v (V.build (vs:= #[]) rfl (v:=.agg GV.zero.cO) fun _=>kq) rfl (gO ?_)));refine sd (gD .aa (zF _ _ og _) rfl ⟨rfl,rfl⟩ (ah rfl rfl (ad .h1 rfl ?_)));try dsimp only[aL,aJ,aD,aR]
      have hkn:=TG.Xz (s:=s) (n:=n) fun j h1 h2=>Eg j h1 og;have e:s.cY n=0:=by unfold TG.cY;rw[if_neg og,if_neg (by rw[hkn];simp;omega)]
      exact⟨by rw[e]<;>rfl,by unfold TG.ed;rw[if_pos e];rfl⟩
 ·have i0:=h1;apply gO;refine ah rfl rfl (ad .h1 rfl ?_);try dsimp only[aL,aJ,aD,aR]
  have e:s.cY n=s.cx n:=by unfold TG.cY;rw[if_pos aq]
  exact⟨by rw[e,aQ _ aq],by unfold TG.ed;rw[if_neg og]⟩
def aff:Spec Tryz.prog 95 [] [] (fun v H1=>∃ p,v=aC p 0 0/\H1=[.cells p 0 60 (bE TG.cP)]):=by
 apply Spec.go 14 [0,1] [] Tryz.func95 rfl rfl rfl;intro W;refine XO.v (V.build (vs:= #[]) rfl (v:=.agg #[iI 0,iI 0,iI 0,iI 0,iI 0,iI 0,iI 0,iI 0,iI 0,iI 0,iI 0,iI 0,iI 0,iI 0,iI 0,iI 0,iI 0,iI 0,iI 0,iI 0,iI 0,iI 0,iI 0,iI 0,iI 0,iI 0,iI 0,iI 0,iI 0,iI 0,iI 0,iI 0,iI 0,iI 0,iI 0,iI 0,iI 0,iI 0,iI 0,iI 0,iI 0,iI 0,iI 0,iI 0,iI 0,iI 0,iI 0,iI 0,iI 0,iI 0,.bool false,.bool false,.bool false,.bool false,.bool false,.bool false,.bool false,.bool false,.bool false,.bool false]) fun _=>kq) rfl (gO ?_);refine XO.box (m:=60) (C:=bE TG.dm) rfl rfl aeJ rfl ?_;intro p;apply gO;refine sd (st .aa (ny _ _ og _) rfl (XO.v (V.build (vs:= #[(0,iI (-1)),(1,iI (-1)),(2,iI (-1))]) rfl (v:=.agg (GV.cO ⟨-1,-1,-1,0,0⟩)) fun _=>kq) rfl (gO ?_)));refine sd (gD .aa (zF _ _ og _) rfl ⟨rfl,rfl⟩ (ah rfl rfl (ad .h1 rfl ?_)));exact⟨_,rfl,rfl⟩
end Go.X.Gr
