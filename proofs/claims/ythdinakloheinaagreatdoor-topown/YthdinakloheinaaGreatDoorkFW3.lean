import Derived.Test.YthdinakloheinaaGreatDoorkGW
set_option linter.all false
namespace Go.X.Gr
open Go Go.Proofs Go.X
set_option maxRecDepth 20000
set_option maxHeartbeats 4000000
def aa2:n5 Tryz.prog 66=true:=kq
def V2:cX Tryz.prog 116=true:=kq
def Pd:eI Tryz.prog 66 3=some 3:=kq
def Pe:eI Tryz.prog 66 4=some 4:=kq
def Pf:jR Tryz.prog 33=true:=kq
def E6:jR Tryz.prog 4=true:=kq
def Zl:fm Tryz.prog 33=some 1:=kq
def Ed:fm Tryz.prog 4=some 1:=kq
def Pg:fm Tryz.prog 66=some 5:=kq
def V3(p o:Nat)(s:TG)(hO:s.Ok)(n:Int)(hn:0<=n/\n<10/\s.aa n=true)(q m:Int)(hq: -20<=q/\q<=20)(hm: -64<=m/\m<=64)(Bd:Int)(hB:0<=Bd/\Bd<=1000000000000)(hS:s.bV Bd):Spec Tryz.prog 117 [az p o 0,iI n,iI q,iI m] [.cells p o 60 (bH s)] (fun v H1=>v= .tuple #[]/\H1=[.cells p o 60 (bH (s.lay (s.dm n) q m))]):=by
 have mw:=hO.dm hn.1 hn.2.1 hn.2.2;obtain⟨xs,Ls⟩:=qS _ mw.1.range;have Pc:xs.length<=4:=by
  grind [my]
 apply tF 39 [1,4,6,7,11] [] Tryz.func117 rfl rfl rfl;intro W;apply XO.box (m:=1) (C:=aB (az p o 0)) rfl rfl (fun _ _=>rfl) rfl;intro bT;apply gO;apply XO.box (m:=1) (C:=aB (iI q)) rfl rfl (fun _ _=>rfl) rfl;intro bq;apply gO;apply XO.box (m:=1) (C:=aB (iI m)) rfl rfl (fun _ _=>rfl) rfl;intro bm;apply gO;apply ld (.t2 .aa) (aB.ld _);refine ca (Ec _ _ _) .nil ?_;rintro _ _ ⟨b1,b2,rfl,rfl⟩;apply gO;refine uX (xs:=xs) (fun x:QA=>iI x.1) (fun pre=>pre.length<=xs.length) (fun _=>False) (fun pre=>[.cells b1 0 1 (aB (iI n)),.cells b2 0 1 (aB (az p o 0)),.cells p o 60 (bH (s.lay (my pre) q m)),.cells bT 0 1 (aB (az p o 0)),.cells bq 0 1 (aB (iI q)),.cells bm 0 1 (aB (iI m))]) (fun pre=>[.cells b1 0 1 (aB (iI n)),.cells b2 0 1 (aB (az p o 0)),.cells p o 60 (bH (s.lay (my pre) q m)),.cells bT 0 1 (aB (az p o 0)),.cells bq 0 1 (aB (iI q)),.cells bm 0 1 (aB (iI m))]) rfl (nw Ea) rfl rfl (fun w hw=>uQ p o b1 b2 n s.aD xs (by rw[Ls];exact mw.1) w (lg (by rfl) hw.fa .aa (.ao .aa) (.t5 .aa))) ?_ (fun _ hw=>by rw[show s.lay (my []) q m=s from TG.Ym s q m];exact XM.pick (pk [0,0,3,2,1,0]) hw) (fun _=>rfl) (fun _=>rfl) ?_ ?_ ?_
 ·simp_all
 ·intro pre x w hV hlen hx;have hsm:=hS.lay (l:=my pre) (by simp[my];omega) hq hm x.1 x.2.1 x.2.2;obtain⟨x1,x2⟩:=x.2;refine XB.block (XB.seq (XB.il mixed (f:=14) (l:= #[qF,qF,qF,qF,qF,qF,qF,qF,qF,qF,qF,qF,qF,qF]) rfl rfl XM.kL (XQ.load (i:=0) (.cells _ _ _ _) [13] rfl kq rfl (.t3 .aa) (V.load rfl eh (aB.ld _) D9) rfl kq rfl (XQ.pv (i:=1) rfl kq rfl (V.move rfl) rfl rfl (XQ.pv (i:=2) rfl kq rfl (bC rfl) rfl rfl (XQ.pv (i:=3) rfl kq rfl (V.fieldAddr rfl pC) rfl rfl (XQ.pv (i:=4) rfl kq rfl (jh rfl rfl D8 og) rfl rfl (XQ.pv (i:=5) rfl kq rfl (V.fieldAddr rfl Pd) rfl rfl (XQ.load (i:=6) (.cells _ _ _ _) [13] rfl kq rfl (.t2 .aa) (V.load rfl eh (fG _ _) la) rfl kq rfl (XQ.load (i:=7) (.cells _ _ _ _) [13] rfl kq rfl (.t4 .aa) (V.load rfl eh (aB.ld _) la) rfl kq rfl (XQ.pv (i:=8) rfl kq rfl (V.add rfl rfl _ (IntWalk.i64_in _ og)) rfl rfl (XQ.pv (i:=9) rfl kq rfl (bC rfl) rfl rfl (XQ.pv (i:=10) rfl kq rfl (V.fieldAddr rfl pC) rfl rfl (XQ.pv (i:=11) rfl kq rfl (jh rfl rfl D8 og) rfl rfl (XQ.pv (i:=12) rfl kq rfl (V.fieldAddr rfl Pd) rfl rfl (XQ.store (i:=13) rfl kq rfl rfl rfl (.t2 .aa) (wU _ _ og _) rfl nW (fun _ dX=>⟨fun hs=>(hs 13 (by first | (simp;done) | (simp;rfl)) rfl).elim,fun hs=>(hs 13 (by first | (simp;done) | (simp;rfl)) rfl).elim,fun hs=>(hs 13 (by first | (simp;done) | (simp;rfl)) rfl).elim,trivial⟩) (XQ.done kq (oP (XB.fA [(4,_),(7,_),(8,_)] S3 (XB.il mixed (f:=14) (l:= #[qF,qF,qF,qF,qF,qF,qF,qF,qF,qF,qF,qF,qF,qF]) rfl rfl XM.kL (XQ.load (i:=0) (.cells _ _ _ _) [13] rfl kq rfl (.t3 .aa) (V.load rfl eh (aB.ld _) D9) rfl kq rfl (XQ.pv (i:=1) rfl kq rfl (V.move rfl) rfl rfl (XQ.pv (i:=2) rfl kq rfl (bC rfl) rfl rfl (XQ.pv (i:=3) rfl kq rfl (V.fieldAddr rfl pC) rfl rfl (XQ.pv (i:=4) rfl kq rfl (jh rfl rfl D8 og) rfl rfl (XQ.pv (i:=5) rfl kq rfl (V.fieldAddr rfl Pe) rfl rfl (XQ.load (i:=6) (.cells _ _ _ _) [13] rfl kq rfl (.t2 .aa) (V.load rfl eh (fH _ _) la) rfl kq rfl (XQ.load (i:=7) (.cells _ _ _ _) [13] rfl kq rfl (.t5 .aa) (V.load rfl eh (aB.ld _) la) rfl kq rfl (XQ.pv (i:=8) rfl kq rfl (V.add rfl rfl _ (IntWalk.i64_in _ (by have:=hsm.2.2;show _<=(s.lay (my pre) q m).pg x.1+m/\(s.lay (my pre) q m).pg x.1+m<=_;omega))) rfl rfl (XQ.pv (i:=9) rfl kq rfl (bC rfl) rfl rfl (XQ.pv (i:=10) rfl kq rfl (V.fieldAddr rfl pC) rfl rfl (XQ.pv (i:=11) rfl kq rfl (jh rfl rfl D8 og) rfl rfl (XQ.pv (i:=12) rfl kq rfl (V.fieldAddr rfl Pe) rfl rfl (XQ.store (i:=13) rfl kq rfl rfl rfl (.t2 .aa) (wV _ _ og _) rfl nW (fun _ dX=>⟨fun hs=>(hs 13 (by first | (simp;done) | (simp;rfl)) rfl).elim,fun hs=>(hs 13 (by first | (simp;done) | (simp;rfl)) rfl).elim,fun hs=>(hs 13 (by first | (simp;done) | (simp;rfl)) rfl).elim,trivial⟩) (XQ.done kq (gF (xC hx ?_ rfl (fun w2 hg=>lg (by rfl) hg .aa (.ao .aa) (.t2 .aa)) fun w2 lG=> ?_)))))))))))))))))))))))))))))))))))))
  ·grind
  ·have:=XM.pick (pz 6) lG;rw[FL,TG.Un];omega
 ·intro hV D hD;refine gE (nu (.inl rfl) .aa rfl hD (cU rfl (ah (pk [2]) rfl ?_)));simp_all
 ·intro pre hp hV D hD;exact hV.elim
def Zm(p o:Nat)(s:TG)(hO:s.Ok)(n q:Int):Spec Tryz.prog 244 [az p o 0,iI n,iI q] [.cells p o 60 (bH s)] (fun v H1=>v= .bool (s.under n q)/\H1=[.cells p o 60 (bH s)]):=by
 refine tF 19 [0,1,5,6,11,14] [] Tryz.func244 rfl rfl rfl ?_;intro W;refine XO.box (m:=1) (C:=aB (iI q)) rfl rfl (fun _ _=>rfl) rfl ?_;intro bq;refine gO ?_;refine XO.bQ (z:=.bool false) (m:=1) (C:=aB (.bool false)) (fun _ _=>rfl) ?_;intro br;refine gO ?_;refine ca (K2 _ _ _ _) (pk [2]) ?_;rintro _ _ (⟨h1,rfl,rfl⟩ | ⟨h1,rfl,rfl⟩)
 ·obtain⟨i0,i1,i2,i3⟩:=h1;have mw:=hO.dm i1 i2 i3;obtain⟨xs,Ls⟩:=qS _ mw.1.range;have Pc:xs.length<=4:=by
   grind [my]
  refine gO ?_;refine ca (Ec _ _ _) .nil ?_;rintro _ _ ⟨b1,b2,rfl,rfl⟩;refine gO ?_;refine uX (xs:=xs) (fun x:QA=>iI x.1) (fun pre=>∀ x∈pre,¬x.1=q) (fun pre=>∃ x∈pre,x.1=q) (fun pre=>[.cells b1 0 1 (aB (iI n)),.cells b2 0 1 (aB (az p o 0)),.cells p o 60 (bH s),.cells bq 0 1 (aB (iI q)),.cells br 0 1 (aB (.bool false))]) (fun pre=>[.cells b1 0 1 (aB (iI n)),.cells b2 0 1 (aB (az p o 0)),.cells p o 60 (bH s),.cells bq 0 1 (aB (iI q)),.cells br 0 1 (aB (.bool true))]) rfl (nw Ea) rfl rfl (fun w hw=>uQ p o b1 b2 n s.aD xs (by rw[Ls];exact mw.1) w (lg (by rfl) hw.fa .aa (.ao .aa) (.t2 .aa))) ?_ (xq (pk [0,0,0,1,0])) (fun _=>rfl) (fun _=>rfl) ?_ ?_ ?_
  ·simp_all
  ·intro pre x w hV hlen hx;refine XB.block ?_;refine XB.seq ?_;refine XB.region ?_;refine XO.v (V.move rfl) rfl ?_;refine XO.l (V.load rfl (fb (.t3 .aa)) (aB.ld _) la) rfl ?_;refine XO.v (SU rfl rfl rfl) rfl ?_;refine XO.nil ?_;refine oP ?_;refine XB.fA [(6,_),(18,_)] S2 ?_;refine XB.NP rfl (fun h2=> ?_) fun h2=> ?_
   ·refine XB.seq ?_;refine XB.region ?_;refine XO.store rfl rfl (.t4 .aa) (aB.st _ _) rfl Ed ?_;refine XO.nil ?_;refine oP ?_;refine XB.fA [(6,_)] S1 ?_;refine XB.ret ?_;refine lD ?_;refine XE.gw hx ?_ rfl fun w2 lG=> ?_;all_goals simp_all
   ·refine XB.skip ?_;refine gF ?_;refine xC hx ?_ rfl (fun w2 hg=>lg (by rfl) hg .aa (.ao .aa) (.t2 .aa)) fun w2 lG=> ?_;all_goals grind
  ·intro hV D hD;have hr:s.under n q=false:=by
    unfold TG.under;grind [my]
   refine gE ?_;refine st (.t5 .aa) (aB.st _ _) rfl ?_;refine nu (.inr rfl) .aa rfl hD ?_;refine jz rfl (.cell rfl (.t4 .aa) (aB.ld _) E6) (ah (pk [2]) rfl ?_);grind [aS,bN]
  ·intro pre hp hV D hD;have hr:s.under n q=true:=by
    unfold TG.under;grind [my]
   refine gE ?_;refine nu (.inr rfl) .aa rfl hD ?_;refine jz rfl (.cell rfl (.t4 .aa) (aB.ld _) E6) (ah (pk [2]) rfl ?_);simp_all
 ·have i0:=h1;refine gO ?_;refine st (.ao .aa) (aB.st _ _) rfl ?_;refine qx (.inr rfl) ?_;refine jz rfl (.cell rfl (.ao .aa) (aB.ld _) E6) (ah .h1 rfl ?_);try dsimp only[aU,aS,bG,bN]
  exact⟨by unfold TG.under;rw[if_pos og],rfl⟩
def uR(p o:Nat)(s:TG)(hO:s.Ok)(n q m:Int)(Bd:Int)(hB:0<=Bd/\Bd<=1000000000000)(hS:s.bV Bd):Spec Tryz.prog 51 [az p o 0,iI n,iI q,iI m] [.cells p o 60 (bH s)] (fun v H1=>v=ay 102 (s.cY n q m)/\H1=[.cells p o 60 (bH (s.bE n q m))]):=by
  refine tF 42 [1,4,6,7,8,9,15,20,24] [] Tryz.func51 rfl rfl rfl ?_
  intro W
  refine XO.box (m:=1) (C:=aB (az p o 0)) rfl rfl (fun _ _=>rfl) rfl ?_
  intro bT
  refine gO ?_
  refine XO.box (m:=1) (C:=aB (iI q)) rfl rfl (fun _ _=>rfl) rfl ?_
  intro bq
  refine gO ?_
  refine XO.box (m:=1) (C:=aB (iI m)) rfl rfl (fun _ _=>rfl) rfl ?_
  intro bm
  refine gO ?_
  refine XO.bQ (z:=.nilIface) (m:=1) (C:=aB (.nilIface)) (fun _ _=>rfl) ?_
  intro be
  refine gO ?_
  refine ld (.t3 .aa) (aB.ld _) ?_
  refine ca (K2 _ _ _ _) (pk [4]) ?_
  rintro _ _ (⟨h1,rfl,rfl⟩ | ⟨h1,rfl,rfl⟩)
  · skip
    obtain⟨i0,i1,i2,i3⟩:=h1
    refine gO ?_
    refine ld (.t3 .aa) (aB.ld _) ?_
    refine ld (.t2 .aa) (aB.ld _) ?_
    refine ca (Eb _ _) .nil ?_
    rintro _ _ (⟨h2,rfl,rfl⟩ | ⟨h2,rfl,rfl⟩)
    · skip
      have j0:=h2
      have mw:=hO.dm i1 i2 i3
      obtain⟨xs,Ls⟩:=qS _ mw.1.range
      have Pc:xs.length<=4:=by
        grind [my]
      refine gO ?_
      refine ld (.t4 .aa) (aB.ld _) ?_
      refine ca (Ec _ _ _) .nil ?_
      rintro _ _ ⟨b1,b2,rfl,rfl⟩
      refine gO ?_
      refine uX (xs:=xs) (fun x:QA=>iI x.1) (fun pre=>∀ x∈pre,s.room q m x.1=true) (fun pre=>∃ x∈pre,s.room q m x.1=false) (fun pre=>[.cells b1 0 1 (aB (iI n)),.cells b2 0 1 (aB (az p o 0)),.cells p o 60 (bH s),.cells bT 0 1 (aB (az p o 0)),.cells bq 0 1 (aB (iI q)),.cells bm 0 1 (aB (iI m)),.cells be 0 1 (aB (.nilIface))]) (fun pre=>[.cells b1 0 1 (aB (iI n)),.cells b2 0 1 (aB (az p o 0)),.cells p o 60 (bH s),.cells bT 0 1 (aB (az p o 0)),.cells bq 0 1 (aB (iI q)),.cells bm 0 1 (aB (iI m)),.cells be 0 1 (aB (.iface 102 (iI 6)))]) rfl (nw Ea) rfl rfl (fun w hw=>uQ p o b1 b2 n s.aD xs (by rw[Ls];exact mw.1) w (lg (by rfl) hw.fa .aa (.ao .aa) (.t2 .aa))) ?_ (xq (pk [0,0,0,3,2,1,0])) (fun _=>rfl) (fun _=>rfl) ?_ ?_ ?_
      · simp_all
      · intro pre x w hV hlen hx
        have hsm:=hS x.1 x.2.1 x.2.2
        obtain⟨x1,x2⟩:=x.2
        have hr0: -9223372036854775808<=(s.gv x.1).pr+q/\(s.gv x.1).pr+q<=9223372036854775807:=by show _<=s.pr x.1+q/\s.pr x.1+q<=_;omega
        have GF: -9223372036854775808<=(s.gv x.1).pg+m/\(s.gv x.1).pg+m<=9223372036854775807:=by show _<=s.pg x.1+m/\s.pg x.1+m<=_;omega
        refine XB.block ?_
        refine XB.seq ?_
        refine XB.il mixed (f:=10) (l:= #[qF,qF,qF,qF,qF,qF,qF,qF,qF,qF]) rfl rfl XM.kL ?_
        refine XQ.load (i:=0) (.cells _ _ _ _) [8] rfl kq rfl (.t3 .aa) (V.load rfl eh (aB.ld _) D9) rfl kq rfl ?_
        refine XQ.pv (i:=1) rfl kq rfl (V.move rfl) rfl rfl ?_
        refine XQ.pv (i:=2) rfl kq rfl (bC rfl) rfl rfl ?_
        refine XQ.pv (i:=3) rfl kq rfl (V.fieldAddr rfl pC) rfl rfl ?_
        refine XQ.pv (i:=4) rfl kq rfl (jh rfl rfl D8 og) rfl rfl ?_
        refine XQ.load (i:=5) (.cells _ _ _ _) [8] rfl kq rfl (.t2 .aa) (eG rfl eh (JH _ _) aa2 Pg) rfl kq rfl ?_
        refine XQ.load (i:=6) (.cells _ _ _ _) [8] rfl kq rfl (.t4 .aa) (V.load rfl eh (aB.ld _) la) rfl kq rfl ?_
        refine XQ.load (i:=7) (.cells _ _ _ _) [8] rfl kq rfl (.t5 .aa) (V.load rfl eh (aB.ld _) la) rfl kq rfl ?_
        refine XQ.call (i:=8) rfl kq rfl rfl (V1 _ _ _ aq aq) .nil V2 rfl (by rintro _ _ ⟨rfl,rfl⟩;all_goals(intro _ dX;refine⟨?_,?_,?_,?_,trivial⟩<;>exact fun hs=>(hs 8 (by first | (simp;done) | (simp;rfl)) rfl).elim)) ?_
        rintro _ _ ⟨rfl,rfl⟩
        refine XQ.pv (i:=9) rfl kq rfl (V.not rfl) rfl rfl ?_
        refine XQ.done kq ?_
        refine oP ?_
        refine XB.fA [(8,_),(35,_)] S2 ?_
        refine XB.cond rfl (fun h3=> ?_) fun h3=> ?_
        · try simp only[sb]at h3
          have hX:=h3
          refine XB.seq ?_
          refine XB.region ?_
          refine XO.v (AO rfl Tryz.underlying102 sq) rfl ?_
          refine XO.store rfl rfl (.t6 .aa) (aB.st _ _) rfl Zl ?_
          refine XO.nil ?_
          refine oP ?_
          refine XB.fA [(8,_)] S1 ?_
          refine XB.ret ?_
          refine lD ?_
          refine XE.gw hx ?_ rfl fun w2 lG=> ?_
          · skip
            exact⟨x,sq,by simpa [TG.room]using hX⟩
          omega
        · try simp only[sb]at h3
          have hX:=h3
          refine XB.skip ?_
          refine gF ?_
          refine xC hx ?_ rfl (fun w2 hg=>lg (by rfl) hg .aa (.ao .aa) (.t2 .aa)) fun w2 lG=> ?_
          · skip
            intro y hy
            rcases List.mem_append.1 hy with hy | hy
            · grind
            · simp at hy;subst hy;simpa [TG.room]using hX
          simp_all
      · intro hV D hD
        have hc:s.o7 n q m=0:=by unfold TG.o7;rw[if_neg og];exact(TG.A3 _ _).2 j0
        have hr:s.cY n q m=0:=by
          unfold TG.cY
          grind [my]
        have Bv:s.bE n q m=s.lay (s.dm n) q m:=by unfold TG.bE;rw[if_pos hr]
        refine gE ?_
        refine ld (.t4 .aa) (aB.ld _) ?_
        refine ld (.t5 .aa) (aB.ld _) ?_
        refine ld (.t6 .aa) (aB.ld _) ?_
        refine cq (V3 _ _ s hO _ (by first | assumption | exact⟨og,og,aq⟩) _ _ og og Bd hB hS) (pk [3]) ?_
        refine st (.t7 .aa) (aB.st _ _) rfl ?_
        refine nu (.inr rfl) (.ao .aa) rfl hD ?_
        refine jz rfl (.cell rfl (.t6 .aa) (aB.ld _) Pf) (ah .h1 rfl ?_)
        grind [aS,bN,ay]
      · intro pre hp hV D hD
        have hc:s.o7 n q m=0:=by unfold TG.o7;rw[if_neg og];exact(TG.A3 _ _).2 j0
        have hr:s.cY n q m=6:=by
          unfold TG.cY
          grind [my]
        have Bv:s.bE n q m=s:=by unfold TG.bE;rw[if_neg og]
        refine gE ?_
        refine nu (.inr rfl) .aa rfl hD ?_
        refine jz rfl (.cell rfl (.t6 .aa) (aB.ld _) Pf) (ah (pk [2]) rfl ?_)
        grind [ay]
    · skip
      have j1:=h2
      refine gO ?_
      refine st (.ao .aa) (aB.st _ _) rfl ?_
      refine qx (.inr rfl) ?_
      refine jz rfl (.cell rfl (.ao .aa) (aB.ld _) Pf) (ah .h1 rfl ?_)
      try dsimp only[aU,aS,bG,bN]
      first
      | (have hc:s.o7 n q m=s.cF n:=by unfold TG.o7;rw[if_pos aq]
         have hr:s.cY n q m=s.cF n:=by unfold TG.cY;rw[if_pos og,hc]
         exact⟨by rw[hr,aK _ aq],by unfold TG.bE;rw[if_neg og]⟩)
      | (have hc:s.o7 n q m=1:=by unfold TG.o7;rw[if_neg og];exact j1
         have hr:s.cY n q m=1:=by unfold TG.cY;rw[if_pos og,hc]
         exact⟨by rw[hr];rfl,by unfold TG.bE;rw[if_neg og]⟩)
  · skip
    have i0:=h1
    refine gO ?_
    refine st (.ao .aa) (aB.st _ _) rfl ?_
    refine qx (.inr rfl) ?_
    refine jz rfl (.cell rfl (.ao .aa) (aB.ld _) Pf) (ah .h1 rfl ?_)
    try dsimp only[aU,aS,bG,bN]
    first
    | (have hc:s.o7 n q m=s.cF n:=by unfold TG.o7;rw[if_pos aq]
       have hr:s.cY n q m=s.cF n:=by unfold TG.cY;rw[if_pos og,hc]
       exact⟨by rw[hr,aK _ aq],by unfold TG.bE;rw[if_neg og]⟩)
    | (have hc:s.o7 n q m=1:=by unfold TG.o7;rw[if_neg og];exact j1
       have hr:s.cY n q m=1:=by unfold TG.cY;rw[if_pos og,hc]
       exact⟨by rw[hr];rfl,by unfold TG.bE;rw[if_neg og]⟩)
def Zn(p o:Nat)(s:TG)(hO:s.Ok)(n q m:Int)(Bd:Int)(hB:0<=Bd/\Bd<=1000000000000)(hS:s.bV Bd):Spec Tryz.prog 228 [az p o 0,iI n,iI q,iI m] [.cells p o 60 (bH s)] (fun v H1=>v= .tuple #[iI ((s.iM n q m).getD 0),.bool (s.iM n q m).isSome]/\H1=[.cells p o 60 (bH s)]):=by
  refine tF 36 [1,4,6,7,8,9,20,23] [] Tryz.func228 rfl rfl rfl ?_
  intro W
  refine XO.box (m:=1) (C:=aB (az p o 0)) rfl rfl (fun _ _=>rfl) rfl ?_
  intro bT
  refine gO ?_
  refine XO.box (m:=1) (C:=aB (iI q)) rfl rfl (fun _ _=>rfl) rfl ?_
  intro bq
  refine gO ?_
  refine XO.box (m:=1) (C:=aB (iI m)) rfl rfl (fun _ _=>rfl) rfl ?_
  intro bm
  refine gO ?_
  refine XO.bQ (z:=iI 0) (m:=1) (C:=aB (iI 0)) (fun _ _=>rfl) ?_
  intro br
  refine gO ?_
  refine XO.bQ (z:=.bool false) (m:=1) (C:=aB (.bool false)) (fun _ _=>rfl) ?_
  intro bo
  refine gO ?_
  refine ld (.t4 .aa) (aB.ld _) ?_
  refine ca (K2 _ _ _ _) (pk [5]) ?_
  rintro _ _ (⟨h1,rfl,rfl⟩ | ⟨h1,rfl,rfl⟩)
  · skip
    obtain⟨i0,i1,i2,i3⟩:=h1
    refine gO ?_
    refine ld (.t4 .aa) (aB.ld _) ?_
    refine ld (.t3 .aa) (aB.ld _) ?_
    refine ca (Eb _ _) .nil ?_
    rintro _ _ (⟨h2,rfl,rfl⟩ | ⟨h2,rfl,rfl⟩)
    · skip
      have j0:=h2
      have mw:=hO.dm i1 i2 i3
      obtain⟨xs,Ls⟩:=qS _ mw.1.range
      have Pc:xs.length<=4:=by
        grind [my]
      refine gO ?_
      refine ld (.t5 .aa) (aB.ld _) ?_
      refine ca (Ec _ _ _) .nil ?_
      rintro _ _ ⟨b1,b2,rfl,rfl⟩
      refine gO ?_
      refine uX (xs:=xs) (fun x:QA=>iI x.1) (fun pre=>∀ x∈pre,s.room q m x.1=true) (fun pre=>∃ l x,pre=l++[x]/\(∀ y∈l,s.room q m y.1=true)/\s.room q m x.1=false) (fun pre=>[.cells b1 0 1 (aB (iI n)),.cells b2 0 1 (aB (az p o 0)),.cells p o 60 (bH s),.cells bT 0 1 (aB (az p o 0)),.cells bq 0 1 (aB (iI q)),.cells bm 0 1 (aB (iI m)),.cells br 0 1 (aB (iI 0)),.cells bo 0 1 (aB (.bool false))]) (fun pre=>[.cells b1 0 1 (aB (iI n)),.cells b2 0 1 (aB (az p o 0)),.cells p o 60 (bH s),.cells bT 0 1 (aB (az p o 0)),.cells bq 0 1 (aB (iI q)),.cells bm 0 1 (aB (iI m)),.cells br 0 1 (aB (iI ((my pre).getLast?.getD 0))),.cells bo 0 1 (aB (.bool true))]) rfl (nw Ea) rfl rfl (fun w hw=>uQ p o b1 b2 n s.aD xs (by rw[Ls];exact mw.1) w (lg (by rfl) hw.fa .aa (.ao .aa) (.t2 .aa))) ?_ (xq (pk [0,0,0,4,3,2,1,0])) (fun _=>rfl) (fun _=>rfl) ?_ ?_ ?_
      · simp_all
      · intro pre x w hV hlen hx
        have hsm:=hS x.1 x.2.1 x.2.2
        obtain⟨x1,x2⟩:=x.2
        have hr0: -9223372036854775808<=(s.gv x.1).pr+q/\(s.gv x.1).pr+q<=9223372036854775807:=by show _<=s.pr x.1+q/\s.pr x.1+q<=_;omega
        have GF: -9223372036854775808<=(s.gv x.1).pg+m/\(s.gv x.1).pg+m<=9223372036854775807:=by show _<=s.pg x.1+m/\s.pg x.1+m<=_;omega
        refine XB.block ?_
        refine XB.seq ?_
        refine XB.il mixed (f:=10) (l:= #[qF,qF,qF,qF,qF,qF,qF,qF,qF,qF]) rfl rfl XM.kL ?_
        refine XQ.load (i:=0) (.cells _ _ _ _) [8] rfl kq rfl (.t3 .aa) (V.load rfl eh (aB.ld _) D9) rfl kq rfl ?_
        refine XQ.pv (i:=1) rfl kq rfl (V.move rfl) rfl rfl ?_
        refine XQ.pv (i:=2) rfl kq rfl (bC rfl) rfl rfl ?_
        refine XQ.pv (i:=3) rfl kq rfl (V.fieldAddr rfl pC) rfl rfl ?_
        refine XQ.pv (i:=4) rfl kq rfl (jh rfl rfl D8 og) rfl rfl ?_
        refine XQ.load (i:=5) (.cells _ _ _ _) [8] rfl kq rfl (.t2 .aa) (eG rfl eh (JH _ _) aa2 Pg) rfl kq rfl ?_
        refine XQ.load (i:=6) (.cells _ _ _ _) [8] rfl kq rfl (.t4 .aa) (V.load rfl eh (aB.ld _) la) rfl kq rfl ?_
        refine XQ.load (i:=7) (.cells _ _ _ _) [8] rfl kq rfl (.t5 .aa) (V.load rfl eh (aB.ld _) la) rfl kq rfl ?_
        refine XQ.call (i:=8) rfl kq rfl rfl (V1 _ _ _ aq aq) .nil V2 rfl (by rintro _ _ ⟨rfl,rfl⟩;all_goals(intro _ dX;refine⟨?_,?_,?_,?_,trivial⟩<;>exact fun hs=>(hs 8 (by first | (simp;done) | (simp;rfl)) rfl).elim)) ?_
        rintro _ _ ⟨rfl,rfl⟩
        refine XQ.pv (i:=9) rfl kq rfl (V.not rfl) rfl rfl ?_
        refine XQ.done kq ?_
        refine oP ?_
        refine XB.fA [(8,_),(9,_),(10,_),(34,_)] S4 ?_
        refine XB.cond rfl (fun h3=> ?_) fun h3=> ?_
        · try simp only[sb]at h3
          have hX:=h3
          refine XB.seq ?_
          refine XB.region ?_
          refine XO.v (V.move rfl) rfl ?_
          refine XO.store rfl rfl (.t6 .aa) (aB.st _ _) rfl nW ?_
          refine XO.store rfl rfl (.t7 .aa) (aB.st _ _) rfl Ed ?_
          refine XO.nil ?_
          refine oP ?_
          refine XB.fA [(8,_),(9,_)] S2 ?_
          refine XB.ret ?_
          refine lD ?_
          refine XE.gw hx ?_ rfl fun w2 lG=> ?_
          · skip
            exact⟨pre,x,rfl,hV,by simpa [TG.room]using hX⟩
          grind [FL]
        · try simp only[sb]at h3
          have hX:=h3
          refine XB.skip ?_
          refine gF ?_
          refine xC hx ?_ rfl (fun w2 hg=>lg (by rfl) hg .aa (.ao .aa) (.t2 .aa)) fun w2 lG=> ?_
          · skip
            intro y hy
            rcases List.mem_append.1 hy with hy | hy
            · grind
            · simp at hy;subst hy;simpa [TG.room]using hX
          simp_all
      · intro hV D hD
        have hc:s.o7 n q m=0:=by unfold TG.o7;rw[if_neg og];exact(TG.A3 _ _).2 j0
        have hr:s.iM n q m=none:=by
          unfold TG.iM
          grind [my]
        refine gE ?_
        refine st (.t7 .aa) (aB.st _ _) rfl ?_
        refine st (.t8 .aa) (aB.st _ _) rfl ?_
        refine nu (.inr rfl) .aa rfl hD ?_
        refine dY rfl (.cell rfl (.t6 .aa) (aB.ld _) la) (.cell rfl (.t7 .aa) (aB.ld _) E6) (ah (pk [2]) rfl ?_)
        grind [aS,bN]
      · intro pre hp hV D hD
        have hc:s.o7 n q m=0:=by unfold TG.o7;rw[if_neg og];exact(TG.A3 _ _).2 j0
        have hr:s.iM n q m=some ((my pre).getLast?.getD 0):=by
          unfold TG.iM
          grind [my]
        refine gE ?_
        refine nu (.inr rfl) .aa rfl hD ?_
        refine dY rfl (.cell rfl (.t6 .aa) (aB.ld _) la) (.cell rfl (.t7 .aa) (aB.ld _) E6) (ah (pk [2]) rfl ?_)
        simp_all
    · skip
      have j1:=h2
      refine gO ?_
      refine st (.t2 .aa) (aB.st _ _) rfl ?_
      refine st (.ao .aa) (aB.st _ _) rfl ?_
      refine qx (.inr rfl) ?_
      refine dY rfl (.cell rfl (.t2 .aa) (aB.ld _) la) (.cell rfl (.ao .aa) (aB.ld _) E6) (ah .h1 rfl ?_)
      first
      | (have hc:s.o7 n q m=s.cF n:=by unfold TG.o7;rw[if_pos aq]
         have hr:s.iM n q m=none:=by unfold TG.iM;rw[if_pos og]
         exact⟨by rw[hr];rfl,rfl⟩)
      | (have hc:s.o7 n q m=1:=by unfold TG.o7;rw[if_neg og];exact j1
         have hr:s.iM n q m=none:=by unfold TG.iM;rw[if_pos og]
         exact⟨by rw[hr];rfl,rfl⟩)
  · skip
    have i0:=h1
    refine gO ?_
    refine st (.t2 .aa) (aB.st _ _) rfl ?_
    refine st (.ao .aa) (aB.st _ _) rfl ?_
    refine qx (.inr rfl) ?_
    refine dY rfl (.cell rfl (.t2 .aa) (aB.ld _) la) (.cell rfl (.ao .aa) (aB.ld _) E6) (ah .h1 rfl ?_)
    first
    | (have hc:s.o7 n q m=s.cF n:=by unfold TG.o7;rw[if_pos aq]
       have hr:s.iM n q m=none:=by unfold TG.iM;rw[if_pos og]
       exact⟨by rw[hr];rfl,rfl⟩)
    | (have hc:s.o7 n q m=1:=by unfold TG.o7;rw[if_neg og];exact j1
       have hr:s.iM n q m=none:=by unfold TG.iM;rw[if_pos og]
       exact⟨by rw[hr];rfl,rfl⟩)
def V4(p o:Nat)(s:TG)(n:Int)(hn:0<=n/\n<10)(q m:Int)(Bd:Int)(hB:0<=Bd/\Bd<=1000000000000)(hS:s.bV Bd):Spec Tryz.prog 122 [az p o 0,iI n,iI q,iI m] [.cells p o 60 (bH s)] (fun v H1=>v= .bool (decide (q<=s.left s.pr n/\m<=s.left s.pg n))/\H1=[.cells p o 60 (bH s)]):=by
 refine Spec.go 74 [0,1,2,3,8,9,10,11,12,30,31,32,46] [] Tryz.func122 fun W=> ?_;refine rq [0,1,2,3,4,5,6,7,8,9,10,11,12,13,14,15] mixed ?_;refine sd ?_;apply ld .aa (fG _ _);refine sd ?_;apply ld .aa (fH _ _);apply lP .aa (wW _);refine lp (σ:=Int) (fun k=>(10-k).toNat) (fun k=>0<=k/\k<=10) (fun k=>[(31,iI k),(9,iI (s.pr n-eC (s.ie s.pr n) k.toNat)),(10,iI (s.pg n-eC (s.ie s.pg n) k.toNat)),(0,az p o 0),(1,iI n),(2,iI q),(3,iI m),(30,.agg (P1 s.aa 10))]) (fun k=>XM W (cm [.cells p o 60 (bH s)]) [.cells p o 60 (bH s)]) (0) ?_ (.cons rfl (.cons (by rw[show s.pr n-eC (s.ie s.pr n) (0:Int).toNat=s.pr n from by simp[eC]];rfl) (S6 (by rw[show s.pg n-eC (s.ie s.pg n) (0:Int).toNat=s.pg n from by simp[eC]];rfl) rfl rfl rfl rfl rfl))) (xq .h1) ?_
 ·omega
 intro k hk;have ac9:=JG s s.pr n hk.1;have ada:=JG s s.pg n hk.1;have hbd:=QB hS hB hn (k:=k) hk.1;apply gC;refine cd ?_ ?_<;>intro h1
 ·have hSn:=hS n hn.1 hn.2;have hSk:=hS k hk.1 og;refine XO.v (wF rfl rfl Tryz.underlying149 Ed E6 og (GW)) rfl (gO ?_);refine P9 36 rfl ?_ ?_<;>intro h2
  ·try simp only[sb]at h2
   refine sd ?_;apply ld .aa (gi _ _);refine cd ?_ ?_<;>intro h3
   ·refine sd ?_;apply ld .aa (fG _ _);refine sd ?_;refine sd ?_;apply ld .aa (fH _ _);refine sd ?_;refine sd ?_;refine ag (k+1) ?_ ?_ (.cons rfl (.cons (by rw[ac9];rw[show s.ie s.pr n k=s.pr k from by unfold TG.ie;rw[if_pos ⟨by simp_all,by simp_all⟩]];exact LK) (S6 (by rw[ada];rw[show s.ie s.pg n k=s.pg k from by unfold TG.ie;rw[if_pos ⟨by simp_all,by simp_all⟩]];exact LK) rfl rfl rfl rfl rfl))) (xq .h1);all_goals omega
   ·refine sd ?_;refine ag (k+1) ?_ ?_ (.cons rfl (.cons (by rw[ac9];rw[show s.ie s.pr n k=0 from by unfold TG.ie;rw[if_neg (by simp_all)]];exact LK) (S6 (by rw[ada];rw[show s.ie s.pg n k=0 from by unfold TG.ie;rw[if_neg (by simp_all)]];exact LK) rfl rfl rfl rfl rfl))) (xq .h1);all_goals omega
  ·try simp only[sb]at h2
   refine sd ?_;refine ag (k+1) ?_ ?_ (.cons rfl (.cons (by rw[ac9];rw[show s.ie s.pr n k=0 from by unfold TG.ie;rw[if_neg (by simp_all)]];exact LK) (S6 (by rw[ada];rw[show s.ie s.pg n k=0 from by unfold TG.ie;rw[if_neg (by simp_all)]];exact LK) rfl rfl rfl rfl rfl))) (xq .h1);all_goals omega
 ·refine sp 69 rfl ?_ ?_<;>intro h4
  ·refine bI .h1 ?_;obtain rfl:k=10:=og;refine⟨congrArg Value.bool ?_,rfl⟩;unfold TG.left;simp_all
  ·refine bI .h1 ?_;obtain rfl:k=10:=og;refine⟨congrArg Value.bool ?_,rfl⟩;unfold TG.left;grind
def nc(p o:Nat)(s:TG)(hO:s.Ok)(n q m:Int)(Bd:Int)(hB:0<=Bd/\Bd<=1000000000000)(hS:s.bV Bd):Spec Tryz.prog 54 [az p o 0,iI n,iI q,iI m] [.cells p o 60 (bH s)] (fun v H1=>v=ay 102 (s.fP n q m)/\H1=[.cells p o 60 (bH (s.dz n q m))]):=by
  refine Spec.go 35 [0,1,2,3,8,9,14,19,26] [] Tryz.func54 fun W=> ?_
  refine ca (K2 _ _ _ _) .h1 ?_
  rintro _ _ (⟨h1,rfl,rfl⟩ | ⟨h1,rfl,rfl⟩)
  · skip
    obtain⟨i0,i1,i2,i3⟩:=h1
    apply gO
    refine ca (Eb _ _) .nil ?_
    rintro _ _ (⟨h2,rfl,rfl⟩ | ⟨h2,rfl,rfl⟩)
    · skip
      have j0:=h2
      apply gO
      refine cq (V4 _ _ s _ ⟨og,og⟩ _ _ Bd hB hS) .h1 ?_
      refine cd ?_ ?_<;>intro h3
      · skip
        refine bI .h1 ?_
        have hc:s.o7 n q m=0:=by unfold TG.o7;rw[if_neg og];exact(TG.A3 _ _).2 j0
        have hr:s.fP n q m=8:=by unfold TG.fP;rw[if_neg og,if_neg (by simp_all)]
        exact⟨by rw[hr];rfl,by unfold TG.dz;rw[if_neg og]⟩
      · skip
        refine sd (sd ?_)
        refine cq (V3 _ _ s hO _ (by first | assumption | exact⟨og,og,aq⟩) _ _ og og Bd hB hS) .h1 ?_
        refine bI .h1 ?_
        have hc:s.o7 n q m=0:=by unfold TG.o7;rw[if_neg og];exact(TG.A3 _ _).2 j0
        have hr:s.fP n q m=0:=by unfold TG.fP;rw[if_neg og,if_pos (by simp_all)]
        exact⟨by rw[hr];rfl,by unfold TG.dz;rw[if_pos hr];simp only[Int.zero_sub]⟩
    · skip
      have j1:=h2
      apply gO
      refine bI .h1 ?_
      first
      | (have hc:s.o7 n q m=s.cF n:=by unfold TG.o7;rw[if_pos aq]
         have hr:s.fP n q m=s.cF n:=by unfold TG.fP;rw[if_pos og,hc]
         exact⟨by rw[hr,aK _ aq],by unfold TG.dz;rw[if_neg og]⟩)
      | (have hc:s.o7 n q m=1:=by unfold TG.o7;rw[if_neg og];exact j1
         have hr:s.fP n q m=1:=by unfold TG.fP;rw[if_pos og,hc]
         exact⟨by rw[hr];rfl,by unfold TG.dz;rw[if_neg og]⟩)
  · skip
    have i0:=h1
    apply gO
    refine bI .h1 ?_
    try dsimp only[aU,aS,bG,bN]
    first
    | (have hc:s.o7 n q m=s.cF n:=by unfold TG.o7;rw[if_pos aq]
       have hr:s.fP n q m=s.cF n:=by unfold TG.fP;rw[if_pos og,hc]
       exact⟨by rw[hr,aK _ aq],by unfold TG.dz;rw[if_neg og]⟩)
    | (have hc:s.o7 n q m=1:=by unfold TG.o7;rw[if_neg og];exact j1
       have hr:s.fP n q m=1:=by unfold TG.fP;rw[if_pos og,hc]
       exact⟨by rw[hr];rfl,by unfold TG.dz;rw[if_neg og]⟩)
def adb(p o:Nat)(s:TG)(hO:s.Ok)(a b q m:Int)(Bd:Int)(hB:0<=Bd/\Bd<=900000000000)(hS:s.bV Bd):Spec Tryz.prog 159 [az p o 0,iI a,iI b,iI q,iI m] [.cells p o 60 (bH s)] (fun v H1=>v=ay 102 (s.eK a b q m)/\H1=[.cells p o 60 (bH (s.move a b q m))]):=by
 have hO2:(s.dz a q m).Ok:=hO.dz;have hB2:0<=Bd+320/\Bd+320<=2000000000000:=og;refine Spec.go 39 [0,1,2,3,4,10,11,16,24,32] [] Tryz.func159 fun W=> ?_;refine ca (K2 _ _ _ _) .h1 ?_;rintro _ _ (⟨h1,rfl,rfl⟩ | ⟨h1,rfl,rfl⟩)
 ·obtain⟨i0,i1,i2,i3⟩:=h1;refine gO ?_;refine cq (nc _ _ s hO _ _ _ Bd og hS) .h1 ?_;refine cd ?_ ?_<;>intro h2
  ·refine bI .h1 ?_;try dsimp only[aU,aS,bG,bN]
   exact⟨by unfold TG.eK;rw[if_neg og,if_pos aq],by rw[show s.dz a q m=s from by unfold TG.dz;rw[if_neg aq],show s.move a b q m=s from by unfold TG.move;rw[if_pos (Or.inr aq)]]⟩
  ·have hS2:(s.dz a q m).bV (Bd+320):=hS.dz hO a q m;obtain⟨⟨a1,a2,a3⟩,q1,q2,m1,m2⟩:=TG.ya (by omega:s.fP a q m=0);have hu:s.dz a q m=s.lay (s.dm a) (-q) (-m):=by unfold TG.dz;rw[if_pos og]
   refine cq (uR _ _ _ hO2 _ _ _ (Bd+320) og hS2) .h1 ?_;refine cd ?_ ?_<;>intro h3
   ·have H4:(s.dz a q m).bE b q m=s.dz a q m:=by unfold TG.bE;rw[if_neg og]
    rw[H4];refine cq (V3 _ _ (s.dz a q m) hO2 a (by rw[hu];exact⟨a1,a2,a3⟩) q m og og (Bd+320) og hS2) .h1 ?_;refine bI .h1 ?_;try dsimp only[aU,aS,bG,bN]
    have hv:s.eK a b q m=(s.dz a q m).cY b q m:=by unfold TG.eK;rw[if_neg og,if_neg og]
    have hm:s.move a b q m=s:=by unfold TG.move;rw[if_neg og,if_neg aq]
    exact⟨by rw[hv],by rw[hm,TG.Up,hu,TG.Uo]⟩
   ·refine bI .h1 ?_;try dsimp only[aU,aS,bG,bN]
    have hv:s.eK a b q m=(s.dz a q m).cY b q m:=by unfold TG.eK;rw[if_neg og,if_neg og]
    have hm:s.move a b q m=(s.dz a q m).bE b q m:=by unfold TG.move;rw[if_neg og,if_pos og]
    simp_all
 ·have i0:=h1;refine gO ?_;refine bI .h1 ?_;try dsimp only[aU,aS,bG,bN]
  exact⟨by unfold TG.eK;rw[if_pos aq,aK _ aq],by unfold TG.move;rw[if_pos (.inl aq)]⟩
def Zo(p o:Nat)(s:TG)(n q m:Int):Spec Tryz.prog 158 [az p o 0,iI n,iI q,iI m] [.cells p o 60 (bH s)] (fun v H1=>v=ay 102 (s.ka n q m)/\H1=[.cells p o 60 (bH (s.jC n q m))]):=by
 refine Spec.go 45 [0,1,2,3,8,9,14,29] [] Tryz.func158 fun W=> ?_;refine ca (K2 _ _ _ _) .h1 ?_;rintro _ _ (⟨h1,rfl,rfl⟩ | ⟨h1,rfl,rfl⟩)
 ·obtain⟨i0,i1,i2,i3⟩:=h1;apply gO;refine sp 18 rfl ?_ ?_<;>intro h2
  ·refine bI .h1 ?_;have hr:s.ka n q m=1:=by unfold TG.ka;rw[if_neg og,if_pos og]
   exact⟨by rw[hr];rfl,by unfold TG.jC;rw[if_neg og]⟩
  ·refine sp 22 rfl ?_ ?_<;>intro h3
   ·refine bI .h1 ?_;have hr:s.ka n q m=1:=by unfold TG.ka;rw[if_neg og,if_pos og]
    exact⟨by rw[hr];rfl,by unfold TG.jC;rw[if_neg og]⟩
   ·refine sp 26 rfl ?_ ?_<;>intro h4
    ·refine bI .h1 ?_;have hr:s.ka n q m=1:=by unfold TG.ka;rw[if_neg og,if_pos og]
     exact⟨by rw[hr];rfl,by unfold TG.jC;rw[if_neg og]⟩
    ·refine cd ?_ ?_<;>intro h5
     ·refine bI .h1 ?_;have hr:s.ka n q m=1:=by unfold TG.ka;rw[if_neg og,if_pos og]
      exact⟨by rw[hr];rfl,by unfold TG.jC;rw[if_neg og]⟩
     ·refine rq [0,1,2,3,4,5,6,7,8,9,11,12,10,13,14,15] mixed (sd (st .aa (td _ _ og _) rfl (sd (st .aa (te _ _ og _) rfl (aO rfl rfl (ah .h1 rfl ?_))))));have hr:s.ka n q m=0:=by unfold TG.ka;rw[if_neg og,if_neg og]
      exact⟨by rw[hr];rfl,by unfold TG.jC;rw[if_pos hr]⟩
 ·have i0:=h1;apply gO;refine bI .h1 ?_;try dsimp only[aU,aS,bG,bN]
  have hr:s.ka n q m=s.cF n:=by unfold TG.ka;rw[if_pos aq]
  exact⟨by rw[hr,aK _ aq],by unfold TG.jC;rw[if_neg og]⟩
def af9(p o:Nat)(s:TG)(hO:s.Ok)(a:Int):Spec Tryz.prog 154 [az p o 0,iI a] [.cells p o 60 (bH s)] (fun v H1=>v= .tuple #[iI (s.jS a),ay 102 (s.tZ a)]/\H1=[.cells p o 60 (bH (s.add a))]):=by
 refine Spec.go 45 [0,1,4,5,6,7,8,13,18,23,24,25,29] [] Tryz.func154 fun W=> ?_;refine ca (K2 _ _ _ _) .h1 ?_;rintro _ _ (⟨h1,rfl,rfl⟩ | ⟨h1,rfl,rfl⟩)
 ·obtain⟨i0,i1,i2,i3⟩:=h1;apply gO;refine cq (ac8 _ _ _ hO _ ⟨og,og,aq⟩) .h1 ?_;refine cd ?_ ?_<;>intro h2
  ·refine eH .h1 ?_;try dsimp only[aU,aS,bG,bN]
   have e:=TG.CU (s:=s) (a:=a) aq og;rw[(TG.r7 og).1,(TG.r7 og).2];grind [ay]
  ·apply lP .aa (wW _);refine lp (σ:=Int) (fun k=>(10-k).toNat) (fun k=>(0<=k/\k<=10)/\∀ j:Int,0<=j->j<k->s.aa j=true) (fun k=>[(24,iI k),(0,az p o 0),(1,iI a),(23,.agg (P1 s.aa 10))]) (fun k=>XM W (cm [.cells p o 60 (bH s)]) [.cells p o 60 (bH s)]) (0) ?_ S4 (xq .h1) ?_
   ·grind
   intro k hk;obtain⟨hk,BU⟩:=hk;apply gC;refine cd ?_ ?_<;>intro h3
   ·refine XO.v (wF rfl rfl Tryz.underlying149 Ed E6 og (GW)) rfl (gO ?_);refine wM ?_ ?_<;>intro h4
    ·try simp only[sb]at h4
     refine sd (st .aa (nQ _ _ og _) rfl (XO.v (V.build (vs:= #[(0,iI a),(1,iI (-1)),(2,iI (-1))]) rfl (v:=.agg (GV.cR ⟨a,-1,-1,0,0⟩)) fun _=>kq) rfl (gO ?_)));refine sd (gn .aa (zX _ _ og _) rfl ⟨rfl,rfl⟩ (bA rfl rfl rfl (ah .h1 rfl ?_)));obtain⟨e1,e2,e3⟩:=TG.CV (s:=s) (a:=a) (k:=k) aq og hk.1 og (by simp_all) BU;rw[e1,e2,e3];exact⟨rfl,rfl⟩
    ·try simp only[sb]at h4
     refine sd (ag (k+1) ?_ ?_ S4 (xq .h1));all_goals grind
   ·refine eH .h1 ?_;try dsimp only[aU,aS,bG,bN]
    have e:=TG.Uq (s:=s) (a:=a) aq og fun j h1 h2=>BU j h1 og;rw[(TG.r7 og).1,(TG.r7 og).2];grind [ay]
 ·have i0:=h1;apply gO;refine eH .h1 ?_;try dsimp only[aU,aS,bG,bN]
  have e:=TG.He (s:=s) aq;rw[(TG.r7 og).1,(TG.r7 og).2];grind [ay]
def V5(p o:Nat)(s:TG)(n:Int):Spec Tryz.prog 156 [az p o 0,iI n] [.cells p o 60 (bH s)] (fun v H1=>v=ay 102 (s.dp n)/\H1=[.cells p o 60 (bH (s.dG n))]):=by
 refine Spec.go 70 [0,1,4,5,6,7,12,35,40,41,42,56] [] Tryz.func156 fun W=> ?_;refine ca (K2 _ _ _ _) .h1 ?_;rintro _ _ (⟨h1,rfl,rfl⟩ | ⟨h1,rfl,rfl⟩)
 ·obtain⟨i0,i1,i2,i3⟩:=h1;apply gO;refine sp 16 rfl ?_ ?_<;>intro h2
  ·refine bI .h1 ?_;have e:s.dp n=5:=by unfold TG.dp;rw[if_neg og,if_pos og]
   exact⟨by rw[e]<;>rfl,by unfold TG.dG;rw[if_neg og]⟩
  ·refine sd (ld .aa (fG _ _) ?_);refine sp 26 rfl ?_ ?_<;>intro h3
   ·refine bI .h1 ?_;have e:s.dp n=5:=by unfold TG.dp;rw[if_neg og,if_pos og]
    exact⟨by rw[e]<;>rfl,by unfold TG.dG;rw[if_neg og]⟩
   ·refine sd (ld .aa (fH _ _) ?_);refine cd ?_ ?_<;>intro h4
    ·refine bI .h1 ?_;have e:s.dp n=5:=by unfold TG.dp;rw[if_neg og,if_pos og]
     exact⟨by rw[e]<;>rfl,by unfold TG.dG;rw[if_neg og]⟩
    ·apply lP .aa (wW _);refine lp (σ:=Int) (fun k=>(10-k).toNat) (fun k=>(0<=k/\k<=10)/\∀ j:Int,0<=j->j<k->¬(s.aa j=true/\s.aD j=n)) (fun k=>[(41,iI k),(0,az p o 0),(1,iI n),(40,.agg (P1 s.aa 10))]) (fun k=>XM W (cm [.cells p o 60 (bH s)]) [.cells p o 60 (bH s)]) (0) ?_ S4 (xq .h1) ?_
     ·grind
     intro k hk;obtain⟨hk,BU⟩:=hk;apply gC;refine cd ?_ ?_<;>intro h5
     ·refine XO.v (wF rfl rfl Tryz.underlying149 Ed E6 og (GW)) rfl (gO ?_);refine P9 46 rfl ?_ ?_<;>intro h6
      ·try simp only[sb]at h6
       refine sd (ld .aa (gi _ _) ?_);refine cd ?_ ?_<;>intro h7
       ·refine bI .h1 ?_;have hkn:=TG.Ov (s:=s) (n:=n) hk.1 og (by simp_all) (by simp_all);have e:s.dp n=5:=by unfold TG.dp;rw[if_neg og,if_pos (Or.inr (Or.inr (Or.inr hkn)))]
        exact⟨by rw[e]<;>rfl,by unfold TG.dG;rw[if_neg og]⟩
       ·refine sd (ag (k+1) ?_ ?_ S4 (xq .h1));all_goals grind
      ·try simp only[sb]at h6
       refine sd (ag (k+1) ?_ ?_ S4 (xq .h1));all_goals grind
     ·refine sd (st .aa (nQ _ _ og _) rfl (XO.v (V.build (vs:= #[]) rfl (v:=.agg GV.zero.cR) fun _=>kq) rfl (gO ?_)));refine sd (gn .aa (zX _ _ og _) rfl ⟨rfl,rfl⟩ (aO rfl rfl (ah .h1 rfl ?_)));have hkn:=TG.Yn (s:=s) (n:=n) fun j h1 h2=>BU j h1 og;have e:s.dp n=0:=by unfold TG.dp;rw[if_neg og,if_neg (by rw[hkn];simp;omega)]
      exact⟨by rw[e]<;>rfl,by unfold TG.dG;rw[if_pos e];rfl⟩
 ·have i0:=h1;apply gO;refine bI .h1 ?_;try dsimp only[aU,aS,bG,bN]
  have e:s.dp n=s.cF n:=by unfold TG.dp;rw[if_pos aq]
  exact⟨by rw[e,aK _ aq],by unfold TG.dG;rw[if_neg og]⟩
def aga:Spec Tryz.prog 95 [] [] (fun v H1=>∃ p,v=az p 0 0/\H1=[.cells p 0 60 (bH TG.cC)]):=by
 refine Spec.go 14 [0,1] [] Tryz.func95 fun W=> ?_;refine XO.v (V.build (vs:= #[]) rfl (v:=.agg #[iI 0,iI 0,iI 0,iI 0,iI 0,iI 0,iI 0,iI 0,iI 0,iI 0,iI 0,iI 0,iI 0,iI 0,iI 0,iI 0,iI 0,iI 0,iI 0,iI 0,iI 0,iI 0,iI 0,iI 0,iI 0,iI 0,iI 0,iI 0,iI 0,iI 0,iI 0,iI 0,iI 0,iI 0,iI 0,iI 0,iI 0,iI 0,iI 0,iI 0,iI 0,iI 0,iI 0,iI 0,iI 0,iI 0,iI 0,iI 0,iI 0,iI 0,.bool false,.bool false,.bool false,.bool false,.bool false,.bool false,.bool false,.bool false,.bool false,.bool false]) fun _=>kq) rfl (gO ?_);refine XO.box (m:=60) (C:=bH TG.du) rfl rfl afu rfl ?_;intro p;apply gO;refine sd (st .aa (nQ _ _ og _) rfl (XO.v (V.build (vs:= #[(0,iI (-1)),(1,iI (-1)),(2,iI (-1))]) rfl (v:=.agg (GV.cR ⟨-1,-1,-1,0,0⟩)) fun _=>kq) rfl (gO ?_)));refine sd (gn .aa (zX _ _ og _) rfl ⟨rfl,rfl⟩ (aO rfl rfl (ah .h1 rfl ?_)));exact⟨_,rfl,rfl⟩
end Go.X.Gr

namespace Go.X.Fa
open Go Go.Proofs Go.X
set_option maxRecDepth 20000
set_option maxHeartbeats 4000000
def V6:rF Tryz.prog 254 2=true:=kq
def V7:fm Tryz.prog 254=some 2:=kq
def Np(k i k2 i2:Int):Spec Tryz.prog 243 [.agg #[.int .u64 (k),iI (i)],.agg #[.int .u64 (k2),iI (i2)]] [] (fun v H1=>v= .bool (decide (AU k i k2 i2))/\H1=[]):=by
 refine Spec.go 24 [2,3,4] [] Tryz.func243 fun W=> ?_;refine XO.box (m:=2) (C:=qI k i) rfl rfl (zF _ _) rfl ?_;intro ba;refine gO ?_;refine XO.box (m:=2) (C:=qI k2 i2) rfl rfl (zF _ _) rfl ?_;intro bc;refine gO ?_;refine ld (.ao .aa) (va _ _) ?_;refine ld .aa (va _ _) ?_;refine sp 10 rfl ?_ ?_<;>intro h1
 ·refine bI .nil ?_;grind [aU,aS,bN,AU]
 ·refine ld (.ao .aa) (va _ _) ?_;refine ld .aa (va _ _) ?_;refine sp 16 rfl ?_ ?_<;>intro h2
  ·refine ld (.ao .aa) (xO _ _) ?_;refine ld .aa (xO _ _) ?_;refine bI .nil ?_;grind [aU,aS,AU]
  ·refine bI .nil ?_;grind [aU,aS,bN,AU]
def Ee(b o g cap:Nat)(s:QS)(i k id:Int)(hi:0<=i/\i<s.n:=by omega)(hd:0<=id/\id<64:=by omega)(hn:s.n<=1000:=by omega):Spec Tryz.prog 224 [az b o 0,iI i,.agg #[.int .u64 (k),iI (id)]] [.cells b o 65 (gH (s) (some ⟨g,0,none⟩) cap),aM (some ⟨g,0,none⟩) cap 254 2 (s).n (iu (s))] (fun v H1=>v= .tuple #[]/\H1=[.cells b o 65 (gH (s.set i k id) (some ⟨g,0,none⟩) cap),aM (some ⟨g,0,none⟩) cap 254 2 (s.set i k id).n (iu (s.set i k id))]):=by
 refine Spec.go 21 [0,1,5] [] Tryz.func224 fun W=> ?_;refine XO.box (m:=2) (C:=qI k id) rfl rfl (zF _ _) rfl ?_;intro bx;refine gO ?_;refine rq [0,1,2,3,4,5,6,7] mixed ?_;refine ld (.ao .aa) (iG _ _ _) ?_;refine lP .aa (j7 _ _) ?_;refine sd ?_;refine ahE (.t2 .aa) (TS _ _ _ _ _ og) rfl ⟨rfl,rfl⟩ ?_;refine rq [0,1,2,3,4,5,6,7,8] mixed ?_;refine ld .aa (xO _ _) ?_;refine sd ?_;refine sd ?_;refine st (.ao .aa) (CM _ _ _ _ _ og) rfl ?_;refine cU rfl (ah (pk [1,1]) rfl ?_);exact⟨rfl,rfl⟩
def agb(b o g cap:Nat)(s:QS)(i:Int)(hi:0<=i/\i<s.n)(hR:s.Xf)(hn:s.n<=1000:=by omega):Spec Tryz.prog 223 [az b o 0,iI i] [.cells b o 65 (gH (s) (some ⟨g,0,none⟩) cap),aM (some ⟨g,0,none⟩) cap 254 2 (s).n (iu (s))] (fun v H1=>v= .tuple #[]/\H1=[.cells b o 65 (gH (s.up i) (some ⟨g,0,none⟩) cap),aM (some ⟨g,0,none⟩) cap 254 2 (s.up i).n (iu (s.up i))]):=by
 obtain⟨r1,r2⟩:=hR i hi.1 hi.2;refine Spec.go 46 [0,1,4,26] [] Tryz.func223 fun W=> ?_;refine ld .aa (iG _ _ _) ?_;refine sd ?_;refine qC (.ao .aa) (ky _ _ _) ?_;refine XO.bQ (z:=.agg #[.int .u64 0,iI 0]) (m:=2) (C:=cellsOf #[.int .u64 0,iI 0]) (fun _ _=>rfl) ?_;intro bx;refine gO ?_;refine gn .aa (zG _ _) rfl ⟨rfl,rfl⟩ ?_;refine lp (σ:=QS×Int) (fun x=>x.2.toNat) (fun x=>x.1.n=s.n/\(0<=x.2/\x.2<s.n)/\x.1.Xf/\QS.Es x.2.toNat x.1 x.2 (s.K i) (s.I i)=s.up i) (fun x=>[(1,iI x.2),(0,az b o 0),(4,az bx 0 0)]) (fun x=>XM W (cm [.cells b o 65 (gH (s) (some ⟨g,0,none⟩) cap),aM (some ⟨g,0,none⟩) cap 254 2 (s).n (iu (s))]) [.cells bx 0 2 (qI (s.K i) (s.I i)),.cells b o 65 (gH (x.1) (some ⟨g,0,none⟩) cap),aM (some ⟨g,0,none⟩) cap 254 2 (x.1).n (iu (x.1))]) ((s,i)) ?_ S3 (xq (pz 3)) ?_
 ·exact⟨rfl,hi,hR,rfl⟩
 intro x hx;obtain⟨xn,xi,xR,xu⟩:=hx;refine gC ?_;refine rq [0,1,2,3,4,5,6,7,8,9,10,11,12,13,14] mixed ?_;refine sp 14 rfl ?_ ?_<;>intro h1
 ·have It:0<=((x.2-1)/2)/\((x.2-1)/2)<x.1.n:=og;have hpr:=xR ((x.2-1)/2) It.1 It.2;refine lP .aa (j7 _ _) ?_;refine ld (.ao .aa) (iG _ _ _) ?_;refine sd ?_;refine XO.v (V.quo rfl rfl (by first | decide | omega) _ (tB)) rfl (gO ?_);refine sd ?_;refine qC (.t2 .aa) (ky _ _ _) ?_;refine cq (Np _ _ _ _) .nil ?_;refine cd ?_ ?_<;>intro h2
  ·have qw:QS.Es x.2.toNat x.1 x.2 (s.K i) (s.I i)=QS.Es (((x.2-1)/2)).toNat (x.1.set x.2 (x.1.K ((x.2-1)/2)) (x.1.I ((x.2-1)/2))) ((x.2-1)/2) (s.K i) (s.I i):=Jf og h2;refine ld (.ao .aa) (iG _ _ _) ?_;refine sd ?_;refine XO.v (V.quo rfl rfl (by first | decide | omega) _ (tB)) rfl (gO ?_);refine sd ?_;refine qC (.t2 .aa) (ky _ _ _) ?_;refine cq (Ee _ _ _ _ _ _ _ _) (pk [1,1]) ?_;refine sd ?_;refine XO.v (V.quo rfl rfl (by first | decide | omega) _ (tB)) rfl (gO ?_);refine ag ((x.1.set x.2 (x.1.K ((x.2-1)/2)) (x.1.I ((x.2-1)/2)),((x.2-1)/2))) ?_ ?_ S3 (xq (pk [2,0,0]));all_goals grind [QS.Xf.set,QS.set]
  ·have qw:QS.Es x.2.toNat x.1 x.2 (s.K i) (s.I i)=x.1.set x.2 (s.K i) (s.I i):=AX fun q=>h2 q.2;rw[qw]at xu;refine lP .aa (j7 _ _) ?_;refine cq (Ee _ _ _ _ _ _ _ _) (pk [1,1]) ?_;refine cU rfl (ah (pz 2) rfl ?_);simp_all
 ·have qw:QS.Es x.2.toNat x.1 x.2 (s.K i) (s.I i)=x.1.set x.2 (s.K i) (s.I i):=AX fun q=>og;rw[qw]at xu;refine lP .aa (j7 _ _) ?_;refine cq (Ee _ _ _ _ _ _ _ _) (pk [1,1]) ?_;refine cU rfl (ah (pz 2) rfl ?_);simp_all
def ade(b o g cap:Nat)(s:QS)(i:Int)(hi:0<=i/\i<s.n)(hR:s.Xf)(hn:s.n<=1000):Spec Tryz.prog 225 [az b o 0,iI i] [.cells b o 65 (gH (s) (some ⟨g,0,none⟩) cap),aM (some ⟨g,0,none⟩) cap 254 2 (s).n (iu (s))] (fun v H1=>v= .tuple #[]/\H1=[.cells b o 65 (gH (s.down i) (some ⟨g,0,none⟩) cap),aM (some ⟨g,0,none⟩) cap 254 2 (s.down i).n (iu (s.down i))]):=by
 obtain⟨r1,r2⟩:=hR i hi.1 hi.2;refine Spec.go 78 [0,1,4,5,41,62] [(2,1)] Tryz.func225 fun W=> ?_;refine ld .aa (iG _ _ _) ?_;refine sd ?_;refine qC (.ao .aa) (ky _ _ _) ?_;refine XO.bQ (z:=.agg #[.int .u64 0,iI 0]) (m:=2) (C:=cellsOf #[.int .u64 0,iI 0]) (fun _ _=>rfl) ?_;intro bx;refine gO ?_;refine gn .aa (zG _ _) rfl ⟨rfl,rfl⟩ ?_;refine lp (σ:=QS×Int) (fun x=>s.n-x.2.toNat) (fun x=>x.1.n=s.n/\(0<=x.2/\x.2<s.n)/\x.1.Xf/\QS.kH (x.1.n-x.2.toNat) x.1 x.2 (s.K i) (s.I i)=s.down i) (fun x=>[(1,iI x.2),(0,az b o 0),(4,az bx 0 0)]) (fun x=>XM W (cm [.cells b o 65 (gH (s) (some ⟨g,0,none⟩) cap),aM (some ⟨g,0,none⟩) cap 254 2 (s).n (iu (s))]) [.cells bx 0 2 (qI (s.K i) (s.I i)),.cells b o 65 (gH (x.1) (some ⟨g,0,none⟩) cap),aM (some ⟨g,0,none⟩) cap 254 2 (x.1).n (iu (x.1))]) ((s,i)) ?_ S3 (xq (pz 3)) ?_
 ·grind [QS.down]
 intro x hx;obtain⟨xn,xi,xR,xu⟩:=hx;refine gC ?_;refine sd ?_;refine sd ?_;refine ct [(0,az b o 0),(1,iI x.2),(4,az bx 0 0),(5,iI (x.1.bB x.2))] (XM W (cm [.cells b o 65 (gH (s) (some ⟨g,0,none⟩) cap),aM (some ⟨g,0,none⟩) cap 254 2 (s).n (iu (s))]) [.cells bx 0 2 (qI (s.K i) (s.I i)),.cells b o 65 (gH (x.1) (some ⟨g,0,none⟩) cap),aM (some ⟨g,0,none⟩) cap 254 2 (x.1).n (iu (x.1))]) ?_ ?_
 ·refine rq [0,1,2,3,4,5,6,7,8,9,10,11,12,13,14,15,16,17,18,19,20,21,22,23,24,25] mixed ?_;refine sd ?_;refine ld (.ao .aa) (iG _ _ _) ?_;refine sp 24 rfl ?_ ?_<;>intro h1
  ·refine ld (.ao .aa) (iG _ _ _) ?_;refine sd ?_;refine sd ?_;refine qC (.t2 .aa) (ky _ _ _) ?_;refine ld (.ao .aa) (iG _ _ _) ?_;refine sd ?_;refine qC (.t2 .aa) (ky _ _ _) ?_;refine cq (Np _ _ _ _) .nil ?_;refine cd ?_ ?_<;>intro h2
   ·have hc:2*x.2+1+1=(x.1.bB x.2):=by unfold QS.bB;rw[if_pos ⟨og,h2⟩]
    refine sd ?_;refine mt (S4 rfl rfl rfl (LK hc)) (xq (pz 3))
   ·have hc:2*x.2+1=(x.1.bB x.2):=by unfold QS.bB;rw[if_neg fun q=>h2 q.2]
    refine mt (S4 rfl rfl rfl (LK hc)) (xq (pz 3))
  ·have hc:2*x.2+1=(x.1.bB x.2):=by unfold QS.bB;rw[if_neg fun q=>og]
   refine mt (S4 rfl rfl rfl (LK hc)) (xq (pz 3))
 have hcc:x.2<(x.1.bB x.2):=by rcases x.1.ir x.2 with⟨e,_⟩ | ⟨e,_⟩<;>omega
 have hpr:=xR (x.1.bB x.2) og;have hcu:(x.1.bB x.2)<=2*x.2+2:=by rcases x.1.ir x.2 with⟨e,_⟩ | ⟨e,_⟩<;>omega
 refine gC ?_;refine rq [0,1,2,3,4,5,6,7,8,9,10,11,12,13,14,15,16,17,18] mixed ?_;refine ld (.ao .aa) (iG _ _ _) ?_;refine sp 51 rfl ?_ ?_<;>intro h3
 ·have qw:QS.kH (x.1.n-x.2.toNat) x.1 x.2 (s.K i) (s.I i)=x.1.set x.2 (s.K i) (s.I i):=vY fun q=>og;rw[qw]at xu;refine lP .aa (j7 _ _) ?_;refine cq (Ee _ _ _ _ _ _ _ _) (pk [1,1]) ?_;refine cU rfl (ah (pz 2) rfl ?_);simp_all
 ·have hpr:=hpr og;refine ld (.ao .aa) (iG _ _ _) ?_;refine sd ?_;refine qC (.t2 .aa) (ky _ _ _) ?_;refine lP .aa (j7 _ _) ?_;refine cq (Np _ _ _ _) .nil ?_;refine cd ?_ ?_<;>intro h4
  ·have qw:QS.kH (x.1.n-x.2.toNat) x.1 x.2 (s.K i) (s.I i)=x.1.set x.2 (s.K i) (s.I i):=vY fun q=>h4 q.2;rw[qw]at xu;refine lP .aa (j7 _ _) ?_;refine cq (Ee _ _ _ _ _ _ _ _) (pk [1,1]) ?_;refine cU rfl (ah (pz 2) rfl ?_);simp_all
  ·have qw:=EG (s:=x.1) (k:=s.K i) (id:=s.I i) xi.1 og og (Decidable.not_not.mp h4);refine ld (.ao .aa) (iG _ _ _) ?_;refine sd ?_;refine qC (.t2 .aa) (ky _ _ _) ?_;refine cq (Ee _ _ _ _ _ _ _ _) (pk [1,1]) ?_;refine ag ((x.1.set x.2 (x.1.K (x.1.bB x.2)) (x.1.I (x.1.bB x.2)),(x.1.bB x.2))) ?_ ?_ S3 (xq (pk [2,0,0]));all_goals grind [QS.Xf.set,QS.set]
def aa4(b o cap:Nat)(p:Option Addr)(s:QS)(hO:s.Ok)(id iD:Int):Spec Tryz.prog 188 [az b o 0,iI id,.int .u64 iD] [.cells b o 65 (gH (s) p cap),aM p cap 254 2 (s).n (iu (s))] (fun v H1=>∃ p1 c1,v=ay 102 (s.put id iD).1/\H1=[.cells b o 65 (gH ((s.put id iD).2) p1 c1),aM p1 c1 254 2 ((s.put id iD).2).n (iu ((s.put id iD).2))]):=by
 refine Spec.go 42 [0,1,2,6,12,20] [] Tryz.func188 fun W=> ?_;refine sp 9 rfl ?_ ?_<;>intro h1
 ·refine bI (pz 2) ?_;simp_all[aU,aS,bN,QS.qJ,ay]
 ·refine cd ?_ ?_<;>intro h2
  ·refine bI (pz 2) ?_;rw[QS.qJ og];exact⟨_,_,rfl,rfl⟩
  ·refine sd ?_;refine ld .aa (xN _ _ _ _) ?_;refine cd ?_ ?_<;>intro h3
   ·refine bI (pz 2) ?_;rw[QS.vc og og];exact⟨_,_,rfl,rfl⟩
   ·have Xe:=hO.L5 id og og;have lR:=hO.room (id:=id) og og;refine ld .aa (iG _ _ _) ?_;refine XO.v (V.build (vs:= #[(0,.int .u64 iD),(1,iI id)]) rfl (v:=.agg #[.int .u64 iD,iI id]) fun _=>kq) rfl (gO ?_);refine XO.buildSlice (e:=254) (vs:= #[(0,.agg #[.int .u64 iD,iI id])]) (A:= #[.int .u64 iD,iI id]) rfl (fun _=>kq) rfl rfl ?_;intro h4;refine gO ?_;refine wG (e:=254) (C2:=iu (s.kv iD id)) rfl rfl Tryz.underlying183 V6 (.ao (.ao .aa)) .aa rfl rfl og og (Qk s iD id) rfl ?_;intro p1 c1;refine gO ?_;refine st (.t2 .aa) (TT s _ _ _ _ iD id) rfl ?_;refine bR .aa og ?_;intro g1 h5;subst h5;have hn1:(s.kv iD id).n=s.n+1:=rfl;have hR:(s.kv iD id).Xf:=fun j j0 j1=>by
     show 0<=ad s.I s.n id j/\ad s.I s.n id j<64;unfold ad;split
     ·omega
     ·exact hO.ng j j0 og
    refine ld (.t2 .aa) (show 0+0<65/\gH (s.kv iD id) _ _ (0+0)= .slice _ (s.n+1) _ from⟨og,rfl⟩) ?_;refine oV ?_;refine XO.v (V.sub rfl rfl (s.n:Int) (by rw[show((s.n+1:Nat):Int)-1=s.n from og];exact IntWalk.i64_in _ og)) rfl (gO ?_);refine cq (agb _ _ _ _ (s.kv iD id) _ og hR) (pk [2,0]) ?_;refine bI (pz 2) ?_;rw[QS.tL og og];exact⟨_,_,rfl,rfl⟩
def aa5(b o cap:Nat)(p:Option Addr)(s:QS)(hO:s.Ok)(hH:s.vM)(id:Int):Spec Tryz.prog 189 [az b o 0,iI id] [.cells b o 65 (gH (s) p cap),aM p cap 254 2 (s).n (iu (s))] (fun v H1=>∃ p1 c1,v= .tuple #[.int .u64 (s.cut id).1,ay 102 (s.cut id).2.1]/\H1=[.cells b o 65 (gH ((s.cut id).2.2) p1 c1),aM p1 c1 254 2 ((s.cut id).2.2).n (iu ((s.cut id).2.2))]):=by
 refine Spec.go 83 [0,1,4,5,6,7,8,9,15,25,64] [] Tryz.func189 fun W=> ?_;refine sp 12 rfl ?_ ?_<;>intro h1
 ·refine eH (pz 2) ?_;simp_all[aU,aS,bN,rO,ay]
 ·refine cd ?_ ?_<;>intro h2
  ·refine eH (pz 2) ?_;rw[rO og];exact⟨_,_,rfl,rfl⟩
  ·have Xe:=hO.L5 id og og;have aiE:=hO.n64;refine sd ?_;refine ld .aa (xN _ _ _ _) ?_;refine sd ?_;refine cd ?_ ?_<;>intro h3
   ·refine eH (pz 2) ?_;rw[AY og og];exact⟨_,_,rfl,rfl⟩
   ·refine bR (.ao .aa) og ?_;intro g1 h4;subst h4;refine ld .aa (iG _ _ _) ?_;refine sd ?_;refine XV (.ao .aa) (CN _ _ _) ?_;refine ld .aa (iG _ _ _) ?_;refine sd ?_;refine ld .aa (iG _ _ _) ?_;refine sd ?_;refine qC (.ao .aa) (ky _ _ _) ?_;refine XO.bQ (z:=.agg #[.int .u64 0,iI 0]) (m:=2) (C:=cellsOf #[.int .u64 0,iI 0]) (fun _ _=>rfl) ?_;intro bx;refine gO ?_;refine gn .aa (zG _ _) rfl ⟨rfl,rfl⟩ ?_;refine qB (.t2 .aa) ?_;intro GZ;refine ld (.ao .aa) (iG _ _ _) ?_;refine XO.Th (k2:=s.n-1) (C':=iu (s.fi id)) rfl rfl Tryz.underlying183 V7 og og GZ (fun _ _=>rfl) (.t2 .aa) rfl (gO ?_);refine st (.ao .aa) (Fx _ _ _ _ _ _) rfl ?_;refine sd ?_;refine st (.ao .aa) (TU s _ _ id og) rfl ?_;refine cd ?_ ?_<;>intro h5
    ·have hn1:(s.fi id).n=s.n-1:=rfl;obtain⟨m1,m2,m3,q,m4,_,m5⟩:=hO.mid hH (xk:=s.K ((s.n:Int)-1)) (id:=id) og og rfl rfl og;have hr9:=hO.ng ((s.n:Int)-1) og og;have m6:(((s.fi id).set (s.at_ id-1) (s.K ((s.n:Int)-1)) (s.I ((s.n:Int)-1))).down (s.at_ id-1)).n=((s.fi id).set (s.at_ id-1) (s.K ((s.n:Int)-1)) (s.I ((s.n:Int)-1))).n:=Ql _ _;have m7:((s.fi id).set (s.at_ id-1) (s.K ((s.n:Int)-1)) (s.I ((s.n:Int)-1))).n=s.n-1:=rfl;refine lP .aa (j7 _ _) ?_;refine cq (Ee _ _ _ _ (s.fi id) _ _ _) (pk [1,1]) ?_;refine cq (ade _ _ _ _ ((s.fi id).set (s.at_ id-1) (s.K ((s.n:Int)-1)) (s.I ((s.n:Int)-1))) _ og (fun j j0 j1=>m1.ng j j0 j1) og) (pz 2) ?_;refine rq [0,1,2,3,4,5,6,7,8,9] mixed ?_;refine ld (.t2 .aa) (xO _ _) ?_;refine sd ?_;refine ld .aa (xN _ _ _ _) ?_;refine sd ?_;refine cq (agb _ _ _ _ (((s.fi id).set (s.at_ id-1) (s.K ((s.n:Int)-1)) (s.I ((s.n:Int)-1))).down (s.at_ id-1)) _ og fun j j0 j1=>m2.ng j j0 j1) (pz 2) ?_;refine eH (pz 2) ?_;rw[tM];unfold QS.vW;rw[if_pos og];exact⟨_,_,rfl,rfl⟩
    ·refine bA rfl rfl rfl (ah (pk [1,1]) rfl ?_);rw[tM];unfold QS.vW;rw[if_neg og];exact⟨_,_,rfl,rfl⟩
def agc(b o cap:Nat)(p:Option Addr)(s:QS)(hO:s.Ok)(id:Int):Spec Tryz.prog 186 [az b o 0,iI id] [.cells b o 65 (gH (s) p cap),aM p cap 254 2 (s).n (iu (s))] (fun v H1=>v= .tuple #[.int .u64 (s.iD id).1,ay 102 (s.iD id).2]/\H1=[.cells b o 65 (gH (s) p cap),aM p cap 254 2 (s).n (iu (s))]):=by
 refine Spec.go 35 [0,1,4,5,11,19] [] Tryz.func186 fun W=> ?_;refine sp 8 rfl ?_ ?_<;>intro h1
 ·refine eH (pz 2) ?_;grind [aU,aS,bN,QS.iD,ay]
 ·refine cd ?_ ?_<;>intro h2
  ·refine eH (pz 2) ?_;grind [aU,aS,bN,QS.iD,ay]
  ·refine sd ?_;refine ld .aa (xN _ _ _ _) ?_;refine cd ?_ ?_<;>intro h3
   ·refine eH (pz 2) ?_;grind [aU,aS,bN,QS.iD,ay]
   ·have Xe:=hO.L5 id og og;have aiE:=hO.n64;refine bR (.ao .aa) og ?_;intro g1 h4;subst h4;refine rq [0,1,2,3,4,5,6,7,8,9,10,11,12,13,14,15] mixed ?_;refine ld .aa (iG _ _ _) ?_;refine sd ?_;refine ld .aa (xN _ _ _ _) ?_;refine sd ?_;refine sd ?_;refine XV (.ao .aa) (CN _ _ _) ?_;refine eH (pz 2) ?_;grind [aU,aS,bN,QS.iD,ay]
def Ph(b o cap:Nat)(p:Option Addr)(s:QS):Spec Tryz.prog 182 [az b o 0] [.cells b o 65 (gH (s) p cap),aM p cap 254 2 (s).n (iu (s))] (fun v H1=>v= .tuple #[iI s.first.1,.int .u64 s.first.2.1,.bool s.first.2.2]/\H1=[.cells b o 65 (gH (s) p cap),aM p cap 254 2 (s).n (iu (s))]):=by
 refine Spec.go 25 [0,2,3,4,10] [] Tryz.func182 fun W=> ?_;refine ld .aa (iG _ _ _) ?_;refine cd ?_ ?_<;>intro h1
 ·refine rt3 (pz 2) ?_;grind [aU,aS,bN,QS.first]
 ·refine bR (.ao .aa) og ?_;intro g1 h2;subst h2;refine rq [0,1,2,3,4,5,6,7,8,9,10,11,12,13,14,15,16] mixed ?_;refine ld .aa (iG _ _ _) ?_;refine sd ?_;refine XV (.ao .aa) (X5 _ _ _ og) ?_;refine ld .aa (iG _ _ _) ?_;refine sd ?_;refine XV (.ao .aa) (CN _ _ _) ?_;refine rt3 (pz 2) ?_;grind [aU,aS,bN,QS.first]
def agd(b o cap:Nat)(p:Option Addr)(s:QS):Spec Tryz.prog 222 [az b o 0] [.cells b o 65 (gH (s) p cap),aM p cap 254 2 (s).n (iu (s))] (fun v H1=>v=iI (s.n:Int)/\H1=[.cells b o 65 (gH (s) p cap),aM p cap 254 2 (s).n (iu (s))]):=by
 refine Spec.go 8 [0,2] [] Tryz.func222 fun W=> ?_;refine ld .aa (iG _ _ _) ?_;refine bI (pz 2) ?_;grind [aU,aS]
def vI(b o:Nat)(s:SC)(n:Int):Spec Tryz.prog 126 [az b o 0,iI n] [.cells b o 2281 (aH s)] (fun v H1=>((s.vO n=0/\0<=n/\n<10/\s.aa n=true)/\v= .tuple #[az b o (0+0+n.toNat*76),.nilIface]/\H1=[.cells b o 2281 (aH s)])\/(s.vO n≠0/\v= .tuple #[.pointer none,.iface 102 (iI (s.vO n))]/\H1=[.cells b o 2281 (aH s)])):=by
 refine Spec.go 27 [0,1,4,5,11,20] [] Tryz.func126 fun W=> ?_;refine sp 8 rfl ?_ ?_<;>intro h1
 ·refine eH .h1 ?_;try dsimp only[aU,aS,bG,bN]
  have e:s.vO n=1:=by unfold SF.vO;rw[if_pos og]
  simp_all
 ·refine cd ?_ ?_<;>intro h2
  ·refine eH .h1 ?_;try dsimp only[aU,aS,bG,bN]
   have e:s.vO n=1:=by unfold SF.vO;rw[if_pos og]
   simp_all
  ·refine sd (ld .aa (iW _ _) ?_);refine wM ?_ ?_<;>intro h3
   ·try simp only[sb]at h3
    refine eH .h1 ?_;try dsimp only[aU,aS,bG,bN]
    have e:s.vO n=2:=by unfold SF.vO;rw[if_neg og,if_neg (by simp_all)]
    simp_all
   ·try simp only[sb]at h3
    refine sd (bA rfl rfl rfl (ah .h1 rfl ?_));try dsimp only[aU,aS,bG,bN]
    have e:s.vO n=0:=by unfold SF.vO;rw[if_neg og,if_pos (by simp_all)]
    simp_all
def Nq(b o:Nat)(s:SC)(n:Int):Spec Tryz.prog 127 [az b o 0,iI n] [.cells b o 2281 (aH s)] (fun v H1=>((s.xQ n=0/\0<=n/\n<20/\s.aa (10+n)=true)/\v= .tuple #[az b o (0+0+(10+n).toNat*76),.nilIface]/\H1=[.cells b o 2281 (aH s)])\/(s.xQ n≠0/\v= .tuple #[.pointer none,.iface 102 (iI (s.xQ n))]/\H1=[.cells b o 2281 (aH s)])):=by
 refine Spec.go 29 [0,1,4,5,11,21] [] Tryz.func127 fun W=> ?_;refine sp 8 rfl ?_ ?_<;>intro h1
 ·refine eH .h1 ?_;try dsimp only[aU,aS,bG,bN]
  have e:s.xQ n=1:=by unfold SF.xQ;rw[if_pos og]
  simp_all
 ·refine cd ?_ ?_<;>intro h2
  ·refine eH .h1 ?_;try dsimp only[aU,aS,bG,bN]
   have e:s.xQ n=1:=by unfold SF.xQ;rw[if_pos og]
   simp_all
  ·refine sd (sd (ld .aa (iW _ _) ?_));refine wM ?_ ?_<;>intro h3
   ·try simp only[sb]at h3
    refine eH .h1 ?_;try dsimp only[aU,aS,bG,bN]
    have e:s.xQ n=2:=by unfold SF.xQ;rw[if_neg og,if_neg (by simp_all)]
    simp_all
   ·try simp only[sb]at h3
    refine sd (sd (bA rfl rfl rfl (ah .h1 rfl ?_)));try dsimp only[aU,aS,bG,bN]
    have e:s.xQ n=0:=by unfold SF.xQ;rw[if_neg og,if_pos (by simp_all)]
    simp_all
def Pj(b o:Nat)(s:SC)(hR:s.mv)(hw:∀ i,s.cv i=true->0<i/\i<30)(n:Int)(hn:0<=n/\n<30):Spec Tryz.prog 187 [az b o 0,iI n] [.cells b o 2281 (aH s),.aW ck (s.dg 254)] (fun v H1=>v= .bool (s.toSF.ready n)/\H1=[.cells b o 2281 (aH s),.aW ck (s.dg 254)]):=by
 have hk:=hR.ie hw hn.1 hn.2;refine Spec.go 47 [0,1,4,5,12] [] Tryz.func187 fun W=> ?_;refine sd ?_;refine cd ?_ ?_<;>intro h1
 ·apply ld .aa (sN _ _);refine bI (pz 2) ?_;try dsimp only[aU,aS,bG,bN]
  exact⟨by unfold SF.ready;rw[if_pos og],rfl⟩
 ·refine rq [0,1,2,3,4,5,6,7,8,9,10,11,12,13,14,15,16,17,18,19,20,21,22,23,24,25,26,27,28,29,30] mixed ?_;apply XR.mono fun _ bL=>nx (z:=n) og (pz 2) bL;refine ca (agd _ _ _ _ _) (pz 2) ?_;rintro _ _ ⟨rfl,rfl⟩;apply XO.mono fun _ bL=>rS (z:=n) og (pz 5) bL;apply gO;refine sp 22 rfl ?_ ?_<;>intro h2
  ·apply ld .aa (zL _ _ og);refine P9 29 rfl ?_ ?_<;>intro h3
   ·try simp only[sb]at h3
    apply ld .aa (ll _ _);refine sp 35 rfl ?_ ?_<;>intro h4
    ·refine bI (pz 2) ?_;refine⟨congrArg Value.bool ?_,rfl⟩;unfold SF.ready;simp_all
    ·apply ld .aa (tQ _ _);apply ld .aa (ll _ _);refine bI (pz 2) ?_;refine⟨congrArg Value.bool ?_,rfl⟩;unfold SF.ready;grind
   ·try simp only[sb]at h3
    refine bI (pz 2) ?_;refine⟨congrArg Value.bool ?_,rfl⟩;unfold SF.ready;grind
  ·refine bI (pz 2) ?_;refine⟨congrArg Value.bool ?_,rfl⟩;unfold SF.ready;grind
def pD(b o:Nat)(s:SC)(d:Int->Nat)(hI:s.toSF.Inv d)(hR:s.mv)(n:Int)(hn:n=0\/(0<n/\n<30/\s.aa n=true)):Spec Tryz.prog 128 [az b o 0,iI n] [.cells b o 2281 (aH s),.aW ck (s.dg 254)] (fun v H1=>v= .tuple #[]/\∃ t:SC,t.toSF=s.toSF.look d n/\t.mv/\H1=[.cells b o 2281 (aH t),.aW ck (t.dg 254)]):=by
 refine Spec.go 88 [0,4,5,6,8,9,10,13,47,74] [] Tryz.func128 fun W=> ?_;refine lp (σ:=SC×Int) (fun x=>if x.2=0 then 0 else d x.2+1) (fun x=>x.1.mv/\x.1.toSF.Inv d/\(x.2=0\/(0<x.2/\x.2<30/\x.1.aa x.2=true))/\∃ k,d x.2+1<=k/\SF.iv k x.1.toSF x.2=s.toSF.look d n) (fun x=>[(4,iI x.2),(0,az b o 0)]) (fun x=>XM W (cm [.cells b o 2281 (aH s),.aW ck (s.dg 254)]) [.cells b o 2281 (aH x.1),.aW ck (x.1.dg 254)]) ((s,n)) ?_ S2 (xq (pz 2)) ?_
 ·exact⟨hR,hI,hn,d n+1,Nat.le_refl _,rfl⟩
 intro x hx;obtain⟨xR,xI,xn,k,hk,xl⟩:=hx;apply gC;refine cd ?_ ?_<;>intro h1
 ·obtain⟨n0,n1,n2⟩:=xn.resolve_left og;obtain⟨p0,pp1,p2,p3⟩:=xI.up x.2 n0 n1 n2;have vV:=xR.bU (n:=x.2) ⟨og,n1⟩ ⟨p0,og⟩;obtain⟨k,rfl⟩:∃ k2,k=k2+1:=⟨k-1,og⟩;rw[SF.oZ _ _ n0]at xl;have hw:∀ i,x.1.cv i=true->0<i/\i<30:=fun i hi=>⟨(xI.cv i hi).1,(xI.cv i hi).2.1⟩;have hgq:=xR (x.1.aD x.2) p0 og;have Sv:(x.1.aD x.2)=0\/(0<(x.1.aD x.2)/\(x.1.aD x.2)<30/\x.1.aa (x.1.aD x.2)=true):=by
   grind
  refine sd ?_;refine rq [0,1,2,3,4,5,6,7,8] mixed ?_;apply ld .aa (eX _ _);refine sd ?_;apply XR.mono fun _ bL=>nx (z:=(x.1.aD x.2)) og (pz 2) bL;refine ca (agc _ _ _ _ _ hgq.ok _) (pz 2) ?_;rintro _ _ ⟨rfl,rfl⟩;apply XO.mono fun _ bL=>rS (z:=(x.1.aD x.2)) og (pz 5) bL;apply gO;refine rq [0,1,2,3,4,5,6] mixed ?_;refine cq (Pj _ _ _ xR hw _ og) (pz 2) ?_;refine P9 49 rfl ?_ ?_<;>intro h2
  ·try simp only[sb]at h2
   have hrd:x.1.toSF.ready x.2=true:=h2;refine cd ?_ ?_<;>intro h3
   ·have hwf:x.1.cv x.2=false:=by
     simp_all
    refine rq [0,1,2,3,4,5,6,7,8,9,10,11,12] mixed ?_;apply ld .aa (tO _ _);apply ld .aa (sO _ _);apply st .aa (tP _ _ og _) rfl;refine rq [0,1,2,3,4,5,6,7,8] mixed ?_;apply ld .aa (Qm _ _ _ og);apply XR.mono fun _ bL=>nx (z:=(x.1.aD x.2)) og (pz 2) bL;refine ca (aa4 _ _ _ _ _ hgq.ok _ _) (pz 2) ?_;rintro _ _ ⟨p1,c1,rfl,rfl⟩;apply XO.mono fun _ bL=>qM (z:=(x.1.aD x.2)) og (pz 5) bL;apply gO;refine sd ?_;apply ld .aa (eX _ _);refine ag ((⟨{x.1.toSF with v:=ad x.1.v x.2 (max (x.1.v x.2) (x.1.eJ (x.1.aD x.2))),cv:=ad x.1.cv x.2 true},ad x.1.Q (x.1.aD x.2) ((x.1.Q (x.1.aD x.2)).put x.2 (max (x.1.v x.2) (x.1.eJ (x.1.aD x.2)))).2,ad x.1.P (x.1.aD x.2) p1,ad x.1.C (x.1.aD x.2) c1⟩,(x.1.aD x.2))) ?_ ?_ S2 (xq (pz 2))
    ·grind
    ·have e:({x.1.toSF with v:=ad x.1.v x.2 (max (x.1.v x.2) (x.1.eJ (x.1.aD x.2))),cv:=ad x.1.cv x.2 true} :SF)=x.1.toSF.ve x.2:=by unfold SF.ve;rw[if_pos ⟨hrd,hwf⟩,hrd]
     refine⟨?_,by show SF.Inv _ d;rw[e];exact xI.ve n0 n1 n2,Sv,k,by show d (x.1.aD x.2)+1<=k;omega,by show SF.iv k _ _=_;rw[e];exact xl⟩;grind [SC.mv.enter,ae,aj]
   ·have hwt:x.1.cv x.2=true:=by
     simp_all
    refine P9 77 rfl ?_ ?_<;>intro h4
    ·try simp only[sb]at h4
     all_goals(simp_all)
    ·try simp only[sb]at h4
     refine sd ?_;apply ld .aa (eX _ _);refine ag ((x.1,(x.1.aD x.2))) ?_ ?_ S2 (xq (pz 2));all_goals grind [A1]
  ·try simp only[sb]at h2
   have hrd:x.1.toSF.ready x.2=false:=h2;refine P9 77 rfl ?_ ?_<;>intro h5
   ·try simp only[sb]at h5
    refine cd ?_ ?_<;>intro h6
    ·have hwt:x.1.cv x.2=true:=by
      simp_all
     apply XR.mono fun _ bL=>nx (z:=(x.1.aD x.2)) og (pz 2) bL;refine ca (aa5 _ _ _ _ _ hgq.ok hgq.heap _) (pz 2) ?_;rintro _ _ ⟨p1,c1,rfl,rfl⟩;apply XO.mono fun _ bL=>qM (z:=(x.1.aD x.2)) og (pz 5) bL;apply gO;refine sd ?_;apply ld .aa (eX _ _);refine ag ((⟨{x.1.toSF with cv:=ad x.1.cv x.2 false},ad x.1.Q (x.1.aD x.2) ((x.1.Q (x.1.aD x.2)).cut x.2).2.2,ad x.1.P (x.1.aD x.2) p1,ad x.1.C (x.1.aD x.2) c1⟩,(x.1.aD x.2))) ?_ ?_ S2 (xq (pz 2))
     ·grind
     ·have e:({x.1.toSF with cv:=ad x.1.cv x.2 false} :SF)=x.1.toSF.ve x.2:=by unfold SF.ve;rw[if_neg (by rw[hrd];simp),hrd,cJ x.1.v rfl]
      exact⟨xR.gw (n:=x.2) ⟨og,n1⟩ ⟨p0,og⟩ hwt {x.1.toSF with cv:=ad x.1.cv x.2 false} rfl (fun i hi=>rfl) rfl _ _,by show SF.Inv _ d;rw[e];exact xI.ve n0 n1 n2,Sv,k,by show d (x.1.aD x.2)+1<=k;omega,by show SF.iv k _ _=_;rw[e];exact xl⟩
    ·have hwf:x.1.cv x.2=false:=by
      simp_all
     refine sd ?_;apply ld .aa (eX _ _);refine ag ((x.1,(x.1.aD x.2))) ?_ ?_ S2 (xq (pz 2));all_goals grind [A1]
   ·try simp only[sb]at h5
    all_goals(simp_all)
 ·refine cU rfl (ah (pz 2) rfl ?_);refine⟨rfl,x.1,?_,xR,rfl⟩;have rB:x.2=0:=by
   omega
  rw[rB,SF.mN _ _ og]at xl;omega
def V8(b o:Nat)(s:SC)(d:Int->Nat)(hI:s.toSF.Inv d)(hR:s.mv)(B:Int)(hB:0<=B/\B<=1000000000000000)(hS:s.toSF.bV B)(n:Int)(hn:0<n/\n<30/\s.aa n=true)(hwn:s.cv n=true):Spec Tryz.prog 183 [az b o 0,iI n] [.cells b o 2281 (aH s),.aW ck (s.dg 254)] (fun v H1=>v= .tuple #[]/\∃ t:SC,t.toSF=s.toSF.zI n/\t.mv/\H1=[.cells b o 2281 (aH t),.aW ck (t.dg 254)]):=by
 obtain⟨n0,n1,n2⟩:=hn;obtain⟨p0,pp1,p2,p3⟩:=hI.up n n0 n1 n2;have hgq:=hR (s.aD n) p0 og;obtain⟨gj,Bv⟩:=hR.aia (n:=n) ⟨og,n1⟩ ⟨p0,og⟩ hwn;have hsn:=hS n og n1;have hsg:=hS (s.aD n) p0 og;have hwt:=hI.wt n og n1 n2;have Sv:s.aD n≠n:=fun e=>by rw[e]at p3;omega
 have hq0:0<=1048576/s.wt n/\1048576/s.wt n<=1048576:=⟨Int.ediv_nonneg og og,Int.ediv_le_self _ og⟩;have II:∀ i,ad s.cv n false i=true->0<i/\i<30:=fun i hi=>by
  by_cases c:i=n
  ·omega
  ·rw[ae _ _ c]at hi;exact⟨(hI.cv i hi).1,(hI.cv i hi).2.1⟩
 refine Spec.go 82 [0,1,4,5,6,7,30,62,72] [(7,1)] Tryz.func183 fun W=> ?_;refine sd ?_;refine rq [0,1,2,3,4,5,6,7,8] mixed ?_;apply ld .aa (eX _ _);refine sd ?_;apply XR.mono fun _ bL=>nx (z:=(s.aD n)) og (pz 2) bL;refine ca (aa5 _ _ _ _ _ hgq.ok hgq.heap _) (pz 2) ?_;rintro _ _ ⟨p1,c1,rfl,rfl⟩;rw[gj];have hRm:SC.mv (⟨{s.toSF.nM n with cv:=ad s.cv n false},ad s.Q (s.aD n) ((s.Q (s.aD n)).cut n).2.2,ad s.P (s.aD n) p1,ad s.C (s.aD n) c1⟩:SC):=hR.gw (n:=n) ⟨og,n1⟩ ⟨p0,og⟩ hwn {s.toSF.nM n with cv:=ad s.cv n false} rfl (fun i hi=>ae _ _ hi) rfl _ _;have hgm:=hRm (s.aD n) p0 og;apply XO.mono fun _ bL=>qM (z:=(s.aD n)) og (pz 5) bL;apply XO.mono fun _ bL=>Oe (ad s.cv n false) (pz 2) bL;apply gO;apply LU rfl (by rw[Bv];simp);refine ld .aa (show _/\_=Value.int .u64 (s.eJ (s.aD n))from sO _ _) ?_;apply st .aa (BD _ _ og _) rfl;refine ld .aa (show _/\_=Value.int .i64 (s.wt n)from zK _ _ og) ?_;refine XO.v (V.quo rfl rfl (by first | decide | omega) _ (tB)) rfl (gO ?_);refine XO.v (lE rfl Tryz.underlying3 Tryz.underlying29 _ (IntWalk.u64_in _ og)) rfl (gO ?_);refine XO.v (V.add rfl rfl _ (IntWalk.u64_in _ og)) rfl (gO ?_);apply st .aa (tP _ _ og _) rfl;refine ld .aa (show _/\_=Value.int .i64 (s.vd n)from EH _ _ og) ?_;refine sd ?_;apply st .aa (EI _ _ og _) rfl;apply ct [(0,az b o 0),(1,iI n),(4,az b o (0+0+n.toNat*76)),(5,az b o (0+0+(s.aD n).toNat*76))] (XM W (cm [.cells b o 2281 (aH s),.aW ck (s.dg 254)]) [.cells b o 2281 (aH (⟨{s.toSF.nM n with cv:=ad s.cv n false},ad s.Q (s.aD n) ((s.Q (s.aD n)).cut n).2.2,ad s.P (s.aD n) p1,ad s.C (s.aD n) c1⟩:SC)),.aW ck (SC.dg 254 (⟨{s.toSF.nM n with cv:=ad s.cv n false},ad s.Q (s.aD n) ((s.Q (s.aD n)).cut n).2.2,ad s.P (s.aD n) p1,ad s.C (s.aD n) c1⟩:SC))])
 ·refine ld .aa (show _/\_=Value.int .i64 (s.dE n)from ll _ _) ?_;refine cd ?_ ?_<;>intro h1
  ·have hM:(⟨{s.toSF.nM n with cv:=ad s.cv n false},ad s.Q (s.aD n) ((s.Q (s.aD n)).cut n).2.2,ad s.P (s.aD n) p1,ad s.C (s.aD n) c1⟩:SC)=(⟨{s.toSF with eJ:=ad s.eJ (s.aD n) (max (s.eJ (s.aD n)) (s.v n)),v:=ad s.v n (s.v n+1048576/s.wt n),vd:=ad s.vd n (s.vd n+1),dL:=ad s.dL n (s.dL n+1),cv:=ad s.cv n false},ad s.Q (s.aD n) ((s.Q (s.aD n)).cut n).2.2,ad s.P (s.aD n) p1,ad s.C (s.aD n) c1⟩:SC):=by unfold SF.nM;rw[if_pos h1]
   refine ld .aa (show _/\_=Value.int .i64 (s.dL n)from tQ _ _) ?_;refine sd ?_;apply st .aa (oY _ _ og _) rfl;refine mt S4 fun _ lG=>by rw[hM];exact XM.pick (pz 2) lG
  ·have hM:(⟨{s.toSF.nM n with cv:=ad s.cv n false},ad s.Q (s.aD n) ((s.Q (s.aD n)).cut n).2.2,ad s.P (s.aD n) p1,ad s.C (s.aD n) c1⟩:SC)=(⟨{s.toSF with eJ:=ad s.eJ (s.aD n) (max (s.eJ (s.aD n)) (s.v n)),v:=ad s.v n (s.v n+1048576/s.wt n),vd:=ad s.vd n (s.vd n+1),dL:=s.dL,cv:=ad s.cv n false},ad s.Q (s.aD n) ((s.Q (s.aD n)).cut n).2.2,ad s.P (s.aD n) p1,ad s.C (s.aD n) c1⟩:SC):=by unfold SF.nM;rw[if_neg h1]
   refine mt S4 fun _ lG=>by rw[hM];exact XM.pick (pz 2) lG
 have hrr:SF.ready {s.toSF.nM n with cv:=ad s.cv n false} n=(s.toSF.nM n).ready n:=SF.zP (s:=s.toSF.nM n) Sv false;apply gC;refine cq (Pj b o (⟨{s.toSF.nM n with cv:=ad s.cv n false},ad s.Q (s.aD n) ((s.Q (s.aD n)).cut n).2.2,ad s.P (s.aD n) p1,ad s.C (s.aD n) c1⟩:SC) hRm II n ⟨og,n1⟩) (pz 2) ?_;refine wM ?_ ?_<;>intro h2
 ·try simp only[sb]at h2
  refine rq [0,1,2,3,4,5,6,7,8] mixed ?_;apply ld .aa (show _/\_=Value.int .u64 (s.v n+1048576/s.wt n)from⟨og,(tO (⟨{s.toSF.nM n with cv:=ad s.cv n false},ad s.Q (s.aD n) ((s.Q (s.aD n)).cut n).2.2,ad s.P (s.aD n) p1,ad s.C (s.aD n) c1⟩:SC) n).2.trans (congrArg (Value.int .u64) (aj s.v n (s.v n+1048576/s.wt n)))⟩);apply XR.mono fun _ bL=>nx (z:=(s.aD n)) og (pz 2) bL;refine ca (aa4 _ _ _ _ _ hgm.ok _ _) (pz 2) ?_;rintro _ _ ⟨p2,c2,rfl,rfl⟩;apply XO.mono fun _ bL=>qM (z:=(s.aD n)) og (pz 5) bL;apply XO.mono fun _ bL=>Oe (ad s.cv n true) (pz 2) bL;apply gO;refine cU rfl (ah (pz 2) rfl ?_);refine⟨rfl,_,?_,?_,rfl⟩
  ·have h9:SF.ready {s.toSF.nM n with cv:=ad s.cv n false} n=true:=aq;rw[hrr]at h9;show _=s.toSF.zI n;unfold SF.zI;rw[h9]
  ·have aiF:s.aD n<30:=og;have:=hRm.enter (n:=n) ⟨og,n1⟩ ⟨p0,aiF⟩ (aj _ _ _) {s.toSF.nM n with cv:=ad s.cv n true} (by funext i;show ad s.cv n true i=ad (ad s.cv n false) n true i;unfold ad;split<;>rfl) (fun i hi=>rfl) rfl (s.v n+1048576/s.wt n) (aj _ _ _) (ad (ad s.P (s.aD n) p1) (s.aD n) p2) (ad (ad s.C (s.aD n) c1) (s.aD n) c2);exact this
 ·try simp only[sb]at h2
  refine cU rfl (ah (pz 2) rfl ?_);refine⟨rfl,(⟨{s.toSF.nM n with cv:=ad s.cv n false},ad s.Q (s.aD n) ((s.Q (s.aD n)).cut n).2.2,ad s.P (s.aD n) p1,ad s.C (s.aD n) c1⟩:SC),?_,hRm,rfl⟩;have h9:SF.ready {s.toSF.nM n with cv:=ad s.cv n false} n=false:=aq;rw[hrr]at h9;show _=s.toSF.zI n;unfold SF.zI;rw[h9]
def rn:fm Tryz.prog 187=some 76:=kq
def H5(b o:Nat)(s:SC)(d:Int->Nat)(hI:s.toSF.Inv d)(hR:s.mv)(n:Int)(on:Bool):Spec Tryz.prog 61 [az b o 0,iI n,.bool on] [.cells b o 2281 (aH s),.aW ck (s.dg 254)] (fun v H1=>v=ay 102 (s.xQ n)/\∃ t:SC,t.toSF=s.toSF.gq d n on/\t.mv/\H1=[.cells b o 2281 (aH t),.aW ck (t.dg 254)]):=by
 refine Spec.go 26 [0,1,2,6,7,8,16] [] Tryz.func61 fun W=> ?_;refine ca (Nq _ _ _ _) .h1 ?_;rintro _ _ (⟨h1,rfl,rfl⟩ | ⟨h1,rfl,rfl⟩)
 ·obtain⟨i0,i1,i2,i3⟩:=h1;apply gO;refine st .aa (lj _ _ og _) rfl (sd ?_);refine ca (pD _ _ {s with cO:=ad s.cO (10+n) on} d ⟨hI.h0,hI.up,hI.cv,hI.quo,hI.wt⟩ hR _ (.inr ⟨og,og,i3⟩)) (pz 2) ?_;rintro _ _ ⟨rfl,t,tl,tR,rfl⟩;apply gO;refine bI (pz 2) ?_;exact⟨by rw[i0];rfl,t,by rw[tl];unfold SF.gq;rw[if_pos i0],tR,rfl⟩
 ·have i0:=h1;apply gO;refine bI (pz 2) ?_;try dsimp only[aU,aS,bG,bN]
  exact⟨by rw[aK _ aq],s,by unfold SF.gq;rw[if_neg aq],hR,rfl⟩
def V9(b o:Nat)(s:SC)(d:Int->Nat)(hI:s.toSF.Inv d)(hR:s.mv)(n:Int)(on:Bool):Spec Tryz.prog 161 [az b o 0,iI n,.bool on] [.cells b o 2281 (aH s),.aW ck (s.dg 254)] (fun v H1=>v=ay 102 (s.EJ n)/\∃ t:SC,t.toSF=s.toSF.freeze d n on/\t.mv/\H1=[.cells b o 2281 (aH t),.aW ck (t.dg 254)]):=by
 refine Spec.go 28 [0,1,2,6,7,8,16,19] [] Tryz.func161 fun W=> ?_;refine ca (vI _ _ _ _) .h1 ?_;rintro _ _ (⟨h1,rfl,rfl⟩ | ⟨h1,rfl,rfl⟩)
 ·obtain⟨i0,i1,i2,i3⟩:=h1;apply gO;refine cd ?_ ?_<;>intro h2
  ·refine bI (pz 2) ?_;have e:s.EJ n=8:=by unfold SF.EJ;rw[if_neg og,if_pos og]
   exact⟨by rw[e]<;>rfl,s,by unfold SF.freeze;rw[if_neg og],hR,rfl⟩
  ·apply st .aa (zM _ _ og _) rfl;refine ca (pD _ _ {s with vZ:=ad s.vZ n on} d ⟨hI.h0,hI.up,hI.cv,hI.quo,hI.wt⟩ hR _ (.inr ⟨og,og,i3⟩)) (pz 2) ?_;rintro _ _ ⟨rfl,t,tl,tR,rfl⟩;apply gO;refine bI (pz 2) ?_;have e:s.EJ n=0:=by unfold SF.EJ;rw[if_neg og,if_neg og]
   exact⟨by rw[e]<;>rfl,t,by rw[tl];unfold SF.freeze;rw[if_pos e],tR,rfl⟩
 ·have i0:=h1;apply gO;refine bI (pz 2) ?_;try dsimp only[aU,aS,bG,bN]
  have e:s.EJ n=s.vO n:=by unfold SF.EJ;rw[if_pos aq]
  exact⟨by rw[e,aK _ aq],s,by unfold SF.freeze;rw[if_neg og],hR,rfl⟩
def Zp(b o:Nat)(s:SC)(d:Int->Nat)(hI:s.toSF.Inv d)(hR:s.mv)(n q p:Int):Spec Tryz.prog 162 [az b o 0,iI n,iI q,iI p] [.cells b o 2281 (aH s),.aW ck (s.dg 254)] (fun v H1=>v=ay 102 (s.s9 n q p)/\∃ t:SC,t.toSF=s.toSF.xT d n q p/\t.mv/\H1=[.cells b o 2281 (aH t),.aW ck (t.dg 254)]):=by
 refine Spec.go 53 [0,1,2,3,8,9,10,18,21,37] [] Tryz.func162 fun W=> ?_;refine ca (vI _ _ _ _) .h1 ?_;rintro _ _ (⟨h1,rfl,rfl⟩ | ⟨h1,rfl,rfl⟩)
 ·obtain⟨i0,i1,i2,i3⟩:=h1;apply gO;refine cd ?_ ?_<;>intro h2
  ·refine bI (pz 2) ?_;have e:s.s9 n q p=8:=by unfold SF.s9;rw[if_neg og,if_pos og]
   exact⟨by rw[e]<;>rfl,s,by unfold SF.xT;rw[if_neg og],hR,rfl⟩
  ·refine sp 25 rfl ?_ ?_<;>intro h3
   ·refine bI (pz 2) ?_;have e:s.s9 n q p=1:=by unfold SF.s9;rw[if_neg og,if_neg og,if_pos og]
    exact⟨by rw[e]<;>rfl,s,by unfold SF.xT;rw[if_neg og],hR,rfl⟩
   ·refine sp 29 rfl ?_ ?_<;>intro h4
    ·refine bI (pz 2) ?_;have e:s.s9 n q p=1:=by unfold SF.s9;rw[if_neg og,if_neg og,if_pos og]
     exact⟨by rw[e]<;>rfl,s,by unfold SF.xT;rw[if_neg og],hR,rfl⟩
    ·refine sp 33 rfl ?_ ?_<;>intro h5
     ·refine bI (pz 2) ?_;have e:s.s9 n q p=1:=by unfold SF.s9;rw[if_neg og,if_neg og,if_pos og]
      exact⟨by rw[e]<;>rfl,s,by unfold SF.xT;rw[if_neg og],hR,rfl⟩
     ·refine cd ?_ ?_<;>intro h6
      ·refine bI (pz 2) ?_;have e:s.s9 n q p=1:=by unfold SF.s9;rw[if_neg og,if_neg og,if_pos og]
       exact⟨by rw[e]<;>rfl,s,by unfold SF.xT;rw[if_neg og],hR,rfl⟩
      ·refine st .aa (BE _ _ og _) rfl (st .aa (zO _ _ og _) rfl (st .aa (oY _ _ og _) rfl ?_));have hq:=(show SF.Inv (s.toSF.ab4 n q p) d from⟨hI.h0,hI.up,hI.cv,fun i a b=>by
        show 0<=ad s.dE n q i/\(0<ad s.dE n q i->1<=ad s.eN n p i)
        unfold ad;split
        ·omega
        ·exact hI.quo i a b,hI.wt⟩)
       refine ca (pD _ _ {s with dE:=ad s.dE n q,eN:=ad s.eN n p,dL:=ad s.dL n 0} d hq hR _ (.inr ⟨og,og,i3⟩)) (pz 2) ?_;rintro _ _ ⟨rfl,t,tl,tR,rfl⟩;apply gO;refine bI (pz 2) ?_;have e:s.s9 n q p=0:=by unfold SF.s9;rw[if_neg og,if_neg og,if_neg og]
       exact⟨by rw[e]<;>rfl,t,by rw[tl];unfold SF.xT;rw[if_pos e];rfl,tR,rfl⟩
 ·have i0:=h1;apply gO;refine bI (pz 2) ?_;try dsimp only[aU,aS,bG,bN]
  have e:s.s9 n q p=s.vO n:=by unfold SF.s9;rw[if_pos aq]
  exact⟨by rw[e,aK _ aq],s,by unfold SF.xT;rw[if_neg og],hR,rfl⟩
def Nr(b o:Nat)(s:SC)(d:Int->Nat)(hI:s.toSF.Inv d)(hR:s.mv)(n p w:Int):Spec Tryz.prog 155 [az b o 0,iI n,iI p,iI w] [.cells b o 2281 (aH s),.aW ck (s.dg 254)] (fun v H1=>v=ay 102 (s.lU n p w)/\∃ t:SC,t.toSF=s.toSF.s5 n p w/\t.mv/\H1=[.cells b o 2281 (aH t),.aW ck (t.dg 254)]):=by
 refine Spec.go 51 [0,1,2,3,8,10,24,32,41] [] Tryz.func155 fun W=> ?_;refine sp 13 rfl ?_ ?_<;>intro h1
 ·refine bI (pz 2) ?_;have e:s.lU n p w=1:=by unfold SF.lU;rw[if_pos og]
  exact⟨by rw[e]<;>rfl,s,by unfold SF.s5;rw[if_neg og],hR,rfl⟩
 ·refine sp 17 rfl ?_ ?_<;>intro h2
  ·refine bI (pz 2) ?_;have e:s.lU n p w=1:=by unfold SF.lU;rw[if_pos og]
   exact⟨by rw[e]<;>rfl,s,by unfold SF.s5;rw[if_neg og],hR,rfl⟩
  ·refine sp 21 rfl ?_ ?_<;>intro h3
   ·refine bI (pz 2) ?_;have e:s.lU n p w=1:=by unfold SF.lU;rw[if_pos og]
    exact⟨by rw[e]<;>rfl,s,by unfold SF.s5;rw[if_neg og],hR,rfl⟩
   ·refine cd ?_ ?_<;>intro h4
    ·refine bI (pz 2) ?_;have e:s.lU n p w=1:=by unfold SF.lU;rw[if_pos og]
     exact⟨by rw[e]<;>rfl,s,by unfold SF.s5;rw[if_neg og],hR,rfl⟩
    ·refine sd (ld .aa (iW _ _) ?_);refine wM ?_ ?_<;>intro h5
     ·try simp only[sb]at h5
      refine bI (pz 2) ?_;have e:s.lU n p w=3:=by unfold SF.lU;rw[if_neg og,if_pos aq]
      exact⟨by rw[e]<;>rfl,s,by unfold SF.s5;rw[if_neg og],hR,rfl⟩
     ·try simp only[sb]at h5
      have sW:s.aa n=false:=by
       omega
      refine ca (vI _ _ _ _) .h1 ?_;rintro _ _ (⟨h6,rfl,rfl⟩ | ⟨h6,rfl,rfl⟩)
      ·obtain⟨i0,i1,i2,i3⟩:=h6;apply gO;refine XO.v (V.build (vs:= #[(0,.bool true),(1,iI p),(2,iI w)]) rfl (v:=.agg (lW (wQ true p w))) fun _=>kq) rfl (gO ?_);refine sd (oS (XO.gg rfl rfl .aa (tS _ n p w true) (o4 _) rn (XO.mono (fun _ bL=>XM.newRow (s:=s) (z:=n) og (pk [1]) bL) ?_)));apply gO;refine bI (pk [1,0]) ?_;have e:s.lU n p w=0:=by unfold SF.lU;rw[if_neg og,if_neg (by rw[sW];simp)];exact i0
       have hwz:s.cv n=false:=by
        cases q:s.cv n with
        | false=>rfl
        | true=>have:=(hI.cv _ q).2.2;rw[sW]at this;cases this
       have Zq:∀ i,s.cv i=true->s.aD i≠n:=fun i hi e9=>by
        obtain⟨a,b9,c⟩:=hI.cv i hi;have h9:=(hI.up i a b9 c).2.2.1;simp_all
       exact⟨by rw[e]<;>rfl,_,by unfold SF.s5;rw[if_pos e],hR.new hwz Zq p w true,rfl⟩
      ·have i0:=h6;apply gO;refine bI (pz 2) ?_;try dsimp only[aU,aS,bG,bN]
       have e:s.lU n p w=s.vO p:=by unfold SF.lU;rw[if_neg og,if_neg (by rw[sW];simp)]
       exact⟨by rw[e,aK _ aq],s,by unfold SF.s5;rw[if_neg og],hR,rfl⟩
def AJ(b o:Nat)(s:SC)(d:Int->Nat)(hI:s.toSF.Inv d)(hR:s.mv)(n p w:Int):Spec Tryz.prog 60 [az b o 0,iI n,iI p,iI w] [.cells b o 2281 (aH s),.aW ck (s.dg 254)] (fun v H1=>v=ay 102 (s.lV n p w)/\∃ t:SC,t.toSF=s.toSF.s8 n p w/\t.mv/\H1=[.cells b o 2281 (aH t),.aW ck (t.dg 254)]):=by
 refine Spec.go 53 [0,1,2,3,8,10,24,33,42] [] Tryz.func60 fun W=> ?_;refine sp 13 rfl ?_ ?_<;>intro h1
 ·refine bI (pz 2) ?_;have e:s.lV n p w=1:=by unfold SF.lV;rw[if_pos og]
  exact⟨by rw[e]<;>rfl,s,by unfold SF.s8;rw[if_neg og],hR,rfl⟩
 ·refine sp 17 rfl ?_ ?_<;>intro h2
  ·refine bI (pz 2) ?_;have e:s.lV n p w=1:=by unfold SF.lV;rw[if_pos og]
   exact⟨by rw[e]<;>rfl,s,by unfold SF.s8;rw[if_neg og],hR,rfl⟩
  ·refine sp 21 rfl ?_ ?_<;>intro h3
   ·refine bI (pz 2) ?_;have e:s.lV n p w=1:=by unfold SF.lV;rw[if_pos og]
    exact⟨by rw[e]<;>rfl,s,by unfold SF.s8;rw[if_neg og],hR,rfl⟩
   ·refine cd ?_ ?_<;>intro h4
    ·refine bI (pz 2) ?_;have e:s.lV n p w=1:=by unfold SF.lV;rw[if_pos og]
     exact⟨by rw[e]<;>rfl,s,by unfold SF.s8;rw[if_neg og],hR,rfl⟩
    ·refine sd (sd (ld .aa (iW _ _) ?_));refine wM ?_ ?_<;>intro h5
     ·try simp only[sb]at h5
      refine bI (pz 2) ?_;have e:s.lV n p w=3:=by unfold SF.lV;rw[if_neg og,if_pos aq]
      exact⟨by rw[e]<;>rfl,s,by unfold SF.s8;rw[if_neg og],hR,rfl⟩
     ·try simp only[sb]at h5
      have sW:s.aa (10+n)=false:=by
       omega
      refine ca (vI _ _ _ _) .h1 ?_;rintro _ _ (⟨h6,rfl,rfl⟩ | ⟨h6,rfl,rfl⟩)
      ·obtain⟨i0,i1,i2,i3⟩:=h6;apply gO;refine sd (XO.v (V.build (vs:= #[(0,.bool true),(1,iI p),(2,iI w)]) rfl (v:=.agg (lW (wQ true p w))) fun _=>kq) rfl (gO ?_));refine sd (oS (XO.gg rfl rfl .aa (tS _ (10+n) p w true) (o4 _) rn (XO.mono (fun _ bL=>XM.newRow (s:=s) (z:=(10+n)) og (pk [1]) bL) ?_)));apply gO;refine bI (pk [1,0]) ?_;have e:s.lV n p w=0:=by unfold SF.lV;rw[if_neg og,if_neg (by rw[sW];simp)];exact i0
       have hwz:s.cv (10+n)=false:=by
        cases q:s.cv (10+n)with
        | false=>rfl
        | true=>have:=(hI.cv _ q).2.2;rw[sW]at this;cases this
       have Zq:∀ i,s.cv i=true->s.aD i≠(10+n):=fun i hi e9=>by
        obtain⟨a,b9,c⟩:=hI.cv i hi;have h9:=(hI.up i a b9 c).2.2.1;simp_all
       exact⟨by rw[e]<;>rfl,_,by unfold SF.s8;rw[if_pos e],hR.new hwz Zq p w true,rfl⟩
      ·have i0:=h6;apply gO;refine bI (pz 2) ?_;try dsimp only[aU,aS,bG,bN]
       have e:s.lV n p w=s.vO p:=by unfold SF.lV;rw[if_neg og,if_neg (by rw[sW];simp)]
       exact⟨by rw[e,aK _ aq],s,by unfold SF.s8;rw[if_neg og],hR,rfl⟩
end Go.X.Fa
