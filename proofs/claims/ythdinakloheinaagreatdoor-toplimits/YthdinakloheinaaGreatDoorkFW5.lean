import Derived.Test.YthdinakloheinaaGreatDoorkGW2
set_option linter.all false
namespace Go.X.Gr
open Go Go.Proofs Go.X
set_option maxRecDepth 20000
set_option maxHeartbeats 4000000
def Zd(p o:Nat)(s:TG)(hO:s.Ok)(n q m:Int)(Bd:Int)(hB:0<=Bd/\Bd<=1000000000000)(hS:s.bU Bd):Spec Tryz.prog 228 [ay p o 0,iI n,iI q,iI m] [.cells p o 60 (bD s)] (fun v H1=>v= .tuple #[iI ((s.iQ n q m).getD 0),.bool (s.iQ n q m).isSome]/\H1=[.cells p o 60 (bD s)]):=by
  refine tM 36 [1,4,6,7,8,9,20,23] [] Tryz.func228 rfl rfl rfl ?_
  intro W
  refine XO.box (m:=1) (C:=aF (ay p o 0)) rfl rfl (fun _ _=>rfl) rfl ?_
  intro bT
  refine gO ?_
  refine XO.box (m:=1) (C:=aF (iI q)) rfl rfl (fun _ _=>rfl) rfl ?_
  intro bq
  refine gO ?_
  refine XO.box (m:=1) (C:=aF (iI m)) rfl rfl (fun _ _=>rfl) rfl ?_
  intro bm
  refine gO ?_
  refine XO.bG (z:=iI 0) (m:=1) (C:=aF (iI 0)) (fun _ _=>rfl) ?_
  intro br
  refine gO ?_
  refine XO.bG (z:=.bool false) (m:=1) (C:=aF (.bool false)) (fun _ _=>rfl) ?_
  intro bo
  refine gO ?_
  refine ld (.t4 .aa) (aF.ld _) ?_
  refine ca (Ii _ _ _ _) (pk [5]) ?_
  rintro _ _ (⟨h1,rfl,rfl⟩ | ⟨h1,rfl,rfl⟩)
  · skip
    obtain⟨i0,i1,i2,i3⟩:=h1
    refine gO ?_
    refine ld (.t4 .aa) (aF.ld _) ?_
    refine ld (.t3 .aa) (aF.ld _) ?_
    refine ca (Er _ _) .nil ?_
    rintro _ _ (⟨h2,rfl,rfl⟩ | ⟨h2,rfl,rfl⟩)
    · skip
      have j0:=h2
      have kY:=hO.cX i1 i2 i3
      obtain⟨xs,Lu⟩:=qZ _ kY.1.range
      have O9:xs.length<=4:=by
        grind [mB]
      refine gO ?_
      refine ld (.t5 .aa) (aF.ld _) ?_
      refine ca (Es _ _ _) .nil ?_
      rintro _ _ ⟨b1,b2,rfl,rfl⟩
      refine gO ?_
      refine uY (xs:=xs) (fun x:Qv=>iI x.1) (fun pre=>∀ x∈pre,s.room q m x.1=true) (fun pre=>∃ l x,pre=l++[x]/\(∀ y∈l,s.room q m y.1=true)/\s.room q m x.1=false) (fun pre=>[.cells b1 0 1 (aF (iI n)),.cells b2 0 1 (aF (ay p o 0)),.cells p o 60 (bD s),.cells bT 0 1 (aF (ay p o 0)),.cells bq 0 1 (aF (iI q)),.cells bm 0 1 (aF (iI m)),.cells br 0 1 (aF (iI 0)),.cells bo 0 1 (aF (.bool false))]) (fun pre=>[.cells b1 0 1 (aF (iI n)),.cells b2 0 1 (aF (ay p o 0)),.cells p o 60 (bD s),.cells bT 0 1 (aF (ay p o 0)),.cells bq 0 1 (aF (iI q)),.cells bm 0 1 (aF (iI m)),.cells br 0 1 (aF (iI ((mB pre).getLast?.getD 0))),.cells bo 0 1 (aF (.bool true))]) rfl (nw Ep) rfl rfl (fun w hw=>uR p o b1 b2 n s.aA xs (by rw[Lu];exact kY.1) w (lr (by rfl) hw.fa .aa (.ao .aa) (.t2 .aa))) ?_ (xq (pk [0,0,0,4,3,2,1,0])) (fun _=>rfl) (fun _=>rfl) ?_ ?_ ?_
      · simp_all
      · intro pre x w hV hlen hx
        have hsm:=hS x.1 x.2.1 x.2.2
        obtain⟨x1,x2⟩:=x.2
        have hr0: -9223372036854775808<=(s.gv x.1).pr+q/\(s.gv x.1).pr+q<=9223372036854775807:=by show _<=s.pr x.1+q/\s.pr x.1+q<=_;omega
        have Eu: -9223372036854775808<=(s.gv x.1).pg+m/\(s.gv x.1).pg+m<=9223372036854775807:=by show _<=s.pg x.1+m/\s.pg x.1+m<=_;omega
        refine XB.block ?_
        refine XB.seq ?_
        refine XB.im mixed (f:=10) (l:= #[qF,qF,qF,qF,qF,qF,qF,qF,qF,qF]) rfl rfl XM.kN ?_
        refine XQ.load (i:=0) (.cells _ _ _ _) [8] rfl kq rfl (.t3 .aa) (V.load rfl eh (aF.ld _) Eo) rfl kq rfl ?_
        refine XQ.pv (i:=1) rfl kq rfl (V.move rfl) rfl rfl ?_
        refine XQ.pv (i:=2) rfl kq rfl (bB rfl) rfl rfl ?_
        refine XQ.pv (i:=3) rfl kq rfl (V.fieldAddr rfl pH) rfl rfl ?_
        refine XQ.pv (i:=4) rfl kq rfl (jh rfl rfl En og) rfl rfl ?_
        refine XQ.load (i:=5) (.cells _ _ _ _) [8] rfl kq rfl (.t2 .aa) (eJ rfl eh (C7 _ _) GU vE) rfl kq rfl ?_
        refine XQ.load (i:=6) (.cells _ _ _ _) [8] rfl kq rfl (.t4 .aa) (V.load rfl eh (aF.ld _) lq) rfl kq rfl ?_
        refine XQ.load (i:=7) (.cells _ _ _ _) [8] rfl kq rfl (.t5 .aa) (V.load rfl eh (aF.ld _) lq) rfl kq rfl ?_
        refine XQ.call (i:=8) rfl kq rfl rfl (VV _ _ _ aq aq) .nil VW rfl (by rintro _ _ ⟨rfl,rfl⟩;all_goals(intro _ dZ;refine⟨?_,?_,?_,?_,trivial⟩<;>exact fun hs=>(hs 8 b8 rfl).elim)) ?_
        rintro _ _ ⟨rfl,rfl⟩
        refine XQ.pv (i:=9) rfl kq rfl (V.not rfl) rfl rfl ?_
        refine XQ.done kq ?_
        refine o3 ?_
        refine XB.fE [(8,_),(9,_),(10,_),(34,_)] S4 ?_
        refine XB.cond rfl (fun h3=> ?_) fun h3=> ?_
        · try simp only[sb]at h3
          have hX:=h3
          refine XB.seq ?_
          refine XB.region ?_
          refine XO.v (V.move rfl) rfl ?_
          refine XO.store rfl rfl (.t6 .aa) (aF.st _ _) rfl ot ?_
          refine XO.store rfl rfl (.t7 .aa) (aF.st _ _) rfl Et ?_
          refine XO.nil ?_
          refine o3 ?_
          refine XB.fE [(8,_),(9,_)] S2 ?_
          refine XB.ret ?_
          refine lI ?_
          refine XE.gx hx ?_ rfl fun w2 mw=> ?_
          · skip
            exact⟨pre,x,rfl,hV,by simpa [TG.room]using hX⟩
          grind [FX]
        · try simp only[sb]at h3
          have hX:=h3
          refine XB.skip ?_
          refine gG ?_
          refine xF hx ?_ rfl (fun w2 hg=>lr (by rfl) hg .aa (.ao .aa) (.t2 .aa)) fun w2 mw=> ?_
          · skip
            intro y hy
            rcases List.mem_append.1 hy with hy | hy
            · grind
            · simp at hy;subst hy;simpa [TG.room]using hX
          simp_all
      · intro hV D hD
        have hc:s.pN n q m=0:=by unfold TG.pN;rw[if_neg og];exact(TG.Bc _ _).2 j0
        have hr:s.iQ n q m=none:=by
          unfold TG.iQ
          grind [mB]
        refine gE ?_
        refine st (.t7 .aa) (aF.st _ _) rfl ?_
        refine st (.t8 .aa) (aF.st _ _) rfl ?_
        refine nu (.inr rfl) .aa rfl hD ?_
        refine dC rfl (.cell rfl (.t6 .aa) (aF.ld _) lq) (.cell rfl (.t7 .aa) (aF.ld _) Fk) (ah (pk [2]) rfl ?_)
        grind [aR,bN]
      · intro pre hp hV D hD
        have hc:s.pN n q m=0:=by unfold TG.pN;rw[if_neg og];exact(TG.Bc _ _).2 j0
        have hr:s.iQ n q m=some ((mB pre).getLast?.getD 0):=by
          unfold TG.iQ
          grind [mB]
        refine gE ?_
        refine nu (.inr rfl) .aa rfl hD ?_
        refine dC rfl (.cell rfl (.t6 .aa) (aF.ld _) lq) (.cell rfl (.t7 .aa) (aF.ld _) Fk) (ah (pk [2]) rfl ?_)
        simp_all
    · skip
      have j1:=h2
      refine gO ?_
      refine st (.t2 .aa) (aF.st _ _) rfl ?_
      refine st (.ao .aa) (aF.st _ _) rfl ?_
      refine qE (.inr rfl) ?_
      refine dC rfl (.cell rfl (.t2 .aa) (aF.ld _) lq) (.cell rfl (.ao .aa) (aF.ld _) Fk) (ah .h1 rfl ?_)
      first
      | (have hc:s.pN n q m=s.cC n:=by unfold TG.pN;rw[if_pos aq]
         have hr:s.iQ n q m=none:=by unfold TG.iQ;rw[if_pos og]
         exact⟨by rw[hr];rfl,rfl⟩)
      | (have hc:s.pN n q m=1:=by unfold TG.pN;rw[if_neg og];exact j1
         have hr:s.iQ n q m=none:=by unfold TG.iQ;rw[if_pos og]
         exact⟨by rw[hr];rfl,rfl⟩)
  · skip
    have i0:=h1
    refine gO ?_
    refine st (.t2 .aa) (aF.st _ _) rfl ?_
    refine st (.ao .aa) (aF.st _ _) rfl ?_
    refine qE (.inr rfl) ?_
    refine dC rfl (.cell rfl (.t2 .aa) (aF.ld _) lq) (.cell rfl (.ao .aa) (aF.ld _) Fk) (ah .h1 rfl ?_)
    first
    | (have hc:s.pN n q m=s.cC n:=by unfold TG.pN;rw[if_pos aq]
       have hr:s.iQ n q m=none:=by unfold TG.iQ;rw[if_pos og]
       exact⟨by rw[hr];rfl,rfl⟩)
    | (have hc:s.pN n q m=1:=by unfold TG.pN;rw[if_neg og];exact j1
       have hr:s.iQ n q m=none:=by unfold TG.iQ;rw[if_pos og]
       exact⟨by rw[hr];rfl,rfl⟩)
def VY(p o:Nat)(s:TG)(n:Int)(hn:0<=n/\n<10)(q m:Int)(Bd:Int)(hB:0<=Bd/\Bd<=1000000000000)(hS:s.bU Bd):Spec Tryz.prog 122 [ay p o 0,iI n,iI q,iI m] [.cells p o 60 (bD s)] (fun v H1=>v= .bool (decide (q<=s.left s.pr n/\m<=s.left s.pg n))/\H1=[.cells p o 60 (bD s)]):=by
 refine Spec.go 74 [0,1,2,3,8,9,10,11,12,30,31,32,46] [] Tryz.func122 fun W=> ?_;refine rq [0,1,2,3,4,5,6,7,8,9,10,11,12,13,14,15] mixed ?_;refine sd ?_;apply ld .aa (fI _ _);refine sd ?_;apply ld .aa (fJ _ _);apply lW .aa (wV _);refine lp (σ:=Int) (fun k=>(10-k).toNat) (fun k=>0<=k/\k<=10) (fun k=>[(31,iI k),(9,iI (s.pr n-cE (s.gF s.pr n) k.toNat)),(10,iI (s.pg n-cE (s.gF s.pg n) k.toNat)),(0,ay p o 0),(1,iI n),(2,iI q),(3,iI m),(30,.agg (PX s.aa 10))]) (fun k=>XM W (bX [.cells p o 60 (bD s)]) [.cells p o 60 (bD s)]) (0) ?_ (.cons rfl (.cons (by rw[show s.pr n-cE (s.gF s.pr n) (0:Int).toNat=s.pr n from by simp[cE]];rfl) (S6 (by rw[show s.pg n-cE (s.gF s.pg n) (0:Int).toNat=s.pg n from by simp[cE]];rfl) rfl rfl rfl rfl rfl))) (xq .h1) ?_
 ·omega
 intro k hk;have acW:=JS s s.pr n hk.1;have acX:=JS s s.pg n hk.1;have hbd:=Qw hS hB hn (k:=k) hk.1;apply gC;refine cd ?_ ?_<;>intro h1
 ·have hSn:=hS n hn.1 hn.2;have hSk:=hS k hk.1 og;refine XO.v (wG rfl rfl Tryz.underlying149 Et Fk og (G8)) rfl (gO ?_);refine P5 36 rfl ?_ ?_<;>intro h2
  ·try simp only[sb]at h2
   refine sd ?_;apply ld .aa (gm _ _);refine cd ?_ ?_<;>intro h3
   ·refine sd ?_;apply ld .aa (fI _ _);refine sd ?_;refine sd ?_;apply ld .aa (fJ _ _);refine sd ?_;refine sd ?_;refine ag (k+1) ?_ ?_ (.cons rfl (.cons (by rw[acW];rw[show s.gF s.pr n k=s.pr k from by unfold TG.gF;rw[if_pos ⟨iV,iV⟩]];exact LJ) (S6 (by rw[acX];rw[show s.gF s.pg n k=s.pg k from by unfold TG.gF;rw[if_pos ⟨iV,iV⟩]];exact LJ) rfl rfl rfl rfl rfl))) (xq .h1);all_goals omega
   ·refine sd ?_;refine ag (k+1) ?_ ?_ (.cons rfl (.cons (by rw[acW];rw[show s.gF s.pr n k=0 from by unfold TG.gF;rw[if_neg iV]];exact LJ) (S6 (by rw[acX];rw[show s.gF s.pg n k=0 from by unfold TG.gF;rw[if_neg iV]];exact LJ) rfl rfl rfl rfl rfl))) (xq .h1);all_goals omega
  ·try simp only[sb]at h2
   refine sd ?_;refine ag (k+1) ?_ ?_ (.cons rfl (.cons (by rw[acW];rw[show s.gF s.pr n k=0 from by unfold TG.gF;rw[if_neg iV]];exact LJ) (S6 (by rw[acX];rw[show s.gF s.pg n k=0 from by unfold TG.gF;rw[if_neg iV]];exact LJ) rfl rfl rfl rfl rfl))) (xq .h1);all_goals omega
 ·refine sp 69 rfl ?_ ?_<;>intro h4
  ·refine bL .h1 ?_;obtain rfl:k=10:=og;refine⟨congrArg Value.bool ?_,rfl⟩;unfold TG.left;simp_all
  ·refine bL .h1 ?_;obtain rfl:k=10:=og;refine⟨congrArg Value.bool ?_,rfl⟩;unfold TG.left;grind
def nf(p o:Nat)(s:TG)(hO:s.Ok)(n q m:Int)(Bd:Int)(hB:0<=Bd/\Bd<=1000000000000)(hS:s.bU Bd):Spec Tryz.prog 54 [ay p o 0,iI n,iI q,iI m] [.cells p o 60 (bD s)] (fun v H1=>v=ax 102 (s.gk n q m)/\H1=[.cells p o 60 (bD (s.cR n q m))]):=by
  refine Spec.go 35 [0,1,2,3,8,9,14,19,26] [] Tryz.func54 fun W=> ?_
  refine ca (Ii _ _ _ _) .h1 ?_
  rintro _ _ (⟨h1,rfl,rfl⟩ | ⟨h1,rfl,rfl⟩)
  · skip
    obtain⟨i0,i1,i2,i3⟩:=h1
    apply gO
    refine ca (Er _ _) .nil ?_
    rintro _ _ (⟨h2,rfl,rfl⟩ | ⟨h2,rfl,rfl⟩)
    · skip
      have j0:=h2
      apply gO
      refine cq (VY _ _ s _ ⟨og,og⟩ _ _ Bd hB hS) .h1 ?_
      refine cd ?_ ?_<;>intro h3
      · skip
        refine bL .h1 ?_
        have hc:s.pN n q m=0:=by unfold TG.pN;rw[if_neg og];exact(TG.Bc _ _).2 j0
        have hr:s.gk n q m=8:=by unfold TG.gk;rw[if_neg og,if_neg iV]
        exact⟨by rw[hr];rfl,by unfold TG.cR;rw[if_neg og]⟩
      · skip
        refine sd (sd ?_)
        refine cq (VX _ _ s hO _ (by first | assumption | exact⟨og,og,aq⟩) _ _ og og Bd hB hS) .h1 ?_
        refine bL .h1 ?_
        have hc:s.pN n q m=0:=by unfold TG.pN;rw[if_neg og];exact(TG.Bc _ _).2 j0
        have hr:s.gk n q m=0:=by unfold TG.gk;rw[if_neg og,if_pos iV]
        exact⟨by rw[hr];rfl,by unfold TG.cR;rw[if_pos hr];simp only[Int.zero_sub]⟩
    · skip
      have j1:=h2
      apply gO
      refine bL .h1 ?_
      first
      | (have hc:s.pN n q m=s.cC n:=by unfold TG.pN;rw[if_pos aq]
         have hr:s.gk n q m=s.cC n:=by unfold TG.gk;rw[if_pos og,hc]
         exact⟨by rw[hr,aJ _ aq],by unfold TG.cR;rw[if_neg og]⟩)
      | (have hc:s.pN n q m=1:=by unfold TG.pN;rw[if_neg og];exact j1
         have hr:s.gk n q m=1:=by unfold TG.gk;rw[if_pos og,hc]
         exact⟨by rw[hr];rfl,by unfold TG.cR;rw[if_neg og]⟩)
  · skip
    have i0:=h1
    apply gO
    refine bL .h1 ?_
    try dsimp only[aS,aR,bI,bN]
    first
    | (have hc:s.pN n q m=s.cC n:=by unfold TG.pN;rw[if_pos aq]
       have hr:s.gk n q m=s.cC n:=by unfold TG.gk;rw[if_pos og,hc]
       exact⟨by rw[hr,aJ _ aq],by unfold TG.cR;rw[if_neg og]⟩)
    | (have hc:s.pN n q m=1:=by unfold TG.pN;rw[if_neg og];exact j1
       have hr:s.gk n q m=1:=by unfold TG.gk;rw[if_pos og,hc]
       exact⟨by rw[hr];rfl,by unfold TG.cR;rw[if_neg og]⟩)
def acY(p o:Nat)(s:TG)(hO:s.Ok)(a b q m:Int)(Bd:Int)(hB:0<=Bd/\Bd<=900000000000)(hS:s.bU Bd):Spec Tryz.prog 159 [ay p o 0,iI a,iI b,iI q,iI m] [.cells p o 60 (bD s)] (fun v H1=>v=ax 102 (s.eN a b q m)/\H1=[.cells p o 60 (bD (s.move a b q m))]):=by
 have hO2:(s.cR a q m).Ok:=hO.cR;have hB2:0<=Bd+320/\Bd+320<=2000000000000:=og;refine Spec.go 39 [0,1,2,3,4,10,11,16,24,32] [] Tryz.func159 fun W=> ?_;refine ca (Ii _ _ _ _) .h1 ?_;rintro _ _ (⟨h1,rfl,rfl⟩ | ⟨h1,rfl,rfl⟩)
 ·obtain⟨i0,i1,i2,i3⟩:=h1;refine gO ?_;refine cq (nf _ _ s hO _ _ _ Bd og hS) .h1 ?_;refine cd ?_ ?_<;>intro h2
  ·refine bL .h1 ?_;try dsimp only[aS,aR,bI,bN]
   exact⟨by unfold TG.eN;rw[if_neg og,if_pos aq],by rw[show s.cR a q m=s from by unfold TG.cR;rw[if_neg aq],show s.move a b q m=s from by unfold TG.move;rw[if_pos (Or.inr aq)]]⟩
  ·have hS2:(s.cR a q m).bU (Bd+320):=hS.cR hO a q m;obtain⟨⟨a1,a2,a3⟩,q1,q2,m1,m2⟩:=TG.vj (by omega:s.gk a q m=0);have hu:s.cR a q m=s.lay (s.cX a) (-q) (-m):=by unfold TG.cR;rw[if_pos og]
   refine cq (uS _ _ _ hO2 _ _ _ (Bd+320) og hS2) .h1 ?_;refine cd ?_ ?_<;>intro h3
   ·have Ij:(s.cR a q m).aP b q m=s.cR a q m:=by unfold TG.aP;rw[if_neg og]
    rw[Ij];refine cq (VX _ _ (s.cR a q m) hO2 a (by rw[hu];exact⟨a1,a2,a3⟩) q m og og (Bd+320) og hS2) .h1 ?_;refine bL .h1 ?_;try dsimp only[aS,aR,bI,bN]
    have hv:s.eN a b q m=(s.cR a q m).cZ b q m:=by unfold TG.eN;rw[if_neg og,if_neg og]
    have hm:s.move a b q m=s:=by unfold TG.move;rw[if_neg og,if_neg aq]
    exact⟨by rw[hv],by rw[hm,TG.Ug,hu,TG.Uf]⟩
   ·refine bL .h1 ?_;try dsimp only[aS,aR,bI,bN]
    have hv:s.eN a b q m=(s.cR a q m).cZ b q m:=by unfold TG.eN;rw[if_neg og,if_neg og]
    have hm:s.move a b q m=(s.cR a q m).aP b q m:=by unfold TG.move;rw[if_neg og,if_pos og]
    simp_all
 ·have i0:=h1;refine gO ?_;refine bL .h1 ?_;try dsimp only[aS,aR,bI,bN]
  exact⟨by unfold TG.eN;rw[if_pos aq,aJ _ aq],by unfold TG.move;rw[if_pos (.inl aq)]⟩
def Ze(p o:Nat)(s:TG)(n q m:Int):Spec Tryz.prog 158 [ay p o 0,iI n,iI q,iI m] [.cells p o 60 (bD s)] (fun v H1=>v=ax 102 (s.ki n q m)/\H1=[.cells p o 60 (bD (s.jD n q m))]):=by
 refine Spec.go 45 [0,1,2,3,8,9,14,29] [] Tryz.func158 fun W=> ?_;refine ca (Ii _ _ _ _) .h1 ?_;rintro _ _ (⟨h1,rfl,rfl⟩ | ⟨h1,rfl,rfl⟩)
 ·obtain⟨i0,i1,i2,i3⟩:=h1;apply gO;refine sp 18 rfl ?_ ?_<;>intro h2
  ·refine bL .h1 ?_;have hr:s.ki n q m=1:=by unfold TG.ki;rw[if_neg og,if_pos og]
   exact⟨by rw[hr];rfl,by unfold TG.jD;rw[if_neg og]⟩
  ·refine sp 22 rfl ?_ ?_<;>intro h3
   ·refine bL .h1 ?_;have hr:s.ki n q m=1:=by unfold TG.ki;rw[if_neg og,if_pos og]
    exact⟨by rw[hr];rfl,by unfold TG.jD;rw[if_neg og]⟩
   ·refine sp 26 rfl ?_ ?_<;>intro h4
    ·refine bL .h1 ?_;have hr:s.ki n q m=1:=by unfold TG.ki;rw[if_neg og,if_pos og]
     exact⟨by rw[hr];rfl,by unfold TG.jD;rw[if_neg og]⟩
    ·refine cd ?_ ?_<;>intro h5
     ·refine bL .h1 ?_;have hr:s.ki n q m=1:=by unfold TG.ki;rw[if_neg og,if_pos og]
      exact⟨by rw[hr];rfl,by unfold TG.jD;rw[if_neg og]⟩
     ·refine rq [0,1,2,3,4,5,6,7,8,9,11,12,10,13,14,15] mixed (sd (st .aa (tg _ _ og _) rfl (sd (st .aa (ti _ _ og _) rfl (aM rfl rfl (ah .h1 rfl ?_))))));have hr:s.ki n q m=0:=by unfold TG.ki;rw[if_neg og,if_neg og]
      exact⟨by rw[hr];rfl,by unfold TG.jD;rw[if_pos hr]⟩
 ·have i0:=h1;apply gO;refine bL .h1 ?_;try dsimp only[aS,aR,bI,bN]
  have hr:s.ki n q m=s.cC n:=by unfold TG.ki;rw[if_pos aq]
  exact⟨by rw[hr,aJ _ aq],by unfold TG.jD;rw[if_neg og]⟩
def aip(p o:Nat)(s:TG)(n:Int):Spec Tryz.prog 92 [ay p o 0,iI n] [.cells p o 60 (bD s)] (fun v H1=>v= .tuple #[.agg (if s.cC n=0 then s.gv n else GV.zero).cF,ax 102 (s.cC n)]/\H1=[.cells p o 60 (bD s)]):=by
 refine Spec.go 20 [0,1,4,5,6,11] [] Tryz.func92 fun W=> ?_;apply XO.bG (z:=.agg GV.zero.cF) (m:=5) (C:=ny GV.zero) (q8 _);intro bg;apply gO;refine ca (Ii _ _ _ _) (pk [1]) ?_;rintro _ _ (⟨h1,rfl,rfl⟩ | ⟨h1,rfl,rfl⟩)
 ·obtain⟨i0,i1,i2,i3⟩:=h1;apply gO;refine sd (lW .aa (C7 _ _) (fW (.ao .aa) (vk _ _) rfl ⟨rfl,rfl⟩ (dC rfl (.agg rfl (.ao .aa) (Hs _) GU vE) (.tmp rfl) (ah .h1 rfl ?_))));grind [aS,aR,bN,ax]
 ·have i0:=h1;apply gO;refine XO.v (V.build (vs:= #[]) rfl (v:=.agg GV.zero.cF) fun _=>kq) rfl (gO ?_);refine fW (.ao .aa) (vk _ _) rfl ⟨rfl,rfl⟩ (dC rfl (.agg rfl (.ao .aa) (Hs _) GU vE) (.tmp rfl) (ah .h1 rfl ?_));grind [aS,aR,ax]
def afQ(p o:Nat)(s:TG)(hO:s.Ok)(a:Int):Spec Tryz.prog 154 [ay p o 0,iI a] [.cells p o 60 (bD s)] (fun v H1=>v= .tuple #[iI (s.gL a),ax 102 (s.ud a)]/\H1=[.cells p o 60 (bD (s.add a))]):=by
 refine Spec.go 45 [0,1,4,5,6,7,8,13,18,23,24,25,29] [] Tryz.func154 fun W=> ?_;refine ca (Ii _ _ _ _) .h1 ?_;rintro _ _ (⟨h1,rfl,rfl⟩ | ⟨h1,rfl,rfl⟩)
 ·obtain⟨i0,i1,i2,i3⟩:=h1;apply gO;refine cq (acV _ _ _ hO _ ⟨og,og,aq⟩) .h1 ?_;refine cd ?_ ?_<;>intro h2
  ·refine er .h1 ?_;try dsimp only[aS,aR,bI,bN]
   have e:=TG.CX (s:=s) (a:=a) aq og;rw[(TG.si og).1,(TG.si og).2];grind [ax]
  ·apply lW .aa (wV _);refine lp (σ:=Int) (fun k=>(10-k).toNat) (fun k=>(0<=k/\k<=10)/\∀ j:Int,0<=j->j<k->s.aa j=true) (fun k=>[(24,iI k),(0,ay p o 0),(1,iI a),(23,.agg (PX s.aa 10))]) (fun k=>XM W (bX [.cells p o 60 (bD s)]) [.cells p o 60 (bD s)]) (0) ?_ S4 (xq .h1) ?_
   ·grind
   intro k hk;obtain⟨hk,BV⟩:=hk;apply gC;refine cd ?_ ?_<;>intro h3
   ·refine XO.v (wG rfl rfl Tryz.underlying149 Et Fk og (G8)) rfl (gO ?_);refine wM ?_ ?_<;>intro h4
    ·try simp only[sb]at h4
     refine sd (st .aa (nZ _ _ og _) rfl (XO.v (V.build (vs:= #[(0,iI a),(1,iI (-1)),(2,iI (-1))]) rfl (v:=.agg (GV.cF ⟨a,-1,-1,0,0⟩)) fun _=>kq) rfl (gO ?_)));refine sd (fW .aa (zX _ _ og _) rfl ⟨rfl,rfl⟩ (aW rfl rfl rfl (ah .h1 rfl ?_)));obtain⟨e1,e2,e3⟩:=TG.CY (s:=s) (a:=a) (k:=k) aq og hk.1 og iV BV;rw[e1,e2,e3];exact⟨rfl,rfl⟩
    ·try simp only[sb]at h4
     refine sd (ag (k+1) ?_ ?_ S4 (xq .h1));all_goals grind
   ·refine er .h1 ?_;try dsimp only[aS,aR,bI,bN]
    have e:=TG.Uh (s:=s) (a:=a) aq og fun j h1 h2=>BV j h1 og;rw[(TG.si og).1,(TG.si og).2];grind [ax]
 ·have i0:=h1;apply gO;refine er .h1 ?_;try dsimp only[aS,aR,bI,bN]
  have e:=TG.Hp (s:=s) aq;rw[(TG.si og).1,(TG.si og).2];grind [ax]
def VZ(p o:Nat)(s:TG)(n:Int):Spec Tryz.prog 156 [ay p o 0,iI n] [.cells p o 60 (bD s)] (fun v H1=>v=ax 102 (s.dz n)/\H1=[.cells p o 60 (bD (s.du n))]):=by
 refine Spec.go 70 [0,1,4,5,6,7,12,35,40,41,42,56] [] Tryz.func156 fun W=> ?_;refine ca (Ii _ _ _ _) .h1 ?_;rintro _ _ (⟨h1,rfl,rfl⟩ | ⟨h1,rfl,rfl⟩)
 ·obtain⟨i0,i1,i2,i3⟩:=h1;apply gO;refine sp 16 rfl ?_ ?_<;>intro h2
  ·refine bL .h1 ?_;have e:s.dz n=5:=by unfold TG.dz;rw[if_neg og,if_pos og]
   exact⟨by rw[e]<;>rfl,by unfold TG.du;rw[if_neg og]⟩
  ·refine sd (ld .aa (fI _ _) ?_);refine sp 26 rfl ?_ ?_<;>intro h3
   ·refine bL .h1 ?_;have e:s.dz n=5:=by unfold TG.dz;rw[if_neg og,if_pos og]
    exact⟨by rw[e]<;>rfl,by unfold TG.du;rw[if_neg og]⟩
   ·refine sd (ld .aa (fJ _ _) ?_);refine cd ?_ ?_<;>intro h4
    ·refine bL .h1 ?_;have e:s.dz n=5:=by unfold TG.dz;rw[if_neg og,if_pos og]
     exact⟨by rw[e]<;>rfl,by unfold TG.du;rw[if_neg og]⟩
    ·apply lW .aa (wV _);refine lp (σ:=Int) (fun k=>(10-k).toNat) (fun k=>(0<=k/\k<=10)/\∀ j:Int,0<=j->j<k->¬(s.aa j=true/\s.aA j=n)) (fun k=>[(41,iI k),(0,ay p o 0),(1,iI n),(40,.agg (PX s.aa 10))]) (fun k=>XM W (bX [.cells p o 60 (bD s)]) [.cells p o 60 (bD s)]) (0) ?_ S4 (xq .h1) ?_
     ·grind
     intro k hk;obtain⟨hk,BV⟩:=hk;apply gC;refine cd ?_ ?_<;>intro h5
     ·refine XO.v (wG rfl rfl Tryz.underlying149 Et Fk og (G8)) rfl (gO ?_);refine P5 46 rfl ?_ ?_<;>intro h6
      ·try simp only[sb]at h6
       refine sd (ld .aa (gm _ _) ?_);refine cd ?_ ?_<;>intro h7
       ·refine bL .h1 ?_;have YH:=TG.On (s:=s) (n:=n) hk.1 og iV iV;have e:s.dz n=5:=by unfold TG.dz;rw[if_neg og,if_pos (Or.inr (Or.inr (Or.inr YH)))]
        exact⟨by rw[e]<;>rfl,by unfold TG.du;rw[if_neg og]⟩
       ·refine sd (ag (k+1) ?_ ?_ S4 (xq .h1));all_goals grind
      ·try simp only[sb]at h6
       refine sd (ag (k+1) ?_ ?_ S4 (xq .h1));all_goals grind
     ·refine sd (st .aa (nZ _ _ og _) rfl (XO.v (V.build (vs:= #[]) rfl (v:=.agg GV.zero.cF) fun _=>kq) rfl (gO ?_)));refine sd (fW .aa (zX _ _ og _) rfl ⟨rfl,rfl⟩ (aM rfl rfl (ah .h1 rfl ?_)));have YH:=TG.Yi (s:=s) (n:=n) fun j h1 h2=>BV j h1 og;have e:s.dz n=0:=by unfold TG.dz;rw[if_neg og,if_neg (by rw[YH];simp;omega)]
      exact⟨by rw[e]<;>rfl,by unfold TG.du;rw[if_pos e];rfl⟩
 ·have i0:=h1;apply gO;refine bL .h1 ?_;try dsimp only[aS,aR,bI,bN]
  have e:s.dz n=s.cC n:=by unfold TG.dz;rw[if_pos aq]
  exact⟨by rw[e,aJ _ aq],by unfold TG.du;rw[if_neg og]⟩
def afR:Spec Tryz.prog 95 [] [] (fun v H1=>∃ p,v=ay p 0 0/\H1=[.cells p 0 60 (bD TG.cP)]):=by
 refine Spec.go 14 [0,1] [] Tryz.func95 fun W=> ?_;refine XO.v (V.build (vs:= #[]) rfl (v:=.agg #[iI 0,iI 0,iI 0,iI 0,iI 0,iI 0,iI 0,iI 0,iI 0,iI 0,iI 0,iI 0,iI 0,iI 0,iI 0,iI 0,iI 0,iI 0,iI 0,iI 0,iI 0,iI 0,iI 0,iI 0,iI 0,iI 0,iI 0,iI 0,iI 0,iI 0,iI 0,iI 0,iI 0,iI 0,iI 0,iI 0,iI 0,iI 0,iI 0,iI 0,iI 0,iI 0,iI 0,iI 0,iI 0,iI 0,iI 0,iI 0,iI 0,iI 0,.bool false,.bool false,.bool false,.bool false,.bool false,.bool false,.bool false,.bool false,.bool false,.bool false]) fun _=>kq) rfl (gO ?_);refine XO.box (m:=60) (C:=bD TG.dB) rfl rfl afe rfl ?_;intro p;apply gO;refine sd (st .aa (nZ _ _ og _) rfl (XO.v (V.build (vs:= #[(0,iI (-1)),(1,iI (-1)),(2,iI (-1))]) rfl (v:=.agg (GV.cF ⟨-1,-1,-1,0,0⟩)) fun _=>kq) rfl (gO ?_)));refine sd (fW .aa (zX _ _ og _) rfl ⟨rfl,rfl⟩ (aM rfl rfl (ah .h1 rfl ?_)));exact⟨_,rfl,rfl⟩
end Go.X.Gr

namespace Go.X.Fa
open Go Go.Proofs Go.X
set_option maxRecDepth 20000
set_option maxHeartbeats 4000000
def V0:rL Tryz.prog 254 2=true:=kq
def V1:fp Tryz.prog 254=some 2:=kq
def Np(k i k2 i2:Int):Spec Tryz.prog 243 [.agg #[.int .u64 (k),iI (i)],.agg #[.int .u64 (k2),iI (i2)]] [] (fun v H1=>v= .bool (decide (A3 k i k2 i2))/\H1=[]):=by
 refine Spec.go 24 [2,3,4] [] Tryz.func243 fun W=> ?_;refine XO.box (m:=2) (C:=qP k i) rfl rfl (zF _ _) rfl ?_;intro ba;refine gO ?_;refine XO.box (m:=2) (C:=qP k2 i2) rfl rfl (zF _ _) rfl ?_;intro bc;refine gO ?_;refine ld (.ao .aa) (vc _ _) ?_;refine ld .aa (vc _ _) ?_;refine sp 10 rfl ?_ ?_<;>intro h1
 ·refine bL .nil ?_;grind [aS,aR,bN,A3]
 ·refine ld (.ao .aa) (vc _ _) ?_;refine ld .aa (vc _ _) ?_;refine sp 16 rfl ?_ ?_<;>intro h2
  ·refine ld (.ao .aa) (xT _ _) ?_;refine ld .aa (xT _ _) ?_;refine bL .nil ?_;grind [aS,aR,A3]
  ·refine bL .nil ?_;grind [aS,aR,bN,A3]
def Ev(b o g cap:Nat)(s:QS)(i k id:Int)(hi:0<=i/\i<s.n:=by omega)(hd:0<=id/\id<64:=by omega)(hn:s.n<=1000:=by omega):Spec Tryz.prog 224 [ay b o 0,iI i,.agg #[.int .u64 (k),iI (id)]] [.cells b o 65 (gJ (s) (some ⟨g,0,none⟩) cap),aL (some ⟨g,0,none⟩) cap 254 2 (s).n (iu (s))] (fun v H1=>v= .tuple #[]/\H1=[.cells b o 65 (gJ (s.set i k id) (some ⟨g,0,none⟩) cap),aL (some ⟨g,0,none⟩) cap 254 2 (s.set i k id).n (iu (s.set i k id))]):=by
 refine Spec.go 21 [0,1,5] [] Tryz.func224 fun W=> ?_;refine XO.box (m:=2) (C:=qP k id) rfl rfl (zF _ _) rfl ?_;intro bx;refine gO ?_;refine rq [0,1,2,3,4,5,6,7] mixed ?_;refine ld (.ao .aa) (iK _ _ _) ?_;refine lW .aa (ka _ _) ?_;refine sd ?_;refine ahj (.t2 .aa) (TL _ _ _ _ _ og) rfl ⟨rfl,rfl⟩ ?_;refine rq [0,1,2,3,4,5,6,7,8] mixed ?_;refine ld .aa (xT _ _) ?_;refine sd ?_;refine sd ?_;refine st (.ao .aa) (CP _ _ _ _ _ og) rfl ?_;refine cY rfl (ah (pk [1,1]) rfl ?_);exact⟨rfl,rfl⟩
def afS(b o g cap:Nat)(s:QS)(i:Int)(hi:0<=i/\i<s.n)(hR:s.W5)(hn:s.n<=1000:=by omega):Spec Tryz.prog 223 [ay b o 0,iI i] [.cells b o 65 (gJ (s) (some ⟨g,0,none⟩) cap),aL (some ⟨g,0,none⟩) cap 254 2 (s).n (iu (s))] (fun v H1=>v= .tuple #[]/\H1=[.cells b o 65 (gJ (s.up i) (some ⟨g,0,none⟩) cap),aL (some ⟨g,0,none⟩) cap 254 2 (s.up i).n (iu (s.up i))]):=by
 obtain⟨r1,r2⟩:=hR i hi.1 hi.2;refine Spec.go 46 [0,1,4,26] [] Tryz.func223 fun W=> ?_;refine ld .aa (iK _ _ _) ?_;refine sd ?_;refine qJ (.ao .aa) (kD _ _ _) ?_;refine XO.bG (z:=.agg #[.int .u64 0,iI 0]) (m:=2) (C:=cellsOf #[.int .u64 0,iI 0]) (fun _ _=>rfl) ?_;intro bx;refine gO ?_;refine fW .aa (zG _ _) rfl ⟨rfl,rfl⟩ ?_;refine lp (σ:=QS×Int) (fun x=>x.2.toNat) (fun x=>x.1.n=s.n/\(0<=x.2/\x.2<s.n)/\x.1.W5/\QS.EK x.2.toNat x.1 x.2 (s.K i) (s.I i)=s.up i) (fun x=>[(1,iI x.2),(0,ay b o 0),(4,ay bx 0 0)]) (fun x=>XM W (bX [.cells b o 65 (gJ (s) (some ⟨g,0,none⟩) cap),aL (some ⟨g,0,none⟩) cap 254 2 (s).n (iu (s))]) [.cells bx 0 2 (qP (s.K i) (s.I i)),.cells b o 65 (gJ (x.1) (some ⟨g,0,none⟩) cap),aL (some ⟨g,0,none⟩) cap 254 2 (x.1).n (iu (x.1))]) ((s,i)) ?_ S3 (xq (pz 3)) ?_
 ·exact⟨rfl,hi,hR,rfl⟩
 intro x hx;obtain⟨xn,xi,xR,xu⟩:=hx;refine gC ?_;refine rq [0,1,2,3,4,5,6,7,8,9,10,11,12,13,14] mixed ?_;refine sp 14 rfl ?_ ?_<;>intro h1
 ·have IC:0<=((x.2-1)/2)/\((x.2-1)/2)<x.1.n:=og;have hpr:=xR ((x.2-1)/2) IC.1 IC.2;refine lW .aa (ka _ _) ?_;refine ld (.ao .aa) (iK _ _ _) ?_;refine sd ?_;refine XO.v (V.quo rfl rfl tC _ (tG)) rfl (gO ?_);refine sd ?_;refine qJ (.t2 .aa) (kD _ _ _) ?_;refine cq (Np _ _ _ _) .nil ?_;refine cd ?_ ?_<;>intro h2
  ·have s8:QS.EK x.2.toNat x.1 x.2 (s.K i) (s.I i)=QS.EK (((x.2-1)/2)).toNat (x.1.set x.2 (x.1.K ((x.2-1)/2)) (x.1.I ((x.2-1)/2))) ((x.2-1)/2) (s.K i) (s.I i):=Jn og h2;refine ld (.ao .aa) (iK _ _ _) ?_;refine sd ?_;refine XO.v (V.quo rfl rfl tC _ (tG)) rfl (gO ?_);refine sd ?_;refine qJ (.t2 .aa) (kD _ _ _) ?_;refine cq (Ev _ _ _ _ _ _ _ _) (pk [1,1]) ?_;refine sd ?_;refine XO.v (V.quo rfl rfl tC _ (tG)) rfl (gO ?_);refine ag ((x.1.set x.2 (x.1.K ((x.2-1)/2)) (x.1.I ((x.2-1)/2)),((x.2-1)/2))) ?_ ?_ S3 (xq (pk [2,0,0]));all_goals grind [QS.W5.set,QS.set]
  ·have s8:QS.EK x.2.toNat x.1 x.2 (s.K i) (s.I i)=x.1.set x.2 (s.K i) (s.I i):=A6 fun q=>h2 q.2;rw[s8]at xu;refine lW .aa (ka _ _) ?_;refine cq (Ev _ _ _ _ _ _ _ _) (pk [1,1]) ?_;refine cY rfl (ah (pz 2) rfl ?_);simp_all
 ·have s8:QS.EK x.2.toNat x.1 x.2 (s.K i) (s.I i)=x.1.set x.2 (s.K i) (s.I i):=A6 fun q=>og;rw[s8]at xu;refine lW .aa (ka _ _) ?_;refine cq (Ev _ _ _ _ _ _ _ _) (pk [1,1]) ?_;refine cY rfl (ah (pz 2) rfl ?_);simp_all
def acZ(b o g cap:Nat)(s:QS)(i:Int)(hi:0<=i/\i<s.n)(hR:s.W5)(hn:s.n<=1000):Spec Tryz.prog 225 [ay b o 0,iI i] [.cells b o 65 (gJ (s) (some ⟨g,0,none⟩) cap),aL (some ⟨g,0,none⟩) cap 254 2 (s).n (iu (s))] (fun v H1=>v= .tuple #[]/\H1=[.cells b o 65 (gJ (s.down i) (some ⟨g,0,none⟩) cap),aL (some ⟨g,0,none⟩) cap 254 2 (s.down i).n (iu (s.down i))]):=by
 obtain⟨r1,r2⟩:=hR i hi.1 hi.2;refine Spec.go 78 [0,1,4,5,41,62] [(2,1)] Tryz.func225 fun W=> ?_;refine ld .aa (iK _ _ _) ?_;refine sd ?_;refine qJ (.ao .aa) (kD _ _ _) ?_;refine XO.bG (z:=.agg #[.int .u64 0,iI 0]) (m:=2) (C:=cellsOf #[.int .u64 0,iI 0]) (fun _ _=>rfl) ?_;intro bx;refine gO ?_;refine fW .aa (zG _ _) rfl ⟨rfl,rfl⟩ ?_;refine lp (σ:=QS×Int) (fun x=>s.n-x.2.toNat) (fun x=>x.1.n=s.n/\(0<=x.2/\x.2<s.n)/\x.1.W5/\QS.kK (x.1.n-x.2.toNat) x.1 x.2 (s.K i) (s.I i)=s.down i) (fun x=>[(1,iI x.2),(0,ay b o 0),(4,ay bx 0 0)]) (fun x=>XM W (bX [.cells b o 65 (gJ (s) (some ⟨g,0,none⟩) cap),aL (some ⟨g,0,none⟩) cap 254 2 (s).n (iu (s))]) [.cells bx 0 2 (qP (s.K i) (s.I i)),.cells b o 65 (gJ (x.1) (some ⟨g,0,none⟩) cap),aL (some ⟨g,0,none⟩) cap 254 2 (x.1).n (iu (x.1))]) ((s,i)) ?_ S3 (xq (pz 3)) ?_
 ·grind [QS.down]
 intro x hx;obtain⟨xn,xi,xR,xu⟩:=hx;refine gC ?_;refine sd ?_;refine sd ?_;refine ct [(0,ay b o 0),(1,iI x.2),(4,ay bx 0 0),(5,iI (x.1.bA x.2))] (XM W (bX [.cells b o 65 (gJ (s) (some ⟨g,0,none⟩) cap),aL (some ⟨g,0,none⟩) cap 254 2 (s).n (iu (s))]) [.cells bx 0 2 (qP (s.K i) (s.I i)),.cells b o 65 (gJ (x.1) (some ⟨g,0,none⟩) cap),aL (some ⟨g,0,none⟩) cap 254 2 (x.1).n (iu (x.1))]) ?_ ?_
 ·refine rq [0,1,2,3,4,5,6,7,8,9,10,11,12,13,14,15,16,17,18,19,20,21,22,23,24,25] mixed ?_;refine sd ?_;refine ld (.ao .aa) (iK _ _ _) ?_;refine sp 24 rfl ?_ ?_<;>intro h1
  ·refine ld (.ao .aa) (iK _ _ _) ?_;refine sd ?_;refine sd ?_;refine qJ (.t2 .aa) (kD _ _ _) ?_;refine ld (.ao .aa) (iK _ _ _) ?_;refine sd ?_;refine qJ (.t2 .aa) (kD _ _ _) ?_;refine cq (Np _ _ _ _) .nil ?_;refine cd ?_ ?_<;>intro h2
   ·have hc:2*x.2+1+1=(x.1.bA x.2):=by unfold QS.bA;rw[if_pos ⟨og,h2⟩]
    refine sd ?_;refine mt (S4 rfl rfl rfl (LJ hc)) (xq (pz 3))
   ·have hc:2*x.2+1=(x.1.bA x.2):=by unfold QS.bA;rw[if_neg fun q=>h2 q.2]
    refine mt (S4 rfl rfl rfl (LJ hc)) (xq (pz 3))
  ·have hc:2*x.2+1=(x.1.bA x.2):=by unfold QS.bA;rw[if_neg fun q=>og]
   refine mt (S4 rfl rfl rfl (LJ hc)) (xq (pz 3))
 have hcc:x.2<(x.1.bA x.2):=by rcases x.1.ir x.2 with⟨e,_⟩ | ⟨e,_⟩<;>omega
 have hpr:=xR (x.1.bA x.2) og;have hcu:(x.1.bA x.2)<=2*x.2+2:=by rcases x.1.ir x.2 with⟨e,_⟩ | ⟨e,_⟩<;>omega
 refine gC ?_;refine rq [0,1,2,3,4,5,6,7,8,9,10,11,12,13,14,15,16,17,18] mixed ?_;refine ld (.ao .aa) (iK _ _ _) ?_;refine sp 51 rfl ?_ ?_<;>intro h3
 ·have s8:QS.kK (x.1.n-x.2.toNat) x.1 x.2 (s.K i) (s.I i)=x.1.set x.2 (s.K i) (s.I i):=vV fun q=>og;rw[s8]at xu;refine lW .aa (ka _ _) ?_;refine cq (Ev _ _ _ _ _ _ _ _) (pk [1,1]) ?_;refine cY rfl (ah (pz 2) rfl ?_);simp_all
 ·have hpr:=hpr og;refine ld (.ao .aa) (iK _ _ _) ?_;refine sd ?_;refine qJ (.t2 .aa) (kD _ _ _) ?_;refine lW .aa (ka _ _) ?_;refine cq (Np _ _ _ _) .nil ?_;refine cd ?_ ?_<;>intro h4
  ·have s8:QS.kK (x.1.n-x.2.toNat) x.1 x.2 (s.K i) (s.I i)=x.1.set x.2 (s.K i) (s.I i):=vV fun q=>h4 q.2;rw[s8]at xu;refine lW .aa (ka _ _) ?_;refine cq (Ev _ _ _ _ _ _ _ _) (pk [1,1]) ?_;refine cY rfl (ah (pz 2) rfl ?_);simp_all
  ·have s8:=EX (s:=x.1) (k:=s.K i) (id:=s.I i) xi.1 og og (Decidable.not_not.mp h4);refine ld (.ao .aa) (iK _ _ _) ?_;refine sd ?_;refine qJ (.t2 .aa) (kD _ _ _) ?_;refine cq (Ev _ _ _ _ _ _ _ _) (pk [1,1]) ?_;refine ag ((x.1.set x.2 (x.1.K (x.1.bA x.2)) (x.1.I (x.1.bA x.2)),(x.1.bA x.2))) ?_ ?_ S3 (xq (pk [2,0,0]));all_goals grind [QS.W5.set,QS.set]
def aaZ(b o cap:Nat)(p:Option Addr)(s:QS)(hO:s.Ok)(id ig:Int):Spec Tryz.prog 188 [ay b o 0,iI id,.int .u64 ig] [.cells b o 65 (gJ (s) p cap),aL p cap 254 2 (s).n (iu (s))] (fun v H1=>∃ p1 c1,v=ax 102 (s.put id ig).1/\H1=[.cells b o 65 (gJ ((s.put id ig).2) p1 c1),aL p1 c1 254 2 ((s.put id ig).2).n (iu ((s.put id ig).2))]):=by
 refine Spec.go 42 [0,1,2,6,12,20] [] Tryz.func188 fun W=> ?_;refine sp 9 rfl ?_ ?_<;>intro h1
 ·refine bL (pz 2) ?_;simp_all[aS,aR,bN,QS.qQ,ax]
 ·refine cd ?_ ?_<;>intro h2
  ·refine bL (pz 2) ?_;rw[QS.qQ og];exact⟨_,_,rfl,rfl⟩
  ·refine sd ?_;refine ld .aa (xQ _ _ _ _) ?_;refine cd ?_ ?_<;>intro h3
   ·refine bL (pz 2) ?_;rw[QS.vd og og];exact⟨_,_,rfl,rfl⟩
   ·have W4:=hO.L0 id og og;have lT:=hO.room (id:=id) og og;refine ld .aa (iK _ _ _) ?_;refine XO.v (V.build (vs:= #[(0,.int .u64 ig),(1,iI id)]) rfl (v:=.agg #[.int .u64 ig,iI id]) fun _=>kq) rfl (gO ?_);refine XO.buildSlice (e:=254) (vs:= #[(0,.agg #[.int .u64 ig,iI id])]) (A:= #[.int .u64 ig,iI id]) rfl (fun _=>kq) rfl rfl ?_;intro h4;refine gO ?_;refine wH (e:=254) (C2:=iu (s.kA ig id)) rfl rfl Tryz.underlying183 V0 (.ao (.ao .aa)) .aa rfl rfl og og (Qf s ig id) rfl ?_;intro p1 c1;refine gO ?_;refine st (.t2 .aa) (TM s _ _ _ _ ig id) rfl ?_;refine bP .aa og ?_;intro g1 h5;subst h5;have hn1:(s.kA ig id).n=s.n+1:=rfl;have hR:(s.kA ig id).W5:=fun j j0 j1=>by
     show 0<=ad s.I s.n id j/\ad s.I s.n id j<64;unfold ad;split
     ·omega
     ·exact hO.nV j j0 og
    refine ld (.t2 .aa) (show 0+0<65/\gJ (s.kA ig id) _ _ (0+0)= .slice _ (s.n+1) _ from⟨og,rfl⟩) ?_;refine oV ?_;refine XO.v (V.sub rfl rfl (s.n:Int) (by rw[show((s.n+1:Nat):Int)-1=s.n from og];exact IntWalk.i64_in _ og)) rfl (gO ?_);refine cq (afS _ _ _ _ (s.kA ig id) _ og hR) (pk [2,0]) ?_;refine bL (pz 2) ?_;rw[QS.tQ og og];exact⟨_,_,rfl,rfl⟩
def aa0(b o cap:Nat)(p:Option Addr)(s:QS)(hO:s.Ok)(hH:s.vK)(id:Int):Spec Tryz.prog 189 [ay b o 0,iI id] [.cells b o 65 (gJ (s) p cap),aL p cap 254 2 (s).n (iu (s))] (fun v H1=>∃ p1 c1,v= .tuple #[.int .u64 (s.cut id).1,ax 102 (s.cut id).2.1]/\H1=[.cells b o 65 (gJ ((s.cut id).2.2) p1 c1),aL p1 c1 254 2 ((s.cut id).2.2).n (iu ((s.cut id).2.2))]):=by
 refine Spec.go 83 [0,1,4,5,6,7,8,9,15,25,64] [] Tryz.func189 fun W=> ?_;refine sp 12 rfl ?_ ?_<;>intro h1
 ·refine er (pz 2) ?_;simp_all[aS,aR,bN,rX,ax]
 ·refine cd ?_ ?_<;>intro h2
  ·refine er (pz 2) ?_;rw[rX og];exact⟨_,_,rfl,rfl⟩
  ·have W4:=hO.L0 id og og;have air:=hO.n64;refine sd ?_;refine ld .aa (xQ _ _ _ _) ?_;refine sd ?_;refine cd ?_ ?_<;>intro h3
   ·refine er (pz 2) ?_;rw[A7 og og];exact⟨_,_,rfl,rfl⟩
   ·refine bP (.ao .aa) og ?_;intro g1 h4;subst h4;refine ld .aa (iK _ _ _) ?_;refine sd ?_;refine XH (.ao .aa) (CQ _ _ _) ?_;refine ld .aa (iK _ _ _) ?_;refine sd ?_;refine ld .aa (iK _ _ _) ?_;refine sd ?_;refine qJ (.ao .aa) (kD _ _ _) ?_;refine XO.bG (z:=.agg #[.int .u64 0,iI 0]) (m:=2) (C:=cellsOf #[.int .u64 0,iI 0]) (fun _ _=>rfl) ?_;intro bx;refine gO ?_;refine fW .aa (zG _ _) rfl ⟨rfl,rfl⟩ ?_;refine qI (.t2 .aa) ?_;intro Hc;refine ld (.ao .aa) (iK _ _ _) ?_;refine XO.S8 (k2:=s.n-1) (C':=iu (s.ft id)) rfl rfl Tryz.underlying183 V1 og og Hc (fun _ _=>rfl) (.t2 .aa) rfl (gO ?_);refine st (.ao .aa) (FK _ _ _ _ _ _) rfl ?_;refine sd ?_;refine st (.ao .aa) (TN s _ _ id og) rfl ?_;refine cd ?_ ?_<;>intro h5
    ·have hn1:(s.ft id).n=s.n-1:=rfl;obtain⟨m1,m2,m3,q,m4,_,m5⟩:=hO.mid hH (xk:=s.K ((s.n:Int)-1)) (id:=id) og og rfl rfl og;have hr9:=hO.nV ((s.n:Int)-1) og og;have m6:(((s.ft id).set (s.at_ id-1) (s.K ((s.n:Int)-1)) (s.I ((s.n:Int)-1))).down (s.at_ id-1)).n=((s.ft id).set (s.at_ id-1) (s.K ((s.n:Int)-1)) (s.I ((s.n:Int)-1))).n:=Qg _ _;have m7:((s.ft id).set (s.at_ id-1) (s.K ((s.n:Int)-1)) (s.I ((s.n:Int)-1))).n=s.n-1:=rfl;refine lW .aa (ka _ _) ?_;refine cq (Ev _ _ _ _ (s.ft id) _ _ _) (pk [1,1]) ?_;refine cq (acZ _ _ _ _ ((s.ft id).set (s.at_ id-1) (s.K ((s.n:Int)-1)) (s.I ((s.n:Int)-1))) _ og (fun j j0 j1=>m1.nV j j0 j1) og) (pz 2) ?_;refine rq [0,1,2,3,4,5,6,7,8,9] mixed ?_;refine ld (.t2 .aa) (xT _ _) ?_;refine sd ?_;refine ld .aa (xQ _ _ _ _) ?_;refine sd ?_;refine cq (afS _ _ _ _ (((s.ft id).set (s.at_ id-1) (s.K ((s.n:Int)-1)) (s.I ((s.n:Int)-1))).down (s.at_ id-1)) _ og fun j j0 j1=>m2.nV j j0 j1) (pz 2) ?_;refine er (pz 2) ?_;rw[tS];unfold QS.vT;rw[if_pos og];exact⟨_,_,rfl,rfl⟩
    ·refine aW rfl rfl rfl (ah (pk [1,1]) rfl ?_);rw[tS];unfold QS.vT;rw[if_neg og];exact⟨_,_,rfl,rfl⟩
def afT(b o cap:Nat)(p:Option Addr)(s:QS)(hO:s.Ok)(id:Int):Spec Tryz.prog 186 [ay b o 0,iI id] [.cells b o 65 (gJ (s) p cap),aL p cap 254 2 (s).n (iu (s))] (fun v H1=>v= .tuple #[.int .u64 (s.ig id).1,ax 102 (s.ig id).2]/\H1=[.cells b o 65 (gJ (s) p cap),aL p cap 254 2 (s).n (iu (s))]):=by
 refine Spec.go 35 [0,1,4,5,11,19] [] Tryz.func186 fun W=> ?_;refine sp 8 rfl ?_ ?_<;>intro h1
 ·refine er (pz 2) ?_;grind [aS,aR,bN,QS.ig,ax]
 ·refine cd ?_ ?_<;>intro h2
  ·refine er (pz 2) ?_;grind [aS,aR,bN,QS.ig,ax]
  ·refine sd ?_;refine ld .aa (xQ _ _ _ _) ?_;refine cd ?_ ?_<;>intro h3
   ·refine er (pz 2) ?_;grind [aS,aR,bN,QS.ig,ax]
   ·have W4:=hO.L0 id og og;have air:=hO.n64;refine bP (.ao .aa) og ?_;intro g1 h4;subst h4;refine rq [0,1,2,3,4,5,6,7,8,9,10,11,12,13,14,15] mixed ?_;refine ld .aa (iK _ _ _) ?_;refine sd ?_;refine ld .aa (xQ _ _ _ _) ?_;refine sd ?_;refine sd ?_;refine XH (.ao .aa) (CQ _ _ _) ?_;refine er (pz 2) ?_;grind [aS,aR,bN,QS.ig,ax]
def Pe(b o cap:Nat)(p:Option Addr)(s:QS):Spec Tryz.prog 182 [ay b o 0] [.cells b o 65 (gJ (s) p cap),aL p cap 254 2 (s).n (iu (s))] (fun v H1=>v= .tuple #[iI s.first.1,.int .u64 s.first.2.1,.bool s.first.2.2]/\H1=[.cells b o 65 (gJ (s) p cap),aL p cap 254 2 (s).n (iu (s))]):=by
 refine Spec.go 25 [0,2,3,4,10] [] Tryz.func182 fun W=> ?_;refine ld .aa (iK _ _ _) ?_;refine cd ?_ ?_<;>intro h1
 ·refine rt3 (pz 2) ?_;grind [aS,aR,bN,QS.first]
 ·refine bP (.ao .aa) og ?_;intro g1 h2;subst h2;refine rq [0,1,2,3,4,5,6,7,8,9,10,11,12,13,14,15,16] mixed ?_;refine ld .aa (iK _ _ _) ?_;refine sd ?_;refine XH (.ao .aa) (X0 _ _ _ og) ?_;refine ld .aa (iK _ _ _) ?_;refine sd ?_;refine XH (.ao .aa) (CQ _ _ _) ?_;refine rt3 (pz 2) ?_;grind [aS,aR,bN,QS.first]
def afU(b o cap:Nat)(p:Option Addr)(s:QS):Spec Tryz.prog 222 [ay b o 0] [.cells b o 65 (gJ (s) p cap),aL p cap 254 2 (s).n (iu (s))] (fun v H1=>v=iI (s.n:Int)/\H1=[.cells b o 65 (gJ (s) p cap),aL p cap 254 2 (s).n (iu (s))]):=by
 refine Spec.go 8 [0,2] [] Tryz.func222 fun W=> ?_;refine ld .aa (iK _ _ _) ?_;refine bL (pz 2) ?_;grind [aS,aR]
def vF(b o:Nat)(s:SC)(n:Int):Spec Tryz.prog 126 [ay b o 0,iI n] [.cells b o 2281 (aH s)] (fun v H1=>((s.vM n=0/\0<=n/\n<10/\s.aa n=true)/\v= .tuple #[ay b o (0+0+n.toNat*76),.nilIface]/\H1=[.cells b o 2281 (aH s)])\/(s.vM n≠0/\v= .tuple #[.pointer none,.iface 102 (iI (s.vM n))]/\H1=[.cells b o 2281 (aH s)])):=by
 refine Spec.go 27 [0,1,4,5,11,20] [] Tryz.func126 fun W=> ?_;refine sp 8 rfl ?_ ?_<;>intro h1
 ·refine er .h1 ?_;try dsimp only[aS,aR,bI,bN]
  have e:s.vM n=1:=by unfold SF.vM;rw[if_pos og]
  simp_all
 ·refine cd ?_ ?_<;>intro h2
  ·refine er .h1 ?_;try dsimp only[aS,aR,bI,bN]
   have e:s.vM n=1:=by unfold SF.vM;rw[if_pos og]
   simp_all
  ·refine sd (ld .aa (iY _ _) ?_);refine wM ?_ ?_<;>intro h3
   ·try simp only[sb]at h3
    refine er .h1 ?_;try dsimp only[aS,aR,bI,bN]
    have e:s.vM n=2:=by unfold SF.vM;rw[if_neg og,if_neg iV]
    simp_all
   ·try simp only[sb]at h3
    refine sd (aW rfl rfl rfl (ah .h1 rfl ?_));try dsimp only[aS,aR,bI,bN]
    have e:s.vM n=0:=by unfold SF.vM;rw[if_neg og,if_pos iV]
    simp_all
def Ik(b o:Nat)(s:SC)(n:Int):Spec Tryz.prog 127 [ay b o 0,iI n] [.cells b o 2281 (aH s)] (fun v H1=>((s.tA n=0/\0<=n/\n<20/\s.aa (10+n)=true)/\v= .tuple #[ay b o (0+0+(10+n).toNat*76),.nilIface]/\H1=[.cells b o 2281 (aH s)])\/(s.tA n≠0/\v= .tuple #[.pointer none,.iface 102 (iI (s.tA n))]/\H1=[.cells b o 2281 (aH s)])):=by
 refine Spec.go 29 [0,1,4,5,11,21] [] Tryz.func127 fun W=> ?_;refine sp 8 rfl ?_ ?_<;>intro h1
 ·refine er .h1 ?_;try dsimp only[aS,aR,bI,bN]
  have e:s.tA n=1:=by unfold SF.tA;rw[if_pos og]
  simp_all
 ·refine cd ?_ ?_<;>intro h2
  ·refine er .h1 ?_;try dsimp only[aS,aR,bI,bN]
   have e:s.tA n=1:=by unfold SF.tA;rw[if_pos og]
   simp_all
  ·refine sd (sd (ld .aa (iY _ _) ?_));refine wM ?_ ?_<;>intro h3
   ·try simp only[sb]at h3
    refine er .h1 ?_;try dsimp only[aS,aR,bI,bN]
    have e:s.tA n=2:=by unfold SF.tA;rw[if_neg og,if_neg iV]
    simp_all
   ·try simp only[sb]at h3
    refine sd (sd (aW rfl rfl rfl (ah .h1 rfl ?_)));try dsimp only[aS,aR,bI,bN]
    have e:s.tA n=0:=by unfold SF.tA;rw[if_neg og,if_pos iV]
    simp_all
def Pf(b o:Nat)(s:SC)(hR:s.mA)(hw:∀ i,s.ck i=true->0<i/\i<30)(n:Int)(hn:0<=n/\n<30):Spec Tryz.prog 187 [ay b o 0,iI n] [.cells b o 2281 (aH s),.aQ bW (s.dg 254)] (fun v H1=>v= .bool (s.toSF.ready n)/\H1=[.cells b o 2281 (aH s),.aQ bW (s.dg 254)]):=by
 have hk:=hR.gF hw hn.1 hn.2;refine Spec.go 47 [0,1,4,5,12] [] Tryz.func187 fun W=> ?_;refine sd ?_;refine cd ?_ ?_<;>intro h1
 ·apply ld .aa (sQ _ _);refine bL (pz 2) ?_;try dsimp only[aS,aR,bI,bN]
  exact⟨by unfold SF.ready;rw[if_pos og],rfl⟩
 ·refine rq [0,1,2,3,4,5,6,7,8,9,10,11,12,13,14,15,16,17,18,19,20,21,22,23,24,25,26,27,28,29,30] mixed ?_;apply XR.mono fun _ bJ=>nx (z:=n) og (pz 2) bJ;refine ca (afU _ _ _ _ _) (pz 2) ?_;rintro _ _ ⟨rfl,rfl⟩;apply XO.mono fun _ bJ=>rZ (z:=n) og (pz 5) bJ;apply gO;refine sp 22 rfl ?_ ?_<;>intro h2
  ·apply ld .aa (zL _ _ og);refine P5 29 rfl ?_ ?_<;>intro h3
   ·try simp only[sb]at h3
    apply ld .aa (lx _ _);refine sp 35 rfl ?_ ?_<;>intro h4
    ·refine bL (pz 2) ?_;refine⟨congrArg Value.bool ?_,rfl⟩;unfold SF.ready;simp_all
    ·apply ld .aa (tX _ _);apply ld .aa (lx _ _);refine bL (pz 2) ?_;refine⟨congrArg Value.bool ?_,rfl⟩;unfold SF.ready;grind
   ·try simp only[sb]at h3
    refine bL (pz 2) ?_;refine⟨congrArg Value.bool ?_,rfl⟩;unfold SF.ready;grind
  ·refine bL (pz 2) ?_;refine⟨congrArg Value.bool ?_,rfl⟩;unfold SF.ready;grind
def pI(b o:Nat)(s:SC)(d:Int->Nat)(hI:s.toSF.Inv d)(hR:s.mA)(n:Int)(hn:n=0\/(0<n/\n<30/\s.aa n=true)):Spec Tryz.prog 128 [ay b o 0,iI n] [.cells b o 2281 (aH s),.aQ bW (s.dg 254)] (fun v H1=>v= .tuple #[]/\∃ t:SC,t.toSF=s.toSF.look d n/\t.mA/\H1=[.cells b o 2281 (aH t),.aQ bW (t.dg 254)]):=by
 refine Spec.go 88 [0,4,5,6,8,9,10,13,47,74] [] Tryz.func128 fun W=> ?_;refine lp (σ:=SC×Int) (fun x=>if x.2=0 then 0 else d x.2+1) (fun x=>x.1.mA/\x.1.toSF.Inv d/\(x.2=0\/(0<x.2/\x.2<30/\x.1.aa x.2=true))/\∃ k,d x.2+1<=k/\SF.iv k x.1.toSF x.2=s.toSF.look d n) (fun x=>[(4,iI x.2),(0,ay b o 0)]) (fun x=>XM W (bX [.cells b o 2281 (aH s),.aQ bW (s.dg 254)]) [.cells b o 2281 (aH x.1),.aQ bW (x.1.dg 254)]) ((s,n)) ?_ S2 (xq (pz 2)) ?_
 ·exact⟨hR,hI,hn,d n+1,Nat.le_refl _,rfl⟩
 intro x hx;obtain⟨xR,xI,xn,k,hk,xl⟩:=hx;apply gC;refine cd ?_ ?_<;>intro h1
 ·obtain⟨n0,n1,n2⟩:=xn.resolve_left og;obtain⟨p0,pp1,p2,p3⟩:=xI.up x.2 n0 n1 n2;have vS:=xR.bS (n:=x.2) ⟨og,n1⟩ ⟨p0,og⟩;obtain⟨k,rfl⟩:∃ k2,k=k2+1:=⟨k-1,og⟩;rw[SF.o9 _ _ n0]at xl;have hw:∀ i,x.1.ck i=true->0<i/\i<30:=fun i hi=>⟨(xI.ck i hi).1,(xI.ck i hi).2.1⟩;have hgq:=xR (x.1.aA x.2) p0 og;have Ss:(x.1.aA x.2)=0\/(0<(x.1.aA x.2)/\(x.1.aA x.2)<30/\x.1.aa (x.1.aA x.2)=true):=by
   grind
  refine sd ?_;refine rq [0,1,2,3,4,5,6,7,8] mixed ?_;apply ld .aa (eX _ _);refine sd ?_;apply XR.mono fun _ bJ=>nx (z:=(x.1.aA x.2)) og (pz 2) bJ;refine ca (afT _ _ _ _ _ hgq.ok _) (pz 2) ?_;rintro _ _ ⟨rfl,rfl⟩;apply XO.mono fun _ bJ=>rZ (z:=(x.1.aA x.2)) og (pz 5) bJ;apply gO;refine rq [0,1,2,3,4,5,6] mixed ?_;refine cq (Pf _ _ _ xR hw _ og) (pz 2) ?_;refine P5 49 rfl ?_ ?_<;>intro h2
  ·try simp only[sb]at h2
   have hrd:x.1.toSF.ready x.2=true:=h2;refine cd ?_ ?_<;>intro h3
   ·have hwf:x.1.ck x.2=false:=by
     simp_all
    refine rq [0,1,2,3,4,5,6,7,8,9,10,11,12] mixed ?_;apply ld .aa (tV _ _);apply ld .aa (sR _ _);apply st .aa (tW _ _ og _) rfl;refine rq [0,1,2,3,4,5,6,7,8] mixed ?_;apply ld .aa (Qh _ _ _ og);apply XR.mono fun _ bJ=>nx (z:=(x.1.aA x.2)) og (pz 2) bJ;refine ca (aaZ _ _ _ _ _ hgq.ok _ _) (pz 2) ?_;rintro _ _ ⟨p1,c1,rfl,rfl⟩;apply XO.mono fun _ bJ=>qV (z:=(x.1.aA x.2)) og (pz 5) bJ;apply gO;refine sd ?_;apply ld .aa (eX _ _);refine ag ((⟨{x.1.toSF with v:=ad x.1.v x.2 (max (x.1.v x.2) (x.1.eM (x.1.aA x.2))),ck:=ad x.1.ck x.2 true},ad x.1.Q (x.1.aA x.2) ((x.1.Q (x.1.aA x.2)).put x.2 (max (x.1.v x.2) (x.1.eM (x.1.aA x.2)))).2,ad x.1.P (x.1.aA x.2) p1,ad x.1.C (x.1.aA x.2) c1⟩,(x.1.aA x.2))) ?_ ?_ S2 (xq (pz 2))
    ·grind
    ·have e:({x.1.toSF with v:=ad x.1.v x.2 (max (x.1.v x.2) (x.1.eM (x.1.aA x.2))),ck:=ad x.1.ck x.2 true} :SF)=x.1.toSF.ve x.2:=by unfold SF.ve;rw[if_pos ⟨hrd,hwf⟩,hrd]
     refine⟨?_,by show SF.Inv _ d;rw[e];exact xI.ve n0 n1 n2,Ss,k,by show d (x.1.aA x.2)+1<=k;omega,by show SF.iv k _ _=_;rw[e];exact xl⟩;grind [SC.mA.enter,ae,aj]
   ·have hwt:x.1.ck x.2=true:=by
     simp_all
    refine P5 77 rfl ?_ ?_<;>intro h4
    ·try simp only[sb]at h4
     all_goals(simp_all)
    ·try simp only[sb]at h4
     refine sd ?_;apply ld .aa (eX _ _);refine ag ((x.1,(x.1.aA x.2))) ?_ ?_ S2 (xq (pz 2));all_goals grind [A9]
  ·try simp only[sb]at h2
   have hrd:x.1.toSF.ready x.2=false:=h2;refine P5 77 rfl ?_ ?_<;>intro h5
   ·try simp only[sb]at h5
    refine cd ?_ ?_<;>intro h6
    ·have hwt:x.1.ck x.2=true:=by
      simp_all
     apply XR.mono fun _ bJ=>nx (z:=(x.1.aA x.2)) og (pz 2) bJ;refine ca (aa0 _ _ _ _ _ hgq.ok hgq.heap _) (pz 2) ?_;rintro _ _ ⟨p1,c1,rfl,rfl⟩;apply XO.mono fun _ bJ=>qV (z:=(x.1.aA x.2)) og (pz 5) bJ;apply gO;refine sd ?_;apply ld .aa (eX _ _);refine ag ((⟨{x.1.toSF with ck:=ad x.1.ck x.2 false},ad x.1.Q (x.1.aA x.2) ((x.1.Q (x.1.aA x.2)).cut x.2).2.2,ad x.1.P (x.1.aA x.2) p1,ad x.1.C (x.1.aA x.2) c1⟩,(x.1.aA x.2))) ?_ ?_ S2 (xq (pz 2))
     ·grind
     ·have e:({x.1.toSF with ck:=ad x.1.ck x.2 false} :SF)=x.1.toSF.ve x.2:=by unfold SF.ve;rw[if_neg (by rw[hrd];simp),hrd,cH x.1.v rfl]
      exact⟨xR.gx (n:=x.2) ⟨og,n1⟩ ⟨p0,og⟩ hwt {x.1.toSF with ck:=ad x.1.ck x.2 false} rfl (fun i hi=>rfl) rfl _ _,by show SF.Inv _ d;rw[e];exact xI.ve n0 n1 n2,Ss,k,by show d (x.1.aA x.2)+1<=k;omega,by show SF.iv k _ _=_;rw[e];exact xl⟩
    ·have hwf:x.1.ck x.2=false:=by
      simp_all
     refine sd ?_;apply ld .aa (eX _ _);refine ag ((x.1,(x.1.aA x.2))) ?_ ?_ S2 (xq (pz 2));all_goals grind [A9]
   ·try simp only[sb]at h5
    all_goals(simp_all)
 ·refine cY rfl (ah (pz 2) rfl ?_);refine⟨rfl,x.1,?_,xR,rfl⟩;have rI:x.2=0:=by
   omega
  rw[rI,SF.mN _ _ og]at xl;omega
def V2(b o:Nat)(s:SC)(d:Int->Nat)(hI:s.toSF.Inv d)(hR:s.mA)(B:Int)(hB:0<=B/\B<=1000000000000000)(hS:s.toSF.bU B)(n:Int)(hn:0<n/\n<30/\s.aa n=true)(hwn:s.ck n=true):Spec Tryz.prog 183 [ay b o 0,iI n] [.cells b o 2281 (aH s),.aQ bW (s.dg 254)] (fun v H1=>v= .tuple #[]/\∃ t:SC,t.toSF=s.toSF.zI n/\t.mA/\H1=[.cells b o 2281 (aH t),.aQ bW (t.dg 254)]):=by
 obtain⟨n0,n1,n2⟩:=hn;obtain⟨p0,pp1,p2,p3⟩:=hI.up n n0 n1 n2;have hgq:=hR (s.aA n) p0 og;obtain⟨fZ,BA⟩:=hR.ahQ (n:=n) ⟨og,n1⟩ ⟨p0,og⟩ hwn;have hsn:=hS n og n1;have hsg:=hS (s.aA n) p0 og;have hwt:=hI.wt n og n1 n2;have Ss:s.aA n≠n:=fun e=>by rw[e]at p3;omega
 have LD:0<=1048576/s.wt n/\1048576/s.wt n<=1048576:=⟨Int.ediv_nonneg og og,Int.ediv_le_self _ og⟩;have IU:∀ i,ad s.ck n false i=true->0<i/\i<30:=fun i hi=>by
  by_cases c:i=n
  ·omega
  ·rw[ae _ _ c]at hi;exact⟨(hI.ck i hi).1,(hI.ck i hi).2.1⟩
 refine Spec.go 82 [0,1,4,5,6,7,30,62,72] [(7,1)] Tryz.func183 fun W=> ?_;refine sd ?_;refine rq [0,1,2,3,4,5,6,7,8] mixed ?_;apply ld .aa (eX _ _);refine sd ?_;apply XR.mono fun _ bJ=>nx (z:=(s.aA n)) og (pz 2) bJ;refine ca (aa0 _ _ _ _ _ hgq.ok hgq.heap _) (pz 2) ?_;rintro _ _ ⟨p1,c1,rfl,rfl⟩;rw[fZ];have hRm:SC.mA (⟨{s.toSF.nW n with ck:=ad s.ck n false},ad s.Q (s.aA n) ((s.Q (s.aA n)).cut n).2.2,ad s.P (s.aA n) p1,ad s.C (s.aA n) c1⟩:SC):=hR.gx (n:=n) ⟨og,n1⟩ ⟨p0,og⟩ hwn {s.toSF.nW n with ck:=ad s.ck n false} rfl (fun i hi=>ae _ _ hi) rfl _ _;have hgm:=hRm (s.aA n) p0 og;apply XO.mono fun _ bJ=>qV (z:=(s.aA n)) og (pz 5) bJ;apply XO.mono fun _ bJ=>Oa (ad s.ck n false) (pz 2) bJ;apply gO;apply Hb rfl (by rw[BA];simp);refine ld .aa (show _/\_=Value.int .u64 (s.eM (s.aA n))from sR _ _) ?_;apply st .aa (BH _ _ og _) rfl;refine ld .aa (show _/\_=Value.int .i64 (s.wt n)from zK _ _ og) ?_;refine XO.v (V.quo rfl rfl tC _ (tG)) rfl (gO ?_);refine XO.v (oI rfl Tryz.underlying3 Tryz.underlying29 _ (IntWalk.u64_in _ og)) rfl (gO ?_);refine XO.v (V.add rfl rfl _ (IntWalk.u64_in _ og)) rfl (gO ?_);apply st .aa (tW _ _ og _) rfl;refine ld .aa (show _/\_=Value.int .i64 (s.tT n)from vX _ _) ?_;refine sd ?_;apply st .aa (EY _ _ og _) rfl;apply ct [(0,ay b o 0),(1,iI n),(4,ay b o (0+0+n.toNat*76)),(5,ay b o (0+0+(s.aA n).toNat*76))] (XM W (bX [.cells b o 2281 (aH s),.aQ bW (s.dg 254)]) [.cells b o 2281 (aH (⟨{s.toSF.nW n with ck:=ad s.ck n false},ad s.Q (s.aA n) ((s.Q (s.aA n)).cut n).2.2,ad s.P (s.aA n) p1,ad s.C (s.aA n) c1⟩:SC)),.aQ bW (SC.dg 254 (⟨{s.toSF.nW n with ck:=ad s.ck n false},ad s.Q (s.aA n) ((s.Q (s.aA n)).cut n).2.2,ad s.P (s.aA n) p1,ad s.C (s.aA n) c1⟩:SC))])
 ·refine ld .aa (show _/\_=Value.int .i64 (s.dL n)from lx _ _) ?_;refine cd ?_ ?_<;>intro h1
  ·have hM:(⟨{s.toSF.nW n with ck:=ad s.ck n false},ad s.Q (s.aA n) ((s.Q (s.aA n)).cut n).2.2,ad s.P (s.aA n) p1,ad s.C (s.aA n) c1⟩:SC)=(⟨{s.toSF with eM:=ad s.eM (s.aA n) (max (s.eM (s.aA n)) (s.v n)),v:=ad s.v n (s.v n+1048576/s.wt n),tT:=ad s.tT n (s.tT n+1),dQ:=ad s.dQ n (s.dQ n+1),ck:=ad s.ck n false},ad s.Q (s.aA n) ((s.Q (s.aA n)).cut n).2.2,ad s.P (s.aA n) p1,ad s.C (s.aA n) c1⟩:SC):=by unfold SF.nW;rw[if_pos h1]
   refine ld .aa (show _/\_=Value.int .i64 (s.dQ n)from tX _ _) ?_;refine sd ?_;apply st .aa (o8 _ _ og _) rfl;refine mt S4 fun _ mw=>by rw[hM];exact XM.pick (pz 2) mw
  ·have hM:(⟨{s.toSF.nW n with ck:=ad s.ck n false},ad s.Q (s.aA n) ((s.Q (s.aA n)).cut n).2.2,ad s.P (s.aA n) p1,ad s.C (s.aA n) c1⟩:SC)=(⟨{s.toSF with eM:=ad s.eM (s.aA n) (max (s.eM (s.aA n)) (s.v n)),v:=ad s.v n (s.v n+1048576/s.wt n),tT:=ad s.tT n (s.tT n+1),dQ:=s.dQ,ck:=ad s.ck n false},ad s.Q (s.aA n) ((s.Q (s.aA n)).cut n).2.2,ad s.P (s.aA n) p1,ad s.C (s.aA n) c1⟩:SC):=by unfold SF.nW;rw[if_neg h1]
   refine mt S4 fun _ mw=>by rw[hM];exact XM.pick (pz 2) mw
 have hrr:SF.ready {s.toSF.nW n with ck:=ad s.ck n false} n=(s.toSF.nW n).ready n:=SF.zP (s:=s.toSF.nW n) Ss false;apply gC;refine cq (Pf b o (⟨{s.toSF.nW n with ck:=ad s.ck n false},ad s.Q (s.aA n) ((s.Q (s.aA n)).cut n).2.2,ad s.P (s.aA n) p1,ad s.C (s.aA n) c1⟩:SC) hRm IU n ⟨og,n1⟩) (pz 2) ?_;refine wM ?_ ?_<;>intro h2
 ·try simp only[sb]at h2
  refine rq [0,1,2,3,4,5,6,7,8] mixed ?_;apply ld .aa (show _/\_=Value.int .u64 (s.v n+1048576/s.wt n)from⟨og,(tV (⟨{s.toSF.nW n with ck:=ad s.ck n false},ad s.Q (s.aA n) ((s.Q (s.aA n)).cut n).2.2,ad s.P (s.aA n) p1,ad s.C (s.aA n) c1⟩:SC) n).2.trans (congrArg (Value.int .u64) (aj s.v n (s.v n+1048576/s.wt n)))⟩);apply XR.mono fun _ bJ=>nx (z:=(s.aA n)) og (pz 2) bJ;refine ca (aaZ _ _ _ _ _ hgm.ok _ _) (pz 2) ?_;rintro _ _ ⟨p2,c2,rfl,rfl⟩;apply XO.mono fun _ bJ=>qV (z:=(s.aA n)) og (pz 5) bJ;apply XO.mono fun _ bJ=>Oa (ad s.ck n true) (pz 2) bJ;apply gO;refine cY rfl (ah (pz 2) rfl ?_);refine⟨rfl,_,?_,?_,rfl⟩
  ·have h9:SF.ready {s.toSF.nW n with ck:=ad s.ck n false} n=true:=aq;rw[hrr]at h9;show _=s.toSF.zI n;unfold SF.zI;rw[h9]
  ·have ais:s.aA n<30:=og;have:=hRm.enter (n:=n) ⟨og,n1⟩ ⟨p0,ais⟩ (aj _ _ _) {s.toSF.nW n with ck:=ad s.ck n true} (by funext i;show ad s.ck n true i=ad (ad s.ck n false) n true i;unfold ad;split<;>rfl) (fun i hi=>rfl) rfl (s.v n+1048576/s.wt n) (aj _ _ _) (ad (ad s.P (s.aA n) p1) (s.aA n) p2) (ad (ad s.C (s.aA n) c1) (s.aA n) c2);exact this
 ·try simp only[sb]at h2
  refine cY rfl (ah (pz 2) rfl ?_);refine⟨rfl,(⟨{s.toSF.nW n with ck:=ad s.ck n false},ad s.Q (s.aA n) ((s.Q (s.aA n)).cut n).2.2,ad s.P (s.aA n) p1,ad s.C (s.aA n) c1⟩:SC),?_,hRm,rfl⟩;have h9:SF.ready {s.toSF.nW n with ck:=ad s.ck n false} n=false:=aq;rw[hrr]at h9;show _=s.toSF.zI n;unfold SF.zI;rw[h9]
def rD:fp Tryz.prog 187=some 76:=kq
def afW(b o:Nat)(s:SC)(n:Int):Spec Tryz.prog 93 [ay b o 0,iI n] [.cells b o 2281 (aH s)] (fun v H1=>v= .tuple #[iI (if s.tA n=0 then s.tT (10+n)else 0),ax 102 (s.tA n)]/\H1=[.cells b o 2281 (aH s)]):=by
 refine Spec.go 21 [0,1,4,5,6,7,15] [] Tryz.func93 fun W=> ?_;refine ca (Ik _ _ _ _) .h1 ?_;rintro _ _ (⟨h1,rfl,rfl⟩ | ⟨h1,rfl,rfl⟩)
 ·obtain⟨i0,i1,i2,i3⟩:=h1;apply gO;refine ld .aa (vX _ _) (aW rfl rfl rfl (ah .h1 rfl ?_));grind [aS,aR,bN,ax]
 ·have i0:=h1;apply gO;refine er .h1 ?_;grind [aS,aR,bN,ax]
def Il(b o:Nat)(s:SC)(d:Int->Nat)(hI:s.toSF.Inv d)(hR:s.mA)(n:Int)(on:Bool):Spec Tryz.prog 61 [ay b o 0,iI n,.bool on] [.cells b o 2281 (aH s),.aQ bW (s.dg 254)] (fun v H1=>v=ax 102 (s.tA n)/\∃ t:SC,t.toSF=s.toSF.gq d n on/\t.mA/\H1=[.cells b o 2281 (aH t),.aQ bW (t.dg 254)]):=by
 refine Spec.go 26 [0,1,2,6,7,8,16] [] Tryz.func61 fun W=> ?_;refine ca (Ik _ _ _ _) .h1 ?_;rintro _ _ (⟨h1,rfl,rfl⟩ | ⟨h1,rfl,rfl⟩)
 ·obtain⟨i0,i1,i2,i3⟩:=h1;apply gO;refine st .aa (lv _ _ og _) rfl (sd ?_);refine ca (pI _ _ {s with cO:=ad s.cO (10+n) on} d ⟨hI.h0,hI.up,hI.ck,hI.quo,hI.wt⟩ hR _ (.inr ⟨og,og,i3⟩)) (pz 2) ?_;rintro _ _ ⟨rfl,t,tl,tR,rfl⟩;apply gO;refine bL (pz 2) ?_;exact⟨by rw[i0];rfl,t,by rw[tl];unfold SF.gq;rw[if_pos i0],tR,rfl⟩
 ·have i0:=h1;apply gO;refine bL (pz 2) ?_;try dsimp only[aS,aR,bI,bN]
  exact⟨by rw[aJ _ aq],s,by unfold SF.gq;rw[if_neg aq],hR,rfl⟩
def V3(b o:Nat)(s:SC)(d:Int->Nat)(hI:s.toSF.Inv d)(hR:s.mA)(n:Int)(on:Bool):Spec Tryz.prog 161 [ay b o 0,iI n,.bool on] [.cells b o 2281 (aH s),.aQ bW (s.dg 254)] (fun v H1=>v=ax 102 (s.EZ n)/\∃ t:SC,t.toSF=s.toSF.freeze d n on/\t.mA/\H1=[.cells b o 2281 (aH t),.aQ bW (t.dg 254)]):=by
 refine Spec.go 28 [0,1,2,6,7,8,16,19] [] Tryz.func161 fun W=> ?_;refine ca (vF _ _ _ _) .h1 ?_;rintro _ _ (⟨h1,rfl,rfl⟩ | ⟨h1,rfl,rfl⟩)
 ·obtain⟨i0,i1,i2,i3⟩:=h1;apply gO;refine cd ?_ ?_<;>intro h2
  ·refine bL (pz 2) ?_;have e:s.EZ n=8:=by unfold SF.EZ;rw[if_neg og,if_pos og]
   exact⟨by rw[e]<;>rfl,s,by unfold SF.freeze;rw[if_neg og],hR,rfl⟩
  ·apply st .aa (zM _ _ og _) rfl;refine ca (pI _ _ {s with vW:=ad s.vW n on} d ⟨hI.h0,hI.up,hI.ck,hI.quo,hI.wt⟩ hR _ (.inr ⟨og,og,i3⟩)) (pz 2) ?_;rintro _ _ ⟨rfl,t,tl,tR,rfl⟩;apply gO;refine bL (pz 2) ?_;have e:s.EZ n=0:=by unfold SF.EZ;rw[if_neg og,if_neg og]
   exact⟨by rw[e]<;>rfl,t,by rw[tl];unfold SF.freeze;rw[if_pos e],tR,rfl⟩
 ·have i0:=h1;apply gO;refine bL (pz 2) ?_;try dsimp only[aS,aR,bI,bN]
  have e:s.EZ n=s.vM n:=by unfold SF.EZ;rw[if_pos aq]
  exact⟨by rw[e,aJ _ aq],s,by unfold SF.freeze;rw[if_neg og],hR,rfl⟩
def Zf(b o:Nat)(s:SC)(d:Int->Nat)(hI:s.toSF.Inv d)(hR:s.mA)(n q p:Int):Spec Tryz.prog 162 [ay b o 0,iI n,iI q,iI p] [.cells b o 2281 (aH s),.aQ bW (s.dg 254)] (fun v H1=>v=ax 102 (s.tf n q p)/\∃ t:SC,t.toSF=s.toSF.xV d n q p/\t.mA/\H1=[.cells b o 2281 (aH t),.aQ bW (t.dg 254)]):=by
 refine Spec.go 53 [0,1,2,3,8,9,10,18,21,37] [] Tryz.func162 fun W=> ?_;refine ca (vF _ _ _ _) .h1 ?_;rintro _ _ (⟨h1,rfl,rfl⟩ | ⟨h1,rfl,rfl⟩)
 ·obtain⟨i0,i1,i2,i3⟩:=h1;apply gO;refine cd ?_ ?_<;>intro h2
  ·refine bL (pz 2) ?_;have e:s.tf n q p=8:=by unfold SF.tf;rw[if_neg og,if_pos og]
   exact⟨by rw[e]<;>rfl,s,by unfold SF.xV;rw[if_neg og],hR,rfl⟩
  ·refine sp 25 rfl ?_ ?_<;>intro h3
   ·refine bL (pz 2) ?_;have e:s.tf n q p=1:=by unfold SF.tf;rw[if_neg og,if_neg og,if_pos og]
    exact⟨by rw[e]<;>rfl,s,by unfold SF.xV;rw[if_neg og],hR,rfl⟩
   ·refine sp 29 rfl ?_ ?_<;>intro h4
    ·refine bL (pz 2) ?_;have e:s.tf n q p=1:=by unfold SF.tf;rw[if_neg og,if_neg og,if_pos og]
     exact⟨by rw[e]<;>rfl,s,by unfold SF.xV;rw[if_neg og],hR,rfl⟩
    ·refine sp 33 rfl ?_ ?_<;>intro h5
     ·refine bL (pz 2) ?_;have e:s.tf n q p=1:=by unfold SF.tf;rw[if_neg og,if_neg og,if_pos og]
      exact⟨by rw[e]<;>rfl,s,by unfold SF.xV;rw[if_neg og],hR,rfl⟩
     ·refine cd ?_ ?_<;>intro h6
      ·refine bL (pz 2) ?_;have e:s.tf n q p=1:=by unfold SF.tf;rw[if_neg og,if_neg og,if_pos og]
       exact⟨by rw[e]<;>rfl,s,by unfold SF.xV;rw[if_neg og],hR,rfl⟩
      ·refine st .aa (BI _ _ og _) rfl (st .aa (zO _ _ og _) rfl (st .aa (o8 _ _ og _) rfl ?_));have hq:=(show SF.Inv (s.toSF.abY n q p) d from⟨hI.h0,hI.up,hI.ck,fun i a b=>by
        show 0<=ad s.dL n q i/\(0<ad s.dL n q i->1<=ad s.eT n p i)
        unfold ad;split
        ·omega
        ·exact hI.quo i a b,hI.wt⟩)
       refine ca (pI _ _ {s with dL:=ad s.dL n q,eT:=ad s.eT n p,dQ:=ad s.dQ n 0} d hq hR _ (.inr ⟨og,og,i3⟩)) (pz 2) ?_;rintro _ _ ⟨rfl,t,tl,tR,rfl⟩;apply gO;refine bL (pz 2) ?_;have e:s.tf n q p=0:=by unfold SF.tf;rw[if_neg og,if_neg og,if_neg og]
       exact⟨by rw[e]<;>rfl,t,by rw[tl];unfold SF.xV;rw[if_pos e];rfl,tR,rfl⟩
 ·have i0:=h1;apply gO;refine bL (pz 2) ?_;try dsimp only[aS,aR,bI,bN]
  have e:s.tf n q p=s.vM n:=by unfold SF.tf;rw[if_pos aq]
  exact⟨by rw[e,aJ _ aq],s,by unfold SF.xV;rw[if_neg og],hR,rfl⟩
def Nq(b o:Nat)(s:SC)(d:Int->Nat)(hI:s.toSF.Inv d)(hR:s.mA)(n p w:Int):Spec Tryz.prog 155 [ay b o 0,iI n,iI p,iI w] [.cells b o 2281 (aH s),.aQ bW (s.dg 254)] (fun v H1=>v=ax 102 (s.lY n p w)/\∃ t:SC,t.toSF=s.toSF.td n p w/\t.mA/\H1=[.cells b o 2281 (aH t),.aQ bW (t.dg 254)]):=by
 refine Spec.go 51 [0,1,2,3,8,10,24,32,41] [] Tryz.func155 fun W=> ?_;refine sp 13 rfl ?_ ?_<;>intro h1
 ·refine bL (pz 2) ?_;have e:s.lY n p w=1:=by unfold SF.lY;rw[if_pos og]
  exact⟨by rw[e]<;>rfl,s,by unfold SF.td;rw[if_neg og],hR,rfl⟩
 ·refine sp 17 rfl ?_ ?_<;>intro h2
  ·refine bL (pz 2) ?_;have e:s.lY n p w=1:=by unfold SF.lY;rw[if_pos og]
   exact⟨by rw[e]<;>rfl,s,by unfold SF.td;rw[if_neg og],hR,rfl⟩
  ·refine sp 21 rfl ?_ ?_<;>intro h3
   ·refine bL (pz 2) ?_;have e:s.lY n p w=1:=by unfold SF.lY;rw[if_pos og]
    exact⟨by rw[e]<;>rfl,s,by unfold SF.td;rw[if_neg og],hR,rfl⟩
   ·refine cd ?_ ?_<;>intro h4
    ·refine bL (pz 2) ?_;have e:s.lY n p w=1:=by unfold SF.lY;rw[if_pos og]
     exact⟨by rw[e]<;>rfl,s,by unfold SF.td;rw[if_neg og],hR,rfl⟩
    ·refine sd (ld .aa (iY _ _) ?_);refine wM ?_ ?_<;>intro h5
     ·try simp only[sb]at h5
      refine bL (pz 2) ?_;have e:s.lY n p w=3:=by unfold SF.lY;rw[if_neg og,if_pos aq]
      exact⟨by rw[e]<;>rfl,s,by unfold SF.td;rw[if_neg og],hR,rfl⟩
     ·try simp only[sb]at h5
      have vH:s.aa n=false:=by
       omega
      refine ca (vF _ _ _ _) .h1 ?_;rintro _ _ (⟨h6,rfl,rfl⟩ | ⟨h6,rfl,rfl⟩)
      ·obtain⟨i0,i1,i2,i3⟩:=h6;apply gO;refine XO.v (V.build (vs:= #[(0,.bool true),(1,iI p),(2,iI w)]) rfl (v:=.agg (l5 (wQ true p w))) fun _=>kq) rfl (gO ?_);refine sd (oS (XO.gi rfl rfl .aa (tY _ n p w true) (pe _) rD (XO.mono (fun _ bJ=>XM.newRow (s:=s) (z:=n) og (pk [1]) bJ) ?_)));apply gO;refine bL (pk [1,0]) ?_;have e:s.lY n p w=0:=by unfold SF.lY;rw[if_neg og,if_neg (by rw[vH];simp)];exact i0
       have hwz:s.ck n=false:=by
        cases q:s.ck n with
        | false=>rfl
        | true=>have:=(hI.ck _ q).2.2;rw[vH]at this;cases this
       have Zg:∀ i,s.ck i=true->s.aA i≠n:=fun i hi e9=>by
        obtain⟨a,b9,c⟩:=hI.ck i hi;have h9:=(hI.up i a b9 c).2.2.1;simp_all
       exact⟨by rw[e]<;>rfl,_,by unfold SF.td;rw[if_pos e],hR.new hwz Zg p w true,rfl⟩
      ·have i0:=h6;apply gO;refine bL (pz 2) ?_;try dsimp only[aS,aR,bI,bN]
       have e:s.lY n p w=s.vM p:=by unfold SF.lY;rw[if_neg og,if_neg (by rw[vH];simp)]
       exact⟨by rw[e,aJ _ aq],s,by unfold SF.td;rw[if_neg og],hR,rfl⟩
def AQ(b o:Nat)(s:SC)(d:Int->Nat)(hI:s.toSF.Inv d)(hR:s.mA)(n p w:Int):Spec Tryz.prog 60 [ay b o 0,iI n,iI p,iI w] [.cells b o 2281 (aH s),.aQ bW (s.dg 254)] (fun v H1=>v=ax 102 (s.lZ n p w)/\∃ t:SC,t.toSF=s.toSF.te n p w/\t.mA/\H1=[.cells b o 2281 (aH t),.aQ bW (t.dg 254)]):=by
 refine Spec.go 53 [0,1,2,3,8,10,24,33,42] [] Tryz.func60 fun W=> ?_;refine sp 13 rfl ?_ ?_<;>intro h1
 ·refine bL (pz 2) ?_;have e:s.lZ n p w=1:=by unfold SF.lZ;rw[if_pos og]
  exact⟨by rw[e]<;>rfl,s,by unfold SF.te;rw[if_neg og],hR,rfl⟩
 ·refine sp 17 rfl ?_ ?_<;>intro h2
  ·refine bL (pz 2) ?_;have e:s.lZ n p w=1:=by unfold SF.lZ;rw[if_pos og]
   exact⟨by rw[e]<;>rfl,s,by unfold SF.te;rw[if_neg og],hR,rfl⟩
  ·refine sp 21 rfl ?_ ?_<;>intro h3
   ·refine bL (pz 2) ?_;have e:s.lZ n p w=1:=by unfold SF.lZ;rw[if_pos og]
    exact⟨by rw[e]<;>rfl,s,by unfold SF.te;rw[if_neg og],hR,rfl⟩
   ·refine cd ?_ ?_<;>intro h4
    ·refine bL (pz 2) ?_;have e:s.lZ n p w=1:=by unfold SF.lZ;rw[if_pos og]
     exact⟨by rw[e]<;>rfl,s,by unfold SF.te;rw[if_neg og],hR,rfl⟩
    ·refine sd (sd (ld .aa (iY _ _) ?_));refine wM ?_ ?_<;>intro h5
     ·try simp only[sb]at h5
      refine bL (pz 2) ?_;have e:s.lZ n p w=3:=by unfold SF.lZ;rw[if_neg og,if_pos aq]
      exact⟨by rw[e]<;>rfl,s,by unfold SF.te;rw[if_neg og],hR,rfl⟩
     ·try simp only[sb]at h5
      have vH:s.aa (10+n)=false:=by
       omega
      refine ca (vF _ _ _ _) .h1 ?_;rintro _ _ (⟨h6,rfl,rfl⟩ | ⟨h6,rfl,rfl⟩)
      ·obtain⟨i0,i1,i2,i3⟩:=h6;apply gO;refine sd (XO.v (V.build (vs:= #[(0,.bool true),(1,iI p),(2,iI w)]) rfl (v:=.agg (l5 (wQ true p w))) fun _=>kq) rfl (gO ?_));refine sd (oS (XO.gi rfl rfl .aa (tY _ (10+n) p w true) (pe _) rD (XO.mono (fun _ bJ=>XM.newRow (s:=s) (z:=(10+n)) og (pk [1]) bJ) ?_)));apply gO;refine bL (pk [1,0]) ?_;have e:s.lZ n p w=0:=by unfold SF.lZ;rw[if_neg og,if_neg (by rw[vH];simp)];exact i0
       have hwz:s.ck (10+n)=false:=by
        cases q:s.ck (10+n)with
        | false=>rfl
        | true=>have:=(hI.ck _ q).2.2;rw[vH]at this;cases this
       have Zg:∀ i,s.ck i=true->s.aA i≠(10+n):=fun i hi e9=>by
        obtain⟨a,b9,c⟩:=hI.ck i hi;have h9:=(hI.up i a b9 c).2.2.1;simp_all
       exact⟨by rw[e]<;>rfl,_,by unfold SF.te;rw[if_pos e],hR.new hwz Zg p w true,rfl⟩
      ·have i0:=h6;apply gO;refine bL (pz 2) ?_;try dsimp only[aS,aR,bI,bN]
       have e:s.lZ n p w=s.vM p:=by unfold SF.lZ;rw[if_neg og,if_neg (by rw[vH];simp)]
       exact⟨by rw[e,aJ _ aq],s,by unfold SF.te;rw[if_neg og],hR,rfl⟩
def La(b o:Nat)(s:SC)(d:Int->Nat)(hI:s.toSF.Inv d)(hR:s.mA)(n:Int)(L9:∀ n,0<=n->n<10->s.aa n=true->(∀ i,s.ck i=true->s.aA i≠n)->s.ck n=false):Spec Tryz.prog 157 [ay b o 0,iI n] [.cells b o 2281 (aH s),.aQ bW (s.dg 254)] (fun v H1=>v=ax 102 (s.nX n)/\∃ t:SC,t.toSF=s.toSF.pd n/\t.mA/\H1=[.cells b o 2281 (aH t),.aQ bW (t.dg 254)]):=by
 refine Spec.go 49 [0,1,4,6,7,15,18,20,21,40] [] Tryz.func157 fun W=> ?_;refine ca (vF _ _ _ _) .h1 ?_;rintro _ _ (⟨h1,rfl,rfl⟩ | ⟨h1,rfl,rfl⟩)
 ·obtain⟨i0,i1,i2,i3⟩:=h1;apply gO;refine cd ?_ ?_<;>intro h2
  ·refine bL (pz 2) ?_;have e:s.nX n=5:=by unfold SF.nX;rw[if_neg og,if_pos (.inl og)]
   exact⟨by rw[e]<;>rfl,s,by unfold SF.pd;rw[if_neg og],hR,rfl⟩
  ·refine lp (σ:=Int) (fun k=>(30-k).toNat) (fun k=>(0<=k/\k<=30)/\∀ j:Int,0<=j->j<k->¬(s.aa j=true/\s.aA j=n)) (fun k=>[(20,iI k),(0,ay b o 0),(1,iI n)]) (fun k=>XM W (bX [.cells b o 2281 (aH s),.aQ bW (s.dg 254)]) [.cells b o 2281 (aH s),.aQ bW (s.dg 254)]) (0) ?_ S3 (xq (pz 2)) ?_
   ·grind
   intro k hk;obtain⟨hk,BV⟩:=hk;apply gC;refine cd ?_ ?_<;>intro h3
   ·refine sd (ld .aa (iY _ _) ?_);refine P5 30 rfl ?_ ?_<;>intro h4
    ·try simp only[sb]at h4
     refine sd (ld .aa (eX _ _) ?_);refine cd ?_ ?_<;>intro h5
     ·refine bL (pz 2) ?_;have ha:=SF.Ob (s:=s.toSF) (n:=n) hk.1 og iV iV;have e:s.nX n=5:=by unfold SF.nX;rw[if_neg og,if_pos (.inr ha)]
      exact⟨by rw[e]<;>rfl,s,by unfold SF.pd;rw[if_neg og],hR,rfl⟩
     ·refine sd (ag (k+1) ?_ ?_ S3 (xq (pz 2)));all_goals grind
    ·try simp only[sb]at h4
     refine sd (ag (k+1) ?_ ?_ S3 (xq (pz 2)));all_goals grind
   ·refine XO.v (V.build (vs:= #[]) rfl (v:=.agg (l5 (wQ false 0 0))) fun _=>kq) rfl (gO ?_);refine sd (oS (XO.gi rfl rfl .aa (tY _ n 0 0 false) (pe _) rD (XO.mono (fun _ bJ=>XM.newRow (s:=s) (z:=n) og (pk [1]) bJ) ?_)));apply gO;refine bL (pk [1,0]) ?_;have hk3:∀ j:Int,0<=j->j<30->¬(s.aa j=true/\s.aA j=n):=fun j a b=>BV j a og;have ha:=SF.X1 (s:=s.toSF) (n:=n) hk3;have e:s.nX n=0:=by unfold SF.nX;rw[if_neg og,if_neg (by rw[ha];simp;omega)]
    have Zg:∀ i,s.ck i=true->s.aA i≠n:=fun i hi e9=>by
     obtain⟨a,b9,c⟩:=hI.ck i hi;grind
    exact⟨by rw[e]<;>rfl,_,by unfold SF.pd;rw[if_pos e],hR.new (L9 n i1 i2 i3 Zg) Zg 0 0 false,rfl⟩
 ·have i0:=h1;apply gO;refine bL (pz 2) ?_;try dsimp only[aS,aR,bI,bN]
  have e:s.nX n=s.vM n:=by unfold SF.nX;rw[if_pos aq]
  exact⟨by rw[e,aJ _ aq],s,by unfold SF.pd;rw[if_neg og],hR,rfl⟩
def Nr(b o:Nat)(s:SC)(d:Int->Nat)(hI:s.toSF.Inv d)(hR:s.mA)(n:Int):Spec Tryz.prog 190 [ay b o 0,iI n] [.cells b o 2281 (aH s),.aQ bW (s.dg 254)] (fun v H1=>v=ax 102 (s.tA n)/\∃ t:SC,t.toSF=s.toSF.vY d n/\t.mA/\H1=[.cells b o 2281 (aH t),.aQ bW (t.dg 254)]):=by
 refine Spec.go 30 [0,1,4,5,6,14] [] Tryz.func190 fun W=> ?_;refine ca (Ik _ _ _ _) .h1 ?_;rintro _ _ (⟨h1,rfl,rfl⟩ | ⟨h1,rfl,rfl⟩)
 ·obtain⟨i0,i1,i2,i3⟩:=h1;apply gO;refine st .aa (lv _ _ og _) rfl (sd ?_);refine ca (pI _ _ {s with cO:=ad s.cO (10+n) false} d ⟨hI.h0,hI.up,hI.ck,hI.quo,hI.wt⟩ hR _ (.inr ⟨og,og,i3⟩)) (pz 2) ?_;rintro _ _ ⟨rfl,t,tl,tR,rfl⟩;have tw:t.toSF=s.toSF.gq d n false:=by rw[tl];unfold SF.gq;rw[if_pos i0]
  have twz:t.ck (10+n)=false:=by
   show t.toSF.ck (10+n)=false;rw[tl,SF.Hk (s:=({s with cO:=ad s.cO (10+n) false} :SC).toSF) ⟨hI.h0,hI.up,hI.ck,hI.quo,hI.wt⟩ og og i3];unfold SF.ready;grind [aj]
  have tI:t.toSF.Inv d:=by rw[tl];exact SF.tZ (s:=({s with cO:=ad s.cO (10+n) false} :SC).toSF) ⟨hI.h0,hI.up,hI.ck,hI.quo,hI.wt⟩ (.inr ⟨og,og,i3⟩)
  have thp:t.toSF.aa=s.aa/\t.toSF.aA=s.aA:=by rw[tl];exact⟨SF.mO _ _ _,SF.Jq _ _ _⟩
  apply gO;refine sd (XO.v (V.build (vs:= #[]) rfl (v:=.agg (l5 (wQ false 0 0))) fun _=>kq) rfl (gO ?_));refine sd (oS (XO.gi rfl rfl .aa (tY _ (10+n) 0 0 false) (pe _) rD (XO.mono (fun _ bJ=>XM.newRow (s:=t) (z:=(10+n)) og (pk [1]) bJ) ?_)));apply gO;refine bL (pk [1,0]) ?_;have Zg:∀ i,t.ck i=true->t.aA i≠10+n:=fun i hi e9=>by
   obtain⟨a,b9,c⟩:=tI.ck i hi;have h9:=(tI.up i a b9 c).2.1;omega
  exact⟨by rw[i0];rfl,_,by show t.toSF.ql _ _ _ _=_;unfold SF.vY;rw[if_pos i0,tw],tR.new twz Zg 0 0 false,rfl⟩
 ·have i0:=h1;apply gO;refine bL (pz 2) ?_;try dsimp only[aS,aR,bI,bN]
  exact⟨by rw[aJ _ aq],s,by unfold SF.vY;rw[if_neg aq],hR,rfl⟩
def Ns(b o:Nat)(s:SC)(d:Int->Nat)(hI:s.toSF.Inv d)(hR:s.mA)(n g:Int):Spec Tryz.prog 160 [ay b o 0,iI n,iI g] [.cells b o 2281 (aH s),.aQ bW (s.dg 254)] (fun v H1=>v=ax 102 (s.eN n g)/\∃ t:SC,t.toSF=s.toSF.move d n g/\t.mA/\H1=[.cells b o 2281 (aH t),.aQ bW (t.dg 254)]):=by
 refine Spec.go 54 [0,1,2,6,7,8,9,17,26] [] Tryz.func160 fun W=> ?_;refine ca (Ik _ _ _ _) .h1 ?_;rintro _ _ (⟨h1,rfl,rfl⟩ | ⟨h1,rfl,rfl⟩)
 ·obtain⟨i0,i1,i2,i3⟩:=h1;apply gO;refine ca (vF _ _ _ _) .h1 ?_;rintro _ _ (⟨h2,rfl,rfl⟩ | ⟨h2,rfl,rfl⟩)
  ·obtain⟨k0,k1,k2,k3⟩:=h2;apply gO;refine ld .aa (sQ _ _) (st .aa (lv _ _ og _) rfl (sd ?_));refine ca (pI _ _ {s with cO:=ad s.cO (10+n) false} d ⟨hI.h0,hI.up,hI.ck,hI.quo,hI.wt⟩ hR _ (.inr ⟨og,og,i3⟩)) (pz 2) ?_;rintro _ _ ⟨rfl,t,tl,tR,rfl⟩;have tw:t.toSF=s.toSF.gq d n false:=by rw[tl];unfold SF.gq;rw[if_pos i0]
   have twz:t.ck (10+n)=false:=by
    show t.toSF.ck (10+n)=false;rw[tl,SF.Hk (s:=({s with cO:=ad s.cO (10+n) false} :SC).toSF) ⟨hI.h0,hI.up,hI.ck,hI.quo,hI.wt⟩ og og i3];unfold SF.ready;grind [aj]
   have tI:t.toSF.Inv d:=by rw[tl];exact SF.tZ (s:=({s with cO:=ad s.cO (10+n) false} :SC).toSF) ⟨hI.h0,hI.up,hI.ck,hI.quo,hI.wt⟩ (.inr ⟨og,og,i3⟩)
   have thp:t.toSF.aa=s.aa/\t.toSF.aA=s.aA:=by rw[tl];exact⟨SF.mO _ _ _,SF.Jq _ _ _⟩
   have RN:SF.Inv ({t with aA:=ad t.aA (10+n) g,v:=ad t.v (10+n) 0,cO:=ad t.cO (10+n) (s.cO (10+n))} :SC).toSF (ad d (10+n) (d g+1)):=tI.aay (n:=10+n) (g:=g) og ⟨k1,k2,by rw[thp.1];exact k3⟩ twz _ _;have hR2:SC.mA {t with aA:=ad t.aA (10+n) g,v:=ad t.v (10+n) 0,cO:=ad t.cO (10+n) (s.cO (10+n))} :=tR.ahT (z:=10+n) twz ({t with aA:=ad t.aA (10+n) g,v:=ad t.v (10+n) 0,cO:=ad t.cO (10+n) (s.cO (10+n))} :SC).toSF rfl (fun i hi=>ae _ _ hi) fun i hi=>ae _ _ hi;apply gO;refine st .aa (zJ _ _ og _) rfl (st .aa (tW _ _ og _) rfl (st .aa (lv _ _ og _) rfl (sd ?_)));refine ca (pI _ _ {t with aA:=ad t.aA (10+n) g,v:=ad t.v (10+n) 0,cO:=ad t.cO (10+n) (s.cO (10+n))} (ad d (10+n) (d g+1)) RN hR2 _ (.inr ⟨og,og,by show t.toSF.aa _=true;rw[thp.1];exact i3⟩)) (pz 2) ?_;rintro _ _ ⟨rfl,r,rl,rR,rfl⟩;apply gO;refine bL (pz 2) ?_;have e:s.eN n g=0:=by unfold SF.eN;rw[if_neg og];exact k0
   exact⟨by rw[e]<;>rfl,r,by rw[rl];unfold SF.move SF.mv1;rw[if_pos e,<-tw],rR,rfl⟩
  ·have k0:=h2;apply gO;refine bL (pz 2) ?_;try dsimp only[aS,aR,bI,bN]
   have e:s.eN n g=s.vM g:=by unfold SF.eN;rw[if_neg og]
   exact⟨by rw[e,aJ _ aq],s,by unfold SF.move;rw[if_neg og],hR,rfl⟩
 ·have i0:=h1;apply gO;refine bL (pz 2) ?_;try dsimp only[aS,aR,bI,bN]
  have e:s.eN n g=s.tA n:=by unfold SF.eN;rw[if_pos aq]
  exact⟨by rw[e,aJ _ aq],s,by unfold SF.move;rw[if_neg og],hR,rfl⟩
def V4(b o:Nat)(s:SC)(d:Int->Nat)(hI:s.toSF.Inv d)(hR:s.mA)(hD:∀ n,0<=n->n<30->d n<=1000)(Bd:Int)(hB:0<=Bd/\Bd<=100000000000000)(hS:s.toSF.bU Bd)(alr:0<=s.ie/\s.ie<=Bd)(L9:(s.toSF.o7 d).nh):Spec Tryz.prog 112 [ay b o 0] [.cells b o 2281 (aH s),.aQ bW (s.dg 254)] (fun v H1=>v=iI (s.toSF.lR d).1/\∃ t:SC,t.toSF=(s.toSF.lR d).2/\t.mA/\H1=[.cells b o 2281 (aH t),.aQ bW (t.dg 254)]):=by
 refine Spec.go 94 [0,2,3,4,5,7,8,10,40,65,67,81] [] Tryz.func112 fun W=> ?_;refine lp (σ:=SC×Int) (fun x=>(10-x.2).toNat) (fun x=>x.1.mA/\x.1.toSF.Inv d/\(1<=x.2/\x.2<=10)/\x.1.toSF=s.toSF.mM d (x.2-1).toNat/\x.1.toSF.ie=s.toSF.ie/\x.1.toSF.bU Bd) (fun x=>[(3,iI x.2),(0,ay b o 0)]) (fun x=>XM W (bX [.cells b o 2281 (aH s),.aQ bW (s.dg 254)]) [.cells b o 2281 (aH x.1),.aQ bW (SC.dg 254 x.1)]) ((s,1)) ?_ S2 (xq (pz 2)) ?_
 ·exact⟨hR,hI,sq,rfl,rfl,hS⟩
 intro x hx;obtain⟨xR,xI,ID,VS,hxn,xS⟩:=hx;apply gC;refine cd ?_ ?_<;>intro h1
 ·have hqx:=xI.quo x.2 og og;refine sd ?_;refine rq [0,1,2,3,4,5,6,7,8,9,10,11,12,13,14,15,16,17,18,19,20,21,22] mixed ?_;apply ld .aa (iY _ _);refine P5 22 rfl ?_ ?_<;>intro h2
  ·try simp only[sb]at h2
   have hhr:x.1.aa x.2=true:=h2;apply ld .aa (lx _ _);refine sp 29 rfl ?_ ?_<;>intro h3
   ·apply ld .aa (A8 _);apply ld .aa (zN _ _ og);refine XO.v (V.rem rfl rfl tC _ (Int.tmod_eq_emod_of_nonneg og)) rfl (gO ?_);refine cd ?_ ?_<;>intro h4
    ·apply st .aa (o8 _ _ og _) rfl;refine ca (pI _ _ ({x.1 with dQ:=ad x.1.dQ x.2 0} :SC) d ⟨xI.h0,xI.up,xI.ck,xI.quo,xI.wt⟩ xR _ (.inr ⟨og,og,hhr⟩)) (pz 2) ?_;rintro _ _ ⟨rfl,t,tl,tR,rfl⟩;apply gO;refine sd ?_;refine ag ((t,x.2+1)) ?_ ?_ S2 (xq (pz 2))
     ·omega
     ·refine⟨tR,?_,eW,?_,?_,?_⟩
      ·show t.toSF.Inv d;rw[tl];exact SF.tZ (s:=({x.1 with dQ:=ad x.1.dQ x.2 0} :SC).toSF) ⟨xI.h0,xI.up,xI.ck,xI.quo,xI.wt⟩ (.inr ⟨og,og,hhr⟩)
      ·show t.toSF=s.toSF.mM d (x.2+1-1).toNat;rw[tl,SF.X3 ID.1 VS ⟨hhr,aq,aq⟩]
      ·show t.toSF.ie=_;rw[tl];exact(SF.ke _ _ _).2.2.2.2.2.2.2.2.2.2.trans hxn
      ·show t.toSF.bU Bd;rw[tl];exact SF.bU.iv _ (({x.1 with dQ:=ad x.1.dQ x.2 0} :SC).toSF) _ ⟨xI.h0,xI.up,xI.ck,xI.quo,xI.wt⟩ (xS.dQ hB.1 x.2) (.inr ⟨og,og,hhr⟩)
    ·refine sd ?_;refine ag ((x.1,x.2+1)) ?_ ?_ S2 (xq (pz 2))
     ·omega
     ·refine⟨xR,xI,eW,?_,hxn,xS⟩;show x.1.toSF=s.toSF.mM d (x.2+1-1).toNat;rw[SF.Hl ID.1 VS];omega
   ·refine sd ?_;refine ag ((x.1,x.2+1)) ?_ ?_ S2 (xq (pz 2))
    ·omega
    ·refine⟨xR,xI,eW,?_,hxn,xS⟩;show x.1.toSF=s.toSF.mM d (x.2+1-1).toNat;rw[SF.Hl ID.1 VS];omega
  ·try simp only[sb]at h2
   have hhr:x.1.aa x.2=false:=h2;refine sd ?_;refine ag ((x.1,x.2+1)) ?_ ?_ S2 (xq (pz 2))
   ·omega
   ·refine⟨xR,xI,eW,?_,hxn,xS⟩;show x.1.toSF=s.toSF.mM d (x.2+1-1).toNat;rw[SF.Hl ID.1 VS];simp_all
 ·have Tu:x.2=10:=og;rw[show(x.2-1).toNat=9 from og]at VS;have hte:({x.1 with ie:=x.1.ie+1} :SC).toSF=(s.toSF.o7 d):=by
   show({x.1.toSF with ie:=x.1.toSF.ie+1} :SF)= {s.toSF.mM d 9 with ie:=s.toSF.ie+1};simp_all
  have hI1:SF.Inv ({x.1 with ie:=x.1.ie+1} :SC).toSF d:=⟨xI.h0,xI.up,xI.ck,xI.quo,xI.wt⟩;have hR1:SC.mA ({x.1 with ie:=x.1.ie+1} :SC):=xR;have hS1:SF.bU ({x.1 with ie:=x.1.ie+1} :SC).toSF Bd:=xS;have IU:∀ i,({x.1 with ie:=x.1.ie+1} :SC).toSF.ck i=true->0<i/\i<30:=fun i hi=>⟨(hI1.ck i hi).1,(hI1.ck i hi).2.1⟩;have hF:=hR1.first IU (g:=0) og og
  rw[<-hte]at L9;apply ld .aa (A8 _);refine sd ?_;apply st .aa (Jp _ _) rfl;refine sd ?_;apply XR.mono fun _ bJ=>nx (z:=0) og (pz 2) bJ;refine ca (Pe _ _ _ _ _) (pz 2) ?_;rintro _ _ ⟨rfl,rfl⟩;apply XO.mono fun _ bJ=>rZ (z:=0) og (pz 5) bJ;apply gO;refine wM ?_ ?_<;>intro h5
  ·try simp only[sb]at h5
   have hb:({x.1 with ie:=x.1.ie+1} :SC).toSF.o6 0<0:=by
    simp_all
   have V5:SF.dE d s.toSF= -1:=by
    unfold SF.dE;rw[<-hte];exact SF.ab1 _ _ og hb
   refine bL (pz 2) ?_;refine⟨?_,_,?_,hR1,rfl⟩
   ·unfold SF.lR;rw[V5];rfl
   ·unfold SF.lR;rw[V5];exact hte
  ·try simp only[sb]at h5
   have hb:¬({x.1 with ie:=x.1.ie+1} :SC).toSF.o6 0<0:=hF.1.1 h5;obtain⟨⟨b1,b2,b3⟩,b4,b5⟩:=SF.xW IU hb;have hf1:(x.1.Q 0).first.1=({x.1 with ie:=x.1.ie+1} :SC).toSF.o6 0:=hF.2 hb
   have V5:SF.Lx ({x.1 with ie:=x.1.ie+1} :SC).toSF (SF.Hi d 30) (x.1.Q 0).first.1=SF.dE d s.toSF:=by
    unfold SF.dE;rw[<-hte,SF.L6 _ _ og hb,hf1]
   have hbI:=hI1.ck _ b1;have hdb:=(hI1.up _ b4 b5 hbI.2.2).2.2.2;rw[b2]at hdb;refine lp (σ:=Int) (fun a=>SF.Hi d 30-d a) (fun a=>(0<a/\a<30/\({x.1 with ie:=x.1.ie+1} :SC).aa a=true)/\({x.1 with ie:=x.1.ie+1} :SC).ck a=true/\(∃ k,SF.Hi d 30<k+d a/\SF.Lx ({x.1 with ie:=x.1.ie+1} :SC).toSF k a=SF.dE d s.toSF)/\∃ j,SF.upW ({x.1 with ie:=x.1.ie+1} :SC).toSF j a) (fun a=>[(5,iI a),(0,ay b o 0)]) (fun a=>XM W (bX [.cells b o 2281 (aH s),.aQ bW (s.dg 254)]) [.cells b o 2281 (aH ({x.1 with ie:=x.1.ie+1} :SC)),.aQ bW (SC.dg 254 ({x.1 with ie:=x.1.ie+1} :SC))]) ((x.1.Q 0).first.1) ?_ S2 (xq (pz 2)) ?_
   ·rw[hf1]at V5 ⊢;exact⟨⟨b4,b5,hbI.2.2⟩,b1,⟨SF.Hi d 30,og,V5⟩,1,.inr ⟨b1,by show({x.1 with ie:=x.1.ie+1} :SC).toSF.aA _<=0;rw[b2];omega⟩⟩
   intro a ha;obtain⟨⟨a0,a1,a2⟩,aw,⟨k,hk,ak⟩,⟨j,ju⟩⟩:=ha;apply gC;refine cd ?_ ?_<;>intro h6
   ·have Xe:=SF.Qj hI1 L9 a0 og aw;have hFa:=hR1.first IU (g:=a) og og
    have hfa:(x.1.Q a).first.1=({x.1 with ie:=x.1.ie+1} :SC).toSF.o6 a:=hFa.2 Xe
    obtain⟨⟨c1,c2,c3⟩,c4,c5⟩:=SF.xW IU Xe;have hcI:=hI1.ck _ c1;have hdc:=(hI1.up _ c4 c5 hcI.2.2).2.2.2;rw[c2]at hdc;have hma:=SF.BZ d 30 a og og;have hmc:=SF.BZ d 30 _ (Int.le_of_lt c4) c5;refine sd ?_;apply XR.mono fun _ bJ=>nx (z:=a) og (pz 2) bJ;refine ca (Pe _ _ _ _ _) (pz 2) ?_;rintro _ _ ⟨rfl,rfl⟩;apply XO.mono fun _ bJ=>rZ (z:=a) og (pz 5) bJ;apply gO;refine ag ((x.1.Q a).first.1) ?_ ?_ S2 (xq (pz 2))
    ·grind
    ·rw[hfa];obtain⟨k2,rfl⟩:∃ k2,k=k2+1:=⟨k-1,og⟩;rw[SF.L6 _ _ og Xe]at ak;exact⟨⟨c4,c5,hcI.2.2⟩,c1,⟨k2,og,ak⟩,j+1,.inr ⟨c1,by rw[c2];exact ju⟩⟩
   ·have hae:a=SF.dE d s.toSF:=by
     rw[SF.X2 _ _ og]at ak;omega
    have htk:s.toSF.lR d=(a-10,SF.vL (d a+1) ({x.1 with ie:=x.1.ie+1} :SC).toSF a):=by
     unfold SF.lR;grind
    have hda:=hD a og a1;refine lp (σ:=SC×Int) (fun y=>if y.2=0 then 0 else d y.2+1) (fun y=>y.1.mA/\y.1.toSF.Inv d/\(y.2=0\/(0<y.2/\y.2<30/\y.1.aa y.2=true))/\y.1.toSF.bU (Bd+1048577*((d a:Int)-(d y.2:Int)))/\d y.2<=d a/\(∃ k,d y.2+1<=k/\SF.vL k y.1.toSF y.2=(s.toSF.lR d).2)/\∃ j,SF.upW y.1.toSF j y.2) (fun y=>[(8,iI y.2),(0,ay b o 0),(5,iI a)]) (fun y=>XM W (bX [.cells b o 2281 (aH s),.aQ bW (s.dg 254)]) [.cells b o 2281 (aH y.1),.aQ bW (SC.dg 254 y.1)]) ((({x.1 with ie:=x.1.ie+1} :SC),a)) ?_ S3 (xq (pz 2)) ?_
    ·grind
    intro y hy;obtain⟨yR,yI,yn,yS,yd,⟨yk,hyk,yl⟩,⟨j,yu⟩⟩:=hy;apply gC;refine cd ?_ ?_<;>intro h7
    ·obtain⟨y0,y1,y2⟩:=yn.resolve_left og;obtain⟨p0,pp1,p2,p3⟩:=yI.up y.2 y0 y1 y2;obtain⟨k2,rfl⟩:∃ k2,yk=k2+1:=⟨yk-1,og⟩;rw[SF.Od _ _ y0]at yl;obtain⟨ywn,yu2⟩:y.1.toSF.ck y.2=true/\∃ j,SF.upW y.1.toSF j (y.1.toSF.aA y.2):=by
      cases j with
      | zero=>have:y.2<=0:=yu;omega
      | succ j=>
       rcases yu with q | ⟨q1,q2⟩
       ·omega
       ·grind
     have hdy:=hD y.2 og y1;refine ca (V2 _ _ _ d yI yR (Bd+1048577*((d a:Int)-(d y.2:Int))) og yS _ ⟨y0,y1,y2⟩ ywn) (pz 2) ?_;rintro _ _ ⟨rfl,t,tl,tR,rfl⟩;have htp:t.aA y.2=y.1.toSF.aA y.2:=by show t.toSF.aA y.2=_;rw[tl];rfl
     apply gO;refine sd ?_;apply ld .aa (eX _ _);refine ag ((t,y.1.toSF.aA y.2)) ?_ ?_ (S3 (LJ htp) rfl rfl) (xq (pz 2))
     ·grind
     ·have Ss:y.1.toSF.aA y.2=0\/(0<y.1.toSF.aA y.2/\y.1.toSF.aA y.2<30/\y.1.toSF.aa (y.1.toSF.aA y.2)=true):=by
       grind
      obtain⟨j2,yu3⟩:=yu2;refine⟨tR,by show t.toSF.Inv d;rw[tl];exact yI.zI y0 y1 y2,?_,?_,by show d (y.1.toSF.aA y.2)<=d a;omega,⟨k2,by show d (y.1.toSF.aA y.2)+1<=k2;omega,by show SF.vL k2 t.toSF (y.1.toSF.aA y.2)=_;rw[tl];exact yl⟩,j2,by show SF.upW t.toSF j2 (y.1.toSF.aA y.2);rw[tl];exact SF.Oe yI j2 _ Ss p3 yu3⟩
      ·show y.1.toSF.aA y.2=0\/(0<y.1.toSF.aA y.2/\y.1.toSF.aA y.2<30/\t.toSF.aa (y.1.toSF.aA y.2)=true);rw[tl];exact Ss
      ·show t.toSF.bU (Bd+1048577*((d a:Int)-(d (y.1.toSF.aA y.2):Int)));rw[tl];exact(SF.bU.zI yI yS y0 y1 y2).mono og
    ·refine sd ?_;refine bL (pz 2) ?_;try dsimp only[aS,aR,bI,bN]
     have hy0:y.2=0:=by
      omega
     rw[hy0,SF.FQ _ _ og]at yl;grind
end Go.X.Fa
