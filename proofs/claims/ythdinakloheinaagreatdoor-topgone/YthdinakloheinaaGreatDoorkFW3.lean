import Derived.Test.YthdinakloheinaaGreatDoorkGW
set_option linter.all false
set_option maxRecDepth 20000
set_option maxHeartbeats 16000000
open Go.Proofs.Tryz
namespace Go.X.Gr
open Go Go.Proofs Go.X
def RF:ey Tryz.prog 66 3=some 3:=kq
def RH:ey Tryz.prog 66 4=some 4:=kq
def aca:fE Tryz.prog 33=some 1:=kq
def FU:fE Tryz.prog 4=some 1:=kq
def xC:fE Tryz.prog 66=some 5:=kq
def YL(p o:Nat)(s:TG)(hO:s.Ok)(n:Int)(hn:0<=n/\n<10/\s.aa n=true)(q m:Int)(hq: -20<=q/\q<=20)(hm: -64<=m/\m<=64)(Bd:Int)(hB:0<=Bd/\Bd<=1000000000000)(hS:s.cb Bd):Fn 117 [ay p o 0,iI n,iI q,iI m] [dl p o s] (ap (.tuple #[]) [dl p o (s.lay (s.cU n) q m)]):=by
 have me:=hO.cU hn.1 hn.2.1 hn.2.2;obtain⟨xs,NG⟩:=so _ me.1.range;have RE:xs.length<=4:=by
  grind [nu]
 apply vd 39 [1,4,6,7,11] [] func117 rfl rfl rfl;intro W;apply XO.box (m:=1) (C:=aD (ay p o 0)) rfl rfl (fun _ _=>rfl) rfl;intro bT;apply gO;apply XO.box (m:=1) (C:=aD (iI q)) rfl rfl (fun _ _=>rfl) rfl;intro bq;apply gO;apply XO.box (m:=1) (C:=aD (iI m)) rfl rfl (fun _ _=>rfl) rfl;intro bm;apply gO;apply ld (.t2 .aa) (aD.ld _);refine ca (FT _ _ _) .nil ?_;rintro _ _ ⟨b1,b2,rfl,rfl⟩;apply gO;refine wB (xs:=xs) (fun x:Tj=>iI x.1) (fun pre=>pre.length<=xs.length) (fun _=>False) (fun pre=>[ce b1 (iI n),ce b2 (ay p o 0),dl p o (s.lay (nu pre) q m),ce bT (ay p o 0),ce bq (iI q),ce bm (iI m)]) (fun pre=>[ce b1 (iI n),ce b2 (ay p o 0),dl p o (s.lay (nu pre) q m),ce bT (ay p o 0),ce bq (iI q),ce bm (iI m)]) rfl (oA kq) rfl rfl (fun w hw=>wo p o b1 b2 n s.aA xs (by rw[NG];exact me.1) w (lQ (by rfl) hw.fB .aa (.ao .aa) (.t5 .aa))) ?_ (fun _ hw=>by rw[show s.lay (nu []) q m=s from TG.aa2 s q m];exact XM.pick (pk [0,0,3,2,1,0]) hw) (fun _=>rfl) (fun _=>rfl) ?_ ?_ ?_
 ·simp_all
 ·intro pre x w hV hlen hx;have hsm:=hS.lay (l:=nu pre) (by simp[nu];omega) hq hm x.1 x.2.1 x.2.2;obtain⟨x1,x2⟩:=x.2;refine XB.block (XB.seq (XB.ir mixed (f:=14) (l:= #[qF,qF,qF,qF,qF,qF,qF,qF,qF,qF,qF,qF,qF,qF]) rfl rfl XM.kQ (XQ.ll 0 [13] rfl rfl (.t3 .aa) rfl (aD.ld _) (XQ.mv 1 rfl rfl rfl (XQ.nc 2 rfl rfl rfl (XQ.pw 3 rfl rfl (V.fieldAddr rfl qu) (XQ.pw 4 rfl rfl (jR rfl rfl FO og) (XQ.pw 5 rfl rfl (V.fieldAddr rfl RF) (XQ.ll 6 [13] rfl rfl (.t2 .aa) rfl (fV _ _) (XQ.ll 7 [13] rfl rfl (.t4 .aa) rfl (aD.ld _) (XQ.pw 8 rfl rfl (V.add rfl rfl _ (IntWalk.i64_in _ og)) (XQ.nc 9 rfl rfl rfl (XQ.pw 10 rfl rfl (V.fieldAddr rfl qu) (XQ.pw 11 rfl rfl (jR rfl rfl FO og) (XQ.pw 12 rfl rfl (V.fieldAddr rfl RF) (XQ.store (i:=13) rfl kq rfl rfl rfl (.t2 .aa) (yG _ _ og _) rfl o4 ut (XQ.done kq (pX (XB.fq [(4,_),(7,_),(8,_)] S3 (XB.ir mixed (f:=14) (l:= #[qF,qF,qF,qF,qF,qF,qF,qF,qF,qF,qF,qF,qF,qF]) rfl rfl XM.kQ (XQ.ll 0 [13] rfl rfl (.t3 .aa) rfl (aD.ld _) (XQ.mv 1 rfl rfl rfl (XQ.nc 2 rfl rfl rfl (XQ.pw 3 rfl rfl (V.fieldAddr rfl qu) (XQ.pw 4 rfl rfl (jR rfl rfl FO og) (XQ.pw 5 rfl rfl (V.fieldAddr rfl RH) (XQ.ll 6 [13] rfl rfl (.t2 .aa) rfl (fW _ _) (XQ.ll 7 [13] rfl rfl (.t5 .aa) rfl (aD.ld _) (XQ.pw 8 rfl rfl (V.add rfl rfl _ (IntWalk.i64_in _ (by have:=hsm.2.2;show _<=(s.lay (nu pre) q m).pg x.1+m/\(s.lay (nu pre) q m).pg x.1+m<=_;omega))) (XQ.nc 9 rfl rfl rfl (XQ.pw 10 rfl rfl (V.fieldAddr rfl qu) (XQ.pw 11 rfl rfl (jR rfl rfl FO og) (XQ.pw 12 rfl rfl (V.fieldAddr rfl RH) (XQ.store (i:=13) rfl kq rfl rfl rfl (.t2 .aa) (yH _ _ og _) rfl o4 ut (XQ.done kq (ib (zp hx ?_ rfl (fun w2 hg=>lQ (by rfl) hg .aa (.ao .aa) (.t2 .aa)) fun w2 mK=> ?_)))))))))))))))))))))))))))))))))))))
  ·grind
  ·have:=XM.pick (pz 6) mK;rw[HA,TG.WK];omega
 ·intro hV D hD;refine gE (oz (.inl rfl) .aa rfl hD (dy rfl (ai (pk [2]) rfl ?_)));simp_all
 ·intro pre hp hV D hD;exact hV.elim
def acb(p o:Nat)(s:TG)(hO:s.Ok)(n q:Int):Fn 244 [ay p o 0,iI n,iI q] [dl p o s] (ap (.bool (s.under n q)) [dl p o s]):=by
 refine vd 19 [0,1,5,6,11,14] [] func244 rfl rfl rfl ?_;intro W;refine XO.box (m:=1) (C:=aD (iI q)) rfl rfl (fun _ _=>rfl) rfl ?_;intro bq;apply gO;refine XO.bP (z:=.bool false) (m:=1) (C:=aD (.bool false)) (fun _ _=>rfl) ?_;intro br;apply gO;refine ca (Ke _ _ _ _) (pk [2]) ?_;rintro _ _ (⟨h1,rfl,rfl⟩ | ⟨h1,rfl,rfl⟩)
 ·obtain⟨i0,i1,i2,i3⟩:=h1;have me:=hO.cU i1 i2 i3;obtain⟨xs,NG⟩:=so _ me.1.range;have RE:xs.length<=4:=by
   grind [nu]
  apply gO;refine ca (FT _ _ _) .nil ?_;rintro _ _ ⟨b1,b2,rfl,rfl⟩;apply gO;refine wB (xs:=xs) (fun x:Tj=>iI x.1) (fun pre=>∀ x∈pre,¬x.1=q) (fun pre=>∃ x∈pre,x.1=q) (fun pre=>[ce b1 (iI n),ce b2 (ay p o 0),dl p o s,ce bq (iI q),ce br (.bool false)]) (fun pre=>[ce b1 (iI n),ce b2 (ay p o 0),dl p o s,ce bq (iI q),ce br (.bool true)]) rfl (oA kq) rfl rfl (fun w hw=>wo p o b1 b2 n s.aA xs (by rw[NG];exact me.1) w (lQ (by rfl) hw.fB .aa (.ao .aa) (.t2 .aa))) ?_ (xq (pk [0,0,0,1,0])) (fun _=>rfl) (fun _=>rfl) ?_ ?_ ?_
  ·simp_all
  ·intro pre x w hV hlen hx;refine XB.block ?_;refine XB.seq ?_;refine XB.region ?_;refine XO.v (V.move rfl) rfl ?_;refine XO.l (V.load rfl (fp (.t3 .aa)) (aD.ld _) kq) rfl ?_;refine XO.v (Vt rfl rfl rfl) rfl ?_;refine XO.nil ?_;refine pX ?_;refine XB.fq [(6,_),(18,_)] S2 ?_;refine XB.Qi rfl (fun h2=> ?_) fun h2=> ?_
   ·refine XB.seq ?_;refine XB.region ?_;refine XO.store rfl rfl (.t4 .aa) (aD.st _ _) rfl FU ?_;refine XO.nil ?_;refine pX ?_;refine XB.fq [(6,_)] S1 ?_;refine XB.ret ?_;refine mn ?_;refine XE.fL hx ?_ rfl fun w2 mK=> ?_;all_goals simp_all
   ·refine XB.skip ?_;refine ib ?_;refine zp hx ?_ rfl (fun w2 hg=>lQ (by rfl) hg .aa (.ao .aa) (.t2 .aa)) fun w2 mK=> ?_;all_goals grind
  ·intro hV D hD;have hr:s.under n q=false:=by
    unfold TG.under;grind [nu]
   refine gE ?_;refine st (.t5 .aa) (aD.st _ _) rfl ?_;refine oz (.inr rfl) .aa rfl hD ?_;refine kf rfl (.cell rfl (.t4 .aa) (aD.ld _) kq) (ai (pk [2]) rfl ?_);grind [aQ,bQ]
  ·intro pre hp hV D hD;have hr:s.under n q=true:=by
    unfold TG.under;grind [nu]
   refine gE ?_;refine oz (.inr rfl) .aa rfl hD ?_;refine kf rfl (.cell rfl (.t4 .aa) (aD.ld _) kq) (ai (pk [2]) rfl ?_);simp_all
 ·have i0:=h1;apply gO;refine st (.ao .aa) (aD.st _ _) rfl ?_;refine rS (.inr rfl) ?_;refine kf rfl (.cell rfl (.ao .aa) (aD.ld _) kq) (ai .h1 rfl ?_);try dsimp only[aR,aQ,bH,bQ]
  exact⟨by unfold TG.under;rw[if_pos og],rfl⟩
def wq(p o:Nat)(s:TG)(hO:s.Ok)(n q m:Int)(Bd:Int)(hB:0<=Bd/\Bd<=1000000000000)(hS:s.cb Bd):Fn 51 [ay p o 0,iI n,iI q,iI m] [dl p o s] (ap (ax 102 (s.dJ n q m)) [dl p o (s.bI n q m)]):=by
 refine vd 42 [1,4,6,7,8,9,15,20,24] [] func51 rfl rfl rfl ?_
 intro W
 refine XO.box (m:=1) (C:=aD (ay p o 0)) rfl rfl (fun _ _=>rfl) rfl ?_
 intro bT
 apply gO
 refine XO.box (m:=1) (C:=aD (iI q)) rfl rfl (fun _ _=>rfl) rfl ?_
 intro bq
 apply gO
 refine XO.box (m:=1) (C:=aD (iI m)) rfl rfl (fun _ _=>rfl) rfl ?_
 intro bm
 apply gO
 refine XO.bP (z:=.nilIface) (m:=1) (C:=aD (.nilIface)) (fun _ _=>rfl) ?_
 intro be
 apply gO
 refine ld (.t3 .aa) (aD.ld _) ?_
 refine ca (Ke _ _ _ _) (pk [4]) ?_
 rintro _ _ (⟨h1,rfl,rfl⟩ | ⟨h1,rfl,rfl⟩)
 skip
 obtain⟨i0,i1,i2,i3⟩:=h1
 apply gO
 refine ld (.t3 .aa) (aD.ld _) ?_
 refine ld (.t2 .aa) (aD.ld _) ?_
 refine ca (FR _ _) .nil ?_
 rintro _ _ (⟨h2,rfl,rfl⟩ | ⟨h2,rfl,rfl⟩)
 ·skip
  have j0:=h2
  have me:=hO.cU i1 i2 i3
  obtain⟨xs,NG⟩:=so _ me.1.range
  have RE:xs.length<=4:=by
    grind [nu]
  apply gO
  refine ld (.t4 .aa) (aD.ld _) ?_
  refine ca (FT _ _ _) .nil ?_
  rintro _ _ ⟨b1,b2,rfl,rfl⟩
  apply gO
  refine wB (xs:=xs) (fun x:Tj=>iI x.1) (fun pre=>∀ x∈pre,s.room q m x.1=true) (fun pre=>∃ x∈pre,s.room q m x.1=false) (fun pre=>[ce b1 (iI n),ce b2 (ay p o 0),dl p o s,ce bT (ay p o 0),ce bq (iI q),ce bm (iI m),ce be (.nilIface)]) (fun pre=>[ce b1 (iI n),ce b2 (ay p o 0),dl p o s,ce bT (ay p o 0),ce bq (iI q),ce bm (iI m),ce be (.iface 102 (iI 6))]) rfl (oA kq) rfl rfl (fun w hw=>wo p o b1 b2 n s.aA xs (by rw[NG];exact me.1) w (lQ (by rfl) hw.fB .aa (.ao .aa) (.t2 .aa))) ?_ (xq (pk [0,0,0,3,2,1,0])) (fun _=>rfl) (fun _=>rfl) ?_ ?_ ?_
  ·simp_all
  ·intro pre x w hV hlen hx
   have hsm:=hS x.1 x.2.1 x.2.2
   obtain⟨x1,x2⟩:=x.2
   have hr0: -9223372036854775808<=(s.gv x.1).pr+q/\(s.gv x.1).pr+q<=9223372036854775807:=by show _<=s.pr x.1+q/\s.pr x.1+q<=_;omega
   have Kf: -9223372036854775808<=(s.gv x.1).pg+m/\(s.gv x.1).pg+m<=9223372036854775807:=by show _<=s.pg x.1+m/\s.pg x.1+m<=_;omega
   refine XB.block ?_
   refine XB.seq ?_
   refine XB.ir mixed (f:=10) (l:= #[qF,qF,qF,qF,qF,qF,qF,qF,qF,qF]) rfl rfl XM.kQ ?_
   refine XQ.ll 0 [8] rfl rfl (.t3 .aa) rfl (aD.ld _) ?_
   refine XQ.mv 1 rfl rfl rfl ?_
   refine XQ.nc 2 rfl rfl rfl ?_
   refine XQ.pw 3 rfl rfl (V.fieldAddr rfl qu) ?_
   refine XQ.pw 4 rfl rfl (jR rfl rfl FO og) ?_
   refine XQ.lf 5 [8] rfl rfl (.t2 .aa) rfl (Ew _ _) ?_
   refine XQ.ll 6 [8] rfl rfl (.t4 .aa) rfl (aD.ld _) ?_
   refine XQ.ll 7 [8] rfl rfl (.t5 .aa) rfl (aD.ld _) ?_
   refine XQ.call (i:=8) rfl kq rfl rfl (YJ _ _ _ aq aq) .nil kq rfl (by rintro _ _ ⟨rfl,rfl⟩<;>exact ut) ?_
   rintro _ _ ⟨rfl,rfl⟩
   refine XQ.pw 9 rfl rfl (V.not rfl) ?_
   refine XQ.done kq ?_
   refine pX ?_
   refine XB.fq [(8,_),(35,_)] S2 ?_
   refine XB.cond rfl (fun h3=> ?_) fun h3=> ?_
   ·try simp only[sb]at h3
    have hX:=h3
    refine XB.seq ?_
    refine XB.region ?_
    refine XO.v (Ct rfl underlying102 sq) rfl ?_
    refine XO.store rfl rfl (.t6 .aa) (aD.st _ _) rfl aca ?_
    refine XO.nil ?_
    refine pX ?_
    refine XB.fq [(8,_)] S1 ?_
    refine XB.ret ?_
    refine mn ?_
    refine XE.fL hx ?_ rfl fun w2 mK=> ?_
    ·skip
     exact⟨x,sq,by simpa [TG.room]using hX⟩
    omega
   ·try simp only[sb]at h3
    have hX:=h3
    refine XB.skip ?_
    refine ib ?_
    refine zp hx ?_ rfl (fun w2 hg=>lQ (by rfl) hg .aa (.ao .aa) (.t2 .aa)) fun w2 mK=> ?_
    ·skip
     intro y hy
     rcases List.mem_append.1 hy with hy | hy
     ·grind
     ·simp at hy;subst hy;simpa [TG.room]using hX
    simp_all
  ·intro hV D hD
   have hc:s.qB n q m=0:=by unfold TG.qB;rw[if_neg og];exact(TG.CH _ _).2 j0
   have hr:s.dJ n q m=0:=by
     unfold TG.dJ
     grind [nu]
   have C7:s.bI n q m=s.lay (s.cU n) q m:=by unfold TG.bI;rw[if_pos hr]
   refine gE ?_
   refine ld (.t4 .aa) (aD.ld _) ?_
   refine ld (.t5 .aa) (aD.ld _) ?_
   refine ld (.t6 .aa) (aD.ld _) ?_
   refine cq (YL _ _ s hO _ (by first | assumption | exact⟨og,og,aq⟩) _ _ og og Bd hB hS) (pk [3]) ?_
   refine st (.t7 .aa) (aD.st _ _) rfl ?_
   refine oz (.inr rfl) (.ao .aa) rfl hD ?_
   refine kf rfl (.cell rfl (.t6 .aa) (aD.ld _) kq) (ai .h1 rfl ?_)
   grind [aQ,bQ,ax]
  ·intro pre hp hV D hD
   have hc:s.qB n q m=0:=by unfold TG.qB;rw[if_neg og];exact(TG.CH _ _).2 j0
   have hr:s.dJ n q m=6:=by
     unfold TG.dJ
     grind [nu]
   have C7:s.bI n q m=s:=by unfold TG.bI;rw[if_neg og]
   refine gE ?_
   refine oz (.inr rfl) .aa rfl hD ?_
   refine kf rfl (.cell rfl (.t6 .aa) (aD.ld _) kq) (ai (pk [2]) rfl ?_)
   grind [ax]
 skip
 have j1:=h2;rotate_left
 skip
 have i0:=h1;rotate_left;all_goals
  apply gO
  refine st (.ao .aa) (aD.st _ _) rfl ?_
  refine rS (.inr rfl) ?_
  refine kf rfl (.cell rfl (.ao .aa) (aD.ld _) kq) (ai .h1 rfl ?_)
  try dsimp only[aR,aQ,bH,bQ]
  first
  | (have hc:s.qB n q m=s.cQ n:=by unfold TG.qB;rw[if_pos aq]
     have hr:s.dJ n q m=s.cQ n:=by unfold TG.dJ;rw[if_pos og,hc]
     exact⟨by rw[hr,aL _ aq],by unfold TG.bI;rw[if_neg og]⟩)
  | (have hc:s.qB n q m=1:=by unfold TG.qB;rw[if_neg og];exact j1
     have hr:s.dJ n q m=1:=by unfold TG.dJ;rw[if_pos og,hc]
     exact⟨by rw[hr];rfl,by unfold TG.bI;rw[if_neg og]⟩)
def acd(p o:Nat)(s:TG)(hO:s.Ok)(n q m:Int)(Bd:Int)(hB:0<=Bd/\Bd<=1000000000000)(hS:s.cb Bd):Fn 228 [ay p o 0,iI n,iI q,iI m] [dl p o s] (ap (.tuple #[iI ((s.iR n q m).getD 0),.bool (s.iR n q m).isSome]) [dl p o s]):=by
 refine vd 36 [1,4,6,7,8,9,20,23] [] func228 rfl rfl rfl ?_
 intro W
 refine XO.box (m:=1) (C:=aD (ay p o 0)) rfl rfl (fun _ _=>rfl) rfl ?_
 intro bT
 apply gO
 refine XO.box (m:=1) (C:=aD (iI q)) rfl rfl (fun _ _=>rfl) rfl ?_
 intro bq
 apply gO
 refine XO.box (m:=1) (C:=aD (iI m)) rfl rfl (fun _ _=>rfl) rfl ?_
 intro bm
 apply gO
 refine XO.bP (z:=iI 0) (m:=1) (C:=aD (iI 0)) (fun _ _=>rfl) ?_
 intro br
 apply gO
 refine XO.bP (z:=.bool false) (m:=1) (C:=aD (.bool false)) (fun _ _=>rfl) ?_
 intro bo
 apply gO
 refine ld (.t4 .aa) (aD.ld _) ?_
 refine ca (Ke _ _ _ _) (pk [5]) ?_
 rintro _ _ (⟨h1,rfl,rfl⟩ | ⟨h1,rfl,rfl⟩)
 skip
 obtain⟨i0,i1,i2,i3⟩:=h1
 apply gO
 refine ld (.t4 .aa) (aD.ld _) ?_
 refine ld (.t3 .aa) (aD.ld _) ?_
 refine ca (FR _ _) .nil ?_
 rintro _ _ (⟨h2,rfl,rfl⟩ | ⟨h2,rfl,rfl⟩)
 ·skip
  have j0:=h2
  have me:=hO.cU i1 i2 i3
  obtain⟨xs,NG⟩:=so _ me.1.range
  have RE:xs.length<=4:=by
    grind [nu]
  apply gO
  refine ld (.t5 .aa) (aD.ld _) ?_
  refine ca (FT _ _ _) .nil ?_
  rintro _ _ ⟨b1,b2,rfl,rfl⟩
  apply gO
  refine wB (xs:=xs) (fun x:Tj=>iI x.1) (fun pre=>∀ x∈pre,s.room q m x.1=true) (fun pre=>∃ l x,pre=l++[x]/\(∀ y∈l,s.room q m y.1=true)/\s.room q m x.1=false) (fun pre=>[ce b1 (iI n),ce b2 (ay p o 0),dl p o s,ce bT (ay p o 0),ce bq (iI q),ce bm (iI m),ce br (iI 0),ce bo (.bool false)]) (fun pre=>[ce b1 (iI n),ce b2 (ay p o 0),dl p o s,ce bT (ay p o 0),ce bq (iI q),ce bm (iI m),ce br (iI ((nu pre).getLast?.getD 0)),ce bo (.bool true)]) rfl (oA kq) rfl rfl (fun w hw=>wo p o b1 b2 n s.aA xs (by rw[NG];exact me.1) w (lQ (by rfl) hw.fB .aa (.ao .aa) (.t2 .aa))) ?_ (xq (pk [0,0,0,4,3,2,1,0])) (fun _=>rfl) (fun _=>rfl) ?_ ?_ ?_
  ·simp_all
  ·intro pre x w hV hlen hx
   have hsm:=hS x.1 x.2.1 x.2.2
   obtain⟨x1,x2⟩:=x.2
   have hr0: -9223372036854775808<=(s.gv x.1).pr+q/\(s.gv x.1).pr+q<=9223372036854775807:=by show _<=s.pr x.1+q/\s.pr x.1+q<=_;omega
   have Kf: -9223372036854775808<=(s.gv x.1).pg+m/\(s.gv x.1).pg+m<=9223372036854775807:=by show _<=s.pg x.1+m/\s.pg x.1+m<=_;omega
   refine XB.block ?_
   refine XB.seq ?_
   refine XB.ir mixed (f:=10) (l:= #[qF,qF,qF,qF,qF,qF,qF,qF,qF,qF]) rfl rfl XM.kQ ?_
   refine XQ.ll 0 [8] rfl rfl (.t3 .aa) rfl (aD.ld _) ?_
   refine XQ.mv 1 rfl rfl rfl ?_
   refine XQ.nc 2 rfl rfl rfl ?_
   refine XQ.pw 3 rfl rfl (V.fieldAddr rfl qu) ?_
   refine XQ.pw 4 rfl rfl (jR rfl rfl FO og) ?_
   refine XQ.lf 5 [8] rfl rfl (.t2 .aa) rfl (Ew _ _) ?_
   refine XQ.ll 6 [8] rfl rfl (.t4 .aa) rfl (aD.ld _) ?_
   refine XQ.ll 7 [8] rfl rfl (.t5 .aa) rfl (aD.ld _) ?_
   refine XQ.call (i:=8) rfl kq rfl rfl (YJ _ _ _ aq aq) .nil kq rfl (by rintro _ _ ⟨rfl,rfl⟩<;>exact ut) ?_
   rintro _ _ ⟨rfl,rfl⟩
   refine XQ.pw 9 rfl rfl (V.not rfl) ?_
   refine XQ.done kq ?_
   refine pX ?_
   refine XB.fq [(8,_),(9,_),(10,_),(34,_)] S4 ?_
   refine XB.cond rfl (fun h3=> ?_) fun h3=> ?_
   ·try simp only[sb]at h3
    have hX:=h3
    refine XB.seq ?_
    refine XB.region ?_
    refine XO.v (V.move rfl) rfl ?_
    refine XO.store rfl rfl (.t6 .aa) (aD.st _ _) rfl o4 ?_
    refine XO.store rfl rfl (.t7 .aa) (aD.st _ _) rfl FU ?_
    refine XO.nil ?_
    refine pX ?_
    refine XB.fq [(8,_),(9,_)] S2 ?_
    refine XB.ret ?_
    refine mn ?_
    refine XE.fL hx ?_ rfl fun w2 mK=> ?_
    ·skip
     exact⟨pre,x,rfl,hV,by simpa [TG.room]using hX⟩
    grind [HA]
   ·try simp only[sb]at h3
    have hX:=h3
    refine XB.skip ?_
    refine ib ?_
    refine zp hx ?_ rfl (fun w2 hg=>lQ (by rfl) hg .aa (.ao .aa) (.t2 .aa)) fun w2 mK=> ?_
    ·skip
     intro y hy
     rcases List.mem_append.1 hy with hy | hy
     ·grind
     ·simp at hy;subst hy;simpa [TG.room]using hX
    simp_all
  ·intro hV D hD
   have hc:s.qB n q m=0:=by unfold TG.qB;rw[if_neg og];exact(TG.CH _ _).2 j0
   have hr:s.iR n q m=none:=by
     unfold TG.iR
     grind [nu]
   refine gE ?_
   refine st (.t7 .aa) (aD.st _ _) rfl ?_
   refine st (.t8 .aa) (aD.st _ _) rfl ?_
   refine oz (.inr rfl) .aa rfl hD ?_
   refine dU rfl (.cell rfl (.t6 .aa) (aD.ld _) kq) (.cell rfl (.t7 .aa) (aD.ld _) kq) (ai (pk [2]) rfl ?_)
   grind [aQ,bQ]
  ·intro pre hp hV D hD
   have hc:s.qB n q m=0:=by unfold TG.qB;rw[if_neg og];exact(TG.CH _ _).2 j0
   have hr:s.iR n q m=some ((nu pre).getLast?.getD 0):=by
     unfold TG.iR
     grind [nu]
   refine gE ?_
   refine oz (.inr rfl) .aa rfl hD ?_
   refine dU rfl (.cell rfl (.t6 .aa) (aD.ld _) kq) (.cell rfl (.t7 .aa) (aD.ld _) kq) (ai (pk [2]) rfl ?_)
   simp_all
 skip
 have j1:=h2;rotate_left
 skip
 have i0:=h1;rotate_left;all_goals
  apply gO
  refine st (.t2 .aa) (aD.st _ _) rfl ?_
  refine st (.ao .aa) (aD.st _ _) rfl ?_
  refine rS (.inr rfl) ?_
  refine dU rfl (.cell rfl (.t2 .aa) (aD.ld _) kq) (.cell rfl (.ao .aa) (aD.ld _) kq) (ai .h1 rfl ?_)
  first
  | (have hc:s.qB n q m=s.cQ n:=by unfold TG.qB;rw[if_pos aq]
     have hr:s.iR n q m=none:=by unfold TG.iR;rw[if_pos og]
     exact⟨by rw[hr];rfl,rfl⟩)
  | (have hc:s.qB n q m=1:=by unfold TG.qB;rw[if_neg og];exact j1
     have hr:s.iR n q m=none:=by unfold TG.iR;rw[if_pos og]
     exact⟨by rw[hr];rfl,rfl⟩)
def YM(p o:Nat)(s:TG)(n:Int)(hn:0<=n/\n<10)(q m:Int)(Bd:Int)(hB:0<=Bd/\Bd<=1000000000000)(hS:s.cb Bd):Fn 122 [ay p o 0,iI n,iI q,iI m] [dl p o s] (ap (.bool (decide (q<=s.left s.pr n/\m<=s.left s.pg n))) [dl p o s]):=by
 refine Spec.g 74 [0,1,2,3,8,9,10,11,12,30,31,32,46] func122 fun W=> ?_;refine rq [0,1,2,3,4,5,6,7,8,9,10,11,12,13,14,15] mixed ?_;apply (sd);apply ld .aa (fV _ _);apply (sd);apply ld .aa (fW _ _);apply mP .aa (yJ _);refine lp (σ:=Int) (fun k=>(10-k).toNat) (fun k=>0<=k/\k<=10) (fun k=>[(31,iI k),(9,iI (s.pr n-bU (s.gK s.pr n) k.toNat)),(10,iI (s.pg n-bU (s.gK s.pg n) k.toNat)),(0,ay p o 0),(1,iI n),(2,iI q),(3,iI m),(30,.agg (Sw s.aa 10))]) (fun k=>XM W (cx [dl p o s]) [dl p o s]) (0) ?_ (.cons rfl (.cons (by rw[show s.pr n-bU (s.gK s.pr n) (0:Int).toNat=s.pr n from by simp[bU]];rfl) (S6 (by rw[show s.pg n-bU (s.gK s.pg n) (0:Int).toNat=s.pg n from by simp[bU]];rfl) rfl rfl rfl rfl rfl))) (xq .h1) ?_
 ·omega
 intro k hk;have af7:=LZ s s.pr n hk.1;have af8:=LZ s s.pg n hk.1;have hbd:=Tl hS hB hn (k:=k) hk.1;apply gC;apply (cd)<;>intro h1
 ·have hSn:=hS n hn.1 hn.2;have hSk:=hS k hk.1 og;refine XO.v (s8 rfl rfl underlying149 FU kq og (I2)) rfl (gO ?_);refine SG 36 rfl ?_ ?_<;>intro h2
  ·try simp only[sb]at h2
   apply (sd);apply ld .aa (gF _ _);apply (cd)<;>intro h3
   ·apply (sd);apply ld .aa (fV _ _);apply (sd);apply (sd);apply ld .aa (fW _ _);apply (sd);apply (sd);refine ag (k+1) ?_ ?_ (.cons rfl (.cons (by rw[af7];rw[show s.gK s.pr n k=s.pr k from by unfold TG.gK;rw[if_pos ⟨jw,jw⟩]];exact Gn) (S6 (by rw[af8];rw[show s.gK s.pg n k=s.pg k from by unfold TG.gK;rw[if_pos ⟨jw,jw⟩]];exact Gn) rfl rfl rfl rfl rfl))) (xq .h1);all_goals omega
   ·apply (sd);refine ag (k+1) ?_ ?_ (.cons rfl (.cons (by rw[af7];rw[show s.gK s.pr n k=0 from by unfold TG.gK;rw[if_neg jw]];exact Gn) (S6 (by rw[af8];rw[show s.gK s.pg n k=0 from by unfold TG.gK;rw[if_neg jw]];exact Gn) rfl rfl rfl rfl rfl))) (xq .h1);all_goals omega
  ·try simp only[sb]at h2
   apply (sd);refine ag (k+1) ?_ ?_ (.cons rfl (.cons (by rw[af7];rw[show s.gK s.pr n k=0 from by unfold TG.gK;rw[if_neg jw]];exact Gn) (S6 (by rw[af8];rw[show s.gK s.pg n k=0 from by unfold TG.gK;rw[if_neg jw]];exact Gn) rfl rfl rfl rfl rfl))) (xq .h1);all_goals omega
 ·apply UV 69<;>intro h4
  ·refine bL .h1 ?_;obtain rfl:k=10:=og;refine⟨congrArg Value.bool ?_,rfl⟩;unfold TG.left;simp_all
  ·refine bL .h1 ?_;obtain rfl:k=10:=og;refine⟨congrArg Value.bool ?_,rfl⟩;unfold TG.left;grind
def n5(p o:Nat)(s:TG)(hO:s.Ok)(n q m:Int)(Bd:Int)(hB:0<=Bd/\Bd<=1000000000000)(hS:s.cb Bd):Fn 54 [ay p o 0,iI n,iI q,iI m] [dl p o s] (ap (ax 102 (s.gD n q m)) [dl p o (s.eb n q m)]):=by
 refine Spec.g 35 [0,1,2,3,8,9,14,19,26] func54 fun W=> ?_
 refine ca (Ke _ _ _ _) .h1 ?_
 rintro _ _ (⟨h1,rfl,rfl⟩ | ⟨h1,rfl,rfl⟩)
 skip
 obtain⟨i0,i1,i2,i3⟩:=h1
 apply gO
 refine ca (FR _ _) .nil ?_
 rintro _ _ (⟨h2,rfl,rfl⟩ | ⟨h2,rfl,rfl⟩)
 ·skip
  have j0:=h2
  apply gO
  refine cq (YM _ _ s _ ⟨og,og⟩ _ _ Bd hB hS) .h1 ?_
  apply (cd)<;>intro h3
  ·skip
   refine bL .h1 ?_
   have hc:s.qB n q m=0:=by unfold TG.qB;rw[if_neg og];exact(TG.CH _ _).2 j0
   have hr:s.gD n q m=8:=by unfold TG.gD;rw[if_neg og,if_neg jw]
   exact⟨by rw[hr];rfl,by unfold TG.eb;rw[if_neg og]⟩
  ·skip
   refine sd (sd ?_)
   refine cq (YL _ _ s hO _ (by first | assumption | exact⟨og,og,aq⟩) _ _ og og Bd hB hS) .h1 ?_
   refine bL .h1 ?_
   have hc:s.qB n q m=0:=by unfold TG.qB;rw[if_neg og];exact(TG.CH _ _).2 j0
   have hr:s.gD n q m=0:=by unfold TG.gD;rw[if_neg og,if_pos jw]
   exact⟨by rw[hr];rfl,by unfold TG.eb;rw[if_pos hr];simp only[Int.zero_sub]⟩
 skip
 have j1:=h2
 apply gO
 refine bL .h1 ?_;rotate_left
 skip
 have i0:=h1
 apply gO
 refine bL .h1 ?_
 try dsimp only[aR,aQ,bH,bQ]
 rotate_left;all_goals
  first
  | (have hc:s.qB n q m=s.cQ n:=by unfold TG.qB;rw[if_pos aq]
     have hr:s.gD n q m=s.cQ n:=by unfold TG.gD;rw[if_pos og,hc]
     exact⟨by rw[hr,aL _ aq],by unfold TG.eb;rw[if_neg og]⟩)
  | (have hc:s.qB n q m=1:=by unfold TG.qB;rw[if_neg og];exact j1
     have hr:s.gD n q m=1:=by unfold TG.gD;rw[if_pos og,hc]
     exact⟨by rw[hr];rfl,by unfold TG.eb;rw[if_neg og]⟩)
def af9(p o:Nat)(s:TG)(hO:s.Ok)(a b q m:Int)(Bd:Int)(hB:0<=Bd/\Bd<=900000000000)(hS:s.cb Bd):Fn 159 [ay p o 0,iI a,iI b,iI q,iI m] [dl p o s] (ap (ax 102 (s.fl a b q m)) [dl p o (s.move a b q m)]):=by
 have hO2:(s.eb a q m).Ok:=hO.eb;have hB2:0<=Bd+320/\Bd+320<=2000000000000:=og;refine Spec.g 39 [0,1,2,3,4,10,11,16,24,32] func159 fun W=> ?_;refine ca (Ke _ _ _ _) .h1 ?_;rintro _ _ (⟨h1,rfl,rfl⟩ | ⟨h1,rfl,rfl⟩)
 ·obtain⟨i0,i1,i2,i3⟩:=h1;apply gO;refine cq (n5 _ _ s hO _ _ _ Bd og hS) .h1 ?_;apply (cd)<;>intro h2
  ·refine bL .h1 ?_;try dsimp only[aR,aQ,bH,bQ]
   exact⟨by unfold TG.fl;rw[if_neg og,if_pos aq],by rw[show s.eb a q m=s from by unfold TG.eb;rw[if_neg aq],show s.move a b q m=s from by unfold TG.move;rw[if_pos (Or.inr aq)]]⟩
  ·have hS2:(s.eb a q m).cb (Bd+320):=hS.eb hO a q m;obtain⟨⟨a1,a2,a3⟩,q1,q2,m1,m2⟩:=TG.zN (by omega:s.gD a q m=0);have hu:s.eb a q m=s.lay (s.cU a) (-q) (-m):=by unfold TG.eb;rw[if_pos og]
   refine cq (wq _ _ _ hO2 _ _ _ (Bd+320) og hS2) .h1 ?_;apply (cd)<;>intro h3
   ·have Kg:(s.eb a q m).bI b q m=s.eb a q m:=by unfold TG.bI;rw[if_neg og]
    rw[Kg];refine cq (YL _ _ (s.eb a q m) hO2 a (by rw[hu];exact⟨a1,a2,a3⟩) q m og og (Bd+320) og hS2) .h1 ?_;refine bL .h1 ?_;try dsimp only[aR,aQ,bH,bQ]
    have hv:s.fl a b q m=(s.eb a q m).dJ b q m:=by unfold TG.fl;rw[if_neg og,if_neg og]
    have hm:s.move a b q m=s:=by unfold TG.move;rw[if_neg og,if_neg aq]
    exact⟨by rw[hv],by rw[hm,TG.WM,hu,TG.WL]⟩
   ·refine bL .h1 ?_;try dsimp only[aR,aQ,bH,bQ]
    have hv:s.fl a b q m=(s.eb a q m).dJ b q m:=by unfold TG.fl;rw[if_neg og,if_neg og]
    have hm:s.move a b q m=(s.eb a q m).bI b q m:=by unfold TG.move;rw[if_neg og,if_pos og]
    simp_all
 ·have i0:=h1;apply gO;refine bL .h1 ?_;try dsimp only[aR,aQ,bH,bQ]
  exact⟨by unfold TG.fl;rw[if_pos aq,aL _ aq],by unfold TG.move;rw[if_pos (.inl aq)]⟩
def ace(p o:Nat)(s:TG)(n q m:Int):Fn 158 [ay p o 0,iI n,iI q,iI m] [dl p o s] (ap (ax 102 (s.kU n q m)) [dl p o (s.ki n q m)]):=by
 refine Spec.g 45 [0,1,2,3,8,9,14,29] func158 fun W=> ?_;refine ca (Ke _ _ _ _) .h1 ?_;rintro _ _ (⟨h1,rfl,rfl⟩ | ⟨h1,rfl,rfl⟩)
 obtain⟨i0,i1,i2,i3⟩:=h1;apply gO;apply UV 18<;>intro h2;rotate_left
 apply UV 22<;>intro h3;rotate_left
 apply UV 26<;>intro h4;rotate_left
 apply (cd)<;>intro h5;rotate_left
 ·refine rq [0,1,2,3,4,5,6,7,8,9,11,12,10,13,14,15] mixed (sd (st .aa (uP _ _ og _) rfl (sd (st .aa (uQ _ _ og _) rfl (aO rfl rfl (ai .h1 rfl ?_))))));have hr:s.kU n q m=0:=by unfold TG.kU;rw[if_neg og,if_neg og]
  exact⟨by rw[hr];rfl,by unfold TG.ki;rw[if_pos hr]⟩
 ·have i0:=h1;apply gO;refine bL .h1 ?_;try dsimp only[aR,aQ,bH,bQ]
  have hr:s.kU n q m=s.cQ n:=by unfold TG.kU;rw[if_pos aq]
  exact⟨by rw[hr,aL _ aq],by unfold TG.ki;rw[if_neg og]⟩
 all_goals
  refine bL .h1 ?_;have hr:s.kU n q m=1:=by unfold TG.kU;rw[if_neg og,if_pos og]
  exact⟨by rw[hr];rfl,by unfold TG.ki;rw[if_neg og]⟩
def alR(p o:Nat)(s:TG)(n:Int):Fn 92 [ay p o 0,iI n] [dl p o s] (ap (.tuple #[.agg (if s.cQ n=0 then s.gv n else GV.zero).c9,ax 102 (s.cQ n)]) [dl p o s]):=by
 refine Spec.g 20 [0,1,4,5,6,11] func92 fun W=> ?_;apply XO.bP (z:=.agg GV.zero.c9) (m:=5) (C:=oU GV.zero) (qe _);intro bg;apply gO;refine ca (Ke _ _ _ _) (pk [1]) ?_;rintro _ _ (⟨h1,rfl,rfl⟩ | ⟨h1,rfl,rfl⟩)
 ·obtain⟨i0,i1,i2,i3⟩:=h1;apply gO;refine sd (mP .aa (Ew _ _) (gu (.ao .aa) (tG _ _) rfl ⟨rfl,rfl⟩ (dU rfl (.agg rfl (.ao .aa) (Jm _) kq xC) (.tmp rfl) (ai .h1 rfl ?_))));grind [aR,aQ,bQ,ax]
 ·have i0:=h1;apply gO;refine XO.v (V.build (vs:= #[]) rfl (v:=.agg GV.zero.c9) fun _=>kq) rfl (gO ?_);refine gu (.ao .aa) (tG _ _) rfl ⟨rfl,rfl⟩ (dU rfl (.agg rfl (.ao .aa) (Jm _) kq xC) (.tmp rfl) (ai .h1 rfl ?_));grind [aR,aQ,ax]
def ajb(p o:Nat)(s:TG)(hO:s.Ok)(a:Int):Fn 154 [ay p o 0,iI a] [dl p o s] (ap (.tuple #[iI (s.kI a),ax 102 (s.vx a)]) [dl p o (s.add a)]):=by
 refine Spec.g 45 [0,1,4,5,6,7,8,13,18,23,24,25,29] func154 fun W=> ?_;refine ca (Ke _ _ _ _) .h1 ?_;rintro _ _ (⟨h1,rfl,rfl⟩ | ⟨h1,rfl,rfl⟩)
 obtain⟨i0,i1,i2,i3⟩:=h1;apply gO;refine cq (af6 _ _ _ hO _ ⟨og,og,aq⟩) .h1 ?_;apply (cd)<;>intro h2
 refine fg .h1 ?_;try dsimp only[aR,aQ,bH,bQ]
 have e:=TG.Es (s:=s) (a:=a) aq og;rotate_left
 apply mP .aa (yJ _);refine wl (σ:=Int) (fun k=>(10-k).toNat) (fun k=>(0<=k/\k<=10)/\∀ j:Int,0<=j->j<k->s.aa j=true) (fun k=>[(24,iI k),(0,ay p o 0),(1,iI a),(23,.agg (Sw s.aa 10))]) (fun k=>[dl p o s]) (0) ?_ .h1 ?_
 ·grind
 intro k hk;obtain⟨hk,Dr⟩:=hk;apply gC;apply (cd)<;>intro h3
 ·refine XO.v (s8 rfl rfl underlying149 FU kq og (I2)) rfl (gO ?_);apply (yx)<;>intro h4
  ·try simp only[sb]at h4
   refine sd (st .aa (oT _ _ og _) rfl (XO.v (V.build (vs:= #[(0,iI a),(1,iI (-1)),(2,iI (-1))]) rfl (v:=.agg (GV.c9 ⟨a,-1,-1,0,0⟩)) fun _=>kq) rfl (gO ?_)));refine sd (gu .aa (Bz _ _ og _) rfl ⟨rfl,rfl⟩ (bC rfl rfl rfl (ai .h1 rfl ?_)));obtain⟨e1,e2,e3⟩:=TG.Et (s:=s) (a:=a) (k:=k) aq og hk.1 og jw Dr;rw[e1,e2,e3];exact⟨rfl,rfl⟩
  ·try simp only[sb]at h4
   refine sd (wn (k+1) ?_ ?_ .h1);all_goals grind
 refine fg .h1 ?_;try dsimp only[aR,aQ,bH,bQ]
 have e:=TG.WN (s:=s) (a:=a) aq og fun j h1 h2=>Dr j h1 og;rotate_left
 have i0:=h1;apply gO;refine fg .h1 ?_;try dsimp only[aR,aQ,bH,bQ]
 have e:=TG.Ji (s:=s) aq;rotate_left;all_goals rw[(TG.tF og).1,(TG.tF og).2];grind [ax]
def YN(p o:Nat)(s:TG)(n:Int):Fn 156 [ay p o 0,iI n] [dl p o s] (ap (ax 102 (s.dP n)) [dl p o (s.eh n)]):=by
 refine Spec.g 70 [0,1,4,5,6,7,12,35,40,41,42,56] func156 fun W=> ?_;refine ca (Ke _ _ _ _) .h1 ?_;rintro _ _ (⟨h1,rfl,rfl⟩ | ⟨h1,rfl,rfl⟩)
 obtain⟨i0,i1,i2,i3⟩:=h1;apply gO;apply UV 16<;>intro h2;rotate_left
 refine sd (ld .aa (fV _ _) ?_);apply UV 26<;>intro h3;rotate_left
 refine sd (ld .aa (fW _ _) ?_);apply (cd)<;>intro h4;rotate_left
 ·apply mP .aa (yJ _);refine wl (σ:=Int) (fun k=>(10-k).toNat) (fun k=>(0<=k/\k<=10)/\∀ j:Int,0<=j->j<k->¬(s.aa j=true/\s.aA j=n)) (fun k=>[(41,iI k),(0,ay p o 0),(1,iI n),(40,.agg (Sw s.aa 10))]) (fun k=>[dl p o s]) (0) ?_ .h1 ?_
  ·grind
  intro k hk;obtain⟨hk,Dr⟩:=hk;apply gC;apply (cd)<;>intro h5
  ·refine XO.v (s8 rfl rfl underlying149 FU kq og (I2)) rfl (gO ?_);refine SG 46 rfl ?_ ?_<;>intro h6
   ·try simp only[sb]at h6
    refine sd (ld .aa (gF _ _) ?_);apply (cd)<;>intro h7
    ·refine bL .h1 ?_;have hkn:=TG.QV (s:=s) (n:=n) hk.1 og jw jw;have e:s.dP n=5:=by unfold TG.dP;rw[if_neg og,if_pos (Or.inr (Or.inr (Or.inr hkn)))]
     exact⟨by rw[e]<;>rfl,by unfold TG.eh;rw[if_neg og]⟩
    ·refine sd (wn (k+1) ?_ ?_ .h1);all_goals grind
   ·try simp only[sb]at h6
    refine sd (wn (k+1) ?_ ?_ .h1);all_goals grind
  ·refine sd (st .aa (oT _ _ og _) rfl (XO.v (V.build (vs:= #[]) rfl (v:=.agg GV.zero.c9) fun _=>kq) rfl (gO ?_)));refine sd (gu .aa (Bz _ _ og _) rfl ⟨rfl,rfl⟩ (aO rfl rfl (ai .h1 rfl ?_)));have hkn:=TG.aa3 (s:=s) (n:=n) fun j h1 h2=>Dr j h1 og;have e:s.dP n=0:=by unfold TG.dP;rw[if_neg og,if_neg (by rw[hkn];simp;omega)]
   exact⟨by rw[e]<;>rfl,by unfold TG.eh;rw[if_pos e];rfl⟩
 ·have i0:=h1;apply gO;refine bL .h1 ?_;try dsimp only[aR,aQ,bH,bQ]
  have e:s.dP n=s.cQ n:=by unfold TG.dP;rw[if_pos aq]
  exact⟨by rw[e,aL _ aq],by unfold TG.eh;rw[if_neg og]⟩
 all_goals
  refine bL .h1 ?_;have e:s.dP n=5:=by unfold TG.dP;rw[if_neg og,if_pos og]
  exact⟨by rw[e]<;>rfl,by unfold TG.eh;rw[if_neg og]⟩
def ajc:Fn 95 [] [] (fun v H1=>∃ p,v=ay p 0 0/\H1=[dl p 0 TG.cR]):=by
 refine Spec.g 14 [0,1] func95 fun W=> ?_;refine XO.v (V.build (vs:= #[]) rfl (v:=.agg #[iI 0,iI 0,iI 0,iI 0,iI 0,iI 0,iI 0,iI 0,iI 0,iI 0,iI 0,iI 0,iI 0,iI 0,iI 0,iI 0,iI 0,iI 0,iI 0,iI 0,iI 0,iI 0,iI 0,iI 0,iI 0,iI 0,iI 0,iI 0,iI 0,iI 0,iI 0,iI 0,iI 0,iI 0,iI 0,iI 0,iI 0,iI 0,iI 0,iI 0,iI 0,iI 0,iI 0,iI 0,iI 0,iI 0,iI 0,iI 0,iI 0,iI 0,.bool false,.bool false,.bool false,.bool false,.bool false,.bool false,.bool false,.bool false,.bool false,.bool false]) fun _=>kq) rfl (gO ?_);refine XO.box (m:=60) (C:=bJ TG.dR) rfl rfl aix rfl ?_;intro p;apply gO;refine sd (st .aa (oT _ _ og _) rfl (XO.v (V.build (vs:= #[(0,iI (-1)),(1,iI (-1)),(2,iI (-1))]) rfl (v:=.agg (GV.c9 ⟨-1,-1,-1,0,0⟩)) fun _=>kq) rfl (gO ?_)));refine sd (gu .aa (Bz _ _ og _) rfl ⟨rfl,rfl⟩ (aO rfl rfl (ai .h1 rfl ?_)));exact⟨_,rfl,rfl⟩
end Go.X.Gr

namespace Go.X.Fa
open Go Go.Proofs Go.X
def YP:fE Tryz.prog 254=some 2:=kq
def PJ(k i k2 i2:Int):Fn 243 [.agg #[.int .u64 (k),iI (i)],.agg #[.int .u64 (k2),iI (i2)]] [] (ap (.bool (decide (Cz k i k2 i2))) []):=by
 refine Spec.g 24 [2,3,4] func243 fun W=> ?_;refine XO.box (m:=2) (C:=r8 k i) rfl rfl (Bi _ _) rfl ?_;intro ba;apply gO;refine XO.box (m:=2) (C:=r8 k2 i2) rfl rfl (Bi _ _) rfl ?_;intro bc;apply gO;refine ld (.ao .aa) (wJ _ _) ?_;refine ld .aa (wJ _ _) ?_;apply UV 10<;>intro h1
 ·refine bL .nil ?_;grind [aR,aQ,bQ,Cz]
 ·refine ld (.ao .aa) (wJ _ _) ?_;refine ld .aa (wJ _ _) ?_;apply UV 16<;>intro h2
  ·refine ld (.ao .aa) (zC _ _) ?_;refine ld .aa (zC _ _) ?_;refine bL .nil ?_;grind [aR,aQ,Cz]
  ·refine bL .nil ?_;grind [aR,aQ,bQ,Cz]
def FV(b o g cap:Nat)(s:QS)(i k id:Int)(hi:0<=i/\i<s.n:=by omega)(hd:0<=id/\id<64:=by omega)(hn:s.n<=1000:=by omega):Fn 224 [ay b o 0,iI i,.agg #[.int .u64 (k),iI (id)]] [f5 b o (s) (some ⟨g,0,none⟩) cap,aN (some ⟨g,0,none⟩) cap 254 2 (s).n (iP (s))] (ap (.tuple #[]) [f5 b o (s.set i k id) (some ⟨g,0,none⟩) cap,aN (some ⟨g,0,none⟩) cap 254 2 (s.set i k id).n (iP (s.set i k id))]):=by
 refine Spec.g 21 [0,1,5] func224 fun W=> ?_;refine XO.box (m:=2) (C:=r8 k id) rfl rfl (Bi _ _) rfl ?_;intro bx;apply gO;refine rq [0,1,2,3,4,5,6,7] mixed ?_;refine ld (.ao .aa) (je _ _ _) ?_;refine mP .aa (kS _ _) ?_;apply (sd);refine akO (.t2 .aa) (Wd _ _ _ _ _ og) rfl ⟨rfl,rfl⟩ ?_;refine rq [0,1,2,3,4,5,6,7,8] mixed ?_;refine ld .aa (zC _ _) ?_;apply (sd);apply (sd);refine st (.ao .aa) (Ei _ _ _ _ _ og) rfl ?_;refine dy rfl (ai (pk [1,1]) rfl ?_);exact⟨rfl,rfl⟩
def ajd(b o g cap:Nat)(s:QS)(i:Int)(hi:0<=i/\i<s.n)(hR:s.ZY)(hn:s.n<=1000:=by omega):Fn 223 [ay b o 0,iI i] [f5 b o (s) (some ⟨g,0,none⟩) cap,aN (some ⟨g,0,none⟩) cap 254 2 (s).n (iP (s))] (ap (.tuple #[]) [f5 b o (s.up i) (some ⟨g,0,none⟩) cap,aN (some ⟨g,0,none⟩) cap 254 2 (s.up i).n (iP (s.up i))]):=by
 obtain⟨r1,r2⟩:=hR i hi.1 hi.2;refine Spec.g 46 [0,1,4,26] func223 fun W=> ?_;refine ld .aa (je _ _ _) ?_;apply (sd);refine rX (.ao .aa) (lu _ _ _) ?_;refine XO.bP (z:=.agg #[.int .u64 0,iI 0]) (m:=2) (C:=cellsOf #[.int .u64 0,iI 0]) (fun _ _=>rfl) ?_;intro bx;apply gO;refine gu .aa (Bj _ _) rfl ⟨rfl,rfl⟩ ?_;refine wl (σ:=QS×Int) (fun x=>x.2.toNat) (fun x=>x.1.n=s.n/\(0<=x.2/\x.2<s.n)/\x.1.ZY/\QS.Ge x.2.toNat x.1 x.2 (s.K i) (s.I i)=s.up i) (fun x=>[(1,iI x.2),(0,ay b o 0),(4,ay bx 0 0)]) (fun x=>[.cells bx 0 2 (r8 (s.K i) (s.I i)),f5 b o (x.1) (some ⟨g,0,none⟩) cap,aN (some ⟨g,0,none⟩) cap 254 2 (x.1).n (iP (x.1))]) ((s,i)) ?_ (pz 3) ?_
 ·exact⟨rfl,hi,hR,rfl⟩
 intro x hx;obtain⟨xn,xi,xR,xu⟩:=hx;apply gC;refine rq [0,1,2,3,4,5,6,7,8,9,10,11,12,13,14] mixed ?_;apply UV 14<;>intro h1
 have KH:0<=((x.2-1)/2)/\((x.2-1)/2)<x.1.n:=og;have hpr:=xR ((x.2-1)/2) KH.1 KH.2;refine mP .aa (kS _ _) ?_;refine ld (.ao .aa) (je _ _ _) ?_;apply (sd);refine XO.v (V.quo rfl rfl uY _ (u7)) rfl (gO ?_);apply (sd);refine rX (.t2 .aa) (lu _ _ _) ?_;refine cq (PJ _ _ _ _) .nil ?_;apply (cd)<;>intro h2
 ·have pf:QS.Ge x.2.toNat x.1 x.2 (s.K i) (s.I i)=QS.Ge (((x.2-1)/2)).toNat (x.1.set x.2 (x.1.K ((x.2-1)/2)) (x.1.I ((x.2-1)/2))) ((x.2-1)/2) (s.K i) (s.I i):=Ls og h2;refine ld (.ao .aa) (je _ _ _) ?_;apply (sd);refine XO.v (V.quo rfl rfl uY _ (u7)) rfl (gO ?_);apply (sd);refine rX (.t2 .aa) (lu _ _ _) ?_;refine cq (FV _ _ _ _ _ _ _ _) (pk [1,1]) ?_;apply (sd);refine XO.v (V.quo rfl rfl uY _ (u7)) rfl (gO ?_);refine wn ((x.1.set x.2 (x.1.K ((x.2-1)/2)) (x.1.I ((x.2-1)/2)),((x.2-1)/2))) ?_ ?_ (pk [2,0,0]);all_goals grind [QS.ZY.set,QS.set]
 have pf:QS.Ge x.2.toNat x.1 x.2 (s.K i) (s.I i)=x.1.set x.2 (s.K i) (s.I i):=CC fun q=>h2 q.2;rotate_left
 have pf:QS.Ge x.2.toNat x.1 x.2 (s.K i) (s.I i)=x.1.set x.2 (s.K i) (s.I i):=CC fun q=>og;rotate_left;all_goals rw[pf]at xu;refine mP .aa (kS _ _) ?_;refine cq (FV _ _ _ _ _ _ _ _) (pk [1,1]) ?_;refine dy rfl (ai (pz 2) rfl ?_);simp_all
def aga(b o g cap:Nat)(s:QS)(i:Int)(hi:0<=i/\i<s.n)(hR:s.ZY)(hn:s.n<=1000):Fn 225 [ay b o 0,iI i] [f5 b o (s) (some ⟨g,0,none⟩) cap,aN (some ⟨g,0,none⟩) cap 254 2 (s).n (iP (s))] (ap (.tuple #[]) [f5 b o (s.down i) (some ⟨g,0,none⟩) cap,aN (some ⟨g,0,none⟩) cap 254 2 (s.down i).n (iP (s.down i))]):=by
 obtain⟨r1,r2⟩:=hR i hi.1 hi.2;refine Spec.go 78 [0,1,4,5,41,62] [(2,1)] func225 fun W=> ?_;refine ld .aa (je _ _ _) ?_;apply (sd);refine rX (.ao .aa) (lu _ _ _) ?_;refine XO.bP (z:=.agg #[.int .u64 0,iI 0]) (m:=2) (C:=cellsOf #[.int .u64 0,iI 0]) (fun _ _=>rfl) ?_;intro bx;apply gO;refine gu .aa (Bj _ _) rfl ⟨rfl,rfl⟩ ?_;refine wl (σ:=QS×Int) (fun x=>s.n-x.2.toNat) (fun x=>x.1.n=s.n/\(0<=x.2/\x.2<s.n)/\x.1.ZY/\QS.lG (x.1.n-x.2.toNat) x.1 x.2 (s.K i) (s.I i)=s.down i) (fun x=>[(1,iI x.2),(0,ay b o 0),(4,ay bx 0 0)]) (fun x=>[.cells bx 0 2 (r8 (s.K i) (s.I i)),f5 b o (x.1) (some ⟨g,0,none⟩) cap,aN (some ⟨g,0,none⟩) cap 254 2 (x.1).n (iP (x.1))]) ((s,i)) ?_ (pz 3) ?_
 ·grind [QS.down]
 intro x hx;obtain⟨xn,xi,xR,xu⟩:=hx;apply gC;apply (sd);apply (sd);refine ct [(0,ay b o 0),(1,iI x.2),(4,ay bx 0 0),(5,iI (x.1.aW x.2))] (XM W (cx [f5 b o (s) (some ⟨g,0,none⟩) cap,aN (some ⟨g,0,none⟩) cap 254 2 (s).n (iP (s))]) [.cells bx 0 2 (r8 (s.K i) (s.I i)),f5 b o (x.1) (some ⟨g,0,none⟩) cap,aN (some ⟨g,0,none⟩) cap 254 2 (x.1).n (iP (x.1))]) ?_ ?_
 refine rq [0,1,2,3,4,5,6,7,8,9,10,11,12,13,14,15,16,17,18,19,20,21,22,23,24,25] mixed ?_;apply (sd);refine ld (.ao .aa) (je _ _ _) ?_;apply UV 24<;>intro h1
 refine ld (.ao .aa) (je _ _ _) ?_;apply (sd);apply (sd);refine rX (.t2 .aa) (lu _ _ _) ?_;refine ld (.ao .aa) (je _ _ _) ?_;apply (sd);refine rX (.t2 .aa) (lu _ _ _) ?_;refine cq (PJ _ _ _ _) .nil ?_;apply (cd)<;>intro h2
 have hc:2*x.2+1+1=(x.1.aW x.2):=by unfold QS.aW;rw[if_pos ⟨og,h2⟩]
 apply (sd);rotate_left
 have hc:2*x.2+1=(x.1.aW x.2):=by unfold QS.aW;rw[if_neg fun q=>h2 q.2]
 rotate_left
 have hc:2*x.2+1=(x.1.aW x.2):=by unfold QS.aW;rw[if_neg fun q=>og]
 rotate_left
 have hcc:x.2<(x.1.aW x.2):=by rcases x.1.iO x.2 with⟨e,_⟩ | ⟨e,_⟩<;>omega
 have hpr:=xR (x.1.aW x.2) og;have hcu:(x.1.aW x.2)<=2*x.2+2:=by rcases x.1.iO x.2 with⟨e,_⟩ | ⟨e,_⟩<;>omega
 apply gC;refine rq [0,1,2,3,4,5,6,7,8,9,10,11,12,13,14,15,16,17,18] mixed ?_;refine ld (.ao .aa) (je _ _ _) ?_;apply UV 51<;>intro h3
 have pf:QS.lG (x.1.n-x.2.toNat) x.1 x.2 (s.K i) (s.I i)=x.1.set x.2 (s.K i) (s.I i):=xU fun q=>og;rotate_left
 have hpr:=hpr og;refine ld (.ao .aa) (je _ _ _) ?_;apply (sd);refine rX (.t2 .aa) (lu _ _ _) ?_;refine mP .aa (kS _ _) ?_;refine cq (PJ _ _ _ _) .nil ?_;apply (cd)<;>intro h4
 have pf:QS.lG (x.1.n-x.2.toNat) x.1 x.2 (s.K i) (s.I i)=x.1.set x.2 (s.K i) (s.I i):=xU fun q=>h4 q.2;rotate_left
 ·have pf:=Gv (s:=x.1) (k:=s.K i) (id:=s.I i) xi.1 og og (Decidable.not_not.mp h4);refine ld (.ao .aa) (je _ _ _) ?_;apply (sd);refine rX (.t2 .aa) (lu _ _ _) ?_;refine cq (FV _ _ _ _ _ _ _ _) (pk [1,1]) ?_;refine wn ((x.1.set x.2 (x.1.K (x.1.aW x.2)) (x.1.I (x.1.aW x.2)),(x.1.aW x.2))) ?_ ?_ (pk [2,0,0]);all_goals grind [QS.ZY.set,QS.set]
 all_goals first | (rw[pf]at xu;refine mP .aa (kS _ _) ?_;refine cq (FV _ _ _ _ _ _ _ _) (pk [1,1]) ?_;refine dy rfl (ai (pz 2) rfl ?_);simp_all) | (refine mt (S4 rfl rfl rfl (Gn hc)) (xq (pz 3)))
def ad9(b o cap:Nat)(p:Option Addr)(s:QS)(hO:s.Ok)(id iZ:Int):Fn 188 [ay b o 0,iI id,.int .u64 iZ] [f5 b o (s) p cap,aN p cap 254 2 (s).n (iP (s))] (fun v H1=>∃ p1 c1,v=ax 102 (s.put id iZ).1/\H1=[f5 b o ((s.put id iZ).2) p1 c1,aN p1 c1 254 2 ((s.put id iZ).2).n (iP ((s.put id iZ).2))]):=by
 refine Spec.g 42 [0,1,2,6,12,20] func188 fun W=> ?_;apply UV 9<;>intro h1
 ·refine bL (pz 2) ?_;simp_all[aR,aQ,bQ,QS.r9,ax]
 ·apply (cd)<;>intro h2
  ·refine bL (pz 2) ?_;rw[QS.r9 og];exact⟨_,_,rfl,rfl⟩
  ·apply (sd);refine ld .aa (zB _ _ _ _) ?_;apply (cd)<;>intro h3
   ·refine bL (pz 2) ?_;rw[QS.wK og og];exact⟨_,_,rfl,rfl⟩
   ·have ZX:=hO.N9 id og og;have mM:=hO.room (id:=id) og og;refine ld .aa (je _ _ _) ?_;refine XO.v (V.build (vs:= #[(0,.int .u64 iZ),(1,iI id)]) rfl (v:=.agg #[.int .u64 iZ,iI id]) fun _=>kq) rfl (gO ?_);refine XO.buildSlice (e:=254) (vs:= #[(0,.agg #[.int .u64 iZ,iI id])]) (A:= #[.int .u64 iZ,iI id]) rfl (fun _=>kq) rfl rfl ?_;intro h4;apply gO;refine yq (e:=254) (C2:=iP (s.lq iZ id)) rfl rfl underlying183 kq (.ao (.ao .aa)) .aa rfl rfl og og (SR s iZ id) rfl ?_;intro p1 c1;apply gO;refine st (.t2 .aa) (We s _ _ _ _ iZ id) rfl ?_;refine bV .aa og ?_;intro g1 h5;subst h5;have hn1:(s.lq iZ id).n=s.n+1:=rfl;have hR:(s.lq iZ id).ZY:=fun j j0 j1=>by
     show 0<=ad s.I s.n id j/\ad s.I s.n id j<64;unfold ad;split
     ·omega
     ·exact hO.jV j j0 og
    refine ld (.t2 .aa) (show 0+0<65/\ie (s.lq iZ id) _ _ (0+0)= .slice _ (s.n+1) _ from⟨og,rfl⟩) ?_;refine oV ?_;refine XO.v (V.sub rfl rfl (s.n:Int) (by rw[show((s.n+1:Nat):Int)-1=s.n from og];exact IntWalk.i64_in _ og)) rfl (gO ?_);refine cq (ajd _ _ _ _ (s.lq iZ id) _ og hR) (pk [2,0]) ?_;refine bL (pz 2) ?_;rw[QS.vi og og];exact⟨_,_,rfl,rfl⟩
def aea(b o cap:Nat)(p:Option Addr)(s:QS)(hO:s.Ok)(hH:s.xJ)(id:Int):Fn 189 [ay b o 0,iI id] [f5 b o (s) p cap,aN p cap 254 2 (s).n (iP (s))] (fun v H1=>∃ p1 c1,v= .tuple #[.int .u64 (s.cut id).1,ax 102 (s.cut id).2.1]/\H1=[f5 b o ((s.cut id).2.2) p1 c1,aN p1 c1 254 2 ((s.cut id).2.2).n (iP ((s.cut id).2.2))]):=by
 refine Spec.g 83 [0,1,4,5,6,7,8,9,15,25,64] func189 fun W=> ?_;apply UV 12<;>intro h1
 ·refine fg (pz 2) ?_;simp_all[aR,aQ,bQ,tm,ax]
 ·apply (cd)<;>intro h2
  ·refine fg (pz 2) ?_;rw[tm og];exact⟨_,_,rfl,rfl⟩
  ·have ZX:=hO.N9 id og og;have alT:=hO.n64;apply (sd);refine ld .aa (zB _ _ _ _) ?_;apply (sd);apply (cd)<;>intro h3
   ·refine fg (pz 2) ?_;rw[CD og og];exact⟨_,_,rfl,rfl⟩
   ·refine bV (.ao .aa) og ?_;intro g1 h4;subst h4;refine ld .aa (je _ _ _) ?_;apply (sd);refine ldF (.ao .aa) (Ej _ _ _) ?_;refine ld .aa (je _ _ _) ?_;apply (sd);refine ld .aa (je _ _ _) ?_;apply (sd);refine rX (.ao .aa) (lu _ _ _) ?_;refine XO.bP (z:=.agg #[.int .u64 0,iI 0]) (m:=2) (C:=cellsOf #[.int .u64 0,iI 0]) (fun _ _=>rfl) ?_;intro bx;apply gO;refine gu .aa (Bj _ _) rfl ⟨rfl,rfl⟩ ?_;refine rW (.t2 .aa) ?_;intro I5;refine ld (.ao .aa) (je _ _ _) ?_;refine XO.VH (k2:=s.n-1) (C':=iP (s.fH id)) rfl rfl underlying183 YP og og I5 (fun _ _=>rfl) (.t2 .aa) rfl (gO ?_);refine st (.ao .aa) (Hn _ _ _ _ _ _) rfl ?_;apply (sd);refine st (.ao .aa) (Wf s _ _ id og) rfl ?_;apply (cd)<;>intro h5
    ·have hn1:(s.fH id).n=s.n-1:=rfl;obtain⟨m1,m2,m3,q,m4,_,m5⟩:=hO.mid hH (xk:=s.K ((s.n:Int)-1)) (id:=id) og og rfl rfl og;have hr9:=hO.jV ((s.n:Int)-1) og og;have m6:(((s.fH id).set (s.at_ id-1) (s.K ((s.n:Int)-1)) (s.I ((s.n:Int)-1))).down (s.at_ id-1)).n=((s.fH id).set (s.at_ id-1) (s.K ((s.n:Int)-1)) (s.I ((s.n:Int)-1))).n:=SU _ _;have m7:((s.fH id).set (s.at_ id-1) (s.K ((s.n:Int)-1)) (s.I ((s.n:Int)-1))).n=s.n-1:=rfl;refine mP .aa (kS _ _) ?_;refine cq (FV _ _ _ _ (s.fH id) _ _ _) (pk [1,1]) ?_;refine cq (aga _ _ _ _ ((s.fH id).set (s.at_ id-1) (s.K ((s.n:Int)-1)) (s.I ((s.n:Int)-1))) _ og (fun j j0 j1=>m1.jV j j0 j1) og) (pz 2) ?_;refine rq [0,1,2,3,4,5,6,7,8,9] mixed ?_;refine ld (.t2 .aa) (zC _ _) ?_;apply (sd);refine ld .aa (zB _ _ _ _) ?_;apply (sd);refine cq (ajd _ _ _ _ (((s.fH id).set (s.at_ id-1) (s.K ((s.n:Int)-1)) (s.I ((s.n:Int)-1))).down (s.at_ id-1)) _ og fun j j0 j1=>m2.jV j j0 j1) (pz 2) ?_;refine fg (pz 2) ?_;rw[vj];unfold QS.xQ;rw[if_pos og];exact⟨_,_,rfl,rfl⟩
    ·refine bC rfl rfl rfl (ai (pk [1,1]) rfl ?_);rw[vj];unfold QS.xQ;rw[if_neg og];exact⟨_,_,rfl,rfl⟩
def aje(b o cap:Nat)(p:Option Addr)(s:QS)(hO:s.Ok)(id:Int):Fn 186 [ay b o 0,iI id] [f5 b o (s) p cap,aN p cap 254 2 (s).n (iP (s))] (ap (.tuple #[.int .u64 (s.iZ id).1,ax 102 (s.iZ id).2]) [f5 b o (s) p cap,aN p cap 254 2 (s).n (iP (s))]):=by
 refine Spec.g 35 [0,1,4,5,11,19] func186 fun W=> ?_;apply UV 8<;>intro h1;rotate_left
 apply (cd)<;>intro h2;rotate_left
 apply (sd);refine ld .aa (zB _ _ _ _) ?_;apply (cd)<;>intro h3;rotate_left
 have ZX:=hO.N9 id og og;have alT:=hO.n64;refine bV (.ao .aa) og ?_;intro g1 h4;subst h4;refine rq [0,1,2,3,4,5,6,7,8,9,10,11,12,13,14,15] mixed ?_;refine ld .aa (je _ _ _) ?_;apply (sd);refine ld .aa (zB _ _ _ _) ?_;apply (sd);apply (sd);refine ldF (.ao .aa) (Ej _ _ _) ?_;rotate_left;all_goals refine fg (pz 2) ?_;grind [aR,aQ,bQ,QS.iZ,ax]
def RL(b o cap:Nat)(p:Option Addr)(s:QS):Fn 182 [ay b o 0] [f5 b o (s) p cap,aN p cap 254 2 (s).n (iP (s))] (ap (.tuple #[iI s.first.1,.int .u64 s.first.2.1,.bool s.first.2.2]) [f5 b o (s) p cap,aN p cap 254 2 (s).n (iP (s))]):=by
 refine Spec.g 25 [0,2,3,4,10] func182 fun W=> ?_;refine ld .aa (je _ _ _) ?_;apply (cd)<;>intro h1
 ·refine rt3 (pz 2) ?_;grind [aR,aQ,bQ,QS.first]
 ·refine bV (.ao .aa) og ?_;intro g1 h2;subst h2;refine rq [0,1,2,3,4,5,6,7,8,9,10,11,12,13,14,15,16] mixed ?_;refine ld .aa (je _ _ _) ?_;apply (sd);refine ldF (.ao .aa) (aaM _ _ _ og) ?_;refine ld .aa (je _ _ _) ?_;apply (sd);refine ldF (.ao .aa) (Ej _ _ _) ?_;refine rt3 (pz 2) ?_;grind [aR,aQ,bQ,QS.first]
def ajf(b o cap:Nat)(p:Option Addr)(s:QS):Fn 222 [ay b o 0] [f5 b o (s) p cap,aN p cap 254 2 (s).n (iP (s))] (ap (iI (s.n:Int)) [f5 b o (s) p cap,aN p cap 254 2 (s).n (iP (s))]):=by
 refine Spec.g 8 [0,2] func222 fun W=> ?_;refine ld .aa (je _ _ _) ?_;refine bL (pz 2) ?_;grind [aR,aQ]
def xD(b o:Nat)(s:SC)(n:Int):Fn 126 [ay b o 0,iI n] [d6 b o s] (fun v H1=>((s.xL n=0/\0<=n/\n<10/\s.aa n=true)/\v= .tuple #[ay b o (0+0+n.toNat*76),.nilIface]/\H1=[d6 b o s])\/(s.xL n≠0/\v= .tuple #[.pointer none,.iface 102 (iI (s.xL n))]/\H1=[d6 b o s])):=by
 refine Spec.g 27 [0,1,4,5,11,20] func126 fun W=> ?_;apply UV 8<;>intro h1;rotate_left
 apply (cd)<;>intro h2;rotate_left
 ·refine sd (ld .aa (jD _ _) ?_);apply (yx)<;>intro h3
  ·try simp only[sb]at h3
   refine fg .h1 ?_;try dsimp only[aR,aQ,bH,bQ]
   have e:s.xL n=2:=by unfold SF.xL;rw[if_neg og,if_neg jw]
   simp_all
  ·try simp only[sb]at h3
   refine sd (bC rfl rfl rfl (ai .h1 rfl ?_));try dsimp only[aR,aQ,bH,bQ]
   have e:s.xL n=0:=by unfold SF.xL;rw[if_neg og,if_pos jw]
   simp_all
 all_goals
  refine fg .h1 ?_;try dsimp only[aR,aQ,bH,bQ]
  have e:s.xL n=1:=by unfold SF.xL;rw[if_pos og]
  simp_all
def PK(b o:Nat)(s:SC)(n:Int):Fn 127 [ay b o 0,iI n] [d6 b o s] (fun v H1=>((s.zF n=0/\0<=n/\n<20/\s.aa (10+n)=true)/\v= .tuple #[ay b o (0+0+(10+n).toNat*76),.nilIface]/\H1=[d6 b o s])\/(s.zF n≠0/\v= .tuple #[.pointer none,.iface 102 (iI (s.zF n))]/\H1=[d6 b o s])):=by
 refine Spec.g 29 [0,1,4,5,11,21] func127 fun W=> ?_;apply UV 8<;>intro h1;rotate_left
 apply (cd)<;>intro h2;rotate_left
 ·refine sd (sd (ld .aa (jD _ _) ?_));apply (yx)<;>intro h3
  ·try simp only[sb]at h3
   refine fg .h1 ?_;try dsimp only[aR,aQ,bH,bQ]
   have e:s.zF n=2:=by unfold SF.zF;rw[if_neg og,if_neg jw]
   simp_all
  ·try simp only[sb]at h3
   refine sd (sd (bC rfl rfl rfl (ai .h1 rfl ?_)));try dsimp only[aR,aQ,bH,bQ]
   have e:s.zF n=0:=by unfold SF.zF;rw[if_neg og,if_pos jw]
   simp_all
 all_goals
  refine fg .h1 ?_;try dsimp only[aR,aQ,bH,bQ]
  have e:s.zF n=1:=by unfold SF.zF;rw[if_pos og]
  simp_all
def RM(b o:Nat)(s:SC)(hR:s.nt)(hw:∀ i,s.cJ i=true->0<i/\i<30)(n:Int)(hn:0<=n/\n<30):Fn 187 [ay b o 0,iI n] [d6 b o s,.aV cI (s.dI 254)] (ap (.bool (s.toSF.ready n)) [d6 b o s,.aV cI (s.dI 254)]):=by
 have hk:=hR.gK hw hn.1 hn.2;refine Spec.g 47 [0,1,4,5,12] func187 fun W=> ?_;apply (sd);apply (cd)<;>intro h1
 ·apply ld .aa (ux _ _);refine bL (pz 2) ?_;try dsimp only[aR,aQ,bH,bQ]
  exact⟨by unfold SF.ready;rw[if_pos og],rfl⟩
 refine rq [0,1,2,3,4,5,6,7,8,9,10,11,12,13,14,15,16,17,18,19,20,21,22,23,24,25,26,27,28,29,30] mixed ?_;apply XR.mono fun _ bR=>oB (z:=n) og (pz 2) bR;refine ca (ajf _ _ _ _ _) (pz 2) ?_;rintro _ _ ⟨rfl,rfl⟩;apply XO.mono fun _ bR=>tr (z:=n) og (pz 5) bR;apply gO;apply UV 22<;>intro h2
 apply ld .aa (Bo _ _ og);refine SG 29 rfl ?_ ?_<;>intro h3
 try simp only[sb]at h3
 apply ld .aa (lT _ _);apply UV 35<;>intro h4
 ·refine bL (pz 2) ?_;refine⟨congrArg Value.bool ?_,rfl⟩;unfold SF.ready;simp_all
 apply ld .aa (vo _ _);apply ld .aa (lT _ _);rotate_left
 try simp only[sb]at h3
 rotate_left;rotate_left;all_goals refine bL (pz 2) ?_;refine⟨congrArg Value.bool ?_,rfl⟩;unfold SF.ready;grind
def qv(b o:Nat)(s:SC)(d:Int->Nat)(hI:s.toSF.Inv d)(hR:s.nt)(n:Int)(hn:n=0\/(0<n/\n<30/\s.aa n=true)):Fn 128 [ay b o 0,iI n] [d6 b o s,.aV cI (s.dI 254)] (fun v H1=>v= .tuple #[]/\∃ t:SC,t.toSF=s.toSF.look d n/\t.nt/\H1=[d6 b o t,.aV cI (t.dI 254)]):=by
 refine Spec.g 88 [0,4,5,6,8,9,10,13,47,74] func128 fun W=> ?_;refine wl (σ:=SC×Int) (fun x=>if x.2=0 then 0 else d x.2+1) (fun x=>x.1.nt/\x.1.toSF.Inv d/\(x.2=0\/(0<x.2/\x.2<30/\x.1.aa x.2=true))/\∃ k,d x.2+1<=k/\SF.iQ k x.1.toSF x.2=s.toSF.look d n) (fun x=>[(4,iI x.2),(0,ay b o 0)]) (fun x=>[d6 b o x.1,.aV cI (x.1.dI 254)]) ((s,n)) ?_ (pz 2) ?_
 ·exact⟨hR,hI,hn,d n+1,Nat.le_refl _,rfl⟩
 intro x hx;obtain⟨xR,xI,xn,k,hk,xl⟩:=hx;apply gC;apply (cd)<;>intro h1
 ·obtain⟨n0,n1,n2⟩:=xn.resolve_left og;obtain⟨p0,pp1,p2,p3⟩:=xI.up x.2 n0 n1 n2;have xH:=xR.bZ (n:=x.2) ⟨og,n1⟩ ⟨p0,og⟩;obtain⟨k,rfl⟩:∃ k2,k=k2+1:=⟨k-1,og⟩;rw[SF.p9 _ _ n0]at xl;have hw:∀ i,x.1.cJ i=true->0<i/\i<30:=fun i hi=>⟨(xI.cJ i hi).1,(xI.cJ i hi).2.1⟩;have hgq:=xR (x.1.aA x.2) p0 og;have SQ:(x.1.aA x.2)=0\/(0<(x.1.aA x.2)/\(x.1.aA x.2)<30/\x.1.aa (x.1.aA x.2)=true):=by
   grind
  apply (sd);refine rq [0,1,2,3,4,5,6,7,8] mixed ?_;apply ld .aa (fy _ _);apply (sd);apply XR.mono fun _ bR=>oB (z:=(x.1.aA x.2)) og (pz 2) bR;refine ca (aje _ _ _ _ _ hgq.ok _) (pz 2) ?_;rintro _ _ ⟨rfl,rfl⟩;apply XO.mono fun _ bR=>tr (z:=(x.1.aA x.2)) og (pz 5) bR;apply gO;refine rq [0,1,2,3,4,5,6] mixed ?_;refine cq (RM _ _ _ xR hw _ og) (pz 2) ?_;refine SG 49 rfl ?_ ?_<;>intro h2
  ·try simp only[sb]at h2
   have hrd:x.1.toSF.ready x.2=true:=h2;apply (cd)<;>intro h3
   ·have hwf:x.1.cJ x.2=false:=by
     simp_all
    refine rq [0,1,2,3,4,5,6,7,8,9,10,11,12] mixed ?_;apply ld .aa (vm _ _);apply ld .aa (uy _ _);apply st .aa (vn _ _ og _) rfl;refine rq [0,1,2,3,4,5,6,7,8] mixed ?_;apply ld .aa (SX _ _ _ og);apply XR.mono fun _ bR=>oB (z:=(x.1.aA x.2)) og (pz 2) bR;refine ca (ad9 _ _ _ _ _ hgq.ok _ _) (pz 2) ?_;rintro _ _ ⟨p1,c1,rfl,rfl⟩;apply XO.mono fun _ bR=>se (z:=(x.1.aA x.2)) og (pz 5) bR;apply gO;apply (sd);apply ld .aa (fy _ _);refine wn ((⟨{x.1.toSF with v:=ad x.1.v x.2 (max (x.1.v x.2) (x.1.fk (x.1.aA x.2))),cJ:=ad x.1.cJ x.2 true},ad x.1.Q (x.1.aA x.2) ((x.1.Q (x.1.aA x.2)).put x.2 (max (x.1.v x.2) (x.1.fk (x.1.aA x.2)))).2,ad x.1.P (x.1.aA x.2) p1,ad x.1.C (x.1.aA x.2) c1⟩,(x.1.aA x.2))) ?_ ?_ (pz 2)
    ·grind
    ·have e:({x.1.toSF with v:=ad x.1.v x.2 (max (x.1.v x.2) (x.1.fk (x.1.aA x.2))),cJ:=ad x.1.cJ x.2 true} :SF)=x.1.toSF.wM x.2:=by unfold SF.wM;rw[if_pos ⟨hrd,hwf⟩,hrd]
     refine⟨?_,by show SF.Inv _ d;rw[e];exact xI.wM n0 n1 n2,SQ,k,by show d (x.1.aA x.2)+1<=k;omega,by show SF.iQ k _ _=_;rw[e];exact xl⟩;grind [SC.nt.enter,ae,ah]
   ·have hwt:x.1.cJ x.2=true:=by
     simp_all
    refine SG 77 rfl ?_ ?_<;>intro h4
    ·try simp only[sb]at h4
     all_goals(simp_all)
    ·try simp only[sb]at h4
     apply (sd);apply ld .aa (fy _ _);refine wn ((x.1,(x.1.aA x.2))) ?_ ?_ (pz 2);all_goals grind [CF]
  ·try simp only[sb]at h2
   have hrd:x.1.toSF.ready x.2=false:=h2;refine SG 77 rfl ?_ ?_<;>intro h5
   ·try simp only[sb]at h5
    apply (cd)<;>intro h6
    ·have hwt:x.1.cJ x.2=true:=by
      simp_all
     apply XR.mono fun _ bR=>oB (z:=(x.1.aA x.2)) og (pz 2) bR;refine ca (aea _ _ _ _ _ hgq.ok hgq.heap _) (pz 2) ?_;rintro _ _ ⟨p1,c1,rfl,rfl⟩;apply XO.mono fun _ bR=>se (z:=(x.1.aA x.2)) og (pz 5) bR;apply gO;apply (sd);apply ld .aa (fy _ _);refine wn ((⟨{x.1.toSF with cJ:=ad x.1.cJ x.2 false},ad x.1.Q (x.1.aA x.2) ((x.1.Q (x.1.aA x.2)).cut x.2).2.2,ad x.1.P (x.1.aA x.2) p1,ad x.1.C (x.1.aA x.2) c1⟩,(x.1.aA x.2))) ?_ ?_ (pz 2)
     ·grind
     ·have e:({x.1.toSF with cJ:=ad x.1.cJ x.2 false} :SF)=x.1.toSF.wM x.2:=by unfold SF.wM;rw[if_neg (by rw[hrd];simp),hrd,da x.1.v rfl]
      exact⟨xR.fL (n:=x.2) ⟨og,n1⟩ ⟨p0,og⟩ hwt {x.1.toSF with cJ:=ad x.1.cJ x.2 false} rfl (fun i hi=>rfl) rfl _ _,by show SF.Inv _ d;rw[e];exact xI.wM n0 n1 n2,SQ,k,by show d (x.1.aA x.2)+1<=k;omega,by show SF.iQ k _ _=_;rw[e];exact xl⟩
    ·have hwf:x.1.cJ x.2=false:=by
      simp_all
     apply (sd);apply ld .aa (fy _ _);refine wn ((x.1,(x.1.aA x.2))) ?_ ?_ (pz 2);all_goals grind [CF]
   ·try simp only[sb]at h5
    all_goals(simp_all)
 ·refine dy rfl (ai (pz 2) rfl ?_);refine⟨rfl,x.1,?_,xR,rfl⟩;have q8:x.2=0:=by
   omega
  rw[q8,SF.nK _ _ og]at xl;omega
def YQ(b o:Nat)(s:SC)(d:Int->Nat)(hI:s.toSF.Inv d)(hR:s.nt)(B:Int)(hB:0<=B/\B<=1000000000000000)(hS:s.toSF.cb B)(n:Int)(hn:0<n/\n<30/\s.aa n=true)(hwn:s.cJ n=true):Fn 183 [ay b o 0,iI n] [d6 b o s,.aV cI (s.dI 254)] (fun v H1=>v= .tuple #[]/\∃ t:SC,t.toSF=s.toSF.Bl n/\t.nt/\H1=[d6 b o t,.aV cI (t.dI 254)]):=by
 obtain⟨n0,n1,n2⟩:=hn;obtain⟨p0,pp1,p2,p3⟩:=hI.up n n0 n1 n2;have hgq:=hR (s.aA n) p0 og;obtain⟨ia,C7⟩:=hR.alm (n:=n) ⟨og,n1⟩ ⟨p0,og⟩ hwn;have hsn:=hS n og n1;have hsg:=hS (s.aA n) p0 og;have hwt:=hI.wt n og n1 n2;have SQ:s.aA n≠n:=fun e=>by rw[e]at p3;omega
 have UD:0<=1048576/s.wt n/\1048576/s.wt n<=1048576:=⟨Int.ediv_nonneg og og,Int.ediv_le_self _ og⟩;have KY:∀ i,ad s.cJ n false i=true->0<i/\i<30:=fun i hi=>by
  by_cases c:i=n
  ·omega
  ·rw[ae _ _ c]at hi;exact⟨(hI.cJ i hi).1,(hI.cJ i hi).2.1⟩
 refine Spec.go 82 [0,1,4,5,6,7,30,62,72] [(7,1)] func183 fun W=> ?_;apply (sd);refine rq [0,1,2,3,4,5,6,7,8] mixed ?_;apply ld .aa (fy _ _);apply (sd);apply XR.mono fun _ bR=>oB (z:=(s.aA n)) og (pz 2) bR;refine ca (aea _ _ _ _ _ hgq.ok hgq.heap _) (pz 2) ?_;rintro _ _ ⟨p1,c1,rfl,rfl⟩;rw[ia];have hRm:SC.nt (⟨{s.toSF.oO n with cJ:=ad s.cJ n false},ad s.Q (s.aA n) ((s.Q (s.aA n)).cut n).2.2,ad s.P (s.aA n) p1,ad s.C (s.aA n) c1⟩:SC):=hR.fL (n:=n) ⟨og,n1⟩ ⟨p0,og⟩ hwn {s.toSF.oO n with cJ:=ad s.cJ n false} rfl (fun i hi=>ae _ _ hi) rfl _ _;have hgm:=hRm (s.aA n) p0 og;apply XO.mono fun _ bR=>se (z:=(s.aA n)) og (pz 5) bR;apply XO.mono fun _ bR=>QG (ad s.cJ n false) (pz 2) bR;apply gO;apply KJ rfl (by rw[C7];simp);refine ld .aa (show _/\_=Value.int .u64 (s.fk (s.aA n))from uy _ _) ?_;apply st .aa (Dc _ _ og _) rfl;refine ld .aa (show _/\_=Value.int .i64 (s.wt n)from Bn _ _ og) ?_;refine XO.v (V.quo rfl rfl uY _ (u7)) rfl (gO ?_);refine XO.v (nI rfl underlying3 underlying29 _ (IntWalk.u64_in _ og)) rfl (gO ?_);refine XO.v (V.add rfl rfl _ (IntWalk.u64_in _ og)) rfl (gO ?_);apply st .aa (vn _ _ og _) rfl;refine ld .aa (show _/\_=Value.int .i64 (s.wL n)from Gw _ _ og) ?_;apply (sd);apply st .aa (Gx _ _ og _) rfl;apply ct [(0,ay b o 0),(1,iI n),(4,ay b o (0+0+n.toNat*76)),(5,ay b o (0+0+(s.aA n).toNat*76))] (XM W (cx [d6 b o s,.aV cI (s.dI 254)]) [d6 b o (⟨{s.toSF.oO n with cJ:=ad s.cJ n false},ad s.Q (s.aA n) ((s.Q (s.aA n)).cut n).2.2,ad s.P (s.aA n) p1,ad s.C (s.aA n) c1⟩:SC),.aV cI (SC.dI 254 (⟨{s.toSF.oO n with cJ:=ad s.cJ n false},ad s.Q (s.aA n) ((s.Q (s.aA n)).cut n).2.2,ad s.P (s.aA n) p1,ad s.C (s.aA n) c1⟩:SC))])
 ·refine ld .aa (show _/\_=Value.int .i64 (s.ef n)from lT _ _) ?_;apply (cd)<;>intro h1
  ·have hM:(⟨{s.toSF.oO n with cJ:=ad s.cJ n false},ad s.Q (s.aA n) ((s.Q (s.aA n)).cut n).2.2,ad s.P (s.aA n) p1,ad s.C (s.aA n) c1⟩:SC)=(⟨{s.toSF with fk:=ad s.fk (s.aA n) (max (s.fk (s.aA n)) (s.v n)),v:=ad s.v n (s.v n+1048576/s.wt n),wL:=ad s.wL n (s.wL n+1),ek:=ad s.ek n (s.ek n+1),cJ:=ad s.cJ n false},ad s.Q (s.aA n) ((s.Q (s.aA n)).cut n).2.2,ad s.P (s.aA n) p1,ad s.C (s.aA n) c1⟩:SC):=by unfold SF.oO;rw[if_pos h1]
   refine ld .aa (show _/\_=Value.int .i64 (s.ek n)from vo _ _) ?_;apply (sd);apply st .aa (p8 _ _ og _) rfl;refine mt S4 fun _ mK=>by rw[hM];exact XM.pick (pz 2) mK
  ·have hM:(⟨{s.toSF.oO n with cJ:=ad s.cJ n false},ad s.Q (s.aA n) ((s.Q (s.aA n)).cut n).2.2,ad s.P (s.aA n) p1,ad s.C (s.aA n) c1⟩:SC)=(⟨{s.toSF with fk:=ad s.fk (s.aA n) (max (s.fk (s.aA n)) (s.v n)),v:=ad s.v n (s.v n+1048576/s.wt n),wL:=ad s.wL n (s.wL n+1),ek:=s.ek,cJ:=ad s.cJ n false},ad s.Q (s.aA n) ((s.Q (s.aA n)).cut n).2.2,ad s.P (s.aA n) p1,ad s.C (s.aA n) c1⟩:SC):=by unfold SF.oO;rw[if_neg h1]
   refine mt S4 fun _ mK=>by rw[hM];exact XM.pick (pz 2) mK
 have hrr:SF.ready {s.toSF.oO n with cJ:=ad s.cJ n false} n=(s.toSF.oO n).ready n:=SF.Bs (s:=s.toSF.oO n) SQ false;apply gC;refine cq (RM b o (⟨{s.toSF.oO n with cJ:=ad s.cJ n false},ad s.Q (s.aA n) ((s.Q (s.aA n)).cut n).2.2,ad s.P (s.aA n) p1,ad s.C (s.aA n) c1⟩:SC) hRm KY n ⟨og,n1⟩) (pz 2) ?_;apply (yx)<;>intro h2
 ·try simp only[sb]at h2
  refine rq [0,1,2,3,4,5,6,7,8] mixed ?_;apply ld .aa (show _/\_=Value.int .u64 (s.v n+1048576/s.wt n)from⟨og,(vm (⟨{s.toSF.oO n with cJ:=ad s.cJ n false},ad s.Q (s.aA n) ((s.Q (s.aA n)).cut n).2.2,ad s.P (s.aA n) p1,ad s.C (s.aA n) c1⟩:SC) n).2.trans (congrArg (Value.int .u64) (ah s.v n (s.v n+1048576/s.wt n)))⟩);apply XR.mono fun _ bR=>oB (z:=(s.aA n)) og (pz 2) bR;refine ca (ad9 _ _ _ _ _ hgm.ok _ _) (pz 2) ?_;rintro _ _ ⟨p2,c2,rfl,rfl⟩;apply XO.mono fun _ bR=>se (z:=(s.aA n)) og (pz 5) bR;apply XO.mono fun _ bR=>QG (ad s.cJ n true) (pz 2) bR;apply gO;refine dy rfl (ai (pz 2) rfl ?_);refine⟨rfl,_,?_,?_,rfl⟩
  ·have h9:SF.ready {s.toSF.oO n with cJ:=ad s.cJ n false} n=true:=aq;rw[hrr]at h9;show _=s.toSF.Bl n;unfold SF.Bl;rw[h9]
  ·have alU:s.aA n<30:=og;have:=hRm.enter (n:=n) ⟨og,n1⟩ ⟨p0,alU⟩ (ah _ _ _) {s.toSF.oO n with cJ:=ad s.cJ n true} (by funext i;show ad s.cJ n true i=ad (ad s.cJ n false) n true i;unfold ad;split<;>rfl) (fun i hi=>rfl) rfl (s.v n+1048576/s.wt n) (ah _ _ _) (ad (ad s.P (s.aA n) p1) (s.aA n) p2) (ad (ad s.C (s.aA n) c1) (s.aA n) c2);exact this
 ·try simp only[sb]at h2
  refine dy rfl (ai (pz 2) rfl ?_);refine⟨rfl,(⟨{s.toSF.oO n with cJ:=ad s.cJ n false},ad s.Q (s.aA n) ((s.Q (s.aA n)).cut n).2.2,ad s.P (s.aA n) p1,ad s.C (s.aA n) c1⟩:SC),?_,hRm,rfl⟩;have h9:SF.ready {s.toSF.oO n with cJ:=ad s.cJ n false} n=false:=aq;rw[hrr]at h9;show _=s.toSF.Bl n;unfold SF.Bl;rw[h9]
def sR:fE Tryz.prog 187=some 76:=kq
def Kh(b o:Nat)(s:SC)(d:Int->Nat)(hI:s.toSF.Inv d)(hR:s.nt)(n:Int)(on:Bool):Fn 61 [ay b o 0,iI n,.bool on] [d6 b o s,.aV cI (s.dI 254)] (fun v H1=>v=ax 102 (s.zF n)/\∃ t:SC,t.toSF=s.toSF.gN d n on/\t.nt/\H1=[d6 b o t,.aV cI (t.dI 254)]):=by
 refine Spec.g 26 [0,1,2,6,7,8,16] func61 fun W=> ?_;refine ca (PK _ _ _ _) .h1 ?_;rintro _ _ (⟨h1,rfl,rfl⟩ | ⟨h1,rfl,rfl⟩)
 ·obtain⟨i0,i1,i2,i3⟩:=h1;apply gO;refine st .aa (lS _ _ og _) rfl (sd ?_);refine ca (qv _ _ {s with di:=ad s.di (10+n) on} d ⟨hI.h0,hI.up,hI.cJ,hI.quo,hI.wt⟩ hR _ (.inr ⟨og,og,i3⟩)) (pz 2) ?_;rintro _ _ ⟨rfl,t,tl,tR,rfl⟩;apply gO;refine bL (pz 2) ?_;exact⟨by rw[i0];rfl,t,by rw[tl];unfold SF.gN;rw[if_pos i0],tR,rfl⟩
 ·have i0:=h1;apply gO;refine bL (pz 2) ?_;try dsimp only[aR,aQ,bH,bQ]
  exact⟨by rw[aL _ aq],s,by unfold SF.gN;rw[if_neg aq],hR,rfl⟩
def YR(b o:Nat)(s:SC)(d:Int->Nat)(hI:s.toSF.Inv d)(hR:s.nt)(n:Int)(on:Bool):Fn 161 [ay b o 0,iI n,.bool on] [d6 b o s,.aV cI (s.dI 254)] (fun v H1=>v=ax 102 (s.Gy n)/\∃ t:SC,t.toSF=s.toSF.freeze d n on/\t.nt/\H1=[d6 b o t,.aV cI (t.dI 254)]):=by
 refine Spec.g 28 [0,1,2,6,7,8,16,19] func161 fun W=> ?_;refine ca (xD _ _ _ _) .h1 ?_;rintro _ _ (⟨h1,rfl,rfl⟩ | ⟨h1,rfl,rfl⟩)
 ·obtain⟨i0,i1,i2,i3⟩:=h1;apply gO;apply (cd)<;>intro h2
  ·refine bL (pz 2) ?_;have e:s.Gy n=8:=by unfold SF.Gy;rw[if_neg og,if_pos og]
   exact⟨by rw[e]<;>rfl,s,by unfold SF.freeze;rw[if_neg og],hR,rfl⟩
  ·apply st .aa (Bp _ _ og _) rfl;refine ca (qv _ _ {s with xV:=ad s.xV n on} d ⟨hI.h0,hI.up,hI.cJ,hI.quo,hI.wt⟩ hR _ (.inr ⟨og,og,i3⟩)) (pz 2) ?_;rintro _ _ ⟨rfl,t,tl,tR,rfl⟩;apply gO;refine bL (pz 2) ?_;have e:s.Gy n=0:=by unfold SF.Gy;rw[if_neg og,if_neg og]
   exact⟨by rw[e]<;>rfl,t,by rw[tl];unfold SF.freeze;rw[if_pos e],tR,rfl⟩
 ·have i0:=h1;apply gO;refine bL (pz 2) ?_;try dsimp only[aR,aQ,bH,bQ]
  have e:s.Gy n=s.xL n:=by unfold SF.Gy;rw[if_pos aq]
  exact⟨by rw[e,aL _ aq],s,by unfold SF.freeze;rw[if_neg og],hR,rfl⟩
def acf(b o:Nat)(s:SC)(d:Int->Nat)(hI:s.toSF.Inv d)(hR:s.nt)(n q p:Int):Fn 162 [ay b o 0,iI n,iI q,iI p] [d6 b o s,.aV cI (s.dI 254)] (fun v H1=>v=ax 102 (s.uO n q p)/\∃ t:SC,t.toSF=s.toSF.zG d n q p/\t.nt/\H1=[d6 b o t,.aV cI (t.dI 254)]):=by
 refine Spec.g 53 [0,1,2,3,8,9,10,18,21,37] func162 fun W=> ?_;refine ca (xD _ _ _ _) .h1 ?_;rintro _ _ (⟨h1,rfl,rfl⟩ | ⟨h1,rfl,rfl⟩)
 obtain⟨i0,i1,i2,i3⟩:=h1;apply gO;apply (cd)<;>intro h2
 ·refine bL (pz 2) ?_;have e:s.uO n q p=8:=by unfold SF.uO;rw[if_neg og,if_pos og]
  exact⟨by rw[e]<;>rfl,s,by unfold SF.zG;rw[if_neg og],hR,rfl⟩
 apply UV 25<;>intro h3;rotate_left
 apply UV 29<;>intro h4;rotate_left
 apply UV 33<;>intro h5;rotate_left
 apply (cd)<;>intro h6;rotate_left
 ·refine st .aa (Dd _ _ og _) rfl (st .aa (Br _ _ og _) rfl (st .aa (p8 _ _ og _) rfl ?_));have hq:=(show SF.Inv (s.toSF.ae5 n q p) d from⟨hI.h0,hI.up,hI.cJ,fun i a b=>by
   show 0<=ad s.ef n q i/\(0<ad s.ef n q i->1<=ad s.ft n p i)
   unfold ad;split
   ·omega
   ·exact hI.quo i a b,hI.wt⟩)
  refine ca (qv _ _ {s with ef:=ad s.ef n q,ft:=ad s.ft n p,ek:=ad s.ek n 0} d hq hR _ (.inr ⟨og,og,i3⟩)) (pz 2) ?_;rintro _ _ ⟨rfl,t,tl,tR,rfl⟩;apply gO;refine bL (pz 2) ?_;have e:s.uO n q p=0:=by unfold SF.uO;rw[if_neg og,if_neg og,if_neg og]
  exact⟨by rw[e]<;>rfl,t,by rw[tl];unfold SF.zG;rw[if_pos e];rfl,tR,rfl⟩
 ·have i0:=h1;apply gO;refine bL (pz 2) ?_;try dsimp only[aR,aQ,bH,bQ]
  have e:s.uO n q p=s.xL n:=by unfold SF.uO;rw[if_pos aq]
  exact⟨by rw[e,aL _ aq],s,by unfold SF.zG;rw[if_neg og],hR,rfl⟩
 all_goals
  refine bL (pz 2) ?_;have e:s.uO n q p=1:=by unfold SF.uO;rw[if_neg og,if_neg og,if_pos og]
  exact⟨by rw[e]<;>rfl,s,by unfold SF.zG;rw[if_neg og],hR,rfl⟩
def PL(b o:Nat)(s:SC)(d:Int->Nat)(hI:s.toSF.Inv d)(hR:s.nt)(n p w:Int):Fn 155 [ay b o 0,iI n,iI p,iI w] [d6 b o s,.aV cI (s.dI 254)] (fun v H1=>v=ax 102 (s.mQ n p w)/\∃ t:SC,t.toSF=s.toSF.uM n p w/\t.nt/\H1=[d6 b o t,.aV cI (t.dI 254)]):=by
 refine Spec.g 51 [0,1,2,3,8,10,24,32,41] func155 fun W=> ?_;apply UV 13<;>intro h1;rotate_left
 apply UV 17<;>intro h2;rotate_left
 apply UV 21<;>intro h3;rotate_left
 apply (cd)<;>intro h4;rotate_left
 ·refine sd (ld .aa (jD _ _) ?_);apply (yx)<;>intro h5
  ·try simp only[sb]at h5
   refine bL (pz 2) ?_;have e:s.mQ n p w=3:=by unfold SF.mQ;rw[if_neg og,if_pos aq]
   exact⟨by rw[e]<;>rfl,s,by unfold SF.uM;rw[if_neg og],hR,rfl⟩
  ·try simp only[sb]at h5
   have rK:s.aa n=false:=by
    omega
   refine ca (xD _ _ _ _) .h1 ?_;rintro _ _ (⟨h6,rfl,rfl⟩ | ⟨h6,rfl,rfl⟩)
   ·obtain⟨i0,i1,i2,i3⟩:=h6;apply gO;refine XO.v (V.build (vs:= #[(0,.bool true),(1,iI p),(2,iI w)]) rfl (v:=.agg (mS (yC true p w))) fun _=>kq) rfl (gO ?_);refine sd (oS (XO.gz rfl rfl .aa (vq _ n p w true) (qc _) sR (XO.mono (fun _ bR=>XM.newRow (s:=s) (z:=n) og (pk [1]) bR) ?_)));apply gO;refine bL (pk [1,0]) ?_;have e:s.mQ n p w=0:=by unfold SF.mQ;rw[if_neg og,if_neg (by rw[rK];simp)];exact i0
    have hwz:s.cJ n=false:=by
     cases q:s.cJ n with
     | false=>rfl
     | true=>have:=(hI.cJ _ q).2.2;rw[rK]at this;cases this
    have hk9:∀ i,s.cJ i=true->s.aA i≠n:=fun i hi e9=>by
     obtain⟨a,b9,c⟩:=hI.cJ i hi;have h9:=(hI.up i a b9 c).2.2.1;simp_all
    exact⟨by rw[e]<;>rfl,_,by unfold SF.uM;rw[if_pos e],hR.new hwz hk9 p w true,rfl⟩
   ·have i0:=h6;apply gO;refine bL (pz 2) ?_;try dsimp only[aR,aQ,bH,bQ]
    have e:s.mQ n p w=s.xL p:=by unfold SF.mQ;rw[if_neg og,if_neg (by rw[rK];simp)]
    exact⟨by rw[e,aL _ aq],s,by unfold SF.uM;rw[if_neg og],hR,rfl⟩
 all_goals
  refine bL (pz 2) ?_;have e:s.mQ n p w=1:=by unfold SF.mQ;rw[if_pos og]
  exact⟨by rw[e]<;>rfl,s,by unfold SF.uM;rw[if_neg og],hR,rfl⟩
def Cm(b o:Nat)(s:SC)(d:Int->Nat)(hI:s.toSF.Inv d)(hR:s.nt)(n p w:Int):Fn 60 [ay b o 0,iI n,iI p,iI w] [d6 b o s,.aV cI (s.dI 254)] (fun v H1=>v=ax 102 (s.mR n p w)/\∃ t:SC,t.toSF=s.toSF.uN n p w/\t.nt/\H1=[d6 b o t,.aV cI (t.dI 254)]):=by
 refine Spec.g 53 [0,1,2,3,8,10,24,33,42] func60 fun W=> ?_;apply UV 13<;>intro h1;rotate_left
 apply UV 17<;>intro h2;rotate_left
 apply UV 21<;>intro h3;rotate_left
 apply (cd)<;>intro h4;rotate_left
 ·refine sd (sd (ld .aa (jD _ _) ?_));apply (yx)<;>intro h5
  ·try simp only[sb]at h5
   refine bL (pz 2) ?_;have e:s.mR n p w=3:=by unfold SF.mR;rw[if_neg og,if_pos aq]
   exact⟨by rw[e]<;>rfl,s,by unfold SF.uN;rw[if_neg og],hR,rfl⟩
  ·try simp only[sb]at h5
   have rK:s.aa (10+n)=false:=by
    omega
   refine ca (xD _ _ _ _) .h1 ?_;rintro _ _ (⟨h6,rfl,rfl⟩ | ⟨h6,rfl,rfl⟩)
   ·obtain⟨i0,i1,i2,i3⟩:=h6;apply gO;refine sd (XO.v (V.build (vs:= #[(0,.bool true),(1,iI p),(2,iI w)]) rfl (v:=.agg (mS (yC true p w))) fun _=>kq) rfl (gO ?_));refine sd (oS (XO.gz rfl rfl .aa (vq _ (10+n) p w true) (qc _) sR (XO.mono (fun _ bR=>XM.newRow (s:=s) (z:=(10+n)) og (pk [1]) bR) ?_)));apply gO;refine bL (pk [1,0]) ?_;have e:s.mR n p w=0:=by unfold SF.mR;rw[if_neg og,if_neg (by rw[rK];simp)];exact i0
    have hwz:s.cJ (10+n)=false:=by
     cases q:s.cJ (10+n)with
     | false=>rfl
     | true=>have:=(hI.cJ _ q).2.2;rw[rK]at this;cases this
    have hk9:∀ i,s.cJ i=true->s.aA i≠(10+n):=fun i hi e9=>by
     obtain⟨a,b9,c⟩:=hI.cJ i hi;have h9:=(hI.up i a b9 c).2.2.1;simp_all
    exact⟨by rw[e]<;>rfl,_,by unfold SF.uN;rw[if_pos e],hR.new hwz hk9 p w true,rfl⟩
   ·have i0:=h6;apply gO;refine bL (pz 2) ?_;try dsimp only[aR,aQ,bH,bQ]
    have e:s.mR n p w=s.xL p:=by unfold SF.mR;rw[if_neg og,if_neg (by rw[rK];simp)]
    exact⟨by rw[e,aL _ aq],s,by unfold SF.uN;rw[if_neg og],hR,rfl⟩
 all_goals
  refine bL (pz 2) ?_;have e:s.mR n p w=1:=by unfold SF.mR;rw[if_pos og]
  exact⟨by rw[e]<;>rfl,s,by unfold SF.uN;rw[if_neg og],hR,rfl⟩
end Go.X.Fa
