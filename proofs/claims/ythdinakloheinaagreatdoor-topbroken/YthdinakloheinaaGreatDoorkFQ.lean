import Derived.Test.YthdinakloheinaaGreatDoorkGW
import Derived.Test.YthdinakloheinaaGreatDoorkFO
import Derived.Test.YthdinakloheinaaGreatDoorKB
import Derived.Test.YthdinakloheinaaGreatDoorXBytes
namespace Go.X.Gr
open Go Go.Proofs Go.X
set_option maxRecDepth 20000
set_option maxHeartbeats 4000000
theorem Nb:jW Tryz.prog 66=true:=by kernel_rfl
theorem LD:cX Tryz.prog 116=true:=by kernel_rfl
theorem Bu:cR Tryz.prog 66 3=some 3:=by kernel_rfl
theorem Bn:cR Tryz.prog 66 4=some 4:=by kernel_rfl
theorem AG:fT Tryz.prog 33=true:=by kernel_rfl
theorem NR:fT Tryz.prog 4=true:=by kernel_rfl
theorem II:dx Tryz.prog 33=some 1:=by kernel_rfl
theorem Kq:dx Tryz.prog 4=some 1:=by kernel_rfl
theorem HI:dx Tryz.prog 66=some 5:=by kernel_rfl
theorem Jk(p o:Nat)(s:TG)(hO:s.Ok)(n:Int)(hn:0≤n∧n<10∧s.here n=true)(q m:Int)(hq: -20≤q∧q≤20)(hm: -64≤m∧m≤64)(Bd:Int)(hB:0≤Bd∧Bd≤1000000000000)(hS:s.Small Bd):Spec Tryz.prog 117 [ptr p o 0,.int .i64 n,.int .i64 q,.int .i64 m] [.cells p o 60 (ay s)] (fun v H1=>v= .tuple #[]∧H1=[.cells p o 60 (ay (s.lay (s.cr n) q m))]):=by
 have hway:=hO.cr hn.1 hn.2.1 hn.2.2
 obtain⟨xs,hxs⟩:=sr _ hway.1.range
 have hlen5:xs.length≤4:=by
  have:(jU xs).length=xs.length:=by simp[jU]
  rw[hxs]at this;omega
 refine Spec.Oj 39 [1,4,6,7,11] [] Tryz.func117 rfl rfl rfl ?_
 intro W
 refine XO.box (m:=1) (C:=bN (ptr p o 0)) rfl rfl (fun _ _=>rfl) rfl ?_
 intro bT
 refine gO ?_
 refine XO.box (m:=1) (C:=bN (.int .i64 q)) rfl rfl (fun _ _=>rfl) rfl ?_
 intro bq
 refine gO ?_
 refine XO.box (m:=1) (C:=bN (.int .i64 m)) rfl rfl (fun _ _=>rfl) rfl ?_
 intro bm
 refine gO ?_
 refine ld (.t2 .here) (bN.ld _) ?_
 refine ca (GS _ _ _) .nil ?_
 rintro _ _ ⟨b1,b2,rfl,rfl⟩
 refine gO ?_
 refine XC.Ex (xs:=xs) (fun x:Hb=>.int .i64 x.1) (fun pre=>pre.length≤xs.length) (fun _=>False) (fun pre=>[.cells b1 0 1 (bN (.int .i64 n)),.cells b2 0 1 (bN (ptr p o 0)),.cells p o 60 (ay (s.lay (jU pre) q m)),.cells bT 0 1 (bN (ptr p o 0)),.cells bq 0 1 (bN (.int .i64 q)),.cells bm 0 1 (bN (.int .i64 m))]) (fun pre=>[.cells b1 0 1 (bN (.int .i64 n)),.cells b2 0 1 (bN (ptr p o 0)),.cells p o 60 (ay (s.lay (jU pre) q m)),.cells bT 0 1 (bN (ptr p o 0)),.cells bq 0 1 (bN (.int .i64 q)),.cells bm 0 1 (bN (.int .i64 m))]) rfl (pP Gt) rfl rfl (fun w hw=>xZ p o b1 b2 n s.par xs (by rw[hxs];exact hway.1) w (nM (by rfl) hw.good .here (.there .here) (.t5 .here))) ?_ (fun _ hw=>by rw[show s.lay (jU []) q m=s from TG.IS s q m];exact XM.pick (.cons .here (.cons .here (.cons (.t3 .here) (.cons (.t2 .here) (.cons (.there .here) .h1))))) hw) (fun _=>rfl) (fun _=>rfl) ?_ ?_ ?_
 ·
  simp
 ·intro pre x w hV hlen hx
  have hsm:=hS.lay (l:=jU pre) (by simp[jU];omega) hq hm x.1 x.2.1 x.2.2
  obtain⟨x1,x2⟩:=x.2
  refine XB.block ?_
  refine XB.seq ?_
  refine XB.gJ mixed (f:=14) (l:= #[false,false,false,false,false,false,false,false,false,false,false,false,false,false]) rfl rfl XM.ko ?_
  refine XQ.load (i:=0) (l':= #[true,false,false,false,false,false,false,false,false,false,false,false,false,false]) (.cells _ _ _ _) [13] rfl (by kernel_rfl) rfl (.t3 .here) (V.load rfl dJ (bN.ld _) Ar) rfl (by kernel_rfl) rfl ?_
  refine XQ.pv (i:=1) (l':= #[true,true,false,false,false,false,false,false,false,false,false,false,false,false]) rfl (by kernel_rfl) rfl (V.move rfl) rfl rfl ?_
  refine XQ.pv (i:=2) (l':= #[true,true,true,false,false,false,false,false,false,false,false,false,false,false]) rfl (by kernel_rfl) rfl (V.bL rfl) rfl rfl ?_
  refine XQ.pv (i:=3) (l':= #[true,true,true,true,false,false,false,false,false,false,false,false,false,false]) rfl (by kernel_rfl) rfl (V.fieldAddr rfl jH) rfl rfl ?_
  refine XQ.pv (i:=4) (l':= #[true,true,true,true,true,false,false,false,false,false,false,false,false,false]) rfl (by kernel_rfl) rfl (V.gT rfl rfl tC (by omega)) rfl rfl ?_
  refine XQ.pv (i:=5) (l':= #[true,true,true,true,true,true,false,false,false,false,false,false,false,false]) rfl (by kernel_rfl) rfl (V.fieldAddr rfl Bu) rfl rfl ?_
  refine XQ.load (i:=6) (l':= #[true,true,true,true,true,true,true,false,false,false,false,false,false,false]) (.cells _ _ _ _) [13] rfl (by kernel_rfl) rfl (.t2 .here) (V.load rfl dJ (ay.fj _ _ (by omega)) iX) rfl (by kernel_rfl) rfl ?_
  refine XQ.load (i:=7) (l':= #[true,true,true,true,true,true,true,true,false,false,false,false,false,false]) (.cells _ _ _ _) [13] rfl (by kernel_rfl) rfl (.t4 .here) (V.load rfl dJ (bN.ld _) iX) rfl (by kernel_rfl) rfl ?_
  refine XQ.pv (i:=8) (l':= #[true,true,true,true,true,true,true,true,true,false,false,false,false,false]) rfl (by kernel_rfl) rfl (V.add rfl rfl _ (IntWalk.i64_in _ (by omega))) rfl rfl ?_
  refine XQ.pv (i:=9) (l':= #[true,true,true,true,true,true,true,true,true,true,false,false,false,false]) rfl (by kernel_rfl) rfl (V.bL rfl) rfl rfl ?_
  refine XQ.pv (i:=10) (l':= #[true,true,true,true,true,true,true,true,true,true,true,false,false,false]) rfl (by kernel_rfl) rfl (V.fieldAddr rfl jH) rfl rfl ?_
  refine XQ.pv (i:=11) (l':= #[true,true,true,true,true,true,true,true,true,true,true,true,false,false]) rfl (by kernel_rfl) rfl (V.gT rfl rfl tC (by omega)) rfl rfl ?_
  refine XQ.pv (i:=12) (l':= #[true,true,true,true,true,true,true,true,true,true,true,true,true,false]) rfl (by kernel_rfl) rfl (V.fieldAddr rfl Bu) rfl rfl ?_
  refine XQ.store (i:=13) (l':= #[true,true,true,true,true,true,true,true,true,true,true,true,true,true]) rfl (by kernel_rfl) rfl rfl rfl (.t2 .here) (ay.vk _ _ (by omega) _) rfl js (fun _ hw'=>⟨fun hs=>(hs 13 (by first | (simp;done) | (simp;rfl)) rfl).elim,fun hs=>(hs 13 (by first | (simp;done) | (simp;rfl)) rfl).elim,fun hs=>(hs 13 (by first | (simp;done) | (simp;rfl)) rfl).elim,trivial⟩) ?_
  refine XQ.done (by kernel_rfl) ?_
  refine XE.Ez ?_
  refine XB.keep [(4,_),(7,_),(8,_)] (S3 rfl rfl rfl) ?_
  refine XB.gJ mixed (f:=14) (l:= #[false,false,false,false,false,false,false,false,false,false,false,false,false,false]) rfl rfl XM.ko ?_
  refine XQ.load (i:=0) (l':= #[true,false,false,false,false,false,false,false,false,false,false,false,false,false]) (.cells _ _ _ _) [13] rfl (by kernel_rfl) rfl (.t3 .here) (V.load rfl dJ (bN.ld _) Ar) rfl (by kernel_rfl) rfl ?_
  refine XQ.pv (i:=1) (l':= #[true,true,false,false,false,false,false,false,false,false,false,false,false,false]) rfl (by kernel_rfl) rfl (V.move rfl) rfl rfl ?_
  refine XQ.pv (i:=2) (l':= #[true,true,true,false,false,false,false,false,false,false,false,false,false,false]) rfl (by kernel_rfl) rfl (V.bL rfl) rfl rfl ?_
  refine XQ.pv (i:=3) (l':= #[true,true,true,true,false,false,false,false,false,false,false,false,false,false]) rfl (by kernel_rfl) rfl (V.fieldAddr rfl jH) rfl rfl ?_
  refine XQ.pv (i:=4) (l':= #[true,true,true,true,true,false,false,false,false,false,false,false,false,false]) rfl (by kernel_rfl) rfl (V.gT rfl rfl tC (by omega)) rfl rfl ?_
  refine XQ.pv (i:=5) (l':= #[true,true,true,true,true,true,false,false,false,false,false,false,false,false]) rfl (by kernel_rfl) rfl (V.fieldAddr rfl Bn) rfl rfl ?_
  refine XQ.load (i:=6) (l':= #[true,true,true,true,true,true,true,false,false,false,false,false,false,false]) (.cells _ _ _ _) [13] rfl (by kernel_rfl) rfl (.t2 .here) (V.load rfl dJ (ay.fp _ _ (by omega)) iX) rfl (by kernel_rfl) rfl ?_
  refine XQ.load (i:=7) (l':= #[true,true,true,true,true,true,true,true,false,false,false,false,false,false]) (.cells _ _ _ _) [13] rfl (by kernel_rfl) rfl (.t5 .here) (V.load rfl dJ (bN.ld _) iX) rfl (by kernel_rfl) rfl ?_
  refine XQ.pv (i:=8) (l':= #[true,true,true,true,true,true,true,true,true,false,false,false,false,false]) rfl (by kernel_rfl) rfl (V.add rfl rfl _ (IntWalk.i64_in _ (by have:=hsm.2.2;show _≤(s.lay (jU pre) q m).pg x.1+m∧(s.lay (jU pre) q m).pg x.1+m≤_;omega))) rfl rfl ?_
  refine XQ.pv (i:=9) (l':= #[true,true,true,true,true,true,true,true,true,true,false,false,false,false]) rfl (by kernel_rfl) rfl (V.bL rfl) rfl rfl ?_
  refine XQ.pv (i:=10) (l':= #[true,true,true,true,true,true,true,true,true,true,true,false,false,false]) rfl (by kernel_rfl) rfl (V.fieldAddr rfl jH) rfl rfl ?_
  refine XQ.pv (i:=11) (l':= #[true,true,true,true,true,true,true,true,true,true,true,true,false,false]) rfl (by kernel_rfl) rfl (V.gT rfl rfl tC (by omega)) rfl rfl ?_
  refine XQ.pv (i:=12) (l':= #[true,true,true,true,true,true,true,true,true,true,true,true,true,false]) rfl (by kernel_rfl) rfl (V.fieldAddr rfl Bn) rfl rfl ?_
  refine XQ.store (i:=13) (l':= #[true,true,true,true,true,true,true,true,true,true,true,true,true,true]) rfl (by kernel_rfl) rfl rfl rfl (.t2 .here) (ay.uT _ _ (by omega) _) rfl js (fun _ hw'=>⟨fun hs=>(hs 13 (by first | (simp;done) | (simp;rfl)) rfl).elim,fun hs=>(hs 13 (by first | (simp;done) | (simp;rfl)) rfl).elim,fun hs=>(hs 13 (by first | (simp;done) | (simp;rfl)) rfl).elim,trivial⟩) ?_
  refine XQ.done (by kernel_rfl) ?_
  refine XE.jc ?_
  refine XE.Ni hx ?_ rfl (fun w2 hg=>nM (by rfl) hg .here (.there .here) (.t2 .here)) (fun w2 hw2=> ?_)
  ·
   simp;omega
  ·
   have:=XM.pick .h6 hw2
   rw[Di,TG.EX]
   exact this
 ·intro hV D hD
  refine gE ?_
  refine XE.Eu (.inl rfl) .here rfl hD ?_
  refine XE.fD rfl (ab (.cons (.t2 .here) .nil) rfl ?_)
  try dsimp only[SW.den,SV.den,aj,aZ]
  refine⟨rfl,?_⟩
  rw[hxs]
 ·intro pre hp hV D hD
  exact hV.elim
theorem sK(p o:Nat)(s:TG)(hO:s.Ok)(n q m:Int)(Bd:Int)(hB:0≤Bd∧Bd≤1000000000000)(hS:s.Small Bd):Spec Tryz.prog 51 [ptr p o 0,.int .i64 n,.int .i64 q,.int .i64 m] [.cells p o 60 (ay s)] (fun v H1=>v=bM 102 (s.b8 n q m)∧H1=[.cells p o 60 (ay (s.cg n q m))]):=by
  refine Spec.Oj 42 [1,4,6,7,8,9,15,20,24] [] Tryz.func51 rfl rfl rfl ?_
  intro W
  refine XO.box (m:=1) (C:=bN (ptr p o 0)) rfl rfl (fun _ _=>rfl) rfl ?_
  intro bT
  refine gO ?_
  refine XO.box (m:=1) (C:=bN (.int .i64 q)) rfl rfl (fun _ _=>rfl) rfl ?_
  intro bq
  refine gO ?_
  refine XO.box (m:=1) (C:=bN (.int .i64 m)) rfl rfl (fun _ _=>rfl) rfl ?_
  intro bm
  refine gO ?_
  refine XO.cY (z:=.nilIface) (m:=1) (C:=bN (.nilIface)) (by kernel_rfl) rfl (fun _ _=>rfl) rfl ?_
  intro be
  refine gO ?_
  refine ld (.t3 .here) (bN.ld _) ?_
  refine ca (No _ _ _ _) (.cons (.t4 .here) .nil) ?_
  rintro _ _ (⟨h1,rfl,rfl⟩ | ⟨h1,rfl,rfl⟩)
  · skip
    try dsimp only[aC,aS,aM,aR,aN,aP,aQ,aU,aO,aT,aG,aH,aB,aF]
    obtain⟨i0,i1,i2,i3⟩:=h1
    refine gO ?_
    refine ld (.t3 .here) (bN.ld _) ?_
    refine ld (.t2 .here) (bN.ld _) ?_
    refine ca (xE _ _) .nil ?_
    rintro _ _ (⟨h2,rfl,rfl⟩ | ⟨h2,rfl,rfl⟩)
    · skip
      try dsimp only[aC,aS,aM,aR,aN,aP,aQ,aU,aO,aT,aG,aH,aB,aF]
      have j0:=h2
      have hway:=hO.cr i1 i2 i3
      obtain⟨xs,hxs⟩:=sr _ hway.1.range
      have hlen5:xs.length≤4:=by
        have:(jU xs).length=xs.length:=by simp[jU]
        rw[hxs]at this;omega
      refine gO ?_
      refine ld (.t4 .here) (bN.ld _) ?_
      refine ca (GS _ _ _) .nil ?_
      rintro _ _ ⟨b1,b2,rfl,rfl⟩
      refine gO ?_
      refine XC.Ex (xs:=xs) (fun x:Hb=>.int .i64 x.1) (fun pre=>∀ x∈pre,s.room q m x.1=true) (fun pre=>∃ x∈pre,s.room q m x.1=false) (fun pre=>[.cells b1 0 1 (bN (.int .i64 n)),.cells b2 0 1 (bN (ptr p o 0)),.cells p o 60 (ay s),.cells bT 0 1 (bN (ptr p o 0)),.cells bq 0 1 (bN (.int .i64 q)),.cells bm 0 1 (bN (.int .i64 m)),.cells be 0 1 (bN (.nilIface))]) (fun pre=>[.cells b1 0 1 (bN (.int .i64 n)),.cells b2 0 1 (bN (ptr p o 0)),.cells p o 60 (ay s),.cells bT 0 1 (bN (ptr p o 0)),.cells bq 0 1 (bN (.int .i64 q)),.cells bm 0 1 (bN (.int .i64 m)),.cells be 0 1 (bN (.iface 102 (.int .i64 6)))]) rfl (pP Gt) rfl rfl (fun w hw=>xZ p o b1 b2 n s.par xs (by rw[hxs];exact hway.1) w (nM (by rfl) hw.good .here (.there .here) (.t2 .here))) ?_ (fun _ hw=>XM.pick (.cons .here (.cons .here (.cons .here (.cons (.t3 .here) (.cons (.t2 .here) (.cons (.there .here) .h1)))))) hw) (fun _=>rfl) (fun _=>rfl) ?_ ?_ ?_
      · skip
        simp
      · intro pre x w hV hlen hx
        have hsm:=hS x.1 x.2.1 x.2.2
        obtain⟨x1,x2⟩:=x.2
        have hr0: -9223372036854775808≤(s.gv x.1).pr+q∧(s.gv x.1).pr+q≤9223372036854775807:=by show _≤s.pr x.1+q∧s.pr x.1+q≤_;omega
        have hr1: -9223372036854775808≤(s.gv x.1).pg+m∧(s.gv x.1).pg+m≤9223372036854775807:=by show _≤s.pg x.1+m∧s.pg x.1+m≤_;omega
        refine XB.block ?_
        refine XB.seq ?_
        refine XB.gJ mixed (f:=10) (l:= #[false,false,false,false,false,false,false,false,false,false]) rfl rfl XM.ko ?_
        refine XQ.load (i:=0) (l':= #[true,false,false,false,false,false,false,false,false,false]) (.cells _ _ _ _) [8] rfl (by kernel_rfl) rfl (.t3 .here) (V.load rfl dJ (bN.ld _) Ar) rfl (by kernel_rfl) rfl ?_
        refine XQ.pv (i:=1) (l':= #[true,true,false,false,false,false,false,false,false,false]) rfl (by kernel_rfl) rfl (V.move rfl) rfl rfl ?_
        refine XQ.pv (i:=2) (l':= #[true,true,true,false,false,false,false,false,false,false]) rfl (by kernel_rfl) rfl (V.bL rfl) rfl rfl ?_
        refine XQ.pv (i:=3) (l':= #[true,true,true,true,false,false,false,false,false,false]) rfl (by kernel_rfl) rfl (V.fieldAddr rfl jH) rfl rfl ?_
        refine XQ.pv (i:=4) (l':= #[true,true,true,true,true,false,false,false,false,false]) rfl (by kernel_rfl) rfl (V.gT rfl rfl tC (by omega)) rfl rfl ?_
        refine XQ.load (i:=5) (l':= #[true,true,true,true,true,true,false,false,false,false]) (.cells _ _ _ _) [8] rfl (by kernel_rfl) rfl (.t2 .here) (V.fW rfl dJ (FK _ _ (by omega)) Nb HI) rfl (by kernel_rfl) rfl ?_
        refine XQ.load (i:=6) (l':= #[true,true,true,true,true,true,true,false,false,false]) (.cells _ _ _ _) [8] rfl (by kernel_rfl) rfl (.t4 .here) (V.load rfl dJ (bN.ld _) iX) rfl (by kernel_rfl) rfl ?_
        refine XQ.load (i:=7) (l':= #[true,true,true,true,true,true,true,true,false,false]) (.cells _ _ _ _) [8] rfl (by kernel_rfl) rfl (.t5 .here) (V.load rfl dJ (bN.ld _) iX) rfl (by kernel_rfl) rfl ?_
        refine XQ.call (i:=8) (l':= #[true,true,true,true,true,true,true,true,true,false]) rfl (by kernel_rfl) rfl rfl (LS _ _ _ (by assumption) (by assumption)) .nil LD rfl (by rintro _ _ ⟨rfl,rfl⟩;all_goals(intro _ hw';exact⟨fun hs=>(hs 8 (by first | (simp;done) | (simp;rfl)) rfl).elim,fun hs=>(hs 8 (by first | (simp;done) | (simp;rfl)) rfl).elim,fun hs=>(hs 8 (by first | (simp;done) | (simp;rfl)) rfl).elim,fun hs=>(hs 8 (by first | (simp;done) | (simp;rfl)) rfl).elim,trivial⟩)) ?_
        rintro _ _ ⟨rfl,rfl⟩
        refine XQ.pv (i:=9) (l':= #[true,true,true,true,true,true,true,true,true,true]) rfl (by kernel_rfl) rfl (V.not rfl) rfl rfl ?_
        refine XQ.done (by kernel_rfl) ?_
        refine XE.Ez ?_
        refine XB.keep [(8,_),(35,_)] (S2 rfl rfl) ?_
        refine XB.cond rfl (fun h3=> ?_) (fun h3=> ?_)
        · try simp only[sb]at h3
          have hX:=h3
          refine XB.seq ?_
          refine XB.region ?_
          refine XO.v (V.ud rfl Tryz.underlying102 (by simp)) rfl ?_
          refine XO.store rfl rfl (.t6 .here) (bN.st _ _) rfl II ?_
          refine XO.nil ?_
          refine XE.Ez ?_
          refine XB.keep [(8,_)] (S1 rfl) ?_
          refine XB.ret ?_
          refine XE.nZ ?_
          refine XE.leave hx ?_ rfl (fun w2 hw2=> ?_)
          · skip
            exact⟨x,by simp,by simpa [TG.room]using hX⟩
          · skip
            exact XM.pick .h7 hw2
        · try simp only[sb]at h3
          have hX:=h3
          refine XB.skip ?_
          refine XE.jc ?_
          refine XE.Ni hx ?_ rfl (fun w2 hg=>nM (by rfl) hg .here (.there .here) (.t2 .here)) (fun w2 hw2=> ?_)
          · skip
            intro y hy
            rcases List.mem_append.1 hy with hy | hy
            · exact hV y hy
            · simp at hy;subst hy;simpa [TG.room]using hX
          · skip
            exact XM.pick .h7 hw2
      · intro hV D hD
        have hc:s.kM n q m=0:=by unfold TG.kM;rw[if_neg (by omega)];exact(TG.xf _ _).2 j0
        have hr:s.b8 n q m=0:=by
          unfold TG.b8
          rw[if_neg (by omega),if_pos]
          rw[←hxs]
          simp only[jU,List.all_map,List.all_eq_true]
          exact hV
        have hc2:s.cg n q m=s.lay (s.cr n) q m:=by unfold TG.cg;rw[if_pos hr]
        refine gE ?_
        refine ld (.t4 .here) (bN.ld _) ?_
        refine ld (.t5 .here) (bN.ld _) ?_
        refine ld (.t6 .here) (bN.ld _) ?_
        refine ca (Jk _ _ s hO _ (by first | assumption | exact⟨by omega,by omega,by assumption⟩) _ _ (by omega) (by omega) Bd hB hS) (.cons (.t3 .here) .nil) ?_
        rintro _ _ ⟨rfl,rfl⟩
        refine gO ?_
        refine st (.t7 .here) (bN.st _ _) rfl ?_
        refine XE.Eu (.inr rfl) (.there .here) rfl hD ?_
        refine XE.Aq rfl (.cell rfl (.t6 .here) (bN.ld _) AG) (ab .h1 rfl ?_)
        try dsimp only[SW.den,SV.den,aj,aZ]
        exact⟨by rw[hr];rfl,by rw[hc2]⟩
      · intro pre hp hV D hD
        have hc:s.kM n q m=0:=by unfold TG.kM;rw[if_neg (by omega)];exact(TG.xf _ _).2 j0
        have hr:s.b8 n q m=6:=by
          unfold TG.b8
          rw[if_neg (by omega),if_neg]
          rw[←hxs]
          simp only[jU,List.all_map,List.all_eq_true]
          obtain⟨y,hy,e⟩:=hV
          intro h
          have:=h y (hp.subset hy)
          simp only[Function.comp]at this
          rw[e]at this;cases this
        have hc2:s.cg n q m=s:=by unfold TG.cg;rw[if_neg (by omega)]
        refine gE ?_
        refine XE.Eu (.inr rfl) .here rfl hD ?_
        refine XE.Aq rfl (.cell rfl (.t6 .here) (bN.ld _) AG) (ab (.cons (.t2 .here) .nil) rfl ?_)
        try dsimp only[SW.den,SV.den,aj,aZ]
        exact⟨by rw[hr];rfl,by rw[hc2]⟩
    · skip
      try dsimp only[aC,aS,aM,aR,aN,aP,aQ,aU,aO,aT,aG,aH,aB,aF]
      have j1:=h2
      refine gO ?_
      refine st (.there .here) (bN.st _ _) rfl ?_
      refine XE.DM (.inr rfl) ?_
      refine XE.Aq rfl (.cell rfl (.there .here) (bN.ld _) AG) (ab .h1 rfl ?_)
      try dsimp only[SW.den,SV.den,aj,aZ]
      first
      | (have hc:s.kM n q m=s.cI n:=by unfold TG.kM;rw[if_pos (by assumption)]
         have hr:s.b8 n q m=s.cI n:=by unfold TG.b8;rw[if_pos (by omega),hc]
         exact⟨by rw[hr,aW _ (by assumption)],by unfold TG.cg;rw[if_neg (by omega)]⟩)
      | (have hc:s.kM n q m=1:=by unfold TG.kM;rw[if_neg (by omega)];exact j1
         have hr:s.b8 n q m=1:=by unfold TG.b8;rw[if_pos (by omega),hc]
         exact⟨by rw[hr];rfl,by unfold TG.cg;rw[if_neg (by omega)]⟩)
  · skip
    try dsimp only[aC,aS,aM,aR,aN,aP,aQ,aU,aO,aT,aG,aH,aB,aF]
    have i0:=h1
    refine gO ?_
    refine st (.there .here) (bN.st _ _) rfl ?_
    refine XE.DM (.inr rfl) ?_
    refine XE.Aq rfl (.cell rfl (.there .here) (bN.ld _) AG) (ab .h1 rfl ?_)
    try dsimp only[SW.den,SV.den,aj,aZ]
    first
    | (have hc:s.kM n q m=s.cI n:=by unfold TG.kM;rw[if_pos (by assumption)]
       have hr:s.b8 n q m=s.cI n:=by unfold TG.b8;rw[if_pos (by omega),hc]
       exact⟨by rw[hr,aW _ (by assumption)],by unfold TG.cg;rw[if_neg (by omega)]⟩)
    | (have hc:s.kM n q m=1:=by unfold TG.kM;rw[if_neg (by omega)];exact j1
       have hr:s.b8 n q m=1:=by unfold TG.b8;rw[if_pos (by omega),hc]
       exact⟨by rw[hr];rfl,by unfold TG.cg;rw[if_neg (by omega)]⟩)
end Go.X.Gr

namespace Go.X.Gr
open Go Go.Proofs Go.X
set_option maxRecDepth 20000
set_option maxHeartbeats 4000000
theorem EA(p o:Nat)(s:TG)(n:Int)(hn:0≤n∧n<10)(q m:Int)(Bd:Int)(hB:0≤Bd∧Bd≤1000000000000)(hS:s.Small Bd):Spec Tryz.prog 122 [ptr p o 0,.int .i64 n,.int .i64 q,.int .i64 m] [.cells p o 60 (ay s)] (fun v H1=>v= .bool (decide (q≤s.left s.pr n∧m≤s.left s.pg n))∧H1=[.cells p o 60 (ay s)]):=by
 refine Spec.go 74 [0,1,2,3,8,9,10,11,12,30,31,32,46] [] Tryz.func122 rfl rfl rfl ?_
 intro W
 refine rq [0,1,2,3,4,5,6,7,8,9,10,11,12,13,14,15] mixed (by kernel_rfl) ?_
 refine sd (by omega) ?_
 refine ld .here (ay.fj _ _ (by omega)) ?_
 refine sd (by omega) ?_
 refine ld .here (ay.fp _ _ (by omega)) ?_
 refine nc .here (y3 _) ?_
 refine lp (σ:=Int) (fun k=>(10-k).toNat) (fun k=>0≤k∧k≤10) (fun k=>[(31,.int .i64 k),(9,.int .i64 (s.pr n-cL (s.dI s.pr n) k.toNat)),(10,.int .i64 (s.pg n-cL (s.dI s.pg n) k.toNat)),(0,ptr p o 0),(1,.int .i64 n),(2,.int .i64 q),(3,.int .i64 m),(30,.agg (yV s.here 10))]) (fun k=>XM W (bS [.cells p o 60 (ay s)]) [.cells p o 60 (ay s)]) (0) ?_ (.cons rfl (.cons (by rw[show s.pr n-cL (s.dI s.pr n) (0:Int).toNat=s.pr n from by simp[cL]];rfl) (S6 (by rw[show s.pg n-cL (s.dI s.pg n) (0:Int).toNat=s.pg n from by simp[cL]];rfl) rfl rfl rfl rfl rfl))) (fun _ hw=>XM.pick .h1 hw) ?_
 ·
  omega
 intro k hk
 have hst1:=wT s s.pr n hk.1
 have hst2:=wT s s.pg n hk.1
 have hbd:=Cp hS hB hn (k:=k) hk.1
 refine gC ?_
 refine cd rfl ?_ ?_<;>intro h1
 ·
  have hSn:=hS n hn.1 hn.2
  have hSk:=hS k hk.1 (by omega)
  refine XO.v (V.EZ rfl rfl Tryz.underlying149 Kq NR (by omega) (HQ (by omega))) rfl (gO ?_)
  refine uE 36 rfl ?_ ?_<;>intro h2
  ·try simp only[sb]at h2
   refine sd (by omega) ?_
   refine ld .here (ay.fF _ _ (by omega)) ?_
   refine cd rfl ?_ ?_<;>intro h3
   ·
    refine sd (by omega) ?_
    refine ld .here (ay.fj _ _ (by omega)) ?_
    refine sd (by omega) ?_
    refine sd (by omega) ?_
    refine ld .here (ay.fp _ _ (by omega)) ?_
    refine sd (by omega) ?_
    refine sd (by omega) ?_
    refine ag (k+1) ?_ ?_ (.cons rfl (.cons (by rw[hst1];rw[show s.dI s.pr n k=s.pr k from by unfold TG.dI;rw[if_pos ⟨by simp_all,by simp_all⟩]];exact sV (by omega)) (S6 (by rw[hst2];rw[show s.dI s.pg n k=s.pg k from by unfold TG.dI;rw[if_pos ⟨by simp_all,by simp_all⟩]];exact sV (by omega)) rfl rfl rfl rfl rfl))) (fun _ hw=>XM.pick .h1 hw)
    ·
     (first | omega | (simp;done) | (simp;omega))
    ·
     (first | omega | (simp;done) | (simp;omega))
   ·
    refine sd (by omega) ?_
    refine ag (k+1) ?_ ?_ (.cons rfl (.cons (by rw[hst1];rw[show s.dI s.pr n k=0 from by unfold TG.dI;rw[if_neg (by simp_all)]];exact sV (by omega)) (S6 (by rw[hst2];rw[show s.dI s.pg n k=0 from by unfold TG.dI;rw[if_neg (by simp_all)]];exact sV (by omega)) rfl rfl rfl rfl rfl))) (fun _ hw=>XM.pick .h1 hw)
    ·
     (first | omega | (simp;done) | (simp;omega))
    ·
     (first | omega | (simp;done) | (simp;omega))
  ·try simp only[sb]at h2
   refine sd (by omega) ?_
   refine ag (k+1) ?_ ?_ (.cons rfl (.cons (by rw[hst1];rw[show s.dI s.pr n k=0 from by unfold TG.dI;rw[if_neg (by simp_all)]];exact sV (by omega)) (S6 (by rw[hst2];rw[show s.dI s.pg n k=0 from by unfold TG.dI;rw[if_neg (by simp_all)]];exact sV (by omega)) rfl rfl rfl rfl rfl))) (fun _ hw=>XM.pick .h1 hw)
   ·
    (first | omega | (simp;done) | (simp;omega))
   ·
    (first | omega | (simp;done) | (simp;omega))
 ·
  refine sp 69 rfl ?_ ?_<;>intro h4
  ·
   refine XE.aV rfl rfl (ab .h1 rfl ?_)
   try dsimp only[SW.den,SV.den,aj,aZ]
   obtain rfl:k=10:=by omega
   refine⟨congrArg Value.bool ?_,rfl⟩
   unfold TG.left
   rw[show(10:Int).toNat=10 from rfl]at*
   first
   | exact decide_eq_decide.2 (by omega)
   | exact(decide_eq_false (by omega)).symm
  ·
   refine XE.aV rfl rfl (ab .h1 rfl ?_)
   try dsimp only[SW.den,SV.den,aj,aZ]
   obtain rfl:k=10:=by omega
   refine⟨congrArg Value.bool ?_,rfl⟩
   unfold TG.left
   rw[show(10:Int).toNat=10 from rfl]at*
   first
   | exact decide_eq_decide.2 (by omega)
   | exact(decide_eq_false (by omega)).symm
theorem mQ(p o:Nat)(s:TG)(hO:s.Ok)(n q m:Int)(Bd:Int)(hB:0≤Bd∧Bd≤1000000000000)(hS:s.Small Bd):Spec Tryz.prog 54 [ptr p o 0,.int .i64 n,.int .i64 q,.int .i64 m] [.cells p o 60 (ay s)] (fun v H1=>v=bM 102 (s.dM n q m)∧H1=[.cells p o 60 (ay (s.ea n q m))]):=by
  refine Spec.go 35 [0,1,2,3,8,9,14,19,26] [] Tryz.func54 rfl rfl rfl ?_
  intro W
  refine ca (No _ _ _ _) .h1 ?_
  rintro _ _ (⟨h1,rfl,rfl⟩ | ⟨h1,rfl,rfl⟩)
  · skip
    try dsimp only[aC,aS,aM,aR,aN,aP,aQ,aU,aO,aT,aG,aH,aB,aF]
    obtain⟨i0,i1,i2,i3⟩:=h1
    refine gO ?_
    refine ca (xE _ _) .nil ?_
    rintro _ _ (⟨h2,rfl,rfl⟩ | ⟨h2,rfl,rfl⟩)
    · skip
      try dsimp only[aC,aS,aM,aR,aN,aP,aQ,aU,aO,aT,aG,aH,aB,aF]
      have j0:=h2
      refine gO ?_
      refine ca (EA _ _ s _ ⟨by omega,by omega⟩ _ _ Bd hB hS) .h1 ?_
      rintro _ _ ⟨rfl,rfl⟩
      refine gO ?_
      refine cd rfl ?_ ?_<;>intro h3
      · skip
        refine XE.aV rfl rfl (ab .h1 rfl ?_)
        try dsimp only[SW.den,SV.den,aj,aZ]
        have hc:s.kM n q m=0:=by unfold TG.kM;rw[if_neg (by omega)];exact(TG.xf _ _).2 j0
        have hr:s.dM n q m=8:=by unfold TG.dM;rw[if_neg (by omega),if_neg (by simp_all)]
        exact⟨by rw[hr];rfl,by unfold TG.ea;rw[if_neg (by omega)]⟩
      · skip
        refine sd (by omega) ?_
        refine sd (by omega) ?_
        refine ca (Jk _ _ s hO _ (by first | assumption | exact⟨by omega,by omega,by assumption⟩) _ _ (by omega) (by omega) Bd hB hS) .h1 ?_
        rintro _ _ ⟨rfl,rfl⟩
        refine gO ?_
        refine XE.aV rfl rfl (ab .h1 rfl ?_)
        try dsimp only[SW.den,SV.den,aj,aZ]
        have hc:s.kM n q m=0:=by unfold TG.kM;rw[if_neg (by omega)];exact(TG.xf _ _).2 j0
        have hr:s.dM n q m=0:=by unfold TG.dM;rw[if_neg (by omega),if_pos (by simp_all)]
        exact⟨by rw[hr];rfl,by unfold TG.ea;rw[if_pos hr];simp only[Int.zero_sub]⟩
    · skip
      try dsimp only[aC,aS,aM,aR,aN,aP,aQ,aU,aO,aT,aG,aH,aB,aF]
      have j1:=h2
      refine gO ?_
      refine XE.aV rfl rfl (ab .h1 rfl ?_)
      try dsimp only[SW.den,SV.den,aj,aZ]
      first
      | (have hc:s.kM n q m=s.cI n:=by unfold TG.kM;rw[if_pos (by assumption)]
         have hr:s.dM n q m=s.cI n:=by unfold TG.dM;rw[if_pos (by omega),hc]
         exact⟨by rw[hr,aW _ (by assumption)],by unfold TG.ea;rw[if_neg (by omega)]⟩)
      | (have hc:s.kM n q m=1:=by unfold TG.kM;rw[if_neg (by omega)];exact j1
         have hr:s.dM n q m=1:=by unfold TG.dM;rw[if_pos (by omega),hc]
         exact⟨by rw[hr];rfl,by unfold TG.ea;rw[if_neg (by omega)]⟩)
  · skip
    try dsimp only[aC,aS,aM,aR,aN,aP,aQ,aU,aO,aT,aG,aH,aB,aF]
    have i0:=h1
    refine gO ?_
    refine XE.aV rfl rfl (ab .h1 rfl ?_)
    try dsimp only[SW.den,SV.den,aj,aZ]
    first
    | (have hc:s.kM n q m=s.cI n:=by unfold TG.kM;rw[if_pos (by assumption)]
       have hr:s.dM n q m=s.cI n:=by unfold TG.dM;rw[if_pos (by omega),hc]
       exact⟨by rw[hr,aW _ (by assumption)],by unfold TG.ea;rw[if_neg (by omega)]⟩)
    | (have hc:s.kM n q m=1:=by unfold TG.kM;rw[if_neg (by omega)];exact j1
       have hr:s.dM n q m=1:=by unfold TG.dM;rw[if_pos (by omega),hc]
       exact⟨by rw[hr];rfl,by unfold TG.ea;rw[if_neg (by omega)]⟩)
end Go.X.Gr

namespace Go.X.Gr
open Go Go.Proofs Go.X
set_option maxRecDepth 20000
set_option maxHeartbeats 4000000
theorem My:Spec Tryz.prog 95 [] [] (fun v H1=>∃ p,v=ptr p 0 0∧H1=[.cells p 0 60 (ay TG.init)]):=by
 refine Spec.go 14 [0,1] [] Tryz.func95 rfl rfl rfl ?_
 intro W
 refine XO.v (V.build (vs:= #[]) rfl (v:=.agg #[.int .i64 0,.int .i64 0,.int .i64 0,.int .i64 0,.int .i64 0,.int .i64 0,.int .i64 0,.int .i64 0,.int .i64 0,.int .i64 0,.int .i64 0,.int .i64 0,.int .i64 0,.int .i64 0,.int .i64 0,.int .i64 0,.int .i64 0,.int .i64 0,.int .i64 0,.int .i64 0,.int .i64 0,.int .i64 0,.int .i64 0,.int .i64 0,.int .i64 0,.int .i64 0,.int .i64 0,.int .i64 0,.int .i64 0,.int .i64 0,.int .i64 0,.int .i64 0,.int .i64 0,.int .i64 0,.int .i64 0,.int .i64 0,.int .i64 0,.int .i64 0,.int .i64 0,.int .i64 0,.int .i64 0,.int .i64 0,.int .i64 0,.int .i64 0,.int .i64 0,.int .i64 0,.int .i64 0,.int .i64 0,.int .i64 0,.int .i64 0,.bool false,.bool false,.bool false,.bool false,.bool false,.bool false,.bool false,.bool false,.bool false,.bool false]) (fun _=>by kernel_rfl)) rfl (gO ?_)
 refine XO.box (m:=60) (C:=ay TG.void) rfl rfl MN rfl ?_
 intro p
 refine gO ?_
 refine sd (by omega) ?_
 refine st .here (ay.Ck _ _ (by omega) _) rfl ?_
 refine XO.v (V.build (vs:= #[(0,.int .i64 (-1)),(1,.int .i64 (-1)),(2,.int .i64 (-1))]) rfl (v:=.agg (GV.arr ⟨-1,-1,-1,0,0⟩)) (fun _=>by kernel_rfl)) rfl (gO ?_)
 refine sd (by omega) ?_
 refine jA .here (C4 _ _ (by omega) _) rfl ⟨rfl,rfl⟩ ?_
 refine XE.aV rfl rfl (ab .h1 rfl ?_)
 try dsimp only[SW.den,SV.den,aj,aZ]
 exact⟨_,rfl,rfl⟩
end Go.X.Gr

namespace Go.X.Fa
open Go Go.Proofs Go.X
set_option maxRecDepth 20000
set_option maxHeartbeats 4000000
theorem F8:kV Tryz.prog 254 2=true:=by kernel_rfl
theorem Ey:dx Tryz.prog 254=some 2:=by kernel_rfl
theorem yY(k i k2 i2:Int):Spec Tryz.prog 243 [.agg #[.int .u64 (k),.int .i64 (i)],.agg #[.int .u64 (k2),.int .i64 (i2)]] [] (fun v H1=>v= .bool (decide (k7 k i k2 i2))∧H1=[]):=by
  refine Spec.go 24 [2,3,4] [] Tryz.func243 rfl rfl rfl ?_
  intro W
  refine XO.box (m:=2) (C:=jF k i) rfl rfl (oT _ _) rfl ?_
  intro ba
  refine gO ?_
  refine XO.box (m:=2) (C:=jF k2 i2) rfl rfl (oT _ _) rfl ?_
  intro bc
  refine gO ?_
  refine ld (.there .here) (lW _ _) ?_
  refine ld .here (lW _ _) ?_
  refine sp 10 rfl ?_ ?_<;>intro h1
  · skip
    refine XE.aV rfl rfl (ab .nil rfl ?_)
    try dsimp only[SW.den,SV.den,aj,aZ]
    refine⟨congrArg Value.bool ?_,rfl⟩
    first
    | exact(decide_eq_true (.inl (by assumption))).symm
    | exact(decide_eq_false (by unfold k7;omega)).symm
    | (have e:k7 k i k2 i2↔i<i2:=by unfold k7;omega
       simp only[e])
  · skip
    refine ld (.there .here) (lW _ _) ?_
    refine ld .here (lW _ _) ?_
    refine sp 16 rfl ?_ ?_<;>intro h2
    · skip
      refine ld (.there .here) (nX _ _) ?_
      refine ld .here (nX _ _) ?_
      refine XE.aV rfl rfl (ab .nil rfl ?_)
      try dsimp only[SW.den,SV.den,aj,aZ]
      refine⟨congrArg Value.bool ?_,rfl⟩
      first
      | exact(decide_eq_true (.inl (by assumption))).symm
      | exact(decide_eq_false (by unfold k7;omega)).symm
      | (have e:k7 k i k2 i2↔i<i2:=by unfold k7;omega
         simp only[e])
    · skip
      refine XE.aV rfl rfl (ab .nil rfl ?_)
      try dsimp only[SW.den,SV.den,aj,aZ]
      refine⟨congrArg Value.bool ?_,rfl⟩
      first
      | exact(decide_eq_true (.inl (by assumption))).symm
      | exact(decide_eq_false (by unfold k7;omega)).symm
      | (have e:k7 k i k2 i2↔i<i2:=by unfold k7;omega
         simp only[e])
theorem rF(b o g cap:Nat)(s:QS)(i k id:Int)(hi:0≤i∧i<s.n)(hd:0≤id∧id<64)(hn:s.n≤1000):Spec Tryz.prog 224 [ptr b o 0,.int .i64 i,.agg #[.int .u64 (k),.int .i64 (id)]] [.cells b o 65 (dC (s) (some ⟨g,0,none⟩) cap),bj (some ⟨g,0,none⟩) cap 254 2 (s).n (dZ (s))] (fun v H1=>v= .tuple #[]∧H1=[.cells b o 65 (dC (s.set i k id) (some ⟨g,0,none⟩) cap),bj (some ⟨g,0,none⟩) cap 254 2 (s.set i k id).n (dZ (s.set i k id))]):=by
 refine Spec.go 21 [0,1,5] [] Tryz.func224 rfl rfl rfl ?_
 intro W
 refine XO.box (m:=2) (C:=jF k id) rfl rfl (oT _ _) rfl ?_
 intro bx
 refine gO ?_
 refine rq [0,1,2,3,4,5,6,7] mixed (by kernel_rfl) ?_
 refine ld (.there .here) (dY _ _ _) ?_
 refine nc .here (fe _ _) ?_
 refine sd (by omega) ?_
 refine NO (.t2 .here) (GC _ _ _ _ _ (by omega)) rfl ⟨rfl,rfl⟩ ?_
 refine rq [0,1,2,3,4,5,6,7,8] mixed (by kernel_rfl) ?_
 refine ld .here (nX _ _) ?_
 refine sd (by omega) ?_
 refine sd (by omega) ?_
 refine st (.there .here) (qH _ _ _ _ _ (by omega)) rfl ?_
 refine XE.fD rfl (ab (.cons (.there .here) (.cons (.there .here) .nil)) rfl ?_)
 try dsimp only[SW.den,SV.den,aj,aZ]
 exact⟨rfl,rfl⟩
theorem Nd(b o g cap:Nat)(s:QS)(i:Int)(hi:0≤i∧i<s.n)(hR:s.Jm)(hn:s.n≤1000):Spec Tryz.prog 223 [ptr b o 0,.int .i64 i] [.cells b o 65 (dC (s) (some ⟨g,0,none⟩) cap),bj (some ⟨g,0,none⟩) cap 254 2 (s).n (dZ (s))] (fun v H1=>v= .tuple #[]∧H1=[.cells b o 65 (dC (s.up i) (some ⟨g,0,none⟩) cap),bj (some ⟨g,0,none⟩) cap 254 2 (s.up i).n (dZ (s.up i))]):=by
 obtain⟨r1,r2⟩:=hR i hi.1 hi.2
 refine Spec.go 46 [0,1,4,26] [] Tryz.func223 rfl rfl rfl ?_
 intro W
 refine ld .here (dY _ _ _) ?_
 refine sd (by omega) ?_
 refine px (.there .here) (fl _ _ _ (by omega)) ?_
 refine XO.cY (z:=.agg #[.int .u64 0,.int .i64 0]) (m:=2) (C:=cellsOf #[.int .u64 0,.int .i64 0]) (by kernel_rfl) rfl (fun _ _=>rfl) rfl ?_
 intro bx
 refine gO ?_
 refine jA .here (oF _ _) rfl ⟨rfl,rfl⟩ ?_
 refine lp (σ:=QS×Int) (fun x=>x.2.toNat) (fun x=>x.1.n=s.n∧(0≤x.2∧x.2<s.n)∧x.1.Jm∧QS.sN x.2.toNat x.1 x.2 (s.K i) (s.I i)=s.up i) (fun x=>[(1,.int .i64 x.2),(0,ptr b o 0),(4,ptr bx 0 0)]) (fun x=>XM W (bS [.cells b o 65 (dC (s) (some ⟨g,0,none⟩) cap),bj (some ⟨g,0,none⟩) cap 254 2 (s).n (dZ (s))]) [.cells bx 0 2 (jF (s.K i) (s.I i)),.cells b o 65 (dC (x.1) (some ⟨g,0,none⟩) cap),bj (some ⟨g,0,none⟩) cap 254 2 (x.1).n (dZ (x.1))]) ((s,i)) ?_ (S3 rfl rfl rfl) (fun _ hw=>XM.pick .h3 hw) ?_
 ·
  exact⟨rfl,hi,hR,rfl⟩
 intro x hx
 obtain⟨xn,xi,xR,xu⟩:=hx
 refine gC ?_
 refine rq [0,1,2,3,4,5,6,7,8,9,10,11,12,13,14] mixed (by kernel_rfl) ?_
 refine sp 14 rfl ?_ ?_<;>intro h1
 ·
  have hp0:0≤((x.2-1)/2)∧((x.2-1)/2)<x.1.n:=by omega
  have hpr:=xR ((x.2-1)/2) hp0.1 hp0.2
  refine nc .here (fe _ _) ?_
  refine ld (.there .here) (dY _ _ _) ?_
  refine sd (by omega) ?_
  refine XO.v (V.quo rfl rfl (by first | decide | omega) _ (vJ (by omega) (by omega) (by omega))) rfl (gO ?_)
  refine sd (by omega) ?_
  refine px (.t2 .here) (fl _ _ _ (by omega)) ?_
  refine ca (yY _ _ _ _) .nil ?_
  rintro _ _ ⟨rfl,rfl⟩
  refine gO ?_
  refine cd rfl ?_ ?_<;>intro h2
  ·
   have hst:QS.sN x.2.toNat x.1 x.2 (s.K i) (s.I i)=QS.sN (((x.2-1)/2)).toNat (x.1.set x.2 (x.1.K ((x.2-1)/2)) (x.1.I ((x.2-1)/2))) ((x.2-1)/2) (s.K i) (s.I i):=QS.G3 (by omega) h2
   refine ld (.there .here) (dY _ _ _) ?_
   refine sd (by omega) ?_
   refine XO.v (V.quo rfl rfl (by first | decide | omega) _ (vJ (by omega) (by omega) (by omega))) rfl (gO ?_)
   refine sd (by omega) ?_
   refine px (.t2 .here) (fl _ _ _ (by omega)) ?_
   refine ca (rF _ _ _ _ _ _ _ _ (by omega) (by omega) (by omega)) (.cons (.there .here) (.cons (.there .here) .nil)) ?_
   rintro _ _ ⟨rfl,rfl⟩
   refine gO ?_
   refine sd (by omega) ?_
   refine XO.v (V.quo rfl rfl (by first | decide | omega) _ (vJ (by omega) (by omega) (by omega))) rfl (gO ?_)
   refine ag ((x.1.set x.2 (x.1.K ((x.2-1)/2)) (x.1.I ((x.2-1)/2)),((x.2-1)/2))) ?_ ?_ (S3 rfl rfl rfl) (fun _ hw=>XM.pick (.cons (.t2 .here) .h2) hw)
   ·
    (show(((x.2-1)/2)).toNat<x.2.toNat;omega)
   ·
    exact⟨xn,by simp;omega,xR.set hpr,by rw[←xu,hst]⟩
  ·
   have hst:QS.sN x.2.toNat x.1 x.2 (s.K i) (s.I i)=x.1.set x.2 (s.K i) (s.I i):=QS.xF (fun q=>h2 q.2)
   rw[hst]at xu
   refine nc .here (fe _ _) ?_
   refine ca (rF _ _ _ _ _ _ _ _ (by omega) (by omega) (by omega)) (.cons (.there .here) (.cons (.there .here) .nil)) ?_
   rintro _ _ ⟨rfl,rfl⟩
   refine gO ?_
   refine XE.fD rfl (ab .h2 rfl ?_)
   try dsimp only[SW.den,SV.den,aj,aZ]
   rw[←xu];exact⟨rfl,rfl⟩
 ·
  have hst:QS.sN x.2.toNat x.1 x.2 (s.K i) (s.I i)=x.1.set x.2 (s.K i) (s.I i):=QS.xF (fun q=>by omega)
  rw[hst]at xu
  refine nc .here (fe _ _) ?_
  refine ca (rF _ _ _ _ _ _ _ _ (by omega) (by omega) (by omega)) (.cons (.there .here) (.cons (.there .here) .nil)) ?_
  rintro _ _ ⟨rfl,rfl⟩
  refine gO ?_
  refine XE.fD rfl (ab .h2 rfl ?_)
  try dsimp only[SW.den,SV.den,aj,aZ]
  rw[←xu];exact⟨rfl,rfl⟩
theorem Kg(b o g cap:Nat)(s:QS)(i:Int)(hi:0≤i∧i<s.n)(hR:s.Jm)(hn:s.n≤1000):Spec Tryz.prog 225 [ptr b o 0,.int .i64 i] [.cells b o 65 (dC (s) (some ⟨g,0,none⟩) cap),bj (some ⟨g,0,none⟩) cap 254 2 (s).n (dZ (s))] (fun v H1=>v= .tuple #[]∧H1=[.cells b o 65 (dC (s.down i) (some ⟨g,0,none⟩) cap),bj (some ⟨g,0,none⟩) cap 254 2 (s.down i).n (dZ (s.down i))]):=by
 obtain⟨r1,r2⟩:=hR i hi.1 hi.2
 refine Spec.go 78 [0,1,4,5,41,62] [(2,1)] Tryz.func225 rfl rfl rfl ?_
 intro W
 refine ld .here (dY _ _ _) ?_
 refine sd (by omega) ?_
 refine px (.there .here) (fl _ _ _ (by omega)) ?_
 refine XO.cY (z:=.agg #[.int .u64 0,.int .i64 0]) (m:=2) (C:=cellsOf #[.int .u64 0,.int .i64 0]) (by kernel_rfl) rfl (fun _ _=>rfl) rfl ?_
 intro bx
 refine gO ?_
 refine jA .here (oF _ _) rfl ⟨rfl,rfl⟩ ?_
 refine lp (σ:=QS×Int) (fun x=>s.n-x.2.toNat) (fun x=>x.1.n=s.n∧(0≤x.2∧x.2<s.n)∧x.1.Jm∧QS.fq (x.1.n-x.2.toNat) x.1 x.2 (s.K i) (s.I i)=s.down i) (fun x=>[(1,.int .i64 x.2),(0,ptr b o 0),(4,ptr bx 0 0)]) (fun x=>XM W (bS [.cells b o 65 (dC (s) (some ⟨g,0,none⟩) cap),bj (some ⟨g,0,none⟩) cap 254 2 (s).n (dZ (s))]) [.cells bx 0 2 (jF (s.K i) (s.I i)),.cells b o 65 (dC (x.1) (some ⟨g,0,none⟩) cap),bj (some ⟨g,0,none⟩) cap 254 2 (x.1).n (dZ (x.1))]) ((s,i)) ?_ (S3 rfl rfl rfl) (fun _ hw=>XM.pick .h3 hw) ?_
 ·
  exact⟨rfl,hi,hR,rfl⟩
 intro x hx
 obtain⟨xn,xi,xR,xu⟩:=hx
 refine gC ?_
 refine sd (by omega) ?_
 refine sd (by omega) ?_
 refine ct [(0,ptr b o 0),(1,.int .i64 x.2),(4,ptr bx 0 0),(5,.int .i64 (x.1.child x.2))] (XM W (bS [.cells b o 65 (dC (s) (some ⟨g,0,none⟩) cap),bj (some ⟨g,0,none⟩) cap 254 2 (s).n (dZ (s))]) [.cells bx 0 2 (jF (s.K i) (s.I i)),.cells b o 65 (dC (x.1) (some ⟨g,0,none⟩) cap),bj (some ⟨g,0,none⟩) cap 254 2 (x.1).n (dZ (x.1))]) ?_ ?_
 ·
  refine rq [0,1,2,3,4,5,6,7,8,9,10,11,12,13,14,15,16,17,18,19,20,21,22,23,24,25] mixed (by kernel_rfl) ?_
  refine sd (by omega) ?_
  refine ld (.there .here) (dY _ _ _) ?_
  refine sp 24 rfl ?_ ?_<;>intro h1
  ·
   refine ld (.there .here) (dY _ _ _) ?_
   refine sd (by omega) ?_
   refine sd (by omega) ?_
   refine px (.t2 .here) (fl _ _ _ (by omega)) ?_
   refine ld (.there .here) (dY _ _ _) ?_
   refine sd (by omega) ?_
   refine px (.t2 .here) (fl _ _ _ (by omega)) ?_
   refine ca (yY _ _ _ _) .nil ?_
   rintro _ _ ⟨rfl,rfl⟩
   refine gO ?_
   refine cd rfl ?_ ?_<;>intro h2
   ·
    have hc:2*x.2+1+1=(x.1.child x.2):=by unfold QS.child;rw[if_pos ⟨by omega,h2⟩]
    refine sd (by omega) ?_
    refine mt (S4 rfl rfl rfl (sV hc)) (fun _ hw=>XM.pick .h3 hw)
   ·
    have hc:2*x.2+1=(x.1.child x.2):=by unfold QS.child;rw[if_neg (fun q=>h2 q.2)]
    refine mt (S4 rfl rfl rfl (sV hc)) (fun _ hw=>XM.pick .h3 hw)
  ·
   have hc:2*x.2+1=(x.1.child x.2):=by unfold QS.child;rw[if_neg (fun q=>by omega)]
   refine mt (S4 rfl rfl rfl (sV hc)) (fun _ hw=>XM.pick .h3 hw)
 have hcc:x.2<(x.1.child x.2):=by rcases x.1.dL x.2 with⟨e,_⟩ | ⟨e,_⟩<;>omega
 have hpr:=xR (x.1.child x.2) (by omega)
 have hcu:(x.1.child x.2)≤2*x.2+2:=by rcases x.1.dL x.2 with⟨e,_⟩ | ⟨e,_⟩<;>omega
 refine gC ?_
 refine rq [0,1,2,3,4,5,6,7,8,9,10,11,12,13,14,15,16,17,18] mixed (by kernel_rfl) ?_
 refine ld (.there .here) (dY _ _ _) ?_
 refine sp 51 rfl ?_ ?_<;>intro h3
 ·
  have hst:QS.fq (x.1.n-x.2.toNat) x.1 x.2 (s.K i) (s.I i)=x.1.set x.2 (s.K i) (s.I i):=QS.qx (fun q=>by omega)
  rw[hst]at xu
  refine nc .here (fe _ _) ?_
  refine ca (rF _ _ _ _ _ _ _ _ (by omega) (by omega) (by omega)) (.cons (.there .here) (.cons (.there .here) .nil)) ?_
  rintro _ _ ⟨rfl,rfl⟩
  refine gO ?_
  refine XE.fD rfl (ab .h2 rfl ?_)
  try dsimp only[SW.den,SV.den,aj,aZ]
  rw[←xu];exact⟨rfl,rfl⟩
 ·
  have hpr:=hpr (by omega)
  refine ld (.there .here) (dY _ _ _) ?_
  refine sd (by omega) ?_
  refine px (.t2 .here) (fl _ _ _ (by omega)) ?_
  refine nc .here (fe _ _) ?_
  refine ca (yY _ _ _ _) .nil ?_
  rintro _ _ ⟨rfl,rfl⟩
  refine gO ?_
  refine cd rfl ?_ ?_<;>intro h4
  ·
   have hst:QS.fq (x.1.n-x.2.toNat) x.1 x.2 (s.K i) (s.I i)=x.1.set x.2 (s.K i) (s.I i):=QS.qx (fun q=>h4 q.2)
   rw[hst]at xu
   refine nc .here (fe _ _) ?_
   refine ca (rF _ _ _ _ _ _ _ _ (by omega) (by omega) (by omega)) (.cons (.there .here) (.cons (.there .here) .nil)) ?_
   rintro _ _ ⟨rfl,rfl⟩
   refine gO ?_
   refine XE.fD rfl (ab .h2 rfl ?_)
   try dsimp only[SW.den,SV.den,aj,aZ]
   rw[←xu];exact⟨rfl,rfl⟩
  ·
   have hst:=QS.zk (s:=x.1) (k:=s.K i) (id:=s.I i) xi.1 (by omega) (by omega) (Decidable.not_not.mp h4)
   refine ld (.there .here) (dY _ _ _) ?_
   refine sd (by omega) ?_
   refine px (.t2 .here) (fl _ _ _ (by omega)) ?_
   refine ca (rF _ _ _ _ _ _ _ _ (by omega) (by omega) (by omega)) (.cons (.there .here) (.cons (.there .here) .nil)) ?_
   rintro _ _ ⟨rfl,rfl⟩
   refine gO ?_
   refine ag ((x.1.set x.2 (x.1.K (x.1.child x.2)) (x.1.I (x.1.child x.2)),(x.1.child x.2))) ?_ ?_ (S3 rfl rfl rfl) (fun _ hw=>XM.pick (.cons (.t2 .here) .h2) hw)
   ·
    (show s.n-(x.1.child x.2).toNat<s.n-x.2.toNat;omega)
   ·
    exact⟨xn,by simp;omega,xR.set hpr,by rw[←xu,hst];rfl⟩
theorem JB(b o cap:Nat)(p:Option Addr)(s:QS)(hO:s.Ok)(id key:Int):Spec Tryz.prog 188 [ptr b o 0,.int .i64 id,.int .u64 key] [.cells b o 65 (dC (s) p cap),bj p cap 254 2 (s).n (dZ (s))] (fun v H1=>∃ p1 c1,v=bM 102 (s.put id key).1∧H1=[.cells b o 65 (dC ((s.put id key).2) p1 c1),bj p1 c1 254 2 ((s.put id key).2).n (dZ ((s.put id key).2))]):=by
 refine Spec.go 42 [0,1,2,6,12,20] [] Tryz.func188 rfl rfl rfl ?_
 intro W
 refine sp 9 rfl ?_ ?_<;>intro h1
 ·
  refine XE.aV rfl rfl (ab .h2 rfl ?_)
  try dsimp only[SW.den,SV.den,aj,aZ]
  rw[QS.jP (by omega)];exact⟨_,_,rfl,rfl⟩
 ·
  refine cd rfl ?_ ?_<;>intro h2
  ·
   refine XE.aV rfl rfl (ab .h2 rfl ?_)
   try dsimp only[SW.den,SV.den,aj,aZ]
   rw[QS.jP (by omega)];exact⟨_,_,rfl,rfl⟩
  ·
   refine sd (by omega) ?_
   refine ld .here (ni _ _ _ _ (by omega)) ?_
   refine cd rfl ?_ ?_<;>intro h3
   ·
    refine XE.aV rfl rfl (ab .h2 rfl ?_)
    try dsimp only[SW.den,SV.den,aj,aZ]
    rw[QS.lM (by omega) (by omega)];exact⟨_,_,rfl,rfl⟩
   ·
    have hat:=hO.at2 id (by omega) (by omega)
    have hroom:=hO.room (id:=id) (by omega) (by omega)
    refine ld .here (dY _ _ _) ?_
    refine XO.v (V.build (vs:= #[(0,.int .u64 key),(1,.int .i64 id)]) rfl (v:=.agg #[.int .u64 key,.int .i64 id]) (fun _=>by kernel_rfl)) rfl (gO ?_)
    refine XO.buildSlice (e:=254) (vs:= #[(0,.agg #[.int .u64 key,.int .i64 id])]) (A:= #[.int .u64 key,.int .i64 id]) rfl (fun _=>by kernel_rfl) rfl rfl ?_
    intro h4
    refine gO ?_
    refine XO.AA (e:=254) (C2:=dZ (s.more key id)) rfl rfl Tryz.underlying183 F8 (.there (.there .here)) .here rfl rfl (by omega) (by omega) (Dk s key id) rfl ?_
    intro p1 c1
    refine gO ?_
    refine st (.t2 .here) (D5 s _ _ _ _ key id) rfl ?_
    refine XR.db .here (by omega) ?_
    intro g1 h5
    subst h5
    have hn1:(s.more key id).n=s.n+1:=rfl
    have hR:(s.more key id).Jm:=fun j j0 j1=>by
     show 0≤aa s.I s.n id j∧aa s.I s.n id j<64
     unfold aa;split
     ·omega
     ·exact hO.gL j j0 (by omega)
    refine ld (.t2 .here) (show 0+0<65∧dC (s.more key id) _ _ (0+0)= .slice _ (s.n+1) _ from⟨by omega,rfl⟩) ?_
    refine oV ?_
    refine XO.v (V.sub rfl rfl (s.n:Int) (by rw[show((s.n+1:Nat):Int)-1=s.n from by omega];exact IntWalk.i64_in _ (by omega))) rfl (gO ?_)
    refine ca (Nd _ _ _ _ (s.more key id) _ (by omega) hR (by omega)) (.cons (.t2 .here) .h1) ?_
    rintro _ _ ⟨rfl,rfl⟩
    refine gO ?_
    refine XE.aV rfl rfl (ab .h2 rfl ?_)
    try dsimp only[SW.den,SV.den,aj,aZ]
    rw[QS.lC (by omega) (by omega)];exact⟨_,_,rfl,rfl⟩
theorem JI(b o cap:Nat)(p:Option Addr)(s:QS)(hO:s.Ok)(hH:s.Heap)(id:Int):Spec Tryz.prog 189 [ptr b o 0,.int .i64 id] [.cells b o 65 (dC (s) p cap),bj p cap 254 2 (s).n (dZ (s))] (fun v H1=>∃ p1 c1,v= .tuple #[.int .u64 (s.cut id).1,bM 102 (s.cut id).2.1]∧H1=[.cells b o 65 (dC ((s.cut id).2.2) p1 c1),bj p1 c1 254 2 ((s.cut id).2.2).n (dZ ((s.cut id).2.2))]):=by
 refine Spec.go 83 [0,1,4,5,6,7,8,9,15,25,64] [] Tryz.func189 rfl rfl rfl ?_
 intro W
 refine sp 12 rfl ?_ ?_<;>intro h1
 ·
  refine XE.bC rfl rfl rfl (ab .h2 rfl ?_)
  try dsimp only[SW.den,SV.den,aj,aZ]
  rw[QS.pe (by omega)];exact⟨_,_,rfl,rfl⟩
 ·
  refine cd rfl ?_ ?_<;>intro h2
  ·
   refine XE.bC rfl rfl rfl (ab .h2 rfl ?_)
   try dsimp only[SW.den,SV.den,aj,aZ]
   rw[QS.pe (by omega)];exact⟨_,_,rfl,rfl⟩
  ·
   have hat:=hO.at2 id (by omega) (by omega)
   have hn64:=hO.n64
   refine sd (by omega) ?_
   refine ld .here (ni _ _ _ _ (by omega)) ?_
   refine sd (by omega) ?_
   refine cd rfl ?_ ?_<;>intro h3
   ·
    refine XE.bC rfl rfl rfl (ab .h2 rfl ?_)
    try dsimp only[SW.den,SV.den,aj,aZ]
    rw[QS.vT (by omega) (by omega)];exact⟨_,_,rfl,rfl⟩
   ·
    refine XR.db (.there .here) (by omega) ?_
    intro g1 h4
    subst h4
    refine ld .here (dY _ _ _) ?_
    refine sd (by omega) ?_
    refine Jw (.there .here) (ns _ _ _ (by omega)) ?_
    refine ld .here (dY _ _ _) ?_
    refine sd (by omega) ?_
    refine ld .here (dY _ _ _) ?_
    refine sd (by omega) ?_
    refine px (.there .here) (fl _ _ _ (by omega)) ?_
    refine XO.cY (z:=.agg #[.int .u64 0,.int .i64 0]) (m:=2) (C:=cellsOf #[.int .u64 0,.int .i64 0]) (by kernel_rfl) rfl (fun _ _=>rfl) rfl ?_
    intro bx
    refine gO ?_
    refine jA .here (oF _ _) rfl ⟨rfl,rfl⟩ ?_
    refine XR.L0 (.t2 .here) ?_
    intro hcap
    refine ld (.there .here) (dY _ _ _) ?_
    refine XO.Lg (k2:=s.n-1) (C':=dZ (s.cP id)) rfl rfl Tryz.underlying183 Ey (by omega) (by omega) hcap (fun _ _=>rfl) (.t2 .here) rfl (gO ?_)
    refine st (.there .here) (uF _ _ _ _ _ _) rfl ?_
    refine sd (by omega) ?_
    refine st (.there .here) (EC s _ _ id (by omega)) rfl ?_
    refine cd rfl ?_ ?_<;>intro h5
    ·
     have hn1:(s.cP id).n=s.n-1:=rfl
     obtain⟨m1,m2,m3,q,m4,_,m5⟩:=hO.Oz hH (xk:=s.K ((s.n:Int)-1)) (id:=id) (by omega) (by omega) rfl rfl (by omega)
     have hr9:=hO.gL ((s.n:Int)-1) (by omega) (by omega)
     have m6:(((s.cP id).set (s.at_ id-1) (s.K ((s.n:Int)-1)) (s.I ((s.n:Int)-1))).down (s.at_ id-1)).n=((s.cP id).set (s.at_ id-1) (s.K ((s.n:Int)-1)) (s.I ((s.n:Int)-1))).n:=QS.J4 _ _
     have m7:((s.cP id).set (s.at_ id-1) (s.K ((s.n:Int)-1)) (s.I ((s.n:Int)-1))).n=s.n-1:=rfl
     refine nc .here (fe _ _) ?_
     refine ca (rF _ _ _ _ (s.cP id) _ _ _ (by omega) (by omega) (by omega)) (.cons (.there .here) (.cons (.there .here) .nil)) ?_
     rintro _ _ ⟨rfl,rfl⟩
     refine gO ?_
     refine ca (Kg _ _ _ _ ((s.cP id).set (s.at_ id-1) (s.K ((s.n:Int)-1)) (s.I ((s.n:Int)-1))) _ (by omega) (fun j j0 j1=>m1.gL j j0 j1) (by omega)) .h2 ?_
     rintro _ _ ⟨rfl,rfl⟩
     refine gO ?_
     refine rq [0,1,2,3,4,5,6,7,8,9] mixed (by kernel_rfl) ?_
     refine ld (.t2 .here) (nX _ _) ?_
     refine sd (by omega) ?_
     refine ld .here (ni _ _ _ _ (by omega)) ?_
     refine sd (by omega) ?_
     refine ca (Nd _ _ _ _ (((s.cP id).set (s.at_ id-1) (s.K ((s.n:Int)-1)) (s.I ((s.n:Int)-1))).down (s.at_ id-1)) _ (by omega) (fun j j0 j1=>m2.gL j j0 j1) (by omega)) .h2 ?_
     rintro _ _ ⟨rfl,rfl⟩
     refine gO ?_
     refine XE.bC rfl rfl rfl (ab .h2 rfl ?_)
     try dsimp only[SW.den,SV.den,aj,aZ]
     rw[QS.qZ (by omega) (by omega)]
     unfold QS.mz
     rw[if_pos (by omega)]
     exact⟨_,_,rfl,rfl⟩
    ·
     refine XE.bC rfl rfl rfl (ab (.cons (.there .here) (.cons (.there .here) .nil)) rfl ?_)
     try dsimp only[SW.den,SV.den,aj,aZ]
     rw[QS.qZ (by omega) (by omega)]
     unfold QS.mz
     rw[if_neg (by omega)]
     exact⟨_,_,rfl,rfl⟩
theorem M6(b o cap:Nat)(p:Option Addr)(s:QS)(hO:s.Ok)(id:Int):Spec Tryz.prog 186 [ptr b o 0,.int .i64 id] [.cells b o 65 (dC (s) p cap),bj p cap 254 2 (s).n (dZ (s))] (fun v H1=>v= .tuple #[.int .u64 (s.key id).1,bM 102 (s.key id).2]∧H1=[.cells b o 65 (dC (s) p cap),bj p cap 254 2 (s).n (dZ (s))]):=by
 refine Spec.go 35 [0,1,4,5,11,19] [] Tryz.func186 rfl rfl rfl ?_
 intro W
 refine sp 8 rfl ?_ ?_<;>intro h1
 ·
  refine XE.bC rfl rfl rfl (ab .h2 rfl ?_)
  try dsimp only[SW.den,SV.den,aj,aZ]
  rw[QS.pt (by omega)];exact⟨rfl,rfl⟩
 ·
  refine cd rfl ?_ ?_<;>intro h2
  ·
   refine XE.bC rfl rfl rfl (ab .h2 rfl ?_)
   try dsimp only[SW.den,SV.den,aj,aZ]
   rw[QS.pt (by omega)];exact⟨rfl,rfl⟩
  ·
   refine sd (by omega) ?_
   refine ld .here (ni _ _ _ _ (by omega)) ?_
   refine cd rfl ?_ ?_<;>intro h3
   ·
    refine XE.bC rfl rfl rfl (ab .h2 rfl ?_)
    try dsimp only[SW.den,SV.den,aj,aZ]
    rw[QS.ya (by omega) (by omega)];exact⟨rfl,rfl⟩
   ·
    have hat:=hO.at2 id (by omega) (by omega)
    have hn64:=hO.n64
    refine XR.db (.there .here) (by omega) ?_
    intro g1 h4
    subst h4
    refine rq [0,1,2,3,4,5,6,7,8,9,10,11,12,13,14,15] mixed (by kernel_rfl) ?_
    refine ld .here (dY _ _ _) ?_
    refine sd (by omega) ?_
    refine ld .here (ni _ _ _ _ (by omega)) ?_
    refine sd (by omega) ?_
    refine sd (by omega) ?_
    refine Jw (.there .here) (ns _ _ _ (by omega)) ?_
    refine XE.bC rfl rfl rfl (ab .h2 rfl ?_)
    try dsimp only[SW.den,SV.den,aj,aZ]
    rw[QS.vZ (by omega) (by omega)];exact⟨rfl,rfl⟩
theorem Aa(b o cap:Nat)(p:Option Addr)(s:QS):Spec Tryz.prog 182 [ptr b o 0] [.cells b o 65 (dC (s) p cap),bj p cap 254 2 (s).n (dZ (s))] (fun v H1=>v= .tuple #[.int .i64 s.first.1,.int .u64 s.first.2.1,.bool s.first.2.2]∧H1=[.cells b o 65 (dC (s) p cap),bj p cap 254 2 (s).n (dZ (s))]):=by
 refine Spec.go 25 [0,2,3,4,10] [] Tryz.func182 rfl rfl rfl ?_
 intro W
 refine ld .here (dY _ _ _) ?_
 refine cd rfl ?_ ?_<;>intro h1
 ·
  refine XE.s9 rfl rfl rfl rfl (ab .h2 rfl ?_)
  try dsimp only[SW.den,SV.den,aj,aZ]
  have e:s.first=(0,0,false):=by unfold QS.first;rw[if_pos (by omega)]
  rw[e];exact⟨rfl,rfl⟩
 ·
  refine XR.db (.there .here) (by omega) ?_
  intro g1 h2
  subst h2
  refine rq [0,1,2,3,4,5,6,7,8,9,10,11,12,13,14,15,16] mixed (by kernel_rfl) ?_
  refine ld .here (dY _ _ _) ?_
  refine sd (by omega) ?_
  refine Jw (.there .here) (Bl _ _ _ (by omega)) ?_
  refine ld .here (dY _ _ _) ?_
  refine sd (by omega) ?_
  refine Jw (.there .here) (ns _ _ _ (by omega)) ?_
  refine XE.s9 rfl rfl rfl rfl (ab .h2 rfl ?_)
  try dsimp only[SW.den,SV.den,aj,aZ]
  have e:s.first=(s.I 0,s.K 0,true):=by unfold QS.first;rw[if_neg (by omega)]
  rw[e];exact⟨rfl,rfl⟩
theorem Nh(b o cap:Nat)(p:Option Addr)(s:QS):Spec Tryz.prog 222 [ptr b o 0] [.cells b o 65 (dC (s) p cap),bj p cap 254 2 (s).n (dZ (s))] (fun v H1=>v= .int .i64 (s.n:Int)∧H1=[.cells b o 65 (dC (s) p cap),bj p cap 254 2 (s).n (dZ (s))]):=by
 refine Spec.go 8 [0,2] [] Tryz.func222 rfl rfl rfl ?_
 intro W
 refine ld .here (dY _ _ _) ?_
 refine XE.aV rfl rfl (ab .h2 rfl ?_)
 try dsimp only[SW.den,SV.den,aj,aZ]
 exact⟨rfl,rfl⟩
end Go.X.Fa
