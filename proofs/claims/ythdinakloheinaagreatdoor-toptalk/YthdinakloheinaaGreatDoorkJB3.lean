import Derived.Test.YthdinakloheinaaGreatDoorkNOW2
import Derived.Test.YthdinakloheinaaGreatDoorkJA
import Derived.Shelf.Strings.Split
import Derived.Test.YthdinakloheinaaGreatDoorProg
import Derived.Ground.NamesProg
import Derived.Shelf.Lays
import Derived.Test.YthdinakloheinaaGreatDoorkNW6
import Derived.Test.YthdinakloheinaaGreatDoorXFam
import Derived.Test.YthdinakloheinaaGreatDoorkNFP
import Derived.Test.YthdinakloheinaaGreatDoorkKW5
namespace Go.X.Tr
open Go Go.Proofs Go.X
set_option maxRecDepth 20000
set_option maxHeartbeats 4000000
theorem Le(bo oo bf bp:Nat)(O:OS)(K:Int)(hK:K≤1000000)(q:PS)(hq:q.Inv K):Spec Tryz.prog 68 [ptr bo oo 0] [.cells bo oo 122 (az bf bp O),.cells bp 0 24 (au q)] (fun v H1=>v= .tuple #[.int .i64 (fH q O),.int .i64 (gl q O),bH 102 (eI q O)]∧H1=[.cells bo oo 122 (az bf bp (gj q O)),.cells bp 0 24 (au (gm q O))]):=by
 refine Spec.go 48 [0,2,3,4,5,6,7,11,22] [] Tryz.func68 rfl rfl rfl ?_
 intro W
 refine ca (Kx _ _ _ _ _ _) .h1 ?_
 rintro _ _ (⟨f0,rfl,rfl⟩ | ⟨f0,p1,c1,rfl,rfl⟩)
 ·
  refine gO ?_
  refine XO.v (V.rm rfl Tryz.underlying55 rfl) rfl (gO ?_)
  refine L4 rfl (rfl) ?_
  refine XE.sE rfl rfl rfl rfl (ab .h2 rfl ?_)
  try dsimp only[SW.den,SV.den,aj,aL]
  have hf:=OS.Dm f0
  have e:eI q O=4:=by unfold eI;rw[if_pos hf]
  have eV:fH q O=0:=by unfold fH;rw[if_neg (by omega)]
  have eU:gl q O=0:=by unfold gl;rw[if_neg (by omega)]
  have eO:gj q O=O:=by unfold gj;rw[if_neg (by omega)]
  have eP:gm q O=q:=by unfold gm;rw[if_pos hf]
  exact⟨by rw[e,eV,eU];rfl,by rw[eO,eP]⟩
 ·
  obtain⟨hf1,hf2,hf4⟩:=OS.Cm f0
  have hf3:=OS.jL hf1
  have hf5:0≤O.second∧O.second<24:=⟨by omega,(OS.jL (s:=O.lay O.first 2 0 false) hf2).2.1⟩
  have hf6:¬(O.first<0∨O.second<0):=by omega
  rw[hf4]
  refine gO ?_
  refine XR.cZ .here (by show 0<2;omega) ?_
  intro g hg
  subst hg
  refine XO.v (V.rm rfl Tryz.underlying55 rfl) rfl (gO ?_)
  refine xV rfl (by simp) ?_
  refine ld (.there .here) (az.CU _) ?_
  refine ca (LW _ _ K hK q hq) (.cons (.t2 .here) .nil) ?_
  rintro _ _ ⟨rfl,rfl⟩
  refine gO ?_
  refine cd rfl ?_ ?_<;>intro h1
  ·
   refine XE.sE rfl rfl rfl rfl (ab (.cons (.t2 .here) .h1) rfl ?_)
   try dsimp only[SW.den,SV.den,aj,aL]
   have e:eI q O=q.make.2.1:=by unfold eI;rw[if_neg hf6]
   have eV:fH q O=0:=by unfold fH;rw[if_neg (by omega)]
   have eU:gl q O=0:=by unfold gl;rw[if_neg (by omega)]
   have eO:gj q O=O:=by unfold gj;rw[if_neg (by omega)]
   have eP:gm q O=q.make.2.2:=by unfold gm;rw[if_neg hf6]
   exact⟨by rw[e,eV,eU],by rw[eO,eP]⟩
  ·
   refine rq [0,1,2,3,4,5,6,7,8,9] mixed (by kernel_rfl) ?_
   refine sd (by show(0:Int)≤0∧(0:Int)<2;omega) ?_
   refine D6 (.there .here) (DA _ _) ?_
   refine XO.v (V.build (vs:= #[(0,.int .i64 2),(1,.int .i64 q.make.1),(4,.int .i64 1)]) rfl (v:=.agg (az.arr ⟨2,q.make.1,0,false,1⟩)) (fun _=>by kernel_rfl)) rfl (gO ?_)
   refine sd ⟨hf3.1,hf3.2.1⟩ ?_
   refine jV (.t2 .here) (az.put O O.first 2 q.make.1 false 1 ⟨hf3.1,hf3.2.1⟩) rfl ⟨rfl,rfl⟩ ?_
   refine rq [0,1,2,3,4,5,6,7,8,9] mixed (by kernel_rfl) ?_
   refine sd (by show(0:Int)≤1∧(1:Int)<2;omega) ?_
   refine D6 (.there .here) (Fc _ _) ?_
   refine XO.v (V.build (vs:= #[(0,.int .i64 3),(1,.int .i64 q.make.1),(4,.int .i64 1)]) rfl (v:=.agg (az.arr ⟨3,q.make.1,0,false,1⟩)) (fun _=>by kernel_rfl)) rfl (gO ?_)
   refine sd hf5 ?_
   refine jV (.t2 .here) (az.put (O.lay O.first 2 q.make.1 false) O.second 3 q.make.1 false 1 hf5) rfl ⟨rfl,rfl⟩ ?_
   refine rq [0,1,2,3,4,5,6,7,8] mixed (by kernel_rfl) ?_
   refine sd (by show(0:Int)≤0∧(0:Int)<2;omega) ?_
   refine D6 (.there .here) (DA _ _) ?_
   refine sd (by show(0:Int)≤1∧(1:Int)<2;omega) ?_
   refine D6 (.there .here) (Fc _ _) ?_
   refine XE.sE rfl rfl rfl rfl (ab (.cons (.t2 .here) .h1) rfl ?_)
   try dsimp only[SW.den,SV.den,aj,aL]
   have hz:q.make.2.1=0:=Decidable.byContradiction (by assumption)
   have e:eI q O=0:=by unfold eI;rw[if_neg hf6,hz]
   have eV:fH q O=O.first:=by unfold fH;rw[if_pos e]
   have eU:gl q O=O.second:=by unfold gl;rw[if_pos e]
   have eO:gj q O=(O.lay O.first 2 q.make.1 false).lay O.second 3 q.make.1 false:=by unfold gj;rw[if_pos e]
   have eP:gm q O=q.make.2.2:=by unfold gm;rw[if_neg hf6]
   exact⟨by rw[e,eV,eU];rfl,by rw[eO,eP];rfl⟩
end Go.X.Tr

namespace Go.X.Tr
open Go Go.Shelf Go.RowKit Go.Lib Go.Proofs Go.X
set_option maxRecDepth 20000
set_option maxHeartbeats 4000000
section
variable {P:Program} {ρ:Ren}
end
end Go.X.Tr


namespace Go.Proofs
open Go.Shelf
end Go.Proofs

namespace Go.X.Tr
open Go Go.Proofs Go.X
set_option maxRecDepth 20000
set_option maxHeartbeats 4000000
theorem Ld:jF Tryz.prog 163=true:=by kernel_rfl
theorem DY:de Tryz.prog 163=some 2:=by kernel_rfl
end Go.X.Tr

namespace Go.X.Tr
open Go Go.Proofs Go.X
set_option maxRecDepth 20000
set_option maxHeartbeats 4000000
end Go.X.Tr

namespace Go.X.Tr
open Go Go.Proofs Go.X
set_option maxRecDepth 20000
set_option maxHeartbeats 4000000
end Go.X.Tr

namespace Go.X.Tr
open Go Go.Proofs Go.X
set_option maxRecDepth 20000
set_option maxHeartbeats 4000000
theorem E6:cO Tryz.prog 166 0=some 0:=by kernel_rfl
theorem El:cO Tryz.prog 166 1=some 1:=by kernel_rfl
theorem EA:cO Tryz.prog 166 2=some 3:=by kernel_rfl
theorem DT:kV Tryz.prog 168 4=true:=by kernel_rfl
theorem Kl:fY Tryz.prog 164=true:=by kernel_rfl
theorem Ns:fY Tryz.prog 95=true:=by kernel_rfl
theorem L8(bf:Nat)(s:FC)(d:Int→Nat)(B:Int)(hO:s.toFF.Ok d B)(hB:B≤900000)(t:Int):Spec Tryz.prog 102 [ptr bf 0 0,.int .i64 t] [.cells bf 0 321 (ay s),.fam ai (FC.aD 9 s),.fam ai (FC.aF 3 s),aZ (FC.rP s) (FC.rC s) 3 (FC.toFF s).roots] (fun v H1=>(s.iK t≠0∧v= .tuple #[.pointer none,bH 102 (s.iK t)]∧H1=[.cells bf 0 321 (ay s),.fam ai (FC.aD 9 s),.fam ai (FC.aF 3 s),aZ (FC.rP s) (FC.rC s) 3 (FC.toFF s).roots])∨(s.iK t=0∧∃ (bt:Nat) (u:FC),v= .tuple #[ptr bt 0 0,.nilIface]∧u.toFF=s.toFF.hold (s.ed t)∧u.rP=s.rP∧u.rC=s.rC∧H1=[.cells bt 0 4 (aB bf ⟨t,s.ed t⟩ (.slice none 0 0)),aR none 0 168 4 0 C0,.cells bf 0 321 (ay u),.fam ai (FC.aD 9 u),.fam ai (FC.aF 3 u),aZ (FC.rP s) (FC.rC s) 3 (FC.toFF s).roots])):=by
 have hI:=hO.sh (by omega)
 refine Spec.go 26 [0,1,4,5,6,7,15] [] Tryz.func102 rfl rfl rfl ?_
 intro W
 refine ca (J4 _ _ _ hI _) (.cons .here (.cons (.t2 .here) .nil)) ?_
 rintro _ _ ⟨rfl,rfl⟩
 refine gO ?_
 refine cd rfl ?_ ?_<;>intro h1
 ·
  refine XE.aU rfl rfl rfl (ab (.cons .here (.cons (.there .here) (.cons (.there .here) .h1))) rfl ?_)
  try dsimp only[SW.den,SV.den,aj,aL]
  exact .inl ⟨by assumption,rfl,rfl⟩
 ·
  refine ca (uS _ _ _ hI _) (.cons .here (.cons (.there .here) (.cons (.there .here) .nil))) ?_
  rintro _ _ ⟨rfl,u,hu,pu,cu,rfl⟩
  refine gO ?_
  refine XO.v (V.build (vs:= #[(0,.int .i64 t),(1,.int .i64 (s.ed t))]) rfl (v:=.agg (WH.arr ⟨t,s.ed t⟩)) (fun _=>by kernel_rfl)) rfl (gO ?_)
  refine XO.v (V.build (vs:= #[(0,ptr bf 0 0),(1,.agg (WH.arr ⟨t,s.ed t⟩))]) rfl (v:=.agg (KD bf ⟨t,s.ed t⟩ (.slice none 0 0))) (fun _=>by kernel_rfl)) rfl (gO ?_)
  refine XO.box (m:=4) (C:=aB bf ⟨t,s.ed t⟩ (.slice none 0 0)) rfl rfl (aB.box _ _ _) rfl ?_
  intro bt
  refine gO ?_
  refine XR.dG 168 4 ?_
  refine XE.aU rfl rfl rfl (ab (.cons (.there .here) .h5) rfl ?_)
  try dsimp only[SW.den,SV.den,aj,aL]
  exact .inr ⟨Decidable.byContradiction (by assumption),bt,u,rfl,hu,pu,cu,rfl⟩
theorem Kw(bt bf:Nat)(r:WH)(l:List MT)(p:Option Addr)(cap k c:Nat)(C:Nat→Value)(hv:RV.ok ⟨p,cap,k,l.length,c,C⟩)(hC:MC C l)(hm6:l.length≤6)(s:FC)(d:Int→Nat)(B:Int)(hO:s.toFF.Ok d B)(hB:B≤900000):Spec Tryz.prog 55 [ptr bt 0 0] [.cells bt 0 4 (aB bf r (.slice p l.length c)),aR p cap 168 4 k C,.cells bf 0 321 (ay s),.fam ai (FC.aD 9 s),.fam ai (FC.aF 3 s)] (fun v H1=>∃ (bt2:Nat) (p2:Option Addr) (cap2 k2 c2:Nat) (C2:Nat→Value) (u:FC),v=ptr bt2 0 0∧RV.ok ⟨p2,cap2,k2,l.length,c2,C2⟩∧MC C2 l∧u.toFF=GJ s.toFF l r∧u.toFF.Ok d (B+13)∧u.rP=s.rP∧u.rC=s.rC∧H1=[.cells bt2 0 4 (aB bf r (.slice p2 l.length c2)),aR p2 cap2 168 4 k2 C2,.cells bt 0 4 (aB bf r (.slice p l.length c)),aR p cap 168 4 k C,.cells bf 0 321 (ay u),.fam ai (FC.aD 9 u),.fam ai (FC.aF 3 u)]):=by
 have hlk:=RV.E3 hv
 have hlk:l.length≤k:=hlk
 have hI:=hO.sh (by omega)
 refine Spec.go 58 [0,2,3,5,34,35,36,37] [] Tryz.func55 rfl rfl rfl ?_
 intro W
 refine XC.iu mixed (f:=16) (l:= #[false,false,false,false,false,false,false,false,false,false,false,false,false,false,false,false]) rfl rfl XM.lj ?_
 refine XQ.pv (i:=0) (l':= #[true,false,false,false,false,false,false,false,false,false,false,false,false,false,false,false]) rfl (by kernel_rfl) rfl (V.move rfl) rfl rfl ?_
 refine XQ.pv (i:=1) (l':= #[true,true,false,false,false,false,false,false,false,false,false,false,false,false,false,false]) rfl (by kernel_rfl) rfl (V.bI rfl) rfl rfl ?_
 refine XQ.pv (i:=2) (l':= #[true,true,true,false,false,false,false,false,false,false,false,false,false,false,false,false]) rfl (by kernel_rfl) rfl (V.fieldAddr rfl E6) rfl rfl ?_
 refine XQ.load (i:=3) (l':= #[true,true,true,true,false,false,false,false,false,false,false,false,false,false,false,false]) (.cells _ _ _ _) [14] rfl (by kernel_rfl) rfl .here (V.load rfl ea (aB.G5 _ _) Ns) rfl (by kernel_rfl) rfl ?_
 refine XQ.pv (i:=4) (l':= #[true,true,true,true,true,false,false,false,false,false,false,false,false,false,false,false]) rfl (by kernel_rfl) rfl (V.move rfl) rfl rfl ?_
 refine XQ.pv (i:=5) (l':= #[true,true,true,true,true,true,false,false,false,false,false,false,false,false,false,false]) rfl (by kernel_rfl) rfl (V.bI rfl) rfl rfl ?_
 refine XQ.pv (i:=6) (l':= #[true,true,true,true,true,true,true,false,false,false,false,false,false,false,false,false]) rfl (by kernel_rfl) rfl (V.fieldAddr rfl El) rfl rfl ?_
 refine XQ.load (i:=7) (l':= #[true,true,true,true,true,true,true,true,false,false,false,false,false,false,false,false]) (.cells _ _ _ _) [14] rfl (by kernel_rfl) rfl .here (V.gu rfl ea (aB.ld1 _ _) Ld DY) rfl (by kernel_rfl) rfl ?_
 refine XQ.pv (i:=8) (l':= #[true,true,true,true,true,true,true,true,true,false,false,false,false,false,false,false]) rfl (by kernel_rfl) rfl (V.move rfl) rfl rfl ?_
 refine XQ.pv (i:=9) (l':= #[true,true,true,true,true,true,true,true,true,true,false,false,false,false,false,false]) rfl (by kernel_rfl) rfl (V.bI rfl) rfl rfl ?_
 refine XQ.pv (i:=10) (l':= #[true,true,true,true,true,true,true,true,true,true,true,false,false,false,false,false]) rfl (by kernel_rfl) rfl (V.fieldAddr rfl EA) rfl rfl ?_
 refine XQ.load (i:=11) (l':= #[true,true,true,true,true,true,true,true,true,true,true,true,false,false,false,false]) (.cells _ _ _ _) [12,14] rfl (by kernel_rfl) rfl .here (V.load rfl ea (aB.NG _ _) Kl) rfl (by kernel_rfl) rfl ?_
 refine XQ.g (i:=12) (l':= #[true,true,true,true,true,true,true,true,true,true,true,true,true,false,false,false]) rfl (by kernel_rfl) rfl (RG.clone (e:=168) (v:=⟨p,cap,k,l.length,c,C⟩) hv rfl Tryz.underlying164 DT (.there .here) (by show l.length≤_;omega)) rfl (fun _ _ hw'=>⟨fun hs=>(hs 12 (by first | (simp;done) | (simp;rfl)) rfl).elim,fun _=>dm (.there .here) _ hw',fun _=>dm (.there .here) _ hw',trivial⟩) ?_
 intro u hu
 obtain⟨hu1,hu2,hu3⟩:=hu
 obtain⟨p2,cap2,k2,len2,c2,C2⟩:=u
 have hu2:len2=l.length:=hu2
 subst hu2
 have hC2:MC C2 l:=hC.copy hu3
 have hlk2:l.length≤k2:=RV.E3 hu1
 refine XQ.pv (i:=13) (l':= #[true,true,true,true,true,true,true,true,true,true,true,true,true,true,false,false]) rfl (by kernel_rfl) rfl (V.build (vs:= #[(0,ptr bf 0 0),(1,.agg (WH.arr r)),(2,.slice p2 l.length c2)]) rfl (v:=.agg (KD bf r (.slice p2 l.length c2))) (fun _=>by kernel_rfl)) rfl rfl ?_
 refine XQ.g (i:=14) (l':= #[true,true,true,true,true,true,true,true,true,true,true,true,true,true,true,false]) rfl (by kernel_rfl) rfl (RG.box (m:=4) (C:=aB bf r (.slice p2 l.length c2)) rfl rfl (aB.box _ _ _)) rfl (fun _ _ hw'=>⟨fun hs=>(hs 12 (by first | (simp;done) | (simp;rfl)) rfl).elim,fun hs=>(hs 14 (by first | (simp;done) | (simp;rfl)) rfl).elim,fun hs=>(hs 14 (by first | (simp;done) | (simp;rfl)) rfl).elim,trivial⟩) ?_
 intro bt2 _
 refine XQ.pv (i:=15) (l':= #[true,true,true,true,true,true,true,true,true,true,true,true,true,true,true,true]) rfl (by kernel_rfl) rfl (V.assign rfl) rfl rfl ?_
 refine XQ.done (by kernel_rfl) ?_
 refine gE ?_
 refine rq [0,1,2,3,4,5,6,7,8,9] mixed (by kernel_rfl) ?_
 refine ld .here (aB.G5 _ _) ?_
 refine ld .here (aB.Mh _ _) ?_
 refine ca (uS _ _ s hI _) (.cons (.t4 .here) (.cons (.t4 .here) (.cons (.t4 .here) .nil))) ?_
 rintro _ _ ⟨rfl,u0,hu0,pu0,cu0,rfl⟩
 have hO0:u0.toFF.Ok d (B+1):=by rw[hu0];exact hO.hold r.node
 refine gO ?_
 refine ld (.t3 .here) (aB.NG _ _) ?_
 refine lp (σ:=FC×Int) (fun x=>(l.length-x.2).toNat) (fun x=>nH x.1.toFF (l.drop x.2.toNat)=GJ s.toFF l r∧x.1.toFF.Ok d (B+1+2*x.2)∧x.1.rP=s.rP∧x.1.rC=s.rC∧0≤x.2∧x.2≤l.length) (fun x=>[(36,.int .i64 x.2),(3,ptr bt2 0 0),(34,.slice p2 l.length c2),(35,.int .i64 l.length)]) (fun x=>XM W (bR [.cells bt 0 4 (aB bf r (.slice p l.length c)),aR p cap 168 4 k C,.cells bf 0 321 (ay s),.fam ai (FC.aD 9 s),.fam ai (FC.aF 3 s)]) [.cells bt2 0 4 (aB bf r (.slice p2 l.length c2)),aR p2 cap2 168 4 k2 C2,.cells bt 0 4 (aB bf r (.slice p l.length c)),aR p cap 168 4 k C,.cells bf 0 321 (ay x.1),.fam ai (FC.aD 9 x.1),.fam ai (FC.aF 3 x.1)]) ((u0,0)) ?_ (S4 rfl rfl rfl rfl) (fun _ hw=>XM.pick (.cons (.t3 .here) (.cons (.t3 .here) (.cons (.t3 .here) (.cons (.t3 .here) .h3)))) hw) ?_
 ·
  exact⟨by show nH u0.toFF l=_;rw[hu0];rfl,by simpa using hO0,pu0,cu0,by simp,by simp⟩
 intro x hx
 obtain⟨hh,hOx,hxp,hxc,hx0,hx1⟩:=hx
 refine gC ?_
 refine cd rfl ?_ ?_<;>intro h1
 ·
  refine XR.cZ (.there .here) (by omega) ?_
  intro g hg
  subst hg
  refine sd (by omega) ?_
  refine ou (.there .here) (hC2.ld hlk2 _ (by omega)) ?_
  refine XO.cY (z:=.agg (MT.arr MT.nil)) (m:=4) (C:=dP MT.nil) (by kernel_rfl) rfl (dP.box _) rfl ?_
  intro bm
  refine gO ?_
  refine jV .here (dP.st _ _) rfl ⟨rfl,rfl⟩ ?_
  refine rq [0,1,2,3,4,5,6,7] mixed (by kernel_rfl) ?_
  refine ld (.there .here) (aB.G5 _ _) ?_
  refine ld .here (dP.Mw _) ?_
  refine ca (uS _ _ x.1 (hOx.sh (by omega)) _) (.cons (.t5 .here) (.cons (.t5 .here) (.cons (.t5 .here) .nil))) ?_
  rintro _ _ ⟨rfl,u1,hu1x,pu1,cu1,rfl⟩
  refine gO ?_
  refine rq [0,1,2,3,4,5,6,7] mixed (by kernel_rfl) ?_
  have hO1:u1.toFF.Ok d (B+1+2*x.2+1):=by rw[hu1x];exact hOx.hold (xU l x.2).at_.node
  refine ld (.t4 .here) (aB.G5 _ _) ?_
  refine ld (.t3 .here) (dP.Nd _) ?_
  refine ca (uS _ _ u1 (hO1.sh (by omega)) _) .h3 ?_
  rintro _ _ ⟨rfl,u2,hu2x,pu2,cu2,rfl⟩
  refine gO ?_
  refine sd (by omega) ?_
  refine ag ((u2,x.2+1)) ?_ ?_ (S4 rfl rfl rfl rfl) (fun _ hw=>XM.pick (.cons (.t4 .here) (.cons (.t4 .here) (.cons (.t4 .here) (.cons (.t4 .here) .h3)))) hw)
  ·
   (simp;omega)
  ·
   exact⟨by rw[←hh,zc (i:=x.2) ⟨by omega,by omega⟩];show nH u2.toFF _=_;rw[hu2x,hu1x],by have h9:=hO1.hold (xU l x.2).to.node;rw[show B+1+2*(x.2+1)=B+1+2*x.2+1+1 from by omega];show u2.toFF.Ok d _;rw[hu2x];exact h9,by show u2.rP=_;rw[pu2,pu1,hxp],by show u2.rC=_;rw[cu2,cu1,hxc],by simp;omega,by simp;omega⟩
 ·
  refine XE.aK rfl rfl (ab .h7 rfl ?_)
  try dsimp only[SW.den,SV.den,aj,aL]
  have e:x.2=l.length:=by omega
  rw[e]at hh
  exact⟨bt2,p2,cap2,k2,c2,C2,x.1,rfl,hu1,hC2,by rw[←hh,Cn],⟨hOx.inv,fun n a b=>Int.le_trans (hOx.held n a b) (by omega),by have:=hOx.nn;omega⟩,hxp,hxc,rfl⟩
theorem Ip(bt bf:Nat)(r:WH)(l:List MT)(p:Option Addr)(cap k c:Nat)(C:Nat→Value)(hv:RV.ok ⟨p,cap,k,l.length,c,C⟩)(hC:MC C l)(hm6:l.length≤6)(s:FC)(d:Int→Nat)(B:Int)(hO:s.toFF.Ok d B)(hB:B≤900000):Spec Tryz.prog 133 [ptr bt 0 0] [.cells bt 0 4 (aB bf r (.slice p l.length c)),aR p cap 168 4 k C,.cells bf 0 321 (ay s),.fam ai (FC.aD 9 s),.fam ai (FC.aF 3 s)] (fun v H1=>v= .tuple #[]∧∃ u:FC,u.toFF=uY s.toFF l r∧u.toFF.Ok d (B+13)∧u.rP=s.rP∧u.rC=s.rC∧H1=[.cells bt 0 4 (aB bf r (.slice none 0 0)),aR none 0 168 4 0 C0,.cells bf 0 321 (ay u),.fam ai (FC.aD 9 u),.fam ai (FC.aF 3 u)]):=by
 have hlk:=RV.E3 hv
 have hlk:l.length≤k:=hlk
 refine Spec.go 43 [0,3,7,8,9,10] [] Tryz.func133 rfl rfl rfl ?_
 intro W
 refine ld .here (aB.NG _ _) ?_
 refine lp (σ:=FC×Int) (fun x=>(l.length-x.2).toNat) (fun x=>sH x.1.toFF (l.drop x.2.toNat)=sH s.toFF l∧x.1.toFF.Ok d (B+2*x.2)∧x.1.rP=s.rP∧x.1.rC=s.rC∧0≤x.2∧x.2≤l.length) (fun x=>[(9,.int .i64 x.2),(0,ptr bt 0 0),(7,.slice p l.length c),(8,.int .i64 l.length)]) (fun x=>XM W (bR [.cells bt 0 4 (aB bf r (.slice p l.length c)),aR p cap 168 4 k C,.cells bf 0 321 (ay s),.fam ai (FC.aD 9 s),.fam ai (FC.aF 3 s)]) [.cells bt 0 4 (aB bf r (.slice p l.length c)),aR p cap 168 4 k C,.cells bf 0 321 (ay x.1),.fam ai (FC.aD 9 x.1),.fam ai (FC.aF 3 x.1)]) ((s,0)) ?_ (S4 rfl rfl rfl rfl) (fun _ hw=>XM.pick .h5 hw) ?_
 ·
  exact⟨rfl,by simpa using hO,rfl,rfl,by simp,by simp⟩
 intro x hx
 obtain⟨hh,hOx,hxp,hxc,hx0,hx1⟩:=hx
 refine gC ?_
 refine cd rfl ?_ ?_<;>intro h1
 ·
  refine XR.cZ (.there .here) (by omega) ?_
  intro g hg
  subst hg
  refine sd (by omega) ?_
  refine ou (.there .here) (hC.ld hlk _ (by omega)) ?_
  refine XO.cY (z:=.agg (MT.arr MT.nil)) (m:=4) (C:=dP MT.nil) (by kernel_rfl) rfl (dP.box _) rfl ?_
  intro bm
  refine gO ?_
  refine jV .here (dP.st _ _) rfl ⟨rfl,rfl⟩ ?_
  refine rq [0,1,2,3,4,5,6,7] mixed (by kernel_rfl) ?_
  refine ld (.there .here) (aB.G5 _ _) ?_
  refine ld .here (dP.Mw _) ?_
  refine ca (zJ _ _ x.1 (hOx.sh (by omega)) _) (.cons (.t3 .here) (.cons (.t3 .here) (.cons (.t3 .here) .nil))) ?_
  rintro _ _ ⟨rfl,u1,hu1,pu1,cu1,rfl⟩
  refine gO ?_
  refine rq [0,1,2,3,4,5,6,7] mixed (by kernel_rfl) ?_
  have hO1:u1.toFF.Ok d (B+2*x.2+1):=by rw[hu1];exact hOx.gU (xU l x.2).at_.node
  refine ld (.t4 .here) (aB.G5 _ _) ?_
  refine ld (.t3 .here) (dP.Nd _) ?_
  refine ca (zJ _ _ u1 (hO1.sh (by omega)) _) .h3 ?_
  rintro _ _ ⟨rfl,u2,hu2,pu2,cu2,rfl⟩
  refine gO ?_
  refine sd (by omega) ?_
  refine ag ((u2,x.2+1)) ?_ ?_ (S4 rfl rfl rfl rfl) (fun _ hw=>XM.pick (.cons (.t4 .here) (.cons (.t4 .here) .h3)) hw)
  ·
   (simp;omega)
  ·
   exact⟨by rw[←hh,C8 (i:=x.2) ⟨by omega,by omega⟩];show sH u2.toFF _=_;rw[hu2,hu1],by have h9:=hO1.gU (xU l x.2).to.node;rw[show B+2*(x.2+1)=B+2*x.2+1+1 from by omega];show u2.toFF.Ok d _;rw[hu2];exact h9,by show u2.rP=_;rw[pu2,pu1,hxp],by show u2.rC=_;rw[cu2,cu1,hxc],by simp;omega,by simp;omega⟩
 ·
  refine rq [0,1,2,3,4,5,6,7,8,9] mixed (by kernel_rfl) ?_
  refine ld .here (aB.G5 _ _) ?_
  refine ld .here (aB.Mh _ _) ?_
  refine ca (zJ _ _ x.1 (hOx.sh (by omega)) _) (.cons (.t2 .here) (.cons (.t2 .here) (.cons (.t2 .here) .nil))) ?_
  rintro _ _ ⟨rfl,u3,hu3,pu3,cu3,rfl⟩
  refine gO ?_
  refine XR.dG 168 4 ?_
  refine st (.t4 .here) (aB.st2 _ _ _) rfl ?_
  refine XE.fC rfl (ab (.cons (.t4 .here) .h4) rfl ?_)
  try dsimp only[SW.den,SV.den,aj,aL]
  have e:x.2=l.length:=by omega
  rw[e,FL]at hh
  have h9:=hOx.gU r.node
  exact⟨rfl,u3,by rw[hu3,hh];rfl,by rw[hu3];exact⟨h9.inv,fun n a b=>Int.le_trans (h9.held n a b) (by omega),by have:=h9.nn;omega⟩,by rw[pu3,hxp],by rw[cu3,hxc],rfl⟩
end Go.X.Tr

namespace Go.X.Tr
open Go Go.Proofs Go.X
set_option maxRecDepth 20000
set_option maxHeartbeats 4000000
theorem jd:fY Tryz.prog 3=true:=by kernel_rfl
end Go.X.Tr

namespace Go.X.Kn
open Go Go.Proofs Go.X
set_option maxRecDepth 20000
set_option maxHeartbeats 4000000
theorem K5(kb:Nat)(k:KP)(n:Int)(hn:0≤n∧n<20)(x:Int)(hx:0≤x):Spec Tryz.prog 67 [ptr kb 0 (0+0+n.toNat*22),.int .i64 x] [.cells kb 0 453 (ah k)] (fun v H1=>v= .int .i64 (fc (k.u n).fd x)∧H1=[.cells kb 0 453 (ah k)]):=by
 refine Spec.go 19 [0,1,4,5,8,17] [] Tryz.func67 rfl rfl rfl ?_
 intro W
 refine lp (σ:=Int) (fun i=>(6-i).toNat) (fun i=>0≤i∧x≤i∧∀ j:Int,0≤j→x≤j→j<i→(k.u n).fd j≠0) (fun i=>[(5,.int .i64 i),(0,ptr kb 0 (0+0+n.toNat*22))]) (fun i=>XM W (bR [.cells kb 0 453 (ah k)]) [.cells kb 0 453 (ah k)]) (x) ?_ (S2 rfl rfl) (fun _ hw=>XM.pick .h1 hw) ?_
 ·
  exact⟨hx,by omega,fun j a1 a2 a3=>by omega⟩
 intro i hi
 obtain⟨hi0,hxi,hno⟩:=hi
 refine gC ?_
 refine cd rfl ?_ ?_<;>intro h1
 ·
  refine sd (by omega) ?_
  refine ld .here (ah.GQ _ (by omega) (by omega)) ?_
  refine cd rfl ?_ ?_<;>intro h2
  ·
   refine XE.aK rfl rfl (ab .h1 rfl ?_)
   try dsimp only[SW.den,SV.den,aj,aL]
   exact⟨by rw[Bp ⟨hi0,hxi,by omega⟩ (by assumption) hno],rfl⟩
  ·
   refine sd (by omega) ?_
   refine ag (i+1) ?_ ?_ (S2 rfl rfl) (fun _ hw=>XM.pick .h1 hw)
   ·
    (first | omega | (simp;done) | (simp;omega))
   ·
    refine⟨by omega,by omega,fun j a1 a2 a3=> ?_⟩
    by_cases e:j=i
    ·subst e;assumption
    ·exact hno j a1 a2 (by omega)
 ·
  refine XE.aK rfl rfl (ab .h1 rfl ?_)
  try dsimp only[SW.den,SV.den,aj,aL]
  exact⟨by rw[zw (fun j a1 a2 a3=>hno j a1 a2 (by omega))],rfl⟩
theorem Lw(kb:Nat)(k:KP)(n i:Int)(hf:∀ n i,0≤(k.u n).fd i∧(k.u n).fd i≤24):Spec Tryz.prog 69 [ptr kb 0 0,.int .i64 n,.int .i64 i] [.cells kb 0 453 (ah k)] (fun v H1=>v= .tuple #[.int .i64 (k.cn n i),bH 102 (k.cI n i)]∧H1=[.cells kb 0 453 (ah k)]):=by
  have hf1:=hf n i
  refine Spec.go 41 [0,1,2,6,7,8,9,17,24,32] [] Tryz.func69 rfl rfl rfl ?_
  intro W
  refine ca (lD kb _ _) .h1 ?_
  rintro _ _ ⟨⟨hl,rfl⟩ | ⟨hl,rfl⟩,rfl⟩
  · skip
    try dsimp only[aT,aV,bu,bj,bk,bd,aW,bh,aY,aX,aP,aN,aQ,aO]
    obtain⟨hlr,hls⟩:=KP.gi hl
    refine gO ?_
    refine sp 21 rfl ?_ ?_<;>intro h1
    · skip
      refine XE.aU rfl rfl rfl (ab .h1 rfl ?_)
      try dsimp only[SW.den,SV.den,aj,aL]
      first
        | (have e:k.cI n i=1:=by unfold KP.cI;rw[if_neg (by omega),if_pos (by omega)]
           have e2:k.cn n i=0:=by unfold KP.cn;rw[e]<;>rfl
           rw[e,e2];exact⟨rfl,rfl⟩)
        | (have e:k.cI n i=0:=by unfold KP.cI;rw[if_neg (by omega),if_neg (by omega),if_neg (by omega)]
           rw[(KP.k7 e).2.2.2.2,e];exact⟨rfl,rfl⟩)
    · skip
      refine cd rfl ?_ ?_<;>intro h2
      · skip
        refine XE.aU rfl rfl rfl (ab .h1 rfl ?_)
        try dsimp only[SW.den,SV.den,aj,aL]
        first
          | (have e:k.cI n i=1:=by unfold KP.cI;rw[if_neg (by omega),if_pos (by omega)]
             have e2:k.cn n i=0:=by unfold KP.cn;rw[e]<;>rfl
             rw[e,e2];exact⟨rfl,rfl⟩)
          | (have e:k.cI n i=0:=by unfold KP.cI;rw[if_neg (by omega),if_neg (by omega),if_neg (by omega)]
             rw[(KP.k7 e).2.2.2.2,e];exact⟨rfl,rfl⟩)
      · skip
        refine sd (by omega) ?_
        refine ld .here (ah.GQ _ (by omega) (by omega)) ?_
        refine cd rfl ?_ ?_<;>intro h3
        · skip
          refine XE.aU rfl rfl rfl (ab .h1 rfl ?_)
          try dsimp only[SW.den,SV.den,aj,aL]
          have e:k.cI n i=2:=by unfold KP.cI;rw[if_neg (by omega),if_neg (by omega),if_pos (by omega)]
          have e2:k.cn n i=0:=by unfold KP.cn;rw[e]<;>rfl
          rw[e,e2];exact⟨rfl,rfl⟩
        · skip
          refine sd (by omega) ?_
          refine ld .here (ah.GQ _ (by omega) (by omega)) ?_
          refine sd (by omega) ?_
          refine XE.aU rfl rfl rfl (ab .h1 rfl ?_)
          try dsimp only[SW.den,SV.den,aj,aL]
          first
            | (have e:k.cI n i=1:=by unfold KP.cI;rw[if_neg (by omega),if_pos (by omega)]
               have e2:k.cn n i=0:=by unfold KP.cn;rw[e]<;>rfl
               rw[e,e2];exact⟨rfl,rfl⟩)
            | (have e:k.cI n i=0:=by unfold KP.cI;rw[if_neg (by omega),if_neg (by omega),if_neg (by omega)]
               rw[(KP.k7 e).2.2.2.2,e];exact⟨rfl,rfl⟩)
  · skip
    try dsimp only[aT,aV,bu,bj,bk,bd,aW,bh,aY,aX,aP,aN,aQ,aO]
    refine gO ?_
    refine XE.aU rfl rfl rfl (ab .h1 rfl ?_)
    try dsimp only[SW.den,SV.den,aj,aL]
    have e:k.cI n i=k.live n:=by unfold KP.cI;rw[if_pos hl]
    have e2:k.cn n i=0:=by unfold KP.cn;rw[e,if_neg hl]
    rw[e,e2,aJ _ hl];exact⟨rfl,rfl⟩
end Go.X.Kn

namespace Go.X.Kn
open Go Go.Proofs Go.X
set_option maxRecDepth 20000
set_option maxHeartbeats 4000000
set_option maxHeartbeats 16000000 in
theorem yz(a:KA)(b:KZ)(c:KC)(N:Nat)(T:Int)(hw:a.Wk T)(hc:eQ a c N T)(hT:T≤900000)(n co:Int)(hl:(a.u n).st=1):Spec Tryz.prog 129 [ptr b.kb 0 0,.int .i64 n,.int .i64 co] [.cells b.kb 0 453 (ah (kp a b c)),.cells b.gb 0 60 (Gr.aC a.g),.cells b.sb 0 158 (Sp.aB a.s),.cells b.qb 0 2281 (Fa.aq c.q),.fam Fa.aH (Fa.SC.rows 254 c.q),.cells b.bb 0 577 (Vm.bz b.vp a.v.by_ a.v.rf),.cells b.vp 0 71 (Vm.au a.v.bb.bJ),.cfam (bN a) c.mb 34 (cN b.bb a.f c.pp c.cc),.fam (bN a) (rN 171 a.f c.pp c.cc),.cells b.tb 0 321 (Tr.ay c.F),.fam Tr.ai (Tr.FC.aD 9 c.F),.fam Tr.ai (Tr.FC.aF 3 c.F),aZ c.rp c.rc 3 c.rl,.cells b.pi 0 24 (Tr.au a.P),.cells b.ob 0 122 (Tr.az b.tb b.pi a.O),.cfam (bO a) (fun z=>(c.t z).b) 4 (cT b.tb c.t),.fam (bO a) (rT 168 c.t)] (fun v H1=>∃ c1:KC,eQ (a.bG n co) c1 N T∧H1=[.cells b.kb 0 453 (ah (kp (a.bG n co) b c1)),.cells b.gb 0 60 (Gr.aC (a.bG n co).g),.cells b.sb 0 158 (Sp.aB (a.bG n co).s),.cells b.qb 0 2281 (Fa.aq c1.q),.fam Fa.aH (Fa.SC.rows 254 c1.q),.cells b.bb 0 577 (Vm.bz b.vp (a.bG n co).v.by_ (a.bG n co).v.rf),.cells b.vp 0 71 (Vm.au (a.bG n co).v.bb.bJ),.cfam (bN (a.bG n co)) c1.mb 34 (cN b.bb (a.bG n co).f c1.pp c1.cc),.fam (bN (a.bG n co)) (rN 171 (a.bG n co).f c1.pp c1.cc),.cells b.tb 0 321 (Tr.ay c1.F),.fam Tr.ai (Tr.FC.aD 9 c1.F),.fam Tr.ai (Tr.FC.aF 3 c1.F),aZ c1.rp c1.rc 3 c1.rl,.cells b.pi 0 24 (Tr.au (a.bG n co).P),.cells b.ob 0 122 (Tr.az b.tb b.pi (a.bG n co).O),.cfam (bO (a.bG n co)) (fun z=>(c1.t z).b) 4 (cT b.tb c1.t),.fam (bO (a.bG n co)) (rT 168 c1.t)]):=by
 have hn:0≤n∧n<20:=by
  by_cases e:n<0∨20≤n
  ·rw[hw.out n e]at hl;exact absurd hl (by decide)
  ·omega
 have hmem:=yT a b c (n:=n) (by omega)
 have hz:=hw.sys.mo n.toNat (by omega)
 refine Spec.go 70 [0,1,2,6,7,9,10,37,38,39,43] [] Tryz.func129 rfl rfl rfl ?_
 intro W
 refine sd (by omega) ?_
 refine XR.mono (fun _ hw3=>XM.IW (z:=n.toNat) (jv hn (by omega)) (.cons (.t7 .here) (.cons (.t7 .here) .nil)) hw3) ?_
 refine ld (.t4 .here) (ah.np _ (by omega) hmem) ?_
 refine ca (Vm.Gx b.bb b.vp (c.mb n.toNat) a.v hw.sys.acc.ok _ _ (a.f n.toNat) hz (hw.sys.In (by omega)) 0 16) (.cons (.t9 .here) (.cons (.t9 .here) .h2)) ?_
 rintro _ _ ⟨rfl,pu,cu,rfl⟩
 refine gO ?_
 refine rq [0,1,2,3,4,5,6,7,8,9] mixed (by kernel_rfl) ?_
 refine ld (.t6 .here) (ah.BZ _) ?_
 refine ld (.t6 .here) (ah.km _ (by omega)) ?_
 refine ca (Gr.mP _ _ a.g hw.gI.ok _ _ _ (1000*T) (by have:=hw.T0;omega) hw.gS) (.cons (.t7 .here) .nil) ?_
 rintro _ _ ⟨rfl,rfl⟩
 refine gO ?_
 refine mQ (.t7 .here) (ah.yr _ (by omega)) ?_
 refine lp (σ:=Int×Tr.FC) (fun x=>(6-x.1).toNat) (fun x=>(0≤x.1∧x.1≤6)∧x.2.toFF.Ok c.dF T∧x.2.rP=c.rp∧x.2.rC=c.rc∧x.2.roots=c.rl) (fun x=>[(38,.int .i64 x.1),(0,ptr b.kb 0 0),(1,.int .i64 n),(2,.int .i64 co),(6,ptr b.kb 0 (0+0+n.toNat*22)),(37,.agg (Dg (a.u n).fd))]) (fun x=>XM W (bR [.cells b.kb 0 453 (ah (kp a b c)),.cells b.gb 0 60 (Gr.aC a.g),.cells b.sb 0 158 (Sp.aB a.s),.cells b.qb 0 2281 (Fa.aq c.q),.fam Fa.aH (Fa.SC.rows 254 c.q),.cells b.bb 0 577 (Vm.bz b.vp a.v.by_ a.v.rf),.cells b.vp 0 71 (Vm.au a.v.bb.bJ),.cfam (bN a) c.mb 34 (cN b.bb a.f c.pp c.cc),.fam (bN a) (rN 171 a.f c.pp c.cc),.cells b.tb 0 321 (Tr.ay c.F),.fam Tr.ai (Tr.FC.aD 9 c.F),.fam Tr.ai (Tr.FC.aF 3 c.F),aZ c.rp c.rc 3 c.rl,.cells b.pi 0 24 (Tr.au a.P),.cells b.ob 0 122 (Tr.az b.tb b.pi a.O),.cfam (bO a) (fun z=>(c.t z).b) 4 (cT b.tb c.t),.fam (bO a) (rT 168 c.t)]) [.cells b.kb 0 453 (ah ((kp a b c).put n {(kp a b c).u n with fd:=qq (a.u n).fd x.1})),.cells b.gb 0 60 (Gr.aC (a.g.dX (a.u n).grp 0 (a.um n).1)),.cells b.sb 0 158 (Sp.aB a.s),.cells b.qb 0 2281 (Fa.aq c.q),.fam Fa.aH (Fa.SC.rows 254 c.q),.cells b.bb 0 577 (Vm.bz b.vp (a.um n).2.2.1.by_ (a.um n).2.2.1.rf),.cells b.vp 0 71 (Vm.au (a.um n).2.2.1.bb.bJ),.cells (c.mb n.toNat) 0 34 (Vm.bA b.bb pu (Vm.runs (a.um n).2.2.2.aA).length cu (a.um n).2.2.2.fr (a.um n).2.2.2.own),aR pu cu 171 3 (Vm.runs (a.um n).2.2.2.aA).length (Vm.dy (Vm.runs (a.um n).2.2.2.aA)),.cfam (eA (bN a) n.toNat) c.mb 34 (cN b.bb a.f c.pp c.cc),.fam (eA (bN a) n.toNat) (rN 171 a.f c.pp c.cc),.cells b.tb 0 321 (Tr.ay x.2),.fam Tr.ai (Tr.FC.aD 9 x.2),.fam Tr.ai (Tr.FC.aF 3 x.2),aZ c.rp c.rc 3 c.rl,.cells b.pi 0 24 (Tr.au (mf (a.u n).fd a.O a.P x.1.toNat).2),.cells b.ob 0 122 (Tr.az b.tb b.pi (mf (a.u n).fd a.O a.P x.1.toNat).1),.cfam (bO a) (fun z=>(c.t z).b) 4 (cT b.tb c.t),.fam (bO a) (rT 168 c.t)]) ((0,c.F)) ?_ (S6 rfl rfl rfl rfl rfl rfl) (fun _ hw2=>by rw[J3];exact XM.pick (.cons (.t7 .here) (.cons .here (.cons (.t6 .here) (.cons (.t6 .here) (.cons (.t6 .here) .Ol))))) hw2) ?_
 ·
  exact⟨by simp,hc.F,hc.rp,hc.rc,hc.rl⟩
 intro x hx
 obtain⟨hi,hF,hFp,hFc,hFr⟩:=hx
 have hfd:=hw.fd n x.1
 refine gC ?_
 refine cd rfl ?_ ?_<;>intro h1
 ·
  refine XO.v (V.iA rfl rfl Tryz.underlying83 jG jd (by omega)) rfl (gO ?_)
  refine cd rfl ?_ ?_<;>intro h2
  ·
   have h6:=h2
   refine ld .here (ah.B7 _) ?_
   refine sd (by omega) ?_
   refine ca (Tr.Hy _ _ _ _ _ T (by omega) (nA hw.OI hw.PI x.1.toNat).1 x.2 (hF.sh (by omega)) T (by omega) _ (nA hw.OI hw.PI x.1.toNat).2 ((a.u n).fd x.1-1)) (.cons (.t12 (.t4 .here)) (.cons (.t11 .here) (.cons (.t11 .here) (.cons (.t11 .here) (.cons (.t12 .here) .nil))))) ?_
   rintro _ _ ⟨rfl,F1,hF1,hp1,hr1,rfl⟩
   refine gO ?_
   refine sd (by omega) ?_
   refine st (.t5 .here) (ah.Ej _ (by omega) (by omega) _) rfl ?_
   refine sd (by omega) ?_
   refine ag ((x.1+1,F1)) ?_ ?_ (S6 rfl rfl rfl rfl rfl rfl) (fun _ hw2=>by show XM _ _ [_,_,_,_,_,_,_,_,_,_,_,_,_,_,_,.cells b.pi 0 24 (Tr.au (mf (a.u n).fd a.O a.P (x.1+1).toNat).2),.cells b.ob 0 122 (Tr.az b.tb b.pi (mf (a.u n).fd a.O a.P (x.1+1).toNat).1),_,_] _;rw[IB _ _ hi.1 h6,←Lt a b c hi.1 h6];exact XM.pick (.cons (.t5 .here) (.cons (.t5 .here) (.cons (.t5 .here) (.cons (.t5 .here) (.cons (.t5 .here) (.cons (.t5 .here) (.cons (.t5 .here) (.cons (.t5 .here) (.cons (.t5 .here) (.cons (.t5 .here) (.cons (.t5 .here) (.cons (.there .here) (.cons (.there .here) (.cons (.there .here) (.cons (.t2 .here) (.cons (.there .here) .h3)))))))))))))))) hw2)
   ·
    (show(6-(x.1+1)).toNat<(6-x.1).toNat;omega)
   ·
    exact⟨(by show 0≤x.1+1∧x.1+1≤6;omega),(by show F1.toFF.Ok c.dF T;rw[hF1];exact FF.Ok.sf hF _ _),hp1.trans hFp,hr1.trans hFc,(by show F1.toFF.roots=_;rw[hF1,Tr.vy];exact hFr)⟩
  ·
   have h6:=h2
   refine sd (by omega) ?_
   refine ag ((x.1+1,x.2)) ?_ ?_ (S6 rfl rfl rfl rfl rfl rfl) (fun _ hw2=>by show XM _ _ [.cells b.kb 0 453 (ah ((kp a b c).put n {(kp a b c).u n with fd:=qq (a.u n).fd (x.1+1)})),_,_,_,_,_,_,_,_,_,_,_,_,_,_,.cells b.pi 0 24 (Tr.au (mf (a.u n).fd a.O a.P (x.1+1).toNat).2),.cells b.ob 0 122 (Tr.az b.tb b.pi (mf (a.u n).fd a.O a.P (x.1+1).toNat).1),_,_] _;rw[ES _ _ hi.1 h6,←D0 _ h6];exact XM.pick .Mt hw2)
   ·
    (show(6-(x.1+1)).toNat<(6-x.1).toNat;omega)
   ·
    exact⟨(by show 0≤x.1+1∧x.1+1≤6;omega),hF,hFp,hFc,hFr⟩
 ·
  refine ld .here (ah.xJ _) ?_
  refine ca (Fa.yG _ _ c.q c.d hc.qO.inv hc.qR n) (.cons (.t3 .here) (.cons (.t3 .here) .nil)) ?_
  rintro _ _ ⟨rfl,t,ht,hr,rfl⟩
  refine gO ?_
  refine st (.t2 .here) (ah.MV _ (by omega) _) rfl ?_
  refine st (.t2 .here) (ah.IQ _ (by omega) _) rfl ?_
  refine XR.mono (fun _ hw3=>XM.Ar (a.um n).2.2.2 (jv hn (by omega)) (.cons (.t7 .here) (.cons (.t7 .here) (.cons (.t7 .here) (.cons (.t7 .here) .nil)))) hw3) ?_
  refine XE.fC rfl (ab (.cons (.t4 .here) (.cons (.t4 .here) (.cons (.t4 .here) (.cons (.t2 .here) (.cons (.t2 .here) (.cons (.t2 .here) (.cons (.t2 .here) .Hj))))))) rfl ?_)
  try dsimp only[SW.den,SV.den,aj,aL]
  have hx6:x.1=6:=by omega
  refine⟨{c with q:=t,F:=x.2,pp:=bF c.pp n.toNat pu,cc:=bF c.cc n.toNat cu},⟨(by show t.toSF.Ok _ _ _;rw[ht];exact hc.qO.qB (by omega) _),hr,hF,hFp,hFc,hFr,hc.tb⟩,?_⟩
  rw[hx6]
  rw[Ly a b c hl hn,H9 a hl]
  all_goals rfl
end Go.X.Kn

namespace Go.X.Kn
open Go Go.Proofs Go.X
set_option maxRecDepth 20000
set_option maxHeartbeats 4000000
theorem vg(a:KA)(b:KZ)(c:KC)(N:Nat)(T:Int)(hw:a.Wk T)(hc:eQ a c N T)(hT:T≤900000)(n:Int)(hn:0≤n∧n<20)(hs:(a.u n).st≠0):Spec Tryz.prog 64 [ptr b.kb 0 0,.int .i64 n] [.cells b.kb 0 453 (ah (kp a b c)),.cells b.gb 0 60 (Gr.aC a.g),.cells b.sb 0 158 (Sp.aB a.s),.cells b.qb 0 2281 (Fa.aq c.q),.fam Fa.aH (Fa.SC.rows 254 c.q),.cells b.bb 0 577 (Vm.bz b.vp a.v.by_ a.v.rf),.cells b.vp 0 71 (Vm.au a.v.bb.bJ),.cfam (bN a) c.mb 34 (cN b.bb a.f c.pp c.cc),.fam (bN a) (rN 171 a.f c.pp c.cc),.cells b.tb 0 321 (Tr.ay c.F),.fam Tr.ai (Tr.FC.aD 9 c.F),.fam Tr.ai (Tr.FC.aF 3 c.F),aZ c.rp c.rc 3 c.rl,.cells b.pi 0 24 (Tr.au a.P),.cells b.ob 0 122 (Tr.az b.tb b.pi a.O),.cfam (bO a) (fun z=>(c.t z).b) 4 (cT b.tb c.t),.fam (bO a) (rT 168 c.t)] (fun v H1=>H1=[.cells b.kb 0 453 (ah (kp (a.cr n) b c)),.cells b.gb 0 60 (Gr.aC (a.cr n).g),.cells b.sb 0 158 (Sp.aB (a.cr n).s),.cells b.qb 0 2281 (Fa.aq c.q),.fam Fa.aH (Fa.SC.rows 254 c.q),.cells b.bb 0 577 (Vm.bz b.vp (a.cr n).v.by_ (a.cr n).v.rf),.cells b.vp 0 71 (Vm.au (a.cr n).v.bb.bJ),.cfam (bN (a.cr n)) c.mb 34 (cN b.bb (a.cr n).f c.pp c.cc),.fam (bN (a.cr n)) (rN 171 (a.cr n).f c.pp c.cc),.cells b.tb 0 321 (Tr.ay c.F),.fam Tr.ai (Tr.FC.aD 9 c.F),.fam Tr.ai (Tr.FC.aF 3 c.F),aZ c.rp c.rc 3 c.rl,.cells b.pi 0 24 (Tr.au (a.cr n).P),.cells b.ob 0 122 (Tr.az b.tb b.pi (a.cr n).O),.cfam (bO (a.cr n)) (fun z=>(c.t z).b) 4 (cT b.tb c.t),.fam (bO (a.cr n)) (rT 168 c.t)]):=by
 refine Spec.go 28 [0,1] [] Tryz.func64 rfl rfl rfl ?_
 intro W
 refine rq [0,1,2,3,4,5,6,7,8,9,10,11] mixed (by kernel_rfl) ?_
 refine ld .here (ah.BZ _) ?_
 refine sd (by omega) ?_
 refine ld .here (ah.km _ (by omega)) ?_
 refine ca (Gr.mP _ _ a.g hw.gI.ok _ _ _ (1000*T) (by have:=hw.T0;omega) hw.gS) (.cons (.there .here) .nil) ?_
 rintro _ _ ⟨rfl,rfl⟩
 refine gO ?_
 refine ld (.there .here) (ah.nN _) ?_
 refine ca (Sp.G1 _ _ a.s a.dep hw.sI.D n (fun a1 b1 c1=>⟨(hw.sI.loc n).2,hw.sI.at_ n a1 b1 c1⟩) (fun a1 m q e=>by have h9:=hw.sI.mem m q n a1 e;exact⟨h9.2.2.2.2,by omega,h9.2.2.1⟩)) (.cons (.t2 .here) .nil) ?_
 rintro _ _ ⟨rfl,rfl⟩
 refine gO ?_
 refine XO.v (V.build (vs:= #[]) rfl (v:=.agg PU.nil.arr) (fun _=>by kernel_rfl)) rfl (gO ?_)
 refine sd (by omega) ?_
 refine jV (.t2 .here) (ah.sa _ (by omega) PU.nil) rfl ⟨rfl,rfl⟩ ?_
 refine XR.mono (fun _ hw3=>XM.IW (z:=n.toNat) (jv hn hs) (.cons (.t7 .here) (.cons (.t7 .here) .nil)) hw3) ?_
 refine XE.fC rfl (ab (.cons (.t6 .here) (.cons (.t5 .here) (.cons (.t4 .here) (.cons (.t4 .here) (.cons (.t4 .here) (.cons (.t4 .here) (.cons (.t4 .here) (.cons (.t2 .here) (.cons (.t2 .here) (.cons (.t2 .here) (.cons (.t2 .here) (.cons (.t2 .here) (.cons (.t2 .here) (.cons (.t2 .here) (.cons (.t2 .here) (.cons (.t2 .here) (.cons (.t2 .here) .nil))))))))))))))))) rfl ?_)
 try dsimp only[SW.den,SV.den,aj,aL]
 rw[Hu,Fe a hn,Dt]
 all_goals rfl
theorem Ij(a:KA)(b:KZ)(c:KC)(N:Nat)(T:Int)(hw:a.Wk T)(hc:eQ a c N T)(hT:T≤900000)(z:Int)(hd:(a.s.drop z).1=0)(hz:0≤z∧z<6)(hh:a.s.here z=true)(hs:(a.s.drop z).2= {a.s with here:=aa a.s.here z false,par:=aa a.s.par z 0}):Spec Tryz.prog 65 [ptr b.kb 0 0,.int .i64 z] [.cells b.kb 0 453 (ah (kp a b c)),.cells b.gb 0 60 (Gr.aC a.g),.cells b.sb 0 158 (Sp.aB a.s),.cells b.qb 0 2281 (Fa.aq c.q),.fam Fa.aH (Fa.SC.rows 254 c.q),.cells b.bb 0 577 (Vm.bz b.vp a.v.by_ a.v.rf),.cells b.vp 0 71 (Vm.au a.v.bb.bJ),.cfam (bN a) c.mb 34 (cN b.bb a.f c.pp c.cc),.fam (bN a) (rN 171 a.f c.pp c.cc),.cells b.tb 0 321 (Tr.ay c.F),.fam Tr.ai (Tr.FC.aD 9 c.F),.fam Tr.ai (Tr.FC.aF 3 c.F),aZ c.rp c.rc 3 c.rl,.cells b.pi 0 24 (Tr.au a.P),.cells b.ob 0 122 (Tr.az b.tb b.pi a.O),.cfam (bO a) (fun z=>(c.t z).b) 4 (cT b.tb c.t),.fam (bO a) (rT 168 c.t)] (fun v H1=>∃ c1:KC,eQ (a.bw z) c1 N T∧H1=[.cells b.kb 0 453 (ah (kp (a.bw z) b c1)),.cells b.gb 0 60 (Gr.aC (a.bw z).g),.cells b.sb 0 158 (Sp.aB (a.bw z).s),.cells b.qb 0 2281 (Fa.aq c1.q),.fam Fa.aH (Fa.SC.rows 254 c1.q),.cells b.bb 0 577 (Vm.bz b.vp (a.bw z).v.by_ (a.bw z).v.rf),.cells b.vp 0 71 (Vm.au (a.bw z).v.bb.bJ),.cfam (bN (a.bw z)) c1.mb 34 (cN b.bb (a.bw z).f c1.pp c1.cc),.fam (bN (a.bw z)) (rN 171 (a.bw z).f c1.pp c1.cc),.cells b.tb 0 321 (Tr.ay c1.F),.fam Tr.ai (Tr.FC.aD 9 c1.F),.fam Tr.ai (Tr.FC.aF 3 c1.F),aZ c1.rp c1.rc 3 c1.rl,.cells b.pi 0 24 (Tr.au (a.bw z).P),.cells b.ob 0 122 (Tr.az b.tb b.pi (a.bw z).O),.cfam (bO (a.bw z)) (fun z=>(c1.t z).b) 4 (cT b.tb c1.t),.fam (bO (a.bw z)) (rT 168 c1.t)]):=by
 have htb:=hc.tb z hz.1 hz.2 hh
 refine Spec.go 23 [0,1,10] [] Tryz.func65 rfl rfl rfl ?_
 intro W
 refine ld .here (ah.nN _) ?_
 refine ca (Sp.FM _ _ a.s z) (.cons (.t2 .here) .nil) ?_
 rintro _ _ ⟨rfl,rfl⟩
 refine gO ?_
 refine L4 rfl (hd) ?_
 refine XR.mono (fun _ hw3=>XM.MM (z:=z.toNat) (yD hz hh) (.cons (.t12 (.t3 .here)) (.cons (.t12 (.t3 .here)) .nil)) hw3) ?_
 refine sd (by omega) ?_
 refine ld (.t5 .here) (ah.D5 _ hz (JN a b c hh)) ?_
 refine ca (Tr.Ip _ _ _ _ _ _ _ _ _ htb.rv htb.mc htb.len c.F c.dF T hc.F hT) (.cons .here (.cons .here (.cons (.t11 .here) (.cons (.t11 .here) (.cons (.t11 .here) .nil))))) ?_
 rintro _ _ ⟨rfl,F1,hF1,hO1,hp1,hr1,rfl⟩
 refine gO ?_
 refine sd (by omega) ?_
 refine st (.t8 .here) (ah.ET _ hz _) rfl ?_
 refine XE.fC rfl (ab (.cons (.t8 .here) (.cons (.t8 .here) (.cons (.t7 .here) (.cons (.t7 .here) (.cons (.t7 .here) (.cons (.t7 .here) (.cons (.t7 .here) (.cons (.t7 .here) (.cons (.t7 .here) (.cons (.t2 .here) (.cons (.t2 .here) (.cons (.t2 .here) (.cons (.t4 .here) (.cons (.t4 .here) (.cons (.t4 .here) (.cons (.t2 .here) (.cons (.t2 .here) .nil))))))))))))))))) rfl ?_)
 try dsimp only[SW.den,SV.den,aj,aL]
 refine⟨{c with F:=F1},⟨hc.qO,hc.qR,(by show F1.toFF.Ok _ _;rw[hF1];exact FF.Ok.I8 hc.F _ _),hp1.trans hc.rp,hr1.trans hc.rc,(by show F1.toFF.roots=_;rw[hF1,FF.vo];exact hc.rl),fun y h0 h1 h2=>hc.tb y h0 h1 (SS.BM h2)⟩,?_⟩
 rw[HN a b c hs,EO hz hs]
 all_goals rfl
theorem II(a:KA)(b:KZ)(c:KC)(N:Nat)(T:Int)(hw:a.Wk T)(hc:eQ a c N T)(hT:T≤900000)(z:Int)(hd:(a.s.drop z).1≠0)(hs:(a.s.drop z).2=a.s):Spec Tryz.prog 65 [ptr b.kb 0 0,.int .i64 z] [.cells b.kb 0 453 (ah (kp a b c)),.cells b.gb 0 60 (Gr.aC a.g),.cells b.sb 0 158 (Sp.aB a.s),.cells b.qb 0 2281 (Fa.aq c.q),.fam Fa.aH (Fa.SC.rows 254 c.q),.cells b.bb 0 577 (Vm.bz b.vp a.v.by_ a.v.rf),.cells b.vp 0 71 (Vm.au a.v.bb.bJ),.cfam (bN a) c.mb 34 (cN b.bb a.f c.pp c.cc),.fam (bN a) (rN 171 a.f c.pp c.cc),.cells b.tb 0 321 (Tr.ay c.F),.fam Tr.ai (Tr.FC.aD 9 c.F),.fam Tr.ai (Tr.FC.aF 3 c.F),aZ c.rp c.rc 3 c.rl,.cells b.pi 0 24 (Tr.au a.P),.cells b.ob 0 122 (Tr.az b.tb b.pi a.O),.cfam (bO a) (fun z=>(c.t z).b) 4 (cT b.tb c.t),.fam (bO a) (rT 168 c.t)] (fun v H1=>∃ c1:KC,eQ (a.bw z) c1 N T∧H1=[.cells b.kb 0 453 (ah (kp (a.bw z) b c1)),.cells b.gb 0 60 (Gr.aC (a.bw z).g),.cells b.sb 0 158 (Sp.aB (a.bw z).s),.cells b.qb 0 2281 (Fa.aq c1.q),.fam Fa.aH (Fa.SC.rows 254 c1.q),.cells b.bb 0 577 (Vm.bz b.vp (a.bw z).v.by_ (a.bw z).v.rf),.cells b.vp 0 71 (Vm.au (a.bw z).v.bb.bJ),.cfam (bN (a.bw z)) c1.mb 34 (cN b.bb (a.bw z).f c1.pp c1.cc),.fam (bN (a.bw z)) (rN 171 (a.bw z).f c1.pp c1.cc),.cells b.tb 0 321 (Tr.ay c1.F),.fam Tr.ai (Tr.FC.aD 9 c1.F),.fam Tr.ai (Tr.FC.aF 3 c1.F),aZ c1.rp c1.rc 3 c1.rl,.cells b.pi 0 24 (Tr.au (a.bw z).P),.cells b.ob 0 122 (Tr.az b.tb b.pi (a.bw z).O),.cfam (bO (a.bw z)) (fun z=>(c1.t z).b) 4 (cT b.tb c1.t),.fam (bO (a.bw z)) (rT 168 c1.t)]):=by
 refine Spec.go 23 [0,1,10] [] Tryz.func65 rfl rfl rfl ?_
 intro W
 refine ld .here (ah.nN _) ?_
 refine ca (Sp.FM _ _ a.s z) (.cons (.t2 .here) .nil) ?_
 rintro _ _ ⟨rfl,rfl⟩
 refine gO ?_
 refine xV rfl (hd) ?_
 refine XE.fC rfl (ab (.cons (.there .here) (.cons (.there .here) .L0)) rfl ?_)
 try dsimp only[SW.den,SV.den,aj,aL]
 have e:a.bw z=a:=by unfold KA.bw;rw[hs]
 rw[e,hs]
 exact⟨c,hc,rfl⟩
theorem Ax(a:KA)(b:KZ)(c:KC)(N:Nat)(T:Int)(hw:a.Wk T)(hc:eQ a c N T)(hT:T≤900000)(z:Int):Spec Tryz.prog 65 [ptr b.kb 0 0,.int .i64 z] [.cells b.kb 0 453 (ah (kp a b c)),.cells b.gb 0 60 (Gr.aC a.g),.cells b.sb 0 158 (Sp.aB a.s),.cells b.qb 0 2281 (Fa.aq c.q),.fam Fa.aH (Fa.SC.rows 254 c.q),.cells b.bb 0 577 (Vm.bz b.vp a.v.by_ a.v.rf),.cells b.vp 0 71 (Vm.au a.v.bb.bJ),.cfam (bN a) c.mb 34 (cN b.bb a.f c.pp c.cc),.fam (bN a) (rN 171 a.f c.pp c.cc),.cells b.tb 0 321 (Tr.ay c.F),.fam Tr.ai (Tr.FC.aD 9 c.F),.fam Tr.ai (Tr.FC.aF 3 c.F),aZ c.rp c.rc 3 c.rl,.cells b.pi 0 24 (Tr.au a.P),.cells b.ob 0 122 (Tr.az b.tb b.pi a.O),.cfam (bO a) (fun z=>(c.t z).b) 4 (cT b.tb c.t),.fam (bO a) (rT 168 c.t)] (fun v H1=>∃ c1:KC,eQ (a.bw z) c1 N T∧H1=[.cells b.kb 0 453 (ah (kp (a.bw z) b c1)),.cells b.gb 0 60 (Gr.aC (a.bw z).g),.cells b.sb 0 158 (Sp.aB (a.bw z).s),.cells b.qb 0 2281 (Fa.aq c1.q),.fam Fa.aH (Fa.SC.rows 254 c1.q),.cells b.bb 0 577 (Vm.bz b.vp (a.bw z).v.by_ (a.bw z).v.rf),.cells b.vp 0 71 (Vm.au (a.bw z).v.bb.bJ),.cfam (bN (a.bw z)) c1.mb 34 (cN b.bb (a.bw z).f c1.pp c1.cc),.fam (bN (a.bw z)) (rN 171 (a.bw z).f c1.pp c1.cc),.cells b.tb 0 321 (Tr.ay c1.F),.fam Tr.ai (Tr.FC.aD 9 c1.F),.fam Tr.ai (Tr.FC.aF 3 c1.F),aZ c1.rp c1.rc 3 c1.rl,.cells b.pi 0 24 (Tr.au (a.bw z).P),.cells b.ob 0 122 (Tr.az b.tb b.pi (a.bw z).O),.cfam (bO (a.bw z)) (fun z=>(c1.t z).b) 4 (cT b.tb c1.t),.fam (bO (a.bw z)) (rT 168 c1.t)]):=by
 rcases SS.mN a.s z with⟨hd,hs⟩ | ⟨hd,hz,hz0,hh,hs,_,_⟩
 ·exact II a b c N T hw hc hT z hd hs
 ·exact Ij a b c N T hw hc hT z hd hz hh hs
end Go.X.Kn
