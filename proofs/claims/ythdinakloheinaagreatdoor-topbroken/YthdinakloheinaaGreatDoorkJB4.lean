import Derived.Test.YthdinakloheinaaGreatDoorkNKW3
import Derived.Test.YthdinakloheinaaGreatDoorkNFP
import Derived.Test.YthdinakloheinaaGreatDoorkJA
import Derived.Test.YthdinakloheinaaGreatDoorkNW6
namespace Go.X.Tr
open Go Go.Proofs Go.X
set_option maxRecDepth 20000
set_option maxHeartbeats 4000000
theorem Gn:cR Tryz.prog 166 0=some 0:=by kernel_rfl
theorem GF:cR Tryz.prog 166 1=some 1:=by kernel_rfl
theorem Fv:cR Tryz.prog 166 2=some 3:=by kernel_rfl
theorem DF:kV Tryz.prog 168 4=true:=by kernel_rfl
theorem Lc:fT Tryz.prog 164=true:=by kernel_rfl
theorem Ml:fT Tryz.prog 95=true:=by kernel_rfl
theorem Nr(bf:Nat)(s:FC)(d:Int→Nat)(B:Int)(hO:s.toFF.Ok d B)(hB:B≤900000)(t:Int):Spec Tryz.prog 102 [ptr bf 0 0,.int .i64 t] [.cells bf 0 321 (av s),.fam ai (FC.aJ 9 s),.fam ai (FC.aK 3 s),bk (FC.rP s) (FC.rC s) 3 (FC.toFF s).roots] (fun v H1=>(s.iU t≠0∧v= .tuple #[.pointer none,bM 102 (s.iU t)]∧H1=[.cells bf 0 321 (av s),.fam ai (FC.aJ 9 s),.fam ai (FC.aK 3 s),bk (FC.rP s) (FC.rC s) 3 (FC.toFF s).roots])∨(s.iU t=0∧∃ (bt:Nat) (u:FC),v= .tuple #[ptr bt 0 0,.nilIface]∧u.toFF=s.toFF.hold (s.eo t)∧u.rP=s.rP∧u.rC=s.rC∧H1=[.cells bt 0 4 (aA bf ⟨t,s.eo t⟩ (.slice none 0 0)),bj none 0 168 4 0 C0,.cells bf 0 321 (av u),.fam ai (FC.aJ 9 u),.fam ai (FC.aK 3 u),bk (FC.rP s) (FC.rC s) 3 (FC.toFF s).roots])):=by
 have hI:=hO.sh (by omega)
 refine Spec.go 26 [0,1,4,5,6,7,15] [] Tryz.func102 rfl rfl rfl ?_
 intro W
 refine ca (Lu _ _ _ hI _) (.cons .here (.cons (.t2 .here) .nil)) ?_
 rintro _ _ ⟨rfl,rfl⟩
 refine gO ?_
 refine cd rfl ?_ ?_<;>intro h1
 ·
  refine XE.bC rfl rfl rfl (ab (.cons .here (.cons (.there .here) (.cons (.there .here) .h1))) rfl ?_)
  try dsimp only[SW.den,SV.den,aj,aZ]
  exact .inl ⟨by assumption,rfl,rfl⟩
 ·
  refine ca (vt _ _ _ hI _) (.cons .here (.cons (.there .here) (.cons (.there .here) .nil))) ?_
  rintro _ _ ⟨rfl,u,hu,pu,cu,rfl⟩
  refine gO ?_
  refine XO.v (V.build (vs:= #[(0,.int .i64 t),(1,.int .i64 (s.eo t))]) rfl (v:=.agg (WH.arr ⟨t,s.eo t⟩)) (fun _=>by kernel_rfl)) rfl (gO ?_)
  refine XO.v (V.build (vs:= #[(0,ptr bf 0 0),(1,.agg (WH.arr ⟨t,s.eo t⟩))]) rfl (v:=.agg (K7 bf ⟨t,s.eo t⟩ (.slice none 0 0))) (fun _=>by kernel_rfl)) rfl (gO ?_)
  refine XO.box (m:=4) (C:=aA bf ⟨t,s.eo t⟩ (.slice none 0 0)) rfl rfl (aA.box _ _ _) rfl ?_
  intro bt
  refine gO ?_
  refine XR.dH 168 4 ?_
  refine XE.bC rfl rfl rfl (ab (.cons (.there .here) .h5) rfl ?_)
  try dsimp only[SW.den,SV.den,aj,aZ]
  exact .inr ⟨Decidable.byContradiction (by assumption),bt,u,rfl,hu,pu,cu,rfl⟩
theorem KT(bt bf:Nat)(r:WH)(l:List MT)(p:Option Addr)(cap k c:Nat)(C:Nat→Value)(hv:RV.ok ⟨p,cap,k,l.length,c,C⟩)(hC:MC C l)(hm6:l.length≤6)(s:FC)(d:Int→Nat)(B:Int)(hO:s.toFF.Ok d B)(hB:B≤900000):Spec Tryz.prog 55 [ptr bt 0 0] [.cells bt 0 4 (aA bf r (.slice p l.length c)),bj p cap 168 4 k C,.cells bf 0 321 (av s),.fam ai (FC.aJ 9 s),.fam ai (FC.aK 3 s)] (fun v H1=>∃ (bt2:Nat) (p2:Option Addr) (cap2 k2 c2:Nat) (C2:Nat→Value) (u:FC),v=ptr bt2 0 0∧RV.ok ⟨p2,cap2,k2,l.length,c2,C2⟩∧MC C2 l∧u.toFF=Ec s.toFF l r∧u.toFF.Ok d (B+13)∧u.rP=s.rP∧u.rC=s.rC∧H1=[.cells bt2 0 4 (aA bf r (.slice p2 l.length c2)),bj p2 cap2 168 4 k2 C2,.cells bt 0 4 (aA bf r (.slice p l.length c)),bj p cap 168 4 k C,.cells bf 0 321 (av u),.fam ai (FC.aJ 9 u),.fam ai (FC.aK 3 u)]):=by
 have hlk:=RV.Ha hv
 have hlk:l.length≤k:=hlk
 have hI:=hO.sh (by omega)
 refine Spec.go 58 [0,2,3,5,34,35,36,37] [] Tryz.func55 rfl rfl rfl ?_
 intro W
 refine XC.gJ mixed (f:=16) (l:= #[false,false,false,false,false,false,false,false,false,false,false,false,false,false,false,false]) rfl rfl XM.ko ?_
 refine XQ.pv (i:=0) (l':= #[true,false,false,false,false,false,false,false,false,false,false,false,false,false,false,false]) rfl (by kernel_rfl) rfl (V.move rfl) rfl rfl ?_
 refine XQ.pv (i:=1) (l':= #[true,true,false,false,false,false,false,false,false,false,false,false,false,false,false,false]) rfl (by kernel_rfl) rfl (V.bL rfl) rfl rfl ?_
 refine XQ.pv (i:=2) (l':= #[true,true,true,false,false,false,false,false,false,false,false,false,false,false,false,false]) rfl (by kernel_rfl) rfl (V.fieldAddr rfl Gn) rfl rfl ?_
 refine XQ.load (i:=3) (l':= #[true,true,true,true,false,false,false,false,false,false,false,false,false,false,false,false]) (.cells _ _ _ _) [14] rfl (by kernel_rfl) rfl .here (V.load rfl dJ (aA.GU _ _) Ml) rfl (by kernel_rfl) rfl ?_
 refine XQ.pv (i:=4) (l':= #[true,true,true,true,true,false,false,false,false,false,false,false,false,false,false,false]) rfl (by kernel_rfl) rfl (V.move rfl) rfl rfl ?_
 refine XQ.pv (i:=5) (l':= #[true,true,true,true,true,true,false,false,false,false,false,false,false,false,false,false]) rfl (by kernel_rfl) rfl (V.bL rfl) rfl rfl ?_
 refine XQ.pv (i:=6) (l':= #[true,true,true,true,true,true,true,false,false,false,false,false,false,false,false,false]) rfl (by kernel_rfl) rfl (V.fieldAddr rfl GF) rfl rfl ?_
 refine XQ.load (i:=7) (l':= #[true,true,true,true,true,true,true,true,false,false,false,false,false,false,false,false]) (.cells _ _ _ _) [14] rfl (by kernel_rfl) rfl .here (V.fW rfl dJ (aA.ld1 _ _) KS Gp) rfl (by kernel_rfl) rfl ?_
 refine XQ.pv (i:=8) (l':= #[true,true,true,true,true,true,true,true,true,false,false,false,false,false,false,false]) rfl (by kernel_rfl) rfl (V.move rfl) rfl rfl ?_
 refine XQ.pv (i:=9) (l':= #[true,true,true,true,true,true,true,true,true,true,false,false,false,false,false,false]) rfl (by kernel_rfl) rfl (V.bL rfl) rfl rfl ?_
 refine XQ.pv (i:=10) (l':= #[true,true,true,true,true,true,true,true,true,true,true,false,false,false,false,false]) rfl (by kernel_rfl) rfl (V.fieldAddr rfl Fv) rfl rfl ?_
 refine XQ.load (i:=11) (l':= #[true,true,true,true,true,true,true,true,true,true,true,true,false,false,false,false]) (.cells _ _ _ _) [12,14] rfl (by kernel_rfl) rfl .here (V.load rfl dJ (aA.N2 _ _) Lc) rfl (by kernel_rfl) rfl ?_
 refine XQ.g (i:=12) (l':= #[true,true,true,true,true,true,true,true,true,true,true,true,true,false,false,false]) rfl (by kernel_rfl) rfl (RG.clone (e:=168) (v:=⟨p,cap,k,l.length,c,C⟩) hv rfl Tryz.underlying164 DF (.there .here) (by show l.length≤_;omega)) rfl (fun _ _ hw'=>⟨fun hs=>(hs 12 (by first | (simp;done) | (simp;rfl)) rfl).elim,fun _=>dm (.there .here) _ hw',fun _=>dm (.there .here) _ hw',trivial⟩) ?_
 intro u hu
 obtain⟨hu1,hu2,hu3⟩:=hu
 obtain⟨p2,cap2,k2,len2,c2,C2⟩:=u
 have hu2:len2=l.length:=hu2
 subst hu2
 have hC2:MC C2 l:=hC.copy hu3
 have hlk2:l.length≤k2:=RV.Ha hu1
 refine XQ.pv (i:=13) (l':= #[true,true,true,true,true,true,true,true,true,true,true,true,true,true,false,false]) rfl (by kernel_rfl) rfl (V.build (vs:= #[(0,ptr bf 0 0),(1,.agg (WH.arr r)),(2,.slice p2 l.length c2)]) rfl (v:=.agg (K7 bf r (.slice p2 l.length c2))) (fun _=>by kernel_rfl)) rfl rfl ?_
 refine XQ.g (i:=14) (l':= #[true,true,true,true,true,true,true,true,true,true,true,true,true,true,true,false]) rfl (by kernel_rfl) rfl (RG.box (m:=4) (C:=aA bf r (.slice p2 l.length c2)) rfl rfl (aA.box _ _ _)) rfl (fun _ _ hw'=>⟨fun hs=>(hs 12 (by first | (simp;done) | (simp;rfl)) rfl).elim,fun hs=>(hs 14 (by first | (simp;done) | (simp;rfl)) rfl).elim,fun hs=>(hs 14 (by first | (simp;done) | (simp;rfl)) rfl).elim,trivial⟩) ?_
 intro bt2 _
 refine XQ.pv (i:=15) (l':= #[true,true,true,true,true,true,true,true,true,true,true,true,true,true,true,true]) rfl (by kernel_rfl) rfl (V.assign rfl) rfl rfl ?_
 refine XQ.done (by kernel_rfl) ?_
 refine gE ?_
 refine rq [0,1,2,3,4,5,6,7,8,9] mixed (by kernel_rfl) ?_
 refine ld .here (aA.GU _ _) ?_
 refine ld .here (aA.Mw _ _) ?_
 refine ca (vt _ _ s hI _) (.cons (.t4 .here) (.cons (.t4 .here) (.cons (.t4 .here) .nil))) ?_
 rintro _ _ ⟨rfl,u0,hu0,pu0,cu0,rfl⟩
 have hO0:u0.toFF.Ok d (B+1):=by rw[hu0];exact hO.hold r.node
 refine gO ?_
 refine ld (.t3 .here) (aA.N2 _ _) ?_
 refine lp (σ:=FC×Int) (fun x=>(l.length-x.2).toNat) (fun x=>np x.1.toFF (l.drop x.2.toNat)=Ec s.toFF l r∧x.1.toFF.Ok d (B+1+2*x.2)∧x.1.rP=s.rP∧x.1.rC=s.rC∧0≤x.2∧x.2≤l.length) (fun x=>[(36,.int .i64 x.2),(3,ptr bt2 0 0),(34,.slice p2 l.length c2),(35,.int .i64 l.length)]) (fun x=>XM W (bS [.cells bt 0 4 (aA bf r (.slice p l.length c)),bj p cap 168 4 k C,.cells bf 0 321 (av s),.fam ai (FC.aJ 9 s),.fam ai (FC.aK 3 s)]) [.cells bt2 0 4 (aA bf r (.slice p2 l.length c2)),bj p2 cap2 168 4 k2 C2,.cells bt 0 4 (aA bf r (.slice p l.length c)),bj p cap 168 4 k C,.cells bf 0 321 (av x.1),.fam ai (FC.aJ 9 x.1),.fam ai (FC.aK 3 x.1)]) ((u0,0)) ?_ (S4 rfl rfl rfl rfl) (fun _ hw=>XM.pick (.cons (.t3 .here) (.cons (.t3 .here) (.cons (.t3 .here) (.cons (.t3 .here) .h3)))) hw) ?_
 ·
  exact⟨by show np u0.toFF l=_;rw[hu0];rfl,by simpa using hO0,pu0,cu0,by simp,by simp⟩
 intro x hx
 obtain⟨hh,hOx,hxp,hxc,hx0,hx1⟩:=hx
 refine gC ?_
 refine cd rfl ?_ ?_<;>intro h1
 ·
  refine XR.db (.there .here) (by omega) ?_
  intro g hg
  subst hg
  refine sd (by omega) ?_
  refine px (.there .here) (hC2.ld hlk2 _ (by omega)) ?_
  refine XO.cY (z:=.agg (MT.arr MT.nil)) (m:=4) (C:=dU MT.nil) (by kernel_rfl) rfl (dU.box _) rfl ?_
  intro bm
  refine gO ?_
  refine jA .here (dU.st _ _) rfl ⟨rfl,rfl⟩ ?_
  refine rq [0,1,2,3,4,5,6,7] mixed (by kernel_rfl) ?_
  refine ld (.there .here) (aA.GU _ _) ?_
  refine ld .here (dU.M9 _) ?_
  refine ca (vt _ _ x.1 (hOx.sh (by omega)) _) (.cons (.t5 .here) (.cons (.t5 .here) (.cons (.t5 .here) .nil))) ?_
  rintro _ _ ⟨rfl,u1,hu1x,pu1,cu1,rfl⟩
  refine gO ?_
  refine rq [0,1,2,3,4,5,6,7] mixed (by kernel_rfl) ?_
  have hO1:u1.toFF.Ok d (B+1+2*x.2+1):=by rw[hu1x];exact hOx.hold (yy l x.2).at_.node
  refine ld (.t4 .here) (aA.GU _ _) ?_
  refine ld (.t3 .here) (dU.MD _) ?_
  refine ca (vt _ _ u1 (hO1.sh (by omega)) _) .h3 ?_
  rintro _ _ ⟨rfl,u2,hu2x,pu2,cu2,rfl⟩
  refine gO ?_
  refine sd (by omega) ?_
  refine ag ((u2,x.2+1)) ?_ ?_ (S4 rfl rfl rfl rfl) (fun _ hw=>XM.pick (.cons (.t4 .here) (.cons (.t4 .here) (.cons (.t4 .here) (.cons (.t4 .here) .h3)))) hw)
  ·
   (simp;omega)
  ·
   exact⟨by rw[←hh,yW (i:=x.2) ⟨by omega,by omega⟩];show np u2.toFF _=_;rw[hu2x,hu1x],by have h9:=hO1.hold (yy l x.2).to.node;rw[show B+1+2*(x.2+1)=B+1+2*x.2+1+1 from by omega];show u2.toFF.Ok d _;rw[hu2x];exact h9,by show u2.rP=_;rw[pu2,pu1,hxp],by show u2.rC=_;rw[cu2,cu1,hxc],by simp;omega,by simp;omega⟩
 ·
  refine XE.aV rfl rfl (ab .h7 rfl ?_)
  try dsimp only[SW.den,SV.den,aj,aZ]
  have e:x.2=l.length:=by omega
  rw[e]at hh
  exact⟨bt2,p2,cap2,k2,c2,C2,x.1,rfl,hu1,hC2,by rw[←hh,Ca],⟨hOx.inv,fun n a b=>Int.le_trans (hOx.held n a b) (by omega),by have:=hOx.nn;omega⟩,hxp,hxc,rfl⟩
theorem Ii(bt bf:Nat)(r:WH)(l:List MT)(p:Option Addr)(cap k c:Nat)(C:Nat→Value)(hv:RV.ok ⟨p,cap,k,l.length,c,C⟩)(hC:MC C l)(hm6:l.length≤6)(s:FC)(d:Int→Nat)(B:Int)(hO:s.toFF.Ok d B)(hB:B≤900000):Spec Tryz.prog 133 [ptr bt 0 0] [.cells bt 0 4 (aA bf r (.slice p l.length c)),bj p cap 168 4 k C,.cells bf 0 321 (av s),.fam ai (FC.aJ 9 s),.fam ai (FC.aK 3 s)] (fun v H1=>v= .tuple #[]∧∃ u:FC,u.toFF=va s.toFF l r∧u.toFF.Ok d (B+13)∧u.rP=s.rP∧u.rC=s.rC∧H1=[.cells bt 0 4 (aA bf r (.slice none 0 0)),bj none 0 168 4 0 C0,.cells bf 0 321 (av u),.fam ai (FC.aJ 9 u),.fam ai (FC.aK 3 u)]):=by
 have hlk:=RV.Ha hv
 have hlk:l.length≤k:=hlk
 refine Spec.go 43 [0,3,7,8,9,10] [] Tryz.func133 rfl rfl rfl ?_
 intro W
 refine ld .here (aA.N2 _ _) ?_
 refine lp (σ:=FC×Int) (fun x=>(l.length-x.2).toNat) (fun x=>sZ x.1.toFF (l.drop x.2.toNat)=sZ s.toFF l∧x.1.toFF.Ok d (B+2*x.2)∧x.1.rP=s.rP∧x.1.rC=s.rC∧0≤x.2∧x.2≤l.length) (fun x=>[(9,.int .i64 x.2),(0,ptr bt 0 0),(7,.slice p l.length c),(8,.int .i64 l.length)]) (fun x=>XM W (bS [.cells bt 0 4 (aA bf r (.slice p l.length c)),bj p cap 168 4 k C,.cells bf 0 321 (av s),.fam ai (FC.aJ 9 s),.fam ai (FC.aK 3 s)]) [.cells bt 0 4 (aA bf r (.slice p l.length c)),bj p cap 168 4 k C,.cells bf 0 321 (av x.1),.fam ai (FC.aJ 9 x.1),.fam ai (FC.aK 3 x.1)]) ((s,0)) ?_ (S4 rfl rfl rfl rfl) (fun _ hw=>XM.pick .h5 hw) ?_
 ·
  exact⟨rfl,by simpa using hO,rfl,rfl,by simp,by simp⟩
 intro x hx
 obtain⟨hh,hOx,hxp,hxc,hx0,hx1⟩:=hx
 refine gC ?_
 refine cd rfl ?_ ?_<;>intro h1
 ·
  refine XR.db (.there .here) (by omega) ?_
  intro g hg
  subst hg
  refine sd (by omega) ?_
  refine px (.there .here) (hC.ld hlk _ (by omega)) ?_
  refine XO.cY (z:=.agg (MT.arr MT.nil)) (m:=4) (C:=dU MT.nil) (by kernel_rfl) rfl (dU.box _) rfl ?_
  intro bm
  refine gO ?_
  refine jA .here (dU.st _ _) rfl ⟨rfl,rfl⟩ ?_
  refine rq [0,1,2,3,4,5,6,7] mixed (by kernel_rfl) ?_
  refine ld (.there .here) (aA.GU _ _) ?_
  refine ld .here (dU.M9 _) ?_
  refine ca (Bi _ _ x.1 (hOx.sh (by omega)) _) (.cons (.t3 .here) (.cons (.t3 .here) (.cons (.t3 .here) .nil))) ?_
  rintro _ _ ⟨rfl,u1,hu1,pu1,cu1,rfl⟩
  refine gO ?_
  refine rq [0,1,2,3,4,5,6,7] mixed (by kernel_rfl) ?_
  have hO1:u1.toFF.Ok d (B+2*x.2+1):=by rw[hu1];exact hOx.gW (yy l x.2).at_.node
  refine ld (.t4 .here) (aA.GU _ _) ?_
  refine ld (.t3 .here) (dU.MD _) ?_
  refine ca (Bi _ _ u1 (hO1.sh (by omega)) _) .h3 ?_
  rintro _ _ ⟨rfl,u2,hu2,pu2,cu2,rfl⟩
  refine gO ?_
  refine sd (by omega) ?_
  refine ag ((u2,x.2+1)) ?_ ?_ (S4 rfl rfl rfl rfl) (fun _ hw=>XM.pick (.cons (.t4 .here) (.cons (.t4 .here) .h3)) hw)
  ·
   (simp;omega)
  ·
   exact⟨by rw[←hh,Da (i:=x.2) ⟨by omega,by omega⟩];show sZ u2.toFF _=_;rw[hu2,hu1],by have h9:=hO1.gW (yy l x.2).to.node;rw[show B+2*(x.2+1)=B+2*x.2+1+1 from by omega];show u2.toFF.Ok d _;rw[hu2];exact h9,by show u2.rP=_;rw[pu2,pu1,hxp],by show u2.rC=_;rw[cu2,cu1,hxc],by simp;omega,by simp;omega⟩
 ·
  refine rq [0,1,2,3,4,5,6,7,8,9] mixed (by kernel_rfl) ?_
  refine ld .here (aA.GU _ _) ?_
  refine ld .here (aA.Mw _ _) ?_
  refine ca (Bi _ _ x.1 (hOx.sh (by omega)) _) (.cons (.t2 .here) (.cons (.t2 .here) (.cons (.t2 .here) .nil))) ?_
  rintro _ _ ⟨rfl,u3,hu3,pu3,cu3,rfl⟩
  refine gO ?_
  refine XR.dH 168 4 ?_
  refine st (.t4 .here) (aA.st2 _ _ _) rfl ?_
  refine XE.fD rfl (ab (.cons (.t4 .here) .h4) rfl ?_)
  try dsimp only[SW.den,SV.den,aj,aZ]
  have e:x.2=l.length:=by omega
  rw[e,FA]at hh
  have h9:=hOx.gW r.node
  exact⟨rfl,u3,by rw[hu3,hh];rfl,by rw[hu3];exact⟨h9.inv,fun n a b=>Int.le_trans (h9.held n a b) (by omega),by have:=h9.nn;omega⟩,by rw[pu3,hxp],by rw[cu3,hxc],rfl⟩
end Go.X.Tr

namespace Go.X.Tr
open Go Go.Proofs Go.X
set_option maxRecDepth 20000
set_option maxHeartbeats 4000000
theorem iX:fT Tryz.prog 3=true:=by kernel_rfl
end Go.X.Tr

namespace Go.X.Kn
open Go Go.Proofs Go.X
set_option maxRecDepth 20000
set_option maxHeartbeats 4000000
theorem Ks(kb:Nat)(k:KP)(n:Int)(hn:0≤n∧n<20)(x:Int)(hx:0≤x):Spec Tryz.prog 67 [ptr kb 0 (0+0+n.toNat*22),.int .i64 x] [.cells kb 0 453 (ah k)] (fun v H1=>v= .int .i64 (fc (k.u n).fd x)∧H1=[.cells kb 0 453 (ah k)]):=by
 refine Spec.go 19 [0,1,4,5,8,17] [] Tryz.func67 rfl rfl rfl ?_
 intro W
 refine lp (σ:=Int) (fun i=>(6-i).toNat) (fun i=>0≤i∧x≤i∧∀ j:Int,0≤j→x≤j→j<i→(k.u n).fd j≠0) (fun i=>[(5,.int .i64 i),(0,ptr kb 0 (0+0+n.toNat*22))]) (fun i=>XM W (bS [.cells kb 0 453 (ah k)]) [.cells kb 0 453 (ah k)]) (x) ?_ (S2 rfl rfl) (fun _ hw=>XM.pick .h1 hw) ?_
 ·
  exact⟨hx,by omega,fun j a1 a2 a3=>by omega⟩
 intro i hi
 obtain⟨hi0,hxi,hno⟩:=hi
 refine gC ?_
 refine cd rfl ?_ ?_<;>intro h1
 ·
  refine sd (by omega) ?_
  refine ld .here (ah.E2 _ (by omega) (by omega)) ?_
  refine cd rfl ?_ ?_<;>intro h2
  ·
   refine XE.aV rfl rfl (ab .h1 rfl ?_)
   try dsimp only[SW.den,SV.den,aj,aZ]
   exact⟨by rw[BI ⟨hi0,hxi,by omega⟩ (by assumption) hno],rfl⟩
  ·
   refine sd (by omega) ?_
   refine ag (i+1) ?_ ?_ (S2 rfl rfl) (fun _ hw=>XM.pick .h1 hw)
   ·
    (first | omega | (simp;done) | (simp;omega))
   ·
    refine⟨by omega,by omega,fun j a1 a2 a3=> ?_⟩
    by_cases e:j=i
    ·subst e;assumption
    ·exact hno j a1 a2 (by omega)
 ·
  refine XE.aV rfl rfl (ab .h1 rfl ?_)
  try dsimp only[SW.den,SV.den,aj,aZ]
  exact⟨by rw[yB (fun j a1 a2 a3=>hno j a1 a2 (by omega))],rfl⟩
theorem Le(kb:Nat)(k:KP)(n i:Int)(hf:∀ n i,0≤(k.u n).fd i∧(k.u n).fd i≤24):Spec Tryz.prog 69 [ptr kb 0 0,.int .i64 n,.int .i64 i] [.cells kb 0 453 (ah k)] (fun v H1=>v= .tuple #[.int .i64 (k.bP n i),bM 102 (k.cC n i)]∧H1=[.cells kb 0 453 (ah k)]):=by
  have hf1:=hf n i
  refine Spec.go 41 [0,1,2,6,7,8,9,17,24,32] [] Tryz.func69 rfl rfl rfl ?_
  intro W
  refine ca (gu kb _ _) .h1 ?_
  rintro _ _ ⟨⟨hl,rfl⟩ | ⟨hl,rfl⟩,rfl⟩
  · skip
    try dsimp only[aC,aS,aM,aR,aN,aP,aQ,aU,aO,aT,aG,aH,aB,aF]
    obtain⟨hlr,hls⟩:=KP.dN hl
    refine gO ?_
    refine sp 21 rfl ?_ ?_<;>intro h1
    · skip
      refine XE.bC rfl rfl rfl (ab .h1 rfl ?_)
      try dsimp only[SW.den,SV.den,aj,aZ]
      first
        | (have e:k.cC n i=1:=by unfold KP.cC;rw[if_neg (by omega),if_pos (by omega)]
           have e2:k.bP n i=0:=by unfold KP.bP;rw[e]<;>rfl
           rw[e,e2];exact⟨rfl,rfl⟩)
        | (have e:k.cC n i=0:=by unfold KP.cC;rw[if_neg (by omega),if_neg (by omega),if_neg (by omega)]
           rw[(KP.kq e).2.2.2.2,e];exact⟨rfl,rfl⟩)
    · skip
      refine cd rfl ?_ ?_<;>intro h2
      · skip
        refine XE.bC rfl rfl rfl (ab .h1 rfl ?_)
        try dsimp only[SW.den,SV.den,aj,aZ]
        first
          | (have e:k.cC n i=1:=by unfold KP.cC;rw[if_neg (by omega),if_pos (by omega)]
             have e2:k.bP n i=0:=by unfold KP.bP;rw[e]<;>rfl
             rw[e,e2];exact⟨rfl,rfl⟩)
          | (have e:k.cC n i=0:=by unfold KP.cC;rw[if_neg (by omega),if_neg (by omega),if_neg (by omega)]
             rw[(KP.kq e).2.2.2.2,e];exact⟨rfl,rfl⟩)
      · skip
        refine sd (by omega) ?_
        refine ld .here (ah.E2 _ (by omega) (by omega)) ?_
        refine cd rfl ?_ ?_<;>intro h3
        · skip
          refine XE.bC rfl rfl rfl (ab .h1 rfl ?_)
          try dsimp only[SW.den,SV.den,aj,aZ]
          have e:k.cC n i=2:=by unfold KP.cC;rw[if_neg (by omega),if_neg (by omega),if_pos (by omega)]
          have e2:k.bP n i=0:=by unfold KP.bP;rw[e]<;>rfl
          rw[e,e2];exact⟨rfl,rfl⟩
        · skip
          refine sd (by omega) ?_
          refine ld .here (ah.E2 _ (by omega) (by omega)) ?_
          refine sd (by omega) ?_
          refine XE.bC rfl rfl rfl (ab .h1 rfl ?_)
          try dsimp only[SW.den,SV.den,aj,aZ]
          first
            | (have e:k.cC n i=1:=by unfold KP.cC;rw[if_neg (by omega),if_pos (by omega)]
               have e2:k.bP n i=0:=by unfold KP.bP;rw[e]<;>rfl
               rw[e,e2];exact⟨rfl,rfl⟩)
            | (have e:k.cC n i=0:=by unfold KP.cC;rw[if_neg (by omega),if_neg (by omega),if_neg (by omega)]
               rw[(KP.kq e).2.2.2.2,e];exact⟨rfl,rfl⟩)
  · skip
    try dsimp only[aC,aS,aM,aR,aN,aP,aQ,aU,aO,aT,aG,aH,aB,aF]
    refine gO ?_
    refine XE.bC rfl rfl rfl (ab .h1 rfl ?_)
    try dsimp only[SW.den,SV.den,aj,aZ]
    have e:k.cC n i=k.live n:=by unfold KP.cC;rw[if_pos hl]
    have e2:k.bP n i=0:=by unfold KP.bP;rw[e,if_neg hl]
    rw[e,e2,aW _ hl];exact⟨rfl,rfl⟩
end Go.X.Kn

namespace Go.X.Kn
open Go Go.Proofs Go.X
set_option maxRecDepth 20000
set_option maxHeartbeats 4000000
set_option maxHeartbeats 16000000 in
theorem zO(a:KA)(b:KZ)(c:KC)(N:Nat)(T:Int)(hw:a.Wk T)(hc:dq a c N T)(hT:T≤900000)(n co:Int)(hl:(a.u n).st=1):Spec Tryz.prog 129 [ptr b.kb 0 0,.int .i64 n,.int .i64 co] [.cells b.kb 0 453 (ah (kp a b c)),.cells b.gb 0 60 (Gr.ay a.g),.cells b.sb 0 158 (Sp.aA a.s),.cells b.qb 0 2281 (Fa.ao c.q),.fam Fa.aL (Fa.SC.rows 254 c.q),.cells b.bb 0 577 (Vm.bu b.vp a.v.by_ a.v.rf),.cells b.vp 0 71 (Vm.aq a.v.bb.bA),.cfam (bD a) c.mb 34 (cN b.bb a.f c.pp c.cc),.fam (bD a) (rN 171 a.f c.pp c.cc),.cells b.tb 0 321 (Tr.av c.F),.fam Tr.ai (Tr.FC.aJ 9 c.F),.fam Tr.ai (Tr.FC.aK 3 c.F),bk c.rp c.rc 3 c.rl,.cells b.pi 0 24 (Tr.aq a.P),.cells b.ob 0 122 (Tr.aD b.tb b.pi a.O),.cfam (bI a) (fun z=>(c.t z).b) 4 (cT b.tb c.t),.fam (bI a) (rT 168 c.t)] (fun v H1=>∃ c1:KC,dq (a.bW n co) c1 N T∧H1=[.cells b.kb 0 453 (ah (kp (a.bW n co) b c1)),.cells b.gb 0 60 (Gr.ay (a.bW n co).g),.cells b.sb 0 158 (Sp.aA (a.bW n co).s),.cells b.qb 0 2281 (Fa.ao c1.q),.fam Fa.aL (Fa.SC.rows 254 c1.q),.cells b.bb 0 577 (Vm.bu b.vp (a.bW n co).v.by_ (a.bW n co).v.rf),.cells b.vp 0 71 (Vm.aq (a.bW n co).v.bb.bA),.cfam (bD (a.bW n co)) c1.mb 34 (cN b.bb (a.bW n co).f c1.pp c1.cc),.fam (bD (a.bW n co)) (rN 171 (a.bW n co).f c1.pp c1.cc),.cells b.tb 0 321 (Tr.av c1.F),.fam Tr.ai (Tr.FC.aJ 9 c1.F),.fam Tr.ai (Tr.FC.aK 3 c1.F),bk c1.rp c1.rc 3 c1.rl,.cells b.pi 0 24 (Tr.aq (a.bW n co).P),.cells b.ob 0 122 (Tr.aD b.tb b.pi (a.bW n co).O),.cfam (bI (a.bW n co)) (fun z=>(c1.t z).b) 4 (cT b.tb c1.t),.fam (bI (a.bW n co)) (rT 168 c1.t)]):=by
 have hn:0≤n∧n<20:=by
  by_cases e:n<0∨20≤n
  ·rw[hw.out n e]at hl;exact absurd hl (by decide)
  ·omega
 have hmem:=y8 a b c (n:=n) (by omega)
 have hz:=hw.sys.mo n.toNat (by omega)
 refine Spec.go 70 [0,1,2,6,7,9,10,37,38,39,43] [] Tryz.func129 rfl rfl rfl ?_
 intro W
 refine sd (by omega) ?_
 refine XR.mono (fun _ hw3=>XM.Ja (z:=n.toNat) (jx hn (by omega)) (.cons (.t7 .here) (.cons (.t7 .here) .nil)) hw3) ?_
 refine ld (.t4 .here) (ah.oq _ (by omega) hmem) ?_
 refine ca (Vm.GA b.bb b.vp (c.mb n.toNat) a.v hw.sys.acc.ok _ _ (a.f n.toNat) hz (hw.sys.In (by omega)) 0 16) (.cons (.t9 .here) (.cons (.t9 .here) .h2)) ?_
 rintro _ _ ⟨rfl,pu,cu,rfl⟩
 refine gO ?_
 refine rq [0,1,2,3,4,5,6,7,8,9] mixed (by kernel_rfl) ?_
 refine ld (.t6 .here) (ah.Cb _) ?_
 refine ld (.t6 .here) (ah.kE _ (by omega)) ?_
 refine ca (Gr.mQ _ _ a.g hw.gI.ok _ _ _ (1000*T) (by have:=hw.T0;omega) hw.gS) (.cons (.t7 .here) .nil) ?_
 rintro _ _ ⟨rfl,rfl⟩
 refine gO ?_
 refine nc (.t7 .here) (ah.yQ _ (by omega)) ?_
 refine lp (σ:=Int×Tr.FC) (fun x=>(6-x.1).toNat) (fun x=>(0≤x.1∧x.1≤6)∧x.2.toFF.Ok c.dF T∧x.2.rP=c.rp∧x.2.rC=c.rc∧x.2.roots=c.rl) (fun x=>[(38,.int .i64 x.1),(0,ptr b.kb 0 0),(1,.int .i64 n),(2,.int .i64 co),(6,ptr b.kb 0 (0+0+n.toNat*22)),(37,.agg (Dz (a.u n).fd))]) (fun x=>XM W (bS [.cells b.kb 0 453 (ah (kp a b c)),.cells b.gb 0 60 (Gr.ay a.g),.cells b.sb 0 158 (Sp.aA a.s),.cells b.qb 0 2281 (Fa.ao c.q),.fam Fa.aL (Fa.SC.rows 254 c.q),.cells b.bb 0 577 (Vm.bu b.vp a.v.by_ a.v.rf),.cells b.vp 0 71 (Vm.aq a.v.bb.bA),.cfam (bD a) c.mb 34 (cN b.bb a.f c.pp c.cc),.fam (bD a) (rN 171 a.f c.pp c.cc),.cells b.tb 0 321 (Tr.av c.F),.fam Tr.ai (Tr.FC.aJ 9 c.F),.fam Tr.ai (Tr.FC.aK 3 c.F),bk c.rp c.rc 3 c.rl,.cells b.pi 0 24 (Tr.aq a.P),.cells b.ob 0 122 (Tr.aD b.tb b.pi a.O),.cfam (bI a) (fun z=>(c.t z).b) 4 (cT b.tb c.t),.fam (bI a) (rT 168 c.t)]) [.cells b.kb 0 453 (ah ((kp a b c).put n {(kp a b c).u n with fd:=qG (a.u n).fd x.1})),.cells b.gb 0 60 (Gr.ay (a.g.ea (a.u n).grp 0 (a.um n).1)),.cells b.sb 0 158 (Sp.aA a.s),.cells b.qb 0 2281 (Fa.ao c.q),.fam Fa.aL (Fa.SC.rows 254 c.q),.cells b.bb 0 577 (Vm.bu b.vp (a.um n).2.2.1.by_ (a.um n).2.2.1.rf),.cells b.vp 0 71 (Vm.aq (a.um n).2.2.1.bb.bA),.cells (c.mb n.toNat) 0 34 (Vm.bE b.bb pu (Vm.runs (a.um n).2.2.2.aI).length cu (a.um n).2.2.2.fr (a.um n).2.2.2.own),bj pu cu 171 3 (Vm.runs (a.um n).2.2.2.aI).length (Vm.dD (Vm.runs (a.um n).2.2.2.aI)),.cfam (eA (bD a) n.toNat) c.mb 34 (cN b.bb a.f c.pp c.cc),.fam (eA (bD a) n.toNat) (rN 171 a.f c.pp c.cc),.cells b.tb 0 321 (Tr.av x.2),.fam Tr.ai (Tr.FC.aJ 9 x.2),.fam Tr.ai (Tr.FC.aK 3 x.2),bk c.rp c.rc 3 c.rl,.cells b.pi 0 24 (Tr.aq (rQ (a.u n).fd a.O a.P x.1.toNat).2),.cells b.ob 0 122 (Tr.aD b.tb b.pi (rQ (a.u n).fd a.O a.P x.1.toNat).1),.cfam (bI a) (fun z=>(c.t z).b) 4 (cT b.tb c.t),.fam (bI a) (rT 168 c.t)]) ((0,c.F)) ?_ (S6 rfl rfl rfl rfl rfl rfl) (fun _ hw2=>by rw[LH];exact XM.pick (.cons (.t7 .here) (.cons .here (.cons (.t6 .here) (.cons (.t6 .here) (.cons (.t6 .here) .L9))))) hw2) ?_
 ·
  exact⟨by simp,hc.F,hc.rp,hc.rc,hc.rl⟩
 intro x hx
 obtain⟨hi,hF,hFp,hFc,hFr⟩:=hx
 have hfd:=hw.fd n x.1
 refine gC ?_
 refine cd rfl ?_ ?_<;>intro h1
 ·
  refine XO.v (V.iG rfl rfl Tryz.underlying83 js iX (by omega)) rfl (gO ?_)
  refine cd rfl ?_ ?_<;>intro h2
  ·
   have h6:=h2
   refine ld .here (ah.CG _) ?_
   refine sd (by omega) ?_
   refine ca (Tr.Bb _ _ _ _ _ T (by omega) (nU hw.OI hw.PI x.1.toNat).1 x.2 (hF.sh (by omega)) T (by omega) _ (nU hw.OI hw.PI x.1.toNat).2 ((a.u n).fd x.1-1)) (.cons (.t12 (.t4 .here)) (.cons (.t11 .here) (.cons (.t11 .here) (.cons (.t11 .here) (.cons (.t12 .here) .nil))))) ?_
   rintro _ _ ⟨rfl,F1,hF1,hp1,hr1,rfl⟩
   refine gO ?_
   refine sd (by omega) ?_
   refine st (.t5 .here) (ah.Bm _ (by omega) (by omega) _) rfl ?_
   refine sd (by omega) ?_
   refine ag ((x.1+1,F1)) ?_ ?_ (S6 rfl rfl rfl rfl rfl rfl) (fun _ hw2=>by show XM _ _ [_,_,_,_,_,_,_,_,_,_,_,_,_,_,_,.cells b.pi 0 24 (Tr.aq (rQ (a.u n).fd a.O a.P (x.1+1).toNat).2),.cells b.ob 0 122 (Tr.aD b.tb b.pi (rQ (a.u n).fd a.O a.P (x.1+1).toNat).1),_,_] _;rw[I8 _ _ hi.1 h6,←Lx a b c hi.1 h6];exact XM.pick (.cons (.t5 .here) (.cons (.t5 .here) (.cons (.t5 .here) (.cons (.t5 .here) (.cons (.t5 .here) (.cons (.t5 .here) (.cons (.t5 .here) (.cons (.t5 .here) (.cons (.t5 .here) (.cons (.t5 .here) (.cons (.t5 .here) (.cons (.there .here) (.cons (.there .here) (.cons (.there .here) (.cons (.t2 .here) (.cons (.there .here) .h3)))))))))))))))) hw2)
   ·
    (show(6-(x.1+1)).toNat<(6-x.1).toNat;omega)
   ·
    exact⟨(by show 0≤x.1+1∧x.1+1≤6;omega),(by show F1.toFF.Ok c.dF T;rw[hF1];exact FF.Ok.lz hF _ _),hp1.trans hFp,hr1.trans hFc,(by show F1.toFF.roots=_;rw[hF1,Tr.nw];exact hFr)⟩
  ·
   have h6:=h2
   refine sd (by omega) ?_
   refine ag ((x.1+1,x.2)) ?_ ?_ (S6 rfl rfl rfl rfl rfl rfl) (fun _ hw2=>by show XM _ _ [.cells b.kb 0 453 (ah ((kp a b c).put n {(kp a b c).u n with fd:=qG (a.u n).fd (x.1+1)})),_,_,_,_,_,_,_,_,_,_,_,_,_,_,.cells b.pi 0 24 (Tr.aq (rQ (a.u n).fd a.O a.P (x.1+1).toNat).2),.cells b.ob 0 122 (Tr.aD b.tb b.pi (rQ (a.u n).fd a.O a.P (x.1+1).toNat).1),_,_] _;rw[FJ _ _ hi.1 h6,←G1 _ h6];exact XM.pick .HY hw2)
   ·
    (show(6-(x.1+1)).toNat<(6-x.1).toNat;omega)
   ·
    exact⟨(by show 0≤x.1+1∧x.1+1≤6;omega),hF,hFp,hFc,hFr⟩
 ·
  refine ld .here (ah.yr _) ?_
  refine ca (Fa.zt _ _ c.q c.d hc.qO.inv hc.qR n) (.cons (.t3 .here) (.cons (.t3 .here) .nil)) ?_
  rintro _ _ ⟨rfl,t,ht,hr,rfl⟩
  refine gO ?_
  refine st (.t2 .here) (ah.Mx _ (by omega) _) rfl ?_
  refine st (.t2 .here) (ah.Hf _ (by omega) _) rfl ?_
  refine XR.mono (fun _ hw3=>XM.zZ (a.um n).2.2.2 (jx hn (by omega)) (.cons (.t7 .here) (.cons (.t7 .here) (.cons (.t7 .here) (.cons (.t7 .here) .nil)))) hw3) ?_
  refine XE.fD rfl (ab (.cons (.t4 .here) (.cons (.t4 .here) (.cons (.t4 .here) (.cons (.t2 .here) (.cons (.t2 .here) (.cons (.t2 .here) (.cons (.t2 .here) .Dw))))))) rfl ?_)
  try dsimp only[SW.den,SV.den,aj,aZ]
  have hx6:x.1=6:=by omega
  refine⟨{c with q:=t,F:=x.2,pp:=bJ c.pp n.toNat pu,cc:=bJ c.cc n.toNat cu},⟨(by show t.toSF.Ok _ _ _;rw[ht];exact hc.qO.sj (by omega) _),hr,hF,hFp,hFc,hFr,hc.tb⟩,?_⟩
  rw[hx6]
  rw[Kx a b c hl hn,Jj a hl]
  all_goals rfl
end Go.X.Kn

namespace Go.X.Kn
open Go Go.Proofs Go.X
set_option maxRecDepth 20000
set_option maxHeartbeats 4000000
theorem vz(a:KA)(b:KZ)(c:KC)(N:Nat)(T:Int)(hw:a.Wk T)(hc:dq a c N T)(hT:T≤900000)(n:Int)(hn:0≤n∧n<20)(hs:(a.u n).st≠0):Spec Tryz.prog 64 [ptr b.kb 0 0,.int .i64 n] [.cells b.kb 0 453 (ah (kp a b c)),.cells b.gb 0 60 (Gr.ay a.g),.cells b.sb 0 158 (Sp.aA a.s),.cells b.qb 0 2281 (Fa.ao c.q),.fam Fa.aL (Fa.SC.rows 254 c.q),.cells b.bb 0 577 (Vm.bu b.vp a.v.by_ a.v.rf),.cells b.vp 0 71 (Vm.aq a.v.bb.bA),.cfam (bD a) c.mb 34 (cN b.bb a.f c.pp c.cc),.fam (bD a) (rN 171 a.f c.pp c.cc),.cells b.tb 0 321 (Tr.av c.F),.fam Tr.ai (Tr.FC.aJ 9 c.F),.fam Tr.ai (Tr.FC.aK 3 c.F),bk c.rp c.rc 3 c.rl,.cells b.pi 0 24 (Tr.aq a.P),.cells b.ob 0 122 (Tr.aD b.tb b.pi a.O),.cfam (bI a) (fun z=>(c.t z).b) 4 (cT b.tb c.t),.fam (bI a) (rT 168 c.t)] (fun v H1=>H1=[.cells b.kb 0 453 (ah (kp (a.cy n) b c)),.cells b.gb 0 60 (Gr.ay (a.cy n).g),.cells b.sb 0 158 (Sp.aA (a.cy n).s),.cells b.qb 0 2281 (Fa.ao c.q),.fam Fa.aL (Fa.SC.rows 254 c.q),.cells b.bb 0 577 (Vm.bu b.vp (a.cy n).v.by_ (a.cy n).v.rf),.cells b.vp 0 71 (Vm.aq (a.cy n).v.bb.bA),.cfam (bD (a.cy n)) c.mb 34 (cN b.bb (a.cy n).f c.pp c.cc),.fam (bD (a.cy n)) (rN 171 (a.cy n).f c.pp c.cc),.cells b.tb 0 321 (Tr.av c.F),.fam Tr.ai (Tr.FC.aJ 9 c.F),.fam Tr.ai (Tr.FC.aK 3 c.F),bk c.rp c.rc 3 c.rl,.cells b.pi 0 24 (Tr.aq (a.cy n).P),.cells b.ob 0 122 (Tr.aD b.tb b.pi (a.cy n).O),.cfam (bI (a.cy n)) (fun z=>(c.t z).b) 4 (cT b.tb c.t),.fam (bI (a.cy n)) (rT 168 c.t)]):=by
 refine Spec.go 28 [0,1] [] Tryz.func64 rfl rfl rfl ?_
 intro W
 refine rq [0,1,2,3,4,5,6,7,8,9,10,11] mixed (by kernel_rfl) ?_
 refine ld .here (ah.Cb _) ?_
 refine sd (by omega) ?_
 refine ld .here (ah.kE _ (by omega)) ?_
 refine ca (Gr.mQ _ _ a.g hw.gI.ok _ _ _ (1000*T) (by have:=hw.T0;omega) hw.gS) (.cons (.there .here) .nil) ?_
 rintro _ _ ⟨rfl,rfl⟩
 refine gO ?_
 refine ld (.there .here) (ah.mT _) ?_
 refine ca (Sp.IH _ _ a.s a.dep hw.sI.D n (fun a1 b1 c1=>⟨(hw.sI.loc n).2,hw.sI.at_ n a1 b1 c1⟩) (fun a1 m q e=>by have h9:=hw.sI.mem m q n a1 e;exact⟨h9.2.2.2.2,by omega,h9.2.2.1⟩)) (.cons (.t2 .here) .nil) ?_
 rintro _ _ ⟨rfl,rfl⟩
 refine gO ?_
 refine XO.v (V.build (vs:= #[]) rfl (v:=.agg PU.nil.arr) (fun _=>by kernel_rfl)) rfl (gO ?_)
 refine sd (by omega) ?_
 refine jA (.t2 .here) (ah.rE _ (by omega) PU.nil) rfl ⟨rfl,rfl⟩ ?_
 refine XR.mono (fun _ hw3=>XM.Ja (z:=n.toNat) (jx hn hs) (.cons (.t7 .here) (.cons (.t7 .here) .nil)) hw3) ?_
 refine XE.fD rfl (ab (.cons (.t6 .here) (.cons (.t5 .here) (.cons (.t4 .here) (.cons (.t4 .here) (.cons (.t4 .here) (.cons (.t4 .here) (.cons (.t4 .here) (.cons (.t2 .here) (.cons (.t2 .here) (.cons (.t2 .here) (.cons (.t2 .here) (.cons (.t2 .here) (.cons (.t2 .here) (.cons (.t2 .here) (.cons (.t2 .here) (.cons (.t2 .here) (.cons (.t2 .here) .nil))))))))))))))))) rfl ?_)
 try dsimp only[SW.den,SV.den,aj,aZ]
 rw[HG,Ef a hn,D2]
 all_goals rfl
theorem HJ(a:KA)(b:KZ)(c:KC)(N:Nat)(T:Int)(hw:a.Wk T)(hc:dq a c N T)(hT:T≤900000)(z:Int)(hd:(a.s.drop z).1=0)(hz:0≤z∧z<6)(hh:a.s.here z=true)(hs:(a.s.drop z).2= {a.s with here:=aa a.s.here z false,par:=aa a.s.par z 0}):Spec Tryz.prog 65 [ptr b.kb 0 0,.int .i64 z] [.cells b.kb 0 453 (ah (kp a b c)),.cells b.gb 0 60 (Gr.ay a.g),.cells b.sb 0 158 (Sp.aA a.s),.cells b.qb 0 2281 (Fa.ao c.q),.fam Fa.aL (Fa.SC.rows 254 c.q),.cells b.bb 0 577 (Vm.bu b.vp a.v.by_ a.v.rf),.cells b.vp 0 71 (Vm.aq a.v.bb.bA),.cfam (bD a) c.mb 34 (cN b.bb a.f c.pp c.cc),.fam (bD a) (rN 171 a.f c.pp c.cc),.cells b.tb 0 321 (Tr.av c.F),.fam Tr.ai (Tr.FC.aJ 9 c.F),.fam Tr.ai (Tr.FC.aK 3 c.F),bk c.rp c.rc 3 c.rl,.cells b.pi 0 24 (Tr.aq a.P),.cells b.ob 0 122 (Tr.aD b.tb b.pi a.O),.cfam (bI a) (fun z=>(c.t z).b) 4 (cT b.tb c.t),.fam (bI a) (rT 168 c.t)] (fun v H1=>∃ c1:KC,dq (a.bB z) c1 N T∧H1=[.cells b.kb 0 453 (ah (kp (a.bB z) b c1)),.cells b.gb 0 60 (Gr.ay (a.bB z).g),.cells b.sb 0 158 (Sp.aA (a.bB z).s),.cells b.qb 0 2281 (Fa.ao c1.q),.fam Fa.aL (Fa.SC.rows 254 c1.q),.cells b.bb 0 577 (Vm.bu b.vp (a.bB z).v.by_ (a.bB z).v.rf),.cells b.vp 0 71 (Vm.aq (a.bB z).v.bb.bA),.cfam (bD (a.bB z)) c1.mb 34 (cN b.bb (a.bB z).f c1.pp c1.cc),.fam (bD (a.bB z)) (rN 171 (a.bB z).f c1.pp c1.cc),.cells b.tb 0 321 (Tr.av c1.F),.fam Tr.ai (Tr.FC.aJ 9 c1.F),.fam Tr.ai (Tr.FC.aK 3 c1.F),bk c1.rp c1.rc 3 c1.rl,.cells b.pi 0 24 (Tr.aq (a.bB z).P),.cells b.ob 0 122 (Tr.aD b.tb b.pi (a.bB z).O),.cfam (bI (a.bB z)) (fun z=>(c1.t z).b) 4 (cT b.tb c1.t),.fam (bI (a.bB z)) (rT 168 c1.t)]):=by
 have htb:=hc.tb z hz.1 hz.2 hh
 refine Spec.go 23 [0,1,10] [] Tryz.func65 rfl rfl rfl ?_
 intro W
 refine ld .here (ah.mT _) ?_
 refine ca (Sp.DJ _ _ a.s z) (.cons (.t2 .here) .nil) ?_
 rintro _ _ ⟨rfl,rfl⟩
 refine gO ?_
 refine Ju rfl (hd) ?_
 refine XR.mono (fun _ hw3=>XM.Mm (z:=z.toNat) (zP hz hh) (.cons (.t12 (.t3 .here)) (.cons (.t12 (.t3 .here)) .nil)) hw3) ?_
 refine sd (by omega) ?_
 refine ld (.t5 .here) (ah.D6 _ hz (JU a b c hh)) ?_
 refine ca (Tr.Ii _ _ _ _ _ _ _ _ _ htb.rv htb.mc htb.len c.F c.dF T hc.F hT) (.cons .here (.cons .here (.cons (.t11 .here) (.cons (.t11 .here) (.cons (.t11 .here) .nil))))) ?_
 rintro _ _ ⟨rfl,F1,hF1,hO1,hp1,hr1,rfl⟩
 refine gO ?_
 refine sd (by omega) ?_
 refine st (.t8 .here) (ah.DN _ hz _) rfl ?_
 refine XE.fD rfl (ab (.cons (.t8 .here) (.cons (.t8 .here) (.cons (.t7 .here) (.cons (.t7 .here) (.cons (.t7 .here) (.cons (.t7 .here) (.cons (.t7 .here) (.cons (.t7 .here) (.cons (.t7 .here) (.cons (.t2 .here) (.cons (.t2 .here) (.cons (.t2 .here) (.cons (.t4 .here) (.cons (.t4 .here) (.cons (.t4 .here) (.cons (.t2 .here) (.cons (.t2 .here) .nil))))))))))))))))) rfl ?_)
 try dsimp only[SW.den,SV.den,aj,aZ]
 refine⟨{c with F:=F1},⟨hc.qO,hc.qR,(by show F1.toFF.Ok _ _;rw[hF1];exact FF.Ok.Ho hc.F _ _),hp1.trans hc.rp,hr1.trans hc.rc,(by show F1.toFF.roots=_;rw[hF1,FF.vA];exact hc.rl),fun y h0 h1 h2=>hc.tb y h0 h1 (SS.B9 h2)⟩,?_⟩
 rw[Hz a b c hs,Ek hz hs]
 all_goals rfl
theorem H5(a:KA)(b:KZ)(c:KC)(N:Nat)(T:Int)(hw:a.Wk T)(hc:dq a c N T)(hT:T≤900000)(z:Int)(hd:(a.s.drop z).1≠0)(hs:(a.s.drop z).2=a.s):Spec Tryz.prog 65 [ptr b.kb 0 0,.int .i64 z] [.cells b.kb 0 453 (ah (kp a b c)),.cells b.gb 0 60 (Gr.ay a.g),.cells b.sb 0 158 (Sp.aA a.s),.cells b.qb 0 2281 (Fa.ao c.q),.fam Fa.aL (Fa.SC.rows 254 c.q),.cells b.bb 0 577 (Vm.bu b.vp a.v.by_ a.v.rf),.cells b.vp 0 71 (Vm.aq a.v.bb.bA),.cfam (bD a) c.mb 34 (cN b.bb a.f c.pp c.cc),.fam (bD a) (rN 171 a.f c.pp c.cc),.cells b.tb 0 321 (Tr.av c.F),.fam Tr.ai (Tr.FC.aJ 9 c.F),.fam Tr.ai (Tr.FC.aK 3 c.F),bk c.rp c.rc 3 c.rl,.cells b.pi 0 24 (Tr.aq a.P),.cells b.ob 0 122 (Tr.aD b.tb b.pi a.O),.cfam (bI a) (fun z=>(c.t z).b) 4 (cT b.tb c.t),.fam (bI a) (rT 168 c.t)] (fun v H1=>∃ c1:KC,dq (a.bB z) c1 N T∧H1=[.cells b.kb 0 453 (ah (kp (a.bB z) b c1)),.cells b.gb 0 60 (Gr.ay (a.bB z).g),.cells b.sb 0 158 (Sp.aA (a.bB z).s),.cells b.qb 0 2281 (Fa.ao c1.q),.fam Fa.aL (Fa.SC.rows 254 c1.q),.cells b.bb 0 577 (Vm.bu b.vp (a.bB z).v.by_ (a.bB z).v.rf),.cells b.vp 0 71 (Vm.aq (a.bB z).v.bb.bA),.cfam (bD (a.bB z)) c1.mb 34 (cN b.bb (a.bB z).f c1.pp c1.cc),.fam (bD (a.bB z)) (rN 171 (a.bB z).f c1.pp c1.cc),.cells b.tb 0 321 (Tr.av c1.F),.fam Tr.ai (Tr.FC.aJ 9 c1.F),.fam Tr.ai (Tr.FC.aK 3 c1.F),bk c1.rp c1.rc 3 c1.rl,.cells b.pi 0 24 (Tr.aq (a.bB z).P),.cells b.ob 0 122 (Tr.aD b.tb b.pi (a.bB z).O),.cfam (bI (a.bB z)) (fun z=>(c1.t z).b) 4 (cT b.tb c1.t),.fam (bI (a.bB z)) (rT 168 c1.t)]):=by
 refine Spec.go 23 [0,1,10] [] Tryz.func65 rfl rfl rfl ?_
 intro W
 refine ld .here (ah.mT _) ?_
 refine ca (Sp.DJ _ _ a.s z) (.cons (.t2 .here) .nil) ?_
 rintro _ _ ⟨rfl,rfl⟩
 refine gO ?_
 refine uu rfl (hd) ?_
 refine XE.fD rfl (ab (.cons (.there .here) (.cons (.there .here) .Lb)) rfl ?_)
 try dsimp only[SW.den,SV.den,aj,aZ]
 have e:a.bB z=a:=by unfold KA.bB;rw[hs]
 rw[e,hs]
 exact⟨c,hc,rfl⟩
theorem Aj(a:KA)(b:KZ)(c:KC)(N:Nat)(T:Int)(hw:a.Wk T)(hc:dq a c N T)(hT:T≤900000)(z:Int):Spec Tryz.prog 65 [ptr b.kb 0 0,.int .i64 z] [.cells b.kb 0 453 (ah (kp a b c)),.cells b.gb 0 60 (Gr.ay a.g),.cells b.sb 0 158 (Sp.aA a.s),.cells b.qb 0 2281 (Fa.ao c.q),.fam Fa.aL (Fa.SC.rows 254 c.q),.cells b.bb 0 577 (Vm.bu b.vp a.v.by_ a.v.rf),.cells b.vp 0 71 (Vm.aq a.v.bb.bA),.cfam (bD a) c.mb 34 (cN b.bb a.f c.pp c.cc),.fam (bD a) (rN 171 a.f c.pp c.cc),.cells b.tb 0 321 (Tr.av c.F),.fam Tr.ai (Tr.FC.aJ 9 c.F),.fam Tr.ai (Tr.FC.aK 3 c.F),bk c.rp c.rc 3 c.rl,.cells b.pi 0 24 (Tr.aq a.P),.cells b.ob 0 122 (Tr.aD b.tb b.pi a.O),.cfam (bI a) (fun z=>(c.t z).b) 4 (cT b.tb c.t),.fam (bI a) (rT 168 c.t)] (fun v H1=>∃ c1:KC,dq (a.bB z) c1 N T∧H1=[.cells b.kb 0 453 (ah (kp (a.bB z) b c1)),.cells b.gb 0 60 (Gr.ay (a.bB z).g),.cells b.sb 0 158 (Sp.aA (a.bB z).s),.cells b.qb 0 2281 (Fa.ao c1.q),.fam Fa.aL (Fa.SC.rows 254 c1.q),.cells b.bb 0 577 (Vm.bu b.vp (a.bB z).v.by_ (a.bB z).v.rf),.cells b.vp 0 71 (Vm.aq (a.bB z).v.bb.bA),.cfam (bD (a.bB z)) c1.mb 34 (cN b.bb (a.bB z).f c1.pp c1.cc),.fam (bD (a.bB z)) (rN 171 (a.bB z).f c1.pp c1.cc),.cells b.tb 0 321 (Tr.av c1.F),.fam Tr.ai (Tr.FC.aJ 9 c1.F),.fam Tr.ai (Tr.FC.aK 3 c1.F),bk c1.rp c1.rc 3 c1.rl,.cells b.pi 0 24 (Tr.aq (a.bB z).P),.cells b.ob 0 122 (Tr.aD b.tb b.pi (a.bB z).O),.cfam (bI (a.bB z)) (fun z=>(c1.t z).b) 4 (cT b.tb c1.t),.fam (bI (a.bB z)) (rT 168 c1.t)]):=by
 rcases SS.mH a.s z with⟨hd,hs⟩ | ⟨hd,hz,hz0,hh,hs,_,_⟩
 ·exact H5 a b c N T hw hc hT z hd hs
 ·exact HJ a b c N T hw hc hT z hd hz hh hs
end Go.X.Kn

namespace Go.X.Kn
open Go Go.Proofs Go.X
set_option maxRecDepth 20000
set_option maxHeartbeats 4000000
set_option maxHeartbeats 16000000 in
theorem Fi(a:KA)(b:KZ)(c:KC)(N:Nat)(T:Int)(hw:a.Wk T)(hc:dq a c N T)(hT:T≤900000)(z h:Int):Spec Tryz.prog 130 [ptr b.kb 0 0,.int .i64 z,.int .i64 h] [.cells b.kb 0 453 (ah (kp a b c)),.cells b.gb 0 60 (Gr.ay a.g),.cells b.sb 0 158 (Sp.aA a.s),.cells b.qb 0 2281 (Fa.ao c.q),.fam Fa.aL (Fa.SC.rows 254 c.q),.cells b.bb 0 577 (Vm.bu b.vp a.v.by_ a.v.rf),.cells b.vp 0 71 (Vm.aq a.v.bb.bA),.cfam (bD a) c.mb 34 (cN b.bb a.f c.pp c.cc),.fam (bD a) (rN 171 a.f c.pp c.cc),.cells b.tb 0 321 (Tr.av c.F),.fam Tr.ai (Tr.FC.aJ 9 c.F),.fam Tr.ai (Tr.FC.aK 3 c.F),bk c.rp c.rc 3 c.rl,.cells b.pi 0 24 (Tr.aq a.P),.cells b.ob 0 122 (Tr.aD b.tb b.pi a.O),.cfam (bI a) (fun z=>(c.t z).b) 4 (cT b.tb c.t),.fam (bI a) (rT 168 c.t)] (fun v H1=>∃ c1:KC,dq (a.bO z h) c1 N T∧H1=[.cells b.kb 0 453 (ah (kp (a.bO z h) b c1)),.cells b.gb 0 60 (Gr.ay (a.bO z h).g),.cells b.sb 0 158 (Sp.aA (a.bO z h).s),.cells b.qb 0 2281 (Fa.ao c1.q),.fam Fa.aL (Fa.SC.rows 254 c1.q),.cells b.bb 0 577 (Vm.bu b.vp (a.bO z h).v.by_ (a.bO z h).v.rf),.cells b.vp 0 71 (Vm.aq (a.bO z h).v.bb.bA),.cfam (bD (a.bO z h)) c1.mb 34 (cN b.bb (a.bO z h).f c1.pp c1.cc),.fam (bD (a.bO z h)) (rN 171 (a.bO z h).f c1.pp c1.cc),.cells b.tb 0 321 (Tr.av c1.F),.fam Tr.ai (Tr.FC.aJ 9 c1.F),.fam Tr.ai (Tr.FC.aK 3 c1.F),bk c1.rp c1.rc 3 c1.rl,.cells b.pi 0 24 (Tr.aq (a.bO z h).P),.cells b.ob 0 122 (Tr.aD b.tb b.pi (a.bO z h).O),.cfam (bI (a.bO z h)) (fun z=>(c1.t z).b) 4 (cT b.tb c1.t),.fam (bI (a.bO z h)) (rT 168 c1.t)]):=by
 refine Spec.go 62 [0,2,6,9,11,21,22,23,24,29,37,45,46,51,52,53,54] [] Tryz.func130 rfl rfl rfl ?_
 intro W
 refine ld .here (ah.mT _) ?_
 refine ca (Sp.CM _ _ a.s z) (.cons (.t2 .here) .nil) ?_
 rintro _ _ ⟨p0,cap0,rfl,rfl⟩
 have hlen:(a.s.mem z).1.length≤21:=Sp.SS.H4 _ _
 refine gO ?_
 refine lp (σ:=Int×KA×KC) (fun x=>((a.s.mem z).1.length-x.1).toNat) (fun x=>(0≤x.1∧x.1≤(a.s.mem z).1.length)∧x.2.1=(((a.s.mem z).1.take x.1.toNat).foldl (KA.eG h) a)∧x.2.1.Wk T∧dq x.2.1 x.2.2 N T) (fun x=>[(23,.int .i64 x.1),(0,ptr b.kb 0 0),(2,.int .i64 h),(21,.slice p0 (a.s.mem z).1.length cap0),(22,.int .i64 (a.s.mem z).1.length)]) (fun x=>XM W (bS [.cells b.kb 0 453 (ah (kp a b c)),.cells b.gb 0 60 (Gr.ay a.g),.cells b.sb 0 158 (Sp.aA a.s),.cells b.qb 0 2281 (Fa.ao c.q),.fam Fa.aL (Fa.SC.rows 254 c.q),.cells b.bb 0 577 (Vm.bu b.vp a.v.by_ a.v.rf),.cells b.vp 0 71 (Vm.aq a.v.bb.bA),.cfam (bD a) c.mb 34 (cN b.bb a.f c.pp c.cc),.fam (bD a) (rN 171 a.f c.pp c.cc),.cells b.tb 0 321 (Tr.av c.F),.fam Tr.ai (Tr.FC.aJ 9 c.F),.fam Tr.ai (Tr.FC.aK 3 c.F),bk c.rp c.rc 3 c.rl,.cells b.pi 0 24 (Tr.aq a.P),.cells b.ob 0 122 (Tr.aD b.tb b.pi a.O),.cfam (bI a) (fun z=>(c.t z).b) 4 (cT b.tb c.t),.fam (bI a) (rT 168 c.t)]) [bk p0 cap0 3 (a.s.mem z).1,.cells b.kb 0 453 (ah (kp x.2.1 b x.2.2)),.cells b.gb 0 60 (Gr.ay x.2.1.g),.cells b.sb 0 158 (Sp.aA x.2.1.s),.cells b.qb 0 2281 (Fa.ao x.2.2.q),.fam Fa.aL (Fa.SC.rows 254 x.2.2.q),.cells b.bb 0 577 (Vm.bu b.vp x.2.1.v.by_ x.2.1.v.rf),.cells b.vp 0 71 (Vm.aq x.2.1.v.bb.bA),.cfam (bD x.2.1) x.2.2.mb 34 (cN b.bb x.2.1.f x.2.2.pp x.2.2.cc),.fam (bD x.2.1) (rN 171 x.2.1.f x.2.2.pp x.2.2.cc),.cells b.tb 0 321 (Tr.av x.2.2.F),.fam Tr.ai (Tr.FC.aJ 9 x.2.2.F),.fam Tr.ai (Tr.FC.aK 3 x.2.2.F),bk x.2.2.rp x.2.2.rc 3 x.2.2.rl,.cells b.pi 0 24 (Tr.aq x.2.1.P),.cells b.ob 0 122 (Tr.aD b.tb b.pi x.2.1.O),.cfam (bI x.2.1) (fun z=>(x.2.2.t z).b) 4 (cT b.tb x.2.2.t),.fam (bI x.2.1) (rT 168 x.2.2.t)]) ((0,a,c)) ?_ (S5 rfl rfl rfl rfl rfl) (fun _ hw=>XM.pick (.cons .here (.cons (.there .here) (.cons (.there .here) .Lb))) hw) ?_
 ·
  exact⟨by simp,rfl,hw,hc⟩
 intro x hx
 obtain⟨hi,hga,hgw,hcx⟩:=hx
 refine gC ?_
 refine cd rfl ?_ ?_<;>intro h1
 ·
  refine XR.db .here (by omega) ?_
  intro g1 h2
  subst h2
  refine sd (by omega) ?_
  refine Fq .here (ints_at (by omega)) ?_
  have hm9:=hw.zd z (Vm.ja (l:=(a.s.mem z).1) (i:=x.1) (by omega))
  have hm:=hm9.1
  have hms:(x.2.1.u (ep (a.s.mem z).1 x.1)).st≠0:=by rw[hga,KA.FL a h (FU (SS.CA hw.sI z) (by omega))];exact hm9.2
  refine cd rfl ?_ ?_<;>intro h3
  ·
   have hst:KA.eG h x.2.1 (ep (a.s.mem z).1 x.1)=x.2.1:=if_pos h3
   refine sd (by omega) ?_
   refine ag ((x.1+1,x.2.1,x.2.2)) ?_ ?_ (S5 rfl rfl rfl rfl rfl) (fun _ hw=>XM.pick .jo hw)
   ·
    (show(_-(x.1+1)).toNat<(_-x.1).toNat;omega)
   ·
    exact⟨(by show 0≤x.1+1∧x.1+1≤_;omega),(by rw[lJ (by omega),kh,←hga,hst]),hgw,hcx⟩
  ·
   have hnh:=h3
   refine sd (by omega) ?_
   refine ld (.there .here) (ah.ot _ (by omega)) ?_
   refine cd rfl ?_ ?_<;>intro h4
   ·
    have hst:KA.eG h x.2.1 (ep (a.s.mem z).1 x.1)=(x.2.1.bW (ep (a.s.mem z).1 x.1) 0).cy (ep (a.s.mem z).1 x.1):=by unfold KA.eG;rw[if_neg hnh,if_pos (show(x.2.1.u (ep (a.s.mem z).1 x.1)).st=1 from h4)]
    refine ca (zO x.2.1 b x.2.2 N T hgw hcx hT (ep (a.s.mem z).1 x.1) 0 (by assumption)) (.cons (.there .here) (.cons (.there .here) (.cons (.there .here) (.cons (.there .here) (.cons (.there .here) (.cons (.there .here) (.cons (.there .here) (.cons (.there .here) (.cons (.there .here) (.cons (.there .here) (.cons (.there .here) (.cons (.there .here) (.cons (.there .here) (.cons (.there .here) (.cons (.there .here) (.cons (.there .here) (.cons (.there .here) .nil))))))))))))))))) ?_
    rintro _ _ ⟨c1,hc1,rfl⟩
    refine gO ?_
    refine ca (vz (x.2.1.bW (ep (a.s.mem z).1 x.1) 0) b c1 N T (hgw.bW hm (by assumption) 0) hc1 hT (ep (a.s.mem z).1 x.1) hm (by rw[nA];decide)) .gq ?_
    rintro _ _ rfl
    refine gO ?_
    refine sd (by omega) ?_
    refine ag ((x.1+1,(x.2.1.bW (ep (a.s.mem z).1 x.1) 0).cy (ep (a.s.mem z).1 x.1),c1)) ?_ ?_ (S5 rfl rfl rfl rfl rfl) (fun _ hw=>XM.pick (.cons (.t12 (.t5 .here)) .gq) hw)
    ·
     (show(_-(x.1+1)).toNat<(_-x.1).toNat;omega)
    ·
     exact⟨(by show 0≤x.1+1∧x.1+1≤_;omega),(by rw[lJ (by omega),kh,←hga,hst]),(hgw.bW hm (by assumption) 0).cy hm (by rw[nA];decide),hc1.E0⟩
   ·
    have hst:KA.eG h x.2.1 (ep (a.s.mem z).1 x.1)=x.2.1.cy (ep (a.s.mem z).1 x.1):=by unfold KA.eG;rw[if_neg hnh,if_neg (show ¬(x.2.1.u (ep (a.s.mem z).1 x.1)).st=1 from h4)]
    refine ca (vz x.2.1 b x.2.2 N T hgw hcx hT (ep (a.s.mem z).1 x.1) hm (by assumption)) (.cons (.there .here) (.cons (.there .here) (.cons (.there .here) (.cons (.there .here) (.cons (.there .here) (.cons (.there .here) (.cons (.there .here) (.cons (.there .here) (.cons (.there .here) (.cons (.there .here) (.cons (.there .here) (.cons (.there .here) (.cons (.there .here) (.cons (.there .here) (.cons (.there .here) (.cons (.there .here) (.cons (.there .here) .nil))))))))))))))))) ?_
    rintro _ _ rfl
    refine gO ?_
    refine sd (by omega) ?_
    refine ag ((x.1+1,x.2.1.cy (ep (a.s.mem z).1 x.1),x.2.2)) ?_ ?_ (S5 rfl rfl rfl rfl rfl) (fun _ hw=>XM.pick (.cons (.t12 (.t5 .here)) .gq) hw)
    ·
     (show(_-(x.1+1)).toNat<(_-x.1).toNat;omega)
    ·
     exact⟨(by show 0≤x.1+1∧x.1+1≤_;omega),(by rw[lJ (by omega),kh,←hga,hst]),hgw.cy hm (by assumption),hcx.E0⟩
 ·
  refine lp (σ:=Int×KA×KC) (fun x=>(4-x.1).toNat) (fun x=>(0≤x.1∧x.1≤4)∧x.2.1=((a.members z h).rounds x.1.toNat)∧x.2.1.Wk T∧dq x.2.1 x.2.2 N T) (fun x=>[(45,.int .i64 x.1),(0,ptr b.kb 0 0)]) (fun x=>XM W (bS [.cells b.kb 0 453 (ah (kp a b c)),.cells b.gb 0 60 (Gr.ay a.g),.cells b.sb 0 158 (Sp.aA a.s),.cells b.qb 0 2281 (Fa.ao c.q),.fam Fa.aL (Fa.SC.rows 254 c.q),.cells b.bb 0 577 (Vm.bu b.vp a.v.by_ a.v.rf),.cells b.vp 0 71 (Vm.aq a.v.bb.bA),.cfam (bD a) c.mb 34 (cN b.bb a.f c.pp c.cc),.fam (bD a) (rN 171 a.f c.pp c.cc),.cells b.tb 0 321 (Tr.av c.F),.fam Tr.ai (Tr.FC.aJ 9 c.F),.fam Tr.ai (Tr.FC.aK 3 c.F),bk c.rp c.rc 3 c.rl,.cells b.pi 0 24 (Tr.aq a.P),.cells b.ob 0 122 (Tr.aD b.tb b.pi a.O),.cfam (bI a) (fun z=>(c.t z).b) 4 (cT b.tb c.t),.fam (bI a) (rT 168 c.t)]) [.cells b.kb 0 453 (ah (kp x.2.1 b x.2.2)),.cells b.gb 0 60 (Gr.ay x.2.1.g),.cells b.sb 0 158 (Sp.aA x.2.1.s),.cells b.qb 0 2281 (Fa.ao x.2.2.q),.fam Fa.aL (Fa.SC.rows 254 x.2.2.q),.cells b.bb 0 577 (Vm.bu b.vp x.2.1.v.by_ x.2.1.v.rf),.cells b.vp 0 71 (Vm.aq x.2.1.v.bb.bA),.cfam (bD x.2.1) x.2.2.mb 34 (cN b.bb x.2.1.f x.2.2.pp x.2.2.cc),.fam (bD x.2.1) (rN 171 x.2.1.f x.2.2.pp x.2.2.cc),.cells b.tb 0 321 (Tr.av x.2.2.F),.fam Tr.ai (Tr.FC.aJ 9 x.2.2.F),.fam Tr.ai (Tr.FC.aK 3 x.2.2.F),bk x.2.2.rp x.2.2.rc 3 x.2.2.rl,.cells b.pi 0 24 (Tr.aq x.2.1.P),.cells b.ob 0 122 (Tr.aD b.tb b.pi x.2.1.O),.cfam (bI x.2.1) (fun z=>(x.2.2.t z).b) 4 (cT b.tb x.2.2.t),.fam (bI x.2.1) (rT 168 x.2.2.t)]) ((0,x.2.1,x.2.2)) ?_ (S2 rfl rfl) (fun _ hw=>XM.pick (.cons (.there .here) (.cons (.there .here) (.cons (.there .here) (.cons (.there .here) (.cons (.there .here) (.cons (.there .here) (.cons (.there .here) (.cons (.there .here) (.cons (.there .here) (.cons (.there .here) (.cons (.there .here) (.cons (.there .here) (.cons (.there .here) (.cons (.there .here) (.cons (.there .here) (.cons (.there .here) (.cons (.there .here) .nil))))))))))))))))) hw) ?_
  ·
   exact⟨by simp,(by rw[hga,List.take_of_length_le (by omega)];rfl),hgw,hcx⟩
  intro x hx
  obtain⟨hi,hga,hgw,hcx⟩:=hx
  refine gC ?_
  refine cd rfl ?_ ?_<;>intro h5
  ·
   refine ld .here (ah.mT _) ?_
   refine ca (Sp.MR _ _ x.2.1.s) (.cons (.t2 .here) .nil) ?_
   rintro _ _ ⟨p1,cap1,rfl,rfl⟩
   have hlen2:=Sp.fS x.2.1.s.here 6
   refine gO ?_
   refine lp (σ:=Int×KA×KC) (fun y=>((Sp.fg x.2.1.s.here 6).length-y.1).toNat) (fun y=>(0≤y.1∧y.1≤(Sp.fg x.2.1.s.here 6).length)∧y.2.1=(((Sp.fg x.2.1.s.here 6).take y.1.toNat).foldl KA.bB x.2.1)∧y.2.1.Wk T∧dq y.2.1 y.2.2 N T) (fun y=>[(53,.int .i64 y.1),(0,ptr b.kb 0 0),(45,.int .i64 x.1),(51,.slice p1 (Sp.fg x.2.1.s.here 6).length cap1),(52,.int .i64 (Sp.fg x.2.1.s.here 6).length)]) (fun y=>XM W (bS [.cells b.kb 0 453 (ah (kp a b c)),.cells b.gb 0 60 (Gr.ay a.g),.cells b.sb 0 158 (Sp.aA a.s),.cells b.qb 0 2281 (Fa.ao c.q),.fam Fa.aL (Fa.SC.rows 254 c.q),.cells b.bb 0 577 (Vm.bu b.vp a.v.by_ a.v.rf),.cells b.vp 0 71 (Vm.aq a.v.bb.bA),.cfam (bD a) c.mb 34 (cN b.bb a.f c.pp c.cc),.fam (bD a) (rN 171 a.f c.pp c.cc),.cells b.tb 0 321 (Tr.av c.F),.fam Tr.ai (Tr.FC.aJ 9 c.F),.fam Tr.ai (Tr.FC.aK 3 c.F),bk c.rp c.rc 3 c.rl,.cells b.pi 0 24 (Tr.aq a.P),.cells b.ob 0 122 (Tr.aD b.tb b.pi a.O),.cfam (bI a) (fun z=>(c.t z).b) 4 (cT b.tb c.t),.fam (bI a) (rT 168 c.t)]) [bk p1 cap1 3 (Sp.fg x.2.1.s.here 6),.cells b.kb 0 453 (ah (kp y.2.1 b y.2.2)),.cells b.gb 0 60 (Gr.ay y.2.1.g),.cells b.sb 0 158 (Sp.aA y.2.1.s),.cells b.qb 0 2281 (Fa.ao y.2.2.q),.fam Fa.aL (Fa.SC.rows 254 y.2.2.q),.cells b.bb 0 577 (Vm.bu b.vp y.2.1.v.by_ y.2.1.v.rf),.cells b.vp 0 71 (Vm.aq y.2.1.v.bb.bA),.cfam (bD y.2.1) y.2.2.mb 34 (cN b.bb y.2.1.f y.2.2.pp y.2.2.cc),.fam (bD y.2.1) (rN 171 y.2.1.f y.2.2.pp y.2.2.cc),.cells b.tb 0 321 (Tr.av y.2.2.F),.fam Tr.ai (Tr.FC.aJ 9 y.2.2.F),.fam Tr.ai (Tr.FC.aK 3 y.2.2.F),bk y.2.2.rp y.2.2.rc 3 y.2.2.rl,.cells b.pi 0 24 (Tr.aq y.2.1.P),.cells b.ob 0 122 (Tr.aD b.tb b.pi y.2.1.O),.cfam (bI y.2.1) (fun z=>(y.2.2.t z).b) 4 (cT b.tb y.2.2.t),.fam (bI y.2.1) (rT 168 y.2.2.t)]) ((0,x.2.1,x.2.2)) ?_ (S5 rfl rfl rfl rfl rfl) (fun _ hw=>XM.pick (.cons .here (.cons (.there .here) (.cons (.there .here) .Lb))) hw) ?_
   ·
    exact⟨by simp,rfl,hgw,hcx⟩
   intro y hy
   obtain⟨hj,hgy0,hgy,hcy⟩:=hy
   refine gC ?_
   refine cd rfl ?_ ?_<;>intro h6
   ·
    refine XR.db .here (by omega) ?_
    intro g2 h7
    subst h7
    refine sd (by omega) ?_
    refine Fq .here (ints_at (by omega)) ?_
    refine ca (Aj y.2.1 b y.2.2 N T hgy hcy hT _) (.cons (.there .here) (.cons (.there .here) (.cons (.there .here) (.cons (.there .here) (.cons (.there .here) (.cons (.there .here) (.cons (.there .here) (.cons (.there .here) (.cons (.there .here) (.cons (.there .here) (.cons (.there .here) (.cons (.there .here) (.cons (.there .here) (.cons (.there .here) (.cons (.there .here) (.cons (.there .here) (.cons (.there .here) .nil))))))))))))))))) ?_
    rintro _ _ ⟨c1,hc1,rfl⟩
    refine gO ?_
    refine sd (by omega) ?_
    refine ag ((y.1+1,y.2.1.bB (ep (Sp.fg x.2.1.s.here 6) y.1),c1)) ?_ ?_ (S5 rfl rfl rfl rfl rfl) (fun _ hw=>XM.pick (.cons (.t12 (.t5 .here)) .gq) hw)
    ·
     (show(_-(y.1+1)).toNat<(_-y.1).toNat;omega)
    ·
     exact⟨(by show 0≤y.1+1∧y.1+1≤_;omega),(by show y.2.1.bB _=_;rw[lJ (by omega),kh,←hgy0]),hgy.bB _,hc1⟩
   ·
    refine sd (by omega) ?_
    refine ag ((x.1+1,y.2.1,y.2.2)) ?_ ?_ (S2 rfl rfl) (fun _ hw=>XM.pick (.cons (.there .here) (.cons (.there .here) (.cons (.there .here) (.cons (.there .here) (.cons (.there .here) (.cons (.there .here) (.cons (.there .here) (.cons (.there .here) (.cons (.there .here) (.cons (.there .here) (.cons (.there .here) (.cons (.there .here) (.cons (.there .here) (.cons (.there .here) (.cons (.there .here) (.cons (.there .here) (.cons (.there .here) .nil))))))))))))))))) hw)
    ·
     (show(4-(x.1+1)).toNat<(4-x.1).toNat;omega)
    ·
     exact⟨(by show 0≤x.1+1∧x.1+1≤4;omega),(by show y.2.1=_;rw[KA.xa _ hi.1,←hga,hgy0,List.take_of_length_le (by omega)];rfl),hgy,hcy⟩
  ·
   refine XE.fD rfl (ab .gq rfl ?_)
   try dsimp only[SW.den,SV.den,aj,aZ]
   have hx4:x.1=4:=by omega
   have hge:a.bO z h=x.2.1:=by rw[hga,hx4];rfl
   rw[hge]
   exact⟨x.2.2,hcx,rfl⟩
end Go.X.Kn
