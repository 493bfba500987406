import Derived.Test.YthdinakloheinaaGreatDoorkFQ
import Derived.Test.YthdinakloheinaaGreatDoorkFRM
import Derived.Test.YthdinakloheinaaGreatDoorkVBM
import Derived.Test.YthdinakloheinaaGreatDoorKB
import Derived.Test.YthdinakloheinaaGreatDoorXClose
import Derived.Test.YthdinakloheinaaGreatDoorXBytes
namespace Go.X.Fa
open Go Go.Proofs Go.X
set_option maxRecDepth 20000
set_option maxHeartbeats 4000000
theorem I1(b o:Nat)(s:SC)(n:Int):Spec Tryz.prog 126 [ptr b o 0,.int .i64 n] [.cells b o 2281 (ao s)] (fun v H1=>((s.vO n=0∧0≤n∧n<10∧s.here n=true)∧v= .tuple #[ptr b o (0+0+n.toNat*76),.nilIface]∧H1=[.cells b o 2281 (ao s)])∨(s.vO n≠0∧v= .tuple #[.pointer none,.iface 102 (.int .i64 (s.vO n))]∧H1=[.cells b o 2281 (ao s)])):=by
 refine Spec.go 27 [0,1,4,5,11,20] [] Tryz.func126 rfl rfl rfl ?_
 intro W
 refine sp 8 rfl ?_ ?_<;>intro h1
 ·
  refine XE.bC rfl rfl rfl (ab .h1 rfl ?_)
  try dsimp only[SW.den,SV.den,aj,aZ]
  have e:s.vO n=1:=by unfold SF.vO;rw[if_pos (by omega)]
  exact .inr ⟨by omega,by rw[e],rfl⟩
 ·
  refine cd rfl ?_ ?_<;>intro h2
  ·
   refine XE.bC rfl rfl rfl (ab .h1 rfl ?_)
   try dsimp only[SW.den,SV.den,aj,aZ]
   have e:s.vO n=1:=by unfold SF.vO;rw[if_pos (by omega)]
   exact .inr ⟨by omega,by rw[e],rfl⟩
  ·
   refine sd (by omega) ?_
   refine ld .here (ao.lF _ _ (by omega)) ?_
   refine Dy rfl ?_ ?_<;>intro h3
   ·try simp only[sb]at h3
    refine XE.bC rfl rfl rfl (ab .h1 rfl ?_)
    try dsimp only[SW.den,SV.den,aj,aZ]
    have e:s.vO n=2:=by unfold SF.vO;rw[if_neg (by omega),if_neg (by simp_all)]
    exact .inr ⟨by omega,by rw[e],rfl⟩
   ·try simp only[sb]at h3
    refine sd (by omega) ?_
    refine XE.bC rfl rfl rfl (ab .h1 rfl ?_)
    try dsimp only[SW.den,SV.den,aj,aZ]
    have e:s.vO n=0:=by unfold SF.vO;rw[if_neg (by omega),if_pos (by simp_all)]
    exact .inl ⟨⟨e,by omega,by omega,by simp_all⟩,rfl,rfl⟩
theorem DK(b o:Nat)(s:SC)(n:Int):Spec Tryz.prog 127 [ptr b o 0,.int .i64 n] [.cells b o 2281 (ao s)] (fun v H1=>((s.pw n=0∧0≤n∧n<20∧s.here (10+n)=true)∧v= .tuple #[ptr b o (0+0+(10+n).toNat*76),.nilIface]∧H1=[.cells b o 2281 (ao s)])∨(s.pw n≠0∧v= .tuple #[.pointer none,.iface 102 (.int .i64 (s.pw n))]∧H1=[.cells b o 2281 (ao s)])):=by
 refine Spec.go 29 [0,1,4,5,11,21] [] Tryz.func127 rfl rfl rfl ?_
 intro W
 refine sp 8 rfl ?_ ?_<;>intro h1
 ·
  refine XE.bC rfl rfl rfl (ab .h1 rfl ?_)
  try dsimp only[SW.den,SV.den,aj,aZ]
  have e:s.pw n=1:=by unfold SF.pw;rw[if_pos (by omega)]
  exact .inr ⟨by omega,by rw[e],rfl⟩
 ·
  refine cd rfl ?_ ?_<;>intro h2
  ·
   refine XE.bC rfl rfl rfl (ab .h1 rfl ?_)
   try dsimp only[SW.den,SV.den,aj,aZ]
   have e:s.pw n=1:=by unfold SF.pw;rw[if_pos (by omega)]
   exact .inr ⟨by omega,by rw[e],rfl⟩
  ·
   refine sd (by omega) ?_
   refine sd (by omega) ?_
   refine ld .here (ao.lF _ _ (by omega)) ?_
   refine Dy rfl ?_ ?_<;>intro h3
   ·try simp only[sb]at h3
    refine XE.bC rfl rfl rfl (ab .h1 rfl ?_)
    try dsimp only[SW.den,SV.den,aj,aZ]
    have e:s.pw n=2:=by unfold SF.pw;rw[if_neg (by omega),if_neg (by simp_all)]
    exact .inr ⟨by omega,by rw[e],rfl⟩
   ·try simp only[sb]at h3
    refine sd (by omega) ?_
    refine sd (by omega) ?_
    refine XE.bC rfl rfl rfl (ab .h1 rfl ?_)
    try dsimp only[SW.den,SV.den,aj,aZ]
    have e:s.pw n=0:=by unfold SF.pw;rw[if_neg (by omega),if_pos (by simp_all)]
    exact .inl ⟨⟨e,by omega,by omega,by simp_all⟩,rfl,rfl⟩
theorem AQ(b o:Nat)(s:SC)(hR:s.jy)(hw:∀ i,s.was i=true→0<i∧i<30)(n:Int)(hn:0≤n∧n<30):Spec Tryz.prog 187 [ptr b o 0,.int .i64 n] [.cells b o 2281 (ao s),.fam aL (s.rows 254)] (fun v H1=>v= .bool (s.toSF.ready n)∧H1=[.cells b o 2281 (ao s),.fam aL (s.rows 254)]):=by
 have hk:=hR.dI hw hn.1 hn.2
 refine Spec.go 47 [0,1,4,5,12] [] Tryz.func187 rfl rfl rfl ?_
 intro W
 refine sd (by omega) ?_
 refine cd rfl ?_ ?_<;>intro h1
 ·
  refine ld .here (ao.zU _ _ (by omega)) ?_
  refine XE.aV rfl rfl (ab .h2 rfl ?_)
  try dsimp only[SW.den,SV.den,aj,aZ]
  exact⟨by unfold SF.ready;rw[if_pos (by omega)],rfl⟩
 ·
  refine rq [0,1,2,3,4,5,6,7,8,9,10,11,12,13,14,15,16,17,18,19,20,21,22,23,24,25,26,27,28,29,30] mixed (by kernel_rfl) ?_
  refine XR.mono (fun _ hw3=>XM.pG (z:=n) (by omega) .h2 hw3) ?_
  refine ca (Nh _ _ _ _ _) .h2 ?_
  rintro _ _ ⟨rfl,rfl⟩
  refine XO.mono (fun _ hw3=>XM.qa (z:=n) (by omega) .h5 hw3) ?_
  refine gO ?_
  refine sp 22 rfl ?_ ?_<;>intro h2
  ·
   refine ld .here (ao.wq _ _ (by omega)) ?_
   refine uE 29 rfl ?_ ?_<;>intro h3
   ·try simp only[sb]at h3
    refine ld .here (ao.ku _ _ (by omega)) ?_
    refine sp 35 rfl ?_ ?_<;>intro h4
    ·
     refine XE.aV rfl rfl (ab .h2 rfl ?_)
     try dsimp only[SW.den,SV.den,aj,aZ]
     refine⟨congrArg Value.bool ?_,rfl⟩
     unfold SF.ready
     rw[if_neg (by omega),hk]
     simp_all
    ·
     refine ld .here (ao.uv _ _ (by omega)) ?_
     refine ld .here (ao.ku _ _ (by omega)) ?_
     refine XE.aV rfl rfl (ab .h2 rfl ?_)
     try dsimp only[SW.den,SV.den,aj,aZ]
     refine⟨congrArg Value.bool ?_,rfl⟩
     unfold SF.ready
     rw[if_neg (by omega),hk]
     simp_all
   ·try simp only[sb]at h3
    refine XE.aV rfl rfl (ab .h2 rfl ?_)
    try dsimp only[SW.den,SV.den,aj,aZ]
    refine⟨congrArg Value.bool ?_,rfl⟩
    unfold SF.ready
    rw[if_neg (by omega),hk]
    simp_all
  ·
   refine XE.aV rfl rfl (ab .h2 rfl ?_)
   try dsimp only[SW.den,SV.den,aj,aZ]
   refine⟨congrArg Value.bool ?_,rfl⟩
   unfold SF.ready
   rw[if_neg (by omega),hk]
   simp_all
theorem ss(b o:Nat)(s:SC)(d:Int→Nat)(hI:s.toSF.Inv d)(hR:s.jy)(n:Int)(hn:n=0∨(0<n∧n<30∧s.here n=true)):Spec Tryz.prog 128 [ptr b o 0,.int .i64 n] [.cells b o 2281 (ao s),.fam aL (s.rows 254)] (fun v H1=>v= .tuple #[]∧∃ t:SC,t.toSF=s.toSF.look d n∧t.jy∧H1=[.cells b o 2281 (ao t),.fam aL (t.rows 254)]):=by
 refine Spec.go 88 [0,4,5,6,8,9,10,13,47,74] [] Tryz.func128 rfl rfl rfl ?_
 intro W
 refine lp (σ:=SC×Int) (fun x=>if x.2=0 then 0 else d x.2+1) (fun x=>x.1.jy∧x.1.toSF.Inv d∧(x.2=0∨(0<x.2∧x.2<30∧x.1.here x.2=true))∧∃ k,d x.2+1≤k∧SF.dR k x.1.toSF x.2=s.toSF.look d n) (fun x=>[(4,.int .i64 x.2),(0,ptr b o 0)]) (fun x=>XM W (bS [.cells b o 2281 (ao s),.fam aL (s.rows 254)]) [.cells b o 2281 (ao x.1),.fam aL (x.1.rows 254)]) ((s,n)) ?_ (S2 rfl rfl) (fun _ hw=>XM.pick .h2 hw) ?_
 ·
  exact⟨hR,hI,hn,d n+1,Nat.le_refl _,rfl⟩
 intro x hx
 obtain⟨xR,xI,xn,k,hk,xl⟩:=hx
 refine gC ?_
 refine cd rfl ?_ ?_<;>intro h1
 ·
  obtain⟨n0,n1,n2⟩:=xn.resolve_left (by omega)
  obtain⟨p0,pp1,p2,p3⟩:=xI.up x.2 n0 n1 n2
  have hin:=xR.bZ (n:=x.2) ⟨by omega,n1⟩ ⟨p0,by omega⟩
  obtain⟨k,rfl⟩:∃ k2,k=k2+1:=⟨k-1,by omega⟩
  rw[SF.iO _ _ n0]at xl
  have hw:∀ i,x.1.was i=true→0<i∧i<30:=fun i hi=>⟨(xI.was i hi).1,(xI.was i hi).2.1⟩
  have hgq:=xR (x.1.par x.2) p0 (by omega)
  have hpn:(x.1.par x.2)=0∨(0<(x.1.par x.2)∧(x.1.par x.2)<30∧x.1.here (x.1.par x.2)=true):=by
   by_cases c:(x.1.par x.2)=0
   ·exact .inl c
   ·exact .inr ⟨by omega,by omega,p2⟩
  refine sd (by omega) ?_
  refine rq [0,1,2,3,4,5,6,7,8] mixed (by kernel_rfl) ?_
  refine ld .here (ao.eZ _ _ (by omega)) ?_
  refine sd (by omega) ?_
  refine XR.mono (fun _ hw3=>XM.pG (z:=(x.1.par x.2)) (by omega) .h2 hw3) ?_
  refine ca (M6 _ _ _ _ _ hgq.ok _) .h2 ?_
  rintro _ _ ⟨rfl,rfl⟩
  refine XO.mono (fun _ hw3=>XM.qa (z:=(x.1.par x.2)) (by omega) .h5 hw3) ?_
  refine gO ?_
  refine rq [0,1,2,3,4,5,6] mixed (by kernel_rfl) ?_
  refine ca (AQ _ _ _ xR hw _ (by omega)) .h2 ?_
  rintro _ _ ⟨rfl,rfl⟩
  refine gO ?_
  refine uE 49 rfl ?_ ?_<;>intro h2
  ·try simp only[sb]at h2
   have hrd:x.1.toSF.ready x.2=true:=h2
   refine cd rfl ?_ ?_<;>intro h3
   ·
    have hwf:x.1.was x.2=false:=by
     cases q:x.1.was x.2 with
     | false=>rfl
     | true=>
      rw[if_pos q]at hin
      omega
    refine rq [0,1,2,3,4,5,6,7,8,9,10,11,12] mixed (by kernel_rfl) ?_
    refine ld .here (ao.yC _ _ (by omega)) ?_
    refine ld .here (ao.sF _ _ (by omega)) ?_
    refine st .here (ao.F7 _ _ (by omega) _) rfl ?_
    refine rq [0,1,2,3,4,5,6,7,8] mixed (by kernel_rfl) ?_
    refine ld .here (CT _ _ _ (by omega)) ?_
    refine XR.mono (fun _ hw3=>XM.pG (z:=(x.1.par x.2)) (by omega) .h2 hw3) ?_
    refine ca (JB _ _ _ _ _ hgq.ok _ _) .h2 ?_
    rintro _ _ ⟨p1,c1,rfl,rfl⟩
    refine XO.mono (fun _ hw3=>XM.qL (z:=(x.1.par x.2)) (by omega) .h5 hw3) ?_
    refine gO ?_
    refine sd (by omega) ?_
    refine ld .here (ao.eZ _ _ (by omega)) ?_
    refine ag ((⟨{x.1.toSF with v:=aa x.1.v x.2 (max (x.1.v x.2) (x.1.floor (x.1.par x.2))),was:=aa x.1.was x.2 true},aa x.1.Q (x.1.par x.2) ((x.1.Q (x.1.par x.2)).put x.2 (max (x.1.v x.2) (x.1.floor (x.1.par x.2)))).2,aa x.1.P (x.1.par x.2) p1,aa x.1.C (x.1.par x.2) c1⟩,(x.1.par x.2))) ?_ ?_ (S2 rfl rfl) (fun _ hw=>XM.pick .h2 hw)
    ·
     show(if(x.1.par x.2)=0 then 0 else d (x.1.par x.2)+1)<(if x.2=0 then 0 else d x.2+1)
     rw[if_neg (show ¬x.2=0 by omega)]
     split<;>omega
    ·
     have e:({x.1.toSF with v:=aa x.1.v x.2 (max (x.1.v x.2) (x.1.floor (x.1.par x.2))),was:=aa x.1.was x.2 true} :SF)=x.1.toSF.kS x.2:=by unfold SF.kS;rw[if_pos ⟨hrd,hwf⟩,hrd]
     refine⟨?_,by show SF.Inv _ d;rw[e];exact xI.kS n0 n1 n2,hpn,k,by show d (x.1.par x.2)+1≤k;omega,by show SF.dR k _ _=_;rw[e];exact xl⟩
     have hh:=xR.enter (n:=x.2) ⟨by omega,n1⟩ ⟨p0,by omega⟩ hwf {x.1.toSF with v:=aa x.1.v x.2 (max (x.1.v x.2) (x.1.floor (x.1.par x.2))),was:=aa x.1.was x.2 true} rfl (fun i hi=>ad _ _ hi) rfl (max (x.1.v x.2) (x.1.floor (x.1.par x.2))) (ae _ _ _) (aa x.1.P (x.1.par x.2) p1) (aa x.1.C (x.1.par x.2) c1)
     exact hh
   ·
    have hwt:x.1.was x.2=true:=by
     cases q:x.1.was x.2 with
     | true=>rfl
     | false=>
      rw[if_neg (by rw[q];simp)]at hin
      omega
    refine uE 77 rfl ?_ ?_<;>intro h4
    ·try simp only[sb]at h4
     all_goals(simp_all)
    ·try simp only[sb]at h4
     refine sd (by omega) ?_
     refine ld .here (ao.eZ _ _ (by omega)) ?_
     refine ag ((x.1,(x.1.par x.2))) ?_ ?_ (S2 rfl rfl) (fun _ hw=>XM.pick .h2 hw)
     ·
      show(if(x.1.par x.2)=0 then 0 else d (x.1.par x.2)+1)<(if x.2=0 then 0 else d x.2+1)
      rw[if_neg (show ¬x.2=0 by omega)]
      split<;>omega
     ·
      have e:x.1.toSF.kS x.2=x.1.toSF:=SF.yq (by simp_all)
      rw[e]at xl
      exact⟨xR,xI,hpn,k,by show d (x.1.par x.2)+1≤k;omega,xl⟩
  ·try simp only[sb]at h2
   have hrd:x.1.toSF.ready x.2=false:=h2
   refine uE 77 rfl ?_ ?_<;>intro h5
   ·try simp only[sb]at h5
    refine cd rfl ?_ ?_<;>intro h6
    ·
     have hwt:x.1.was x.2=true:=by
      cases q:x.1.was x.2 with
      | true=>rfl
      | false=>
       rw[if_neg (by rw[q];simp)]at hin
       omega
     refine XR.mono (fun _ hw3=>XM.pG (z:=(x.1.par x.2)) (by omega) .h2 hw3) ?_
     refine ca (JI _ _ _ _ _ hgq.ok hgq.heap _) .h2 ?_
     rintro _ _ ⟨p1,c1,rfl,rfl⟩
     refine XO.mono (fun _ hw3=>XM.qL (z:=(x.1.par x.2)) (by omega) .h5 hw3) ?_
     refine gO ?_
     refine sd (by omega) ?_
     refine ld .here (ao.eZ _ _ (by omega)) ?_
     refine ag ((⟨{x.1.toSF with was:=aa x.1.was x.2 false},aa x.1.Q (x.1.par x.2) ((x.1.Q (x.1.par x.2)).cut x.2).2.2,aa x.1.P (x.1.par x.2) p1,aa x.1.C (x.1.par x.2) c1⟩,(x.1.par x.2))) ?_ ?_ (S2 rfl rfl) (fun _ hw=>XM.pick .h2 hw)
     ·
      show(if(x.1.par x.2)=0 then 0 else d (x.1.par x.2)+1)<(if x.2=0 then 0 else d x.2+1)
      rw[if_neg (show ¬x.2=0 by omega)]
      split<;>omega
     ·
      have e:({x.1.toSF with was:=aa x.1.was x.2 false} :SF)=x.1.toSF.kS x.2:=by unfold SF.kS;rw[if_neg (by rw[hrd];simp),hrd,cn x.1.v rfl]
      exact⟨xR.leave (n:=x.2) ⟨by omega,n1⟩ ⟨p0,by omega⟩ hwt {x.1.toSF with was:=aa x.1.was x.2 false} rfl (fun i hi=>rfl) rfl _ _,by show SF.Inv _ d;rw[e];exact xI.kS n0 n1 n2,hpn,k,by show d (x.1.par x.2)+1≤k;omega,by show SF.dR k _ _=_;rw[e];exact xl⟩
    ·
     have hwf:x.1.was x.2=false:=by
      cases q:x.1.was x.2 with
      | false=>rfl
      | true=>
       rw[if_pos q]at hin
       omega
     refine sd (by omega) ?_
     refine ld .here (ao.eZ _ _ (by omega)) ?_
     refine ag ((x.1,(x.1.par x.2))) ?_ ?_ (S2 rfl rfl) (fun _ hw=>XM.pick .h2 hw)
     ·
      show(if(x.1.par x.2)=0 then 0 else d (x.1.par x.2)+1)<(if x.2=0 then 0 else d x.2+1)
      rw[if_neg (show ¬x.2=0 by omega)]
      split<;>omega
     ·
      have e:x.1.toSF.kS x.2=x.1.toSF:=SF.yq (by simp_all)
      rw[e]at xl
      exact⟨xR,xI,hpn,k,by show d (x.1.par x.2)+1≤k;omega,xl⟩
   ·try simp only[sb]at h5
    all_goals(simp_all)
 ·
  refine XE.fD rfl (ab .h2 rfl ?_)
  try dsimp only[SW.den,SV.den,aj,aZ]
  refine⟨rfl,x.1,?_,xR,rfl⟩
  have hx0:x.2=0:=by
   rcases xn with q | q
   ·exact q
   ·omega
  rw[hx0,SF.gy _ _ (by omega)]at xl
  exact xl
end Go.X.Fa

namespace Go.X.Fa
open Go Go.Proofs Go.X
set_option maxRecDepth 20000
set_option maxHeartbeats 4000000
theorem FO(b o:Nat)(s:SC)(d:Int→Nat)(hI:s.toSF.Inv d)(hR:s.jy)(B:Int)(hB:0≤B∧B≤1000000000000000)(hS:s.toSF.Small B)(n:Int)(hn:0<n∧n<30∧s.here n=true)(hwn:s.was n=true):Spec Tryz.prog 183 [ptr b o 0,.int .i64 n] [.cells b o 2281 (ao s),.fam aL (s.rows 254)] (fun v H1=>v= .tuple #[]∧∃ t:SC,t.toSF=s.toSF.oA n∧t.jy∧H1=[.cells b o 2281 (ao t),.fam aL (t.rows 254)]):=by
 obtain⟨n0,n1,n2⟩:=hn
 obtain⟨p0,pp1,p2,p3⟩:=hI.up n n0 n1 n2
 have hgq:=hR (s.par n) p0 (by omega)
 obtain⟨hc1,hc2⟩:=hR.N1 (n:=n) ⟨by omega,n1⟩ ⟨p0,by omega⟩ hwn
 have hsn:=hS n (by omega) n1
 have hsg:=hS (s.par n) p0 (by omega)
 have hwt:=hI.wt n (by omega) n1 n2
 have hpn:s.par n≠n:=fun e=>by rw[e]at p3;omega
 have hq0:0≤1048576/s.wt n∧1048576/s.wt n≤1048576:=⟨Int.ediv_nonneg (by omega) (by omega),Int.ediv_le_self _ (by omega)⟩
 have hw1:∀ i,aa s.was n false i=true→0<i∧i<30:=fun i hi=>by
  by_cases c:i=n
  ·subst c;exact⟨n0,n1⟩
  ·rw[ad _ _ c]at hi;exact⟨(hI.was i hi).1,(hI.was i hi).2.1⟩
 refine Spec.go 82 [0,1,4,5,6,7,30,62,72] [(7,1)] Tryz.func183 rfl rfl rfl ?_
 intro W
 refine sd (by omega) ?_
 refine rq [0,1,2,3,4,5,6,7,8] mixed (by kernel_rfl) ?_
 refine ld .here (ao.eZ _ _ (by omega)) ?_
 refine sd (by omega) ?_
 refine XR.mono (fun _ hw3=>XM.pG (z:=(s.par n)) (by omega) .h2 hw3) ?_
 refine ca (JI _ _ _ _ _ hgq.ok hgq.heap _) .h2 ?_
 rintro _ _ ⟨p1,c1,rfl,rfl⟩
 rw[hc1]
 have hRm:SC.jy (⟨{s.toSF.ie n with was:=aa s.was n false},aa s.Q (s.par n) ((s.Q (s.par n)).cut n).2.2,aa s.P (s.par n) p1,aa s.C (s.par n) c1⟩:SC):=hR.leave (n:=n) ⟨by omega,n1⟩ ⟨p0,by omega⟩ hwn {s.toSF.ie n with was:=aa s.was n false} rfl (fun i hi=>ad _ _ hi) rfl _ _
 have hgm:=hRm (s.par n) p0 (by omega)
 refine XO.mono (fun _ hw3=>XM.qL (z:=(s.par n)) (by omega) .h5 hw3) ?_
 refine XO.mono (fun _ hw3=>XM.Mr (aa s.was n false) .h2 hw3) ?_
 refine gO ?_
 refine uu rfl (by rw[hc2];simp) ?_
 refine ld .here (show _∧_=Value.int .u64 (s.floor (s.par n))from ao.sF _ _ (by omega)) ?_
 refine st .here (ao.zu _ _ (by omega) _) rfl ?_
 refine ld .here (show _∧_=Value.int .i64 (s.wt n)from ao.wE _ _ (by omega)) ?_
 refine XO.v (V.quo rfl rfl (by first | decide | omega) _ (vJ (by omega) (by omega) (by omega))) rfl (gO ?_)
 refine XO.v (V.vx rfl Tryz.underlying3 Tryz.underlying29 _ (IntWalk.u64_in _ (by omega))) rfl (gO ?_)
 refine XO.v (V.add rfl rfl _ (IntWalk.u64_in _ (by omega))) rfl (gO ?_)
 refine st .here (ao.F7 _ _ (by omega) _) rfl ?_
 refine ld .here (show _∧_=Value.int .i64 (s.ran n)from ao.ED _ _ (by omega)) ?_
 refine sd (by omega) ?_
 refine st .here (ao.FT _ _ (by omega) _) rfl ?_
 refine ct [(0,ptr b o 0),(1,.int .i64 n),(4,ptr b o (0+0+n.toNat*76)),(5,ptr b o (0+0+(s.par n).toNat*76))] (XM W (bS [.cells b o 2281 (ao s),.fam aL (s.rows 254)]) [.cells b o 2281 (ao (⟨{s.toSF.ie n with was:=aa s.was n false},aa s.Q (s.par n) ((s.Q (s.par n)).cut n).2.2,aa s.P (s.par n) p1,aa s.C (s.par n) c1⟩:SC)),.fam aL (SC.rows 254 (⟨{s.toSF.ie n with was:=aa s.was n false},aa s.Q (s.par n) ((s.Q (s.par n)).cut n).2.2,aa s.P (s.par n) p1,aa s.C (s.par n) c1⟩:SC))]) ?_ ?_
 ·
  refine ld .here (show _∧_=Value.int .i64 (s.quota n)from ao.ku _ _ (by omega)) ?_
  refine cd rfl ?_ ?_<;>intro h1
  ·
   have hM:(⟨{s.toSF.ie n with was:=aa s.was n false},aa s.Q (s.par n) ((s.Q (s.par n)).cut n).2.2,aa s.P (s.par n) p1,aa s.C (s.par n) c1⟩:SC)=(⟨{s.toSF with floor:=aa s.floor (s.par n) (max (s.floor (s.par n)) (s.v n)),v:=aa s.v n (s.v n+1048576/s.wt n),ran:=aa s.ran n (s.ran n+1),used:=aa s.used n (s.used n+1),was:=aa s.was n false},aa s.Q (s.par n) ((s.Q (s.par n)).cut n).2.2,aa s.P (s.par n) p1,aa s.C (s.par n) c1⟩:SC):=by unfold SF.ie;rw[if_pos h1]
   refine ld .here (show _∧_=Value.int .i64 (s.used n)from ao.uv _ _ (by omega)) ?_
   refine sd (by omega) ?_
   refine st .here (ao.uh _ _ (by omega) _) rfl ?_
   refine mt (S4 rfl rfl rfl rfl) (fun _ hw2=>by rw[hM];exact XM.pick .h2 hw2)
  ·
   have hM:(⟨{s.toSF.ie n with was:=aa s.was n false},aa s.Q (s.par n) ((s.Q (s.par n)).cut n).2.2,aa s.P (s.par n) p1,aa s.C (s.par n) c1⟩:SC)=(⟨{s.toSF with floor:=aa s.floor (s.par n) (max (s.floor (s.par n)) (s.v n)),v:=aa s.v n (s.v n+1048576/s.wt n),ran:=aa s.ran n (s.ran n+1),used:=s.used,was:=aa s.was n false},aa s.Q (s.par n) ((s.Q (s.par n)).cut n).2.2,aa s.P (s.par n) p1,aa s.C (s.par n) c1⟩:SC):=by unfold SF.ie;rw[if_neg h1]
   refine mt (S4 rfl rfl rfl rfl) (fun _ hw2=>by rw[hM];exact XM.pick .h2 hw2)
 have hrr:SF.ready {s.toSF.ie n with was:=aa s.was n false} n=(s.toSF.ie n).ready n:=SF.oX (s:=s.toSF.ie n) hpn false
 refine gC ?_
 refine ca (AQ b o (⟨{s.toSF.ie n with was:=aa s.was n false},aa s.Q (s.par n) ((s.Q (s.par n)).cut n).2.2,aa s.P (s.par n) p1,aa s.C (s.par n) c1⟩:SC) hRm hw1 n ⟨by omega,n1⟩) .h2 ?_
 rintro _ _ ⟨rfl,rfl⟩
 refine gO ?_
 refine Dy rfl ?_ ?_<;>intro h2
 ·try simp only[sb]at h2
  refine rq [0,1,2,3,4,5,6,7,8] mixed (by kernel_rfl) ?_
  refine ld .here (show _∧_=Value.int .u64 (s.v n+1048576/s.wt n)from⟨by omega,(ao.yC (⟨{s.toSF.ie n with was:=aa s.was n false},aa s.Q (s.par n) ((s.Q (s.par n)).cut n).2.2,aa s.P (s.par n) p1,aa s.C (s.par n) c1⟩:SC) n (by omega)).2.trans (congrArg (Value.int .u64) (ae s.v n (s.v n+1048576/s.wt n)))⟩) ?_
  refine XR.mono (fun _ hw3=>XM.pG (z:=(s.par n)) (by omega) .h2 hw3) ?_
  refine ca (JB _ _ _ _ _ hgm.ok _ _) .h2 ?_
  rintro _ _ ⟨p2,c2,rfl,rfl⟩
  refine XO.mono (fun _ hw3=>XM.qL (z:=(s.par n)) (by omega) .h5 hw3) ?_
  refine XO.mono (fun _ hw3=>XM.Mr (aa s.was n true) .h2 hw3) ?_
  refine gO ?_
  refine XE.fD rfl (ab .h2 rfl ?_)
  try dsimp only[SW.den,SV.den,aj,aZ]
  refine⟨rfl,_,?_,?_,rfl⟩
  ·have h9:SF.ready {s.toSF.ie n with was:=aa s.was n false} n=true:=by assumption
   rw[hrr]at h9
   show _=s.toSF.oA n
   unfold SF.oA
   rw[h9]
  ·have hp30:s.par n<30:=by omega
   have:=hRm.enter (n:=n) ⟨by omega,n1⟩ ⟨p0,hp30⟩ (ae _ _ _) {s.toSF.ie n with was:=aa s.was n true} (by funext i;show aa s.was n true i=aa (aa s.was n false) n true i;unfold aa;split<;>rfl) (fun i hi=>rfl) rfl (s.v n+1048576/s.wt n) (ae _ _ _) (aa (aa s.P (s.par n) p1) (s.par n) p2) (aa (aa s.C (s.par n) c1) (s.par n) c2)
   exact this
 ·try simp only[sb]at h2
  refine XE.fD rfl (ab .h2 rfl ?_)
  try dsimp only[SW.den,SV.den,aj,aZ]
  refine⟨rfl,(⟨{s.toSF.ie n with was:=aa s.was n false},aa s.Q (s.par n) ((s.Q (s.par n)).cut n).2.2,aa s.P (s.par n) p1,aa s.C (s.par n) c1⟩:SC),?_,hRm,rfl⟩
  have h9:SF.ready {s.toSF.ie n with was:=aa s.was n false} n=false:=by assumption
  rw[hrr]at h9
  show _=s.toSF.oA n
  unfold SF.oA
  rw[h9]
end Go.X.Fa

namespace Go.X.Fa
open Go Go.Proofs Go.X
set_option maxRecDepth 20000
set_option maxHeartbeats 4000000
theorem o0:dx Tryz.prog 187=some 76:=by kernel_rfl
theorem zj(b o:Nat)(s:SC)(d:Int→Nat)(hI:s.toSF.Inv d)(hR:s.jy)(n:Int)(on:Bool):Spec Tryz.prog 61 [ptr b o 0,.int .i64 n,.bool on] [.cells b o 2281 (ao s),.fam aL (s.rows 254)] (fun v H1=>v=bM 102 (s.pw n)∧∃ t:SC,t.toSF=s.toSF.ei d n on∧t.jy∧H1=[.cells b o 2281 (ao t),.fam aL (t.rows 254)]):=by
 refine Spec.go 26 [0,1,2,6,7,8,16] [] Tryz.func61 rfl rfl rfl ?_
 intro W
 refine ca (DK _ _ _ _) .h1 ?_
 rintro _ _ (⟨h1,rfl,rfl⟩ | ⟨h1,rfl,rfl⟩)
 ·
  try dsimp only[aC,aS,aM,aR,aN,aP,aQ,aU,aO,aT,aG,aH,aB,aF]
  obtain⟨i0,i1,i2,i3⟩:=h1
  refine gO ?_
  refine st .here (ao.r9 _ _ (by omega) _) rfl ?_
  refine sd (by omega) ?_
  refine ca (ss _ _ {s with awake:=aa s.awake (10+n) on} d ⟨hI.h0,hI.up,hI.was,hI.quo,hI.wt⟩ hR _ (.inr ⟨by omega,by omega,i3⟩)) .h2 ?_
  rintro _ _ ⟨rfl,t,tl,tR,rfl⟩
  refine gO ?_
  refine XE.aV rfl rfl (ab .h2 rfl ?_)
  try dsimp only[SW.den,SV.den,aj,aZ]
  exact⟨by rw[i0];rfl,t,by rw[tl];unfold SF.ei;rw[if_pos i0],tR,rfl⟩
 ·
  try dsimp only[aC,aS,aM,aR,aN,aP,aQ,aU,aO,aT,aG,aH,aB,aF]
  have i0:=h1
  refine gO ?_
  refine XE.aV rfl rfl (ab .h2 rfl ?_)
  try dsimp only[SW.den,SV.den,aj,aZ]
  exact⟨by rw[aW _ (by assumption)],s,by unfold SF.ei;rw[if_neg (by assumption)],hR,rfl⟩
theorem oP(b o:Nat)(s:SC)(d:Int→Nat)(hI:s.toSF.Inv d)(hR:s.jy)(n p w:Int):Spec Tryz.prog 60 [ptr b o 0,.int .i64 n,.int .i64 p,.int .i64 w] [.cells b o 2281 (ao s),.fam aL (s.rows 254)] (fun v H1=>v=bM 102 (s.gj n p w)∧∃ t:SC,t.toSF=s.toSF.mV n p w∧t.jy∧H1=[.cells b o 2281 (ao t),.fam aL (t.rows 254)]):=by
 refine Spec.go 53 [0,1,2,3,8,10,24,33,42] [] Tryz.func60 rfl rfl rfl ?_
 intro W
 refine sp 13 rfl ?_ ?_<;>intro h1
 ·
  refine XE.aV rfl rfl (ab .h2 rfl ?_)
  try dsimp only[SW.den,SV.den,aj,aZ]
  have e:s.gj n p w=1:=by unfold SF.gj;rw[if_pos (by omega)]
  exact⟨by rw[e]<;>rfl,s,by unfold SF.mV;rw[if_neg (by omega)],hR,rfl⟩
 ·
  refine sp 17 rfl ?_ ?_<;>intro h2
  ·
   refine XE.aV rfl rfl (ab .h2 rfl ?_)
   try dsimp only[SW.den,SV.den,aj,aZ]
   have e:s.gj n p w=1:=by unfold SF.gj;rw[if_pos (by omega)]
   exact⟨by rw[e]<;>rfl,s,by unfold SF.mV;rw[if_neg (by omega)],hR,rfl⟩
  ·
   refine sp 21 rfl ?_ ?_<;>intro h3
   ·
    refine XE.aV rfl rfl (ab .h2 rfl ?_)
    try dsimp only[SW.den,SV.den,aj,aZ]
    have e:s.gj n p w=1:=by unfold SF.gj;rw[if_pos (by omega)]
    exact⟨by rw[e]<;>rfl,s,by unfold SF.mV;rw[if_neg (by omega)],hR,rfl⟩
   ·
    refine cd rfl ?_ ?_<;>intro h4
    ·
     refine XE.aV rfl rfl (ab .h2 rfl ?_)
     try dsimp only[SW.den,SV.den,aj,aZ]
     have e:s.gj n p w=1:=by unfold SF.gj;rw[if_pos (by omega)]
     exact⟨by rw[e]<;>rfl,s,by unfold SF.mV;rw[if_neg (by omega)],hR,rfl⟩
    ·
     refine sd (by omega) ?_
     refine sd (by omega) ?_
     refine ld .here (ao.lF _ _ (by omega)) ?_
     refine Dy rfl ?_ ?_<;>intro h5
     ·try simp only[sb]at h5
      refine XE.aV rfl rfl (ab .h2 rfl ?_)
      try dsimp only[SW.den,SV.den,aj,aZ]
      have e:s.gj n p w=3:=by unfold SF.gj;rw[if_neg (by omega),if_pos (by assumption)]
      exact⟨by rw[e]<;>rfl,s,by unfold SF.mV;rw[if_neg (by omega)],hR,rfl⟩
     ·try simp only[sb]at h5
      have hno:s.here (10+n)=false:=by
       cases q:s.here (10+n)with
       | false=>rfl
       | true=>rw[q]at h5;simp at h5
      refine ca (I1 _ _ _ _) .h1 ?_
      rintro _ _ (⟨h6,rfl,rfl⟩ | ⟨h6,rfl,rfl⟩)
      ·
       try dsimp only[aC,aS,aM,aR,aN,aP,aQ,aU,aO,aT,aG,aH,aB,aF]
       obtain⟨i0,i1,i2,i3⟩:=h6
       refine gO ?_
       refine sd (by omega) ?_
       refine XO.v (V.build (vs:= #[(0,.bool true),(1,.int .i64 p),(2,.int .i64 w)]) rfl (v:=.agg (gQ (rm true p w))) (fun _=>by kernel_rfl)) rfl (gO ?_)
       refine sd (by omega) ?_
       refine oS ?_
       refine XO.eX rfl rfl .here (qQ _ (10+n) p w true (by omega)) (mP _) o0 ?_
       refine XO.mono (fun _ hw3=>XM.newRow (s:=s) (z:=(10+n)) (by omega) (.cons (.there .here) .nil) hw3) ?_
       refine gO ?_
       refine XE.aV rfl rfl (ab (.cons (.there .here) .h1) rfl ?_)
       try dsimp only[SW.den,SV.den,aj,aZ]
       have e:s.gj n p w=0:=by unfold SF.gj;rw[if_neg (by omega),if_neg (by rw[hno];simp)];exact i0
       have hwz:s.was (10+n)=false:=by
        cases q:s.was (10+n)with
        | false=>rfl
        | true=>have:=(hI.was _ q).2.2;rw[hno]at this;cases this
       have hk9:∀ i,s.was i=true→s.par i≠(10+n):=fun i hi e9=>by
        obtain⟨a,b9,c⟩:=hI.was i hi
        have h9:=(hI.up i a b9 c).2.2.1
        rw[e9,hno]at h9;cases h9
       exact⟨by rw[e]<;>rfl,_,by unfold SF.mV;rw[if_pos e],hR.new hwz hk9 p w true,rfl⟩
      ·
       try dsimp only[aC,aS,aM,aR,aN,aP,aQ,aU,aO,aT,aG,aH,aB,aF]
       have i0:=h6
       refine gO ?_
       refine XE.aV rfl rfl (ab .h2 rfl ?_)
       try dsimp only[SW.den,SV.den,aj,aZ]
       have e:s.gj n p w=s.vO p:=by unfold SF.gj;rw[if_neg (by omega),if_neg (by rw[hno];simp)]
       exact⟨by rw[e,aW _ (by assumption)],s,by unfold SF.mV;rw[if_neg (by omega)],hR,rfl⟩
end Go.X.Fa

namespace Go.X.Fa
open Go Go.Proofs Go.X
set_option maxRecDepth 20000
set_option maxHeartbeats 4000000
theorem zt(b o:Nat)(s:SC)(d:Int→Nat)(hI:s.toSF.Inv d)(hR:s.jy)(n:Int):Spec Tryz.prog 190 [ptr b o 0,.int .i64 n] [.cells b o 2281 (ao s),.fam aL (s.rows 254)] (fun v H1=>v=bM 102 (s.pw n)∧∃ t:SC,t.toSF=s.toSF.sj d n∧t.jy∧H1=[.cells b o 2281 (ao t),.fam aL (t.rows 254)]):=by
 refine Spec.go 30 [0,1,4,5,6,14] [] Tryz.func190 rfl rfl rfl ?_
 intro W
 refine ca (DK _ _ _ _) .h1 ?_
 rintro _ _ (⟨h1,rfl,rfl⟩ | ⟨h1,rfl,rfl⟩)
 ·
  try dsimp only[aC,aS,aM,aR,aN,aP,aQ,aU,aO,aT,aG,aH,aB,aF]
  obtain⟨i0,i1,i2,i3⟩:=h1
  refine gO ?_
  refine st .here (ao.r9 _ _ (by omega) _) rfl ?_
  refine sd (by omega) ?_
  refine ca (ss _ _ {s with awake:=aa s.awake (10+n) false} d ⟨hI.h0,hI.up,hI.was,hI.quo,hI.wt⟩ hR _ (.inr ⟨by omega,by omega,i3⟩)) .h2 ?_
  rintro _ _ ⟨rfl,t,tl,tR,rfl⟩
  have tw:t.toSF=s.toSF.ei d n false:=by rw[tl];unfold SF.ei;rw[if_pos i0]
  have twz:t.was (10+n)=false:=by
   show t.toSF.was (10+n)=false
   rw[tl,SF.A6 (s:=({s with awake:=aa s.awake (10+n) false} :SC).toSF) ⟨hI.h0,hI.up,hI.was,hI.quo,hI.wt⟩ (by omega) (by omega) i3]
   unfold SF.ready
   rw[if_pos (by omega)]
   exact ae _ _ _
  have tI:t.toSF.Inv d:=by rw[tl];exact SF.nm (s:=({s with awake:=aa s.awake (10+n) false} :SC).toSF) ⟨hI.h0,hI.up,hI.was,hI.quo,hI.wt⟩ (.inr ⟨by omega,by omega,i3⟩)
  have thp:t.toSF.here=s.here∧t.toSF.par=s.par:=by rw[tl];exact⟨SF.BH _ _ _,SF.GN _ _ _⟩
  refine gO ?_
  refine sd (by omega) ?_
  refine XO.v (V.build (vs:= #[]) rfl (v:=.agg (gQ (rm false 0 0))) (fun _=>by kernel_rfl)) rfl (gO ?_)
  refine sd (by omega) ?_
  refine oS ?_
  refine XO.eX rfl rfl .here (qQ _ (10+n) 0 0 false (by omega)) (mP _) o0 ?_
  refine XO.mono (fun _ hw3=>XM.newRow (s:=t) (z:=(10+n)) (by omega) (.cons (.there .here) .nil) hw3) ?_
  refine gO ?_
  refine XE.aV rfl rfl (ab (.cons (.there .here) .h1) rfl ?_)
  try dsimp only[SW.den,SV.den,aj,aZ]
  have hk9:∀ i,t.was i=true→t.par i≠10+n:=fun i hi e9=>by
   obtain⟨a,b9,c⟩:=tI.was i hi
   have h9:=(tI.up i a b9 c).2.1
   have e9b:t.toSF.par i=10+n:=e9
   omega
  exact⟨by rw[i0];rfl,_,by show t.toSF.kG _ _ _ _=_;unfold SF.sj;rw[if_pos i0,tw],tR.new twz hk9 0 0 false,rfl⟩
 ·
  try dsimp only[aC,aS,aM,aR,aN,aP,aQ,aU,aO,aT,aG,aH,aB,aF]
  have i0:=h1
  refine gO ?_
  refine XE.aV rfl rfl (ab .h2 rfl ?_)
  try dsimp only[SW.den,SV.den,aj,aZ]
  exact⟨by rw[aW _ (by assumption)],s,by unfold SF.sj;rw[if_neg (by assumption)],hR,rfl⟩
end Go.X.Fa

namespace Go.X.Fa
open Go Go.Proofs Go.X
set_option maxRecDepth 20000
set_option maxHeartbeats 4000000
theorem Ky(b o:Nat)(s:SC)(d:Int→Nat)(hI:s.toSF.Inv d)(hR:s.jy)(hD:∀ n,0≤n→n<30→d n≤1000)(Bd:Int)(hB:0≤Bd∧Bd≤100000000000000)(hS:s.toSF.Small Bd)(hnow:0≤s.now∧s.now≤Bd)(hset:(s.toSF.jV d).gP):Spec Tryz.prog 112 [ptr b o 0] [.cells b o 2281 (ao s),.fam aL (s.rows 254)] (fun v H1=>v= .int .i64 (s.toSF.tick d).1∧∃ t:SC,t.toSF=(s.toSF.tick d).2∧t.jy∧H1=[.cells b o 2281 (ao t),.fam aL (t.rows 254)]):=by
 refine Spec.go 94 [0,2,3,4,5,7,8,10,40,65,67,81] [] Tryz.func112 rfl rfl rfl ?_
 intro W
 refine lp (σ:=SC×Int) (fun x=>(10-x.2).toNat) (fun x=>x.1.jy∧x.1.toSF.Inv d∧(1≤x.2∧x.2≤10)∧x.1.toSF=s.toSF.hQ d (x.2-1).toNat∧x.1.toSF.now=s.toSF.now∧x.1.toSF.Small Bd) (fun x=>[(3,.int .i64 x.2),(0,ptr b o 0)]) (fun x=>XM W (bS [.cells b o 2281 (ao s),.fam aL (s.rows 254)]) [.cells b o 2281 (ao x.1),.fam aL (SC.rows 254 x.1)]) ((s,1)) ?_ (S2 rfl rfl) (fun _ hw=>XM.pick .h2 hw) ?_
 ·
  exact⟨hR,hI,by simp,rfl,rfl,hS⟩
 intro x hx
 obtain⟨xR,xI,hx1,hxe,hxn,xS⟩:=hx
 refine gC ?_
 refine cd rfl ?_ ?_<;>intro h1
 ·
  have hqx:=xI.quo x.2 (by omega) (by omega)
  refine sd (by omega) ?_
  refine rq [0,1,2,3,4,5,6,7,8,9,10,11,12,13,14,15,16,17,18,19,20,21,22] mixed (by kernel_rfl) ?_
  refine ld .here (ao.lF _ _ (by omega)) ?_
  refine uE 22 rfl ?_ ?_<;>intro h2
  ·try simp only[sb]at h2
   have hhr:x.1.here x.2=true:=h2
   refine ld .here (ao.ku _ _ (by omega)) ?_
   refine sp 29 rfl ?_ ?_<;>intro h3
   ·
    refine ld .here (ao.F9 _) ?_
    refine ld .here (ao.xA _ _ (by omega)) ?_
    refine XO.v (V.rem rfl rfl (by first | decide | omega) _ (Int.tmod_eq_emod_of_nonneg (by omega))) rfl (gO ?_)
    refine cd rfl ?_ ?_<;>intro h4
    ·
     refine st .here (ao.uh _ _ (by omega) _) rfl ?_
     refine ca (ss _ _ ({x.1 with used:=aa x.1.used x.2 0} :SC) d ⟨xI.h0,xI.up,xI.was,xI.quo,xI.wt⟩ xR _ (.inr ⟨by omega,by omega,hhr⟩)) .h2 ?_
     rintro _ _ ⟨rfl,t,tl,tR,rfl⟩
     refine gO ?_
     refine sd (by omega) ?_
     refine ag ((t,x.2+1)) ?_ ?_ (S2 rfl rfl) (fun _ hw=>XM.pick .h2 hw)
     ·
      (simp;omega)
     ·
      refine⟨tR,?_,by simp;omega,?_,?_,?_⟩
      ·show t.toSF.Inv d
       rw[tl]
       exact SF.nm (s:=({x.1 with used:=aa x.1.used x.2 0} :SC).toSF) ⟨xI.h0,xI.up,xI.was,xI.quo,xI.wt⟩ (.inr ⟨by omega,by omega,hhr⟩)
      ·show t.toSF=s.toSF.hQ d (x.2+1-1).toNat
       rw[tl,SF.HU hx1.1 hxe ⟨hhr,by assumption,by assumption⟩]
      ·show t.toSF.now=_
       rw[tl]
       exact(SF.fb _ _ _).2.2.2.2.2.2.2.2.2.2.trans hxn
      ·show t.toSF.Small Bd
       rw[tl]
       exact SF.Small.dR _ (({x.1 with used:=aa x.1.used x.2 0} :SC).toSF) _ ⟨xI.h0,xI.up,xI.was,xI.quo,xI.wt⟩ (xS.used hB.1 x.2) (.inr ⟨by omega,by omega,hhr⟩)
    ·
     refine sd (by omega) ?_
     refine ag ((x.1,x.2+1)) ?_ ?_ (S2 rfl rfl) (fun _ hw=>XM.pick .h2 hw)
     ·
      (simp;omega)
     ·
      refine⟨xR,xI,by simp;omega,?_,hxn,xS⟩
      show x.1.toSF=s.toSF.hQ d (x.2+1-1).toNat
      rw[SF.u6 hx1.1 hxe]
      rintro⟨q1,q2,q3⟩
      first
      | omega
      | (rw[hhr]at q1;cases q1)
   ·
    refine sd (by omega) ?_
    refine ag ((x.1,x.2+1)) ?_ ?_ (S2 rfl rfl) (fun _ hw=>XM.pick .h2 hw)
    ·
     (simp;omega)
    ·
     refine⟨xR,xI,by simp;omega,?_,hxn,xS⟩
     show x.1.toSF=s.toSF.hQ d (x.2+1-1).toNat
     rw[SF.u6 hx1.1 hxe]
     rintro⟨q1,q2,q3⟩
     first
     | omega
     | (rw[hhr]at q1;cases q1)
  ·try simp only[sb]at h2
   have hhr:x.1.here x.2=false:=h2
   refine sd (by omega) ?_
   refine ag ((x.1,x.2+1)) ?_ ?_ (S2 rfl rfl) (fun _ hw=>XM.pick .h2 hw)
   ·
    (simp;omega)
   ·
    refine⟨xR,xI,by simp;omega,?_,hxn,xS⟩
    show x.1.toSF=s.toSF.hQ d (x.2+1-1).toNat
    rw[SF.u6 hx1.1 hxe]
    rintro⟨q1,q2,q3⟩
    first
    | omega
    | (rw[hhr]at q1;cases q1)
 ·
  have Dw:x.2=10:=by omega
  rw[show(x.2-1).toNat=9 from by omega]at hxe
  have hte:({x.1 with now:=x.1.now+1} :SC).toSF=(s.toSF.jV d):=by
   show({x.1.toSF with now:=x.1.toSF.now+1} :SF)= {s.toSF.hQ d 9 with now:=s.toSF.now+1}
   rw[←hxe,←hxn]
  have hI1:SF.Inv ({x.1 with now:=x.1.now+1} :SC).toSF d:=⟨xI.h0,xI.up,xI.was,xI.quo,xI.wt⟩
  have hR1:SC.jy ({x.1 with now:=x.1.now+1} :SC):=xR
  have hS1:SF.Small ({x.1 with now:=x.1.now+1} :SC).toSF Bd:=xS
  have hw1:∀ i,({x.1 with now:=x.1.now+1} :SC).toSF.was i=true→0<i∧i<30:=fun i hi=>⟨(hI1.was i hi).1,(hI1.was i hi).2.1⟩
  have hF:=hR1.first hw1 (g:=0) (by omega) (by omega)
  rw[←hte]at hset
  refine ld .here (ao.F9 _) ?_
  refine sd (by omega) ?_
  refine st .here (ao.KG _ _) rfl ?_
  refine sd (by omega) ?_
  refine XR.mono (fun _ hw3=>XM.pG (z:=0) (by omega) .h2 hw3) ?_
  refine ca (Aa _ _ _ _ _) .h2 ?_
  rintro _ _ ⟨rfl,rfl⟩
  refine XO.mono (fun _ hw3=>XM.qa (z:=0) (by omega) .h5 hw3) ?_
  refine gO ?_
  refine Dy rfl ?_ ?_<;>intro h5
  ·try simp only[sb]at h5
   have hb:({x.1 with now:=x.1.now+1} :SC).toSF.cW 0<0:=by
    apply Classical.byContradiction
    intro c
    have h9:=hF.1.2 c
    have h8:(x.1.Q 0).first.2.2=false:=h5
    rw[show({x.1 with now:=x.1.now+1} :SC).Q 0=x.1.Q 0 from rfl,h8]at h9
    cases h9
   have hwho:SF.bX d s.toSF= -1:=by
    unfold SF.bX
    rw[←hte]
    exact SF.FW _ _ (by omega) hb
   refine XE.aV rfl rfl (ab .h2 rfl ?_)
   try dsimp only[SW.den,SV.den,aj,aZ]
   refine⟨?_,_,?_,hR1,rfl⟩
   ·unfold SF.tick;rw[hwho];rfl
   ·unfold SF.tick;rw[hwho];exact hte
  ·try simp only[sb]at h5
   have hb:¬({x.1 with now:=x.1.now+1} :SC).toSF.cW 0<0:=hF.1.1 h5
   obtain⟨⟨b1,b2,b3⟩,b4,b5⟩:=SF.nT hw1 hb
   have hf1:(x.1.Q 0).first.1=({x.1 with now:=x.1.now+1} :SC).toSF.cW 0:=hF.2 hb
   have hwho:SF.AR ({x.1 with now:=x.1.now+1} :SC).toSF (SF.maxD d 30) (x.1.Q 0).first.1=SF.bX d s.toSF:=by
    unfold SF.bX
    rw[←hte,SF.zh _ _ (by omega) hb,hf1]
   have hbI:=hI1.was _ b1
   have hdb:=(hI1.up _ b4 b5 hbI.2.2).2.2.2
   rw[b2]at hdb
   refine lp (σ:=Int) (fun a=>SF.maxD d 30-d a) (fun a=>(0<a∧a<30∧({x.1 with now:=x.1.now+1} :SC).here a=true)∧({x.1 with now:=x.1.now+1} :SC).was a=true∧(∃ k,SF.maxD d 30<k+d a∧SF.AR ({x.1 with now:=x.1.now+1} :SC).toSF k a=SF.bX d s.toSF)∧∃ j,SF.LK ({x.1 with now:=x.1.now+1} :SC).toSF j a) (fun a=>[(5,.int .i64 a),(0,ptr b o 0)]) (fun a=>XM W (bS [.cells b o 2281 (ao s),.fam aL (s.rows 254)]) [.cells b o 2281 (ao ({x.1 with now:=x.1.now+1} :SC)),.fam aL (SC.rows 254 ({x.1 with now:=x.1.now+1} :SC))]) ((x.1.Q 0).first.1) ?_ (S2 rfl rfl) (fun _ hw=>XM.pick .h2 hw) ?_
   ·
    rw[hf1]at hwho ⊢
    exact⟨⟨b4,b5,hbI.2.2⟩,b1,⟨SF.maxD d 30,by omega,hwho⟩,1,.inr ⟨b1,by show({x.1 with now:=x.1.now+1} :SC).toSF.par _≤0;rw[b2];omega⟩⟩
   intro a ha
   obtain⟨⟨a0,a1,a2⟩,aw,⟨k,hk,ak⟩,⟨j,ju⟩⟩:=ha
   refine gC ?_
   refine cd rfl ?_ ?_<;>intro h6
   ·
    have hbs:=SF.Dh hI1 hset a0 (by omega) aw
    have hFa:=hR1.first hw1 (g:=a) (by omega) (by omega)
    have hfa:(x.1.Q a).first.1=({x.1 with now:=x.1.now+1} :SC).toSF.cW a:=hFa.2 hbs
    obtain⟨⟨c1,c2,c3⟩,c4,c5⟩:=SF.nT hw1 hbs
    have hcI:=hI1.was _ c1
    have hdc:=(hI1.up _ c4 c5 hcI.2.2).2.2.2
    rw[c2]at hdc
    have hma:=SF.maxD_le d 30 a (by omega) (by omega)
    have hmc:=SF.maxD_le d 30 _ (Int.le_of_lt c4) c5
    refine sd (by omega) ?_
    refine XR.mono (fun _ hw3=>XM.pG (z:=a) (by omega) .h2 hw3) ?_
    refine ca (Aa _ _ _ _ _) .h2 ?_
    rintro _ _ ⟨rfl,rfl⟩
    refine XO.mono (fun _ hw3=>XM.qa (z:=a) (by omega) .h5 hw3) ?_
    refine gO ?_
    refine ag ((x.1.Q a).first.1) ?_ ?_ (S2 rfl rfl) (fun _ hw=>XM.pick .h2 hw)
    ·
     rw[hfa];omega
    ·
     rw[hfa]
     obtain⟨k2,rfl⟩:∃ k2,k=k2+1:=⟨k-1,by omega⟩
     rw[SF.zh _ _ (by omega) hbs]at ak
     exact⟨⟨c4,c5,hcI.2.2⟩,c1,⟨k2,by omega,ak⟩,j+1,.inr ⟨c1,by rw[c2];exact ju⟩⟩
   ·
    have hae:a=SF.bX d s.toSF:=by
     rw[SF.AI _ _ (by omega)]at ak
     exact ak
    have htk:s.toSF.tick d=(a-10,SF.nF (d a+1) ({x.1 with now:=x.1.now+1} :SC).toSF a):=by
     unfold SF.tick
     rw[←hae,if_neg (by omega),hte]
    have hda:=hD a (by omega) a1
    refine lp (σ:=SC×Int) (fun y=>if y.2=0 then 0 else d y.2+1) (fun y=>y.1.jy∧y.1.toSF.Inv d∧(y.2=0∨(0<y.2∧y.2<30∧y.1.here y.2=true))∧y.1.toSF.Small (Bd+1048577*((d a:Int)-(d y.2:Int)))∧d y.2≤d a∧(∃ k,d y.2+1≤k∧SF.nF k y.1.toSF y.2=(s.toSF.tick d).2)∧∃ j,SF.LK y.1.toSF j y.2) (fun y=>[(8,.int .i64 y.2),(0,ptr b o 0),(5,.int .i64 a)]) (fun y=>XM W (bS [.cells b o 2281 (ao s),.fam aL (s.rows 254)]) [.cells b o 2281 (ao y.1),.fam aL (SC.rows 254 y.1)]) ((({x.1 with now:=x.1.now+1} :SC),a)) ?_ (S3 rfl rfl rfl) (fun _ hw=>XM.pick .h2 hw) ?_
    ·
     exact⟨hR1,hI1,.inr ⟨a0,a1,a2⟩,hS1.mono (by simp),Nat.le_refl _,⟨d a+1,Nat.le_refl _,by rw[htk]⟩,j,ju⟩
    intro y hy
    obtain⟨yR,yI,yn,yS,yd,⟨yk,hyk,yl⟩,⟨j,yu⟩⟩:=hy
    refine gC ?_
    refine cd rfl ?_ ?_<;>intro h7
    ·
     obtain⟨y0,y1,y2⟩:=yn.resolve_left (by omega)
     obtain⟨p0,pp1,p2,p3⟩:=yI.up y.2 y0 y1 y2
     obtain⟨k2,rfl⟩:∃ k2,yk=k2+1:=⟨yk-1,by omega⟩
     rw[SF.Bt _ _ y0]at yl
     obtain⟨ywn,yu2⟩:y.1.toSF.was y.2=true∧∃ j,SF.LK y.1.toSF j (y.1.toSF.par y.2):=by
      cases j with
      | zero=>have:y.2≤0:=yu;omega
      | succ j=>
       rcases yu with q | ⟨q1,q2⟩
       ·omega
       ·exact⟨q1,j,q2⟩
     have hdy:=hD y.2 (by omega) y1
     refine ca (FO _ _ _ d yI yR (Bd+1048577*((d a:Int)-(d y.2:Int))) (by omega) yS _ ⟨y0,y1,y2⟩ ywn) .h2 ?_
     rintro _ _ ⟨rfl,t,tl,tR,rfl⟩
     have htp:t.par y.2=y.1.toSF.par y.2:=by show t.toSF.par y.2=_;rw[tl];rfl
     refine gO ?_
     refine sd (by omega) ?_
     refine ld .here (ao.eZ _ _ (by omega)) ?_
     refine ag ((t,y.1.toSF.par y.2)) ?_ ?_ (S3 (sV htp) rfl rfl) (fun _ hw=>XM.pick .h2 hw)
     ·
      show(if y.1.toSF.par y.2=0 then 0 else d (y.1.toSF.par y.2)+1)<(if y.2=0 then 0 else d y.2+1)
      rw[if_neg (show ¬y.2=0 by omega)]
      split<;>omega
     ·
      have hpn:y.1.toSF.par y.2=0∨(0<y.1.toSF.par y.2∧y.1.toSF.par y.2<30∧y.1.toSF.here (y.1.toSF.par y.2)=true):=by
       by_cases c:y.1.toSF.par y.2=0
       ·exact .inl c
       ·exact .inr ⟨by omega,by omega,p2⟩
      obtain⟨j2,yu3⟩:=yu2
      refine⟨tR,by show t.toSF.Inv d;rw[tl];exact yI.oA y0 y1 y2,?_,?_,by show d (y.1.toSF.par y.2)≤d a;omega,⟨k2,by show d (y.1.toSF.par y.2)+1≤k2;omega,by show SF.nF k2 t.toSF (y.1.toSF.par y.2)=_;rw[tl];exact yl⟩,j2,by show SF.LK t.toSF j2 (y.1.toSF.par y.2);rw[tl];exact SF.AZ yI j2 _ hpn p3 yu3⟩
      ·show y.1.toSF.par y.2=0∨(0<y.1.toSF.par y.2∧y.1.toSF.par y.2<30∧t.toSF.here (y.1.toSF.par y.2)=true)
       rw[tl];exact hpn
      ·show t.toSF.Small (Bd+1048577*((d a:Int)-(d (y.1.toSF.par y.2):Int)))
       rw[tl]
       exact(SF.Small.oA yI yS y0 y1 y2).mono (by omega)
    ·
     refine sd (by omega) ?_
     refine XE.aV rfl rfl (ab .h2 rfl ?_)
     try dsimp only[SW.den,SV.den,aj,aZ]
     have hy0:y.2=0:=by
      rcases yn with q | q
      ·exact q
      ·omega
     rw[hy0,SF.uI _ _ (by omega)]at yl
     exact⟨by rw[htk],y.1,yl,yR,rfl⟩
end Go.X.Fa

namespace Go.X.Vm
open Go Go.Proofs Go.X
set_option maxRecDepth 20000
set_option maxHeartbeats 4000000
theorem M1:Spec Tryz.prog 174 [] [] (fun v H1=>∃ b,v=ptr b 0 0∧H1=[.cells b 0 71 (aq BB.init.bA)]):=by
 refine Spec.go 9 [0,1] [] Tryz.func174 rfl rfl rfl ?_
 intro W
 refine XO.v (V.build (vs:= #[]) rfl (v:=.agg #[.int .u64 0,.int .u64 0,.int .u64 0,.int .u64 0,.int .u64 0,.int .u64 0,.int .u64 0,.int .i64 0,.int .i64 0,.int .i64 0,.int .i64 0,.int .i64 0,.int .i64 0,.int .i64 0,.int .i64 0,.int .i64 0,.int .i64 0,.int .i64 0,.int .i64 0,.int .i64 0,.int .i64 0,.int .i64 0,.int .i64 0,.int .i64 0,.int .i64 0,.int .i64 0,.int .i64 0,.int .i64 0,.int .i64 0,.int .i64 0,.int .i64 0,.int .i64 0,.int .i64 0,.int .i64 0,.int .i64 0,.int .i64 0,.int .i64 0,.int .i64 0,.int .i64 0,.int .i64 0,.int .i64 0,.int .i64 0,.int .i64 0,.int .i64 0,.int .i64 0,.int .i64 0,.int .i64 0,.int .i64 0,.int .i64 0,.int .i64 0,.int .i64 0,.int .i64 0,.int .i64 0,.int .i64 0,.int .i64 0,.int .i64 0,.int .i64 0,.int .i64 0,.int .i64 0,.int .i64 0,.int .i64 0,.int .i64 0,.int .i64 0,.int .i64 0,.int .i64 0,.int .i64 0,.int .i64 0,.int .i64 0,.int .i64 0,.int .i64 0,.int .i64 0]) (fun _=>by kernel_rfl)) rfl (gO ?_)
 refine XO.box (m:=71) (C:=aq ⟨BB.void,fun _=>0⟩) rfl rfl oY rfl ?_
 intro bs
 refine gO ?_
 refine sd (by omega) ?_
 refine st .here (lL _ BB.init 6 (by omega) (v:=1) ⟨BB.tY.1.symm,fun m h0 h1 h2=>by rw[BB.tY.2 m h0 h1 h2];exact(BB.uL m h0 h1).symm⟩) rfl ?_
 refine XE.aV rfl rfl (ab .h1 rfl ?_)
 exact⟨_,rfl,rfl⟩
theorem LO(p o:Nat)(b:BB)(hI:b.Inv)(a:Int):Spec Tryz.prog 218 [ptr p o 0,.int .i64 a] [.cells p o 71 (aq b.bA)] (fun v H1=>v=bM 102 (b.kI a).1∧H1=[.cells p o 71 (aq (b.kI a).2.bA)]):=by
 refine Spec.go 80 [0,1,4,5,6,12,20,35,49] [] Tryz.func218 rfl rfl rfl ?_
 intro W
 refine sp 9 rfl ?_ ?_<;>intro h1
 ·
  refine XE.aV rfl rfl (ab .h1 rfl ?_)
  have his:=BB.jT (b:=b) (a:=a) (by omega)
  rw[BB.nt (by omega),his];exact⟨rfl,rfl⟩
 ·
  refine cd rfl ?_ ?_<;>intro h2
  ·
   refine XE.aV rfl rfl (ab .h1 rfl ?_)
   have his:=BB.jT (b:=b) (a:=a) (by omega)
   rw[BB.nt (by omega),his];exact⟨rfl,rfl⟩
  ·
   refine sd (by omega) ?_
   refine ld .here (aq.lX _ _ (by omega)) ?_
   refine cd rfl ?_ ?_<;>intro h3
   ·
    have hu:b.cJ a=0:=h3
    have his:b.is a=2:=BB.nh (by omega) ((hI.ti a).1 hu)
    refine XE.aV rfl rfl (ab .h1 rfl ?_)
    rw[BB.nt (by omega),his];exact⟨rfl,rfl⟩
   ·
    have hu:¬b.cJ a=0:=h3
    obtain⟨ht,ho⟩:=(hI.ti a).2 hu
    have hpos:=hI.tk a ht
    have hrg:=hI.gL a
    have his:b.is a=0:=BB.rj (by omega) ht
    refine sd (by omega) ?_
    refine ld .here (aq.lX _ _ (by omega)) ?_
    refine oV ?_
    refine XO.v (V.sub rfl rfl (b.ord a-1) (by rw[show b.bA.u a=b.ord a from ho];exact IntWalk.i64_in _ (by omega))) rfl (gO ?_)
    refine sd (by omega) ?_
    refine st .here (aq.CQ _ _ (by omega) _) rfl ?_
    refine lp (σ:=BB×Int) (fun x=>(7-x.1.ord x.2).toNat) (fun x=>x.1.Inv∧0<x.1.ord x.2∧x.1.tk x.2=false∧BB.fC (7-x.1.ord x.2).toNat x.1 x.2=BB.fC (7-b.ord a).toNat (b.bare a) a) (fun x=>[(1,.int .i64 x.2),(5,.int .i64 (x.1.ord x.2-1)),(0,ptr p o 0)]) (fun x=>XM W (bS [.cells p o 71 (aq b.bA)]) [.cells p o 71 (aq ⟨x.1.eM x.2,(aa b.cJ a 0)⟩)]) ((b.bare a,a)) ?_ (S3 rfl rfl rfl) (fun w hw2=>by
      have e:=BB.CJ (b:=b) ht
      show XM _ _ (.cells p o 71 (aq ⟨(b.bare a).eM a,aa b.cJ a 0⟩)::_) w
      rw[e];exact XM.pick .h1 hw2) ?_
    ·
     exact⟨hI.bare a,hpos,ae _ _ _,rfl⟩
    intro x hx
    obtain⟨hx,x1,x2,x3⟩:=hx
    have hxr:=hx.gL x.2
    have hxi:=hx.qX x1
    refine gC ?_
    refine cd rfl ?_ ?_<;>intro h4
    ·
     obtain⟨r1,r2,r3⟩:=hx.oO x1 (by omega)
     obtain⟨q1,q2⟩:=FZ (a:=x.2) (k:=x.1.ord x.2-1) hxi (by omega)
     have hjt:=hx.BV x1 (by omega)
     have hb:=re ((x.1.eM x.2).mask (x.1.ord x.2-1)) (x.1.bH x.2).toNat
     rw[hjt]at hb
     have hp2:=M3 (k:=x.1.ord x.2-1) (by omega)
     refine XO.v (V.shl rfl rfl (by omega) _ (A8 (by omega))) rfl (gO ?_)
     refine XO.v (V.J0 rfl rfl (z:=(x.1.bH x.2)) (by omega) (by omega) (by omega) rfl (by rw[wi];exact q1)) rfl (gO ?_)
     refine sd (by omega) ?_
     refine ld .here (aq.fQ _ _ (by omega)) ?_
     refine XO.v (V.shr rfl rfl (by omega) _ (Ia (by omega) _)) rfl (gO ?_)
     refine XO.v (V.bits rfl rfl rfl (Nat.lt_of_le_of_lt (KE _ _) (BB.ql _ _)) (by decide) rfl) rfl (gO ?_)
     refine cd rfl ?_ ?_<;>intro h5
     ·
      have h9:(((((x.1.eM x.2).mask (x.1.ord x.2-1)) >>> (x.1.bH x.2).toNat)&&&1:Nat):Int)=0:=h5
      have hc:¬x.1.fh x.2:=fun q=>by
       simp only[q,decide_true,if_true]at hb
       omega
      have hx9:BB.fC (7-b.ord a).toNat (b.bare a) a=x.1:=by rw[←x3];exact BB.zJ _ hc
      have hfin:=hI.oC his
      rw[hx9]at hfin
      refine rq [0,1,2,3,4,5,6,7,8,9,10,11,12] mixed (by kernel_rfl) ?_
      refine sd (by omega) ?_
      refine ld .here (aq.fQ _ _ (by omega)) ?_
      refine XO.v (V.shl rfl rfl (by omega) _ (vl (by omega))) rfl (gO ?_)
      refine XO.v (V.bits rfl rfl rfl (BB.ql _ _) (eN (by omega)) rfl) rfl (gO ?_)
      refine sd (by omega) ?_
      refine st .here (lL _ x.1 _ (by omega) (BB.ux x1 hxi x2)) rfl ?_
      refine XE.aV rfl rfl (ab .h1 rfl ?_)
      rw[←hfin,BB.qk his];exact⟨rfl,rfl⟩
     ·
      have h9:¬(((((x.1.eM x.2).mask (x.1.ord x.2-1)) >>> (x.1.bH x.2).toNat)&&&1:Nat):Int)=0:=h5
      have hc:x.1.fh x.2:=by
       apply Classical.byContradiction
       intro q
       simp only[q,decide_false,Bool.false_eq_true,if_false]at hb
       omega
      obtain⟨j1,_,_,_,j5,j6⟩:=hx.ft x1 x2 hc
      refine rq [0,1,2,3,4,5,6,7,8,9,10,11,12] mixed (by kernel_rfl) ?_
      refine sd (by omega) ?_
      refine ld .here (aq.fQ _ _ (by omega)) ?_
      refine XO.v (V.shl rfl rfl (by omega) _ (vl (by omega))) rfl (gO ?_)
      refine XO.v (V.bits rfl rfl rfl (BB.ql _ _) (eN (by omega)) rfl) rfl (gO ?_)
      refine sd (by omega) ?_
      refine st .here (lL _ ((x.1.ft x.2).eM (min x.2 (x.1.bH x.2))) _ (by omega) (hx.Cn x1 hc)) rfl ?_
      refine XO.v (V.shl rfl rfl (by omega) _ (A8 (by omega))) rfl (gO ?_)
      refine XO.v (V.J0 rfl rfl (z:=(min x.2 (x.1.bH x.2))) (by omega) (by omega) (by omega) rfl (by rw[wi];exact q2)) rfl (gO ?_)
      refine sd (by omega) ?_
      refine ag ((x.1.ft x.2,(min x.2 (x.1.bH x.2)))) ?_ ?_ (S3 rfl (sV (by show x.1.ord x.2-1+1=(x.1.ft x.2).ord (min x.2 (x.1.bH x.2))-1;rw[j5];omega)) rfl) (fun _ hw=>XM.pick .h1 hw)
      ·
       (show(7-(x.1.ft x.2).ord (min x.2 (x.1.bH x.2))).toNat<(7-x.1.ord x.2).toNat;rw[j5];omega)
      ·
       refine⟨j1,by show 0<(x.1.ft x.2).ord (min x.2 (x.1.bH x.2));rw[j5];omega,j6,?_⟩
       show BB.fC (7-(x.1.ft x.2).ord (min x.2 (x.1.bH x.2))).toNat (x.1.ft x.2) (min x.2 (x.1.bH x.2))=_
       rw[←x3,j5,show(7-x.1.ord x.2).toNat=(7-(x.1.ord x.2+1)).toNat+1 from by omega,BB.fC,if_pos hc]
    ·
     have hx9:BB.fC (7-b.ord a).toNat (b.bare a) a=x.1:=by rw[←x3,show(7-x.1.ord x.2).toNat=0 from by omega];rfl
     have hfin:=hI.oC his
     rw[hx9]at hfin
     refine rq [0,1,2,3,4,5,6,7,8,9,10,11,12] mixed (by kernel_rfl) ?_
     refine sd (by omega) ?_
     refine ld .here (aq.fQ _ _ (by omega)) ?_
     refine XO.v (V.shl rfl rfl (by omega) _ (vl (by omega))) rfl (gO ?_)
     refine XO.v (V.bits rfl rfl rfl (BB.ql _ _) (eN (by omega)) rfl) rfl (gO ?_)
     refine sd (by omega) ?_
     refine st .here (lL _ x.1 _ (by omega) (BB.ux x1 hxi x2)) rfl ?_
     refine XE.aV rfl rfl (ab .h1 rfl ?_)
     rw[←hfin,BB.qk his];exact⟨rfl,rfl⟩
end Go.X.Vm

namespace Go.X.Vm
open Go Go.Proofs Go.X
set_option maxRecDepth 20000
set_option maxHeartbeats 4000000
theorem Db:Spec Tryz.prog 98 [] [] (fun v H1=>∃ kb pb,v=ptr kb 0 0∧H1=[.cells kb 0 577 (bu pb VB.init.by_ VB.init.rf),.cells pb 0 71 (aq VB.init.bb.bA)]):=by
 refine Spec.go 4 [0] [] Tryz.func98 rfl rfl rfl ?_
 intro W
 refine ca (M1) .nil ?_
 rintro _ _ ⟨pb,rfl,rfl⟩
 refine gO ?_
 refine XO.v (V.build (vs:= #[(0,ptr pb 0 0)]) rfl (v:=.agg (NS pb).toArray) (fun _=>by kernel_rfl)) rfl (gO ?_)
 refine XO.box (m:=577) (C:=bu pb VB.init.by_ VB.init.rf) rfl rfl (LV _) rfl ?_
 intro kb
 refine gO ?_
 refine XE.aV rfl rfl (ab .h2 rfl ?_)
 exact⟨_,_,rfl,rfl⟩
theorem Mz(kb:Nat):Spec Tryz.prog 103 [ptr kb 0 0] [] (fun v H1=>∃ mb,v=ptr mb 0 0∧H1=[.cells mb 0 34 (bE kb none (runs MS.nil.aI).length 0 MS.nil.fr MS.nil.own),bj none 0 171 3 (runs MS.nil.aI).length (dD (runs MS.nil.aI))]):=by
 refine Spec.go 19 [0,2,3,4,8,9] [] Tryz.func103 rfl rfl rfl ?_
 intro W
 refine XO.v (V.build (vs:= #[(0,ptr kb 0 0)]) rfl (v:=.agg (ND kb).toArray) (fun _=>by kernel_rfl)) rfl (gO ?_)
 refine XO.box (m:=34) (C:=bE kb none 0 0 (Jv 0) (fun _=>false)) rfl rfl (fun i hi=>(FH _ i hi).trans (congrFun (kj fun i h0 h1=>⟨by unfold Jv;first | rw[if_neg (by omega)] | rw[if_pos (by omega)],rfl⟩) i)) rfl ?_
 intro mb
 refine gO ?_
 refine lp (σ:=Int) (fun i=>(16-i).toNat) (fun i=>0≤i∧i≤16) (fun i=>[(8,.int .i64 i),(3,ptr mb 0 0)]) (fun i=>XM W (bS []) [.cells mb 0 34 (bE kb none 0 0 (Jv i) (fun _=>false))]) (0) ?_ (S2 rfl rfl) (fun _ hw=>XM.pick .h1 hw) ?_
 ·
  omega
 intro i hi
 refine gC ?_
 refine cd rfl ?_ ?_<;>intro h1
 ·
  refine sd (by omega) ?_
  refine st .here (bE.og _ _ _ _ _ _ _ (by omega) _) rfl ?_
  refine sd (by omega) ?_
  refine ag (i+1) ?_ ?_ (S2 rfl rfl) (fun _ hw=>by rw[←Gh hi.1];exact XM.pick .h1 hw)
  ·
   (first | omega | (simp;done) | (simp;omega))
  ·
   (first | omega | (simp;done) | (simp;omega))
 ·
  refine XR.dH 171 3 ?_
  refine XE.aV rfl rfl (ab (.cons (.there .here) .h1) rfl ?_)
  have e:i=16:=by omega
  subst e
  rw[EF]
  exact⟨_,rfl,by rw[show bE kb none 0 0 (Jv 16) (fun _=>false)=bE kb none 0 0 (fun _=>0) (fun _=>false)from kj (fun i h0 h1=>⟨by unfold Jv;rw[if_pos (by omega)],rfl⟩)];rfl⟩
theorem Ke(a n:Int):Spec Tryz.prog 177 [.int .i64 a,.int .i64 n] [] (fun x H1=>x=bM 102 (if fB a n then 1 else 0)∧H1=[]):=by
 refine Spec.go 22 [0,1,4,20] [] Tryz.func177 rfl rfl rfl ?_
 intro W
 refine sp 7 rfl ?_ ?_<;>intro h1
 ·
  refine XE.aV rfl rfl (ab .nil rfl ?_)
  first | (rw[if_neg (by unfold fB;omega)];exact⟨rfl,rfl⟩) | (rw[if_pos (by unfold fB;omega)];exact⟨rfl,rfl⟩)
 ·
  refine sp 11 rfl ?_ ?_<;>intro h2
  ·
   refine XE.aV rfl rfl (ab .nil rfl ?_)
   first | (rw[if_neg (by unfold fB;omega)];exact⟨rfl,rfl⟩) | (rw[if_pos (by unfold fB;omega)];exact⟨rfl,rfl⟩)
  ·
   refine sp 15 rfl ?_ ?_<;>intro h3
   ·
    refine XE.aV rfl rfl (ab .nil rfl ?_)
    first | (rw[if_neg (by unfold fB;omega)];exact⟨rfl,rfl⟩) | (rw[if_pos (by unfold fB;omega)];exact⟨rfl,rfl⟩)
   ·
    refine sd (by omega) ?_
    refine cd rfl ?_ ?_<;>intro h4
    ·
     refine XE.aV rfl rfl (ab .nil rfl ?_)
     first | (rw[if_neg (by unfold fB;omega)];exact⟨rfl,rfl⟩) | (rw[if_pos (by unfold fB;omega)];exact⟨rfl,rfl⟩)
    ·
     refine XE.aV rfl rfl (ab .nil rfl ?_)
     first | (rw[if_neg (by unfold fB;omega)];exact⟨rfl,rfl⟩) | (rw[if_pos (by unfold fB;omega)];exact⟨rfl,rfl⟩)
end Go.X.Vm
