import Derived.Test.YthdinakloheinaaGreatDoorkVW2
import Derived.Test.YthdinakloheinaaGreatDoorkNOP
import Derived.Test.YthdinakloheinaaGreatDoorkKW
import Derived.Test.YthdinakloheinaaGreatDoorkGW3
import Derived.Test.YthdinakloheinaaGreatDoorkFW3
import Derived.Test.YthdinakloheinaaGreatDoorkGPl
namespace Go.X.Vm
open Go Go.Proofs Go.X
set_option maxRecDepth 20000
set_option maxHeartbeats 4000000
theorem jH:kV Tryz.prog 3 1=true:=by kernel_rfl
theorem LI(kb mb:Nat)(p:Option Addr)(c:Nat)(l:List RG)(fr:Int→Int)(own:Int→Bool)(f:Int→Int)(hf:GU f)(hg:GL l)(hc:Js l f)(hl:l.length≤100):Spec Tryz.prog 180 [ptr mb 0 0] [.cells mb 0 34 (bA kb p l.length c fr own),aR p c 171 3 l.length (dy l)] (fun v H1=>v= .tuple #[]∧∃ p2 c2,H1=[.cells mb 0 34 (bA kb p2 (runs f).length c2 fr own),aR p2 c2 171 3 (runs f).length (dy (runs f))]):=by
 refine Spec.go 70 [0,2,4,5,14,15,16,17,50] [] Tryz.func180 rfl rfl rfl ?_
 intro W
 refine ld .here (bA.IJ _ _ _ _ _ _) ?_
 refine ca (LV _ _ _ (CM hg) (by omega)) (.cons (.there .here) .nil) ?_
 rintro _ _ ⟨rfl,l2,hp,hs,rfl⟩
 have hn:l.length=l2.length:=hp.length_eq
 have hmg:=Ig (hg.perm hp) (hc.perm hp) hf hs
 refine gO ?_
 refine XR.dG 171 3 ?_
 refine ld (.t2 .here) (bA.IJ _ _ _ _ _ _) ?_
 refine lp (σ:=Int×List RG×Option Addr×Nat) (fun x=>(l.length-x.1).toNat) (fun x=>(0≤x.1∧x.1≤l.length)∧x.2.1=mg (l2.take x.1.toNat)) (fun x=>[(16,.int .i64 x.1),(2,.slice x.2.2.1 x.2.1.length x.2.2.2),(0,ptr mb 0 0),(14,.slice p l.length c),(15,.int .i64 l.length)]) (fun x=>XM W (bR [.cells mb 0 34 (bA kb p l.length c fr own),aR p c 171 3 l.length (dy l)]) [.cells mb 0 34 (bA kb p l.length c fr own),aR p c 171 3 l.length (dy l2),aR x.2.2.1 x.2.2.2 171 3 x.2.1.length (dy x.2.1)]) ((0,[],none,0)) ?_ (S5 rfl rfl rfl rfl rfl) (fun _ hw=>XM.pick (.cons (.t2 .here) (.cons (.there .here) .h1)) hw) ?_
 ·
  exact⟨by simp,rfl⟩
 intro x hx
 obtain⟨hi,hac⟩:=hx
 have hal:x.2.1.length≤x.1:=by
  rw[hac];exact Int.le_trans (Int.ofNat_le.2 (DS _ _ rfl)) (by rw[List.length_take];omega)
 have hab:∀ r∈x.2.1,0≤r.fr∧0<r.n∧r.fr+r.n≤16:=by
  rw[hac];exact M4 _ _ rfl (fun r hr=>(hg.perm hp).b r (List.mem_of_mem_take hr))
 refine gC ?_
 refine cd rfl ?_ ?_<;>intro h1
 ·
  refine XR.cZ (.there .here) (by omega) ?_
  intro g1 h2
  subst h2
  refine sd (by omega) ?_
  refine ou (.there .here) (dy.N9 hn (by omega)) ?_
  refine XO.cY (z:=.agg RG.nil.arr) (m:=3) (C:=jZ RG.nil) (by kernel_rfl) rfl (jZ.box _) rfl ?_
  intro rb
  refine gO ?_
  refine jV .here (jZ.st _ _) rfl ⟨rfl,rfl⟩ ?_
  refine sd (by omega) ?_
  refine rq [0,1,2,3,4,5,6,7,8,9,10,11,12,13,14,15,16,17,18,19,20,21,22,23,24,25,26,27] mixed (by kernel_rfl) ?_
  refine sp 25 rfl ?_ ?_<;>intro h3
  ·
   have hpos:0<x.2.1.length:=by omega
   have hlb:=hab _ (uE (z:=(x.2.1.length:Int)-1) (by omega))
   have hrb:=(hg.perm hp).b _ (uE (z:=x.1) (by omega))
   refine XR.cZ (.t3 .here) (by omega) ?_
   intro ga hga
   rw[hga]
   refine sd (by omega) ?_
   refine Jk (.t3 .here) (dy.f (by omega)) ?_
   refine sd (by omega) ?_
   refine Jk (.t3 .here) (dy.n (by omega)) ?_
   refine sd (by omega) ?_
   refine ld .here (jZ.f _) ?_
   refine sp 41 rfl ?_ ?_<;>intro h4
   ·
    have ND:=h4
    refine sd (by omega) ?_
    refine Jk (.t3 .here) (dy.w (by omega)) ?_
    refine ld .here (jZ.w _) ?_
    refine XO.v (V.KH rfl rfl Tryz.underlying4 rfl) rfl (gO ?_)
    refine AK rfl ?_ ?_<;>intro h5
    ·try simp only[sb]at h5
     have h26:=h5
     refine rq [0,1,2,3,4,5,6,7,8,9,10] mixed (by kernel_rfl) ?_
     refine sd (by omega) ?_
     refine Jk (.t3 .here) (dy.n (by omega)) ?_
     refine ld .here (jZ.n _) ?_
     refine sd (by omega) ?_
     refine sd (by omega) ?_
     refine OB (.t3 .here) (dy.grow (by omega) _) rfl ?_
     refine sd (by omega) ?_
     refine ag ((x.1+1,sU x.2.1 {(rat x.2.1 ((x.2.1.length:Int)-1))with n:=(rat x.2.1 ((x.2.1.length:Int)-1)).n+(rat l2 x.1).n},some ⟨ga,0,none⟩,x.2.2.2)) ?_ ?_ (S5 rfl (by show lk _ _=some (Value.slice _ (sU _ _).length _);rw[pB hpos];rfl) rfl rfl rfl) (fun _ hw=>by show XM _ _ [_,_,aR _ _ _ _ (sU _ _).length _] _;rw[pB hpos];exact XM.pick (.cons (.there .here) (.cons (.there .here) (.cons (.there .here) .nil))) hw)
     ·
      (simp;omega)
     ·
      refine⟨by simp;omega,?_⟩
      show sU _ _=mg (l2.take (x.1+1).toNat)
      rw[iB (by omega),ma,←hac,HS hpos ND h26]
    ·try simp only[sb]at h5
     have h27:=h5
     refine mQ .here (jZ.agg _) ?_
     refine XO.buildSlice (e:=171) (vs:= #[(0,.agg (rat l2 x.1).arr)]) (A:=(rat l2 x.1).arr) rfl (fun _=>by kernel_rfl) rfl rfl ?_
     intro nb
     refine gO ?_
     refine XO.jJ (e:=171) (acc:=x.2.1) (r:=(rat l2 x.1)) rfl rfl Tryz.underlying140 iU (.t4 .here) .here (by omega) rfl ?_
     intro p3 c3
     refine gO ?_
     refine sd (by omega) ?_
     refine ag ((x.1+1,x.2.1++[(rat l2 x.1)],p3,c3)) ?_ ?_ (S5 rfl rfl rfl rfl rfl) (fun _ hw=>XM.pick (.cons (.t3 .here) (.cons (.t3 .here) .h1)) hw)
     ·
      (simp;omega)
     ·
      refine⟨by simp;omega,?_⟩
      show _++_=mg (l2.take (x.1+1).toNat)
      rw[iB (by omega),ma,←hac,qh (by intro hp2 hh;first | omega | exact absurd hh.1 (by assumption) | exact absurd hh.2 (by assumption))]
   ·
    refine mQ .here (jZ.agg _) ?_
    refine XO.buildSlice (e:=171) (vs:= #[(0,.agg (rat l2 x.1).arr)]) (A:=(rat l2 x.1).arr) rfl (fun _=>by kernel_rfl) rfl rfl ?_
    intro nb
    refine gO ?_
    refine XO.jJ (e:=171) (acc:=x.2.1) (r:=(rat l2 x.1)) rfl rfl Tryz.underlying140 iU (.t4 .here) .here (by omega) rfl ?_
    intro p3 c3
    refine gO ?_
    refine sd (by omega) ?_
    refine ag ((x.1+1,x.2.1++[(rat l2 x.1)],p3,c3)) ?_ ?_ (S5 rfl rfl rfl rfl rfl) (fun _ hw=>XM.pick (.cons (.t3 .here) (.cons (.t3 .here) .h1)) hw)
    ·
     (simp;omega)
    ·
     refine⟨by simp;omega,?_⟩
     show _++_=mg (l2.take (x.1+1).toNat)
     rw[iB (by omega),ma,←hac,qh (by intro hp2 hh;first | omega | exact absurd hh.1 (by assumption) | exact absurd hh.2 (by assumption))]
  ·
   refine mQ .here (jZ.agg _) ?_
   refine XO.buildSlice (e:=171) (vs:= #[(0,.agg (rat l2 x.1).arr)]) (A:=(rat l2 x.1).arr) rfl (fun _=>by kernel_rfl) rfl rfl ?_
   intro nb
   refine gO ?_
   refine XO.jJ (e:=171) (acc:=x.2.1) (r:=(rat l2 x.1)) rfl rfl Tryz.underlying140 iU (.t4 .here) .here (by omega) rfl ?_
   intro p3 c3
   refine gO ?_
   refine sd (by omega) ?_
   refine ag ((x.1+1,x.2.1++[(rat l2 x.1)],p3,c3)) ?_ ?_ (S5 rfl rfl rfl rfl rfl) (fun _ hw=>XM.pick (.cons (.t3 .here) (.cons (.t3 .here) .h1)) hw)
   ·
    (simp;omega)
   ·
    refine⟨by simp;omega,?_⟩
    show _++_=mg (l2.take (x.1+1).toNat)
    rw[iB (by omega),ma,←hac,qh (by intro hp2 hh;first | omega | exact absurd hh.1 (by assumption) | exact absurd hh.2 (by assumption))]
 ·
  refine st .here (FD _ _ _ _ _ _ _ _ _) rfl ?_
  refine XE.fC rfl (ab (.cons .here (.cons (.there .here) .nil)) rfl ?_)
  have e:x.1=l.length:=by omega
  have e2:x.2.1=runs f:=by rw[hac,e,←hmg,List.take_of_length_le (by omega)]
  exact⟨rfl,x.2.2.1,x.2.2.2,by rw[←e2]⟩
set_option maxHeartbeats 8000000 in
theorem GZ(kb mb:Nat)(p:Option Addr)(c:Nat)(m:MS)(hm:m.Ok)(a n:Int)(hb:¬fw a n):Spec Tryz.prog 178 [ptr mb 0 0,.int .i64 a,.int .i64 n] [.cells mb 0 34 (bA kb p (runs m.aA).length c m.fr m.own),aR p c 171 3 (runs m.aA).length (dy (runs m.aA))] (fun v H1=>∃ p2 c2 p3 c3,v= .slice p3 ((runs m.aA).flatMap (mi a n)).length c3∧H1=[.cells mb 0 34 (bA kb p2 ((runs m.aA).flatMap (gw a n)).length c2 m.fr m.own),aR p2 c2 171 3 ((runs m.aA).flatMap (gw a n)).length (dy ((runs m.aA).flatMap (gw a n))),aZ p3 c3 3 ((runs m.aA).flatMap (mi a n))]):=by
 have hLo:=l8 hm.f
 have hL:=rG m.aA
 have hb2:=hb
 unfold fw at hb2
 refine Spec.go 96 [0,1,2,6,7,8,10,11,12,13,17,18,19,20,38,46,65,83] [(9,1),(11,1)] Tryz.func178 rfl rfl rfl ?_
 intro W
 refine XR.dG 171 3 ?_
 refine XR.dG 3 1 ?_
 refine ld (.t2 .here) (bA.IJ _ _ _ _ _ _) ?_
 refine lp (σ:=Int×(Option Addr×Nat)×(Option Addr×Nat)) (fun x=>((runs m.aA).length-x.1).toNat) (fun x=>(0≤x.1∧x.1≤(runs m.aA).length)∧(List.flatMap (gw a n) (List.take x.1.toNat (runs m.aA))).length≤2*x.1∧(List.flatMap (mi a n) (List.take x.1.toNat (runs m.aA))).length≤16*x.1) (fun x=>[(19,.int .i64 x.1),(7,.slice x.2.1.1 (List.flatMap (gw a n) (List.take x.1.toNat (runs m.aA))).length x.2.1.2),(8,.slice x.2.2.1 (List.flatMap (mi a n) (List.take x.1.toNat (runs m.aA))).length x.2.2.2),(0,ptr mb 0 0),(1,.int .i64 a),(2,.int .i64 n),(17,.slice p (runs m.aA).length c),(18,.int .i64 (runs m.aA).length)]) (fun x=>XM W (bR [.cells mb 0 34 (bA kb p (runs m.aA).length c m.fr m.own),aR p c 171 3 (runs m.aA).length (dy (runs m.aA))]) [.cells mb 0 34 (bA kb p (runs m.aA).length c m.fr m.own),aR p c 171 3 (runs m.aA).length (dy (runs m.aA)),aR x.2.1.1 x.2.1.2 171 3 (List.flatMap (gw a n) (List.take x.1.toNat (runs m.aA))).length (dy (List.flatMap (gw a n) (List.take x.1.toNat (runs m.aA)))),aZ x.2.2.1 x.2.2.2 3 (List.flatMap (mi a n) (List.take x.1.toNat (runs m.aA)))]) ((0,(none,0),(none,0))) ?_ (.cons rfl (.cons rfl (S6 rfl rfl rfl rfl rfl rfl))) (fun _ hw=>XM.pick (.cons (.t2 .here) (.cons (.t2 .here) (.cons (.there .here) .h1))) hw) ?_
 ·
  exact⟨by simp,by simp,by simp⟩
 intro x hx
 obtain⟨hi,hal,hhl⟩:=hx
 refine gC ?_
 refine cd rfl ?_ ?_<;>intro h1
 ·
  refine XR.cZ (.there .here) (by omega) ?_
  intro g1 h2
  subst h2
  refine sd (by omega) ?_
  refine ou (.there .here) (dy.agg (by omega)) ?_
  refine XO.cY (z:=.agg RG.nil.arr) (m:=3) (C:=jZ RG.nil) (by kernel_rfl) rfl (jZ.box _) rfl ?_
  intro rb
  refine gO ?_
  refine jV .here (jZ.st _ _) rfl ⟨rfl,rfl⟩ ?_
  refine rq [0,1,2,3,4,5,6,7,8,9,10,11,12,13,14] mixed (by kernel_rfl) ?_
  have hrb:=hLo.b _ (uE (z:=x.1) (by omega))
  refine ld .here (jZ.f _) ?_
  refine ld .here (jZ.f _) ?_
  refine ld .here (jZ.n _) ?_
  refine sd (by omega) ?_
  refine sd (by omega) ?_
  refine cd rfl ?_ ?_<;>intro h3
  ·
   have ho:=Hm (a:=a) (n:=n) (r:=(rat (runs m.aA) x.1)) (by omega)
   refine mQ .here (jZ.agg _) ?_
   refine XO.buildSlice (e:=171) (vs:= #[(0,.agg (rat (runs m.aA) x.1).arr)]) (A:=(rat (runs m.aA) x.1).arr) rfl (fun _=>by kernel_rfl) rfl rfl ?_
   intro nb
   refine gO ?_
   refine XO.jJ (e:=171) (acc:=(List.flatMap (gw a n) (List.take x.1.toNat (runs m.aA)))) (r:=(rat (runs m.aA) x.1)) rfl rfl Tryz.underlying140 iU (.t4 .here) .here (by omega) rfl ?_
   intro p3 c3
   refine gO ?_
   refine sd (by omega) ?_
   have hA:(List.flatMap (gw a n) (List.take (x.1+1).toNat (runs m.aA)))=(List.flatMap (gw a n) (List.take x.1.toNat (runs m.aA)))++[(rat (runs m.aA) x.1)]:=by rw[lQ _ ⟨hi.1,by omega⟩,ho.1]
   have hH:(List.flatMap (mi a n) (List.take (x.1+1).toNat (runs m.aA)))=(List.flatMap (mi a n) (List.take x.1.toNat (runs m.aA))):=by rw[lQ _ ⟨hi.1,by omega⟩,ho.2,List.append_nil]
   refine ag ((x.1+1,(p3,c3),x.2.2)) ?_ ?_ (.cons rfl (.cons (by show lk _ _=some (Value.slice _ (List.flatMap (gw a n) (List.take (x.1+1).toNat (runs m.aA))).length _);rw[hA];rfl) (S6 (by show lk _ _=some (Value.slice _ (List.flatMap (mi a n) (List.take (x.1+1).toNat (runs m.aA))).length _);rw[hH];rfl) rfl rfl rfl rfl rfl))) (fun _ hw=>by show XM _ _ [_,_,aR _ _ _ _ (List.flatMap (gw a n) (List.take (x.1+1).toNat (runs m.aA))).length (dy (List.flatMap (gw a n) (List.take (x.1+1).toNat (runs m.aA)))),aZ _ _ _ (List.flatMap (mi a n) (List.take (x.1+1).toNat (runs m.aA)))] _;rw[hA,hH];exact XM.pick (.cons (.t3 .here) (.cons (.t3 .here) (.cons .here (.cons (.t2 .here) .nil)))) hw)
   ·
    (simp;omega)
   ·
    refine⟨by simp;omega,?_,?_⟩
    ·show((List.flatMap (gw a n) (List.take (x.1+1).toNat (runs m.aA))).length:Int)≤2*(x.1+1);rw[hA,List.length_append,List.length_singleton];omega
    ·show((List.flatMap (mi a n) (List.take (x.1+1).toNat (runs m.aA))).length:Int)≤16*(x.1+1);rw[hH];omega
  ·
   have hin:=KK (a:=a) (n:=n) (r:=(rat (runs m.aA) x.1)) (by omega)
   refine Mg (σ:=Option Addr×Nat) (fun _=>True) (fun y=>[(0,ptr mb 0 0),(1,.int .i64 a),(2,.int .i64 n),(7,.slice y.1 ((List.flatMap (gw a n) (List.take x.1.toNat (runs m.aA)))++(if(rat (runs m.aA) x.1).fr<(max (rat (runs m.aA) x.1).fr a)then [(⟨(rat (runs m.aA) x.1).fr,(max (rat (runs m.aA) x.1).fr a)-(rat (runs m.aA) x.1).fr,(rat (runs m.aA) x.1).w⟩:RG)]else [])).length y.2),(8,.slice x.2.2.1 (List.flatMap (mi a n) (List.take x.1.toNat (runs m.aA))).length x.2.2.2),(10,ptr rb 0 0),(11,.int .i64 (max (rat (runs m.aA) x.1).fr a)),(12,.int .i64 (min ((rat (runs m.aA) x.1).fr+(rat (runs m.aA) x.1).n) (a+n))),(17,.slice (some ⟨g1,0,none⟩) (runs m.aA).length c),(18,.int .i64 (runs m.aA).length),(19,.int .i64 x.1)]) (fun y=>XM W (bR [.cells mb 0 34 (bA kb (some ⟨g1,0,none⟩) (runs m.aA).length c m.fr m.own),aR (some ⟨g1,0,none⟩) c 171 3 (runs m.aA).length (dy (runs m.aA))]) [.cells rb 0 3 (jZ (rat (runs m.aA) x.1)),.cells mb 0 34 (bA kb (some ⟨g1,0,none⟩) (runs m.aA).length c m.fr m.own),aR (some ⟨g1,0,none⟩) c 171 3 (runs m.aA).length (dy (runs m.aA)),aR y.1 y.2 171 3 ((List.flatMap (gw a n) (List.take x.1.toNat (runs m.aA)))++(if(rat (runs m.aA) x.1).fr<(max (rat (runs m.aA) x.1).fr a)then [(⟨(rat (runs m.aA) x.1).fr,(max (rat (runs m.aA) x.1).fr a)-(rat (runs m.aA) x.1).fr,(rat (runs m.aA) x.1).w⟩:RG)]else [])).length (dy ((List.flatMap (gw a n) (List.take x.1.toNat (runs m.aA)))++(if(rat (runs m.aA) x.1).fr<(max (rat (runs m.aA) x.1).fr a)then [(⟨(rat (runs m.aA) x.1).fr,(max (rat (runs m.aA) x.1).fr a)-(rat (runs m.aA) x.1).fr,(rat (runs m.aA) x.1).w⟩:RG)]else []))),aZ x.2.2.1 x.2.2.2 3 (List.flatMap (mi a n) (List.take x.1.toNat (runs m.aA)))]) ?_ ?_
   ·
    refine ld .here (jZ.f _) ?_
    refine cd rfl ?_ ?_<;>intro h4
    ·
     refine ld .here (jZ.f _) ?_
     refine ld .here (jZ.f _) ?_
     refine sd (by omega) ?_
     refine ld .here (jZ.w _) ?_
     refine XO.v (V.build (vs:= #[(0,.int .i64 (rat (runs m.aA) x.1).fr),(1,.int .i64 ((max (rat (runs m.aA) x.1).fr a)-(rat (runs m.aA) x.1).fr)),(2,.bool (rat (runs m.aA) x.1).w)]) rfl (v:=.agg (RG.mk (rat (runs m.aA) x.1).fr ((max (rat (runs m.aA) x.1).fr a)-(rat (runs m.aA) x.1).fr) (rat (runs m.aA) x.1).w).arr) (fun _=>by kernel_rfl)) rfl (gO ?_)
     refine XO.buildSlice (e:=171) (vs:= #[(0,.agg (RG.mk (rat (runs m.aA) x.1).fr ((max (rat (runs m.aA) x.1).fr a)-(rat (runs m.aA) x.1).fr) (rat (runs m.aA) x.1).w).arr)]) (A:=(RG.mk (rat (runs m.aA) x.1).fr ((max (rat (runs m.aA) x.1).fr a)-(rat (runs m.aA) x.1).fr) (rat (runs m.aA) x.1).w).arr) rfl (fun _=>by kernel_rfl) rfl rfl ?_
     intro nb
     refine gO ?_
     refine XO.jJ (e:=171) (acc:=(List.flatMap (gw a n) (List.take x.1.toNat (runs m.aA)))) (r:=(RG.mk (rat (runs m.aA) x.1).fr ((max (rat (runs m.aA) x.1).fr a)-(rat (runs m.aA) x.1).fr) (rat (runs m.aA) x.1).w)) rfl rfl Tryz.underlying140 iU (.t4 .here) .here (by omega) rfl ?_
     intro p3 c3
     refine gO ?_
     refine vE ((p3,c3)) ?_ (.cons rfl (.cons rfl (.cons rfl (.cons (by rw[if_pos (by assumption)];rfl) (.cons rfl (S6 rfl rfl rfl rfl rfl rfl)))))) (fun _ hw=>by rw[if_pos (by assumption)];exact XM.pick (.cons (.t2 .here) (.cons (.t2 .here) (.cons (.t2 .here) (.cons .here (.cons (.there .here) .nil))))) hw)
     exact trivial
    ·
     refine vE ((x.2.1.1,x.2.1.2)) ?_ (.cons rfl (.cons rfl (.cons rfl (.cons (by rw[if_neg (by assumption),List.append_nil];rfl) (.cons rfl (S6 rfl rfl rfl rfl rfl rfl)))))) (fun _ hw=>by rw[if_neg (by assumption),List.append_nil];exact XM.pick .h5 hw)
     exact trivial
   intro y _
   refine gC ?_
   refine Mg (σ:=Option Addr×Nat) (fun _=>True) (fun u=>[(0,ptr mb 0 0),(1,.int .i64 a),(2,.int .i64 n),(7,.slice u.1 ((List.flatMap (gw a n) (List.take x.1.toNat (runs m.aA)))++(if(rat (runs m.aA) x.1).fr<(max (rat (runs m.aA) x.1).fr a)then [(⟨(rat (runs m.aA) x.1).fr,(max (rat (runs m.aA) x.1).fr a)-(rat (runs m.aA) x.1).fr,(rat (runs m.aA) x.1).w⟩:RG)]else [])++(if(min ((rat (runs m.aA) x.1).fr+(rat (runs m.aA) x.1).n) (a+n))<(rat (runs m.aA) x.1).fr+(rat (runs m.aA) x.1).n then [(⟨(min ((rat (runs m.aA) x.1).fr+(rat (runs m.aA) x.1).n) (a+n)),(rat (runs m.aA) x.1).fr+(rat (runs m.aA) x.1).n-(min ((rat (runs m.aA) x.1).fr+(rat (runs m.aA) x.1).n) (a+n)),(rat (runs m.aA) x.1).w⟩:RG)]else [])).length u.2),(8,.slice x.2.2.1 (List.flatMap (mi a n) (List.take x.1.toNat (runs m.aA))).length x.2.2.2),(10,ptr rb 0 0),(11,.int .i64 (max (rat (runs m.aA) x.1).fr a)),(12,.int .i64 (min ((rat (runs m.aA) x.1).fr+(rat (runs m.aA) x.1).n) (a+n))),(17,.slice (some ⟨g1,0,none⟩) (runs m.aA).length c),(18,.int .i64 (runs m.aA).length),(19,.int .i64 x.1)]) (fun u=>XM W (bR [.cells mb 0 34 (bA kb (some ⟨g1,0,none⟩) (runs m.aA).length c m.fr m.own),aR (some ⟨g1,0,none⟩) c 171 3 (runs m.aA).length (dy (runs m.aA))]) [.cells rb 0 3 (jZ (rat (runs m.aA) x.1)),.cells mb 0 34 (bA kb (some ⟨g1,0,none⟩) (runs m.aA).length c m.fr m.own),aR (some ⟨g1,0,none⟩) c 171 3 (runs m.aA).length (dy (runs m.aA)),aR u.1 u.2 171 3 ((List.flatMap (gw a n) (List.take x.1.toNat (runs m.aA)))++(if(rat (runs m.aA) x.1).fr<(max (rat (runs m.aA) x.1).fr a)then [(⟨(rat (runs m.aA) x.1).fr,(max (rat (runs m.aA) x.1).fr a)-(rat (runs m.aA) x.1).fr,(rat (runs m.aA) x.1).w⟩:RG)]else [])++(if(min ((rat (runs m.aA) x.1).fr+(rat (runs m.aA) x.1).n) (a+n))<(rat (runs m.aA) x.1).fr+(rat (runs m.aA) x.1).n then [(⟨(min ((rat (runs m.aA) x.1).fr+(rat (runs m.aA) x.1).n) (a+n)),(rat (runs m.aA) x.1).fr+(rat (runs m.aA) x.1).n-(min ((rat (runs m.aA) x.1).fr+(rat (runs m.aA) x.1).n) (a+n)),(rat (runs m.aA) x.1).w⟩:RG)]else [])).length (dy ((List.flatMap (gw a n) (List.take x.1.toNat (runs m.aA)))++(if(rat (runs m.aA) x.1).fr<(max (rat (runs m.aA) x.1).fr a)then [(⟨(rat (runs m.aA) x.1).fr,(max (rat (runs m.aA) x.1).fr a)-(rat (runs m.aA) x.1).fr,(rat (runs m.aA) x.1).w⟩:RG)]else [])++(if(min ((rat (runs m.aA) x.1).fr+(rat (runs m.aA) x.1).n) (a+n))<(rat (runs m.aA) x.1).fr+(rat (runs m.aA) x.1).n then [(⟨(min ((rat (runs m.aA) x.1).fr+(rat (runs m.aA) x.1).n) (a+n)),(rat (runs m.aA) x.1).fr+(rat (runs m.aA) x.1).n-(min ((rat (runs m.aA) x.1).fr+(rat (runs m.aA) x.1).n) (a+n)),(rat (runs m.aA) x.1).w⟩:RG)]else []))),aZ x.2.2.1 x.2.2.2 3 (List.flatMap (mi a n) (List.take x.1.toNat (runs m.aA)))]) ?_ ?_
   ·
    refine ld .here (jZ.f _) ?_
    refine ld .here (jZ.n _) ?_
    refine sd (by omega) ?_
    refine cd rfl ?_ ?_<;>intro h5
    ·
     refine ld .here (jZ.f _) ?_
     refine ld .here (jZ.n _) ?_
     refine sd (by omega) ?_
     refine sd (by omega) ?_
     refine ld .here (jZ.w _) ?_
     refine XO.v (V.build (vs:= #[(0,.int .i64 (min ((rat (runs m.aA) x.1).fr+(rat (runs m.aA) x.1).n) (a+n))),(1,.int .i64 ((rat (runs m.aA) x.1).fr+(rat (runs m.aA) x.1).n-(min ((rat (runs m.aA) x.1).fr+(rat (runs m.aA) x.1).n) (a+n)))),(2,.bool (rat (runs m.aA) x.1).w)]) rfl (v:=.agg (RG.mk (min ((rat (runs m.aA) x.1).fr+(rat (runs m.aA) x.1).n) (a+n)) ((rat (runs m.aA) x.1).fr+(rat (runs m.aA) x.1).n-(min ((rat (runs m.aA) x.1).fr+(rat (runs m.aA) x.1).n) (a+n))) (rat (runs m.aA) x.1).w).arr) (fun _=>by kernel_rfl)) rfl (gO ?_)
     refine XO.buildSlice (e:=171) (vs:= #[(0,.agg (RG.mk (min ((rat (runs m.aA) x.1).fr+(rat (runs m.aA) x.1).n) (a+n)) ((rat (runs m.aA) x.1).fr+(rat (runs m.aA) x.1).n-(min ((rat (runs m.aA) x.1).fr+(rat (runs m.aA) x.1).n) (a+n))) (rat (runs m.aA) x.1).w).arr)]) (A:=(RG.mk (min ((rat (runs m.aA) x.1).fr+(rat (runs m.aA) x.1).n) (a+n)) ((rat (runs m.aA) x.1).fr+(rat (runs m.aA) x.1).n-(min ((rat (runs m.aA) x.1).fr+(rat (runs m.aA) x.1).n) (a+n))) (rat (runs m.aA) x.1).w).arr) rfl (fun _=>by kernel_rfl) rfl rfl ?_
     intro nb
     refine gO ?_
     refine XO.jJ (e:=171) (acc:=((List.flatMap (gw a n) (List.take x.1.toNat (runs m.aA)))++(if(rat (runs m.aA) x.1).fr<(max (rat (runs m.aA) x.1).fr a)then [(⟨(rat (runs m.aA) x.1).fr,(max (rat (runs m.aA) x.1).fr a)-(rat (runs m.aA) x.1).fr,(rat (runs m.aA) x.1).w⟩:RG)]else []))) (r:=(RG.mk (min ((rat (runs m.aA) x.1).fr+(rat (runs m.aA) x.1).n) (a+n)) ((rat (runs m.aA) x.1).fr+(rat (runs m.aA) x.1).n-(min ((rat (runs m.aA) x.1).fr+(rat (runs m.aA) x.1).n) (a+n))) (rat (runs m.aA) x.1).w)) rfl rfl Tryz.underlying140 iU (.t4 .here) .here (by rw[List.length_append];have hx1:=LH ((rat (runs m.aA) x.1).fr<(max (rat (runs m.aA) x.1).fr a)) (⟨(rat (runs m.aA) x.1).fr,(max (rat (runs m.aA) x.1).fr a)-(rat (runs m.aA) x.1).fr,(rat (runs m.aA) x.1).w⟩:RG);omega) rfl ?_
     intro p3 c3
     refine gO ?_
     refine vE ((p3,c3)) ?_ (.cons rfl (.cons rfl (.cons rfl (.cons (by rw[if_pos (c:=(min ((rat (runs m.aA) x.1).fr+(rat (runs m.aA) x.1).n) (a+n))<_) (by assumption)];rfl) (.cons rfl (S6 rfl rfl rfl rfl rfl rfl)))))) (fun _ hw=>by rw[if_pos (c:=(min ((rat (runs m.aA) x.1).fr+(rat (runs m.aA) x.1).n) (a+n))<_) (by assumption)];exact XM.pick (.cons (.t2 .here) (.cons (.t2 .here) (.cons (.t2 .here) (.cons .here (.cons (.there .here) .nil))))) hw)
     exact trivial
    ·
     refine vE ((y.1,y.2)) ?_ (.cons rfl (.cons rfl (.cons rfl (.cons (by rw[if_neg (c:=(min ((rat (runs m.aA) x.1).fr+(rat (runs m.aA) x.1).n) (a+n))<_) (by assumption),List.append_nil];rfl) (.cons rfl (S6 rfl rfl rfl rfl rfl rfl)))))) (fun _ hw=>by rw[if_neg (c:=(min ((rat (runs m.aA) x.1).fr+(rat (runs m.aA) x.1).n) (a+n))<_) (by assumption),List.append_nil];exact XM.pick .h5 hw)
     exact trivial
   intro u _
   refine gC ?_
   refine lp (σ:=Int×Option Addr×Nat) (fun z=>((min ((rat (runs m.aA) x.1).fr+(rat (runs m.aA) x.1).n) (a+n))-z.1).toNat) (fun z=>(max (rat (runs m.aA) x.1).fr a)≤z.1∧z.1≤(min ((rat (runs m.aA) x.1).fr+(rat (runs m.aA) x.1).n) (a+n))) (fun z=>[(13,.int .i64 z.1),(8,.slice z.2.1 ((List.flatMap (mi a n) (List.take x.1.toNat (runs m.aA)))++eB (max (rat (runs m.aA) x.1).fr a) (z.1-(max (rat (runs m.aA) x.1).fr a)).toNat).length z.2.2),(0,ptr mb 0 0),(1,.int .i64 a),(2,.int .i64 n),(7,.slice u.1 ((List.flatMap (gw a n) (List.take x.1.toNat (runs m.aA)))++(if(rat (runs m.aA) x.1).fr<(max (rat (runs m.aA) x.1).fr a)then [(⟨(rat (runs m.aA) x.1).fr,(max (rat (runs m.aA) x.1).fr a)-(rat (runs m.aA) x.1).fr,(rat (runs m.aA) x.1).w⟩:RG)]else [])++(if(min ((rat (runs m.aA) x.1).fr+(rat (runs m.aA) x.1).n) (a+n))<(rat (runs m.aA) x.1).fr+(rat (runs m.aA) x.1).n then [(⟨(min ((rat (runs m.aA) x.1).fr+(rat (runs m.aA) x.1).n) (a+n)),(rat (runs m.aA) x.1).fr+(rat (runs m.aA) x.1).n-(min ((rat (runs m.aA) x.1).fr+(rat (runs m.aA) x.1).n) (a+n)),(rat (runs m.aA) x.1).w⟩:RG)]else [])).length u.2),(12,.int .i64 (min ((rat (runs m.aA) x.1).fr+(rat (runs m.aA) x.1).n) (a+n))),(17,.slice (some ⟨g1,0,none⟩) (runs m.aA).length c),(18,.int .i64 (runs m.aA).length),(19,.int .i64 x.1)]) (fun z=>XM W (bR [.cells mb 0 34 (bA kb (some ⟨g1,0,none⟩) (runs m.aA).length c m.fr m.own),aR (some ⟨g1,0,none⟩) c 171 3 (runs m.aA).length (dy (runs m.aA))]) [.cells mb 0 34 (bA kb (some ⟨g1,0,none⟩) (runs m.aA).length c m.fr m.own),aR (some ⟨g1,0,none⟩) c 171 3 (runs m.aA).length (dy (runs m.aA)),aR u.1 u.2 171 3 ((List.flatMap (gw a n) (List.take x.1.toNat (runs m.aA)))++(if(rat (runs m.aA) x.1).fr<(max (rat (runs m.aA) x.1).fr a)then [(⟨(rat (runs m.aA) x.1).fr,(max (rat (runs m.aA) x.1).fr a)-(rat (runs m.aA) x.1).fr,(rat (runs m.aA) x.1).w⟩:RG)]else [])++(if(min ((rat (runs m.aA) x.1).fr+(rat (runs m.aA) x.1).n) (a+n))<(rat (runs m.aA) x.1).fr+(rat (runs m.aA) x.1).n then [(⟨(min ((rat (runs m.aA) x.1).fr+(rat (runs m.aA) x.1).n) (a+n)),(rat (runs m.aA) x.1).fr+(rat (runs m.aA) x.1).n-(min ((rat (runs m.aA) x.1).fr+(rat (runs m.aA) x.1).n) (a+n)),(rat (runs m.aA) x.1).w⟩:RG)]else [])).length (dy ((List.flatMap (gw a n) (List.take x.1.toNat (runs m.aA)))++(if(rat (runs m.aA) x.1).fr<(max (rat (runs m.aA) x.1).fr a)then [(⟨(rat (runs m.aA) x.1).fr,(max (rat (runs m.aA) x.1).fr a)-(rat (runs m.aA) x.1).fr,(rat (runs m.aA) x.1).w⟩:RG)]else [])++(if(min ((rat (runs m.aA) x.1).fr+(rat (runs m.aA) x.1).n) (a+n))<(rat (runs m.aA) x.1).fr+(rat (runs m.aA) x.1).n then [(⟨(min ((rat (runs m.aA) x.1).fr+(rat (runs m.aA) x.1).n) (a+n)),(rat (runs m.aA) x.1).fr+(rat (runs m.aA) x.1).n-(min ((rat (runs m.aA) x.1).fr+(rat (runs m.aA) x.1).n) (a+n)),(rat (runs m.aA) x.1).w⟩:RG)]else []))),aZ z.2.1 z.2.2 3 ((List.flatMap (mi a n) (List.take x.1.toNat (runs m.aA)))++eB (max (rat (runs m.aA) x.1).fr a) (z.1-(max (rat (runs m.aA) x.1).fr a)).toNat)]) (((max (rat (runs m.aA) x.1).fr a),x.2.2)) ?_ (.cons rfl (.cons (by show lk _ _=some (Value.slice _ ((List.flatMap (mi a n) (List.take x.1.toNat (runs m.aA)))++eB (max (rat (runs m.aA) x.1).fr a) ((max (rat (runs m.aA) x.1).fr a)-(max (rat (runs m.aA) x.1).fr a)).toNat).length _);rw[show((max (rat (runs m.aA) x.1).fr a)-(max (rat (runs m.aA) x.1).fr a)).toNat=0 from by omega,eB,List.append_nil];rfl) (.cons rfl (.cons rfl (S6 rfl rfl rfl rfl rfl rfl))))) (fun _ hw=>by show XM _ _ [_,_,_,aZ _ _ _ ((List.flatMap (mi a n) (List.take x.1.toNat (runs m.aA)))++eB (max (rat (runs m.aA) x.1).fr a) ((max (rat (runs m.aA) x.1).fr a)-(max (rat (runs m.aA) x.1).fr a)).toNat)] _;rw[show((max (rat (runs m.aA) x.1).fr a)-(max (rat (runs m.aA) x.1).fr a)).toNat=0 from by omega,eB,List.append_nil];exact XM.pick (.cons (.there .here) (.cons (.there .here) (.cons (.there .here) (.cons (.there .here) .nil)))) hw) ?_
   ·
    exact⟨Int.le_refl _,by show(max (rat (runs m.aA) x.1).fr a)≤(min ((rat (runs m.aA) x.1).fr+(rat (runs m.aA) x.1).n) (a+n));omega⟩
   intro z hz
   have hil:=oD (max (rat (runs m.aA) x.1).fr a) (z.1-(max (rat (runs m.aA) x.1).fr a)).toNat
   have hll:((List.flatMap (mi a n) (List.take x.1.toNat (runs m.aA)))++eB (max (rat (runs m.aA) x.1).fr a) (z.1-(max (rat (runs m.aA) x.1).fr a)).toNat).length=(List.flatMap (mi a n) (List.take x.1.toNat (runs m.aA))).length+(z.1-(max (rat (runs m.aA) x.1).fr a)).toNat:=by rw[List.length_append,hil]
   refine gC ?_
   refine cd rfl ?_ ?_<;>intro h6
   ·
    refine XO.buildSlice (e:=3) (vs:= #[(0,.int .i64 z.1)]) (A:= #[.int .i64 z.1]) rfl (fun _=>by kernel_rfl) rfl rfl ?_
    intro nb
    refine gO ?_
    refine XO.kt (e:=3) (z:=z.1) (zs:=((List.flatMap (mi a n) (List.take x.1.toNat (runs m.aA)))++eB (max (rat (runs m.aA) x.1).fr a) (z.1-(max (rat (runs m.aA) x.1).fr a)).toNat)) rfl rfl Tryz.underlying55 jH (.t4 .here) .here (by omega) rfl ?_
    intro p3 c3
    refine gO ?_
    refine sd (by omega) ?_
    have hZ:(List.flatMap (mi a n) (List.take x.1.toNat (runs m.aA)))++eB (max (rat (runs m.aA) x.1).fr a) (z.1+1-(max (rat (runs m.aA) x.1).fr a)).toNat=((List.flatMap (mi a n) (List.take x.1.toNat (runs m.aA)))++eB (max (rat (runs m.aA) x.1).fr a) (z.1-(max (rat (runs m.aA) x.1).fr a)).toNat)++[z.1]:=by rw[show z.1+1-(max (rat (runs m.aA) x.1).fr a)=(z.1-(max (rat (runs m.aA) x.1).fr a))+1 from by omega,yO _ (by omega),←List.append_assoc];congr 2;omega
    refine ag ((z.1+1,p3,c3)) ?_ ?_ (.cons rfl (.cons (by show lk _ _=some (Value.slice _ ((List.flatMap (mi a n) (List.take x.1.toNat (runs m.aA)))++eB (max (rat (runs m.aA) x.1).fr a) (z.1+1-(max (rat (runs m.aA) x.1).fr a)).toNat).length _);rw[hZ];rfl) (.cons rfl (.cons rfl (S6 rfl rfl rfl rfl rfl rfl))))) (fun _ hw=>by show XM _ _ [_,_,_,aZ _ _ _ ((List.flatMap (mi a n) (List.take x.1.toNat (runs m.aA)))++eB (max (rat (runs m.aA) x.1).fr a) (z.1+1-(max (rat (runs m.aA) x.1).fr a)).toNat)] _;rw[hZ];exact XM.pick (.cons (.t2 .here) (.cons (.t2 .here) (.cons (.t2 .here) .h1))) hw)
    ·
     (simp;omega)
    ·
     (show _≤z.1+1∧z.1+1≤_;omega)
   ·
    refine sd (by omega) ?_
    have hA:(List.flatMap (gw a n) (List.take (x.1+1).toNat (runs m.aA)))=(List.flatMap (gw a n) (List.take x.1.toNat (runs m.aA)))++(if(rat (runs m.aA) x.1).fr<(max (rat (runs m.aA) x.1).fr a)then [(⟨(rat (runs m.aA) x.1).fr,(max (rat (runs m.aA) x.1).fr a)-(rat (runs m.aA) x.1).fr,(rat (runs m.aA) x.1).w⟩:RG)]else [])++(if(min ((rat (runs m.aA) x.1).fr+(rat (runs m.aA) x.1).n) (a+n))<(rat (runs m.aA) x.1).fr+(rat (runs m.aA) x.1).n then [(⟨(min ((rat (runs m.aA) x.1).fr+(rat (runs m.aA) x.1).n) (a+n)),(rat (runs m.aA) x.1).fr+(rat (runs m.aA) x.1).n-(min ((rat (runs m.aA) x.1).fr+(rat (runs m.aA) x.1).n) (a+n)),(rat (runs m.aA) x.1).w⟩:RG)]else []):=by rw[lQ _ ⟨hi.1,by omega⟩,hin,List.append_assoc]
    have ez:z.1=(min ((rat (runs m.aA) x.1).fr+(rat (runs m.aA) x.1).n) (a+n)):=by omega
    have hH:(List.flatMap (mi a n) (List.take (x.1+1).toNat (runs m.aA)))=(List.flatMap (mi a n) (List.take x.1.toNat (runs m.aA)))++eB (max (rat (runs m.aA) x.1).fr a) (z.1-(max (rat (runs m.aA) x.1).fr a)).toNat:=by rw[lQ _ ⟨hi.1,by omega⟩,ez];rfl
    have hq1:=Af a n (rat (runs m.aA) x.1)
    rw[hin]at hq1
    simp only[List.length_append]at hq1
    refine ag ((x.1+1,u,z.2)) ?_ ?_ (.cons rfl (.cons (by show lk _ _=some (Value.slice _ (List.flatMap (gw a n) (List.take (x.1+1).toNat (runs m.aA))).length _);rw[hA];rfl) (S6 (by show lk _ _=some (Value.slice _ (List.flatMap (mi a n) (List.take (x.1+1).toNat (runs m.aA))).length _);rw[hH];rfl) rfl rfl rfl rfl rfl))) (fun _ hw=>by show XM _ _ [_,_,aR _ _ _ _ (List.flatMap (gw a n) (List.take (x.1+1).toNat (runs m.aA))).length (dy (List.flatMap (gw a n) (List.take (x.1+1).toNat (runs m.aA)))),aZ _ _ _ (List.flatMap (mi a n) (List.take (x.1+1).toNat (runs m.aA)))] _;rw[hA,hH];exact XM.pick .h4 hw)
    ·
     (simp;omega)
    ·
     refine⟨by simp;omega,?_,?_⟩
     ·show((List.flatMap (gw a n) (List.take (x.1+1).toNat (runs m.aA))).length:Int)≤2*(x.1+1);rw[hA];simp only[List.length_append];omega
     ·show((List.flatMap (mi a n) (List.take (x.1+1).toNat (runs m.aA))).length:Int)≤16*(x.1+1);rw[hH,List.length_append,oD];omega
 ·
  refine st .here (FD _ _ _ _ _ _ _ _ _) rfl ?_
  refine XE.aK rfl rfl (ab (.cons .here (.cons (.there .here) (.cons (.there .here) .nil))) rfl ?_)
  have e:List.take x.1.toNat (runs m.aA)=(runs m.aA):=List.take_of_length_le (by omega)
  exact⟨x.2.1.1,x.2.1.2,x.2.2.1,x.2.2.2,by rw[e];rfl,by rw[e]⟩
end Go.X.Vm

namespace Go.X.Vm
open Go Go.Proofs Go.X
set_option maxRecDepth 20000
set_option maxHeartbeats 4000000
end Go.X.Vm

namespace Go.X.Vm
open Go Go.Proofs Go.X
set_option maxRecDepth 20000
set_option maxHeartbeats 4000000
theorem Ka:cR Tryz.prog 124=true:=by kernel_rfl
theorem Et:cO Tryz.prog 145 0=some 0:=by kernel_rfl
theorem Gi:cO Tryz.prog 145 1=some 1:=by kernel_rfl
theorem LO:fY Tryz.prog 140=true:=by kernel_rfl
theorem Ms:fY Tryz.prog 94=true:=by kernel_rfl
set_option maxHeartbeats 8000000 in
theorem u7(kb pb mb:Nat)(v:VB)(hv:v.Ok)(p:Option Addr)(c:Nat)(m:MS)(hm:m.Ok):Spec Tryz.prog 57 [ptr mb 0 0] [.cells kb 0 577 (bz pb v.by_ v.rf),.cells mb 0 34 (bA kb p (runs m.aA).length c m.fr m.own),aR p c 171 3 (runs m.aA).length (dy (runs m.aA))] (fun x H1=>∃ nb p1 c1,x=ptr nb 0 0∧H1=[.cells kb 0 577 (bz pb (v.fork m).by_ (v.fork m).rf),.cells mb 0 34 (bA kb p (runs m.aA).length c m.fr (fun _=>false)),aR p c 171 3 (runs m.aA).length (dy (runs m.aA)),.cells nb 0 34 (bA kb p1 (runs m.aA).length c1 m.fr (fun _=>false)),aR p1 c1 171 3 (runs m.aA).length (dy (runs m.aA))]):=by
 refine Spec.go 65 [0,2,3,4,16,17,43] [] Tryz.func57 rfl rfl rfl ?_
 intro W
 refine XC.iu mixed (f:=12) (l:= #[false,false,false,false,false,false,false,false,false,false,false,false]) rfl rfl XM.lj ?_
 refine XQ.pv (i:=0) (l':= #[true,false,false,false,false,false,false,false,false,false,false,false]) rfl (by kernel_rfl) rfl (V.move rfl) rfl rfl ?_
 refine XQ.pv (i:=1) (l':= #[true,true,false,false,false,false,false,false,false,false,false,false]) rfl (by kernel_rfl) rfl (V.bI rfl) rfl rfl ?_
 refine XQ.pv (i:=2) (l':= #[true,true,true,false,false,false,false,false,false,false,false,false]) rfl (by kernel_rfl) rfl (V.fieldAddr rfl Et) rfl rfl ?_
 refine XQ.load (i:=3) (l':= #[true,true,true,true,false,false,false,false,false,false,false,false]) (.cells _ _ _ _) [10] rfl (by kernel_rfl) rfl (.there .here) (V.load rfl ea (bA.FR _ _ _ _ _ _) Ms) rfl (by kernel_rfl) rfl ?_
 refine XQ.pv (i:=4) (l':= #[true,true,true,true,true,false,false,false,false,false,false,false]) rfl (by kernel_rfl) rfl (V.move rfl) rfl rfl ?_
 refine XQ.pv (i:=5) (l':= #[true,true,true,true,true,true,false,false,false,false,false,false]) rfl (by kernel_rfl) rfl (V.bI rfl) rfl rfl ?_
 refine XQ.pv (i:=6) (l':= #[true,true,true,true,true,true,true,false,false,false,false,false]) rfl (by kernel_rfl) rfl (V.fieldAddr rfl Gi) rfl rfl ?_
 refine XQ.load (i:=7) (l':= #[true,true,true,true,true,true,true,true,false,false,false,false]) (.cells _ _ _ _) [8,10] rfl (by kernel_rfl) rfl (.there .here) (V.load rfl ea (bA.IJ _ _ _ _ _ _) LO) rfl (by kernel_rfl) rfl ?_
 refine XQ.call (i:=8) (l':= #[true,true,true,true,true,true,true,true,true,false,false,false]) rfl (by kernel_rfl) rfl rfl (Hh _ _ _ (by have:=rG m.aA;omega)) (.cons (.t2 .here) .nil) Ka rfl (by rintro _ _ ⟨p1,c1,rfl,rfl⟩;all_goals(intro _ hw';exact⟨fun hs=>(hs 8 (by first | (simp;done) | (simp;rfl)) rfl).elim,fun _=>dm (.t3 .here) _ hw',trivial⟩)) ?_
 rintro _ _ ⟨p1,c1,rfl,rfl⟩
 refine XQ.pv (i:=9) (l':= #[true,true,true,true,true,true,true,true,true,true,false,false]) rfl (by kernel_rfl) rfl (V.build (vs:= #[(0,ptr kb 0 0),(1,.slice p1 (runs m.aA).length c1)]) rfl (v:=.agg (NO kb p1 (runs m.aA).length c1).toArray) (fun _=>by kernel_rfl)) rfl rfl ?_
 refine XQ.box (i:=10) (l':= #[true,true,true,true,true,true,true,true,true,true,true,false]) (m:=34) (C:=bA kb p1 (runs m.aA).length c1 (fun _=>1) (fun _=>false)) rfl (by kernel_rfl) rfl rfl rfl (Hc _ _ _ _) rfl (fun _ _ hw'=>⟨fun hs=>(hs 8 (by first | (simp;done) | (simp;rfl)) rfl).elim,fun hs=>(hs 10 (by first | (simp;done) | (simp;rfl)) rfl).elim,trivial⟩) ?_
 intro nb
 refine XQ.pv (i:=11) (l':= #[true,true,true,true,true,true,true,true,true,true,true,true]) rfl (by kernel_rfl) rfl (V.assign rfl) rfl rfl ?_
 refine XQ.done (by kernel_rfl) ?_
 refine gE ?_
 refine lp (σ:=Int) (fun i=>(16-i).toNat) (fun i=>0≤i∧i≤16) (fun i=>[(16,.int .i64 i),(0,ptr mb 0 0),(3,ptr nb 0 0)]) (fun i=>XM W (bR [.cells kb 0 577 (bz pb v.by_ v.rf),.cells mb 0 34 (bA kb p (runs m.aA).length c m.fr m.own),aR p c 171 3 (runs m.aA).length (dy (runs m.aA))]) [.cells kb 0 577 (bz pb v.by_ (ng v.rf m.fr i.toNat)),.cells mb 0 34 (bA kb p (runs m.aA).length c m.fr (mB (fun _=>false) m.own i)),aR p c 171 3 (runs m.aA).length (dy (runs m.aA)),.cells nb 0 34 (bA kb p1 (runs m.aA).length c1 (mB m.fr (fun _=>1) i) (fun _=>false)),aR p1 c1 171 3 (runs m.aA).length (dy (runs m.aA))]) (0) ?_ (S3 rfl rfl rfl) (fun _ hw=>by show XM _ _ [_,.cells mb 0 34 (bA _ _ _ _ _ (mB (fun _=>false) m.own 0)),_,.cells nb 0 34 (bA _ _ _ _ (mB m.fr (fun _=>1) 0) _),_] _;rw[ug,ug];exact XM.pick (.cons (.t3 .here) (.cons (.t3 .here) (.cons (.there .here) .h2))) hw) ?_
 ·
  omega
 intro i hi
 have hlo:=hm.lo i
 have hup:=EB v.rf m.fr i.toNat (m.fr i-1)
 have hrf:=hv.rf (m.fr i-1)
 refine gC ?_
 refine cd rfl ?_ ?_<;>intro h1
 ·
  refine sd (by omega) ?_
  refine st (.there .here) (bA.nS _ _ _ _ _ _ _ (by omega) _) rfl ?_
  refine rq [0,1,2,3,4,5,6,7,8,9,10,11] mixed (by kernel_rfl) ?_
  refine sd (by omega) ?_
  refine mQ (.there .here) (Co _ _ _ _ _ _ _ (by omega)) ?_
  refine sd (by omega) ?_
  refine jV (.t3 .here) (qJ _ _ _ _ _ _ _ _ _ (by omega)) rfl ⟨rfl,rfl⟩ ?_
  refine sd (by omega) ?_
  refine ld (.there .here) (bA.fl _ _ _ _ _ _ _ (by omega)) ?_
  refine cd rfl ?_ ?_<;>intro h2
  ·
   refine rq [0,1,2,3,4,5,6,7,8,9,10,11,12,13,14,15,16,17,18,19] mixed (by kernel_rfl) ?_
   refine ld (.there .here) (bA.FR _ _ _ _ _ _) ?_
   refine sd (by omega) ?_
   refine ld (.there .here) (bA.fl _ _ _ _ _ _ _ (by omega)) ?_
   refine sd (by omega) ?_
   refine ld .here (bz.lF _ _ _ _ (by omega)) ?_
   refine sd (by omega) ?_
   refine sd (by omega) ?_
   refine st .here (bz.tA _ _ _ _ (by omega) _) rfl ?_
   refine sd (by omega) ?_
   have hU:ng v.rf m.fr (i+1).toNat=aa (ng v.rf m.fr i.toNat) (m.fr i-1) (ng v.rf m.fr i.toNat (m.fr i-1)+1):=by rw[xw hi.1,if_pos (by omega)]
   refine ag (i+1) ?_ ?_ (S3 rfl rfl rfl) (fun _ hw=>by rw[ae (mB (fun _=>false) m.own i) i false,s9 (fun _=>false) i rfl]at hw;show XM _ _ [.cells kb 0 577 (bz pb v.by_ (ng v.rf m.fr (i+1).toNat)),_,_,_,_] _;rw[hU,←lX hi.1 (f:=(fun _=>false)) (g:=m.own) (v:=false) rfl,←lX hi.1 (f:=m.fr) (g:=fun _=>1) (v:=m.fr i-1+1) (by omega)];exact XM.pick .h5 hw)
   ·
    (first | omega | (simp;done) | (simp;omega))
   ·
    (first | omega | (simp;done) | (simp;omega))
  ·
   refine sd (by omega) ?_
   have hU:ng v.rf m.fr (i+1).toNat=ng v.rf m.fr i.toNat:=by rw[xw hi.1,if_neg (by omega)]
   refine ag (i+1) ?_ ?_ (S3 rfl rfl rfl) (fun _ hw=>by rw[ae (mB (fun _=>false) m.own i) i false,s9 (fun _=>false) i rfl]at hw;show XM _ _ [.cells kb 0 577 (bz pb v.by_ (ng v.rf m.fr (i+1).toNat)),_,_,_,_] _;rw[hU,←lX hi.1 (f:=(fun _=>false)) (g:=m.own) (v:=false) rfl,←lX hi.1 (f:=m.fr) (g:=fun _=>1) (v:=m.fr i-1+1) (by omega)];exact XM.pick .h5 hw)
   ·
    (first | omega | (simp;done) | (simp;omega))
   ·
    (first | omega | (simp;done) | (simp;omega))
 ·
  refine XE.aK rfl rfl (ab .h5 rfl ?_)
  have e:i=16:=by omega
  subst e
  exact⟨nb,p1,c1,rfl,by rw[kA (f:=mB m.fr (fun _=>1) 16) (f':=m.fr) (o:=(fun _=>false)) (o':=(fun _=>false)) (fun i h0 h1=>⟨by unfold mB;rw[if_pos (by omega)],rfl⟩),kA (f:=m.fr) (f':=m.fr) (o:=mB (fun _=>false) m.own 16) (o':=(fun _=>false)) (fun i h0 h1=>⟨rfl,by unfold mB;rw[if_pos (by omega)]⟩)];rfl⟩
end Go.X.Vm

namespace Go.X.Vm
open Go Go.Proofs Go.X
set_option maxRecDepth 20000
set_option maxHeartbeats 4000000
theorem GY(kb pb:Nat)(v:VB)(hv:v.Ok)(f:Int)(hf:0≤f∧f<64)(h1:1≤v.rf f):Spec Tryz.prog 179 [ptr kb 0 0,.int .i64 f] [.cells kb 0 577 (bz pb v.by_ v.rf),.cells pb 0 71 (au v.bb.bJ)] (fun x H1=>x= .tuple #[]∧H1=[.cells kb 0 577 (bz pb (v.drop f).by_ (v.drop f).rf),.cells pb 0 71 (au (v.drop f).bb.bJ)]):=by
 have hb:=hv.rf f
 refine Spec.go 27 [0,1,20] [] Tryz.func179 rfl rfl rfl ?_
 intro W
 refine rq [0,1,2,3,4,5,6,7,8,9,10] mixed (by kernel_rfl) ?_
 refine sd (by omega) ?_
 refine ld .here (bz.lF _ _ _ _ (by omega)) ?_
 refine sd (by omega) ?_
 refine sd (by omega) ?_
 refine st .here (bz.tA _ _ _ _ (by omega) _) rfl ?_
 refine sd (by omega) ?_
 refine ld .here (bz.lF _ _ _ _ (by omega)) ?_
 have e1:aa v.rf f (v.rf f-1) f=v.rf f-1:=ae _ _ _
 refine cd rfl ?_ ?_<;>intro h1
 ·
  refine ld .here (bz.CU _ _ _) ?_
  refine ca (LQ _ _ _ hv.bb _) (.cons (.there .here) .nil) ?_
  rintro _ _ ⟨rfl,rfl⟩
  refine gO ?_
  refine XE.fC rfl (ab (.cons (.there .here) .h1) rfl ?_)
  rw[VB.Fk (by omega)];exact⟨rfl,rfl⟩
 ·
  refine XE.fC rfl (ab .h2 rfl ?_)
  rw[VB.Dv (by omega)];exact⟨rfl,rfl⟩
set_option maxHeartbeats 8000000 in
theorem Gx(kb pb mb:Nat)(v:VB)(hv:v.Ok)(p:Option Addr)(c:Nat)(m:MS)(hm:m.Ok)(hin:m.In v)(a n:Int):Spec Tryz.prog 107 [ptr mb 0 0,.int .i64 a,.int .i64 n] [.cells kb 0 577 (bz pb v.by_ v.rf),.cells pb 0 71 (au v.bb.bJ),.cells mb 0 34 (bA kb p (runs m.aA).length c m.fr m.own),aR p c 171 3 (runs m.aA).length (dy (runs m.aA))] (fun x H1=>x= .tuple #[.int .i64 (m.ey v a n).1,bH 102 (m.ey v a n).2.1]∧∃ p2 c2,H1=[.cells kb 0 577 (bz pb (m.ey v a n).2.2.1.by_ (m.ey v a n).2.2.1.rf),.cells pb 0 71 (au (m.ey v a n).2.2.1.bb.bJ),.cells mb 0 34 (bA kb p2 (runs (m.ey v a n).2.2.2.aA).length c2 (m.ey v a n).2.2.2.fr (m.ey v a n).2.2.2.own),aR p2 c2 171 3 (runs (m.ey v a n).2.2.2.aA).length (dy (runs (m.ey v a n).2.2.2.aA))]):=by
 refine Spec.go 59 [0,1,2,6,7,8,9,11,16,21,22,23,24,34] [] Tryz.func107 rfl rfl rfl ?_
 intro W
 refine ca (Kt _ _) .nil ?_
 rintro _ _ ⟨rfl,rfl⟩
 refine gO ?_
 refine cd rfl ?_ ?_<;>intro h1
 ·
  have hb:fw a n:=by
   by_cases q:fw a n
   ·exact q
   ·exact absurd (if_neg q) h1
  refine XE.aU rfl rfl rfl (ab .h4 rfl ?_)
  exact⟨by rw[if_pos hb,MS.oA hb];rfl,p,c,by rw[MS.oA hb]⟩
 ·
  have hb:¬fw a n:=fun q=>h1 (fun q2=>by rw[if_pos q]at q2;omega)
  have hb2:=hb
  unfold fw at hb2
  have hn:0<n:=by omega
  have hL:=rG m.aA
  refine ca (GZ _ _ _ _ _ hm _ _ hb) (.cons (.t2 .here) (.cons (.t2 .here) .nil)) ?_
  rintro _ _ ⟨p4,c4,p5,c5,rfl,rfl⟩
  have hcl:=yo (runs m.aA) a n
  rw[Bz hm.f hb]
  generalize hq:eR (fun i=>m.aA i != 0) a n.toNat=l
  have hls:∀ i∈l,a≤i∧i<a+n:=fun i hi=>by rw[←hq,iH]at hi;omega
  have hst:l.Pairwise (fun x y=>x<y):=hq▸kE _
  have hle:l.length≤16:=by rw[←hq];have:=tu (p:=fun i=>m.aA i != 0) (a:=a) n.toNat;omega
  refine gO ?_
  refine lp (σ:=Int) (fun i=>(l.length-i).toNat) (fun i=>0≤i∧i≤l.length) (fun i=>[(23,.int .i64 i),(9,.int .i64 (kZ v m.fr (l.take i.toNat)).1),(0,ptr mb 0 0),(21,.slice p5 l.length c5),(22,.int .i64 l.length)]) (fun i=>XM W (bR [.cells kb 0 577 (bz pb v.by_ v.rf),.cells pb 0 71 (au v.bb.bJ),.cells mb 0 34 (bA kb p (runs m.aA).length c m.fr m.own),aR p c 171 3 (runs m.aA).length (dy (runs m.aA))]) [.cells kb 0 577 (bz pb (kZ v m.fr (l.take i.toNat)).2.by_ (kZ v m.fr (l.take i.toNat)).2.rf),.cells pb 0 71 (au (kZ v m.fr (l.take i.toNat)).2.bb.bJ),.cells mb 0 34 (bA kb p4 ((runs m.aA).flatMap (gw a n)).length c4 (ir m.fr (l.take i.toNat)) (dc m.own (l.take i.toNat))),aR p4 c4 171 3 ((runs m.aA).flatMap (gw a n)).length (dy ((runs m.aA).flatMap (gw a n))),aZ p5 c5 3 l]) (0) ?_ (S5 rfl rfl rfl rfl rfl) (fun _ hw=>by show XM _ _ [_,_,.cells mb 0 34 (bA kb p4 _ c4 (ir m.fr []) (dc m.own [])),_,_] _;rw[FN,E9];exact XM.pick (.cons (.t3 .here) (.cons (.t3 .here) .h3)) hw) ?_
  ·
   omega
  intro i hi
  refine gC ?_
  refine cd rfl ?_ ?_<;>intro h2
  ·
   refine XR.cZ (.t4 .here) (by omega) ?_
   intro g1 h3
   subst h3
   refine sd (by omega) ?_
   refine D6 (.t4 .here) (ints_at (by omega)) ?_
   have hmm:=jo (l:=l) (i:=i) (by omega)
   have ha:=hls _ hmm
   have hnew:=Ic hst (i:=i) (by omega)
   have e0:ir m.fr (l.take i.toNat) (ep l i)=m.fr (ep l i):=by unfold ir;rw[if_neg hnew]
   have hit:=Je (l:=l) (i:=i) (by omega)
   have hu:=F3 hv hm hin _ (l.take i.toNat) rfl (zp hst _)
   have hTl:(l.take i.toNat).length≤16:=by rw[List.length_take];omega
   have hlo:=hm.lo (ep l i)
   refine sd (by omega) ?_
   refine ld (.t2 .here) (bA.fl _ _ _ _ _ _ _ (by omega)) ?_
   refine cd rfl ?_ ?_<;>intro h4
   ·
    have hpos:0<m.fr (ep l i):=by omega
    have hrf:1≤(kZ v m.fr (l.take i.toNat)).2.rf (ir m.fr (l.take i.toNat) (ep l i)-1):=by
     rw[e0,hu.2.2 (m.fr (ep l i)-1) (fun j hj q=>hnew ((hm.inj _ j hpos (by omega))▸hj))];exact hin _ hpos
    refine rq [0,1,2,3,4,5,6,7,8,9,10,11] mixed (by kernel_rfl) ?_
    refine ld (.t2 .here) (bA.FR _ _ _ _ _ _) ?_
    refine sd (by omega) ?_
    refine ld (.t2 .here) (bA.fl _ _ _ _ _ _ _ (by omega)) ?_
    refine ca (GY _ _ _ hu.1 (ir m.fr (l.take i.toNat) (ep l i)-1) (by omega) hrf) .h2 ?_
    rintro _ _ ⟨rfl,rfl⟩
    refine gO ?_
    refine XO.v (V.build (vs:= #[(0,.int .i64 (-1))]) rfl (v:=.agg #[.int .i64 (-1),.bool false]) (fun _=>by kernel_rfl)) rfl (gO ?_)
    refine sd (by omega) ?_
    refine jV (.t2 .here) (qJ _ _ _ _ _ _ _ _ _ (by omega)) rfl ⟨rfl,rfl⟩ ?_
    refine sd (by omega) ?_
    refine sd (by omega) ?_
    have hS:(kZ v m.fr (l.take (i+1).toNat))=((kZ v m.fr (l.take i.toNat)).1+1,(kZ v m.fr (l.take i.toNat)).2.drop (ir m.fr (l.take i.toNat) (ep l i)-1)):=by rw[hit,qH];unfold Jf;rw[if_pos hpos,e0]
    have hC:ir m.fr (l.take (i+1).toNat)=aa (ir m.fr (l.take i.toNat)) (ep l i) (-1+1):=by rw[hit,Bm]
    have hF:dc m.own (l.take (i+1).toNat)=aa (dc m.own (l.take i.toNat)) (ep l i) false:=by rw[hit,Bn]
    refine ag (i+1) ?_ ?_ (S5 rfl (by show lk _ _=some (.int .i64 (kZ v m.fr (l.take (i+1).toNat)).1);rw[hS];rfl) rfl rfl rfl) (fun _ hw=>by show XM _ _ [.cells kb 0 577 (bz pb (kZ v m.fr (l.take (i+1).toNat)).2.by_ (kZ v m.fr (l.take (i+1).toNat)).2.rf),.cells pb 0 71 (au (kZ v m.fr (l.take (i+1).toNat)).2.bb.bJ),.cells mb 0 34 (bA kb p4 ((runs m.aA).flatMap (gw a n)).length c4 (ir m.fr (l.take (i+1).toNat)) (dc m.own (l.take (i+1).toNat))),aR p4 c4 171 3 ((runs m.aA).flatMap (gw a n)).length (dy ((runs m.aA).flatMap (gw a n))),_] _;rw[hS,hC,hF];exact XM.pick .h5 hw)
    ·
     (first | omega | (simp;done) | (simp;omega))
    ·
     (first | omega | (simp;done) | (simp;omega))
   ·
    refine sd (by omega) ?_
    have h0:m.fr (ep l i)=0:=by omega
    have hS:(kZ v m.fr (l.take (i+1).toNat))=(kZ v m.fr (l.take i.toNat)):=by rw[hit,qH];unfold Jf;rw[if_neg (by omega)]
    have hC:ir m.fr (l.take (i+1).toNat)=ir m.fr (l.take i.toNat):=by rw[hit,BY h0]
    have hF:dc m.own (l.take (i+1).toNat)=dc m.own (l.take i.toNat):=by rw[hit,CF (hm.ow _ h0)]
    refine ag (i+1) ?_ ?_ (S5 rfl (by show lk _ _=some (.int .i64 (kZ v m.fr (l.take (i+1).toNat)).1);rw[hS];rfl) rfl rfl rfl) (fun _ hw=>by show XM _ _ [.cells kb 0 577 (bz pb (kZ v m.fr (l.take (i+1).toNat)).2.by_ (kZ v m.fr (l.take (i+1).toNat)).2.rf),.cells pb 0 71 (au (kZ v m.fr (l.take (i+1).toNat)).2.bb.bJ),.cells mb 0 34 (bA kb p4 ((runs m.aA).flatMap (gw a n)).length c4 (ir m.fr (l.take (i+1).toNat)) (dc m.own (l.take (i+1).toNat))),aR p4 c4 171 3 ((runs m.aA).flatMap (gw a n)).length (dy ((runs m.aA).flatMap (gw a n))),_] _;rw[hS,hC,hF];exact XM.pick .h5 hw)
    ·
     (first | omega | (simp;done) | (simp;omega))
    ·
     (first | omega | (simp;done) | (simp;omega))
  ·
   have e:(l.take i.toNat)=l:=List.take_of_length_le (by omega)
   rw[e]
   have eu:=MS.Ey v hm hb
   rw[hq]at eu
   refine ca (LI _ _ _ _ _ _ _ _ (hm.f.dq hb (.inl rfl)) (BP (l8 hm.f) hn) (zB (l8 hm.f) (qt hm.f) hn) (by first | omega | (simp only[List.length_append,List.length_singleton];omega))) (.cons (.t2 .here) (.cons (.t2 .here) .nil)) ?_
   rintro _ _ ⟨rfl,p2,c2,rfl⟩
   refine gO ?_
   refine XE.aU rfl rfl rfl (ab (.cons (.t2 .here) (.cons (.t2 .here) .h2)) rfl ?_)
   exact⟨by rw[eu];rfl,p2,c2,by rw[eu]⟩
end Go.X.Vm

namespace Go.X.Kn
open Go Go.Proofs Go.X
set_option maxRecDepth 20000
set_option maxHeartbeats 4000000
theorem jd:fY Tryz.prog 3=true:=by kernel_rfl
theorem jG:de Tryz.prog 3=some 1:=by kernel_rfl
theorem lL(kb:Nat)(k:KP)(n:Int)(hn:0≤n∧n<20):Spec Tryz.prog 58 [ptr kb 0 (eW n)] [.cells kb 0 453 (ah k)] (fun v H1=>∃ c,v=ptr c 0 0∧H1=[.cells c 0 11 (Sg.cW (k.u n).bx.child),.cells kb 0 453 (ah k)]):=by
 refine Spec.go 8 [0,2,3] [] Tryz.func58 rfl rfl rfl ?_
 intro W
 refine mQ .here (ah.Mo _ (by omega)) ?_
 refine XO.cY (z:=.agg #[.int .u16 0,.int .u16 0,.int .i64 0,.int .i64 0,.int .i64 0,.int .i64 0,.int .i64 0,.int .i64 0,.int .i64 0,.int .i64 0,.int .i64 0]) (m:=11) (C:=Sg.cW Sg.BS.init) (by kernel_rfl) rfl Sg.C9 rfl ?_
 intro c
 refine gO ?_
 refine jV .here (Sg.EI Sg.xG _) rfl ⟨rfl,rfl⟩ ?_
 refine st .here (Sg.ti _ (w':=fun _=>false) rfl) rfl ?_
 refine XE.aK rfl rfl (ab .h2 rfl ?_)
 try dsimp only[SW.den,SV.den,aj,aL]
 exact⟨c,rfl,rfl⟩
end Go.X.Kn

namespace Go.X.Kn
open Go Go.Proofs Go.X
set_option maxRecDepth 20000
set_option maxHeartbeats 4000000
end Go.X.Kn

namespace Go.X.Kn
open Go Go.Proofs Go.X
set_option maxRecDepth 20000
set_option maxHeartbeats 4000000
theorem Aa:jF Tryz.prog 39=true:=by kernel_rfl
theorem qg:de Tryz.prog 39=some 2:=by kernel_rfl
end Go.X.Kn

namespace Go.X.Kn
open Go Go.Proofs Go.X
set_option maxRecDepth 20000
set_option maxHeartbeats 4000000
theorem Ju:jF Tryz.prog 83=true:=by kernel_rfl
theorem tm:jF Tryz.prog 87=true:=by kernel_rfl
theorem Aw:cR Tryz.prog 57=true:=by kernel_rfl
theorem uq:cR Tryz.prog 58=true:=by kernel_rfl
theorem zH:cO Tryz.prog 89 2=some 2:=by kernel_rfl
theorem zT:cO Tryz.prog 89 4=some 4:=by kernel_rfl
theorem AP:cO Tryz.prog 89 5=some 5:=by kernel_rfl
theorem AD:cO Tryz.prog 89 6=some 11:=by kernel_rfl
theorem JH:fY Tryz.prog 82=true:=by kernel_rfl
theorem Ab:de Tryz.prog 83=some 6:=by kernel_rfl
theorem jK:de Tryz.prog 87=some 11:=by kernel_rfl
theorem jI:de Tryz.prog 89=some 22:=by kernel_rfl
theorem iG(n g:Int)(nb:Nat)(f:Int→Int)(b:Sg.BS):∀ w,(Instr.build 89 #[(0,.int .i64 1),(1,.int .i64 n),(2,.int .i64 g),(4,ptr nb 0 0),(5,.agg (Dg f)),(6,.agg (IA b))]).run Tryz.prog w= .ok (.agg (PU.arr ⟨1,n,g,0,ptr nb 0 0,f,b⟩)) w:=fun w=>by kernel_rfl
end Go.X.Kn
