import Derived.Test.YthdinakloheinaaGreatDoorkVW4
import Derived.Test.YthdinakloheinaaGreatDoorkGW4
import Derived.Test.YthdinakloheinaaGreatDoorkFW5
import Derived.Test.YthdinakloheinaaGreatDoorkNFP
import Derived.Shelf.Lays2
import Derived.Ground.Names2Prog
set_option linter.all false
namespace Go.X.Vm
open Go Go.Proofs Go.X
set_option maxRecDepth 20000
set_option maxHeartbeats 4000000
def acd:c9 Tryz.prog 124=true:=kq
def UM:eK Tryz.prog 145 0=some 0:=kq
def UN:eK Tryz.prog 145 1=some 1:=kq
def ace:jD Tryz.prog 140=true:=kq
def afb:jD Tryz.prog 94=true:=kq
def ZZ(kb mb:Nat)(p:Option Addr)(c:Nat)(m:MS)(hm:m.Ok)(a:Int)(w:Bool):Spec Tryz.prog 199 [aA mb 0 0,iI a,.bool w] [.cells mb 0 34 (b6 kb p (ah m.ay).length c m.fr m.aS),aM p c 171 3 (ah m.ay).length (fa (ah m.ay))] (fun x H1=>x= .bool (m.xy a w)/\H1=[.cells mb 0 34 (b6 kb p (ah m.ay).length c m.fr m.aS),aM p c 171 3 (ah m.ay).length (fa (ah m.ay))]):=by
 refine Spec.go 34 [0,1,2,6,7,13] [] Tryz.func199 fun W=> ?_;refine sp 10 rfl ?_ ?_<;>intro h1
 ·refine bS (pz 2) ?_;first | exact⟨by rw[jg];rfl,rfl⟩ | (refine⟨?_,rfl⟩;rw[oz hm hk];first | (rw[decide_eq_false (p:=0<=k) og];rfl) | (rw[decide_eq_true (p:=0<=k) og];cases w<;>first | rfl | contradiction))
 ·refine cd rfl ?_ ?_<;>intro h2
  ·refine bS (pz 2) ?_;first | exact⟨by rw[jg];rfl,rfl⟩ | (refine⟨?_,rfl⟩;rw[oz hm hk];first | (rw[decide_eq_false (p:=0<=k) og];rfl) | (rw[decide_eq_true (p:=0<=k) og];cases w<;>first | rfl | contradiction))
  ·refine XO.v (V.quo rfl rfl (by first | decide | omega) _ (sV)) rfl (gO ?_);refine ca (Yn _ _ _ _ _ hm _) (pz 2) ?_;rintro _ _ ⟨⟨k,rfl,hk⟩,rfl⟩;have hrn:k<(ah m.ay).length:=by rcases hk with⟨rfl,_⟩ | ⟨q,_⟩<;>omega
   refine gO ?_;refine sp 20 rfl ?_ ?_<;>intro h3
   ·refine M9 23 rfl ?_ ?_<;>intro h4
    ·try simp only[sb]at h4
     try(refine bL (.ao .aa) og ?_;intro g1 hg1;subst hg1)
     refine bS (pz 2) ?_;first | exact⟨by rw[jg];rfl,rfl⟩ | (refine⟨?_,rfl⟩;rw[oz hm hk];first | (rw[decide_eq_false (p:=0<=k) og];rfl) | (rw[decide_eq_true (p:=0<=k) og];cases w<;>first | rfl | contradiction))
    ·try simp only[sb]at h4
     refine ld .aa (lu _ _ _ _ _ _) ?_;try(refine bL (.ao .aa) og ?_;intro g1 hg1;subst hg1)
     refine sd ?_;refine WL (.ao .aa) (fa.w og) ?_;refine bS (pz 2) ?_;first | exact⟨by rw[jg];rfl,rfl⟩ | (refine⟨?_,rfl⟩;rw[oz hm hk];first | (rw[decide_eq_false (p:=0<=k) og];rfl) | (rw[decide_eq_true (p:=0<=k) og];cases w<;>first | rfl | contradiction))
   ·try(refine bL (.ao .aa) og ?_;intro g1 hg1;subst hg1)
    refine bS (pz 2) ?_;first | exact⟨by rw[jg];rfl,rfl⟩ | (refine⟨?_,rfl⟩;rw[oz hm hk];first | (rw[decide_eq_false (p:=0<=k) og];rfl) | (rw[decide_eq_true (p:=0<=k) og];cases w<;>first | rfl | contradiction))
def Yp(kb mb:Nat)(p:Option Addr)(c:Nat)(m:MS)(hm:m.Ok)(a:Int):Spec Tryz.prog 200 [aA mb 0 0,iI a] [.cells mb 0 34 (b6 kb p (ah m.ay).length c m.fr m.aS),aM p c 171 3 (ah m.ay).length (fa (ah m.ay))] (fun x H1=>x= .bool (m.sD a)/\H1=[.cells mb 0 34 (b6 kb p (ah m.ay).length c m.fr m.aS),aM p c 171 3 (ah m.ay).length (fa (ah m.ay))]):=by
 refine Spec.go 29 [0,1,4] [] Tryz.func200 fun W=> ?_;refine sp 7 rfl ?_ ?_<;>intro h1
 ·refine sp 11 rfl ?_ ?_<;>intro h2
  ·refine XO.v (V.quo rfl rfl (by first | decide | omega) _ (sV)) rfl (gO ?_);refine ca (Yn _ _ _ _ _ hm _) (pz 2) ?_;rintro _ _ ⟨⟨k,rfl,hk⟩,rfl⟩;refine gO ?_;refine sp 18 rfl ?_ ?_<;>intro h3
   ·refine XO.v (V.quo rfl rfl (by first | decide | omega) _ (sV)) rfl (gO ?_);refine sd ?_;refine ld .aa (bP _ _ _ _ _ _ _) ?_;refine bS (pz 2) ?_;first | exact⟨by unfold MS.sD;rw[jg];rfl,rfl⟩ | (refine⟨?_,rfl⟩;rw[pJ hm hk];first | (rw[decide_eq_false (p:=0<=k) og];rfl) | (rw[decide_eq_true (p:=0<=k) og];rfl))
   ·refine bS (pz 2) ?_;first | exact⟨by unfold MS.sD;rw[jg];rfl,rfl⟩ | (refine⟨?_,rfl⟩;rw[pJ hm hk];first | (rw[decide_eq_false (p:=0<=k) og];rfl) | (rw[decide_eq_true (p:=0<=k) og];rfl))
  ·refine bS (pz 2) ?_;first | exact⟨by unfold MS.sD;rw[jg];rfl,rfl⟩ | (refine⟨?_,rfl⟩;rw[pJ hm hk];first | (rw[decide_eq_false (p:=0<=k) og];rfl) | (rw[decide_eq_true (p:=0<=k) og];rfl))
 ·refine bS (pz 2) ?_;first | exact⟨by unfold MS.sD;rw[jg];rfl,rfl⟩ | (refine⟨?_,rfl⟩;rw[pJ hm hk];first | (rw[decide_eq_false (p:=0<=k) og];rfl) | (rw[decide_eq_true (p:=0<=k) og];rfl))
set_option maxHeartbeats 8000000 in
def N4(kb pb mb:Nat)(v:VB)(hv:v.Ok)(p:Option Addr)(c:Nat)(m:MS)(hm:m.Ok)(a:Int)(w:Bool):Spec Tryz.prog 202 [aA mb 0 0,iI a,.bool w] [.cells kb 0 577 (dM pb v.iD v.rf),.cells pb 0 71 (bO v.bb.fv),.cells mb 0 34 (b6 kb p (ah m.ay).length c m.fr m.aS),aM p c 171 3 (ah m.ay).length (fa (ah m.ay)),.ro 1 0 64 ix] (fun x H1=>x= .tuple #[iI (m.cx v a w).1,az 102 (m.cx v a w).2.1]/\H1=[.cells kb 0 577 (dM pb (m.cx v a w).2.2.1.iD (m.cx v a w).2.2.1.rf),.cells pb 0 71 (bO (m.cx v a w).2.2.1.bb.fv),.cells mb 0 34 (b6 kb p (ah m.ay).length c (m.cx v a w).2.2.2.fr (m.cx v a w).2.2.2.aS),aM p c 171 3 (ah m.ay).length (fa (ah m.ay))]):=by
  refine Spec.go 123 [0,1,2,6,7,8,9,10,11,12,17,25,40,46,79,114] [] Tryz.func202 fun W=> ?_
  refine cq (ZZ _ _ _ _ _ hm _ _) (pk [2,2]) ?_
  refine yW ?_ ?_<;>intro h1
  · try simp only[sb]at h1
    have eA:m.xy a w=false:=by simpa using h1
    refine bC rfl rfl rfl (ai (pk [2,2,0,0]) rfl ?_)
    first
      | (rw[gY eA];exact⟨rfl,rfl⟩)
      | (rw[fj eA h0 ht];exact⟨rfl,by rw[iG.2]⟩)
      | (rw[gZ eA h0 ht];exact⟨by show Value.tuple #[iI (ad m.fr (a/8) (v.take.1+1) (a/8)-1),_]=_;rw[aj,show v.take.1+1-1=v.take.1 from og];rfl,rfl⟩)
      | (rw[fP eA h0 (by first | assumption | omega | (simp_all;done)) (by first | assumption | omega | (simp_all;done)) og ht];exact⟨rfl,by rw[iG.2]⟩)
      | (rw[fB eA h0 (by first | assumption | omega | (simp_all;done)) (by first | assumption | omega | (simp_all;done)) og ht];exact⟨by show Value.tuple #[iI (ad m.fr (a/8) (v.take.1+1) (a/8)-1),_]=_;rw[aj,show v.take.1+1-1=v.take.1 from og];rfl,rfl⟩)
      | (rw[MS.ku eA h0 (by first | assumption | omega | (simp_all;done)) (by first | assumption | omega | (simp_all;done)) og];exact⟨rfl,rfl⟩)
      | (have q:w=false:=by first | assumption | omega | (simp_all;done)
         rw[cV eA h0 (.inl q)];exact⟨rfl,rfl⟩)
      | (have q:m.aS (a/8)=true:=by first | assumption | omega | (simp_all;done)
         rw[cV eA h0 (.inr q)];first | exact⟨rfl,rfl⟩ | (rw[jB m.aS (a/8) q];exact⟨rfl,rfl⟩))
      | (exfalso;(first | assumption | omega | (simp_all;done)))
  · try simp only[sb]at h1
    have eA:m.xy a w=true:=by simpa using h1
    have ha:=lh eA
    have I3:=hm.lo (a/8)
    refine XO.v (V.quo rfl rfl (by first | decide | omega) _ (sV)) rfl (gO ?_)
    refine sd ?_
    refine ld .aa (bP _ _ _ _ _ _ _) ?_
    refine cd rfl ?_ ?_<;>intro h2
    · skip
      have h0:m.fr (a/8)=0:=og
      refine ld .aa (b6.zu _ _ _ _ _ _) ?_
      refine HQ 2 (UH _ _ _ hv) (pk [2,2,2]) rfl ?_
      refine cd rfl ?_ ?_<;>intro h3
      · skip
        have ht:=h3
        have iG:=AI ht
        refine bC rfl rfl rfl (ai (pk [0,0,1,1]) rfl ?_)
        first
          | (rw[gY eA];exact⟨rfl,rfl⟩)
          | (rw[fj eA h0 ht];exact⟨rfl,by rw[iG.2]⟩)
          | (rw[gZ eA h0 ht];exact⟨by show Value.tuple #[iI (ad m.fr (a/8) (v.take.1+1) (a/8)-1),_]=_;rw[aj,show v.take.1+1-1=v.take.1 from og];rfl,rfl⟩)
          | (rw[fP eA h0 (by first | assumption | omega | (simp_all;done)) (by first | assumption | omega | (simp_all;done)) og ht];exact⟨rfl,by rw[iG.2]⟩)
          | (rw[fB eA h0 (by first | assumption | omega | (simp_all;done)) (by first | assumption | omega | (simp_all;done)) og ht];exact⟨by show Value.tuple #[iI (ad m.fr (a/8) (v.take.1+1) (a/8)-1),_]=_;rw[aj,show v.take.1+1-1=v.take.1 from og];rfl,rfl⟩)
          | (rw[MS.ku eA h0 (by first | assumption | omega | (simp_all;done)) (by first | assumption | omega | (simp_all;done)) og];exact⟨rfl,rfl⟩)
          | (have q:w=false:=by first | assumption | omega | (simp_all;done)
             rw[cV eA h0 (.inl q)];exact⟨rfl,rfl⟩)
          | (have q:m.aS (a/8)=true:=by first | assumption | omega | (simp_all;done)
             rw[cV eA h0 (.inr q)];first | exact⟨rfl,rfl⟩ | (rw[jB m.aS (a/8) q];exact⟨rfl,rfl⟩))
          | (exfalso;(first | assumption | omega | (simp_all;done)))
      · skip
        have ht:v.take.2.1=0:=og
        have htr:=pG hv ht
        refine XO.v (V.build (vs:= #[(0,iI v.take.1),(1,.bool true)]) rfl (v:=.agg #[iI v.take.1,.bool true]) fun _=>kq) rfl (gO ?_)
        refine fW (.t3 .aa) (rM _ _ _ _ _ _ _ _ _) rfl ⟨rfl,rfl⟩ ?_
        refine ld (.t3 .aa) (bP _ _ _ _ _ _ _) ?_
        refine bC rfl rfl rfl (ai (pk [0,0,1,1]) rfl ?_)
        first
          | (rw[gY eA];exact⟨rfl,rfl⟩)
          | (rw[fj eA h0 ht];exact⟨rfl,by rw[iG.2]⟩)
          | (rw[gZ eA h0 ht];exact⟨by show Value.tuple #[iI (ad m.fr (a/8) (v.take.1+1) (a/8)-1),_]=_;rw[aj,show v.take.1+1-1=v.take.1 from og];rfl,rfl⟩)
          | (rw[fP eA h0 (by first | assumption | omega | (simp_all;done)) (by first | assumption | omega | (simp_all;done)) og ht];exact⟨rfl,by rw[iG.2]⟩)
          | (rw[fB eA h0 (by first | assumption | omega | (simp_all;done)) (by first | assumption | omega | (simp_all;done)) og ht];exact⟨by show Value.tuple #[iI (ad m.fr (a/8) (v.take.1+1) (a/8)-1),_]=_;rw[aj,show v.take.1+1-1=v.take.1 from og];rfl,rfl⟩)
          | (rw[MS.ku eA h0 (by first | assumption | omega | (simp_all;done)) (by first | assumption | omega | (simp_all;done)) og];exact⟨rfl,rfl⟩)
          | (have q:w=false:=by first | assumption | omega | (simp_all;done)
             rw[cV eA h0 (.inl q)];exact⟨rfl,rfl⟩)
          | (have q:m.aS (a/8)=true:=by first | assumption | omega | (simp_all;done)
             rw[cV eA h0 (.inr q)];first | exact⟨rfl,rfl⟩ | (rw[jB m.aS (a/8) q];exact⟨rfl,rfl⟩))
          | (exfalso;(first | assumption | omega | (simp_all;done)))
    · skip
      have h0:¬m.fr (a/8)=0:=og
      refine rq [0,1,2,3,4,5,6,7,8,9,10,11,12,13,14,15,16,17,18,19,20,21,22,23] mixed ?_
      refine M9 48 rfl ?_ ?_<;>intro h4
      · try simp only[sb]at h4
        refine ld .aa (xB _ _ _ _ _ _ _ og) ?_
        refine M9 55 rfl ?_ ?_<;>intro h5
        · try simp only[sb]at h5
          refine ld .aa (b6.zu _ _ _ _ _ _) ?_
          refine ld .aa (bP _ _ _ _ _ _ _) ?_
          refine sd ?_
          refine ld (.t2 .aa) (iP _ _ _ _) ?_
          refine cd rfl ?_ ?_<;>intro h6
          · skip
            refine ld .aa (b6.zu _ _ _ _ _ _) ?_
            refine HQ 2 (UH _ _ _ hv) (pk [2,2,2]) rfl ?_
            refine cd rfl ?_ ?_<;>intro h7
            · skip
              have ht:=h7
              have iG:=AI ht
              refine bC rfl rfl rfl (ai (pk [0,0,1,1]) rfl ?_)
              first
                | (rw[gY eA];exact⟨rfl,rfl⟩)
                | (rw[fj eA h0 ht];exact⟨rfl,by rw[iG.2]⟩)
                | (rw[gZ eA h0 ht];exact⟨by show Value.tuple #[iI (ad m.fr (a/8) (v.take.1+1) (a/8)-1),_]=_;rw[aj,show v.take.1+1-1=v.take.1 from og];rfl,rfl⟩)
                | (rw[fP eA h0 (by first | assumption | omega | (simp_all;done)) (by first | assumption | omega | (simp_all;done)) og ht];exact⟨rfl,by rw[iG.2]⟩)
                | (rw[fB eA h0 (by first | assumption | omega | (simp_all;done)) (by first | assumption | omega | (simp_all;done)) og ht];exact⟨by show Value.tuple #[iI (ad m.fr (a/8) (v.take.1+1) (a/8)-1),_]=_;rw[aj,show v.take.1+1-1=v.take.1 from og];rfl,rfl⟩)
                | (rw[MS.ku eA h0 (by first | assumption | omega | (simp_all;done)) (by first | assumption | omega | (simp_all;done)) og];exact⟨rfl,rfl⟩)
                | (have q:w=false:=by first | assumption | omega | (simp_all;done)
                   rw[cV eA h0 (.inl q)];exact⟨rfl,rfl⟩)
                | (have q:m.aS (a/8)=true:=by first | assumption | omega | (simp_all;done)
                   rw[cV eA h0 (.inr q)];first | exact⟨rfl,rfl⟩ | (rw[jB m.aS (a/8) q];exact⟨rfl,rfl⟩))
                | (exfalso;(first | assumption | omega | (simp_all;done)))
            · skip
              have ht:v.take.2.1=0:=og
              have htr:=pG hv ht
              refine rq [0,1,2,3,4,5,6,7,8,9,10,11,12,13,14,15,16,17,18,19,20] mixed ?_
              refine ld (.t3 .aa) (b6.zu _ _ _ _ _ _) ?_
              refine ld (.t3 .aa) (b6.zu _ _ _ _ _ _) ?_
              refine ld (.t3 .aa) (bP _ _ _ _ _ _ _) ?_
              refine sd ?_
              refine lM .aa (Tt _ _ _ _ og) ?_
              refine sd ?_
              refine fW .aa (Fu _ _ _ _ _) rfl ⟨rfl,rfl⟩ ?_
              refine rq [0,1,2,3,4,5,6,7,8] mixed ?_
              refine ld (.t3 .aa) (b6.zu _ _ _ _ _ _) ?_
              refine ld (.t3 .aa) (bP _ _ _ _ _ _ _) ?_
              refine HQ 2 (ab7 _ _ (v.take.2.2.copy v.take.1 (m.fr (a/8)-1)) (hv.take.copy _ _) (m.fr (a/8)-1) og (AJ ht og)) (pz 3) rfl ?_
              refine XO.v (V.build (vs:= #[(0,iI v.take.1),(1,.bool true)]) rfl (v:=.agg #[iI v.take.1,.bool true]) fun _=>kq) rfl (gO ?_)
              refine fW (.t3 .aa) (rM _ _ _ _ _ _ _ _ _) rfl ⟨rfl,rfl⟩ ?_
              refine ld (.t3 .aa) (bP _ _ _ _ _ _ _) ?_
              refine bC rfl rfl rfl (ai (pk [0,0,1,1]) rfl ?_)
              first
                | (rw[gY eA];exact⟨rfl,rfl⟩)
                | (rw[fj eA h0 ht];exact⟨rfl,by rw[iG.2]⟩)
                | (rw[gZ eA h0 ht];exact⟨by show Value.tuple #[iI (ad m.fr (a/8) (v.take.1+1) (a/8)-1),_]=_;rw[aj,show v.take.1+1-1=v.take.1 from og];rfl,rfl⟩)
                | (rw[fP eA h0 (by first | assumption | omega | (simp_all;done)) (by first | assumption | omega | (simp_all;done)) og ht];exact⟨rfl,by rw[iG.2]⟩)
                | (rw[fB eA h0 (by first | assumption | omega | (simp_all;done)) (by first | assumption | omega | (simp_all;done)) og ht];exact⟨by show Value.tuple #[iI (ad m.fr (a/8) (v.take.1+1) (a/8)-1),_]=_;rw[aj,show v.take.1+1-1=v.take.1 from og];rfl,rfl⟩)
                | (rw[MS.ku eA h0 (by first | assumption | omega | (simp_all;done)) (by first | assumption | omega | (simp_all;done)) og];exact⟨rfl,rfl⟩)
                | (have q:w=false:=by first | assumption | omega | (simp_all;done)
                   rw[cV eA h0 (.inl q)];exact⟨rfl,rfl⟩)
                | (have q:m.aS (a/8)=true:=by first | assumption | omega | (simp_all;done)
                   rw[cV eA h0 (.inr q)];first | exact⟨rfl,rfl⟩ | (rw[jB m.aS (a/8) q];exact⟨rfl,rfl⟩))
                | (exfalso;(first | assumption | omega | (simp_all;done)))
          · skip
            refine yW ?_ ?_<;>intro h8
            · try simp only[sb]at h8
              refine st .aa (gX _ _ _ _ _ _ _ og _) rfl ?_
              refine ld .aa (bP _ _ _ _ _ _ _) ?_
              refine bC rfl rfl rfl (ai (pk [2,2,0,0]) rfl ?_)
              first
                | (rw[gY eA];exact⟨rfl,rfl⟩)
                | (rw[fj eA h0 ht];exact⟨rfl,by rw[iG.2]⟩)
                | (rw[gZ eA h0 ht];exact⟨by show Value.tuple #[iI (ad m.fr (a/8) (v.take.1+1) (a/8)-1),_]=_;rw[aj,show v.take.1+1-1=v.take.1 from og];rfl,rfl⟩)
                | (rw[fP eA h0 (by first | assumption | omega | (simp_all;done)) (by first | assumption | omega | (simp_all;done)) og ht];exact⟨rfl,by rw[iG.2]⟩)
                | (rw[fB eA h0 (by first | assumption | omega | (simp_all;done)) (by first | assumption | omega | (simp_all;done)) og ht];exact⟨by show Value.tuple #[iI (ad m.fr (a/8) (v.take.1+1) (a/8)-1),_]=_;rw[aj,show v.take.1+1-1=v.take.1 from og];rfl,rfl⟩)
                | (rw[MS.ku eA h0 (by first | assumption | omega | (simp_all;done)) (by first | assumption | omega | (simp_all;done)) og];exact⟨rfl,rfl⟩)
                | (have q:w=false:=by first | assumption | omega | (simp_all;done)
                   rw[cV eA h0 (.inl q)];exact⟨rfl,rfl⟩)
                | (have q:m.aS (a/8)=true:=by first | assumption | omega | (simp_all;done)
                   rw[cV eA h0 (.inr q)];first | exact⟨rfl,rfl⟩ | (rw[jB m.aS (a/8) q];exact⟨rfl,rfl⟩))
                | (exfalso;(first | assumption | omega | (simp_all;done)))
            · try simp only[sb]at h8
              refine ld .aa (bP _ _ _ _ _ _ _) ?_
              refine bC rfl rfl rfl (ai (pk [2,2,0,0]) rfl ?_)
              simp_all
        · try simp only[sb]at h5
          refine yW ?_ ?_<;>intro h9
          · try simp only[sb]at h9
            refine st .aa (gX _ _ _ _ _ _ _ og _) rfl ?_
            refine ld .aa (bP _ _ _ _ _ _ _) ?_
            refine bC rfl rfl rfl (ai (pk [2,2,0,0]) rfl ?_)
            first
              | (rw[gY eA];exact⟨rfl,rfl⟩)
              | (rw[fj eA h0 ht];exact⟨rfl,by rw[iG.2]⟩)
              | (rw[gZ eA h0 ht];exact⟨by show Value.tuple #[iI (ad m.fr (a/8) (v.take.1+1) (a/8)-1),_]=_;rw[aj,show v.take.1+1-1=v.take.1 from og];rfl,rfl⟩)
              | (rw[fP eA h0 (by first | assumption | omega | (simp_all;done)) (by first | assumption | omega | (simp_all;done)) og ht];exact⟨rfl,by rw[iG.2]⟩)
              | (rw[fB eA h0 (by first | assumption | omega | (simp_all;done)) (by first | assumption | omega | (simp_all;done)) og ht];exact⟨by show Value.tuple #[iI (ad m.fr (a/8) (v.take.1+1) (a/8)-1),_]=_;rw[aj,show v.take.1+1-1=v.take.1 from og];rfl,rfl⟩)
              | (rw[MS.ku eA h0 (by first | assumption | omega | (simp_all;done)) (by first | assumption | omega | (simp_all;done)) og];exact⟨rfl,rfl⟩)
              | (have q:w=false:=by first | assumption | omega | (simp_all;done)
                 rw[cV eA h0 (.inl q)];exact⟨rfl,rfl⟩)
              | (have q:m.aS (a/8)=true:=by first | assumption | omega | (simp_all;done)
                 rw[cV eA h0 (.inr q)];first | exact⟨rfl,rfl⟩ | (rw[jB m.aS (a/8) q];exact⟨rfl,rfl⟩))
              | (exfalso;(first | assumption | omega | (simp_all;done)))
          · try simp only[sb]at h9
            refine ld .aa (bP _ _ _ _ _ _ _) ?_
            refine bC rfl rfl rfl (ai (pk [2,2,0,0]) rfl ?_)
            simp_all
      · try simp only[sb]at h4
        refine yW ?_ ?_<;>intro V1
        · try simp only[sb]at V1
          refine st .aa (gX _ _ _ _ _ _ _ og _) rfl ?_
          refine ld .aa (bP _ _ _ _ _ _ _) ?_
          refine bC rfl rfl rfl (ai (pk [2,2,0,0]) rfl ?_)
          simp_all
        · try simp only[sb]at V1
          refine ld .aa (bP _ _ _ _ _ _ _) ?_
          refine bC rfl rfl rfl (ai (pk [2,2,0,0]) rfl ?_)
          first
            | (rw[gY eA];exact⟨rfl,rfl⟩)
            | (rw[fj eA h0 ht];exact⟨rfl,by rw[iG.2]⟩)
            | (rw[gZ eA h0 ht];exact⟨by show Value.tuple #[iI (ad m.fr (a/8) (v.take.1+1) (a/8)-1),_]=_;rw[aj,show v.take.1+1-1=v.take.1 from og];rfl,rfl⟩)
            | (rw[fP eA h0 (by first | assumption | omega | (simp_all;done)) (by first | assumption | omega | (simp_all;done)) og ht];exact⟨rfl,by rw[iG.2]⟩)
            | (rw[fB eA h0 (by first | assumption | omega | (simp_all;done)) (by first | assumption | omega | (simp_all;done)) og ht];exact⟨by show Value.tuple #[iI (ad m.fr (a/8) (v.take.1+1) (a/8)-1),_]=_;rw[aj,show v.take.1+1-1=v.take.1 from og];rfl,rfl⟩)
            | (rw[MS.ku eA h0 (by first | assumption | omega | (simp_all;done)) (by first | assumption | omega | (simp_all;done)) og];exact⟨rfl,rfl⟩)
            | (have q:w=false:=by first | assumption | omega | (simp_all;done)
               rw[cV eA h0 (.inl q)];exact⟨rfl,rfl⟩)
            | (have q:m.aS (a/8)=true:=by first | assumption | omega | (simp_all;done)
               rw[cV eA h0 (.inr q)];first | exact⟨rfl,rfl⟩ | (rw[jB m.aS (a/8) q];exact⟨rfl,rfl⟩))
            | (exfalso;(first | assumption | omega | (simp_all;done)))
set_option maxHeartbeats 8000000 in
def acf(kb pb mb:Nat)(v:VB)(hv:v.Ok)(p:Option Addr)(c:Nat)(m:MS)(hm:m.Ok)(a:Int):Spec Tryz.prog 151 [aA mb 0 0,iI a] [.cells kb 0 577 (dM pb v.iD v.rf),.cells pb 0 71 (bO v.bb.fv),.cells mb 0 34 (b6 kb p (ah m.ay).length c m.fr m.aS),aM p c 171 3 (ah m.ay).length (fa (ah m.ay)),.ro 1 0 64 ix] (fun x H1=>x= .tuple #[.int .u8 (m.load v a).1,az 102 (m.load v a).2.1]/\H1=[.cells kb 0 577 (dM pb (m.load v a).2.2.1.iD (m.load v a).2.2.1.rf),.cells pb 0 71 (bO (m.load v a).2.2.1.bb.fv),.cells mb 0 34 (b6 kb p (ah m.ay).length c (m.load v a).2.2.2.fr (m.load v a).2.2.2.aS),aM p c 171 3 (ah m.ay).length (fa (ah m.ay))]):=by
 refine Spec.go 29 [0,1,4,5,6,7,15] [] Tryz.func151 fun W=> ?_;refine HQ 4 (N4 _ _ _ _ hv _ _ _ hm a false) (pz 5) rfl ?_;refine cd rfl ?_ ?_<;>intro h1
 ·have ht:=h1;refine eH (pz 4) ?_;rw[MS.CJ ht];exact⟨rfl,rfl⟩
 ·have ht:(m.cx v a false).2.1=0:=og;have hr:=xF hv hm ht;refine ld (.t2 .aa) (b6.zu _ _ _ _ _ _) ?_;refine XO.v (V.rem rfl rfl (by first | decide | omega) _ (Int.tmod_eq_emod_of_nonneg og)) rfl (gO ?_);refine sd ?_;refine sd ?_;refine ld .aa (Ex _ _ _ _ _ og og) ?_;refine eH (pz 4) ?_;rw[MS.GP ht];exact⟨rfl,rfl⟩
set_option maxHeartbeats 8000000 in
def Yq(kb pb mb:Nat)(v:VB)(hv:v.Ok)(p:Option Addr)(c:Nat)(m:MS)(hm:m.Ok)(a b:Int):Spec Tryz.prog 153 [aA mb 0 0,iI a,.int .u8 b] [.cells kb 0 577 (dM pb v.iD v.rf),.cells pb 0 71 (bO v.bb.fv),.cells mb 0 34 (b6 kb p (ah m.ay).length c m.fr m.aS),aM p c 171 3 (ah m.ay).length (fa (ah m.ay)),.ro 1 0 64 ix] (fun x H1=>x=az 102 (m.store v a b).1/\H1=[.cells kb 0 577 (dM pb (m.store v a b).2.1.iD (m.store v a b).2.1.rf),.cells pb 0 71 (bO (m.store v a b).2.1.bb.fv),.cells mb 0 34 (b6 kb p (ah m.ay).length c (m.store v a b).2.2.fr (m.store v a b).2.2.aS),aM p c 171 3 (ah m.ay).length (fa (ah m.ay))]):=by
 refine Spec.go 30 [0,1,2,6,7,8,16] [] Tryz.func153 fun W=> ?_;refine HQ 4 (N4 _ _ _ _ hv _ _ _ hm a true) (pz 5) rfl ?_;refine cd rfl ?_ ?_<;>intro h1
 ·have ht:=h1;refine bS (pz 4) ?_;rw[MS.FA ht];exact⟨rfl,rfl⟩
 ·have ht:(m.cx v a true).2.1=0:=og;have hr:=xF hv hm ht;refine ld (.t2 .aa) (b6.zu _ _ _ _ _ _) ?_;refine XO.v (V.rem rfl rfl (by first | decide | omega) _ (Int.tmod_eq_emod_of_nonneg og)) rfl (gO ?_);refine sd ?_;refine sd ?_;refine st .aa (vy _ _ _ _ _ og og _) rfl ?_;refine bS (pz 4) ?_;rw[MS.CK ht];exact⟨rfl,rfl⟩
set_option maxHeartbeats 8000000 in
def Hp(kb pb mb:Nat)(v:VB)(hv:v.Ok)(p:Option Addr)(c:Nat)(m:MS)(hm:m.Ok):Spec Tryz.prog 57 [aA mb 0 0] [.cells kb 0 577 (dM pb v.iD v.rf),.cells mb 0 34 (b6 kb p (ah m.ay).length c m.fr m.aS),aM p c 171 3 (ah m.ay).length (fa (ah m.ay))] (fun x H1=>∃ nb p1 c1,x=aA nb 0 0/\H1=[.cells kb 0 577 (dM pb (v.iA m).iD (v.iA m).rf),.cells mb 0 34 (b6 kb p (ah m.ay).length c m.fr fun _=>false),aM p c 171 3 (ah m.ay).length (fa (ah m.ay)),.cells nb 0 34 (b6 kb p1 (ah m.ay).length c1 m.fr fun _=>false),aM p1 c1 171 3 (ah m.ay).length (fa (ah m.ay))]):=by
 refine Spec.go 65 [0,2,3,4,16,17,43] [] Tryz.func57 fun W=> ?_;refine XC.gR mixed (f:=12) (l:= #[qF,qF,qF,qF,qF,qF,qF,qF,qF,qF,qF,qF]) rfl rfl XM.kD ?_;refine XQ.pv (i:=0) rfl kq rfl (V.move rfl) rfl rfl ?_;refine XQ.pv (i:=1) rfl kq rfl (bD rfl) rfl rfl ?_;refine XQ.pv (i:=2) rfl kq rfl (V.fieldAddr rfl UM) rfl rfl ?_;refine XQ.load (i:=3) (.cells _ _ _ _) [10] rfl kq rfl (.ao .aa) (V.load rfl ek (b6.zu _ _ _ _ _ _) afb) rfl kq rfl ?_;refine XQ.pv (i:=4) rfl kq rfl (V.move rfl) rfl rfl ?_;refine XQ.pv (i:=5) rfl kq rfl (bD rfl) rfl rfl ?_;refine XQ.pv (i:=6) rfl kq rfl (V.fieldAddr rfl UN) rfl rfl ?_;refine XQ.load (i:=7) (.cells _ _ _ _) [8,10] rfl kq rfl (.ao .aa) (V.load rfl ek (lu _ _ _ _ _ _) ace) rfl kq rfl ?_;refine XQ.call (i:=8) rfl kq rfl rfl (Yo _ _ _ (by have:=qL m.ay;omega)) (pk [2]) acd rfl (by rintro _ _ ⟨p1,c1,rfl,rfl⟩;all_goals(intro _ dP;exact⟨fun hs=>(hs 8 (by first | (simp;done) | (simp;rfl)) rfl).elim,fun _=>fc (.t3 .aa) _ dP,trivial⟩)) ?_;rintro _ _ ⟨p1,c1,rfl,rfl⟩;refine XQ.pv (i:=9) rfl kq rfl (V.build (vs:= #[(0,aA kb 0 0),(1,.slice p1 (ah m.ay).length c1)]) rfl (v:=.agg (zNs kb p1 (ah m.ay).length c1).toArray) fun _=>kq) rfl rfl ?_;refine XQ.box (i:=10) (m:=34) (C:=b6 kb p1 (ah m.ay).length c1 (fun _=>1) fun _=>false) rfl kq rfl rfl rfl (XH _ _ _ _) rfl (fun _ _ dP=>⟨fun hs=>(hs 8 (by first | (simp;done) | (simp;rfl)) rfl).elim,fun hs=>(hs 10 (by first | (simp;done) | (simp;rfl)) rfl).elim,trivial⟩) ?_;intro nb;refine XQ.pv (i:=11) rfl kq rfl (V.assign rfl) rfl rfl ?_;refine XQ.done kq ?_;refine gE ?_;refine lp (σ:=Int) (fun i=>(16-i).toNat) (fun i=>0<=i/\i<=16) (fun i=>[(16,iI i),(0,aA mb 0 0),(3,aA nb 0 0)]) (fun i=>XM W (ck [.cells kb 0 577 (dM pb v.iD v.rf),.cells mb 0 34 (b6 kb p (ah m.ay).length c m.fr m.aS),aM p c 171 3 (ah m.ay).length (fa (ah m.ay))]) [.cells kb 0 577 (dM pb v.iD (xz v.rf m.fr i.toNat)),.cells mb 0 34 (b6 kb p (ah m.ay).length c m.fr (wh (fun _=>false) m.aS i)),aM p c 171 3 (ah m.ay).length (fa (ah m.ay)),.cells nb 0 34 (b6 kb p1 (ah m.ay).length c1 (wh m.fr (fun _=>1) i) fun _=>false),aM p1 c1 171 3 (ah m.ay).length (fa (ah m.ay))]) (0) ?_ S3 (fun _ hw=>by show XM _ _ [_,.cells mb 0 34 (b6 _ _ _ _ _ (wh (fun _=>false) m.aS 0)),_,.cells nb 0 34 (b6 _ _ _ _ (wh m.fr (fun _=>1) 0) _),_] _;rw[FB,FB];exact XM.pick (pk [3,3,1,0,0]) hw) ?_
 ·omega
 intro i hi;have I3:=hm.lo i;have KQ:=TN v.rf m.fr i.toNat (m.fr i-1);have hrf:=hv.rf (m.fr i-1);refine gC ?_;refine cd rfl ?_ ?_<;>intro h1
 ·refine sd ?_;refine st (.ao .aa) (gX _ _ _ _ _ _ _ og _) rfl ?_;refine rq [0,1,2,3,4,5,6,7,8,9,10,11] mixed ?_;refine sd ?_;refine lM (.ao .aa) (PD _ _ _ _ _ _ _ og) ?_;refine sd ?_;refine fW (.t3 .aa) (rM _ _ _ _ _ _ _ _ _) rfl ⟨rfl,rfl⟩ ?_;refine sd ?_;refine ld (.ao .aa) (bP _ _ _ _ _ _ _) ?_;refine cd rfl ?_ ?_<;>intro h2
  ·refine rq [0,1,2,3,4,5,6,7,8,9,10,11,12,13,14,15,16,17,18,19] mixed ?_;refine ld (.ao .aa) (b6.zu _ _ _ _ _ _) ?_;refine sd ?_;refine ld (.ao .aa) (bP _ _ _ _ _ _ _) ?_;refine sd ?_;refine ld .aa (iP _ _ _ _) ?_;refine sd ?_;refine sd ?_;refine st .aa (lT _ _ _ _ og _) rfl ?_;refine sd ?_;have hU:xz v.rf m.fr (i+1).toNat=ad (xz v.rf m.fr i.toNat) (m.fr i-1) (xz v.rf m.fr i.toNat (m.fr i-1)+1):=by rw[Jv hi.1,if_pos og]
   refine ag (i+1) ?_ ?_ S3 fun _ hw=>by rw[aj (wh (fun _=>false) m.aS i) i false,jB (fun _=>false) i rfl]at hw;show XM _ _ [.cells kb 0 577 (dM pb v.iD (xz v.rf m.fr (i+1).toNat)),_,_,_,_] _;rw[hU,<-uN hi.1 (f:=(fun _=>false)) (g:=m.aS) (v:=false) rfl,<-uN hi.1 (f:=m.fr) (g:=fun _=>1) (v:=m.fr i-1+1)];exact XM.pick (pz 5) hw
   all_goals omega
  ·refine sd ?_;have hU:xz v.rf m.fr (i+1).toNat=xz v.rf m.fr i.toNat:=by rw[Jv hi.1,if_neg og]
   refine ag (i+1) ?_ ?_ S3 fun _ hw=>by rw[aj (wh (fun _=>false) m.aS i) i false,jB (fun _=>false) i rfl]at hw;show XM _ _ [.cells kb 0 577 (dM pb v.iD (xz v.rf m.fr (i+1).toNat)),_,_,_,_] _;rw[hU,<-uN hi.1 (f:=(fun _=>false)) (g:=m.aS) (v:=false) rfl,<-uN hi.1 (f:=m.fr) (g:=fun _=>1) (v:=m.fr i-1+1)];exact XM.pick (pz 5) hw
   all_goals omega
 ·refine bS (pz 5) ?_;have e:i=16:=og;subst e;exact⟨nb,p1,c1,rfl,by rw[rO (f:=wh m.fr (fun _=>1) 16) (f':=m.fr) (o:=(fun _=>false)) (o':=(fun _=>false)) fun i h0 h1=>⟨by unfold wh;rw[if_pos og],rfl⟩,rO (f:=m.fr) (f':=m.fr) (o:=wh (fun _=>false) m.aS 16) (o':=(fun _=>false)) fun i h0 h1=>⟨rfl,by unfold wh;rw[if_pos og]⟩];rfl⟩
def Yr(kb pb:Nat)(v:VB)(hv:v.Ok)(f:Int)(hf:0<=f/\f<64)(h1:1<=v.rf f):Spec Tryz.prog 179 [aA kb 0 0,iI f] [.cells kb 0 577 (dM pb v.iD v.rf),.cells pb 0 71 (bO v.bb.fv)] (fun x H1=>x= .tuple #[]/\H1=[.cells kb 0 577 (dM pb (v.drop f).iD (v.drop f).rf),.cells pb 0 71 (bO (v.drop f).bb.fv)]):=by
 have hb:=hv.rf f;refine Spec.go 27 [0,1,20] [] Tryz.func179 fun W=> ?_;refine rq [0,1,2,3,4,5,6,7,8,9,10] mixed ?_;refine sd ?_;refine ld .aa (iP _ _ _ _) ?_;refine sd ?_;refine sd ?_;refine st .aa (lT _ _ _ _ og _) rfl ?_;refine sd ?_;refine ld .aa (iP _ _ _ _) ?_;have e1:ad v.rf f (v.rf f-1) f=v.rf f-1:=aj _ _ _;refine cd rfl ?_ ?_<;>intro h1
 ·refine ld .aa (dM.Jg _ _ _) ?_;refine cq (UG _ _ _ hv.bb _) (pk [1]) ?_;refine cS rfl (ai (pk [1,0]) rfl ?_);grind [zv]
 ·refine cS rfl (ai (pz 2) rfl ?_);grind [zw]
set_option maxHeartbeats 8000000 in
def J8(kb pb mb:Nat)(v:VB)(hv:v.Ok)(p:Option Addr)(c:Nat)(m:MS)(hm:m.Ok)(vm:m.In v)(a n:Int):Spec Tryz.prog 107 [aA mb 0 0,iI a,iI n] [.cells kb 0 577 (dM pb v.iD v.rf),.cells pb 0 71 (bO v.bb.fv),.cells mb 0 34 (b6 kb p (ah m.ay).length c m.fr m.aS),aM p c 171 3 (ah m.ay).length (fa (ah m.ay))] (fun x H1=>x= .tuple #[iI (m.fE v a n).1,az 102 (m.fE v a n).2.1]/\∃ p2 c2,H1=[.cells kb 0 577 (dM pb (m.fE v a n).2.2.1.iD (m.fE v a n).2.2.1.rf),.cells pb 0 71 (bO (m.fE v a n).2.2.1.bb.fv),.cells mb 0 34 (b6 kb p2 (ah (m.fE v a n).2.2.2.ay).length c2 (m.fE v a n).2.2.2.fr (m.fE v a n).2.2.2.aS),aM p2 c2 171 3 (ah (m.fE v a n).2.2.2.ay).length (fa (ah (m.fE v a n).2.2.2.ay))]):=by
 refine Spec.go 59 [0,1,2,6,7,8,9,11,16,21,22,23,24,34] [] Tryz.func107 fun W=> ?_;refine cq (Ml _ _) .nil ?_;refine cd rfl ?_ ?_<;>intro h1
 ·have hb:gn a n:=by
   simp_all
  refine eH (pz 4) ?_;exact⟨by rw[if_pos hb,rV hb];rfl,p,c,by rw[rV hb]⟩
 ·have hb:¬gn a n:=fun q=>h1 fun q2=>by rw[if_pos q]at q2;omega
  have vN:=hb;unfold gn at vN;have hn:0<n:=og;have hL:=qL m.ay;refine ca (N3 _ _ _ _ _ hm _ _ hb) (pk [2,2]) ?_;rintro _ _ ⟨p4,c4,p5,c5,rfl,rfl⟩;have EX:=CI (ah m.ay) a n;rw[PC hm.f hb];generalize hq:kN (fun i=>m.ay i != 0) a n.toNat=l;have iy:∀ i∈l,a<=i/\i<a+n:=fun i hi=>by rw[<-hq,ox]at hi;omega
  have qh:l.Pairwise (fun x y=>x<y):=hq▸rL _;have hle:l.length<=16:=by rw[<-hq];have:=Ft (p:=fun i=>m.ay i != 0) (a:=a) n.toNat;omega
  refine gO ?_;refine lp (σ:=Int) (fun i=>(l.length-i).toNat) (fun i=>0<=i/\i<=l.length) (fun i=>[(23,iI i),(9,iI (tE v m.fr (l.take i.toNat)).1),(0,aA mb 0 0),(21,.slice p5 l.length c5),(22,iI l.length)]) (fun i=>XM W (ck [.cells kb 0 577 (dM pb v.iD v.rf),.cells pb 0 71 (bO v.bb.fv),.cells mb 0 34 (b6 kb p (ah m.ay).length c m.fr m.aS),aM p c 171 3 (ah m.ay).length (fa (ah m.ay))]) [.cells kb 0 577 (dM pb (tE v m.fr (l.take i.toNat)).2.iD (tE v m.fr (l.take i.toNat)).2.rf),.cells pb 0 71 (bO (tE v m.fr (l.take i.toNat)).2.bb.fv),.cells mb 0 34 (b6 kb p4 ((ah m.ay).flatMap (mf a n)).length c4 (nW m.fr (l.take i.toNat)) (ef m.aS (l.take i.toNat))),aM p4 c4 171 3 ((ah m.ay).flatMap (mf a n)).length (fa ((ah m.ay).flatMap (mf a n))),dE p5 c5 3 l]) (0) ?_ S5 (fun _ hw=>by show XM _ _ [_,_,.cells mb 0 34 (b6 kb p4 _ c4 (nW m.fr []) (ef m.aS [])),_,_] _;rw[TL,TM];exact XM.pick (pk [3,3,0,0,0]) hw) ?_
  ·omega
  intro i hi;refine gC ?_;refine cd rfl ?_ ?_<;>intro h2
  ·refine bL (.t4 .aa) og ?_;intro g1 h3;subst h3;refine sd (Ak (.t4 .aa) (ints_at) ?_);have hmm:=rH (l:=l) (i:=i) og;have ha:=iy _ hmm;have Gn:=XD qh (i:=i) og;have e0:nW m.fr (l.take i.toNat) (il l i)=m.fr (il l i):=by unfold nW;rw[if_neg Gn]
   have hit:=ZH (l:=l) (i:=i) og;have hu:=TC hv hm vm _ (l.take i.toNat) rfl (LD qh _);have hTl:(l.take i.toNat).length<=16:=by rw[List.length_take];omega
   have I3:=hm.lo (il l i);refine sd (ld (.t2 .aa) (bP _ _ _ _ _ _ _) ?_);refine cd rfl ?_ ?_<;>intro h4
   ·have Qt:0<m.fr (il l i):=og;have hrf:1<=(tE v m.fr (l.take i.toNat)).2.rf (nW m.fr (l.take i.toNat) (il l i)-1):=by
     grind [MS.Ok.inj,MS.In]
    refine rq [0,1,2,3,4,5,6,7,8,9,10,11] mixed (ld (.t2 .aa) (b6.zu _ _ _ _ _ _) (sd (ld (.t2 .aa) (bP _ _ _ _ _ _ _) ?_)));refine cq (Yr _ _ _ hu.1 (nW m.fr (l.take i.toNat) (il l i)-1) og hrf) (pz 2) ?_;refine XO.v (V.build (vs:= #[(0,iI (-1))]) rfl (v:=.agg #[iI (-1),.bool false]) fun _=>kq) rfl (gO ?_);refine sd (fW (.t2 .aa) (rM _ _ _ _ _ _ _ _ _) rfl ⟨rfl,rfl⟩ (sd (sd ?_)));have hS:(tE v m.fr (l.take (i+1).toNat))=((tE v m.fr (l.take i.toNat)).1+1,(tE v m.fr (l.take i.toNat)).2.drop (nW m.fr (l.take i.toNat) (il l i)-1)):=by rw[hit,CA];unfold ZF;rw[if_pos Qt,e0]
    have hC:nW m.fr (l.take (i+1).toNat)=ad (nW m.fr (l.take i.toNat)) (il l i) (-1+1):=by rw[hit,PK]
    have hF:ef m.aS (l.take (i+1).toNat)=ad (ef m.aS (l.take i.toNat)) (il l i) false:=by rw[hit,PL]
    refine ag (i+1) ?_ ?_ (S5 rfl (by show lk _ _=some (iI (tE v m.fr (l.take (i+1).toNat)).1);rw[hS];rfl) rfl rfl rfl) fun _ hw=>by show XM _ _ [.cells kb 0 577 (dM pb (tE v m.fr (l.take (i+1).toNat)).2.iD (tE v m.fr (l.take (i+1).toNat)).2.rf),.cells pb 0 71 (bO (tE v m.fr (l.take (i+1).toNat)).2.bb.fv),.cells mb 0 34 (b6 kb p4 ((ah m.ay).flatMap (mf a n)).length c4 (nW m.fr (l.take (i+1).toNat)) (ef m.aS (l.take (i+1).toNat))),aM p4 c4 171 3 ((ah m.ay).flatMap (mf a n)).length (fa ((ah m.ay).flatMap (mf a n))),_] _;rw[hS,hC,hF];exact XM.pick (pz 5) hw
    all_goals omega
   ·refine sd ?_;have h0:m.fr (il l i)=0:=og;have hS:(tE v m.fr (l.take (i+1).toNat))=(tE v m.fr (l.take i.toNat)):=by rw[hit,CA];unfold ZF;rw[if_neg og]
    have hC:nW m.fr (l.take (i+1).toNat)=nW m.fr (l.take i.toNat):=by rw[hit,PM h0]
    have hF:ef m.aS (l.take (i+1).toNat)=ef m.aS (l.take i.toNat):=by rw[hit,PN (hm.ow _ h0)]
    refine ag (i+1) ?_ ?_ (S5 rfl (by show lk _ _=some (iI (tE v m.fr (l.take (i+1).toNat)).1);rw[hS];rfl) rfl rfl rfl) fun _ hw=>by show XM _ _ [.cells kb 0 577 (dM pb (tE v m.fr (l.take (i+1).toNat)).2.iD (tE v m.fr (l.take (i+1).toNat)).2.rf),.cells pb 0 71 (bO (tE v m.fr (l.take (i+1).toNat)).2.bb.fv),.cells mb 0 34 (b6 kb p4 ((ah m.ay).flatMap (mf a n)).length c4 (nW m.fr (l.take (i+1).toNat)) (ef m.aS (l.take (i+1).toNat))),aM p4 c4 171 3 ((ah m.ay).flatMap (mf a n)).length (fa ((ah m.ay).flatMap (mf a n))),_] _;rw[hS,hC,hF];exact XM.pick (pz 5) hw
    all_goals omega
  ·have e:(l.take i.toNat)=l:=List.take_of_length_le og;rw[e];have eu:=Ju v hm hb;rw[hq]at eu;refine ca (Mm _ _ _ _ _ _ _ _ (hm.f.gH hb (.inl rfl)) (Fs (jI hm.f) hn) (Cv (jI hm.f) (oQ hm.f) hn) (by first | omega | (simp only[List.length_append,List.length_singleton];omega))) (pk [2,2]) ?_;rintro _ _ ⟨rfl,p2,c2,rfl⟩;refine gO ?_;refine bC rfl rfl rfl (ai (pk [2,2,0,0]) rfl ?_);exact⟨by rw[eu];rfl,p2,c2,by rw[eu]⟩
end Go.X.Vm

namespace Go.X.Kn
open Go Go.Proofs Go.X Go.X.Sg
set_option maxRecDepth 20000
set_option maxHeartbeats 4000000
def lF:jD Tryz.prog 3=true:=kq
def o4:fb Tryz.prog 3=some 1:=kq
def u5(kb:Nat)(k:KP)(n:Int)(hn:0<=n/\n<20):Spec Tryz.prog 58 [aA kb 0 (jM n)] [.cells kb 0 453 (aD k)] (fun v H1=>∃ c,v=aA c 0 0/\H1=[.cells c 0 11 (Sg.fm (k.u n).bx.aW),.cells kb 0 453 (aD k)]):=by
 refine Spec.go 8 [0,2,3] [] Tryz.func58 fun W=> ?_;refine lM .aa (Jp _ og) (XO.bJ (z:=.agg #[.int .u16 0,.int .u16 0,iI 0,iI 0,iI 0,iI 0,iI 0,iI 0,iI 0,iI 0,iI 0]) (m:=11) (C:=Sg.fm BS.cK) Pg ?_);intro c;refine gO ?_;refine fW .aa (SN IP _) rfl ⟨rfl,rfl⟩ (st .aa (uE _ (w':=fun _=>false) rfl) rfl (bh rfl rfl (ai (pz 2) rfl ?_)));exact⟨c,rfl,rfl⟩
def N5:ny Tryz.prog 39=true:=kq
def Bz:fb Tryz.prog 39=some 2:=kq
def Z0:ny Tryz.prog 83=true:=kq
def FT:ny Tryz.prog 87=true:=kq
def N6:c9 Tryz.prog 57=true:=kq
def FU:c9 Tryz.prog 58=true:=kq
def N7:eK Tryz.prog 89 2=some 2:=kq
def N8:eK Tryz.prog 89 4=some 4:=kq
def N9:eK Tryz.prog 89 5=some 5:=kq
def Oa:eK Tryz.prog 89 6=some 11:=kq
def Z1:jD Tryz.prog 82=true:=kq
def Ob:fb Tryz.prog 83=some 6:=kq
def qX:fb Tryz.prog 87=some 11:=kq
def qY:fb Tryz.prog 89=some 22:=kq
def oB(n g:Int)(nb:Nat)(f:Int->Int)(b:BS):∀ w,(Instr.build 89 #[(0,iI 1),(1,iI n),(2,iI g),(4,aA nb 0 0),(5,.agg (Ri f)),(6,.agg (XF b))]).run Tryz.prog w= .ok (.agg (PU.cQ ⟨1,n,g,0,aA nb 0 0,f,b⟩)) w:=fun w=>kq
end Go.X.Kn

namespace Go.X.Tr
open Go Go.X
variable{p0 p1:Nat}
structure bj.U where
 aN:Int
 n:Int
 at_:Int
 b7:Bool
 cG:Int
def bj.un(s:OS)(z:Int):bj.U:=⟨s.aN z,s.n z,s.at_ z,s.b7 z,s.cG z⟩
def bj.cell(u:bj.U)(j:Nat):Value:=
 if j=0 then iI u.aN else
 if j=1 then iI u.n else
 if j=2 then iI u.at_ else
 if j=3 then .bool u.b7 else
 if j=4 then iI u.cG else
 undef
def bj(p0 p1:Nat)(s:OS)(i:Nat):Value:=
 if i=0 then aA p0 0 0 else
 if i=1 then aA p1 0 0 else
 if i<122 then bj.cell (bj.un s (((i-2)/5:Nat):Int)) ((i-2)%5)else
 undef
def qZ(s:OS):0+0<122/\bj p0 p1 s (0+0)=aA p0 0 0:=by grind [bj]
def bj.Jg(s:OS):0+1<122/\bj p0 p1 s (0+1)=aA p1 0 0:=by grind [bj]
theorem bj.at_(s:OS)(z:Int)(h:0<=z/\z<24)(j:Nat)(hj:j<5):bj p0 p1 s (0+2+z.toNat*5+j)=bj.cell (bj.un s z) j:=by
 unfold bj;grind
theorem bj.set(s s':OS)(z:Int)(h:0<=z/\z<24)(k:Nat)(hk:k<5)(v:Value)(hv:∀ j,bj.cell (bj.un s' z) j=if j=k then v else bj.cell (bj.un s z) j)(ho:∀ y,¬y=z->bj.un s' y=bj.un s y):0+2+z.toNat*5+k<122/\dL (bj p0 p1 s) (0+2+z.toNat*5+k) v=bj p0 p1 s':=by
 refine⟨og,?_⟩;funext i;grind [dL,bj]
def bj.Sx(s s':OS)(z:Int)(h:0<=z/\z<24)(vs:List Value)(hl:vs.length=5)(hv:∀ j,j<5->vs[j]? =some (bj.cell (bj.un s' z) j))(ho:∀ y,¬y=z->bj.un s' y=bj.un s y):0+2+z.toNat*5+5<=122/\cC (bj p0 p1 s) (0+2+z.toNat*5) vs=bj p0 p1 s':=by
 refine⟨og,?_⟩;funext i;by_cases a1:i<0+2+z.toNat*5
 ·grind [iL,bj]
 ·by_cases a2:i<0+2+z.toNat*5+5
  ·obtain⟨j,rfl⟩:∃ j,i=0+2+z.toNat*5+j:=⟨i-(0+2+z.toNat*5),og⟩;rw[bj.at_ s' z h j og];simp_all[fN]
  grind [jw,bj]
def ma(s:OS)(z:Int)(h:0<=z/\z<24:=by omega):0+2+z.toNat*5+0<122/\bj p0 p1 s (0+2+z.toNat*5+0)=iI (s.aN z):=⟨og,bj.at_ s z h 0 og⟩
def pO(s:OS)(z:Int)(h:0<=z/\z<24:=by omega):0+2+z.toNat*5+1<122/\bj p0 p1 s (0+2+z.toNat*5+1)=iI (s.n z):=⟨og,bj.at_ s z h 1 og⟩
def nZ(s:OS)(z:Int)(h:0<=z/\z<24:=by omega):0+2+z.toNat*5+2<122/\bj p0 p1 s (0+2+z.toNat*5+2)=iI (s.at_ z):=⟨og,bj.at_ s z h 2 og⟩
def bj.Hq(s:OS)(z:Int)(h:0<=z/\z<24)(v:Int):0+2+z.toNat*5+2<122/\dL (bj p0 p1 s) (0+2+z.toNat*5+2) (iI v)=bj p0 p1 {s with at_:=ad s.at_ z v} :=bj.set s {s with at_:=ad s.at_ z v} z h 2 og _ (fun j=>by
 have e:bj.un {s with at_:=ad s.at_ z v} z= {bj.un s z with at_:=v} :=by unfold bj.un;simp only[aj]
 rw[e]
 by_cases hj:j=2
 ·subst hj;rfl
 ·unfold bj.cell;simp only[if_neg hj]) fun y hy=>by unfold bj.un;simp only[ae _ _ hy]
def Bb(s:OS)(z:Int)(h:0<=z/\z<24):0+2+z.toNat*5+3<122/\bj p0 p1 s (0+2+z.toNat*5+3)= .bool (s.b7 z):=⟨og,bj.at_ s z h 3 og⟩
def ke(s:OS)(z:Int)(h:0<=z/\z<24:=by omega):0+2+z.toNat*5+4<122/\bj p0 p1 s (0+2+z.toNat*5+4)=iI (s.cG z):=⟨og,bj.at_ s z h 4 og⟩
def ua(s:OS)(z:Int)(h:0<=z/\z<24)(v:Int):0+2+z.toNat*5+4<122/\dL (bj p0 p1 s) (0+2+z.toNat*5+4) (iI v)=bj p0 p1 {s with cG:=ad s.cG z v} :=bj.set s {s with cG:=ad s.cG z v} z h 4 og _ (fun j=>by
 have e:bj.un {s with cG:=ad s.cG z v} z= {bj.un s z with cG:=v} :=by unfold bj.un;simp only[aj]
 rw[e]
 by_cases hj:j=4
 ·subst hj;rfl
 ·unfold bj.cell;simp only[if_neg hj]) fun y hy=>by unfold bj.un;simp only[ae _ _ hy]
def bj.cQ(u:bj.U):Array Value:= #[iI u.aN,iI u.n,iI u.at_,.bool u.b7,iI u.cG]
def bj.K8(s:OS)(z:Int)(h:0<=z/\z<24):0+2+z.toNat*5+5<=122/\cZ (bj p0 p1 s) (0+2+z.toNat*5) 5= .agg (bj.cQ (bj.un s z)):=by
 refine⟨og,?_⟩;have q:=fun j hj=>bj.at_ (p0:=p0) (p1:=p1) s z h j hj;simp only[cZ,List.range,List.range.loop,List.map_cons,List.map_nil];rw[q 0 og,q 1 og,q 2 og,q 3 og,q 4 og];rfl
theorem bj.box(u:bj.U):∀ i,i<5->cellsOf (bj.cQ u) i=bj.cell u i:=fun i h=>match i,h with
 | 0,_=>rfl
 | 1,_=>rfl
 | 2,_=>rfl
 | 3,_=>rfl
 | 4,_=>rfl
 | j+5,h=>absurd h og
def UO(u0 u:bj.U):0+5<=5/\cC (bj.cell u0) 0 (bj.cQ u).toList=bj.cell u:=by
 refine⟨og,?_⟩;funext i;match i with
 | 0=>rfl
 | 1=>rfl
 | 2=>rfl
 | 3=>rfl
 | 4=>rfl
 | k+5=>
  have e1:∀ u:bj.U,bj.cell u (k+5)=undef:=fun u=>by unfold bj.cell;iterate 5 rw[if_neg og]
  have e2:cC (bj.cell u0) 0 (bj.cQ u).toList (k+5)=bj.cell u0 (k+5):=by simp[cC,dL,bj.cQ]
  rw[e2,e1,e1]
def J9(u:bj.U):0+0<5/\bj.cell u (0+0)=iI u.aN:=⟨og,rfl⟩
def Ka(u:bj.U):0+1<5/\bj.cell u (0+1)=iI u.n:=⟨og,rfl⟩
theorem bj.put(s:OS)(z k n:Int)(w:Bool)(r:Int)(h:0<=z/\z<24):0+2+z.toNat*5+5<=122/\cC (bj p0 p1 s) (0+2+z.toNat*5) (bj.cQ ⟨k,n,0,w,r⟩).toList=bj p0 p1 ⟨ad s.aN z k,ad s.n z n,ad s.at_ z 0,ad s.cG z r,ad s.b7 z w⟩:=
 bj.Sx s ⟨ad s.aN z k,ad s.n z n,ad s.at_ z 0,ad s.cG z r,ad s.b7 z w⟩ z h _ rfl (fun j hj=>by
  have e:bj.un ⟨ad s.aN z k,ad s.n z n,ad s.at_ z 0,ad s.cG z r,ad s.b7 z w⟩ z=⟨k,n,0,w,r⟩:=by unfold bj.un;simp only[aj]
  rw[e]
  match j,hj with
  | 0,_=>rfl
  | 1,_=>rfl
  | 2,_=>rfl
  | 3,_=>rfl
  | 4,_=>rfl
  | j+5,h=>exact absurd h og) fun y hy=>by unfold bj.un;simp only[ae _ _ hy]
end Go.X.Tr


namespace Go.Proofs
open Go.Shelf
def Dp:Go.Shelf.Ren:=⟨fun | 26=>249 | 33=>266 | 34=>267 | 38=>280 | n=>n,fun | 24=>207 | 9=>9 | 3=>3 | 4=>4 | 40=>258 | 0=>0 | n=>n,fun | n=>n⟩
def Mn:Go.Proofs.Lays2.n26 Tryz.prog Dp:= {
 mixed:=by kernel_rfl
 f26:=Tryz.func249.trans (congrArg some (by kernel_rfl))
 f33:=Tryz.func266.trans (congrArg some (by kernel_rfl))
 f34:=Tryz.func267.trans (congrArg some (by kernel_rfl))
 f38:=Tryz.func280.trans (congrArg some (by kernel_rfl))
 t0:=Tryz.underlying0
 a0:=Tryz.isAgg0
 z0:=Tryz.sizeOf0
 v0:=Tryz.zeroValue0
 t3:=Tryz.underlying3
 a3:=Tryz.isAgg3
 z3:=Tryz.sizeOf3
 v3:=Tryz.zeroValue3
 t4:=Tryz.underlying4
 a4:=Tryz.isAgg4
 z4:=Tryz.sizeOf4
 v4:=Tryz.zeroValue4
 t9:=Tryz.underlying9
 a9:=Tryz.isAgg9
 z9:=Tryz.sizeOf9
 v9:=Tryz.zeroValue9
 t24:=Tryz.underlying207
 a24:=Tryz.isAgg207
 z24:=Tryz.sizeOf207
 v24:=Tryz.zeroValue207
 t40:=Tryz.underlying258
 a40:=Tryz.isAgg258
 z40:=Tryz.sizeOf258
 v40:=Tryz.zeroValue258}
def Dq:Go.Shelf.Ren:=⟨fun | 22=>250 | 29=>268 | 30=>269 | 36=>281 | 17=>288 | n=>n,fun | 24=>207 | 9=>9 | 3=>3 | 4=>4 | 0=>0 | n=>n,fun | n=>n⟩
def Mo:Go.Proofs.Lays2.n22 Tryz.prog Dq:= {
 mixed:=by kernel_rfl
 f17:=Tryz.func288.trans (congrArg some (by kernel_rfl))
 f22:=Tryz.func250.trans (congrArg some (by kernel_rfl))
 f29:=Tryz.func268.trans (congrArg some (by kernel_rfl))
 f30:=Tryz.func269.trans (congrArg some (by kernel_rfl))
 f36:=Tryz.func281.trans (congrArg some (by kernel_rfl))
 t0:=Tryz.underlying0
 a0:=Tryz.isAgg0
 z0:=Tryz.sizeOf0
 v0:=Tryz.zeroValue0
 t3:=Tryz.underlying3
 a3:=Tryz.isAgg3
 z3:=Tryz.sizeOf3
 v3:=Tryz.zeroValue3
 t4:=Tryz.underlying4
 a4:=Tryz.isAgg4
 z4:=Tryz.sizeOf4
 v4:=Tryz.zeroValue4
 t9:=Tryz.underlying9
 a9:=Tryz.isAgg9
 z9:=Tryz.sizeOf9
 v9:=Tryz.zeroValue9
 t24:=Tryz.underlying207
 a24:=Tryz.isAgg207
 z24:=Tryz.sizeOf207
 v24:=Tryz.zeroValue207
 i9:=by kernel_rfl}
def Dr:Go.Shelf.Ren:=⟨fun | 21=>251 | 27=>270 | 28=>271 | 35=>282 | 39=>289 | n=>n,fun | 22=>55 | 3=>3 | 4=>4 | 0=>0 | n=>n,fun | n=>n⟩
def Mp:Go.Proofs.Lays2.n21 Tryz.prog Dr:= {
 mixed:=by kernel_rfl
 f21:=Tryz.func251.trans (congrArg some (by kernel_rfl))
 f27:=Tryz.func270.trans (congrArg some (by kernel_rfl))
 f28:=Tryz.func271.trans (congrArg some (by kernel_rfl))
 f35:=Tryz.func282.trans (congrArg some (by kernel_rfl))
 f39:=Tryz.func289.trans (congrArg some (by kernel_rfl))
 t0:=Tryz.underlying0
 a0:=Tryz.isAgg0
 z0:=Tryz.sizeOf0
 v0:=Tryz.zeroValue0
 t3:=Tryz.underlying3
 a3:=Tryz.isAgg3
 z3:=Tryz.sizeOf3
 v3:=Tryz.zeroValue3
 t4:=Tryz.underlying4
 a4:=Tryz.isAgg4
 z4:=Tryz.sizeOf4
 v4:=Tryz.zeroValue4
 t22:=Tryz.underlying55
 a22:=Tryz.isAgg55
 z22:=Tryz.sizeOf55
 v22:=Tryz.zeroValue55
 i3:=by kernel_rfl}
def Ds:Go.Shelf.Ren:=⟨fun | 24=>252 | n=>n,fun | 24=>207 | 9=>9 | 3=>3 | 4=>4 | 0=>0 | n=>n,fun | n=>n⟩
def Mq:Go.Proofs.Lays2.n24 Tryz.prog Ds:= {
 mixed:=by kernel_rfl
 f24:=Tryz.func252.trans (congrArg some (by kernel_rfl))
 t0:=Tryz.underlying0
 a0:=Tryz.isAgg0
 z0:=Tryz.sizeOf0
 v0:=Tryz.zeroValue0
 t3:=Tryz.underlying3
 a3:=Tryz.isAgg3
 z3:=Tryz.sizeOf3
 v3:=Tryz.zeroValue3
 t4:=Tryz.underlying4
 a4:=Tryz.isAgg4
 z4:=Tryz.sizeOf4
 v4:=Tryz.zeroValue4
 t9:=Tryz.underlying9
 a9:=Tryz.isAgg9
 z9:=Tryz.sizeOf9
 v9:=Tryz.zeroValue9
 t24:=Tryz.underlying207
 a24:=Tryz.isAgg207
 z24:=Tryz.sizeOf207
 v24:=Tryz.zeroValue207
 i9:=by kernel_rfl}
def Dt:Go.Shelf.Ren:=⟨fun | 23=>253 | n=>n,fun | 22=>55 | 3=>3 | 4=>4 | 0=>0 | n=>n,fun | n=>n⟩
def Mr:Go.Proofs.Lays2.n23 Tryz.prog Dt:= {
 mixed:=by kernel_rfl
 f23:=Tryz.func253.trans (congrArg some (by kernel_rfl))
 t0:=Tryz.underlying0
 a0:=Tryz.isAgg0
 z0:=Tryz.sizeOf0
 v0:=Tryz.zeroValue0
 t3:=Tryz.underlying3
 a3:=Tryz.isAgg3
 z3:=Tryz.sizeOf3
 v3:=Tryz.zeroValue3
 t4:=Tryz.underlying4
 a4:=Tryz.isAgg4
 z4:=Tryz.sizeOf4
 v4:=Tryz.zeroValue4
 t22:=Tryz.underlying55
 a22:=Tryz.isAgg55
 z22:=Tryz.sizeOf55
 v22:=Tryz.zeroValue55
 i3:=by kernel_rfl}
def EG:Go.Shelf.Ren:=⟨fun | 16=>240 | n=>n,fun | 24=>207 | 9=>9 | 4=>4 | n=>n,fun | n=>n⟩
def Qx:Go.Proofs.Lays2.n16 Tryz.prog EG:= {
 mixed:=by kernel_rfl
 f16:=Tryz.func240.trans (congrArg some (by kernel_rfl))
 t4:=Tryz.underlying4
 a4:=Tryz.isAgg4
 z4:=Tryz.sizeOf4
 v4:=Tryz.zeroValue4
 t9:=Tryz.underlying9
 a9:=Tryz.isAgg9
 z9:=Tryz.sizeOf9
 v9:=Tryz.zeroValue9
 t24:=Tryz.underlying207
 a24:=Tryz.isAgg207
 z24:=Tryz.sizeOf207
 v24:=Tryz.zeroValue207
 i9:=by kernel_rfl}
end Go.Proofs
